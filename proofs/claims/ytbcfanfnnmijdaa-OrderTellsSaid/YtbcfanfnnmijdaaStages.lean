/- What slices.Max and order.Stages give; of Max at least one element is asked, of Stages that the argument reads as systems. -/
import Derived.Test.YtbcfanfnnmijdaaLevels
namespace Go.Proofs.Ytbcfanfnnmijdaa
open Go.RowKit

/-- m is an element of xs, and the greatest -/
def IsMax (xs : List Int) (m : Int) : Prop := m ∈ xs ∧ ∀ x ∈ xs, x ≤ m

set_option maxHeartbeats 400000 in
theorem max_any (xs : List Int) (v : Value) (w : World) (hS : Ints w xs v) (hl : 0 < xs.length) :
    Calls Try.prog 35 #[v] w fun e w' => ∃ m, e = .returned (.int .i64 m) ∧ IsMax xs m ∧ w = w' := by
  obtain ⟨a, cap, rfl, hlc, hcm⟩ := hS.form
  obtain ⟨b, off, rfl, hbw, hc⟩ := hS.at hl
  have c0 := hc 0 hl
  rw [Nat.add_zero] at c0
  have hl1 : (0 : Int) < xs.length := by omega
  have hl2 : ¬ (xs.length : Int) < 1 := by omega
  clear hS
  have Hc := Lib.hid hc
  clear hc
  go_enter Try.func35, Try.ntmps35
  go_wp2
  go_loop [3, 4, 12, 13, 14, 15, 16, 17, 18, 19, 20, 21, 22, 23] (fun t3 t4 _ _ _ _ _ _ _ _ _ _ _ _ => ∃ (k : Nat) (m : Int), 1 ≤ k ∧ k ≤ xs.length ∧ t4 = .int .i64 k ∧ t3 = .int .i64 m ∧ m ∈ xs ∧ ∀ (i : Nat) (h : i < xs.length), i < k → xs[i] ≤ m) (fun t3 t4 _ _ _ _ _ _ _ _ _ _ _ _ => xs.length - (intOf t4).toNat)
  case atStart =>
    refine ⟨1, _, by omega, by omega, rfl, rfl, List.getElem_mem hl, fun i h hi => ?_⟩
    obtain rfl : i = 0 := by omega
    exact Int.le_refl _
  case round =>
    obtain ⟨k, m, hk1, hk, rfl, rfl, hm, hle⟩ := hrel
    have Hle := Lib.hid hle
    have Hm := Lib.hid hm
    clear hle hm
    by_cases hlt : k < xs.length
    · have ck := Hc.out k hlt
      go_wp2
      go_round
      case rel =>
        refine ⟨k + 1, max m xs[k], by omega, by omega, by go_num, ?_, ?_, fun i h hi => ?_⟩
        · congr 1; split <;> omega
        · by_cases e : xs[k] ≤ m
          · rw [Int.max_eq_left e]; exact Hm.out
          · rw [Int.max_eq_right (by omega)]; exact List.getElem_mem hlt
        · by_cases e : i = k
          · subst e; omega
          · have := Hle.out i h (by omega); omega
      case measure => simp [intOf]; omega
    · have e : k = xs.length := by omega
      subst e
      go_wp2
      go_ret
      exact ⟨m, rfl, ⟨Hm.out, fun x hx => by obtain ⟨i, hi, rfl⟩ := List.getElem_of_mem hx; exact Hle.out i hi hi⟩, rfl⟩

theorem stages1_any (i pl ps : Nat) (xs : List Int) (lv : Value) (s : Int) (w : World) (hi : i < xs.length) (h1 : w.cell? ⟨pl, 0, none⟩ = some lv) (hS : Ints w xs lv) (h3 : w.cell? ⟨ps, 0, none⟩ = some (.int .i64 s)) :
    Calls Try.prog 36 #[.int .i64 i, .pointer (some ⟨pl, 0, none⟩), .pointer (some ⟨ps, 0, none⟩)] w fun e w' => e = .returned (.bool (xs.getD i 0 == s)) ∧ Below w.heap.size w w' := by
  obtain ⟨a, cap, rfl, hlc, hcm⟩ := hS.form
  obtain ⟨b, off, rfl, hbw, hc⟩ := hS.at hi
  have c0 := hc i hi
  have hx : xs.getD i 0 = xs[i] := by simp [hi]
  have Hx := Lib.hid hx
  have hl1 : (i : Int) < xs.length := by omega
  have hl2 : (0 : Int) ≤ i := by omega
  clear hS hc hx
  go_enter Try.func36, Try.ntmps36
  go_wp2
  go_region
  all_goals
    go_wp2
    go_ret
    rw [Hx.out]
    exact ⟨rfl, (Below.refl _ _).drew⟩

theorem RowsI.toNone {w : World} {row : Option Nat} {xss : List (List Int)} {vs : List Value} (h : RowsI w row xss vs) : RowsI w none xss vs := by
  refine ⟨h.1, fun i u xs h1 h2 => ⟨(h.2 i u xs h1 h2).1, ?_⟩⟩
  by_cases hx : xs.length = 0
  · exact .inl hx
  · obtain ⟨a, cap, rfl, _, _, _, h5⟩ := (h.2 i u xs h1 h2).1
    obtain ⟨b, off, rfl, _⟩ := h5 (by omega)
    exact .inr (by simp [Value.ownBlock])
/-- the rows of the first stages -/
def rowsOf (len : Nat) (xs : List Int) (n : Nat) : List (List Int) := (List.range n).map fun s : Nat => pick (fun i => xs.getD i 0 == (s : Int)) len
/-- what Stages returns for a valid list -/
def StagesOk (l : List Sys) (xss : List (List Int)) : Prop := (l = [] ∧ xss = []) ∨ ∃ xs m, xs.length = l.length ∧ IsLev l l.length xs ∧ IsMax xs m ∧ xss = rowsOf l.length xs (m + 1).toNat
theorem info_ints : (Try.prog.info? 27).map (fun i => (i.zero, i.size, i.bytes)) = some (some (.slice none 0 0), 1, 24) := by kernel_rfl
theorem rowsOf_succ (len : Nat) (xs : List Int) (n : Nat) : rowsOf len xs (n + 1) = rowsOf len xs n ++ [pick (fun i => xs.getD i 0 == (n : Int)) len] := by
  simp [rowsOf, List.range_succ]
theorem rowsOf_len (len : Nat) (xs : List Int) (n : Nat) : (rowsOf len xs n).length = n := by simp [rowsOf]
theorem lev_bound {l : List Sys} {xs : List Int} {m : Int} (hx : xs.length = l.length) (h : IsLev l l.length xs) (hm : IsMax xs m) : 0 ≤ m ∧ m < l.length := by
  obtain ⟨i, hi, e⟩ := List.getElem_of_mem hm.1
  have h1 := h i (by omega)
  have h2 := h1.2
  have h3 := h1.1.2.2
  rw [List.getD_eq_getElem?_getD, List.getElem?_eq_getElem hi, e] at h2 h3
  simp at h2 h3
  omega

set_option maxHeartbeats 400000 in
theorem stages_any (l : List Sys) (v : Value) (w : World) (hS : Syss w l v) (hok : ∀ s ∈ l, s.ok) :
    Calls Try.prog 17 #[v] w fun e w' => ∃ r c xss, e = .returned (.tuple #[r, .int .i64 c]) ∧ Rows2 w' xss r ∧ Below w.heap.size w w' ∧
      ((validS l = false ∧ c = 2 ∧ xss = []) ∨ (validS l = true ∧ c = 0 ∧ StagesOk l xss)) := by
  have hV := valid_any l v w hS hok
  obtain ⟨a, cap, rfl, hlc, hcm⟩ := hS.form
  have HV := Lib.hid hV
  have HS := Lib.hid hS
  clear hV hS hok
  by_cases hv : validS l = true
  case neg =>
    rw [Bool.not_eq_true] at hv
    rw [hv] at HV
    have Hv := Lib.hid hv
    clear hv
    go_enter Try.func17, Try.ntmps17
    go_wp2_with (go_at_call 11; refine HV.out.mono ?_; rintro e w1 ⟨rfl, hb1⟩)
    go_ret2
    exact ⟨_, _, [], rfl, ⟨[], Sl.nil _ _, RowsI.nil _ _⟩, hb1, .inl ⟨Hv.out, rfl, rfl⟩⟩
  rw [hv] at HV
  have hl16 : l.length ≤ 16 := valid_len hv
  have Hv := Lib.hid hv
  clear hv
  by_cases h0 : l.length = 0
  · have h1 : ((l.length : Int) == 0) = true := by simp [h0]
    have H0 := Lib.hid h0
    clear h0
    go_enter Try.func17, Try.ntmps17
    go_wp2_with (go_at_call 11; refine HV.out.mono ?_; rintro e w1 ⟨rfl, hb1⟩)
    go_ret2
    exact ⟨_, _, [], rfl, ⟨[], Sl.nil _ _, RowsI.nil _ _⟩, hb1, .inr ⟨Hv.out, rfl, .inl ⟨List.eq_nil_of_length_eq_zero H0.out, rfl⟩⟩⟩
  have h1 : ((l.length : Int) == 0) = false := by simp; intro h; subst h; exact h0 rfl
  have h2 : 0 < l.length := by omega
  clear h0
  go_enter Try.func17, Try.ntmps17
  go_wp2_with (first | (go_at_call 11; refine HV.out.mono ?_; rintro e w1 ⟨rfl, hb1⟩) | (go_at_call 34; refine (levels_any l _ _ (Syss.below HS.out hb1 (Nat.le_refl _)) (by omega)).mono ?_; rintro e w2 ⟨lv, xs, rfl, hlen, hlev, hown, hb2⟩; obtain ⟨la, lcap, rfl, _, _⟩ := (Ints.of_own hown).form; have Hlen := Lib.hid hlen; clear hlen) | (go_at_call 35; refine (max_any xs _ _ (by exact (Ints.of_own hown).below (Below.alloc (Below.refl _ _) (Nat.le_refl _) _) (Nat.le_refl _)) (by have := Hlen.out; omega)).mono ?_; rintro e w3 ⟨m, rfl, hmax, rfl⟩; obtain ⟨hm0, hm1⟩ := lev_bound Hlen.out hlev hmax))
  obtain ⟨M, rfl⟩ := Int.eq_ofNat_of_zero_le hm0
  have hM : M < l.length := by omega
  have hb3 : Below w.heap.size w w2 := hb1.trans (hb2.mono hb1.size)
  have hI : Ints w2 xs (.slice la xs.length lcap) := Ints.of_own hown
  clear hown hb2 hb1 hm0 hm1
  have hcell0 : (w2.alloc (.cells #[.slice la xs.length lcap] 27)).cell? ⟨w2.heap.size, 0, none⟩ = some (.slice la xs.length lcap) := by simp
  have hI0 : Ints (w2.alloc (.cells #[.slice la xs.length lcap] 27)) xs (.slice la xs.length lcap) := hI.below (Below.alloc (Below.refl _ _) (Nat.le_refl _) _) (Nat.le_refl _)
  have hb4 : Below w.heap.size w (w2.alloc (.cells #[.slice la xs.length lcap] 27)) := hb3.alloc hb3.size _
  have hsz : (w2.alloc (.cells #[.slice la xs.length lcap] 27)).heap.size = w2.heap.size + 1 := by simp
  generalize hwb : w2.alloc (.cells #[.slice la xs.length lcap] 27) = wb at *
  clear hwb hb3 hI
  have hsz0 : w.heap.size ≤ w2.heap.size + 1 := by have := hb4.size; omega
  go_loopw [5, 6, 18, 19, 20, 21, 22, 23, 24, 25, 26, 27, 28] (fun t5 _ t18 _ _ _ _ _ _ _ _ _ _ wr => ∃ (k : Nat) (vs : List Value), k ≤ M + 1 ∧ t18 = .int .i64 k ∧ wr.ownsRow (w2.heap.size + 1) 27 1 t5 k vs ∧ RowsI wr t5.ownBlock (rowsOf l.length xs k) vs ∧ Below (w2.heap.size + 1) wb wr) (fun t5 _ t18 _ _ _ _ _ _ _ _ _ _ _ => M + 1 - (intOf t18).toNat)
  case atStart => exact ⟨0, [], by omega, rfl, World.ownsRow_nil _ _ _ _, RowsI.nil _ _, Below.refl _ _⟩
  case round =>
    obtain ⟨k, vs, hk, rfl, hown, hrows, hb⟩ := hrel
    have hb0 : Below w.heap.size w wr := hb4.trans (hb.mono hsz0)
    have hwr : w2.heap.size + 1 ≤ wr.heap.size := by have := hb.size; omega
    by_cases hlt : k < M + 1
    · have hcell : wr.cell? ⟨w2.heap.size, 0, none⟩ = some (.slice la xs.length lcap) := by rw [hb.cell (by show w2.heap.size < _; omega)]; exact hcell0
      have hxs : Ints wr xs (.slice la xs.length lcap) := hI0.below hb (by omega)
      have Hsz := Lib.hid hsz
      clear hsz hI0 hcell0
      go_wp2_with fail
      refine (where_any l.length (by omega) _ _ (fun i => xs.getD i 0 == (k : Int)) _ (fun w1 => w1.cell? ⟨w2.heap.size, 0, none⟩ = some (.slice la xs.length lcap) ∧ Ints w1 xs (.slice la xs.length lcap) ∧ w1.cell? ⟨wr.heap.size, 0, none⟩ = some (.int .i64 (k : Int))) Try.call36 ⟨?_, hxs.below (Below.alloc (Below.refl _ _) (Nat.le_refl _) _) (Nat.le_refl _), by simp⟩ (fun w1 w2 h hb => ⟨Below.keep hb h.1, h.2.1.below hb (Nat.le_refl _), Below.keep hb h.2.2⟩) (fun i w1 hi hI => ?_)).mono ?_
      · rw [World.cell?_alloc_lt _ _ _ (World.block_lt_of_cell? wr _ hcell)]; exact hcell
      · exact stages1_any i w2.heap.size wr.heap.size xs _ k w1 (by have := Hlen.out; omega) hI.1 hI.2.1 hI.2.2
      · rintro e w3 ⟨v, rfl, hown3, hb5⟩
        have hI3 : Ints w3 (pick (fun i => xs.getD i 0 == (k : Int)) l.length) v := Ints.of_own hown3
        have hlt3 := hown3.lt
        have hb6 : Below wr.heap.size wr w3 := ((Below.refl _ _).alloc (Nat.le_refl _) _).trans (hb5.mono (by simp))
        have hs3 : wr.heap.size + 1 ≤ w3.heap.size := by have := hb5.size; simpa using this
        have hrows3 := hrows.below hb6 (Nat.le_refl _)
        have hown4 := own_below hown hb6 (Nat.le_refl _)
        have hu : ∀ g, u5.ownBlock = some g → g < wr.heap.size := fun g hg => (hown.lt g hg).2
        clear hown3 hrows hown hb5
        obtain ⟨ra, rcap, rfl, _, _⟩ := hI3.form
        go_wp2_with (at_builtin; refine wpList_append_at rfl _ _ 40 rfl hown4 info_ints Try.underlying40 rfl (by decide) rfl 1 1 rfl rfl rfl (by unfold maxLen; omega) (by omega) (by omega) ?_; intro v' w4 hown5 hg5 hb7 hat5)
        have hne : (pick (fun i => xs.getD i 0 == (k : Int)) l.length).length = 0 ∨ Value.ownBlock (.slice ra (pick (fun i => xs.getD i 0 == (k : Int)) l.length).length rcap) ≠ u5.ownBlock := by
          by_cases h0 : (pick (fun i => xs.getD i 0 == (k : Int)) l.length).length = 0
          · exact .inl h0
          · refine .inr fun e => ?_
            obtain ⟨b, off, rfl, _, _⟩ := hI3.at (k := 0) (by omega)
            have h3 := (hlt3 b rfl).1
            have h4 := hu b e.symm
            simp at h3
            omega
        have r3 := hrows3.push hI3 hne
        have r4 := (hrows3.grown hg5).push (Sl.grown hI3 hg5 hne) hne
        have r5 := r3.turn r4 hat5
        go_roundw
        case rel => exact ⟨k + 1, _, by omega, by go_num, hown5, by rw [rowsOf_succ]; exact r5, (hb.trans (hb6.mono hwr)).trans hb7⟩
        case measure => simp [intOf]; omega
    · have e : k = M + 1 := by omega
      subst e
      go_wp2
      go_ret2
      refine ⟨_, _, _, rfl, ⟨vs, ?_, hrows.toNone⟩, hb0, .inr ⟨Hv.out, rfl, .inr ⟨xs, M, Hlen.out, hlev, hmax, rfl⟩⟩⟩
      show Sl wr 1 (rowsOf l.length xs (M + 1)).length vs _
      rw [rowsOf_len]; exact Sl.of_own hown
end Go.Proofs.Ytbcfanfnnmijdaa
