/- The reference's at and Needs, walked. No condition but that the arguments read so. -/
import Derived.Test.YtbcfanfnnmijdaaRConf
import Derived.Test.YtbcfanfnnmijdaaNeedsF
namespace Go.Proofs.Ytbcfanfnnmijdaa
open Go.RowKit

/-- the place of x in a list whose first place is k, or -1 -/
def atR : List Int → Int → Nat → Int
  | [], _, _ => -1
  | y :: ys, x, k => if y = x then (k : Int) else atR ys x (k + 1)
def atI (xs : List Int) (x : Int) : Int := atR xs x 0
theorem atR_no : ∀ (xs : List Int) (x : Int) (k : Nat), x ∉ xs → atR xs x k = -1
  | [], _, _, _ => rfl
  | y :: ys, x, k, h => by
    rw [atR, if_neg (fun e => h (by rw [e]; exact List.mem_cons_self ..)), atR_no ys x (k + 1) (fun e => h (List.mem_cons_of_mem _ e))]
theorem atR_yes : ∀ (xs : List Int) (x : Int) (k : Nat), x ∈ xs → ∃ (i : Nat) (h : i < xs.length), atR xs x k = ((k + i : Nat) : Int) ∧ xs[i] = x ∧ x ∉ xs.take i
  | [], _, _, h => by cases h
  | y :: ys, x, k, h => by
    by_cases e : y = x
    · exact ⟨0, by simp, by rw [atR, if_pos e]; simp, by simpa using e, by simp⟩
    · have hm : x ∈ ys := by
        rcases List.mem_cons.1 h with h | h
        · exact absurd h.symm e
        · exact h
      obtain ⟨i, hi, h1, h2, h3⟩ := atR_yes ys x (k + 1) hm
      refine ⟨i + 1, by simpa using hi, by rw [atR, if_neg e, h1]; congr 1; omega, by simpa using h2, ?_⟩
      rw [List.take_succ_cons, List.mem_cons]
      rintro (h | h)
      · exact e h.symm
      · exact h3 h
theorem atI_of {xs : List Int} {x : Int} {k : Nat} (hk : k < xs.length) (h : xs[k] = x) (hn : x ∉ xs.take k) : atI xs x = k := by
  obtain ⟨i, hi, h1, h2, h3⟩ := atR_yes xs x 0 (by rw [← h]; exact List.getElem_mem hk)
  unfold atI
  rw [h1, Nat.zero_add]
  rcases Nat.lt_trichotomy i k with hlt | rfl | hlt
  · exact absurd (List.mem_take_iff_getElem.2 ⟨i, by omega, h2⟩) hn
  · rfl
  · exact absurd (List.mem_take_iff_getElem.2 ⟨k, by omega, h⟩) h3
theorem atI_neg {xs : List Int} {x : Int} : atI xs x < 0 ↔ x ∉ xs := by
  unfold atI
  constructor
  · intro h hm
    obtain ⟨i, _, h1, _⟩ := atR_yes xs x 0 hm
    omega
  · intro h; rw [atR_no xs x 0 h]; omega
theorem atI_pos {xs : List Int} {x : Int} : 0 ≤ atI xs x ↔ x ∈ xs := by
  have := @atI_neg xs x
  constructor
  · intro h; exact Classical.byContradiction fun hn => by have := this.2 hn; omega
  · intro h; exact Classical.byContradiction fun hn => this.1 (by omega) h
theorem atI_lt (xs : List Int) (x : Int) : -1 ≤ atI xs x ∧ atI xs x < xs.length + 1 := by
  unfold atI
  by_cases h : x ∈ xs
  · obtain ⟨i, hi, h1, _⟩ := atR_yes xs x 0 h; omega
  · rw [atR_no xs x 0 h]; omega

theorem at_any (xs : List Int) (x : Int) (v : Value) (w : World) (hS : Ints w xs v) :
    Calls Try.prog 38 #[v, .int .i64 x] w fun e w' => e = .returned (.int .i64 (atI xs x)) ∧ w = w' := by
  obtain ⟨a, cap, rfl, hlc, hcm⟩ := hS.form
  have HS := Lib.hid hS
  clear hS
  go_enter Try.func38, Try.ntmps38
  go_wp2
  go_loopw [4, 5, 6, 7, 8, 9, 10, 11, 12, 13, 14, 15, 16, 17, 18] (fun _ t5 _ _ _ _ _ _ _ _ _ _ _ _ _ wr => ∃ k : Nat, k ≤ xs.length ∧ t5 = .int .i64 k ∧ x ∉ xs.take k ∧ wr = w) (fun _ t5 _ _ _ _ _ _ _ _ _ _ _ _ _ _ => xs.length - (intOf t5).toNat)
  case atStart => exact ⟨0, by omega, rfl, by simp, rfl⟩
  case round =>
    obtain ⟨k, hk, rfl, hno, rfl⟩ := hrel
    have Hno := Lib.hid hno
    clear hno
    by_cases hlt : k < xs.length
    · obtain ⟨b, off, rfl, hbw, hc⟩ := HS.out.at hlt
      have ck := hc k hlt
      clear hc
      by_cases he : xs[k] = x
      · have h1 : (xs[k] == x) = true := by simpa using he
        have He := Lib.hid he
        clear he
        go_wp2
        go_ret
        exact ⟨by rw [atI_of hlt He.out Hno.out]; rfl, rfl⟩
      · have h1 : (xs[k] == x) = false := by simpa using he
        have He := Lib.hid he
        clear he
        go_wp2
        go_round
        case rel =>
          refine ⟨k + 1, by omega, by go_num, ?_, by first | rfl | trivial⟩
          rw [List.take_succ_eq_append_getElem hlt, List.mem_append, List.mem_singleton]
          exact fun h => h.elim Hno.out (fun e => He.out e.symm)
        case measure => simp [intOf]; omega
    · have e : k = xs.length := by omega
      subst e
      have hno := Hno.out
      rw [List.take_length] at hno
      have Hno2 := Lib.hid hno
      clear hno
      go_wp2
      go_ret
      exact ⟨by rw [atI, atR_no xs x 0 Hno2.out]; rfl, rfl⟩
theorem refConflict_as {a b : Sys} {x : Bool} (h : conf a b = x) (w : World) : Calls Try.prog 21 #[a.val, b.val] w fun e w' => e = .returned (.bool x) ∧ Below w.heap.size w w' := by
  subst h; exact refConflict_any a b w
set_option maxHeartbeats 400000 in
theorem refNeeds_own (l : List Sys) (v : Value) (i : Nat) (w : World) (hS : Syss w l v) (hi : i < l.length) (hl : l.length ≤ 1000000) :
    Calls Try.prog 24 #[v, .int .i64 i] w fun e w' => ∃ r, e = .returned r ∧ w'.ownsRow w.heap.size 3 1 r (pick (fun k => cfl l k i) i).length ((pick (fun k => cfl l k i) i).map (Value.int .i64)) ∧ Below w.heap.size w w' := by
  obtain ⟨a, cap, rfl, hlc, hcm⟩ := hS.form
  obtain ⟨sb, soff, rfl, _, _⟩ := hS.at hi
  have HS := Lib.hid hS
  clear hS
  go_enter Try.func24, Try.ntmps24
  go_wp2
  go_loopw [5, 6, 7, 8, 9, 10, 11, 12, 13, 14, 15, 16, 17, 18, 19, 20, 21, 22, 23, 24] (fun t5 t6 _ _ _ _ _ _ _ _ _ _ _ _ _ _ _ _ _ _ wr => ∃ k : Nat, k ≤ i ∧ t6 = .int .i64 k ∧ wr.ownsRow w.heap.size 3 1 t5 (pick (fun k => cfl l k i) k).length ((pick (fun k => cfl l k i) k).map (Value.int .i64)) ∧ Below w.heap.size w wr) (fun _ t6 _ _ _ _ _ _ _ _ _ _ _ _ _ _ _ _ _ _ _ => i - (intOf t6).toNat)
  case atStart => exact ⟨0, by omega, rfl, World.ownsRow_nil _ _ _ _, Below.refl _ _⟩
  case round =>
    obtain ⟨k, hk, rfl, hown, hb⟩ := hrel
    by_cases hlt : k < i
    · obtain ⟨b2, off2, he2, _, hsc⟩ := (HS.out.below hb (Nat.le_refl _)).at hi
      cases he2
      obtain ⟨a0, a1, a2, a3⟩ := hsc k (by omega)
      obtain ⟨b0, b1, b2, b3⟩ := hsc i hi
      have hp := pick_len (fun k => cfl l k i) k
      have hps := pick_succ (fun k => cfl l k i) k
      have hk1 : (k : Int) < l.length := by omega
      have hi1 : (i : Int) < l.length := by omega
      have hkl : k < l.length := by omega
      have Hown := Lib.hid hown
      have Hb := Lib.hid hb
      have hsz : w.heap.size ≤ wr.heap.size := hb.size
      have hcf : cfl l k i = conf (l[k]'hkl) (l[i]'hi) := cfl_eq hkl hi
      cases hy : conf (l[k]'hkl) (l[i]'hi)
      · have HC := Lib.hid (refConflict_as hy)
        rw [hcf, hy] at hps
        have Hps := Lib.hid hps
        clear hy hcf hps hown hb hsc
        go_wp2
        refine wp_region_seq (fun w' => Below wr.heap.size wr w') (by kernel_rfl) (by kernel_rfl) ((Below.refl _ _).drew) ?_
        repeat
          try simp only [Act.put, List.setIfInBounds_toArray, List.set_cons_succ, List.set_cons_zero]
          apply stepsSeq.cons
          · intro w' hb1
            have Hb1' := Lib.hid hb1
            have a0' := Below.keep hb1 a0
            have a1' := Below.keep hb1 a1
            have a2' := Below.keep hb1 a2
            have a3' := Below.keep hb1 a3
            have b0' := Below.keep hb1 b0
            have b1' := Below.keep hb1 b1
            have b2' := Below.keep hb1 b2
            have b3' := Below.keep hb1 b3
            simp only [Act.put, List.setIfInBounds_toArray, List.set_cons_succ, List.set_cons_zero]
            go_wp2_with (go_at_call 21; refine (HC.out _).mono ?_; rintro e w3 ⟨rfl, hb2⟩)
            first | exact ⟨rfl, Hb1'.out⟩ | exact ⟨rfl, Hb1'.out.trans (hb2.mono Hb1'.out.size)⟩
        try simp only [Act.put, List.setIfInBounds_toArray, List.set_cons_succ, List.set_cons_zero]
        refine stepsSeq.nil ?_
        intro w' hb1
        have hown2 := own_below Hown.out hb1 (Nat.le_refl _)
        have hb02 := Hb.out.trans (hb1.mono hsz)
        clear a0 a1 a2 a3 b0 b1 b2 b3 hb1
        go_wp2
        go_roundw
        case rel => exact ⟨k + 1, by omega, by go_num, by rw [Hps.out]; simpa using hown2, hb02⟩
        case measure => simp [intOf]; omega
      · have HC := Lib.hid (refConflict_as hy)
        rw [hcf, hy] at hps
        have Hps := Lib.hid hps
        clear hy hcf hps hown hb hsc
        go_wp2
        refine wp_region_seq (fun w' => Below wr.heap.size wr w') (by kernel_rfl) (by kernel_rfl) ((Below.refl _ _).drew) ?_
        repeat
          try simp only [Act.put, List.setIfInBounds_toArray, List.set_cons_succ, List.set_cons_zero]
          apply stepsSeq.cons
          · intro w' hb1
            have Hb1' := Lib.hid hb1
            have a0' := Below.keep hb1 a0
            have a1' := Below.keep hb1 a1
            have a2' := Below.keep hb1 a2
            have a3' := Below.keep hb1 a3
            have b0' := Below.keep hb1 b0
            have b1' := Below.keep hb1 b1
            have b2' := Below.keep hb1 b2
            have b3' := Below.keep hb1 b3
            simp only [Act.put, List.setIfInBounds_toArray, List.set_cons_succ, List.set_cons_zero]
            go_wp2_with (go_at_call 21; refine (HC.out _).mono ?_; rintro e w3 ⟨rfl, hb2⟩)
            first | exact ⟨rfl, Hb1'.out⟩ | exact ⟨rfl, Hb1'.out.trans (hb2.mono Hb1'.out.size)⟩
        try simp only [Act.put, List.setIfInBounds_toArray, List.set_cons_succ, List.set_cons_zero]
        refine stepsSeq.nil ?_
        intro w' hb1
        have hown2 := own_below Hown.out hb1 (Nat.le_refl _)
        have hb02 := Hb.out.trans (hb1.mono hsz)
        clear a0 a1 a2 a3 b0 b1 b2 b3 hb1
        go_wp2_with (at_builtin; refine wpList_append_new rfl _ _ 27 rfl hown2 info_int Try.underlying27 rfl (by decide) rfl 1 1 rfl rfl rfl (by unfold maxLen; omega) (by omega) hb02.size ?_; intro v' w' hown4 hg4 hb4)
        go_roundw
        case rel => exact ⟨k + 1, by omega, by go_num, by rw [Hps.out]; simpa using hown4, hb02.trans hb4⟩
        case measure => simp [intOf]; omega
    · have e : k = i := by omega
      subst e
      have hn : ¬ (k : Int) < k := by omega
      go_wp2
      go_ret
      exact ⟨_, rfl, hown, hb⟩
theorem refNeeds_any (l : List Sys) (v : Value) (i : Nat) (w : World) (hS : Syss w l v) (hi : i < l.length) (hl : l.length ≤ 1000000) :
    Calls Try.prog 24 #[v, .int .i64 i] w fun e w' => ∃ r, e = .returned r ∧ Ints w' (pick (fun k => cfl l k i) i) r ∧ Below w.heap.size w w' :=
  (refNeeds_own l v i w hS hi hl).mono fun _ _ ⟨r, h1, h2, h3⟩ => ⟨r, h1, Ints.of_own h2, h3⟩
theorem own_set_other {w : World} {base : Nat} {e : TypeId} {sz : Nat} {v : Value} {n : Nat} {xs : List Value} (h : w.ownsRow base e sz v n xs) {g : Nat} (hg : g < base) (i : Nat) (x : Value) : (w.setCell ⟨g, i, none⟩ x).ownsRow base e sz v n xs := by
  obtain ⟨h1, h2⟩ := h
  refine ⟨h1, ?_⟩
  rcases h2 with hn | ⟨b, cap, cur, hv, hb, hh, rest⟩
  · exact .inl hn
  · exact .inr ⟨b, cap, cur, hv, hb, by rw [Below.heap_setCell _ _ _ _ (by show b ≠ g; omega)]; exact hh, rest⟩
end Go.Proofs.Ytbcfanfnnmijdaa
