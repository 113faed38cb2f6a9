/- What order.Chain gives: of the longest chains the one that comes first; no condition but that the argument reads as systems. -/
import Derived.Test.YtbcfanfnnmijdaaLegal
import Derived.Test.YtbcfanfnnmijdaaRegion
namespace Go.Proofs.Ytbcfanfnnmijdaa
open Go.RowKit

/-- r is the first of the longest chains of bs that begin with a system from lo on which conflicts with system i -/
def IsRest (l : List Sys) (bs : List (List Int)) (i : Nat) (r : List Int) (lo : Nat) : Prop :=
  (r = [] ∧ ∀ k, lo ≤ k → k < l.length → cfl l i k = false) ∨
  ∃ k, lo ≤ k ∧ k < l.length ∧ cfl l i k = true ∧ r = bs.getD k [] ∧ ∀ q, lo ≤ q → q < l.length → cfl l i q = true → (bs.getD q []).length ≤ (bs.getD k []).length ∧ (q < k → (bs.getD q []).length < (bs.getD k []).length)
/-- from lo on bs holds for each system the first of the longest chains that begin with it -/
def IsBests (l : List Sys) (bs : List (List Int)) (lo : Nat) : Prop := ∀ i, lo ≤ i → i < l.length → ∃ r, bs.getD i [] = (i : Int) :: r ∧ IsRest l bs i r (i + 1)
/-- out is the first of the longest lists of bs from lo on -/
def IsOut (l : List Sys) (bs : List (List Int)) (out : List Int) (lo : Nat) : Prop :=
  (out = [] ∧ l.length ≤ lo) ∨ ∃ i, lo ≤ i ∧ i < l.length ∧ out = bs.getD i [] ∧ ∀ q, lo ≤ q → q < l.length → (bs.getD q []).length ≤ (bs.getD i []).length ∧ (q < i → (bs.getD q []).length < (bs.getD i []).length)
def ChainOk (l : List Sys) (c : List Int) : Prop := ∃ bs : List (List Int), bs.length = l.length ∧ IsBests l bs 0 ∧ IsOut l bs c 0

theorem IsRest.start (l : List Sys) (bs : List (List Int)) (i : Nat) : IsRest l bs i [] l.length := .inl ⟨rfl, fun k h1 h2 => by omega⟩
theorem IsRest.skip {l : List Sys} {bs : List (List Int)} {i : Nat} {r : List Int} {k : Nat} (h : IsRest l bs i r (k + 1)) (hc : cfl l i k = false) : IsRest l bs i r k := by
  rcases h with ⟨h1, h2⟩ | ⟨m, h1, h2, h3, h4, h5⟩
  · refine .inl ⟨h1, fun q hq hl => ?_⟩
    by_cases e : q = k
    · subst e; exact hc
    · exact h2 q (by omega) hl
  · refine .inr ⟨m, by omega, h2, h3, h4, fun q hq hl hcq => ?_⟩
    by_cases e : q = k
    · subst e; rw [hc] at hcq; cases hcq
    · exact h5 q (by omega) hl hcq
theorem IsRest.less {l : List Sys} {bs : List (List Int)} {i : Nat} {r : List Int} {k : Nat} (h : IsRest l bs i r (k + 1)) (hk : (bs.getD k []).length < r.length) : IsRest l bs i r k := by
  rcases h with ⟨h1, h2⟩ | ⟨m, h1, h2, h3, h4, h5⟩
  · subst h1; simp at hk
  · subst h4
    refine .inr ⟨m, by omega, h2, h3, rfl, fun q hq hl hcq => ?_⟩
    by_cases e : q = k
    · subst e; exact ⟨by omega, fun _ => hk⟩
    · exact h5 q (by omega) hl hcq
theorem IsRest.take {l : List Sys} {bs : List (List Int)} {i : Nat} {r : List Int} {k : Nat} (h : IsRest l bs i r (k + 1)) (hkl : k < l.length) (hc : cfl l i k = true) (hk : r.length ≤ (bs.getD k []).length) : IsRest l bs i (bs.getD k []) k := by
  refine .inr ⟨k, Nat.le_refl _, hkl, hc, rfl, fun q hq hl hcq => ⟨?_, fun h => by omega⟩⟩
  by_cases e : q = k
  · subst e; exact Nat.le_refl _
  · rcases h with ⟨h1, h2⟩ | ⟨m, h1, h2, h3, h4, h5⟩
    · rw [h2 q (by omega) hl] at hcq; cases hcq
    · have := (h5 q (by omega) hl hcq).1
      rw [h4] at hk; omega
theorem IsRest.congr {l : List Sys} {bs bs' : List (List Int)} {i : Nat} {r : List Int} {lo : Nat} (h : IsRest l bs i r lo) (he : ∀ k, lo ≤ k → bs'.getD k [] = bs.getD k []) : IsRest l bs' i r lo := by
  rcases h with h | ⟨m, h1, h2, h3, h4, h5⟩
  · exact .inl h
  · refine .inr ⟨m, h1, h2, h3, by rw [he m h1]; exact h4, fun q hq hl hcq => ?_⟩
    rw [he q hq, he m h1]; exact h5 q hq hl hcq
theorem getD_set_neL {bs : List (List Int)} {k i : Nat} (h : i ≠ k) (x : List Int) : (bs.set k x).getD i [] = bs.getD i [] := by
  simp only [List.getD_eq_getElem?_getD]
  rw [List.getElem?_set_ne (Ne.symm h)]
theorem getD_set_eqL {bs : List (List Int)} {k : Nat} (h : k < bs.length) (x : List Int) : (bs.set k x).getD k [] = x := by
  simp only [List.getD_eq_getElem?_getD]
  rw [List.getElem?_set_self h]; rfl
theorem IsBests.step {l : List Sys} {bs : List (List Int)} {i : Nat} {r : List Int} (h : IsBests l bs (i + 1)) (hl : bs.length = l.length) (hi : i < l.length) (hr : IsRest l bs i r (i + 1)) : IsBests l (bs.set i ((i : Int) :: r)) i := by
  intro q hq hql
  by_cases e : q = i
  · subst e
    exact ⟨r, getD_set_eqL (by omega) _, hr.congr (fun k hk => getD_set_neL (by omega) _)⟩
  · obtain ⟨r', h1, h2⟩ := h q (by omega) hql
    exact ⟨r', by rw [getD_set_neL e]; exact h1, h2.congr (fun k hk => getD_set_neL (by omega) _)⟩
theorem IsOut.less {l : List Sys} {bs : List (List Int)} {out : List Int} {i : Nat} (h : IsOut l bs out (i + 1)) (x : List Int) (hib : i < bs.length) (hx : x.length < out.length) : IsOut l (bs.set i x) out i := by
  rcases h with ⟨h1, _⟩ | ⟨m, h1, h2, h3, h4⟩
  · subst h1; simp at hx
  · refine .inr ⟨m, by omega, h2, by rw [getD_set_neL (by omega)]; exact h3, fun q hq hl => ?_⟩
    rw [getD_set_neL (i := m) (by omega)]
    by_cases e : q = i
    · subst e
      rw [getD_set_eqL hib]
      rw [h3] at hx
      exact ⟨by omega, fun _ => hx⟩
    · rw [getD_set_neL e]; exact h4 q (by omega) hl
theorem IsOut.take {l : List Sys} {bs : List (List Int)} {out : List Int} {i : Nat} (h : IsOut l bs out (i + 1)) (x : List Int) (hib : i < bs.length) (hil : i < l.length) (hx : out.length ≤ x.length) : IsOut l (bs.set i x) x i := by
  refine .inr ⟨i, Nat.le_refl _, hil, (getD_set_eqL hib _).symm, fun q hq hl => ⟨?_, fun h => by omega⟩⟩
  rw [getD_set_eqL hib]
  by_cases e : q = i
  · subst e; rw [getD_set_eqL hib]; exact Nat.le_refl _
  · rw [getD_set_neL e]
    rcases h with ⟨h1, h2⟩ | ⟨m, h1, h2, h3, h4⟩
    · omega
    · have := (h4 q (by omega) hl).1
      rw [h3] at hx; omega

/-- a slice of ints that lies in no block row -/
def IntsX (w : World) (row : Option Nat) (xs : List Int) (v : Value) : Prop := Ints w xs v ∧ (xs.length = 0 ∨ v.ownBlock ≠ row)
theorem IntsX.below {w w' : World} {row : Option Nat} {xs : List Int} {v : Value} {B : Nat} (h : IntsX w row xs v) (hb : Below B w w') (hB : w.heap.size ≤ B) : IntsX w' row xs v := ⟨h.1.below hb hB, h.2⟩
theorem IntsX.grown {w w' : World} {row : Option Nat} {xs : List Int} {v : Value} (h : IntsX w row xs v) (hg : w.grownBy w' row) : IntsX w' row xs v := ⟨Sl.grown h.1 hg h.2, h.2⟩
theorem IntsX.nil (w : World) (row : Option Nat) : IntsX w row [] (.slice none 0 0) := ⟨Ints.nil w, .inl rfl⟩

theorem RowsI.set {w : World} {row : Option Nat} {xss : List (List Int)} {vs : List Value} (h : RowsI w row xss vs) (i : Nat) {u : Value} {xs : List Int} (hu : Ints w xs u) (hne : xs.length = 0 ∨ u.ownBlock ≠ row) : RowsI w row (xss.set i xs) (vs.set i u) := by
  refine ⟨by simp [h.1], fun q u' xs' h1 h2 => ?_⟩
  by_cases e : i = q
  · subst e
    rw [List.getElem?_set] at h1 h2
    simp only [if_true] at h1 h2
    split at h1
    · split at h2
      · cases h1; cases h2; exact ⟨hu, hne⟩
      · cases h2
    · cases h1
  · rw [List.getElem?_set_ne e] at h1 h2
    exact h.2 q u' xs' h1 h2

set_option maxRecDepth 100000 in
set_option maxHeartbeats 1000000 in
theorem chain_any (l : List Sys) (v : Value) (w : World) (hS : Syss w l v) (hok : ∀ s ∈ l, s.ok) :
    Calls Try.prog 16 #[v] w fun e w' => ∃ r c xs, e = .returned (.tuple #[r, .int .i64 c]) ∧ Ints w' xs r ∧ Below w.heap.size w w' ∧
      ((validS l = false ∧ c = 2 ∧ xs = []) ∨ (validS l = true ∧ c = 0 ∧ ChainOk l xs)) := by
  have HV := Lib.hid (valid_any l v w hS hok)
  obtain ⟨a, cap, rfl, hlc, hcm⟩ := hS.form
  have HS := Lib.hid hS
  clear hS hok
  by_cases hv : validS l = true
  case neg =>
    rw [Bool.not_eq_true] at hv
    rw [hv] at HV
    have Hv := Lib.hid hv
    clear hv
    go_enter Try.func16, Try.ntmps16
    go_wp2_with (go_at_call 11; refine HV.out.mono ?_; rintro e w1 ⟨rfl, hb1⟩)
    go_ret2
    exact ⟨_, _, [], rfl, Ints.nil _, hb1, .inl ⟨Hv.out, rfl, rfl⟩⟩
  rw [hv] at HV
  have hl16 : l.length ≤ 16 := valid_len hv
  have Hv := Lib.hid hv
  clear hv
  obtain ⟨i0, hi, hz0, hz1, hz2⟩ := info_parts info_ints
  have hmk : ∀ u : World, (Instr.makeSlice 40 (.int .i64 (l.length : Int)) (.int .i64 (l.length : Int))).run Try.prog u =
      .ok (.slice (some ⟨u.heap.size, 0, none⟩) l.length l.length) (u.alloc (.cells (List.replicate l.length (Value.slice none 0 0)).toArray 27)) := fun u => by
    have h := run_make (P := Try.prog) u 40 27 i0 (.slice none 0 0) Try.underlying40 hi hz0 .i64 .i64 (l.length : Int) (l.length : Int) (by omega) (Int.le_refl _) (by rw [hz2]; omega) (by omega)
    rw [hz1, Nat.mul_one, made_one _ _ rfl] at h
    simpa using h
  clear hi hz0 hz1 hz2
  have hnew : ∀ u : World, OwnV (u.alloc (.cells (List.replicate l.length (Value.slice none 0 0)).toArray 27)) u.heap.size 27 (List.replicate l.length (Value.slice none 0 0)) := fun u => OwnV.new u _ _
  have Hnew := Lib.hid hnew
  clear hnew
  go_enter Try.func16, Try.ntmps16
  go_wp2_with (go_at_call 11; refine HV.out.mono ?_; rintro e w1 ⟨rfl, hb1⟩)
  clear hmk
  have hO0 := Hnew.out w1
  rw [List.toArray_replicate] at hO0
  have hb2 : Below w.heap.size w (w1.alloc (.cells (Array.replicate l.length (Value.slice none 0 0)) 27)) := hb1.alloc hb1.size _
  have hg0 : w.heap.size ≤ w1.heap.size := hb1.size
  generalize (w1.alloc (.cells (Array.replicate l.length (Value.slice none 0 0)) 27)) = wb at *
  generalize w1.heap.size = g at *
  clear hb1
  have hR0 : RowsI wb (some g) (List.replicate l.length []) (List.replicate l.length (Value.slice none 0 0)) := ⟨by simp, fun i u xs h1 h2 => by
    rw [List.getElem?_replicate] at h1 h2
    split at h1
    · simp only [*, if_true, Option.some.injEq] at h1 h2
      subst h1; subst h2
      exact ⟨Ints.nil _, .inl rfl⟩
    · cases h1⟩
  go_loopw [5, 6, 7, 8, 18, 19, 20, 21, 22, 23, 24, 25, 26, 27, 28, 29, 30, 31, 32, 33, 34, 35, 36, 37, 38, 39, 40, 41, 42, 43, 44, 45, 46, 47, 48, 49, 50, 51, 52, 53, 54, 55, 56, 57, 58, 59, 60, 61, 62, 63, 64, 65, 66, 67, 68, 69, 70, 71] (fun t5 t6 _ _ _ _ _ _ _ _ _ _ _ _ _ _ _ _ _ _ _ _ _ _ _ _ _ _ _ _ _ _ _ _ _ _ _ _ _ _ _ _ _ _ _ _ _ _ _ _ _ _ _ _ _ _ _ _ wr => ∃ (j : Nat) (x : Int) (bs : List (List Int)) (vs : List Value) (out : List Int) (oa : Option Addr) (ocap : Nat), j ≤ l.length ∧ x = j - 1 ∧ t6 = .int .i64 x ∧ t5 = .slice oa out.length ocap ∧ bs.length = l.length ∧ OwnV wr g 27 vs ∧ RowsI wr (some g) bs vs ∧ IntsX wr (some g) out (.slice oa out.length ocap) ∧ out.length ≤ l.length ∧ (∀ i, (bs.getD i []).length ≤ l.length - i) ∧ IsBests l bs j ∧ IsOut l bs out j ∧ Below w.heap.size w wr) (fun _ t6 _ _ _ _ _ _ _ _ _ _ _ _ _ _ _ _ _ _ _ _ _ _ _ _ _ _ _ _ _ _ _ _ _ _ _ _ _ _ _ _ _ _ _ _ _ _ _ _ _ _ _ _ _ _ _ _ _ => (intOf t6 + 1).toNat)
  case atStart =>
    refine ⟨l.length, _, _, _, [], none, 0, by omega, rfl, rfl, rfl, by simp, hO0, hR0, IntsX.nil _ _, by simp, fun i => ?_, fun i h1 h2 => by omega, .inl ⟨rfl, Nat.le_refl _⟩, hb2⟩
    rw [List.getD_eq_getElem?_getD, List.getElem?_replicate]
    split <;> simp
  case round =>
    clear hO0 hR0 hb2
    obtain ⟨j, x, bs, vs, out, oa, ocap, hj, hx, rfl, rfl, hbl, hO, hR, hout, hol, hlen, hB, hI, hb⟩ := hrel
    by_cases hlt : 0 < j
    · obtain ⟨i, rfl⟩ : ∃ i, j = i + 1 := ⟨j - 1, by omega⟩
      obtain rfl : x = (i : Int) := by omega
      have hil : i < l.length := by omega
      have HB := Lib.hid hB
      have HI := Lib.hid hI
      have Hout := Lib.hid hout
      have Hlen := Lib.hid hlen
      have Hbl := Lib.hid hbl
      clear hx hB hI hout hlen hbl
      obtain ⟨wo, rfl⟩ : ∃ wo : World, wo = wr := ⟨_, rfl⟩
      go_wp2
      go_loopw [7, 8, 25, 26, 27, 28, 29, 30, 31, 32, 33, 34, 35, 36, 37, 38, 39, 40, 41, 42, 43, 44, 45, 46, 47, 48, 49, 50, 51, 52] (fun t7 t8 _ _ _ _ _ _ _ _ _ _ _ _ _ _ _ _ _ _ _ _ _ _ _ _ _ _ _ _ wr => ∃ (m : Nat) (y : Int) (rest : List Int) (ra : Option Addr) (rcap : Nat), m ≤ l.length ∧ i + 1 ≤ m ∧ y = m - 1 ∧ t8 = .int .i64 y ∧ t7 = .slice ra rest.length rcap ∧ IntsX wr (some g) rest (.slice ra rest.length rcap) ∧ rest.length + i + 1 ≤ l.length ∧ IsRest l bs i rest m ∧ Below wo.heap.size wo wr) (fun _ t8 _ _ _ _ _ _ _ _ _ _ _ _ _ _ _ _ _ _ _ _ _ _ _ _ _ _ _ _ _ => (intOf t8 - i).toNat)
      case atStart => exact ⟨l.length, _, [], none, 0, by omega, by omega, rfl, rfl, rfl, IntsX.nil _ _, by simp; omega, IsRest.start l bs i, Below.refl _ _⟩
      case round =>
        obtain ⟨m, y, rest, ra, rcap, hm, hm1, hy, rfl, rfl, hrest, hrl, hIR, hbi⟩ := hrel
        have hOi := hO.below hbi (Nat.le_refl _)
        have hRi := hR.below hbi (Nat.le_refl _)
        have hS := HS.out.below (hb.trans (hbi.mono hb.size)) (Nat.le_refl _)
        have HIR := Lib.hid hIR
        have Hrest := Lib.hid hrest
        clear hIR hrest
        by_cases hlt2 : i + 1 < m
        · obtain ⟨k, rfl⟩ : ∃ k, m = k + 1 := ⟨m - 1, by omega⟩
          obtain rfl : y = (k : Int) := by omega
          have hkl : k < l.length := by omega
          obtain ⟨b, off, rfl, hbw, hc⟩ := hS.at hkl
          obtain ⟨c0, c1, c2, c3⟩ := hc k hkl
          obtain ⟨d0, d1, d2, d3⟩ := hc i hil
          have hvl : vs.length = l.length := by rw [hRi.1]; exact Hbl.out
          obtain ⟨uv, hv⟩ : ∃ uv, vs[k]? = some uv := ⟨vs[k], List.getElem?_eq_getElem (by omega)⟩
          obtain ⟨ux, hux⟩ : ∃ ux, bs[k]? = some ux := ⟨bs[k]'(by rw [Hbl.out]; omega), List.getElem?_eq_getElem _⟩
          obtain ⟨hI1, hI2⟩ := hRi.2 k uv ux hv hux
          obtain ⟨ka, kcap, rfl, hk1, hk2⟩ := hI1.form
          have ck : wr.cell? ⟨g, k, none⟩ = some (.slice ka ux.length kcap) := hOi.cell hv
          have hgi : g < wr.heap.size := hOi.lt
          have HV2 := Lib.hid hv
          have Hux := Lib.hid hux
          have HS2 := Lib.hid hS
          have HO2 := Lib.hid hO
          have HR2 := Lib.hid hR
          have Hy := Lib.hid hy
          have Hvl := Lib.hid hvl
          have HI1 := Lib.hid (And.intro hI1 hI2)
          clear hc hOi hRi hv hux hS hO hR hy hvl hI1 hI2
          have q1 : (i : Int) < l.length := by omega
          have q2 : (k : Int) < l.length := by omega
          have q3 : (0 : Int) ≤ i := by omega
          have q4 : (0 : Int) ≤ k := by omega
          have q5 : (i : Int) < k := by omega
          have hcf : cfl l i k = conf l[i] l[k] := cfl_eq hil hkl
          by_cases hcc : conf l[i] l[k] = true
          · have hC : ∀ w, Calls Try.prog 14 #[l[i].val, l[k].val] w fun e w' => e = .returned (.bool true) ∧ Below w.heap.size w w' := fun w => by have := conflict_any l[i] l[k] w; rw [hcc] at this; exact this
            have HC := Lib.hid hC
            have Hcf := Lib.hid (hcf.trans hcc)
            clear hC hcf hcc
            go_wp2
            go_region_held3 (fun w' => w'.cell? ⟨b, off + k * 4, none⟩ = some (.string l[k].name) ∧ w'.cell? ⟨b, off + k * 4 + 1, none⟩ = some (.int .u32 (w32 l[k].rd)) ∧ w'.cell? ⟨b, off + k * 4 + 2, none⟩ = some (.int .u32 (w32 l[k].wr)) ∧ w'.cell? ⟨b, off + k * 4 + 3, none⟩ = some (.int .i64 l[k].pg) ∧ w'.cell? ⟨b, off + i * 4, none⟩ = some (.string l[i].name) ∧ w'.cell? ⟨b, off + i * 4 + 1, none⟩ = some (.int .u32 (w32 l[i].rd)) ∧ w'.cell? ⟨b, off + i * 4 + 2, none⟩ = some (.int .u32 (w32 l[i].wr)) ∧ w'.cell? ⟨b, off + i * 4 + 3, none⟩ = some (.int .i64 l[i].pg) ∧ w'.cell? ⟨g, k, none⟩ = some (.slice ka ux.length kcap)) (first | go_keep | (refine ⟨?_, ?_, ?_, ?_, ?_, ?_, ?_, ?_, ?_⟩ <;> exact Below.keep hb1 (by go_keep))) (first | (go_at_call 14; refine (HC.out _).mono ?_; rintro e w' ⟨rfl, hb1⟩))
            rename_i hHeld
            clear hHeld
            have ck2 : w'.cell? ⟨g, k, none⟩ = some (.slice ka ux.length kcap) := Below.keep hb1 (show wr.drew.cell? _ = _ from ck)
            have hbi1 : Below wr.heap.size wr w' := (Below.refl _ _).drew.trans hb1
            have hbi2 : Below wo.heap.size wo w' := hbi.trans (hbi1.mono hbi.size)
            have hux : bs.getD k [] = ux := by rw [List.getD_eq_getElem?_getD, Hux.out]; rfl
            have hul : ux.length ≤ l.length - k := by have := Hlen.out k; rw [hux] at this; exact this
            have Hux2 := Lib.hid hux
            clear hb1 c0 c1 c2 c3 d0 d1 d2 d3 ck hux
            go_wp2
            · have hle : rest.length ≤ ux.length := by omega
              go_roundw
              case rel => exact ⟨k, (k : Int) - 1, ux, ka, kcap, by omega, by omega, rfl, rfl, rfl, IntsX.below ⟨HI1.out.1, HI1.out.2⟩ hbi1 (Nat.le_refl _), by omega, by have := HIR.out.take hkl Hcf.out (by rw [Hux2.out]; exact hle); rw [Hux2.out] at this; exact this, hbi2⟩
              case measure => simp [intOf]; omega
            · have hgt : ux.length < rest.length := by omega
              go_roundw
              case rel => exact ⟨k, (k : Int) - 1, rest, ra, rcap, by omega, by omega, rfl, rfl, rfl, Hrest.out.below hbi1 (Nat.le_refl _), by omega, HIR.out.less (by rw [Hux2.out]; exact hgt), hbi2⟩
              case measure => simp [intOf]; omega
          · rw [Bool.not_eq_true] at hcc
            have hC : ∀ w, Calls Try.prog 14 #[l[i].val, l[k].val] w fun e w' => e = .returned (.bool false) ∧ Below w.heap.size w w' := fun w => by have := conflict_any l[i] l[k] w; rw [hcc] at this; exact this
            have HC := Lib.hid hC
            have Hcf := Lib.hid (hcf.trans hcc)
            clear hC hcf hcc
            go_wp2
            refine wp_region_vals [.slice (some ⟨b, off, none⟩) l.length cap, .int .i64 i, .pointer (some ⟨b, off + i * 4, none⟩), l[i].val, .slice (some ⟨b, off, none⟩) l.length cap, .int .i64 k, .pointer (some ⟨b, off + k * 4, none⟩), l[k].val, .bool false, .bool false, undef, undef, undef, undef, undef, undef, undef, undef, .bool false] (fun w' => Below wr.heap.size wr w') (by kernel_rfl) (by kernel_rfl) ((Below.refl _ _).drew) ?hs ?hf
            all_goals simp only [fill_cons, fill_nil, Act.put, List.setIfInBounds_toArray, List.set_cons_succ, List.set_cons_zero]
            case hs =>
              repeat' (first | exact stepsOk.nil | refine stepsOk.cons ?_ ?_)
              all_goals
                intro w' hb1
                have a0 := Below.keep hb1 c0
                have a1 := Below.keep hb1 c1
                have a2 := Below.keep hb1 c2
                have a3 := Below.keep hb1 c3
                have b0 := Below.keep hb1 d0
                have b1 := Below.keep hb1 d1
                have b2 := Below.keep hb1 d2
                have b3 := Below.keep hb1 d3
                have Hb1 := Lib.hid hb1
                clear c0 c1 c2 c3 d0 d1 d2 d3 hb1 ck
                go_wp2_with (go_at_call 14; refine (HC.out _).mono ?_; rintro e w2 ⟨rfl, hb2⟩)
                all_goals first | exact ⟨rfl, Hb1.out⟩ | exact ⟨rfl, Hb1.out.trans (hb2.mono Hb1.out.size)⟩
            case hf =>
              intro w' hb1
              have hbi1 : Below wr.heap.size wr w' := hb1
              have hbi2 : Below wo.heap.size wo w' := hbi.trans (hbi1.mono hbi.size)
              clear hb1 c0 c1 c2 c3 d0 d1 d2 d3 ck
              go_wp2
              go_roundw
              case rel => exact ⟨k, (k : Int) - 1, rest, ra, rcap, by omega, by omega, rfl, rfl, rfl, Hrest.out.below hbi1 (Nat.le_refl _), by omega, HIR.out.skip Hcf.out, hbi2⟩
              case measure => simp [intOf]; omega
        · obtain rfl : m = i + 1 := by omega
          obtain rfl : y = (i : Int) := by omega
          clear hy
          have hb2 := hb.trans (hbi.mono hb.size)
          have HOi := Lib.hid hOi
          have HRi := Lib.hid hRi
          have HO2 := Lib.hid hO
          have HR2 := Lib.hid hR
          have HS2 := Lib.hid hS
          clear hOi hRi hO hR hS
          have hvl : vs.length = l.length := by rw [HRi.out.1]; exact Hbl.out
          obtain ⟨ui, hui⟩ : ∃ ui, vs[i]? = some ui := ⟨vs[i], List.getElem?_eq_getElem (by omega)⟩
          have q1 : (i : Int) < l.length := by omega
          have q2 : (0 : Int) ≤ i := by omega
          have Hvl := Lib.hid hvl
          clear hvl
          have hown : (wr.alloc (.cells #[.int .i64 (i : Int)] 3)).ownsRow wr.heap.size 3 1 (.slice (some ⟨wr.heap.size, 0, none⟩) 1 1) 1 [.int .i64 (i : Int)] :=
            OwnV.own (OwnV.new wr 3 [.int .i64 (i : Int)]) (Nat.le_refl _) rfl rfl (by unfold maxLen; omega)
          have hsr : Sl (wr.alloc (.cells #[.int .i64 (i : Int)] 3)) 1 rest.length (rest.map (Value.int .i64)) (.slice ra rest.length rcap) := Hrest.out.1.below (Below.alloc (Below.refl _ _) (Nat.le_refl _) _) (Nat.le_refl _)
          go_wp2_with (at_builtin; refine wpList_append_src rfl _ _ 27 rfl hown info_int Try.underlying27 rfl (by decide) rfl hsr rfl (by simp [Value.oneCell']) (by unfold maxLen; omega) (by omega) (by simp) ?_; intro v' w4 hown4 hg4 hb4 _; have hI4 : Ints w4 ((i : Int) :: rest) v' := (by have h := Sl.of_own hown4; rw [Nat.add_comm] at h; exact h); obtain ⟨na, ncap, hv', hnc, _⟩ := hI4.form; rw [List.length_cons] at hv' hnc; subst hv'; have hlt4 := hown4.lt; have hO4 := HOi.out.below (((Below.refl _ _).alloc (Nat.le_refl _) _).trans hb4) (Nat.le_refl _); have cg := hO4.cell hui; have fg := hO4.free i; have HO4 := Lib.hid hO4; have HI4 := Lib.hid hI4; have Hlt4 := Lib.hid hlt4; clear hO4 hI4 hlt4 hown4 hg4)
          all_goals
            have hgi : g < wr.heap.size := HOi.out.lt
            have hbw : Below wr.heap.size wr w4 := ((Below.refl _ _).alloc (Nat.le_refl _) _).trans hb4
            have hgs : w4.grownBy (w4.setCell ⟨g, i, none⟩ (.slice na (rest.length + 1) ncap)) (some g) := ⟨rfl, rfl, rfl, by simp, fun q _ hne => Below.heap_setCell _ _ _ _ (fun e => hne (by rw [e]))⟩
            have hne : Value.ownBlock (.slice na (rest.length + 1) ncap) ≠ some g := fun e => by have := (Hlt4.out g e).1; omega
            have hIx : IntsX w4 (some g) ((i : Int) :: rest) (.slice na (rest.length + 1) ncap) := ⟨HI4.out, .inr hne⟩
            have hIy := hIx.grown hgs
            have hOs := HO4.out.set i (.slice na (rest.length + 1) ncap)
            have hRs := ((HRi.out.below hbw (Nat.le_refl _)).grown hgs).set i hIy.1 hIy.2
            have hBs := HB.out.step Hbl.out hil HIR.out
            have hLs : ∀ q, ((bs.set i ((i : Int) :: rest)).getD q []).length ≤ l.length - q := fun q => by
              by_cases e : q = i
              · subst e; rw [getD_set_eqL (by rw [Hbl.out]; exact hil)]; simp; omega
              · rw [getD_set_neL e]; exact Hlen.out q
            have hbf : Below w.heap.size w (w4.setCell ⟨g, i, none⟩ (.slice na (rest.length + 1) ncap)) := (hb2.trans (hbw.mono hb2.size)).setCell hg0 _
            have hbl2 : (bs.set i ((i : Int) :: rest)).length = l.length := by rw [List.length_set]; exact Hbl.out
            go_roundw
          case rel =>
            have hge : out.length ≤ rest.length + 1 := by omega
            exact ⟨i, (i : Int) - 1, _, _, (i : Int) :: rest, na, ncap, by omega, rfl, rfl, rfl, hbl2, hOs, hRs, hIy, by simp; omega, hLs, hBs, HI.out.take _ (by rw [Hbl.out]; exact hil) hil (by simpa using hge), hbf⟩
          case measure => simp [intOf]
          case rel =>
            have hge : rest.length + 1 < out.length := by omega
            exact ⟨i, (i : Int) - 1, _, _, out, oa, ocap, by omega, rfl, rfl, rfl, hbl2, hOs, hRs, ((Hout.out.below hbi (Nat.le_refl _)).below hbw (Nat.le_refl _)).grown hgs, hol, hLs, hBs, HI.out.less _ (by rw [Hbl.out]; exact hil) (by simpa using hge), hbf⟩
          case measure => simp [intOf]
    · obtain rfl : j = 0 := by omega
      obtain rfl : x = -1 := by simpa using hx
      have hCl := clone_any out (.slice oa out.length ocap) wr hout.1 (by omega)
      have HCl := Lib.hid hCl
      have HB := Lib.hid hB
      have HI := Lib.hid hI
      clear hx hCl hB hI hout hO hR hlen
      go_wp2_with (go_at_call 33; refine HCl.out.mono ?_; rintro e w5 ⟨r, rfl, hr, hb5⟩)
      go_ret2
      exact ⟨_, _, out, rfl, hr, hb.trans (hb5.mono hb.size), .inr ⟨Hv.out, rfl, bs, hbl, HB.out, HI.out⟩⟩
end Go.Proofs.Ytbcfanfnnmijdaa
