/- What order.levels gives: the stage of each system; no condition but that the argument reads as at most a million systems. -/
import Derived.Test.YtbcfanfnnmijdaaNeedsF
import Derived.RegionTactic
namespace Go.Proofs.Ytbcfanfnnmijdaa
open Go.RowKit

/-- x is the greatest of 0 and the numbers f k + 1 of the k for which p holds -/
def IsTop (f : Nat → Int) (p : Nat → Prop) (x : Int) : Prop := (∀ k, p k → f k + 1 ≤ x) ∧ (x = 0 ∨ ∃ k, p k ∧ x = f k + 1) ∧ 0 ≤ x
/-- the first numbers of xs are the stages of the first systems -/
def IsLev (l : List Sys) (n : Nat) (xs : List Int) : Prop := ∀ i, i < n → IsTop (fun k => xs.getD k 0) (fun k => k < i ∧ cfl l k i = true) (xs.getD i 0) ∧ xs.getD i 0 ≤ i
theorem IsTop.congr {f g : Nat → Int} {p q : Nat → Prop} {x : Int} (h : IsTop f p x) (hp : ∀ k, p k ↔ q k) (hf : ∀ k, q k → f k = g k) : IsTop g q x := by
  obtain ⟨h1, h2, h3⟩ := h
  refine ⟨fun k hk => by rw [← hf k hk]; exact h1 k ((hp k).2 hk), ?_, h3⟩
  rcases h2 with h2 | ⟨k, hk, e⟩
  · exact .inl h2
  · exact .inr ⟨k, (hp k).1 hk, by rw [← hf k ((hp k).1 hk)]; exact e⟩
theorem IsTop.add {f : Nat → Int} {p : Nat → Prop} {x : Int} (h : IsTop f p x) (j : Nat) (hj : 0 ≤ f j) : IsTop f (fun k => p k ∨ k = j) (max x (f j + 1)) := by
  obtain ⟨h1, h2, h3⟩ := h
  refine ⟨fun k hk => ?_, ?_, by omega⟩
  · rcases hk with hk | rfl
    · have := h1 k hk; omega
    · omega
  · by_cases hx : f j + 1 ≤ x
    · rw [Int.max_eq_left hx]
      rcases h2 with h2 | ⟨k, hk, e⟩
      · exact .inl h2
      · exact .inr ⟨k, .inl hk, e⟩
    · rw [Int.max_eq_right (by omega)]
      exact .inr ⟨j, .inr rfl, rfl⟩

def LevInv (l : List Sys) (k : Nat) (ys : List Int) : Prop := ys.length = l.length ∧ IsLev l k ys ∧ ∀ i, k ≤ i → ys.getD i 0 = 0
def InnInv (l : List Sys) (k : Nat) (left : Nat → Bool) (ys : List Int) : Prop :=
  ys.length = l.length ∧ IsLev l k ys ∧ (∀ i, k < i → ys.getD i 0 = 0) ∧ IsTop (fun j => ys.getD j 0) (fun j => (j < k ∧ cfl l j k = true) ∧ left j = false) (ys.getD k 0) ∧ ys.getD k 0 ≤ k
theorem LevInv.start (l : List Sys) : LevInv l 0 (List.replicate l.length 0) := by
  refine ⟨by simp, fun i hi => by omega, fun i _ => ?_⟩
  rw [List.getD_eq_getElem?_getD, List.getElem?_replicate]
  split <;> rfl
theorem InnInv.start {l : List Sys} {k : Nat} {ys : List Int} (h : LevInv l k ys) {left : Nat → Bool} (hl : ∀ j, j < k → cfl l j k = true → left j = true) : InnInv l k left ys := by
  obtain ⟨h1, h2, h3⟩ := h
  have h0 := h3 k (Nat.le_refl _)
  refine ⟨h1, h2, fun i hi => h3 i (by omega), ⟨fun j hj => ?_, .inl h0, by omega⟩, by omega⟩
  exact absurd hj.2 (by rw [hl j hj.1.1 hj.1.2]; simp)
theorem getD_set_ne {ys : List Int} {k i : Nat} (h : i ≠ k) (x : Int) : (ys.set k x).getD i 0 = ys.getD i 0 := by
  simp only [List.getD_eq_getElem?_getD]
  rw [List.getElem?_set_ne (Ne.symm h)]
theorem getD_set_eq {ys : List Int} {k : Nat} (h : k < ys.length) (x : Int) : (ys.set k x).getD k 0 = x := by
  simp only [List.getD_eq_getElem?_getD]
  rw [List.getElem?_set_self h]; rfl
theorem InnInv.step {l : List Sys} {k : Nat} {left left' : Nat → Bool} {ys : List Int} (h : InnInv l k left ys) (hk : k < l.length) {j : Nat} (hj : j < k) (hc : cfl l j k = true) (hl : ∀ i, left' i = false ↔ left i = false ∨ i = j) :
    InnInv l k left' (ys.set k (max (ys.getD k 0) (ys.getD j 0 + 1))) := by
  obtain ⟨h1, h2, h3, h4, h5⟩ := h
  have hjj := h2 j hj
  refine ⟨by simpa using h1, fun i hi => ?_, fun i hi => by rw [getD_set_ne (by omega)]; exact h3 i hi, ?_, ?_⟩
  · rw [getD_set_ne (by omega)]
    exact ⟨(h2 i hi).1.congr (fun _ => Iff.rfl) (fun m hm => (getD_set_ne (by omega) _).symm), (h2 i hi).2⟩
  · rw [getD_set_eq (by omega)]
    refine (h4.add j hjj.1.2.2).congr (fun m => ?_) (fun m hm => (getD_set_ne (by omega) _).symm)
    rw [hl]
    constructor
    · rintro (hm | rfl)
      · exact ⟨hm.1, .inl hm.2⟩
      · exact ⟨⟨hj, hc⟩, .inr rfl⟩
    · rintro ⟨hm, h | rfl⟩
      · exact .inl ⟨hm, h⟩
      · exact .inr rfl
  · rw [getD_set_eq (by omega)]
    have := hjj.2
    omega
theorem InnInv.done {l : List Sys} {k : Nat} {left : Nat → Bool} {ys : List Int} (h : InnInv l k left ys) (hl : ∀ i, left i = false) : LevInv l (k + 1) ys := by
  obtain ⟨h1, h2, h3, h4, h5⟩ := h
  refine ⟨h1, fun i hi => ?_, fun i hi => h3 i (by omega)⟩
  by_cases e : i = k
  · subst e
    exact ⟨h4.congr (fun j => by simp [hl]) (fun _ _ => rfl), h5⟩
  · exact h2 i (by omega)

set_option maxHeartbeats 400000 in
theorem levels_any (l : List Sys) (v : Value) (w : World) (hS : Syss w l v) (hl : l.length ≤ 1000000) :
    Calls Try.prog 34 #[v] w fun e w' => ∃ r xs, e = .returned r ∧ xs.length = l.length ∧ IsLev l l.length xs ∧ w'.ownsRow w.heap.size 3 1 r xs.length (xs.map (Value.int .i64)) ∧ Below w.heap.size w w' := by
  obtain ⟨a, cap, rfl, hlc, hcm⟩ := hS.form
  obtain ⟨i0, hi, hz0, hz1, hz2⟩ := info_parts info_int
  have hmk : ∀ u : World, (Instr.makeSlice 27 (.int .i64 (l.length : Int)) (.int .i64 (l.length : Int))).run Try.prog u =
      .ok (.slice (some ⟨u.heap.size, 0, none⟩) l.length l.length) (u.alloc (.cells (List.replicate l.length (Value.int .i64 0)).toArray 3)) := fun u => by
    have h := run_make (P := Try.prog) u 27 3 i0 (.int .i64 0) Try.underlying27 hi hz0 .i64 .i64 (l.length : Int) (l.length : Int) (by omega) (Int.le_refl _) (by rw [hz2]; omega) (by omega)
    rw [hz1, Nat.mul_one, made_one _ _ rfl] at h
    simpa using h
  have HS := Lib.hid hS
  clear hS hi hz0 hz1 hz2
  have hnew : ∀ u : World, OwnV (u.alloc (.cells (List.replicate l.length (Value.int .i64 0)).toArray 3)) u.heap.size 3 (List.replicate l.length (Value.int .i64 0)) := fun u => OwnV.new u _ _
  have Hnew := Lib.hid hnew
  clear hnew
  go_enter Try.func34, Try.ntmps34
  go_wp2
  clear hmk
  go_loopw [4, 5, 11, 12, 13, 14, 15, 16, 17, 18, 19, 20, 21, 22, 23, 24, 25, 26, 27, 28, 29, 30, 31, 32, 33, 34, 35] (fun _ _ t11 _ _ _ _ _ _ _ _ _ _ _ _ _ _ _ _ _ _ _ _ _ _ _ _ wr => ∃ (k : Nat) (ys : List Int), k ≤ l.length ∧ t11 = .int .i64 k ∧ LevInv l k ys ∧ OwnV wr w.heap.size 3 (ys.map (Value.int .i64)) ∧ Below w.heap.size w wr) (fun _ _ t11 _ _ _ _ _ _ _ _ _ _ _ _ _ _ _ _ _ _ _ _ _ _ _ _ _ => l.length - (intOf t11).toNat)
  case atStart => exact ⟨0, _, by omega, rfl, LevInv.start l, by simpa using Hnew.out w, (Below.refl _ _).alloc (Nat.le_refl _) _⟩
  case round =>
    obtain ⟨k, ys, hk, rfl, hI, hO, hb⟩ := hrel
    by_cases hlt : k < l.length
    · go_wp2_with (first | (go_at_call 30; refine (needs_any l _ k hlt _ (Syss.below HS.out hb (Nat.le_refl _))).mono ?_; rintro e w2 ⟨bm, rfl, hbm, ⟨D, hD1, hD2, hD3⟩, hb2⟩) | (at_range; refine wpList_range_own _ rfl _ 58 rfl 3 3 keyed Try.underlying58 _ bm k D rfl hD1 ?_; intro w3 hrg0 hg3 hs3))
      go_frame
      have hb3 : Below w.heap.size w w3 := (hb.trans (hb2.mono hb.size)).grown hg3 (Nat.le_trans hb.size hb2.size) (by simp)
      have hO3 : OwnV w3 w.heap.size 3 (ys.map (Value.int .i64)) := (hO.below hb2 (Nat.le_refl _)).grown hg3 (by simp)
      have hr0 : w2.heap.size ≠ w.heap.size := by have := hb2.size; have := hO.lt; omega
      have hsz : w.heap.size ≤ w2.heap.size := Nat.le_trans hb.size hb2.size
      have hbm0 : bm ≠ w.heap.size := by have := hO.lt; omega
      have hI0 : InnInv l k (fun j => Maps.has D (.int .i64 (j : Int))) ys := InnInv.start hI (fun j hj hc => by rw [hD2]; simp [needB, hj, hc])
      clear hb2 hD1 hg3 hs3 hO
      have HD2 := Lib.hid hD2
      have Hr := Lib.hid hbm
      clear hD2 hD3 hbm
      go_loopw [5, 18, 19, 20, 21, 22, 23, 24, 25, 26, 27, 28, 29, 30, 31, 32, 33, 34] (fun _ _ _ _ _ _ _ _ _ _ _ _ _ _ _ _ _ _ wr => ∃ (ys : List Int) (left : Lit → Bool) (cnt : Nat), wr.ranges Try.prog 3 (plainElem Try.prog 3) bm w2.heap.size k D left cnt ∧ InnInv l k (fun j => left (.int .i64 (j : Int))) ys ∧ OwnV wr w.heap.size 3 (ys.map (Value.int .i64)) ∧ Below w.heap.size w wr) (fun _ _ _ _ _ _ _ _ _ _ _ _ _ _ _ _ _ _ wr => wr.rangeLeft bm w2.heap.size)
      case atStart => exact ⟨ys, _, _, hrg0, hI0, hO3, hb3⟩
      case round =>
        clear hI hb hI0 hO3 hb3 hrg0
        obtain ⟨ys, left, cnt, hrg, hI, hO, hb⟩ := hrel
        go_wp2_with (at_next; refine wpList_next_ranges_ii _ rfl _ rfl 3 3 .i64 .i64 keyed Try.underlying3 Try.underlying3 bm w2.heap.size k _ _ _ rfl hrg ?_ ?_)
        · intro _ hl0
          have hI2 := hI.done (fun i => hl0 _)
          clear hI hl0 hrg
          go_wp2
          go_roundw
          case rel => exact ⟨k + 1, ys, by omega, by go_num, hI2, hO, hb⟩
          case measure => simp [intOf]; omega
        · intro x c w4 cnt1 hwx hwc hlx hat hrg1 hlt1 hg4 hs4 hen
          have hx := HD2.out x
          rw [Maps.has_true_of_atKey hat] at hx
          have hx2 : 0 ≤ x ∧ x < k ∧ cfl l x.toNat k = true := by simpa [needB] using hx.symm
          obtain ⟨hx3, hx4, hx5⟩ := hx2
          obtain ⟨j, rfl⟩ := Int.eq_ofNat_of_zero_le hx3
          rw [Int.toNat_natCast] at hx5
          have hj : j < k := by omega
          have hO4 : OwnV w4 w.heap.size 3 (ys.map (Value.int .i64)) := hO.grown hg4 (by simpa using Ne.symm hr0)
          have hb4 : Below w.heap.size w w4 := hb.grown hg4 hb.size (by simp; omega)
          have hlen := hI.1
          have ck : w4.cell? ⟨w.heap.size, k, none⟩ = some (.int .i64 (ys.getD k 0)) := hO4.cell (by rw [List.getElem?_map, List.getElem?_eq_getElem (by omega), List.getD_eq_getElem?_getD, List.getElem?_eq_getElem (by omega)]; rfl)
          have cj : w4.cell? ⟨w.heap.size, j, none⟩ = some (.int .i64 (ys.getD j 0)) := hO4.cell (by rw [List.getElem?_map, List.getElem?_eq_getElem (by omega), List.getD_eq_getElem?_getD, List.getElem?_eq_getElem (by omega)]; rfl)
          have fk : w4.frozen? ⟨w.heap.size, k, none⟩ = false := hO4.free _
          have y1 := (hI.2.1 j hj).2
          have y2 := (hI.2.1 j hj).1.2.2
          have y3 := hI.2.2.2.2
          have y4 := hI.2.2.2.1.2.2
          generalize hyk : ys.getD k 0 = yk at *
          generalize hyj : ys.getD j 0 = yj at *
          have Hyk := Lib.hid hyk
          have Hyj := Lib.hid hyj
          have HI := Lib.hid hI
          have HO4 := Lib.hid hO4
          have Hx5 := Lib.hid hx5
          have Hrg1 := Lib.hid hrg1
          have Hrg := Lib.hid hrg
          clear hyk hyj hI hO4 hx5 hrg1 hrg hx hlx hat hO hwx hwc hx3 hg4 hs4
          have hl1 : (j : Int) < l.length := by omega
          have hl2 : (k : Int) < l.length := by omega
          have hl3 : (0 : Int) ≤ j := by omega
          have hl4 : (0 : Int) ≤ k := by omega
          go_wp2
          go_region
          have hmax : (if yk < yj + 1 then yj + 1 else yk) = max yk (yj + 1) := by split <;> omega
          generalize (if yk < yj + 1 then yj + 1 else yk) = m at *
          have Hm := Lib.hid hmax
          clear hmax
          have hr2 : ((w4.setCell ⟨w.heap.size, k, none⟩ (.int .i64 m)).drew).ranges Try.prog 3 (plainElem Try.prog 3) bm w2.heap.size k D (fun z => left z && !z.sameKey (.int .i64 (j : Int))) cnt1 :=
            World.ranges.kept (w' := w4.setCell ⟨w.heap.size, k, none⟩ (.int .i64 m)) (row := some w.heap.size) Hrg1.out ⟨rfl, rfl, rfl, by simp, fun q _ hne => Below.heap_setCell _ _ _ _ (fun e => hne (by rw [e]))⟩ (by simpa using hbm0) (by simpa using hr0)
          have Hr2 := Lib.hid hr2
          clear hr2
          go_wp2
          go_roundw
          case rel =>
            refine ⟨ys.set k m, _, cnt1, Hr2.out, ?_, ?_, (hb4.setCell (Nat.le_refl _) _).drew⟩
            · rw [Hm.out, ← Hyk.out, ← Hyj.out]
              refine HI.out.step hlt hj Hx5.out (fun i => ?_)
              have hsk : (Lit.int .i64 (i : Int)).sameKey (.int .i64 (j : Int)) = decide (i = j) := by simp [Lit.sameKey]; omega
              rw [hsk]
              by_cases e : i = j <;> simp [e]
            · rw [List.map_set]
              exact HO4.out.set k _
          case measure => rw [World.ranges.left_eq Hr2.out, World.ranges.left_eq Hrg.out]; exact hlt1
    · have e : k = l.length := by omega
      subst e
      go_wp2
      go_ret
      refine ⟨_, ys, rfl, hI.1, hI.2.1, ?_, hb⟩
      rw [hI.1]
      exact hO.own (Nat.le_refl _) (by simpa using hI.1) rfl (by unfold maxLen; omega)
end Go.Proofs.Ytbcfanfnnmijdaa
