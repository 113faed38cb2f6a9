/- The reference's Stages, walked: of a valid list it makes the stages. No condition but that the argument reads as systems. -/
import Derived.Test.YtbcfanfnnmijdaaRReady
import Derived.Test.YtbcfanfnnmijdaaStagesM
namespace Go.Proofs.Ytbcfanfnnmijdaa
open Go.RowKit

/-- m is the greatest of the first i numbers, or -1 -/
def MaxTo (ys : List Int) (i : Nat) (m : Int) : Prop := (i = 0 ∧ m = -1) ∨ ((∀ j, j < i → ys.getD j 0 ≤ m) ∧ ∃ j, j < i ∧ ys.getD j 0 = m)
theorem MaxTo.step {ys : List Int} {i : Nat} {m : Int} (h : MaxTo ys i m) (h0 : 0 ≤ ys.getD i 0) : MaxTo ys (i + 1) (if m < ys.getD i 0 then ys.getD i 0 else m) := by
  right
  rcases h with ⟨rfl, rfl⟩ | ⟨h1, j, hj, h2⟩
  · rw [if_pos (by omega)]
    refine ⟨fun j hj => ?_, 0, by omega, rfl⟩
    obtain rfl : j = 0 := by omega
    exact Int.le_refl _
  · by_cases hlt : m < ys.getD i 0
    · rw [if_pos hlt]
      refine ⟨fun k hk => ?_, i, by omega, rfl⟩
      rcases Nat.lt_or_ge k i with h | h
      · have := h1 k h; omega
      · obtain rfl : k = i := by omega
        exact Int.le_refl _
    · rw [if_neg hlt]
      refine ⟨fun k hk => ?_, j, by omega, h2⟩
      rcases Nat.lt_or_ge k i with h | h
      · exact h1 k h
      · obtain rfl : k = i := by omega
        omega
theorem MaxTo.congr {ys zs : List Int} {i : Nat} {m : Int} (h : MaxTo ys i m) (he : ∀ j, j < i → zs.getD j 0 = ys.getD j 0) : MaxTo zs i m := by
  rcases h with h | ⟨h1, j, hj, h2⟩
  · exact .inl h
  · exact .inr ⟨fun k hk => by rw [he k hk]; exact h1 k hk, j, hj, by rw [he j hj]; exact h2⟩
theorem pick_nodup (p : Nat → Bool) (n : Nat) : (pick p n).Nodup := List.pairwise_iff_getElem.2 fun i j hi hj hij => by have := pick_lt p n hij hj; omega
def leftOf (N : List Int) (k : Nat) (j : Nat) : Bool := decide ((j : Int) ∈ N.drop k)
theorem leftOf_step {N : List Int} (hn : N.Nodup) {k j : Nat} (hk : k < N.length) (hj : N[k] = (j : Int)) (i : Nat) : leftOf N (k + 1) i = false ↔ leftOf N k i = false ∨ i = j := by
  unfold leftOf
  rw [decide_eq_false_iff_not, decide_eq_false_iff_not, List.drop_eq_getElem_cons hk, List.mem_cons, hj]
  have hnn : (j : Int) ∉ N.drop (k + 1) := by
    have h : (N.drop k).Nodup := hn.sublist (List.drop_sublist k N)
    rw [List.drop_eq_getElem_cons hk, hj] at h
    exact (List.nodup_cons.1 h).1
  constructor
  · intro h
    by_cases e : i = j
    · exact .inr e
    · exact .inl (fun h' => h'.elim (fun e' => e (by omega)) h)
  · rintro (h | rfl)
    · exact fun h' => h (.inr h')
    · exact hnn
theorem set_same {ys : List Int} {k : Nat} (hk : k < ys.length) : ys.set k (ys.getD k 0) = ys := by
  apply List.ext_getElem?
  intro i
  by_cases e : k = i
  · subst e
    rw [List.getElem?_set_self hk, List.getD_eq_getElem?_getD, List.getElem?_eq_getElem hk]; rfl
  · rw [List.getElem?_set_ne e]
theorem map_cell {ys : List Int} {k : Nat} (hk : k < ys.length) : (ys.map (Value.int .i64))[k]? = some (.int .i64 (ys.getD k 0)) := by
  rw [List.getElem?_map, List.getElem?_eq_getElem hk, List.getD_eq_getElem?_getD, List.getElem?_eq_getElem hk]; rfl

set_option maxRecDepth 100000 in
set_option maxHeartbeats 1000000 in
theorem refStages_any (l : List Sys) (v : Value) (w : World) (hS : Syss w l v) (h16 : l.length ≤ 16) :
    Calls Try.prog 25 #[v] w fun e w' => ∃ r xss, e = .returned r ∧ Rows2 w' xss r ∧ Below w.heap.size w w' ∧ StagesOk l xss := by
  obtain ⟨a, cap, rfl, hlc, hcm⟩ := hS.form
  obtain ⟨i0, hi, hz0, hz1, hz2⟩ := info_parts info_int
  have hmk : ∀ u : World, (Instr.makeSlice 27 (.int .i64 (l.length : Int)) (.int .i64 (l.length : Int))).run Try.prog u =
      .ok (.slice (some ⟨u.heap.size, 0, none⟩) l.length l.length) (u.alloc (.cells (List.replicate l.length (Value.int .i64 0)).toArray 3)) := fun u => by
    have h := run_make (P := Try.prog) u 27 3 i0 (.int .i64 0) Try.underlying27 hi hz0 .i64 .i64 (l.length : Int) (l.length : Int) (by omega) (Int.le_refl _) (by rw [hz2]; omega) (by omega)
    rw [hz1, Nat.mul_one, made_one _ _ rfl] at h
    simpa using h
  have HS := Lib.hid hS
  clear hS hi hz0 hz1 hz2
  have hnew : ∀ u : World, OwnV (u.alloc (.cells (List.replicate l.length (Value.int .i64 0)).toArray 3)) u.heap.size 3 (List.replicate l.length (Value.int .i64 0)) := fun u => OwnV.new u _ _
  have Hnew := Lib.hid hnew
  clear hnew
  go_enter Try.func25, Try.ntmps25
  go_wp2
  clear hmk
  go_loopw [4, 5, 6, 7, 15, 16, 17, 18, 19, 20, 21, 22, 23, 24, 25, 26, 27, 28, 29, 30, 31, 32, 33, 34, 35, 36, 37, 38, 39, 40, 41, 42, 43, 44, 45, 46, 47, 48, 49, 50, 51, 52, 53, 54, 55, 56, 57, 58, 59, 60, 61, 62, 63] (fun t4 t5 _ _ _ _ _ _ _ _ _ _ _ _ _ _ _ _ _ _ _ _ _ _ _ _ _ _ _ _ _ _ _ _ _ _ _ _ _ _ _ _ _ _ _ _ _ _ _ _ _ _ _ wr => ∃ (i : Nat) (ys : List Int) (m : Int), i ≤ l.length ∧ t5 = .int .i64 i ∧ t4 = .int .i64 m ∧ LevInv l i ys ∧ MaxTo ys i m ∧ OwnV wr w.heap.size 3 (ys.map (Value.int .i64)) ∧ Below w.heap.size w wr) (fun _ t5 _ _ _ _ _ _ _ _ _ _ _ _ _ _ _ _ _ _ _ _ _ _ _ _ _ _ _ _ _ _ _ _ _ _ _ _ _ _ _ _ _ _ _ _ _ _ _ _ _ _ _ _ => l.length - (intOf t5).toNat)
  case atStart => exact ⟨0, _, -1, by omega, rfl, rfl, LevInv.start l, .inl ⟨rfl, rfl⟩, by simpa using Hnew.out w, (Below.refl _ _).alloc (Nat.le_refl _) _⟩
  case round =>
    obtain ⟨i, ys, m, hi, rfl, rfl, hI, hM, hO, hb⟩ := hrel
    obtain ⟨wo, rfl⟩ : ∃ wo : World, wo = wr := ⟨_, rfl⟩
    by_cases hlt : i < l.length
    · have hlt1 : (i : Int) < l.length := by omega
      have HN := Lib.hid (refNeeds_own l _ i wo (HS.out.below hb (Nat.le_refl _)) hlt (by omega))
      have hmem : ∀ x : Int, x ∈ pick (fun k => cfl l k i) i ↔ 0 ≤ x ∧ x < i ∧ cfl l x.toNat i = true := fun x => mem_pick
      have hnd := pick_nodup (fun k => cfl l k i) i
      generalize pick (fun k => cfl l k i) i = N at *
      have hI0 : InnInv l i (leftOf N 0) ys := InnInv.start hI (fun j hj hc => by unfold leftOf; rw [decide_eq_true_eq, List.drop_zero, hmem]; exact ⟨by omega, by omega, by simpa using hc⟩)
      have Hmem := Lib.hid hmem
      have Hnd := Lib.hid hnd
      have HM := Lib.hid hM
      have Hgl := Lib.hid hO.lt
      have HO := Lib.hid hO
      have Hb := Lib.hid hb
      have HI0 := Lib.hid hI0
      clear hmem hnd hI hM hO hb hI0
      go_wp2_with (go_at_call 24; refine HN.out.mono ?_; rintro e w2 ⟨nr, rfl, hnr, hb2⟩; obtain ⟨na, ncap, rfl, hnc, hnm⟩ := (Ints.of_own hnr).form)
      have HNr := Lib.hid hnr
      have HO2 := Lib.hid (HO.out.below hb2 (Nat.le_refl _))
      have Hb2 := Lib.hid (Hb.out.trans (hb2.mono Hb.out.size))
      clear hnr hb2
      go_loopw [7, 24, 25, 26, 27, 28, 29, 30, 31, 32, 33, 34, 35, 36, 37, 38, 39, 40, 41, 42, 43, 44, 45, 46, 47, 48, 49, 50, 51, 52, 53] (fun t7 _ _ _ _ _ _ _ _ _ _ _ _ _ _ _ _ _ _ _ _ _ _ _ _ _ _ _ _ _ _ wr => ∃ (k : Nat) (zs : List Int), k ≤ N.length ∧ t7 = .int .i64 k ∧ InnInv l i (leftOf N k) zs ∧ (∀ j, j < i → zs.getD j 0 = ys.getD j 0) ∧ OwnV wr w.heap.size 3 (zs.map (Value.int .i64)) ∧ wr.ownsRow wo.heap.size 3 1 (.slice na N.length ncap) N.length (N.map (Value.int .i64)) ∧ Below w.heap.size w wr) (fun t7 _ _ _ _ _ _ _ _ _ _ _ _ _ _ _ _ _ _ _ _ _ _ _ _ _ _ _ _ _ _ _ => N.length - (intOf t7).toNat)
      case atStart => exact ⟨0, ys, by omega, rfl, HI0.out, fun _ _ => rfl, HO2.out, HNr.out, Hb2.out⟩
      case round =>
        obtain ⟨k, zs, hk, rfl, hI, hzy, hO, hNr, hb3⟩ := hrel
        have hlen := hI.1
        have y3 := hI.2.2.2.2
        have y4 := hI.2.2.2.1.2.2
        by_cases hkl : k < N.length
        · have hkl1 : (k : Int) < N.length := by omega
          obtain ⟨nb, noff, rfl, _, hcn⟩ := (Ints.of_own hNr).at hkl
          have cn := hcn k hkl
          obtain ⟨g0, g1, g2⟩ := (Hmem.out N[k]).1 (List.getElem_mem hkl)
          have Hst : Hid (∀ j : Nat, N[k] = (j : Int) → ∀ i, leftOf N (k + 1) i = false ↔ leftOf N k i = false ∨ i = j) := Lib.hid fun j hj i => leftOf_step Hnd.out hkl hj i
          generalize N[k] = x at *
          obtain ⟨j, rfl⟩ := Int.eq_ofNat_of_zero_le g0
          rw [Int.toNat_natCast] at g2
          have hji : j < i := by omega
          have y1 := (hI.2.1 j hji).2
          have y2 := (hI.2.1 j hji).1.2.2
          have ck := hO.cell (map_cell (show i < zs.length by omega))
          have cj := hO.cell (map_cell (show j < zs.length by omega))
          have fk := hO.free i
          have hl1 : (j : Int) < l.length := by omega
          obtain ⟨q, hq, hq2⟩ : ∃ q : Bool, decide (zs.getD j 0 + 1 > zs.getD i 0) = q ∧ max (zs.getD i 0) (zs.getD j 0 + 1) = (if q = true then zs.getD j 0 + 1 else zs.getD i 0) := by
            refine ⟨_, rfl, ?_⟩
            rcases Int.lt_or_le (zs.getD i 0) (zs.getD j 0 + 1) with h | h
            · rw [if_pos (by simpa using h)]; exact Int.max_eq_right (by omega)
            · rw [if_neg (by simpa using h)]; exact Int.max_eq_left h
          have hnxt := hI.step hlt hji g2 (Hst.out j rfl)
          rw [hq2] at hnxt
          have hzy2 : ∀ y, ∀ j, j < i → (zs.set i y).getD j 0 = ys.getD j 0 := fun y j hj => by rw [getD_set_ne (by omega)]; exact hzy j hj
          have hss := set_same (ys := zs) (k := i) (by omega)
          have hmset : ∀ y, (zs.set i y).map (Value.int .i64) = (zs.map (Value.int .i64)).set i (.int .i64 y) := fun y => by rw [List.map_set]
          generalize hzj : zs.getD j 0 = zj at *
          generalize hzi : zs.getD i 0 = zi at *
          have Hnxt := Lib.hid hnxt
          have Hzy2 := Lib.hid hzy2
          have Hss := Lib.hid hss
          have Hms := Lib.hid hmset
          have HO3 := Lib.hid hO
          have HN3 := Lib.hid hNr
          have Hb3 := Lib.hid hb3
          have hglt := hO.lt
          have hsz : w.heap.size ≤ wr.heap.size := hb3.size
          have Hzy := Lib.hid hzy
          clear hnxt hzy2 hss hmset hO hNr hb3 hI hzy hcn hq2 hzj hzi Hst
          go_wp2
          refine wp_region_seq (fun w' => Below wr.heap.size wr w') (by kernel_rfl) (by kernel_rfl) ((Below.refl _ _).drew) ?_
          repeat
            try simp only [Act.put, List.setIfInBounds_toArray, List.set_cons_succ, List.set_cons_zero]
            apply stepsSeq.cons
            · intro w' hb1
              have Hb1' := Lib.hid hb1
              have cn' := Below.keep hb1 cn
              have ck' := Below.keep hb1 ck
              have cj' := Below.keep hb1 cj
              simp only [Act.put, List.setIfInBounds_toArray, List.set_cons_succ, List.set_cons_zero]
              go_wp2_with (fail)
              first | exact ⟨rfl, Hb1'.out⟩ | exact ⟨rfl, Hb1'.out.trans (hb2.mono Hb1'.out.size)⟩
          try simp only [Act.put, List.setIfInBounds_toArray, List.set_cons_succ, List.set_cons_zero]
          refine stepsSeq.nil ?_
          intro w' hb1
          have hO4 := HO3.out.below hb1 (Nat.le_refl _)
          have HN4 := Lib.hid (own_below HN3.out hb1 (Nat.le_refl _))
          have cn4 := Below.keep hb1 cn
          have ck4 := Below.keep hb1 ck
          have cj4 := Below.keep hb1 cj
          have fk4 := hO4.free i
          have Hb4 := Lib.hid (Hb3.out.trans (hb1.mono hsz))
          have HO4 := Lib.hid hO4
          clear cn ck cj fk hb1 hO4
          cases q
          · go_wp2
            go_roundw
            case rel => exact ⟨k + 1, zs, by omega, by go_num, by have h := Hnxt.out; rw [if_neg (by simp), Hss.out] at h; exact h, Hzy.out, HO4.out, HN4.out, Hb4.out⟩
            case measure => simp [intOf]; omega
          · go_wp2
            go_roundw
            case rel => exact ⟨k + 1, zs.set i (zj + 1), by omega, by go_num, by have h := Hnxt.out; rw [if_pos rfl] at h; exact h, Hzy2.out _, by rw [Hms.out]; exact HO4.out.set i _, own_set_other HN4.out Hgl.out _ _, Hb4.out.setCell (Nat.le_refl _) _⟩
            case measure => simp [intOf]; omega
        · have hkl1 : ¬ (k : Int) < N.length := by omega
          have hI2 := hI.done (fun j => by unfold leftOf; rw [List.drop_of_length_le (by omega)]; simp)
          have ck := hO.cell (map_cell (show i < zs.length by omega))
          have hM2 := (HM.out.congr hzy).step y4
          obtain ⟨q, hq, hq2⟩ : ∃ q : Bool, decide (zs.getD i 0 > m) = q ∧ (if m < zs.getD i 0 then zs.getD i 0 else m) = (if q = true then zs.getD i 0 else m) := ⟨_, rfl, by simp⟩
          rw [hq2] at hM2
          generalize zs.getD i 0 = zi at *
          have HI2 := Lib.hid hI2
          have HM2 := Lib.hid hM2
          have HO3 := Lib.hid hO
          have Hb3 := Lib.hid hb3
          clear hI2 hM2 hO hb3 hI hq2 hNr hzy
          cases q
          · go_wp2
            go_roundw
            case rel => exact ⟨i + 1, zs, m, by omega, by go_num, rfl, HI2.out, by have h := HM2.out; rw [if_neg (by simp)] at h; exact h, HO3.out, Hb3.out⟩
            case measure => simp [intOf]; omega
          · go_wp2
            go_roundw
            case rel => exact ⟨i + 1, zs, zi, by omega, by go_num, rfl, HI2.out, by have h := HM2.out; rw [if_pos rfl] at h; exact h, HO3.out, Hb3.out⟩
            case measure => simp [intOf]; omega
    · obtain rfl : i = l.length := by omega
      have hlt1 : ¬ (l.length : Int) < l.length := by omega
      have hfin : (l.length = 0 ∧ m = -1) ∨ (IsMax ys m ∧ 0 ≤ m ∧ m < l.length) := by
        have hIl := hI.1
        rcases hM with h | ⟨h1, j, hj, h2⟩
        · exact .inl h
        · have hmx : IsMax ys m := by
            refine ⟨by rw [← h2, List.getD_eq_getElem?_getD, List.getElem?_eq_getElem (by omega)]; exact List.getElem_mem _, fun x hx => ?_⟩
            obtain ⟨k, hk, rfl⟩ := List.getElem_of_mem hx
            have := h1 k (by omega)
            rwa [List.getD_eq_getElem?_getD, List.getElem?_eq_getElem hk] at this
          exact .inr ⟨hmx, lev_bound hIl hI.2.1 hmx⟩
      have hm1 : -1 ≤ m ∧ m < 16 := by omega
      have Hfin := Lib.hid hfin
      have HI := Lib.hid hI
      have HO := Lib.hid hO
      have Hb := Lib.hid hb
      have hyl := hI.1
      clear hfin hI hM hO hb
      go_wp2
      go_loopw [8, 9, 10, 11, 64, 65, 66, 67, 68, 69, 70, 71, 72, 73, 74, 75, 76, 77, 78, 79, 80, 81, 82, 83, 84, 85, 86, 87, 88] (fun t8 t9 _ _ _ _ _ _ _ _ _ _ _ _ _ _ _ _ _ _ _ _ _ _ _ _ _ _ _ wr => ∃ (n : Nat) (vs : List Value), (n : Int) ≤ m + 1 ∧ t9 = .int .i64 n ∧ wr.ownsRow wo.heap.size 27 1 t8 n vs ∧ RowsI wr t8.ownBlock (rowsOf l.length ys n) vs ∧ Below wo.heap.size wo wr) (fun _ t9 _ _ _ _ _ _ _ _ _ _ _ _ _ _ _ _ _ _ _ _ _ _ _ _ _ _ _ _ => (m + 1 - intOf t9).toNat)
      case atStart => exact ⟨0, [], by omega, rfl, World.ownsRow_nil _ _ _ _, RowsI.nil _ _, Below.refl _ _⟩
      case round =>
        obtain ⟨n, vs, hn, rfl, hown, hrows, hb⟩ := hrel
        by_cases hnm : (n : Int) ≤ m
        · have hu : ∀ g, u8.ownBlock = some g → g < wr.heap.size := fun g hg => (hown.lt g hg).2
          have Hown := Lib.hid hown
          have Hrows := Lib.hid hrows
          have Hb3 := Lib.hid hb
          have Hu := Lib.hid hu
          have HO3 := Lib.hid (HO.out.below hb (Nat.le_refl _))
          clear hown hrows hb hu
          obtain ⟨wp, rfl⟩ : ∃ wp : World, wp = wr := ⟨_, rfl⟩
          go_wp2
          go_loopw [10, 11, 69, 70, 71, 72, 73, 74, 75, 76, 77, 78, 79, 80, 81, 82, 83, 84] (fun t10 t11 _ _ _ _ _ _ _ _ _ _ _ _ _ _ _ _ wr => ∃ k : Nat, k ≤ l.length ∧ t11 = .int .i64 k ∧ wr.ownsRow wp.heap.size 3 1 t10 (pick (fun i => ys.getD i 0 == (n : Int)) k).length ((pick (fun i => ys.getD i 0 == (n : Int)) k).map (Value.int .i64)) ∧ Below wp.heap.size wp wr) (fun _ t11 _ _ _ _ _ _ _ _ _ _ _ _ _ _ _ _ _ => l.length - (intOf t11).toNat)
          case atStart => exact ⟨0, by omega, rfl, World.ownsRow_nil _ _ _ _, Below.refl _ _⟩
          case round =>
            obtain ⟨k, hk, rfl, hown, hb⟩ := hrel
            by_cases hkl : k < l.length
            · have hkl1 : (k : Int) < l.length := by omega
              have ck := (HO3.out.below hb (Nat.le_refl _)).cell (map_cell (show k < ys.length by omega))
              have hp := pick_len (fun i => ys.getD i 0 == (n : Int)) k
              have Hps := Lib.hid (pick_succ (fun i => ys.getD i 0 == (n : Int)) k)
              obtain ⟨q, hq⟩ : ∃ q : Bool, (ys.getD k 0 == (n : Int)) = q := ⟨_, rfl⟩
              have Hq := Lib.hid hq
              generalize ys.getD k 0 = yk at ck hq
              have hb5 := hb.size
              cases q
              · have Hown2 := Lib.hid hown
                have Hb4 := Lib.hid hb
                clear hown hb
                go_wp2
                go_roundw
                case rel => exact ⟨k + 1, by omega, by go_num, by rw [Hps.out, Hq.out]; simpa using Hown2.out, Hb4.out⟩
                case measure => simp [intOf]; omega
              · go_wp2_with (at_builtin; refine wpList_append_new rfl _ _ 27 rfl hown info_int Try.underlying27 rfl (by decide) rfl 1 1 rfl rfl rfl (by unfold maxLen; omega) (by omega) hb5 ?_; intro v' w' hown5 hg5 hb6)
                go_roundw
                case rel => exact ⟨k + 1, by omega, by go_num, by rw [Hps.out, Hq.out]; simpa using hown5, hb.trans hb6⟩
                case measure => simp [intOf]; omega
            · obtain rfl : k = l.length := by omega
              have hkl1 : ¬ (l.length : Int) < l.length := by omega
              have hI3 := Ints.of_own hown
              have hlt3 := hown.lt
              have hrows3 := Hrows.out.below hb (Nat.le_refl _)
              have hown4 := own_below Hown.out hb (Nat.le_refl _)
              have hb7 := Hb3.out.trans (hb.mono Hb3.out.size)
              have hsz := hb7.size
              have hp := pick_len (fun i => ys.getD i 0 == (n : Int)) l.length
              obtain ⟨ra, rcap, rfl, _, _⟩ := hI3.form
              have Hlt3 := Lib.hid hlt3
              have Hb7 := Lib.hid hb7
              have HI3 := Lib.hid hI3
              have Hrows3 := Lib.hid hrows3
              clear hlt3 hown hb hb7 hI3 hrows3
              go_wp2_with (at_builtin; refine wpList_append_at rfl _ _ 40 rfl hown4 info_ints Try.underlying40 rfl (by decide) rfl 1 1 rfl rfl rfl (by unfold maxLen; omega) (by omega) hsz ?_; intro v' w4 hown5 hg5 hb8 hat5)
              have hne : (pick (fun i => ys.getD i 0 == (n : Int)) l.length).length = 0 ∨ Value.ownBlock (.slice ra (pick (fun i => ys.getD i 0 == (n : Int)) l.length).length rcap) ≠ u8.ownBlock := by
                by_cases h0 : (pick (fun i => ys.getD i 0 == (n : Int)) l.length).length = 0
                · exact .inl h0
                · refine .inr fun e => ?_
                  obtain ⟨b, off, rfl, _, _⟩ := HI3.out.at (k := 0) (by omega)
                  have h3 := (Hlt3.out b rfl).1
                  have h4 := Hu.out b e.symm
                  omega
              have r3 := Hrows3.out.push HI3.out hne
              have r4 := (Hrows3.out.grown hg5).push (Sl.grown HI3.out hg5 hne) hne
              have r5 := r3.turn r4 hat5
              go_roundw
              case rel => exact ⟨n + 1, _, by omega, by go_num, hown5, by rw [rowsOf_succ]; exact r5, Hb7.out.trans hb8⟩
              case measure => simp [intOf]; omega
        · have e : (n : Int) = m + 1 := by omega
          have He := Lib.hid e
          have hnm2 : ¬ (n : Int) ≤ m := hnm
          clear e
          go_wp2
          go_ret
          have hb9 := Hb.out.trans (hb.mono Hb.out.size)
          rcases Hfin.out with ⟨h0, hm⟩ | ⟨hmx, h0, _⟩
          · obtain rfl : n = 0 := by have := He.out; omega
            refine ⟨_, rfl, [], ⟨vs, ?_, ?_⟩, hb9, .inl ⟨List.eq_nil_of_length_eq_zero h0, rfl⟩⟩
            · exact Sl.of_own hown
            · have := hrows.toNone; simpa [rowsOf] using this
          · refine ⟨_, rfl, rowsOf l.length ys n, ⟨vs, ?_, hrows.toNone⟩, hb9, .inr ⟨ys, m, hyl, HI.out.2.1, hmx, by congr 1; have := He.out; omega⟩⟩
            show Sl wr 1 (rowsOf l.length ys n).length vs _
            rw [rowsOf_len]; exact Sl.of_own hown
end Go.Proofs.Ytbcfanfnnmijdaa
