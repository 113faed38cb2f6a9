/- The reference's longest and Chain, walked: of a valid list it makes the program's chain. No condition but that the argument reads as systems. -/
import Derived.Test.YtbcfanfnnmijdaaRStages
import Derived.Test.YtbcfanfnnmijdaaRChainM
namespace Go.Proofs.Ytbcfanfnnmijdaa
open Go.RowKit

set_option maxRecDepth 100000 in
set_option maxHeartbeats 1000000 in
theorem refLongest_any (l : List Sys) (v : Value) (w : World) (hS : Syss w l v) (h16 : l.length ≤ 16) :
    Calls Try.prog 39 #[v] w fun e w' => ∃ r xs, e = .returned r ∧ Ints w' xs r ∧ Below w.heap.size w w' ∧ xs.length = l.length ∧ LongFrom l xs 0 := by
  obtain ⟨a, cap, rfl, hlc, hcm⟩ := hS.form
  obtain ⟨i0, hi, hz0, hz1, hz2⟩ := info_parts info_int
  have hmk : ∀ u : World, (Instr.makeSlice 27 (.int .i64 (l.length : Int)) (.int .i64 (l.length : Int))).run Try.prog u =
      .ok (.slice (some ⟨u.heap.size, 0, none⟩) l.length l.length) (u.alloc (.cells (List.replicate l.length (Value.int .i64 0)).toArray 3)) := fun u => by
    have h := run_make (P := Try.prog) u 27 3 i0 (.int .i64 0) Try.underlying27 hi hz0 .i64 .i64 (l.length : Int) (l.length : Int) (by omega) (Int.le_refl _) (by rw [hz2]; omega) (by omega)
    rw [hz1, Nat.mul_one, made_one _ _ rfl] at h
    simpa using h
  have HS := Lib.hid hS
  clear hS hi hz0 hz1 hz2
  have hnew : ∀ u : World, OwnV (u.alloc (.cells (List.replicate l.length (Value.int .i64 0)).toArray 3)) u.heap.size 3 (List.replicate l.length (Value.int .i64 0)) := fun u => OwnV.new u _ _
  have Hnew := Lib.hid hnew
  clear hnew
  go_enter Try.func39, Try.ntmps39
  go_wp2
  clear hmk
  go_loopw [4, 5, 12, 13, 14, 15, 16, 17, 18, 19, 20, 21, 22, 23, 24, 25, 26, 27, 28, 29, 30, 31, 32, 33, 34, 35, 36, 37, 38, 39, 40, 41, 42, 43, 44, 45, 46, 47, 48, 49, 50, 51, 52, 53, 54, 55] (fun t4 _ _ _ _ _ _ _ _ _ _ _ _ _ _ _ _ _ _ _ _ _ _ _ _ _ _ _ _ _ _ _ _ _ _ _ _ _ _ _ _ _ _ _ _ _ wr => ∃ (n : Nat) (xs : List Int), n ≤ l.length ∧ t4 = .int .i64 ((n : Int) - 1) ∧ xs.length = l.length ∧ LongFrom l xs n ∧ OwnV wr w.heap.size 3 (xs.map (Value.int .i64)) ∧ Below w.heap.size w wr) (fun t4 _ _ _ _ _ _ _ _ _ _ _ _ _ _ _ _ _ _ _ _ _ _ _ _ _ _ _ _ _ _ _ _ _ _ _ _ _ _ _ _ _ _ _ _ _ _ => (intOf t4 + 1).toNat)
  case atStart => exact ⟨l.length, List.replicate l.length 0, by omega, rfl, by simp, fun i h1 h2 => by omega, by simpa using Hnew.out w, (Below.refl _ _).alloc (Nat.le_refl _) _⟩
  case round =>
    obtain ⟨n, xs, hn, h4, hxl, hL, hO, hb⟩ := hrel
    obtain ⟨wo, rfl⟩ : ∃ wo : World, wo = wr := ⟨_, rfl⟩
    cases n with
    | zero =>
      subst h4
      have HL := Lib.hid hL
      have HO := Lib.hid hO
      have Hb := Lib.hid hb
      clear hL hO hb
      go_wp2
      go_ret
      refine ⟨_, xs, rfl, ?_, Hb.out, hxl, HL.out⟩
      have h := Ints.of_own (HO.out.own (n := xs.length) (cap := l.length) (Nat.le_refl _) (by simp) (by omega) (by unfold maxLen; omega))
      rw [hxl] at h
      exact h
    | succ i =>
      rw [show ((i + 1 : Nat) : Int) - 1 = (i : Int) from by omega] at h4
      subst h4
      have hil : i < l.length := by omega
      have hil1 : (i : Int) < l.length := by omega
      have fk := hO.free i
      have ck := hO.cell (map_cell (show i < xs.length by omega))
      have hI0 := LongIn.start hil hxl
      have hL0 := hL.set 1
      have hO0 := hO.set i (.int .i64 1)
      rw [← List.map_set] at hO0
      have hb0 : Below w.heap.size w (wo.setCell ⟨w.heap.size, i, none⟩ (.int .i64 1)) := hb.setCell (Nat.le_refl _) _
      have HI0 := Lib.hid hI0
      have HL0 := Lib.hid hL0
      have HO0 := Lib.hid hO0
      have Hb0 := Lib.hid hb0
      clear hL hO hb hI0 hL0 hO0 hb0
      go_wp2
      generalize wo.setCell ⟨w.heap.size, i, none⟩ (.int .i64 1) = w2 at *
      go_loopw [5, 21, 22, 23, 24, 25, 26, 27, 28, 29, 30, 31, 32, 33, 34, 35, 36, 37, 38, 39, 40, 41, 42, 43, 44, 45, 46, 47, 48, 49, 50, 51, 52, 53, 54, 55] (fun t5 _ _ _ _ _ _ _ _ _ _ _ _ _ _ _ _ _ _ _ _ _ _ _ _ _ _ _ _ _ _ _ _ _ _ _ wr => ∃ (k : Nat) (zs : List Int), i < k ∧ k ≤ l.length ∧ t5 = .int .i64 k ∧ zs.length = l.length ∧ LongFrom l zs (i + 1) ∧ LongIn l zs i k ∧ OwnV wr w.heap.size 3 (zs.map (Value.int .i64)) ∧ Below w.heap.size w wr) (fun t5 _ _ _ _ _ _ _ _ _ _ _ _ _ _ _ _ _ _ _ _ _ _ _ _ _ _ _ _ _ _ _ _ _ _ _ _ => l.length - (intOf t5).toNat)
      case atStart => exact ⟨i + 1, xs.set i 1, by omega, by omega, by go_num, by simpa using hxl, HL0.out, HI0.out, HO0.out, Hb0.out⟩
      case round =>
        obtain ⟨k, zs, hik, hk, rfl, hzl, hL, hI, hO, hb⟩ := hrel
        by_cases hkl : k < l.length
        · have hkl1 : (k : Int) < l.length := by omega
          obtain ⟨sb, soff, rfl, _, hsc⟩ := (HS.out.below hb (Nat.le_refl _)).at hil
          obtain ⟨a0, a1, a2, a3⟩ := hsc i hil
          obtain ⟨b0, b1, b2, b3⟩ := hsc k hkl
          have Hcf : Hid (cfl l i k = conf (l[i]'hil) (l[k]'hkl)) := Lib.hid (cfl_eq hil hkl)
          have ci := hO.cell (map_cell (show i < zs.length by omega))
          have ckk := hO.cell (map_cell (show k < zs.length by omega))
          have y1 := (hL k (by omega) hkl).2.2.1
          have y2 := (hL k (by omega) hkl).2.2.2
          have y3 := hI.2.2.1
          have y4 := hI.2.2.2
          have Hskip : Hid (cfl l i k = false ∨ zs.getD k 0 + 1 ≤ zs.getD i 0 → LongIn l zs i (k + 1)) := Lib.hid fun h => hI.skip h
          have Htake : Hid (cfl l i k = true → zs.getD i 0 < zs.getD k 0 + 1 → LongIn l (zs.set i (zs.getD k 0 + 1)) i (k + 1)) := Lib.hid fun h1 h2 => hI.take (by omega) hik h1 h2 y2
          have Hset : Hid (∀ y, LongFrom l (zs.set i y) (i + 1)) := Lib.hid fun y => hL.set y
          have Hms : Hid (∀ y, (zs.set i y).map (Value.int .i64) = (zs.map (Value.int .i64)).set i (.int .i64 y)) := Lib.hid fun y => by rw [List.map_set]
          obtain ⟨q, hq, hq2⟩ : ∃ q : Bool, decide (zs.getD k 0 + 1 > zs.getD i 0) = q ∧ (q = true ↔ zs.getD i 0 < zs.getD k 0 + 1) := ⟨_, rfl, by simp⟩
          have Hq := Lib.hid hq2
          have hglt := hO.lt
          generalize hzk : zs.getD k 0 = zk at *
          generalize hzi : zs.getD i 0 = zi at *
          have HO := Lib.hid hO
          have HL := Lib.hid hL
          have Hb := Lib.hid hb
          have hsz : w.heap.size ≤ wr.heap.size := hb.size
          cases hy : conf (l[i]'hil) (l[k]'hkl)
          · have HC := Lib.hid (refConflict_as hy)
            have Hy := Lib.hid (Hcf.out.trans hy)
            clear hO hL hb hI hsc hq2 hzk hzi hy
            go_wp2
            refine wp_region_seq (fun w' => Below wr.heap.size wr w') (by kernel_rfl) (by kernel_rfl) ((Below.refl _ _).drew) ?_
            repeat
              try simp only [Act.put, List.setIfInBounds_toArray, List.set_cons_succ, List.set_cons_zero]
              apply stepsSeq.cons
              · intro w' hb1
                have Hb1' := Lib.hid hb1
                have a0' := Below.keep hb1 a0
                have a1' := Below.keep hb1 a1
                have a2' := Below.keep hb1 a2
                have a3' := Below.keep hb1 a3
                have b0' := Below.keep hb1 b0
                have b1' := Below.keep hb1 b1
                have b2' := Below.keep hb1 b2
                have b3' := Below.keep hb1 b3
                have ci' := Below.keep hb1 ci
                have ckk' := Below.keep hb1 ckk
                simp only [Act.put, List.setIfInBounds_toArray, List.set_cons_succ, List.set_cons_zero]
                go_wp2_with (go_at_call 21; refine (HC.out _).mono ?_; rintro e w3 ⟨rfl, hb2⟩)
                first | exact ⟨rfl, Hb1'.out⟩ | exact ⟨rfl, Hb1'.out.trans (hb2.mono Hb1'.out.size)⟩
            try simp only [Act.put, List.setIfInBounds_toArray, List.set_cons_succ, List.set_cons_zero]
            refine stepsSeq.nil ?_
            intro w' hb1
            have HO2 := Lib.hid (HO.out.below hb1 (Nat.le_refl _))
            have Hb2 := Lib.hid (Hb.out.trans (hb1.mono hsz))
            clear a0 a1 a2 a3 b0 b1 b2 b3 ci ckk hb1
            go_wp2
            go_roundw
            case rel => exact ⟨k + 1, zs, by omega, by omega, by go_num, hzl, HL.out, Hskip.out (.inl Hy.out), HO2.out, Hb2.out⟩
            case measure => simp [intOf]; omega
          · have HC := Lib.hid (refConflict_as hy)
            have Hy := Lib.hid (Hcf.out.trans hy)
            clear hO hL hb hI hsc hq2 hzk hzi hy
            go_wp2
            refine wp_region_seq (fun w' => Below wr.heap.size wr w') (by kernel_rfl) (by kernel_rfl) ((Below.refl _ _).drew) ?_
            repeat
              try simp only [Act.put, List.setIfInBounds_toArray, List.set_cons_succ, List.set_cons_zero]
              apply stepsSeq.cons
              · intro w' hb1
                have Hb1' := Lib.hid hb1
                have a0' := Below.keep hb1 a0
                have a1' := Below.keep hb1 a1
                have a2' := Below.keep hb1 a2
                have a3' := Below.keep hb1 a3
                have b0' := Below.keep hb1 b0
                have b1' := Below.keep hb1 b1
                have b2' := Below.keep hb1 b2
                have b3' := Below.keep hb1 b3
                have ci' := Below.keep hb1 ci
                have ckk' := Below.keep hb1 ckk
                simp only [Act.put, List.setIfInBounds_toArray, List.set_cons_succ, List.set_cons_zero]
                go_wp2_with (go_at_call 21; refine (HC.out _).mono ?_; rintro e w3 ⟨rfl, hb2⟩)
                first | exact ⟨rfl, Hb1'.out⟩ | exact ⟨rfl, Hb1'.out.trans (hb2.mono Hb1'.out.size)⟩
            try simp only [Act.put, List.setIfInBounds_toArray, List.set_cons_succ, List.set_cons_zero]
            refine stepsSeq.nil ?_
            intro w' hb1
            have hO2 := HO.out.below hb1 (Nat.le_refl _)
            have HO2 := Lib.hid hO2
            have ci4 := Below.keep hb1 ci
            have ck4 := Below.keep hb1 ckk
            have fk4 := hO2.free i
            have Hb2 := Lib.hid (Hb.out.trans (hb1.mono hsz))
            clear a0 a1 a2 a3 b0 b1 b2 b3 ci ckk hb1 hO2
            cases q
            · go_wp2
              go_roundw
              case rel => exact ⟨k + 1, zs, by omega, by omega, by go_num, hzl, HL.out, Hskip.out (.inr (by have h := mt Hq.out.2; simp at h; omega)), HO2.out, Hb2.out⟩
              case measure => simp [intOf]; omega
            · go_wp2
              go_roundw
              case rel => exact ⟨k + 1, zs.set i (zk + 1), by omega, by omega, by go_num, by simpa using hzl, Hset.out _, Htake.out Hy.out (Hq.out.1 (by first | rfl | trivial)), by rw [Hms.out]; exact HO2.out.set i _, Hb2.out.setCell (Nat.le_refl _) _⟩
              case measure => simp [intOf]; omega
        · obtain rfl : k = l.length := by omega
          have hkl1 : ¬ (l.length : Int) < l.length := by omega
          have hL2 := hL.step hI
          have HL2 := Lib.hid hL2
          have HO := Lib.hid hO
          have Hb := Lib.hid hb
          clear hL hI hO hb hL2
          go_wp2
          go_roundw
          case rel => exact ⟨i, zs, by omega, rfl, hzl, HL2.out, HO.out, Hb.out⟩
          case measure => simp [intOf]

theorem int_same {a b : Int} (h : a = b) : Value.int .i64 a = Value.int .i64 b := by rw [h]
set_option maxRecDepth 100000 in
set_option maxHeartbeats 4000000 in
theorem refChain_any (l : List Sys) (c : List Int) (v : Value) (w : World) (hS : Syss w l v) (h16 : l.length ≤ 16) (hc : ChainOk l c) :
    Calls Try.prog 26 #[v] w fun e w' => ∃ r, e = .returned r ∧ Ints w' c r ∧ Below w.heap.size w w' := by
  obtain ⟨a, cap, rfl, hlc, hcm⟩ := hS.form
  have HLo := Lib.hid (refLongest_any l _ w hS h16)
  have HS := Lib.hid hS
  have Hco := Lib.hid hc
  clear hS hc
  go_enter Try.func26, Try.ntmps26
  go_wp2_with fail
  go_at_call 39
  refine HLo.out.mono ?_
  rintro e w1 ⟨r, xs, rfl, hI, hb1, hxl, hL⟩
  obtain ⟨xa, xcap, rfl, hxc, hxm⟩ := hI.form
  obtain ⟨hs1, hs2, hs3⟩ := chain_spots hL Hco.out
  have hcl : c.length = 0 ∨ 0 < l.length := by
    rcases Nat.eq_zero_or_pos c.length with h | h
    · exact .inl h
    · obtain ⟨K, _, hK, _⟩ := hs3 0 h
      exact .inr (by omega)
  have hcl2 : c.length ≤ 16 := by
    rcases Nat.eq_zero_or_pos c.length with h | h
    · omega
    · obtain ⟨K, _, hK, hKe, _⟩ := hs3 0 h
      have := (hL K (by omega) hK).2.2.2
      omega
  have hge : ∀ i, i < l.length → 1 ≤ xs.getD i 0 := fun i hi => (hL i (by omega) hi).2.2.1
  have Hs1 := Lib.hid hs1
  have Hs3 := Lib.hid hs3
  have HS1 := Lib.hid (HS.out.below hb1 (Nat.le_refl _))
  have HI := Lib.hid hI
  have Hb1 := Lib.hid hb1
  have Hge := Lib.hid hge
  have Hcl := Lib.hid hcl
  clear hs1 hs2 hs3 hI hb1 hL hge hcl
  go_wp2_with fail
  go_loopw [4, 5, 11, 12, 13, 14, 15, 16, 17, 18, 19, 20, 21, 22, 23, 24, 25, 26] (fun t4 t5 _ _ _ _ _ _ _ _ _ _ _ _ _ _ _ _ wr => ∃ (i : Nat) (m : Int), i ≤ l.length ∧ t5 = .int .i64 i ∧ t4 = .int .i64 m ∧ (∀ j, j < i → xs.getD j 0 ≤ m) ∧ ((i = 0 ∧ m = 0) ∨ ∃ j, j < i ∧ xs.getD j 0 = m) ∧ wr = w1) (fun _ t5 _ _ _ _ _ _ _ _ _ _ _ _ _ _ _ _ _ => l.length - (intOf t5).toNat)
  case atStart => exact ⟨0, 0, by omega, rfl, rfl, fun j hj => by omega, .inl ⟨rfl, rfl⟩, rfl⟩
  case round =>
    obtain ⟨i, m, hi, rfl, rfl, hm1, hm2, rfl⟩ := hrel
    by_cases hil : i < l.length
    · have hil1 : (i : Int) < l.length := by omega
      have hix : (i : Int) < xs.length := by omega
      obtain ⟨xb, xoff, rfl, _, hxc⟩ := HI.out.at (k := i) (by omega)
      have ci := hxc i (by omega)
      have e : xs[i]'(by omega) = xs.getD i 0 := by rw [List.getD_eq_getElem?_getD, List.getElem?_eq_getElem (by omega)]; rfl
      rw [e] at ci
      have hgi := Hge.out i hil
      obtain ⟨q, hq, hq2⟩ : ∃ q : Bool, decide (xs.getD i 0 > m) = q ∧ (q = true ↔ m < xs.getD i 0) := ⟨_, rfl, by simp⟩
      have Hq := Lib.hid hq2
      have Hm1 : Hid (∀ y : Int, m ≤ y → xs.getD i 0 ≤ y → ∀ j, j < i + 1 → xs.getD j 0 ≤ y) := Lib.hid fun y h1 h2 j hj => by
        rcases Nat.lt_or_ge j i with h | h
        · have := hm1 j h; omega
        · obtain rfl : j = i := by omega
          exact h2
      have Hm2 := Lib.hid hm2
      have Hxi : Hid (∃ j, j < i + 1 ∧ xs.getD j 0 = xs.getD i 0) := Lib.hid ⟨i, by omega, rfl⟩
      generalize hxi : xs.getD i 0 = xi at *
      clear hm1 hm2 hq2 hxc e hxi
      cases q
      · go_wp2
        go_roundw
        case rel =>
          refine ⟨i + 1, m, by omega, by go_num, rfl, Hm1.out m (Int.le_refl _) (by have h := mt Hq.out.2; simp at h; omega), ?_, by first | rfl | trivial⟩
          right
          rcases Hm2.out with ⟨rfl, rfl⟩ | ⟨j, hj, e⟩
          · exfalso
            have h := mt Hq.out.2
            simp at h
            omega
          · exact ⟨j, by omega, e⟩
        case measure => simp [intOf]; omega
      · go_wp2
        go_roundw
        case rel => exact ⟨i + 1, xi, by omega, by go_num, rfl, Hm1.out xi (by have := Hq.out.1 (by first | rfl | trivial); omega) (Int.le_refl _), .inr Hxi.out, by first | rfl | trivial⟩
        case measure => simp [intOf]; omega
    · obtain rfl : i = l.length := by omega
      have hil1 : ¬ (l.length : Int) < l.length := by omega
      have hmc : m = (c.length : Int) := by
        rcases Nat.eq_zero_or_pos c.length with h | h
        · rcases hm2 with ⟨_, h2⟩ | ⟨j, hj, e⟩
          · omega
          · have := Hs1.out j hj
            have := Hge.out j hj
            omega
        · obtain ⟨K, _, hK, hKe, _⟩ := Hs3.out 0 h
          have h1 := hm1 K hK
          rcases hm2 with ⟨h2, _⟩ | ⟨j, hj, e⟩
          · omega
          · have := Hs1.out j hj
            omega
      subst hmc
      obtain ⟨wo, rfl⟩ : ∃ wo : World, wo = wr := ⟨_, rfl⟩
      clear hm1 hm2
      go_wp2
      go_loopw [6, 7, 8, 28, 29, 30, 31, 32, 33, 34, 35, 36, 37, 38, 39, 40, 41, 42, 43, 44, 45, 46, 47, 48, 49, 50, 51, 52, 53, 54, 55, 56, 57, 58, 59, 60, 61, 62, 63, 64, 65, 66, 67, 68, 69, 70, 71, 72, 73, 74, 75, 76, 77, 78] (fun t6 t7 _ _ _ _ _ _ _ _ _ _ _ _ _ _ _ _ _ _ _ _ _ _ _ _ _ _ _ _ _ _ _ _ _ _ _ _ _ _ _ _ _ _ _ _ _ _ _ _ _ _ _ _ wr => ∃ (n t : Nat), n + t = c.length ∧ t7 = .int .i64 n ∧ wr.ownsRow wo.heap.size 3 1 t6 t ((c.take t).map (Value.int .i64)) ∧ Below wo.heap.size wo wr) (fun _ t7 _ _ _ _ _ _ _ _ _ _ _ _ _ _ _ _ _ _ _ _ _ _ _ _ _ _ _ _ _ _ _ _ _ _ _ _ _ _ _ _ _ _ _ _ _ _ _ _ _ _ _ _ _ => (intOf t7).toNat)
      case atStart => exact ⟨c.length, 0, by omega, rfl, World.ownsRow_nil _ _ _ _, Below.refl _ _⟩
      case round =>
        obtain ⟨n, t, hnt, rfl, hown, hb⟩ := hrel
        obtain ⟨wp, rfl⟩ : ∃ wp : World, wp = wr := ⟨_, rfl⟩
        by_cases htc : t < c.length
        · have hn0 : 0 < n := by omega
          obtain ⟨K, hK1, hK2, hK3, hK4⟩ := Hs3.out t htc
          obtain ⟨oa, ocap, rfl, _, _⟩ := (Sl.of_own hown).form
          have Htk : Hid (c.take (t + 1) = c.take t ++ [(K : Int)]) := Lib.hid (by rw [List.take_succ_eq_append_getElem htc, hK1])
          have hK5 : xs.getD K 0 = (n : Int) := by rw [hK3]; omega
          have Hown := Lib.hid hown
          have Hb := Lib.hid hb
          have hnn : ((c.length : Int) - t) = n := by omega
          rw [hnn] at hK4
          have HK5 := Lib.hid hK5
          have hwp : wo.heap.size ≤ wp.heap.size := hb.size
          clear hown hb hK1 hK3 hK5
          rcases hK4 with ⟨ht0, hqs⟩ | ⟨x, ht0, hx1, hx2, hx3, hqs⟩
          · have Hqs := Lib.hid hqs
            have ht1 : ((t : Int) == 0) = true := by simp [ht0]
            have Ht0 := Lib.hid ht0
            clear hqs ht0
            go_wp2
            go_loopw [6, 8, 32, 33, 34, 35, 36, 37, 38, 39, 40, 41, 42, 43, 44, 45, 46, 47, 48, 49, 50, 51, 52, 53, 54, 55, 56, 57, 58, 59, 60, 61, 62, 63, 64, 65, 66, 67, 68, 69, 70, 71, 72, 73, 74, 75, 76, 77, 78] (fun t6 t8 _ _ _ _ _ _ _ _ _ _ _ _ _ _ _ _ _ _ _ _ _ _ _ _ _ _ _ _ _ _ _ _ _ _ _ _ _ _ _ _ _ _ _ _ _ _ _ wr => ∃ i : Nat, i ≤ K ∧ t8 = .int .i64 i ∧ t6 = .slice oa t ocap ∧ Below wp.heap.size wp wr) (fun _ t8 _ _ _ _ _ _ _ _ _ _ _ _ _ _ _ _ _ _ _ _ _ _ _ _ _ _ _ _ _ _ _ _ _ _ _ _ _ _ _ _ _ _ _ _ _ _ _ _ => K - (intOf t8).toNat)
            case atStart => exact ⟨0, by omega, rfl, rfl, Below.refl _ _⟩
            case round =>
              obtain ⟨i, hi, rfl, rfl, hb3⟩ := hrel
              have hil : i < l.length := by omega
              have hil1 : (i : Int) < l.length := by omega
              have hix : (i : Int) < xs.length := by omega
              obtain ⟨xb, xoff, rfl, _, hxc⟩ := (HI.out.below (Hb.out.trans (hb3.mono hwp)) (Nat.le_refl _)).at (k := i) (by omega)
              have ci := hxc i (by omega)
              have e : xs[i]'(by omega) = xs.getD i 0 := by rw [List.getD_eq_getElem?_getD, List.getElem?_eq_getElem (by omega)]; rfl
              rw [e] at ci
              obtain ⟨q, hq, hq2⟩ : ∃ q : Bool, (xs.getD i 0 == (n : Int)) = q ∧ (q = true ↔ i = K) := by
                refine ⟨_, rfl, ?_⟩
                rw [beq_iff_eq]
                constructor
                · intro h
                  rcases Nat.lt_or_ge i K with h' | h'
                  · exact absurd h (Hqs.out i h')
                  · omega
                · rintro rfl; exact HK5.out
              have Hq := Lib.hid hq2
              generalize xs.getD i 0 = xi at *
              have Hb3 := Lib.hid hb3
              have hsz : wp.heap.size ≤ wr.heap.size := hb3.size
              clear hq2 hxc e hb3
              cases q
              · go_wp2
                refine wp_region_seq (fun w' => Below wr.heap.size wr w') (by kernel_rfl) (by kernel_rfl) ((Below.refl _ _).drew) ?_
                repeat
                  try simp only [Act.put, List.setIfInBounds_toArray, List.set_cons_succ, List.set_cons_zero]
                  apply stepsSeq.cons
                  · intro w' hb1
                    have Hb1' := Lib.hid hb1
                    have ci' := Below.keep hb1 ci
                    simp only [Act.put, List.setIfInBounds_toArray, List.set_cons_succ, List.set_cons_zero]
                    go_wp2_with (fail)
                    first | exact ⟨rfl, Hb1'.out⟩ | exact ⟨rfl, Hb1'.out.trans (hb2.mono Hb1'.out.size)⟩
                try simp only [Act.put, List.setIfInBounds_toArray, List.set_cons_succ, List.set_cons_zero]
                refine stepsSeq.nil ?_
                intro w' hb1
                have Hb4 := Lib.hid (Hb3.out.trans (hb1.mono hsz))
                clear ci hb1
                have hne : i ≠ K := fun h => by have := Hq.out.2 h; cases this
                go_wp2
                go_roundw
                case rel => exact ⟨i + 1, by omega, by go_num, rfl, Hb4.out⟩
                case measure => simp [intOf]; omega
              · go_wp2
                refine wp_region_seq (fun w' => Below wr.heap.size wr w') (by kernel_rfl) (by kernel_rfl) ((Below.refl _ _).drew) ?_
                repeat
                  try simp only [Act.put, List.setIfInBounds_toArray, List.set_cons_succ, List.set_cons_zero]
                  apply stepsSeq.cons
                  · intro w' hb1
                    have Hb1' := Lib.hid hb1
                    have ci' := Below.keep hb1 ci
                    simp only [Act.put, List.setIfInBounds_toArray, List.set_cons_succ, List.set_cons_zero]
                    go_wp2_with (fail)
                    first | exact ⟨rfl, Hb1'.out⟩ | exact ⟨rfl, Hb1'.out.trans (hb2.mono Hb1'.out.size)⟩
                try simp only [Act.put, List.setIfInBounds_toArray, List.set_cons_succ, List.set_cons_zero]
                refine stepsSeq.nil ?_
                intro w' hb1
                have hb4 := Hb3.out.trans (hb1.mono hsz)
                have hown4 := own_below Hown.out hb4 (Nat.le_refl _)
                have hb5 := Hb.out.trans (hb4.mono hwp)
                have hb6 := hb5.size
                have He := Lib.hid (Hq.out.1 (by first | rfl | trivial))
                have Hb5 := Lib.hid hb5
                clear ci hb1 hb4 hb5
                go_wp2_with (at_builtin; refine wpList_append_new rfl _ _ 27 rfl hown4 info_int Try.underlying27 rfl (by decide) rfl 1 1 rfl rfl rfl (by unfold maxLen; omega) (by omega) hb6 ?_; intro v' w' hown5 hg5 hb7)
                go_roundw
                case rel =>
                  refine ⟨n - 1, t + 1, by omega, int_same (by omega), ?_, Hb5.out.trans hb7⟩
                  rw [Htk.out, List.map_append, ← He.out]
                  exact hown5
                case measure => simp [intOf]; omega
          · have Hqs := Lib.hid hqs
            have ht1 : ((t : Int) == 0) = false := by rw [beq_eq_false_iff_ne]; omega
            obtain ⟨u, htu⟩ : ∃ u, t = u + 1 := ⟨t - 1, by omega⟩
            have hu1 : (t : Int) - 1 = u := by omega
            have hu2 : (u : Int) < t := by omega
            have hxl1 : (x : Int) < l.length := by omega
            have hxl2 : x < l.length := by omega
            obtain ⟨ob, ooff, rfl, hoblt, hocl⟩ := (Sl.of_own Hown.out).at (by omega) (by omega)
            have cu := hocl u (by omega)
            have e0 : ((c.take t).map (Value.int .i64))[u]? = some (.int .i64 (x : Int)) := by
              rw [List.getElem?_map, List.getElem?_take, if_pos (by omega)]
              rw [show t - 1 = u from by omega] at hx1
              rw [hx1]; rfl
            rw [e0] at cu
            have Hx1 := Lib.hid hx1
            have Hx3 := Lib.hid hx3
            have Htu := Lib.hid htu
            clear hqs ht0 hx1 hx3 hocl e0 htu
            go_wp2
            go_loopw [6, 8, 32, 33, 34, 35, 36, 37, 38, 39, 40, 41, 42, 43, 44, 45, 46, 47, 48, 49, 50, 51, 52, 53, 54, 55, 56, 57, 58, 59, 60, 61, 62, 63, 64, 65, 66, 67, 68, 69, 70, 71, 72, 73, 74, 75, 76, 77, 78] (fun t6 t8 _ _ _ _ _ _ _ _ _ _ _ _ _ _ _ _ _ _ _ _ _ _ _ _ _ _ _ _ _ _ _ _ _ _ _ _ _ _ _ _ _ _ _ _ _ _ _ wr => ∃ i : Nat, i ≤ K ∧ t8 = .int .i64 i ∧ t6 = .slice (some ⟨ob, ooff, none⟩) t ocap ∧ Below wp.heap.size wp wr) (fun _ t8 _ _ _ _ _ _ _ _ _ _ _ _ _ _ _ _ _ _ _ _ _ _ _ _ _ _ _ _ _ _ _ _ _ _ _ _ _ _ _ _ _ _ _ _ _ _ _ _ => K - (intOf t8).toNat)
            case atStart => exact ⟨0, by omega, rfl, rfl, Below.refl _ _⟩
            case round =>
              obtain ⟨i, hi, rfl, rfl, hb3⟩ := hrel
              have hil : i < l.length := by omega
              have hil1 : (i : Int) < l.length := by omega
              have hix : (i : Int) < xs.length := by omega
              have hb13 := Hb.out.trans (hb3.mono hwp)
              obtain ⟨xb, xoff, rfl, _, hxc⟩ := (HI.out.below hb13 (Nat.le_refl _)).at (k := i) (by omega)
              have ci := hxc i (by omega)
              have e : xs[i]'(by omega) = xs.getD i 0 := by rw [List.getD_eq_getElem?_getD, List.getElem?_eq_getElem (by omega)]; rfl
              rw [e] at ci
              have cu3 := Below.keep hb3 cu
              obtain ⟨sb, soff, rfl, _, hsc⟩ := (HS1.out.below hb13 (Nat.le_refl _)).at hil
              obtain ⟨a0, a1, a2, a3⟩ := hsc x hxl2
              obtain ⟨b0, b1, b2, b3⟩ := hsc i hil
              obtain ⟨q, q3, hq, hq3, hq2⟩ : ∃ q q3 : Bool, (xs.getD i 0 == (n : Int)) = q ∧ decide (x < i) = q3 ∧ ((q && (q3 && conf (l[x]'hxl2) (l[i]'hil))) = true ↔ i = K) := by
                refine ⟨_, _, rfl, rfl, ?_⟩
                rw [Bool.and_eq_true, Bool.and_eq_true, beq_iff_eq, decide_eq_true_eq, ← cfl_eq hxl2 hil]
                constructor
                · rintro ⟨h1, h2, h3⟩
                  rcases Nat.lt_or_ge i K with h' | h'
                  · exact absurd ⟨h1, by omega, h3⟩ (Hqs.out i h')
                  · omega
                · rintro rfl
                  exact ⟨HK5.out, by omega, Hx3.out⟩
              have Hq := Lib.hid hq2
              generalize xs.getD i 0 = xi at *
              have Hb3 := Lib.hid hb3
              have Hcu3 := Lib.hid cu3
              have hsz : wp.heap.size ≤ wr.heap.size := hb3.size
              obtain ⟨y, hy⟩ : ∃ y, conf (l[x]'hxl2) (l[i]'hil) = y := ⟨_, rfl⟩
              have HC := Lib.hid (refConflict_as hy)
              rw [hy] at Hq
              clear hq2 hxc e hb3 hsc hb13 hy
              have hq4 : (q && (q3 && y)) = true ∨ (q && (q3 && y)) = false := by cases (q && (q3 && y)) <;> simp
              rcases hq4 with hq4 | hq4
              · obtain ⟨rfl, rfl, rfl⟩ : q = true ∧ q3 = true ∧ y = true := by revert hq4; cases q <;> cases q3 <;> cases y <;> decide
                clear hq4
                go_wp2
                refine wp_region_seq (fun w' => Below wr.heap.size wr w') (by kernel_rfl) (by kernel_rfl) ((Below.refl _ _).drew) ?_
                repeat
                  try simp only [Act.put, List.setIfInBounds_toArray, List.set_cons_succ, List.set_cons_zero]
                  apply stepsSeq.cons
                  · intro w' hb1
                    have Hb1' := Lib.hid hb1
                    have ci' := Below.keep hb1 ci
                    have cu3' := Below.keep hb1 cu3
                    have a0' := Below.keep hb1 a0
                    have a1' := Below.keep hb1 a1
                    have a2' := Below.keep hb1 a2
                    have a3' := Below.keep hb1 a3
                    have b0' := Below.keep hb1 b0
                    have b1' := Below.keep hb1 b1
                    have b2' := Below.keep hb1 b2
                    have b3' := Below.keep hb1 b3
                    simp only [Act.put, List.setIfInBounds_toArray, List.set_cons_succ, List.set_cons_zero]
                    go_wp2_with (go_at_call 21; refine (HC.out _).mono ?_; rintro e w3 ⟨rfl, hb2⟩)
                    first | exact ⟨rfl, Hb1'.out⟩ | exact ⟨rfl, Hb1'.out.trans (hb2.mono Hb1'.out.size)⟩
                try simp only [Act.put, List.setIfInBounds_toArray, List.set_cons_succ, List.set_cons_zero]
                refine stepsSeq.nil ?_
                intro w' hb1
                have hb4 := Hb3.out.trans (hb1.mono hsz)
                have hown4 := own_below Hown.out hb4 (Nat.le_refl _)
                have hb5 := Hb.out.trans (hb4.mono hwp)
                have hb6 := hb5.size
                have He := Lib.hid (Hq.out.1 rfl)
                have Hb5 := Lib.hid hb5
                clear ci cu3 a0 a1 a2 a3 b0 b1 b2 b3 hb1 hb4 hb5
                go_wp2_with (at_builtin; refine wpList_append_new rfl _ _ 27 rfl hown4 info_int Try.underlying27 rfl (by decide) rfl 1 1 rfl rfl rfl (by unfold maxLen; omega) (by omega) hb6 ?_; intro v' w' hown5 hg5 hb7)
                go_roundw
                case rel =>
                  refine ⟨n - 1, t + 1, by omega, int_same (by omega), ?_, Hb5.out.trans hb7⟩
                  rw [Htk.out, List.map_append, ← He.out]
                  exact hown5
                case measure => simp [intOf]; omega
              · have hne : i ≠ K := fun h => by have := Hq.out.2 h; rw [hq4] at this; cases this
                clear Hq
                cases q <;> cases q3 <;> cases y
                all_goals first
                | (exfalso; revert hq4; decide)
                | (clear hq4
                   go_wp2
                   refine wp_region_seq (fun w' => Below wr.heap.size wr w') (by kernel_rfl) (by kernel_rfl) ((Below.refl _ _).drew) ?_
                   repeat
                     try simp only [Act.put, List.setIfInBounds_toArray, List.set_cons_succ, List.set_cons_zero]
                     apply stepsSeq.cons
                     · intro w' hb1
                       have Hb1' := Lib.hid hb1
                       have ci' := Below.keep hb1 ci
                       have cu3' := Below.keep hb1 cu3
                       have a0' := Below.keep hb1 a0
                       have a1' := Below.keep hb1 a1
                       have a2' := Below.keep hb1 a2
                       have a3' := Below.keep hb1 a3
                       have b0' := Below.keep hb1 b0
                       have b1' := Below.keep hb1 b1
                       have b2' := Below.keep hb1 b2
                       have b3' := Below.keep hb1 b3
                       simp only [Act.put, List.setIfInBounds_toArray, List.set_cons_succ, List.set_cons_zero]
                       go_wp2_with (go_at_call 21; refine (HC.out _).mono ?_; rintro e w3 ⟨rfl, hb2⟩)
                       first | exact ⟨rfl, Hb1'.out⟩ | exact ⟨rfl, Hb1'.out.trans (hb2.mono Hb1'.out.size)⟩
                   try simp only [Act.put, List.setIfInBounds_toArray, List.set_cons_succ, List.set_cons_zero]
                   refine stepsSeq.nil ?_
                   intro w' hb1
                   have Hb4 := Lib.hid (Hb3.out.trans (hb1.mono hsz))
                   clear ci cu3 a0 a1 a2 a3 b0 b1 b2 b3 hb1
                   go_wp2
                   go_roundw
                   case rel => exact ⟨i + 1, by omega, by go_num, rfl, Hb4.out⟩
                   case measure => simp [intOf]; omega)
        · obtain rfl : t = c.length := by omega
          obtain rfl : n = 0 := by omega
          have Hown := Lib.hid hown
          have Hb := Lib.hid hb
          clear hown hb
          go_wp2
          go_ret
          have h := Hown.out
          rw [List.take_length] at h
          exact ⟨_, rfl, Ints.of_own h, Hb1.out.trans (Hb.out.mono Hb1.out.size)⟩
end Go.Proofs.Ytbcfanfnnmijdaa
