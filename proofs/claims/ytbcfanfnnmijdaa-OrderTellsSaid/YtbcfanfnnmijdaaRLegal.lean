/- The reference's Legal and Ready, walked: they answer as the program's. No condition but that the arguments read as systems and integers. -/
import Derived.Test.YtbcfanfnnmijdaaRLegalM
import Derived.Test.YtbcfanfnnmijdaaRValid
namespace Go.Proofs.Ytbcfanfnnmijdaa
open Go.RowKit

set_option maxRecDepth 100000 in
set_option maxHeartbeats 1000000 in
theorem refLegal_any (l : List Sys) (o : List Int) (v ov : Value) (w : World) (hS : Syss w l v) (hok : ∀ s ∈ l, s.ok) (hO : Ints w o ov) :
    Calls Try.prog 22 #[v, ov] w fun e w' => e = .returned (.bool (legalR l o)) ∧ Below w.heap.size w w' := by
  obtain ⟨a, cap, rfl, hlc, hcm⟩ := hS.form
  obtain ⟨oa, ocap, rfl, hoc, hom⟩ := hO.form
  have HV := Lib.hid (refValid_any l _ w hS hok)
  have HS := Lib.hid hS
  have HO := Lib.hid hO
  clear hS hO hok
  by_cases hg : validS l = true ∧ o.length = l.length
  · obtain ⟨hv, hl⟩ := hg
    rw [hv] at HV
    have hlp := legal_places hv hl
    have Hlp := Lib.hid hlp
    have h16 := valid_len hv
    have hl1 : ((o.length : Int) != (l.length : Int)) = false := by simp [hl]
    have Hl := Lib.hid hl
    clear hlp hl hv
    go_enter Try.func22, Try.ntmps22
    go_wp2_with (go_at_call 20; refine HV.out.mono ?_; rintro e w1 ⟨rfl, hb1⟩)
    have HS1 := Lib.hid (HS.out.below hb1 (Nat.le_refl _))
    have HO1 := Lib.hid (HO.out.below hb1 (Nat.le_refl _))
    have Hb1 := Lib.hid hb1
    clear hb1
    go_loopw [4, 5, 6, 17, 18, 19, 20, 21, 22, 23, 24, 25, 26, 27, 28, 29, 30, 31, 32, 33, 34, 35, 36, 37, 38, 39, 40, 41, 42, 43, 44, 45, 46, 47, 48, 49] (fun _ t5 _ _ _ _ _ _ _ _ _ _ _ _ _ _ _ _ _ _ _ _ _ _ _ _ _ _ _ _ _ _ _ _ _ _ wr => ∃ i : Nat, i ≤ l.length ∧ t5 = .int .i64 i ∧ Hid (∀ j : Nat, j < i → 0 ≤ atI o j ∧ ∀ k : Nat, k < j → cfl l k j = true → atI o k ≤ atI o j) ∧ Below w1.heap.size w1 wr) (fun _ t5 _ _ _ _ _ _ _ _ _ _ _ _ _ _ _ _ _ _ _ _ _ _ _ _ _ _ _ _ _ _ _ _ _ _ _ => l.length - (intOf t5).toNat)
    case atStart => exact ⟨0, by omega, rfl, Lib.hid (by intro j hj; omega), Below.refl _ _⟩
    case round =>
      obtain ⟨i, hi, rfl, Hi, hb⟩ := hrel
      obtain ⟨wo, rfl⟩ : ∃ wo : World, wo = wr := ⟨_, rfl⟩
      have Hb := Lib.hid hb
      have HO2 := Lib.hid (HO1.out.below hb (Nat.le_refl _))
      clear hb
      by_cases hlt : i < l.length
      · have hlt1 : (i : Int) < l.length := by omega
        have HAt := Lib.hid (at_any o (i : Int) _ wo HO2.out)
        have Hno : Hid (¬ legalP l o → legalR l o = false) := Lib.hid fun h => by rw [← Bool.not_eq_true, Hlp.out]; exact h
        by_cases hneg : atI o (i : Int) < 0
        · have Hneg := Lib.hid hneg
          go_wp2_with (go_at_call 38; refine HAt.out.mono ?_; rintro e w2 ⟨rfl, rfl⟩)
          go_ret
          exact ⟨retb (Hno.out (fun h => by have := (h i hlt).1; have := Hneg.out; omega)).symm, Hb1.out.trans (Hb.out.mono Hb1.out.size)⟩
        · have hneg2 : 0 ≤ atI o (i : Int) := by omega
          go_wp2_with (go_at_call 38; refine HAt.out.mono ?_; rintro e w2 ⟨rfl, rfl⟩)
          obtain ⟨wp, rfl⟩ : ∃ wp : World, wp = wo := ⟨_, rfl⟩
          go_loopw [4, 6, 27, 28, 29, 30, 31, 32, 33, 34, 35, 36, 37, 38, 39, 40, 41, 42, 43, 44, 45, 46, 47, 48, 49] (fun _ t6 _ _ _ _ _ _ _ _ _ _ _ _ _ _ _ _ _ _ _ _ _ _ _ wr => ∃ k : Nat, k ≤ i ∧ t6 = .int .i64 k ∧ Hid (∀ j : Nat, j < k → cfl l j i = true → atI o j ≤ atI o i) ∧ Below wp.heap.size wp wr) (fun _ t6 _ _ _ _ _ _ _ _ _ _ _ _ _ _ _ _ _ _ _ _ _ _ _ _ => i - (intOf t6).toNat)
          case atStart => exact ⟨0, by omega, rfl, Lib.hid (by intro j hj; omega), Below.refl _ _⟩
          case round =>
            obtain ⟨k, hk, rfl, Hk, hb3⟩ := hrel
            have Hb3 := Lib.hid hb3
            have hb13 := Hb.out.trans (hb3.mono Hb.out.size)
            by_cases hki : k < i
            · have hki1 : (k : Int) < i := by omega
              obtain ⟨sb, soff, rfl, hsb, hsc⟩ := (HS1.out.below hb13 (Nat.le_refl _)).at hlt
              obtain ⟨a0, a1, a2, a3⟩ := hsc k (by omega)
              obtain ⟨b0, b1, b2, b3⟩ := hsc i hlt
              have hkl : k < l.length := by omega
              have hk1 : (k : Int) < l.length := by omega
              have Hcf : Hid (cfl l k i = conf (l[k]'hkl) (l[i]'hlt)) := Lib.hid (cfl_eq hkl hlt)
              have hsz : wp.heap.size ≤ wr.heap.size := hb3.size
              have HA1 : Hid (∀ (x : Int) w2, Below wr.heap.size wr w2 → Calls Try.prog 38 #[.slice oa o.length ocap, .int .i64 x] w2 fun e w' => e = .returned (.int .i64 (atI o x)) ∧ w2 = w') := Lib.hid fun x w2 h => at_any o x _ w2 (HO2.out.below (Hb3.out.trans (h.mono Hb3.out.size)) (Nat.le_refl _))
              clear hsc hb3 hb13
              cases hy : conf (l[k]'hkl) (l[i]'hlt)
              · have HC := Lib.hid (refConflict_as hy)
                have Hy := Lib.hid hy
                clear hy
                go_wp2
                refine wp_region_seq (fun w' => Below wr.heap.size wr w') (by kernel_rfl) (by kernel_rfl) ((Below.refl _ _).drew) ?_
                repeat
                  try simp only [Act.put, List.setIfInBounds_toArray, List.set_cons_succ, List.set_cons_zero]
                  apply stepsSeq.cons
                  · intro w' hb1
                    have Hb1' := Lib.hid hb1
                    have a0' := Below.keep hb1 a0
                    have a1' := Below.keep hb1 a1
                    have a2' := Below.keep hb1 a2
                    have a3' := Below.keep hb1 a3
                    have b0' := Below.keep hb1 b0
                    have b1' := Below.keep hb1 b1
                    have b2' := Below.keep hb1 b2
                    have b3' := Below.keep hb1 b3
                    simp only [Act.put, List.setIfInBounds_toArray, List.set_cons_succ, List.set_cons_zero]
                    go_wp2_with (go_at_call 21; refine (HC.out _).mono ?_; rintro e w3 ⟨rfl, hb2⟩)
                    first | exact ⟨rfl, Hb1'.out⟩ | exact ⟨rfl, Hb1'.out.trans (hb2.mono Hb1'.out.size)⟩
                try simp only [Act.put, List.setIfInBounds_toArray, List.set_cons_succ, List.set_cons_zero]
                refine stepsSeq.nil ?_
                intro w' hb1
                have hb4 := Hb3.out.trans (hb1.mono hsz)
                clear a0 a1 a2 a3 b0 b1 b2 b3 hb1
                go_wp2
                go_roundw
                case rel =>
                  refine ⟨k + 1, by omega, by go_num, Lib.hid (fun j hj hc => ?_), hb4⟩
                  rcases Nat.lt_or_ge j k with h | h
                  · exact Hk.out j h hc
                  · obtain rfl : j = k := by omega
                    rw [Hcf.out, Hy.out] at hc; cases hc
                case measure => simp [intOf]; omega
              · have HC := Lib.hid (refConflict_as hy)
                have Hy := Lib.hid hy
                clear hy
                obtain ⟨q, hq⟩ : ∃ q : Bool, decide (atI o (k : Int) > atI o (i : Int)) = q := ⟨_, rfl⟩
                have Hq : Hid (q = true ↔ atI o (k : Int) > atI o (i : Int)) := Lib.hid (by rw [← hq, decide_eq_true_eq])
                go_wp2
                refine wp_region_seq (fun w' => Below wr.heap.size wr w') (by kernel_rfl) (by kernel_rfl) ((Below.refl _ _).drew) ?_
                repeat
                  try simp only [Act.put, List.setIfInBounds_toArray, List.set_cons_succ, List.set_cons_zero]
                  apply stepsSeq.cons
                  · intro w' hb1
                    have Hb1' := Lib.hid hb1
                    have a0' := Below.keep hb1 a0
                    have a1' := Below.keep hb1 a1
                    have a2' := Below.keep hb1 a2
                    have a3' := Below.keep hb1 a3
                    have b0' := Below.keep hb1 b0
                    have b1' := Below.keep hb1 b1
                    have b2' := Below.keep hb1 b2
                    have b3' := Below.keep hb1 b3
                    simp only [Act.put, List.setIfInBounds_toArray, List.set_cons_succ, List.set_cons_zero]
                    go_wp2_with (first | (go_at_call 21; refine (HC.out _).mono ?_; rintro e w3 ⟨rfl, hb2⟩) | (go_at_call 38; refine (HA1.out _ _ Hb1'.out).mono ?_; rintro e w3 ⟨rfl, rfl⟩))
                    first | exact ⟨rfl, Hb1'.out⟩ | exact ⟨rfl, Hb1'.out.trans (hb2.mono Hb1'.out.size)⟩
                try simp only [Act.put, List.setIfInBounds_toArray, List.set_cons_succ, List.set_cons_zero]
                refine stepsSeq.nil ?_
                intro w' hb1
                have hb4 := Hb3.out.trans (hb1.mono hsz)
                clear a0 a1 a2 a3 b0 b1 b2 b3 hb1 hq
                cases q
                · go_wp2
                  go_roundw
                  case rel =>
                    refine ⟨k + 1, by omega, by go_num, Lib.hid (fun j hj hc => ?_), hb4⟩
                    rcases Nat.lt_or_ge j k with h | h
                    · exact Hk.out j h hc
                    · obtain rfl : j = k := by omega
                      refine Classical.byContradiction fun hn => ?_
                      have := Hq.out.2 (by omega)
                      cases this
                  case measure => simp [intOf]; omega
                · go_wp2
                  go_ret
                  have hb5 := Hb1.out.trans ((Hb.out.trans (hb4.mono Hb.out.size)).mono Hb1.out.size)
                  exact ⟨retb (Hno.out (fun h => by have := (h i hlt).2 k hki (by rw [Hcf.out, Hy.out]); have := Hq.out.1 (by first | rfl | trivial); omega)).symm, hb5⟩
            · obtain rfl : k = i := by omega
              clear hb13 hb3
              go_wp2
              go_roundw
              case rel =>
                refine ⟨k + 1, by omega, by go_num, Lib.hid (fun j hj => ?_), Hb.out.trans (Hb3.out.mono Hb.out.size)⟩
                rcases Nat.lt_or_ge j k with h | h
                · exact Hi.out j h
                · obtain rfl : j = k := by omega
                  exact ⟨hneg2, Hk.out⟩
              case measure => simp [intOf]; omega
      · have hge : ¬ (i : Int) < l.length := by omega
        go_wp2
        go_ret
        exact ⟨retb ((Hlp.out).2 (fun j hj => Hi.out j (by omega))).symm, Hb1.out.trans (Hb.out.mono Hb1.out.size)⟩
  · have hno : legalR l o = false := by
      rw [← Bool.not_eq_true]
      intro h
      unfold legalR at h
      simp only [Bool.and_eq_true, decide_eq_true_eq] at h
      exact hg ⟨h.1, h.2.1⟩
    rw [hno]
    obtain ⟨q1, hq1⟩ : ∃ q1 : Bool, validS l = q1 := ⟨_, rfl⟩
    obtain ⟨q2, hq2, hq3⟩ : ∃ q2 : Bool, ((o.length : Int) != (l.length : Int)) = q2 ∧ (q2 = false → o.length = l.length) := ⟨_, rfl, by simp; omega⟩
    rw [hq1] at HV hg
    have hqq : (!q1 || q2) = true := by
      cases q1
      · rfl
      · cases q2
        · exact absurd ⟨rfl, hq3 rfl⟩ hg
        · rfl
    clear hg hno hq1 hq3
    go_enter Try.func22, Try.ntmps22
    cases q1 <;> cases q2
    all_goals first
    | (exfalso; revert hqq; decide)
    | (clear hqq
       go_wp2_with (go_at_call 20; refine HV.out.mono ?_; rintro e w1 ⟨rfl, hb1⟩)
       go_ret
       exact ⟨rfl, hb1⟩)
end Go.Proofs.Ytbcfanfnnmijdaa
