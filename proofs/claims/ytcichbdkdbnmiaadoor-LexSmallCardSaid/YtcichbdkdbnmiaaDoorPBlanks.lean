/- The program's lexer: blanks, walked. No condition but the bounds of a source. -/
import Derived.Test.YtcichbdkdbnmiaaDoorPSkip
namespace Go.Proofs.YtcichbdkdbnmiaaDoor
open Go.RowKit

def BlankE (b : Nat) (src : ByteArray) (at' : Nat) (line col : Int) (w : World) (e : Ending) (w' : World) : Prop :=
  e = .returned (.tuple #[]) ∧ (∃ j, at' ≤ j ∧ j ≤ src.size ∧ skipS (src.data.toList.drop at') false line col = (src.data.toList.drop j, (skipS (src.data.toList.drop at') false line col).2.1, (skipS (src.data.toList.drop at') false line col).2.2) ∧
    Scan w' b (skipS (src.data.toList.drop at') false line col).2.1 (skipS (src.data.toList.drop at') false line col).2.2 src j ∧
    (0 ≤ (skipS (src.data.toList.drop at') false line col).2.1 ∧ (skipS (src.data.toList.drop at') false line col).2.1 ≤ j + 1) ∧ (0 ≤ (skipS (src.data.toList.drop at') false line col).2.2 ∧ (skipS (src.data.toList.drop at') false line col).2.2 ≤ j + 1)) ∧ Only (fun g => g = b) w w'
/-- the place behind n bytes is within bounds -/
theorem pos_bounds {src : ByteArray} {at' n : Nat} (_ : at' + n ≤ src.size) {line col : Int} (hl : 0 ≤ line ∧ line ≤ at' + 1) (hc : 0 ≤ col ∧ col ≤ at' + 1) :
    (0 ≤ (posS ((src.data.toList.drop at').take n) line col).1 ∧ (posS ((src.data.toList.drop at').take n) line col).1 ≤ (at' + n : Nat) + 1) ∧ (0 ≤ (posS ((src.data.toList.drop at').take n) line col).2 ∧ (posS ((src.data.toList.drop at').take n) line col).2 ≤ (at' + n : Nat) + 1) := by
  have h := posS_le ((src.data.toList.drop at').take n) line col hl.1 hc.1
  have hlen : ((src.data.toList.drop at').take n).length ≤ n := List.length_take_le _ _
  omega
theorem run_bound {src : ByteArray} {at' : Nat} (hat : at' ≤ src.size) (p : UInt8 → Bool) : at' + ((src.data.toList.drop at').takeWhile p).length ≤ src.size := by
  have h := (List.takeWhile_prefix (l := src.data.toList.drop at') p).length_le
  rw [List.length_drop, str_len] at h
  omega
set_option maxRecDepth 100000 in
theorem blanks_any (b : Nat) (src : ByteArray) (at' : Nat) (line col : Int) (w : World) (hS : Scan w b line col src at') (hat : at' ≤ src.size) (hsz : src.size ≤ 16384) (hl : 0 ≤ line ∧ line ≤ at' + 1) (hc : 0 ≤ col ∧ col ≤ at' + 1) :
    Calls Tryd.prog 39 #[.pointer (some ⟨b, 0, none⟩)] w (BlankE b src at' line col w) := by
  obtain ⟨F, L, C, HF⟩ : ∃ F L C, Hid (skipS (src.data.toList.drop at') false line col = (F, L, C)) := ⟨_, _, _, Lib.hid rfl⟩
  obtain ⟨R, HE⟩ : ∃ R, R = BlankE b src at' line col w ∧ Hid (∀ w' j, at' ≤ j → j ≤ src.size → F = src.data.toList.drop j → Scan w' b L C src j → (0 ≤ L ∧ L ≤ j + 1) → (0 ≤ C ∧ C ≤ j + 1) → Only (fun g => g = b) w w' → R (.returned (.tuple #[])) w') := ⟨_, rfl, Lib.hid (by
    intro w' j h1 h2 h3 h4 h5 h6 h7
    unfold BlankE
    rw [HF.out]
    exact ⟨rfl, ⟨j, h1, h2, by rw [h3], h4, h5, h6⟩, h7⟩)⟩
  rw [← HE.1]
  have HE := HE.2
  have HB := Lib.hid (skip_blank b src at' line col w hS hat hsz hl hc)
  have Hp := Lib.hid (pos_bounds (run_bound hat blankB) hl hc)
  have Hk := Lib.hid (skip_blanks (src.data.toList.drop at') line col)
  have hbd := run_bound hat blankB
  have Hf := Lib.hid (run_first (p := blankB) (src.data.toList.drop at'))
  rw [runK_all] at HB
  rw [List.drop_drop] at Hk Hf
  generalize ((src.data.toList.drop at').takeWhile blankB).length = n0 at *
  go_enter Tryd.func39, Tryd.ntmps39
  go_wp2_with fail
  go_at_call 41
  refine HB.out.mono ?_
  unfold SkipE
  rintro e1 w1 ⟨rfl, hS1, hO1⟩
  have HS1 := Lib.hid hS1
  have HO1 := Lib.hid hO1
  clear hS1 hO1 HB hS
  obtain ⟨l0, k0, HP0⟩ : ∃ l0 k0, Hid (posS ((src.data.toList.drop at').take n0) line col = (l0, k0)) := ⟨_, _, Lib.hid rfl⟩
  rw [HP0.out] at HS1 Hp Hk
  rw [HF.out] at Hk
  clear HF HP0
  go_wp2_with fail
  go_loopg [4, 5, 6, 7, 8, 9, 10, 11, 12, 13, 14, 15, 16, 17, 18, 19, 20, 21, 22, 23, 24, 25, 26, 27, 28, 29] (src.size - (at' + n0)) (fun g _ _ _ _ _ _ _ _ _ _ _ _ _ _ _ _ _ _ _ _ _ _ _ _ _ _ wr => ∃ (j : Nat) (line1 col1 : Int), g = src.size - j ∧ at' ≤ j ∧ j ≤ src.size ∧ (0 ≤ line1 ∧ line1 ≤ j + 1) ∧ (0 ≤ col1 ∧ col1 ≤ j + 1) ∧ Hid ((F, L, C) = skipS (src.data.toList.drop j) false line1 col1) ∧ Hid ((src.data.toList.drop j).head?.all (fun b => !blankB b) = true) ∧ Hid (Scan wr b line1 col1 src j) ∧ Hid (Only (fun g => g = b) w wr))
  case atStart => exact ⟨at' + n0, l0, k0, rfl, by omega, hbd, Hp.out.1, Hp.out.2, Lib.hid Hk.out, Lib.hid Hf.out, Lib.hid HS1.out, Lib.hid HO1.out⟩
  case round =>
    clear HS1 HO1 Hp Hk Hf
    obtain ⟨j, line1, col1, rfl, haj, hjs, hl1, hc1, HK, HH, HS, HO⟩ := hrel
    obtain ⟨c0, c1, c2, c3, cf⟩ := HS.out.cells
    have hj3 : (0 : Int) ≤ (j : Int) := by omega
    by_cases hlt : j < src.size
    · obtain ⟨q, hq, Hq⟩ : ∃ q : Bool, ((src[j].toNat : Int) == 35) = q ∧ Hid (q = true ↔ src[j].toNat = 35) := ⟨_, rfl, Lib.hid (by rw [beq_iff_eq]; omega)⟩
      have hb0 : src[j].toNat ≤ 255 := by have := src[j].toNat_lt; omega
      cases q
      · have HX : Hid (F = src.data.toList.drop j ∧ L = line1 ∧ C = col1) := Lib.hid (by
          have h := HK.out
          have hh := HH.out
          rw [drop_get src hlt] at h hh ⊢
          have hb : ¬ (src[j].toNat = 32 ∨ src[j].toNat = 9 ∨ src[j].toNat = 10) := by
            intro e; have := (blank_iff _).2 e; simp [this] at hh
          have h35 : src[j].toNat ≠ 35 := fun e => by have := Hq.out.2 e; cases this
          rw [skip_stop (by omega) (by omega) (by omega) h35] at h
          simpa using h)
        go_wp2_with fail
        refine wp_region_seq (DrewOf _) (by kernel_rfl) (by kernel_rfl) (DrewOf.start _) ?_
        repeat
          try simp only [Act.put, List.setIfInBounds_toArray, List.set_cons_succ, List.set_cons_zero]
          apply stepsSeq.cons
          · rintro w' ⟨nq, rfl⟩
            simp only [Act.put, List.setIfInBounds_toArray, List.set_cons_succ, List.set_cons_zero]
            go_wp2_with (fail)
            first | exact ⟨rfl, nq, rfl⟩ | exact ⟨rfl, nq, (World.drewN_drewN _ _ _).symm⟩ | exact ⟨rfl, nq, by simp⟩
        try simp only [Act.put, List.setIfInBounds_toArray, List.set_cons_succ, List.set_cons_zero]
        refine stepsSeq.nil ?_
        rintro w' ⟨nq, rfl⟩
        go_wp2_with fail
        refine bodyPost_ret (results_none rfl _ _ _) rfl ?_
        obtain ⟨h1, rfl, rfl⟩ := HX.out
        exact HE.out _ j haj hjs h1 HS.out hl1 hc1 (HO.out.drewN _)
      · have hat1 : j ≤ src.size := hjs
        have HI : Hid (∀ n, Calls Tryd.prog 41 #[.pointer (some ⟨b, 0, none⟩), .func (.func 50) #[] #[]] (wr.drewN n) (SkipE b src j ((src.data.toList.drop j).takeWhile insideB).length line1 col1 (fun g => g = b) (wr.drewN n))) := Lib.hid (fun n => by
          have := skip_inside b src j line1 col1 (wr.drewN n) (HS.out.drewN n) hat1 hsz hl1 hc1
          rw [runK_all] at this; exact this)
        have hm1 : 1 ≤ ((src.data.toList.drop j).takeWhile insideB).length := by
          rw [drop_get src hlt]
          have : insideB src[j] = true := (inside_iff _).2 (by have := Hq.out.1 rfl; omega)
          simp [this]
        have hbd1 := run_bound hat1 insideB
        have Hp1 := Lib.hid (pos_bounds hbd1 hl1 hc1)
        have Hk1 := Lib.hid (skip_comment (r := src.data.toList.drop (j + 1)) (Hq.out.1 rfl) line1 col1)
        rw [← drop_get src hlt, List.drop_drop] at Hk1
        generalize ((src.data.toList.drop j).takeWhile insideB).length = m at *
        obtain ⟨l2, k2, HP2⟩ : ∃ l2 k2, Hid (posS ((src.data.toList.drop j).take m) line1 col1 = (l2, k2)) := ⟨_, _, Lib.hid rfl⟩
        rw [HP2.out] at Hp1 Hk1
        go_wp2_with fail
        refine wp_region_seq (DrewOf _) (by kernel_rfl) (by kernel_rfl) (DrewOf.start _) ?_
        repeat
          try simp only [Act.put, List.setIfInBounds_toArray, List.set_cons_succ, List.set_cons_zero]
          apply stepsSeq.cons
          · rintro w' ⟨nq, rfl⟩
            simp only [Act.put, List.setIfInBounds_toArray, List.set_cons_succ, List.set_cons_zero]
            go_wp2_with (fail)
            first | exact ⟨rfl, nq, rfl⟩ | exact ⟨rfl, nq, (World.drewN_drewN _ _ _).symm⟩ | exact ⟨rfl, nq, by simp⟩
        try simp only [Act.put, List.setIfInBounds_toArray, List.set_cons_succ, List.set_cons_zero]
        refine stepsSeq.nil ?_
        rintro w' ⟨nq, rfl⟩
        go_wp2_with fail
        clear c0 c1 c2 c3 cf
        go_at_call 41
        refine (HI.out _).mono ?_
        unfold SkipE
        rintro e1 w2 ⟨rfl, hS2, hO2⟩
        rw [HP2.out] at hS2
        have HS2 := Lib.hid hS2
        have HO2 := Lib.hid (HO.out.trans ((Only.refl _ _).drewN _ |>.trans hO2))
        clear hS2 hO2 HI HP2 HS HO
        have HB2 := Lib.hid (skip_blank b src (j + m) l2 k2 w2 HS2.out hbd1 hsz Hp1.out.1 Hp1.out.2)
        have hbd2 := run_bound hbd1 blankB
        have Hp2 := Lib.hid (pos_bounds hbd2 Hp1.out.1 Hp1.out.2)
        have Hk2 := Lib.hid (skip_blanks (src.data.toList.drop (j + m)) l2 k2)
        have Hf2 := Lib.hid (run_first (p := blankB) (src.data.toList.drop (j + m)))
        rw [runK_all] at HB2
        rw [List.drop_drop] at Hk2 Hf2
        generalize ((src.data.toList.drop (j + m)).takeWhile blankB).length = n2 at *
        obtain ⟨l3, k3, HP3⟩ : ∃ l3 k3, Hid (posS ((src.data.toList.drop (j + m)).take n2) l2 k2 = (l3, k3)) := ⟨_, _, Lib.hid rfl⟩
        rw [HP3.out] at Hp2 Hk2
        go_wp2_with fail
        go_at_call 41
        refine HB2.out.mono ?_
        unfold SkipE
        rintro e1 w3 ⟨rfl, hS3, hO3⟩
        rw [HP3.out] at hS3
        have HS3 := Lib.hid hS3
        have HO3 := Lib.hid (HO2.out.trans hO3)
        clear hS3 hO3 HB2 HP3 HS2 HO2
        go_wp2_with fail
        go_roundg (src.size - (j + m + n2))
        case measure => omega
        case rel => exact ⟨j + m + n2, l3, k3, rfl, by omega, hbd2, Hp2.out.1, Hp2.out.2, Lib.hid (by rw [HK.out, Hk1.out, Hk2.out]), Lib.hid Hf2.out, Lib.hid HS3.out, Lib.hid HO3.out⟩
    · have HX : Hid (F = src.data.toList.drop j ∧ L = line1 ∧ C = col1) := Lib.hid (by
        have h := HK.out
        rw [drop_nil src (by omega)] at h ⊢
        simpa [skipS] using h)
      go_wp2_with fail
      refine wp_region_seq (DrewOf _) (by kernel_rfl) (by kernel_rfl) (DrewOf.start _) ?_
      repeat
        try simp only [Act.put, List.setIfInBounds_toArray, List.set_cons_succ, List.set_cons_zero]
        apply stepsSeq.cons
        · rintro w' ⟨nq, rfl⟩
          simp only [Act.put, List.setIfInBounds_toArray, List.set_cons_succ, List.set_cons_zero]
          go_wp2_with (fail)
          first | exact ⟨rfl, nq, rfl⟩ | exact ⟨rfl, nq, (World.drewN_drewN _ _ _).symm⟩ | exact ⟨rfl, nq, by simp⟩
      try simp only [Act.put, List.setIfInBounds_toArray, List.set_cons_succ, List.set_cons_zero]
      refine stepsSeq.nil ?_
      rintro w' ⟨nq, rfl⟩
      go_wp2_with fail
      refine bodyPost_ret (results_none rfl _ _ _) rfl ?_
      obtain ⟨h1, rfl, rfl⟩ := HX.out
      exact HE.out _ j haj hjs h1 HS.out hl1 hc1 (HO.out.drewN _)
end Go.Proofs.YtcichbdkdbnmiaaDoor
