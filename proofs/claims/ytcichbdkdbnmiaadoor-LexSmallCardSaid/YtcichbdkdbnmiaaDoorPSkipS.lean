/- The program's lexer: skip, walked with the function that counts a sign's bytes. -/
import Derived.Test.YtcichbdkdbnmiaaDoorPSkip
namespace Go.Proofs.YtcichbdkdbnmiaaDoor
open Go.RowKit

set_option maxRecDepth 100000 in
set_option maxHeartbeats 1000000 in
theorem skip_sign (b : Nat) (src : ByteArray) (at' : Nat) (line col : Int) (w : World) (lb m : Nat) (hm : m ≤ 100) (hne : lb ≠ b) (hL : OwnV w lb 3 [.int .i64 m]) (hS : Scan w b line col src at') (hat : at' ≤ src.size) (hsz : src.size ≤ 16384) (hl : 0 ≤ line ∧ line ≤ at' + 1) (hc : 0 ≤ col ∧ col ≤ at' + 1) :
    Calls Tryd.prog 41 #[.pointer (some ⟨b, 0, none⟩), .func (.func 45) #[] #[.pointer (some ⟨lb, 0, none⟩)]] w (SkipE b src at' (runK (fun i _ => decide (i < m)) 0 (src.data.toList.drop at')) line col (fun g => g = b ∨ g = lb) w) := by
  obtain ⟨N, HN⟩ : ∃ N, Hid (runK (fun i _ => decide (i < m)) 0 (src.data.toList.drop at') = N) := ⟨_, Lib.hid rfl⟩
  obtain ⟨L, C, HP⟩ : ∃ L C, Hid (posS ((src.data.toList.drop at').take N) line col = (L, C)) := ⟨_, _, Lib.hid rfl⟩
  have hNle : N ≤ src.size - at' := by have := runK_le (fun i _ => decide (i < m)) (src.data.toList.drop at') 0; rw [HN.out, List.length_drop, str_len] at this; exact this
  have HE : Hid (∀ e w', e = .returned (.string (src.extract at' (at' + N))) → Scan w' b L C src (at' + N) → Only (fun g => g = b ∨ g = lb) w w' → SkipE b src at' (runK (fun i _ => decide (i < m)) 0 (src.data.toList.drop at')) line col (fun g => g = b ∨ g = lb) w e w') := Lib.hid (by
    intro e w' h1 h2 h3
    unfold SkipE
    rw [HN.out, HP.out]
    exact ⟨by rw [h1, bstr_extract, Nat.add_sub_cancel_left], h2, h3⟩)
  obtain ⟨R, hR⟩ : ∃ R, R = SkipE b src at' (runK (fun i _ => decide (i < m)) 0 (src.data.toList.drop at')) line col (fun g => g = b ∨ g = lb) w := ⟨_, rfl⟩
  rw [← hR] at HE ⊢
  clear hR
  obtain ⟨c0, c1, c2, c3, cf⟩ := hS.cells
  have HS := Lib.hid hS
  have HL := Lib.hid hL
  have hne' : b ≠ lb := fun e => hne e.symm
  clear hL
  clear hS
  go_enter Tryd.func41, Tryd.ntmps41
  go_wp2_with fail
  clear c0 c1 c2 c3 cf
  go_loopg [10, 11, 12, 13, 14, 15, 16, 17, 18, 19, 20, 21, 22, 23, 24, 25, 26, 27, 28, 29, 30, 31, 32, 33, 34, 35, 36, 37, 38, 39, 40, 41, 42, 43, 44, 45, 46, 47, 48, 49, 50, 51, 52, 53, 54, 55, 56, 57, 58, 59, 60, 61, 62, 63, 64, 65, 66, 67, 68] (N) (fun g _ _ _ _ _ _ _ _ _ _ _ _ _ _ _ _ _ _ _ _ _ _ _ _ _ _ _ _ _ _ _ _ _ _ _ _ _ _ _ _ _ _ _ _ _ _ _ _ _ _ _ _ _ _ _ _ _ _ _ wr => ∃ (k j : Nat) (line1 col1 z : Int), Hid (j = at' + k) ∧ g = N - k ∧ k ≤ N ∧ Hid (runK (fun i _ => decide (i < m)) k (src.data.toList.drop j) + k = N) ∧ Hid (posS ((src.data.toList.drop j).take (N - k)) line1 col1 = (L, C)) ∧ (0 ≤ line1 ∧ line1 ≤ j + 1) ∧ (0 ≤ col1 ∧ col1 ≤ j + 1) ∧ Hid (Scan wr b line1 col1 src j) ∧ Hid (Only (fun g => g = b ∨ g = lb) w wr) ∧ Hid (z = (m : Int) - k) ∧ Hid (OwnV wr lb 3 [.int .i64 z]))
  case atStart => exact ⟨0, at', line, col, (m : Int), Lib.hid rfl, by omega, by omega, Lib.hid (by rw [Nat.add_zero]; exact HN.out), Lib.hid HP.out, hl, hc, Lib.hid HS.out, Lib.hid (Only.refl _ _), Lib.hid (by omega), Lib.hid HL.out⟩
  case round =>
    obtain ⟨k, j, line1, col1, z, Hj, rfl, hkN, HR, HQ, ⟨hl0, hl1⟩, ⟨hc0, hc1⟩, HS, HO, Hz, HK⟩ := hrel
    obtain ⟨c0, c1, c2, c3, cf⟩ := HS.out.cells
    have hkb : k ≤ 16384 := by omega
    have hz1 : -20000 ≤ z := by have := Hz.out; omega
    have hz2 : z ≤ 100 := by have := Hz.out; omega
    by_cases hlt : j < src.size
    · obtain ⟨q, hq, HQ2⟩ : ∃ q : Bool, (fun i _ => decide (i < m)) k src[j] = q ∧ Hid (runK (fun i _ => decide (i < m)) k (src.data.toList.drop j) = if q = true then runK (fun i _ => decide (i < m)) (k + 1) (src.data.toList.drop (j + 1)) + 1 else 0) := ⟨_, rfl, Lib.hid (run_step hlt k)⟩
      have HC : Hid (∀ n, Calls Tryd.prog 45 #[.int .u8 (src[j].toNat : Int), .pointer (some ⟨lb, 0, none⟩)] (wr.drewN n) fun e w' => e = .returned (.bool q) ∧ (wr.drewN n).setCell ⟨lb, 0, none⟩ (.int .i64 (z - 1)) = w') := Lib.hid (fun n => count_any _ z lb q (wr.drewN n) (OwnV.cell HK.out rfl) (OwnV.free HK.out 0) hz1 hz2 (by rw [← hq]; have := Hz.out; simp only [decide_eq_decide]; omega))
      have hb0 : src[j].toNat ≤ 255 := by have := src[j].toNat_lt; omega
      have hj3 : (0 : Int) ≤ (j : Int) := by omega
      clear hq
      cases q
      · have Hk0 : Hid (k = N) := Lib.hid (by have h1 := HQ2.out; have h2 := HR.out; rw [if_neg (by decide)] at h1; omega)
        have HX : Hid (line1 = L ∧ col1 = C) := Lib.hid (by have h := HQ.out; rw [Hk0.out, Nat.sub_self, List.take_zero] at h; simpa [posS] using h)
        go_wp2_with fail
        refine wp_region_tail 21 (DrewOf wr) (by kernel_rfl) (by kernel_rfl) (DrewOf.start _) ?_
        simp only [List.take_succ_cons, List.take_zero, List.drop_succ_cons, List.drop_zero]
        repeat
          try simp only [Act.put, List.setIfInBounds_toArray, List.set_cons_succ, List.set_cons_zero]
          apply stepsSeq.cons
          · rintro w' ⟨nq, rfl⟩
            simp only [Act.put, List.setIfInBounds_toArray, List.set_cons_succ, List.set_cons_zero]
            go_wp2_with (fail)
            first | exact ⟨rfl, nq, rfl⟩ | exact ⟨rfl, nq, (World.drewN_drewN _ _ _).symm⟩ | exact ⟨rfl, nq, by simp⟩
        try simp only [Act.put, List.setIfInBounds_toArray, List.set_cons_succ, List.set_cons_zero]
        refine stepsSeq.nil ?_
        rintro w' ⟨nq, rfl⟩
        go_wp2_with fail
        go_at_call 45; refine (HC.out _).mono ?_; rintro e1 w2 ⟨rfl, rfl⟩
        go_wp2_with fail
        have hja : at' ≤ j := by have := Hj.out; omega
        have hja' : (at' : Int) ≤ (j : Int) := by omega
        have hjs : j ≤ src.size := by omega
        have hjs' : (j : Int) ≤ (src.size : Int) := by omega
        have hj0 : (0 : Int) ≤ (at' : Int) := by omega
        refine wp_region_seq (DrewOf _) (by kernel_rfl) (by kernel_rfl) (DrewOf.start _) ?_
        repeat
          try simp only [Act.put, List.setIfInBounds_toArray, List.set_cons_succ, List.set_cons_zero]
          apply stepsSeq.cons
          · rintro w' ⟨nq, rfl⟩
            simp only [Act.put, List.setIfInBounds_toArray, List.set_cons_succ, List.set_cons_zero]
            go_wp2_with (fail)
            first | exact ⟨rfl, nq, rfl⟩ | exact ⟨rfl, nq, (World.drewN_drewN _ _ _).symm⟩ | exact ⟨rfl, nq, by simp⟩
        try simp only [Act.put, List.setIfInBounds_toArray, List.set_cons_succ, List.set_cons_zero]
        refine stepsSeq.nil ?_
        rintro w' ⟨nq, rfl⟩
        go_wp2_with fail
        try go_ret
        obtain rfl : j = at' + N := by have h1 := Hj.out; have h2 := Hk0.out; omega
        exact HE.out _ _ rfl (by obtain ⟨rfl, rfl⟩ := HX.out; exact (((HS.out.drewN _).set_ne hne' _).drewN _)) (((HO.out.drewN _).setCell (.inr (.inr rfl)) _).drewN _)
      · have hk1 : k + 1 ≤ N := by have h1 := HQ2.out; have h2 := HR.out; rw [if_pos rfl] at h1; omega
        have HR' : Hid (runK (fun i _ => decide (i < m)) (k + 1) (src.data.toList.drop (j + 1)) + (k + 1) = N) := Lib.hid (by have h1 := HQ2.out; have h2 := HR.out; rw [if_pos rfl] at h1; omega)
        obtain ⟨t, ht, HQ'⟩ : ∃ t : Bool, ((src[j].toNat : Int) == 10) = t ∧ Hid (posS ((src.data.toList.drop (j + 1)).take (N - (k + 1))) (if t = true then line1 + 1 else line1) (if t = true then 1 else col1 + 1) = (L, C)) := ⟨_, rfl, Lib.hid (by
          have h := HQ.out
          rw [show N - k = (N - (k + 1)) + 1 by omega, pos_step hlt] at h
          by_cases e : src[j].toNat = 10
          · have e2 : ((src[j].toNat : Int) == 10) = true := by simp [e]
            rw [if_pos e] at h; rw [e2]; exact h
          · have e2 : ((src[j].toNat : Int) == 10) = false := by rw [beq_eq_false_iff_ne]; omega
            rw [if_neg e] at h; rw [e2]; exact h)⟩
        clear HR HQ HQ2
        cases t
        all_goals
          go_wp2_with fail
          refine wp_region_tail 21 (DrewOf wr) (by kernel_rfl) (by kernel_rfl) (DrewOf.start _) ?_
          simp only [List.take_succ_cons, List.take_zero, List.drop_succ_cons, List.drop_zero]
          repeat
            try simp only [Act.put, List.setIfInBounds_toArray, List.set_cons_succ, List.set_cons_zero]
            apply stepsSeq.cons
            · rintro w' ⟨nq, rfl⟩
              simp only [Act.put, List.setIfInBounds_toArray, List.set_cons_succ, List.set_cons_zero]
              go_wp2_with (fail)
              first | exact ⟨rfl, nq, rfl⟩ | exact ⟨rfl, nq, (World.drewN_drewN _ _ _).symm⟩ | exact ⟨rfl, nq, by simp⟩
          try simp only [Act.put, List.setIfInBounds_toArray, List.set_cons_succ, List.set_cons_zero]
          refine stepsSeq.nil ?_
          rintro w' ⟨nq, rfl⟩
          go_wp2_with fail
          go_at_call 45; refine (HC.out _).mono ?_; rintro e1 w2 ⟨rfl, rfl⟩
          go_wp2_with fail
          refine wp_region_seq (DrewOf _) (by kernel_rfl) (by kernel_rfl) (DrewOf.start _) ?_
          repeat
            try simp only [Act.put, List.setIfInBounds_toArray, List.set_cons_succ, List.set_cons_zero]
            apply stepsSeq.cons
            · rintro w' ⟨nq, rfl⟩
              simp only [Act.put, List.setIfInBounds_toArray, List.set_cons_succ, List.set_cons_zero]
              go_wp2_with (fail)
              first | exact ⟨rfl, nq, rfl⟩ | exact ⟨rfl, nq, (World.drewN_drewN _ _ _).symm⟩ | exact ⟨rfl, nq, by simp⟩
          try simp only [Act.put, List.setIfInBounds_toArray, List.set_cons_succ, List.set_cons_zero]
          refine stepsSeq.nil ?_
          rintro w' ⟨nq, rfl⟩
          go_wp2_with fail
          go_roundg (N - (k + 1))
          case measure => omega
          case rel =>
            first
              | exact ⟨k + 1, j + 1, line1, col1 + 1, z - 1, Lib.hid (by have := Hj.out; omega), rfl, hk1, HR', HQ', by omega, by omega, Lib.hid (((((HS.out.drewN _).set_ne hne' _).set 1 _).drewN _).set 3 _), Lib.hid (((((HO.out.drewN _).setCell (.inr (.inr rfl)) _).setCell (.inr (.inl rfl)) _).drewN _).setCell (.inr (.inl rfl)) _), Lib.hid (by have := Hz.out; omega), Lib.hid (((((HK.out.drewN _).set 0 _).set_ne hne _).drewN _).set_ne hne _)⟩
              | exact ⟨k + 1, j + 1, line1 + 1, 1, z - 1, Lib.hid (by have := Hj.out; omega), rfl, hk1, HR', HQ', by omega, by omega, Lib.hid (((((((HS.out.drewN _).set_ne hne' _).set 1 _).drewN _).set 0 _).set 1 _).set 3 _), Lib.hid (((((((HO.out.drewN _).setCell (.inr (.inr rfl)) _).setCell (.inr (.inl rfl)) _).drewN _).setCell (.inr (.inl rfl)) _).setCell (.inr (.inl rfl)) _).setCell (.inr (.inl rfl)) _), Lib.hid (by have := Hz.out; omega), Lib.hid (((((((HK.out.drewN _).set 0 _).set_ne hne _).drewN _).set_ne hne _).set_ne hne _).set_ne hne _)⟩
    · have Hk0 : Hid (k = N) := Lib.hid (by have h2 := HR.out; rw [run_end (by omega)] at h2; omega)
      have HX : Hid (line1 = L ∧ col1 = C) := Lib.hid (by have h := HQ.out; rw [Hk0.out, Nat.sub_self, List.take_zero] at h; simpa [posS] using h)
      have hja : at' ≤ j := by have := Hj.out; omega
      have hja' : (at' : Int) ≤ (j : Int) := by omega
      have hj2 : j ≤ src.size := by have := Hj.out; have := Hk0.out; omega
      have hj2' : (j : Int) ≤ (src.size : Int) := by omega
      have hj0 : (0 : Int) ≤ (at' : Int) := by omega
      have hj1 : (0 : Int) ≤ (j : Int) := by omega
      go_wp2_with fail
      refine wp_region_seq (DrewOf _) (by kernel_rfl) (by kernel_rfl) (DrewOf.start _) ?_
      repeat
        try simp only [Act.put, List.setIfInBounds_toArray, List.set_cons_succ, List.set_cons_zero]
        apply stepsSeq.cons
        · rintro w' ⟨nq, rfl⟩
          simp only [Act.put, List.setIfInBounds_toArray, List.set_cons_succ, List.set_cons_zero]
          go_wp2_with (fail)
          first | exact ⟨rfl, nq, rfl⟩ | exact ⟨rfl, nq, (World.drewN_drewN _ _ _).symm⟩ | exact ⟨rfl, nq, by simp⟩
      try simp only [Act.put, List.setIfInBounds_toArray, List.set_cons_succ, List.set_cons_zero]
      refine stepsSeq.nil ?_
      rintro w' ⟨nq, rfl⟩
      go_wp2_with fail
      refine wp_region_seq (DrewOf _) (by kernel_rfl) (by kernel_rfl) (DrewOf.start _) ?_
      repeat
        try simp only [Act.put, List.setIfInBounds_toArray, List.set_cons_succ, List.set_cons_zero]
        apply stepsSeq.cons
        · rintro w' ⟨nq, rfl⟩
          simp only [Act.put, List.setIfInBounds_toArray, List.set_cons_succ, List.set_cons_zero]
          go_wp2_with (fail)
          first | exact ⟨rfl, nq, rfl⟩ | exact ⟨rfl, nq, (World.drewN_drewN _ _ _).symm⟩ | exact ⟨rfl, nq, by simp⟩
      try simp only [Act.put, List.setIfInBounds_toArray, List.set_cons_succ, List.set_cons_zero]
      refine stepsSeq.nil ?_
      rintro w' ⟨nq, rfl⟩
      go_wp2_with fail
      try go_ret
      obtain rfl : j = at' + N := by have h1 := Hj.out; have h2 := Hk0.out; omega
      exact HE.out _ _ rfl (by obtain ⟨rfl, rfl⟩ := HX.out; exact HS.out) ((HO.out.drewN _).drewN _)
end Go.Proofs.YtcichbdkdbnmiaaDoor
