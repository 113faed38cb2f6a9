/- The program's lexer: skip, walked, once for each function that it is given. No condition but the bounds of a source. -/
import Derived.Test.YtcichbdkdbnmiaaDoorPLexA
import Derived.Test.YtcichbdkdbnmiaaDoorPLexS
import Derived.Test.YtcichbdkdbnmiaaDoorRLex
import Derived.Test.YtcichbdkdbnmiaaDoorOnly
import Derived.Test.YtcichbdkdbnmiaaDoorRegion5
import Derived.Deep.LoopGhost
namespace Go.Proofs.YtcichbdkdbnmiaaDoor
open Go.RowKit

/-- a scanner in memory: block b -/
def Scan (w : World) (b : Nat) (line col : Int) (src : ByteArray) (at' : Nat) : Prop := OwnV w b 57 [.int .i64 line, .int .i64 col, .string src, .int .i64 at']
def SkipE (b : Nat) (src : ByteArray) (at' n : Nat) (line col : Int) (S : Nat → Prop) (w : World) (e : Ending) (w' : World) : Prop :=
  e = .returned (.string (bstr ((src.data.toList.drop at').take n))) ∧ Scan w' b (posS ((src.data.toList.drop at').take n) line col).1 (posS ((src.data.toList.drop at').take n) line col).2 src (at' + n) ∧ Only S w w'
theorem Scan.cells {w : World} {b : Nat} {line col : Int} {src : ByteArray} {at' : Nat} (h : Scan w b line col src at') :
    w.cell? ⟨b, 0, none⟩ = some (.int .i64 line) ∧ w.cell? ⟨b, 1, none⟩ = some (.int .i64 col) ∧ w.cell? ⟨b, 2, none⟩ = some (.string src) ∧ w.cell? ⟨b, 3, none⟩ = some (.int .i64 at') ∧ (∀ o, w.frozen? ⟨b, o, none⟩ = false) :=
  ⟨OwnV.cell h rfl, OwnV.cell h rfl, OwnV.cell h rfl, OwnV.cell h rfl, fun o => OwnV.free h o⟩
theorem run_step {p : Nat → UInt8 → Bool} {s : ByteArray} {j : Nat} (h : j < s.size) (k : Nat) : runK p k (s.data.toList.drop j) = if p k s[j] = true then runK p (k + 1) (s.data.toList.drop (j + 1)) + 1 else 0 := by
  rw [drop_get s h, runK]
theorem run_end {p : Nat → UInt8 → Bool} {s : ByteArray} {j : Nat} (h : s.size ≤ j) (k : Nat) : runK p k (s.data.toList.drop j) = 0 := by
  rw [drop_nil s h, runK]
theorem pos_step {s : ByteArray} {j m : Nat} (h : j < s.size) (l c : Int) : posS ((s.data.toList.drop j).take (m + 1)) l c = if s[j].toNat = 10 then posS ((s.data.toList.drop (j + 1)).take m) (l + 1) 1 else posS ((s.data.toList.drop (j + 1)).take m) l (c + 1) := by
  rw [drop_get s h, List.take_succ_cons, posS]

set_option maxRecDepth 100000 in
set_option maxHeartbeats 1000000 in
theorem skip_blank (b : Nat) (src : ByteArray) (at' : Nat) (line col : Int) (w : World) (hS : Scan w b line col src at') (hat : at' ≤ src.size) (hsz : src.size ≤ 16384) (hl : 0 ≤ line ∧ line ≤ at' + 1) (hc : 0 ≤ col ∧ col ≤ at' + 1) :
    Calls Tryd.prog 41 #[.pointer (some ⟨b, 0, none⟩), .func (.func 49) #[] #[]] w (SkipE b src at' (runK (fun _ => blankB) 0 (src.data.toList.drop at')) line col (fun g => g = b) w) := by
  obtain ⟨N, HN⟩ : ∃ N, Hid (runK (fun _ => blankB) 0 (src.data.toList.drop at') = N) := ⟨_, Lib.hid rfl⟩
  obtain ⟨L, C, HP⟩ : ∃ L C, Hid (posS ((src.data.toList.drop at').take N) line col = (L, C)) := ⟨_, _, Lib.hid rfl⟩
  have hNle : N ≤ src.size - at' := by have := runK_le (fun _ => blankB) (src.data.toList.drop at') 0; rw [HN.out, List.length_drop, str_len] at this; exact this
  have HE : Hid (∀ e w', e = .returned (.string (src.extract at' (at' + N))) → Scan w' b L C src (at' + N) → Only (fun g => g = b) w w' → SkipE b src at' (runK (fun _ => blankB) 0 (src.data.toList.drop at')) line col (fun g => g = b) w e w') := Lib.hid (by
    intro e w' h1 h2 h3
    unfold SkipE
    rw [HN.out, HP.out]
    exact ⟨by rw [h1, bstr_extract, Nat.add_sub_cancel_left], h2, h3⟩)
  obtain ⟨R, hR⟩ : ∃ R, R = SkipE b src at' (runK (fun _ => blankB) 0 (src.data.toList.drop at')) line col (fun g => g = b) w := ⟨_, rfl⟩
  rw [← hR] at HE ⊢
  clear hR
  obtain ⟨c0, c1, c2, c3, cf⟩ := hS.cells
  have HS := Lib.hid hS
  clear hS
  go_enter Tryd.func41, Tryd.ntmps41
  go_wp2_with fail
  clear c0 c1 c2 c3 cf
  go_loopg [10, 11, 12, 13, 14, 15, 16, 17, 18, 19, 20, 21, 22, 23, 24, 25, 26, 27, 28, 29, 30, 31, 32, 33, 34, 35, 36, 37, 38, 39, 40, 41, 42, 43, 44, 45, 46, 47, 48, 49, 50, 51, 52, 53, 54, 55, 56, 57, 58, 59, 60, 61, 62, 63, 64, 65, 66, 67, 68] (N) (fun g _ _ _ _ _ _ _ _ _ _ _ _ _ _ _ _ _ _ _ _ _ _ _ _ _ _ _ _ _ _ _ _ _ _ _ _ _ _ _ _ _ _ _ _ _ _ _ _ _ _ _ _ _ _ _ _ _ _ _ wr => ∃ (k j : Nat) (line1 col1 : Int), Hid (j = at' + k) ∧ g = N - k ∧ k ≤ N ∧ Hid (runK (fun _ => blankB) k (src.data.toList.drop j) + k = N) ∧ Hid (posS ((src.data.toList.drop j).take (N - k)) line1 col1 = (L, C)) ∧ (0 ≤ line1 ∧ line1 ≤ j + 1) ∧ (0 ≤ col1 ∧ col1 ≤ j + 1) ∧ Hid (Scan wr b line1 col1 src j) ∧ Hid (Only (fun g => g = b) w wr))
  case atStart => exact ⟨0, at', line, col, Lib.hid rfl, by omega, by omega, Lib.hid (by rw [Nat.add_zero]; exact HN.out), Lib.hid HP.out, hl, hc, Lib.hid HS.out, Lib.hid (Only.refl _ _)⟩
  case round =>
    obtain ⟨k, j, line1, col1, Hj, rfl, hkN, HR, HQ, ⟨hl0, hl1⟩, ⟨hc0, hc1⟩, HS, HO⟩ := hrel
    obtain ⟨c0, c1, c2, c3, cf⟩ := HS.out.cells
    by_cases hlt : j < src.size
    · obtain ⟨q, hq, HQ2⟩ : ∃ q : Bool, (fun _ => blankB) k src[j] = q ∧ Hid (runK (fun _ => blankB) k (src.data.toList.drop j) = if q = true then runK (fun _ => blankB) (k + 1) (src.data.toList.drop (j + 1)) + 1 else 0) := ⟨_, rfl, Lib.hid (run_step hlt k)⟩
      obtain ⟨qi, hqi⟩ : ∃ qi : Bool, blankI (src[j].toNat : Int) = qi := ⟨_, rfl⟩
      have HC := Lib.hid (blank_any (src[j].toNat : Int) (wr.drewN 0))
      have HC : Hid (∀ n, Calls Tryd.prog 49 #[.int .u8 (src[j].toNat : Int)] (wr.drewN n) fun e w' => e = .returned (.bool q) ∧ wr.drewN n = w') := Lib.hid (fun n => by rw [← hq]; exact blank_any _ _)
      clear hqi
      have hb0 : src[j].toNat ≤ 255 := by have := src[j].toNat_lt; omega
      have hj3 : (0 : Int) ≤ (j : Int) := by omega
      clear hq
      cases q
      · have Hk0 : Hid (k = N) := Lib.hid (by have h1 := HQ2.out; have h2 := HR.out; rw [if_neg (by decide)] at h1; omega)
        have HX : Hid (line1 = L ∧ col1 = C) := Lib.hid (by have h := HQ.out; rw [Hk0.out, Nat.sub_self, List.take_zero] at h; simpa [posS] using h)
        go_wp2_with fail
        refine wp_region_tail 21 (DrewOf wr) (by kernel_rfl) (by kernel_rfl) (DrewOf.start _) ?_
        simp only [List.take_succ_cons, List.take_zero, List.drop_succ_cons, List.drop_zero]
        repeat
          try simp only [Act.put, List.setIfInBounds_toArray, List.set_cons_succ, List.set_cons_zero]
          apply stepsSeq.cons
          · rintro w' ⟨nq, rfl⟩
            simp only [Act.put, List.setIfInBounds_toArray, List.set_cons_succ, List.set_cons_zero]
            go_wp2_with (fail)
            first | exact ⟨rfl, nq, rfl⟩ | exact ⟨rfl, nq, (World.drewN_drewN _ _ _).symm⟩ | exact ⟨rfl, nq, by simp⟩
        try simp only [Act.put, List.setIfInBounds_toArray, List.set_cons_succ, List.set_cons_zero]
        refine stepsSeq.nil ?_
        rintro w' ⟨nq, rfl⟩
        go_wp2_with fail
        go_at_call 49; refine (HC.out _).mono ?_; rintro e1 w2 ⟨rfl, rfl⟩
        go_wp2_with fail
        have hja : at' ≤ j := by have := Hj.out; omega
        have hja' : (at' : Int) ≤ (j : Int) := by omega
        have hjs : j ≤ src.size := by omega
        have hjs' : (j : Int) ≤ (src.size : Int) := by omega
        have hj0 : (0 : Int) ≤ (at' : Int) := by omega
        refine wp_region_seq (DrewOf _) (by kernel_rfl) (by kernel_rfl) (DrewOf.start _) ?_
        repeat
          try simp only [Act.put, List.setIfInBounds_toArray, List.set_cons_succ, List.set_cons_zero]
          apply stepsSeq.cons
          · rintro w' ⟨nq, rfl⟩
            simp only [Act.put, List.setIfInBounds_toArray, List.set_cons_succ, List.set_cons_zero]
            go_wp2_with (fail)
            first | exact ⟨rfl, nq, rfl⟩ | exact ⟨rfl, nq, (World.drewN_drewN _ _ _).symm⟩ | exact ⟨rfl, nq, by simp⟩
        try simp only [Act.put, List.setIfInBounds_toArray, List.set_cons_succ, List.set_cons_zero]
        refine stepsSeq.nil ?_
        rintro w' ⟨nq, rfl⟩
        go_wp2_with fail
        try go_ret
        obtain rfl : j = at' + N := by have h1 := Hj.out; have h2 := Hk0.out; omega
        exact HE.out _ _ rfl (by obtain ⟨rfl, rfl⟩ := HX.out; exact HS.out) ((HO.out.drewN _).drewN _)
      · have hk1 : k + 1 ≤ N := by have h1 := HQ2.out; have h2 := HR.out; rw [if_pos rfl] at h1; omega
        have HR' : Hid (runK (fun _ => blankB) (k + 1) (src.data.toList.drop (j + 1)) + (k + 1) = N) := Lib.hid (by have h1 := HQ2.out; have h2 := HR.out; rw [if_pos rfl] at h1; omega)
        obtain ⟨t, ht, HQ'⟩ : ∃ t : Bool, ((src[j].toNat : Int) == 10) = t ∧ Hid (posS ((src.data.toList.drop (j + 1)).take (N - (k + 1))) (if t = true then line1 + 1 else line1) (if t = true then 1 else col1 + 1) = (L, C)) := ⟨_, rfl, Lib.hid (by
          have h := HQ.out
          rw [show N - k = (N - (k + 1)) + 1 by omega, pos_step hlt] at h
          by_cases e : src[j].toNat = 10
          · have e2 : ((src[j].toNat : Int) == 10) = true := by simp [e]
            rw [if_pos e] at h; rw [e2]; exact h
          · have e2 : ((src[j].toNat : Int) == 10) = false := by rw [beq_eq_false_iff_ne]; omega
            rw [if_neg e] at h; rw [e2]; exact h)⟩
        clear HR HQ HQ2
        cases t
        all_goals
          go_wp2_with fail
          refine wp_region_tail 21 (DrewOf wr) (by kernel_rfl) (by kernel_rfl) (DrewOf.start _) ?_
          simp only [List.take_succ_cons, List.take_zero, List.drop_succ_cons, List.drop_zero]
          repeat
            try simp only [Act.put, List.setIfInBounds_toArray, List.set_cons_succ, List.set_cons_zero]
            apply stepsSeq.cons
            · rintro w' ⟨nq, rfl⟩
              simp only [Act.put, List.setIfInBounds_toArray, List.set_cons_succ, List.set_cons_zero]
              go_wp2_with (fail)
              first | exact ⟨rfl, nq, rfl⟩ | exact ⟨rfl, nq, (World.drewN_drewN _ _ _).symm⟩ | exact ⟨rfl, nq, by simp⟩
          try simp only [Act.put, List.setIfInBounds_toArray, List.set_cons_succ, List.set_cons_zero]
          refine stepsSeq.nil ?_
          rintro w' ⟨nq, rfl⟩
          go_wp2_with fail
          go_at_call 49; refine (HC.out _).mono ?_; rintro e1 w2 ⟨rfl, rfl⟩
          go_wp2_with fail
          refine wp_region_seq (DrewOf _) (by kernel_rfl) (by kernel_rfl) (DrewOf.start _) ?_
          repeat
            try simp only [Act.put, List.setIfInBounds_toArray, List.set_cons_succ, List.set_cons_zero]
            apply stepsSeq.cons
            · rintro w' ⟨nq, rfl⟩
              simp only [Act.put, List.setIfInBounds_toArray, List.set_cons_succ, List.set_cons_zero]
              go_wp2_with (fail)
              first | exact ⟨rfl, nq, rfl⟩ | exact ⟨rfl, nq, (World.drewN_drewN _ _ _).symm⟩ | exact ⟨rfl, nq, by simp⟩
          try simp only [Act.put, List.setIfInBounds_toArray, List.set_cons_succ, List.set_cons_zero]
          refine stepsSeq.nil ?_
          rintro w' ⟨nq, rfl⟩
          go_wp2_with fail
          go_roundg (N - (k + 1))
          case measure => omega
          case rel =>
            first
              | exact ⟨k + 1, j + 1, line1, col1 + 1, Lib.hid (by have := Hj.out; omega), rfl, hk1, HR', HQ', by omega, by omega, Lib.hid ((((HS.out.drewN _).set 1 _).drewN _).set 3 _), Lib.hid ((((HO.out.drewN _).setCell (.inr rfl) _).drewN _).setCell (.inr rfl) _)⟩
              | exact ⟨k + 1, j + 1, line1 + 1, 1, Lib.hid (by have := Hj.out; omega), rfl, hk1, HR', HQ', by omega, by omega, Lib.hid ((((((HS.out.drewN _).set 1 _).drewN _).set 0 _).set 1 _).set 3 _), Lib.hid ((((((HO.out.drewN _).setCell (.inr rfl) _).drewN _).setCell (.inr rfl) _).setCell (.inr rfl) _).setCell (.inr rfl) _)⟩
    · have Hk0 : Hid (k = N) := Lib.hid (by have h2 := HR.out; rw [run_end (by omega)] at h2; omega)
      have HX : Hid (line1 = L ∧ col1 = C) := Lib.hid (by have h := HQ.out; rw [Hk0.out, Nat.sub_self, List.take_zero] at h; simpa [posS] using h)
      have hja : at' ≤ j := by have := Hj.out; omega
      have hja' : (at' : Int) ≤ (j : Int) := by omega
      have hj2 : j ≤ src.size := by have := Hj.out; have := Hk0.out; omega
      have hj2' : (j : Int) ≤ (src.size : Int) := by omega
      have hj0 : (0 : Int) ≤ (at' : Int) := by omega
      have hj1 : (0 : Int) ≤ (j : Int) := by omega
      go_wp2_with fail
      refine wp_region_seq (DrewOf _) (by kernel_rfl) (by kernel_rfl) (DrewOf.start _) ?_
      repeat
        try simp only [Act.put, List.setIfInBounds_toArray, List.set_cons_succ, List.set_cons_zero]
        apply stepsSeq.cons
        · rintro w' ⟨nq, rfl⟩
          simp only [Act.put, List.setIfInBounds_toArray, List.set_cons_succ, List.set_cons_zero]
          go_wp2_with (fail)
          first | exact ⟨rfl, nq, rfl⟩ | exact ⟨rfl, nq, (World.drewN_drewN _ _ _).symm⟩ | exact ⟨rfl, nq, by simp⟩
      try simp only [Act.put, List.setIfInBounds_toArray, List.set_cons_succ, List.set_cons_zero]
      refine stepsSeq.nil ?_
      rintro w' ⟨nq, rfl⟩
      go_wp2_with fail
      refine wp_region_seq (DrewOf _) (by kernel_rfl) (by kernel_rfl) (DrewOf.start _) ?_
      repeat
        try simp only [Act.put, List.setIfInBounds_toArray, List.set_cons_succ, List.set_cons_zero]
        apply stepsSeq.cons
        · rintro w' ⟨nq, rfl⟩
          simp only [Act.put, List.setIfInBounds_toArray, List.set_cons_succ, List.set_cons_zero]
          go_wp2_with (fail)
          first | exact ⟨rfl, nq, rfl⟩ | exact ⟨rfl, nq, (World.drewN_drewN _ _ _).symm⟩ | exact ⟨rfl, nq, by simp⟩
      try simp only [Act.put, List.setIfInBounds_toArray, List.set_cons_succ, List.set_cons_zero]
      refine stepsSeq.nil ?_
      rintro w' ⟨nq, rfl⟩
      go_wp2_with fail
      try go_ret
      obtain rfl : j = at' + N := by have h1 := Hj.out; have h2 := Hk0.out; omega
      exact HE.out _ _ rfl (by obtain ⟨rfl, rfl⟩ := HX.out; exact HS.out) ((HO.out.drewN _).drewN _)

set_option maxRecDepth 100000 in
set_option maxHeartbeats 1000000 in
theorem skip_inside (b : Nat) (src : ByteArray) (at' : Nat) (line col : Int) (w : World) (hS : Scan w b line col src at') (hat : at' ≤ src.size) (hsz : src.size ≤ 16384) (hl : 0 ≤ line ∧ line ≤ at' + 1) (hc : 0 ≤ col ∧ col ≤ at' + 1) :
    Calls Tryd.prog 41 #[.pointer (some ⟨b, 0, none⟩), .func (.func 50) #[] #[]] w (SkipE b src at' (runK (fun _ => insideB) 0 (src.data.toList.drop at')) line col (fun g => g = b) w) := by
  obtain ⟨N, HN⟩ : ∃ N, Hid (runK (fun _ => insideB) 0 (src.data.toList.drop at') = N) := ⟨_, Lib.hid rfl⟩
  obtain ⟨L, C, HP⟩ : ∃ L C, Hid (posS ((src.data.toList.drop at').take N) line col = (L, C)) := ⟨_, _, Lib.hid rfl⟩
  have hNle : N ≤ src.size - at' := by have := runK_le (fun _ => insideB) (src.data.toList.drop at') 0; rw [HN.out, List.length_drop, str_len] at this; exact this
  have HE : Hid (∀ e w', e = .returned (.string (src.extract at' (at' + N))) → Scan w' b L C src (at' + N) → Only (fun g => g = b) w w' → SkipE b src at' (runK (fun _ => insideB) 0 (src.data.toList.drop at')) line col (fun g => g = b) w e w') := Lib.hid (by
    intro e w' h1 h2 h3
    unfold SkipE
    rw [HN.out, HP.out]
    exact ⟨by rw [h1, bstr_extract, Nat.add_sub_cancel_left], h2, h3⟩)
  obtain ⟨R, hR⟩ : ∃ R, R = SkipE b src at' (runK (fun _ => insideB) 0 (src.data.toList.drop at')) line col (fun g => g = b) w := ⟨_, rfl⟩
  rw [← hR] at HE ⊢
  clear hR
  obtain ⟨c0, c1, c2, c3, cf⟩ := hS.cells
  have HS := Lib.hid hS
  clear hS
  go_enter Tryd.func41, Tryd.ntmps41
  go_wp2_with fail
  clear c0 c1 c2 c3 cf
  go_loopg [10, 11, 12, 13, 14, 15, 16, 17, 18, 19, 20, 21, 22, 23, 24, 25, 26, 27, 28, 29, 30, 31, 32, 33, 34, 35, 36, 37, 38, 39, 40, 41, 42, 43, 44, 45, 46, 47, 48, 49, 50, 51, 52, 53, 54, 55, 56, 57, 58, 59, 60, 61, 62, 63, 64, 65, 66, 67, 68] (N) (fun g _ _ _ _ _ _ _ _ _ _ _ _ _ _ _ _ _ _ _ _ _ _ _ _ _ _ _ _ _ _ _ _ _ _ _ _ _ _ _ _ _ _ _ _ _ _ _ _ _ _ _ _ _ _ _ _ _ _ _ wr => ∃ (k j : Nat) (line1 col1 : Int), Hid (j = at' + k) ∧ g = N - k ∧ k ≤ N ∧ Hid (runK (fun _ => insideB) k (src.data.toList.drop j) + k = N) ∧ Hid (posS ((src.data.toList.drop j).take (N - k)) line1 col1 = (L, C)) ∧ (0 ≤ line1 ∧ line1 ≤ j + 1) ∧ (0 ≤ col1 ∧ col1 ≤ j + 1) ∧ Hid (Scan wr b line1 col1 src j) ∧ Hid (Only (fun g => g = b) w wr))
  case atStart => exact ⟨0, at', line, col, Lib.hid rfl, by omega, by omega, Lib.hid (by rw [Nat.add_zero]; exact HN.out), Lib.hid HP.out, hl, hc, Lib.hid HS.out, Lib.hid (Only.refl _ _)⟩
  case round =>
    obtain ⟨k, j, line1, col1, Hj, rfl, hkN, HR, HQ, ⟨hl0, hl1⟩, ⟨hc0, hc1⟩, HS, HO⟩ := hrel
    obtain ⟨c0, c1, c2, c3, cf⟩ := HS.out.cells
    by_cases hlt : j < src.size
    · obtain ⟨q, hq, HQ2⟩ : ∃ q : Bool, (fun _ => insideB) k src[j] = q ∧ Hid (runK (fun _ => insideB) k (src.data.toList.drop j) = if q = true then runK (fun _ => insideB) (k + 1) (src.data.toList.drop (j + 1)) + 1 else 0) := ⟨_, rfl, Lib.hid (run_step hlt k)⟩
      obtain ⟨qi, hqi⟩ : ∃ qi : Bool, insideI (src[j].toNat : Int) = qi := ⟨_, rfl⟩
      have HC := Lib.hid (inside_any (src[j].toNat : Int) (wr.drewN 0))
      have HC : Hid (∀ n, Calls Tryd.prog 50 #[.int .u8 (src[j].toNat : Int)] (wr.drewN n) fun e w' => e = .returned (.bool q) ∧ wr.drewN n = w') := Lib.hid (fun n => by rw [← hq]; exact inside_any _ _)
      clear hqi
      have hb0 : src[j].toNat ≤ 255 := by have := src[j].toNat_lt; omega
      have hj3 : (0 : Int) ≤ (j : Int) := by omega
      clear hq
      cases q
      · have Hk0 : Hid (k = N) := Lib.hid (by have h1 := HQ2.out; have h2 := HR.out; rw [if_neg (by decide)] at h1; omega)
        have HX : Hid (line1 = L ∧ col1 = C) := Lib.hid (by have h := HQ.out; rw [Hk0.out, Nat.sub_self, List.take_zero] at h; simpa [posS] using h)
        go_wp2_with fail
        refine wp_region_tail 21 (DrewOf wr) (by kernel_rfl) (by kernel_rfl) (DrewOf.start _) ?_
        simp only [List.take_succ_cons, List.take_zero, List.drop_succ_cons, List.drop_zero]
        repeat
          try simp only [Act.put, List.setIfInBounds_toArray, List.set_cons_succ, List.set_cons_zero]
          apply stepsSeq.cons
          · rintro w' ⟨nq, rfl⟩
            simp only [Act.put, List.setIfInBounds_toArray, List.set_cons_succ, List.set_cons_zero]
            go_wp2_with (fail)
            first | exact ⟨rfl, nq, rfl⟩ | exact ⟨rfl, nq, (World.drewN_drewN _ _ _).symm⟩ | exact ⟨rfl, nq, by simp⟩
        try simp only [Act.put, List.setIfInBounds_toArray, List.set_cons_succ, List.set_cons_zero]
        refine stepsSeq.nil ?_
        rintro w' ⟨nq, rfl⟩
        go_wp2_with fail
        go_at_call 50; refine (HC.out _).mono ?_; rintro e1 w2 ⟨rfl, rfl⟩
        go_wp2_with fail
        have hja : at' ≤ j := by have := Hj.out; omega
        have hja' : (at' : Int) ≤ (j : Int) := by omega
        have hjs : j ≤ src.size := by omega
        have hjs' : (j : Int) ≤ (src.size : Int) := by omega
        have hj0 : (0 : Int) ≤ (at' : Int) := by omega
        refine wp_region_seq (DrewOf _) (by kernel_rfl) (by kernel_rfl) (DrewOf.start _) ?_
        repeat
          try simp only [Act.put, List.setIfInBounds_toArray, List.set_cons_succ, List.set_cons_zero]
          apply stepsSeq.cons
          · rintro w' ⟨nq, rfl⟩
            simp only [Act.put, List.setIfInBounds_toArray, List.set_cons_succ, List.set_cons_zero]
            go_wp2_with (fail)
            first | exact ⟨rfl, nq, rfl⟩ | exact ⟨rfl, nq, (World.drewN_drewN _ _ _).symm⟩ | exact ⟨rfl, nq, by simp⟩
        try simp only [Act.put, List.setIfInBounds_toArray, List.set_cons_succ, List.set_cons_zero]
        refine stepsSeq.nil ?_
        rintro w' ⟨nq, rfl⟩
        go_wp2_with fail
        try go_ret
        obtain rfl : j = at' + N := by have h1 := Hj.out; have h2 := Hk0.out; omega
        exact HE.out _ _ rfl (by obtain ⟨rfl, rfl⟩ := HX.out; exact HS.out) ((HO.out.drewN _).drewN _)
      · have hk1 : k + 1 ≤ N := by have h1 := HQ2.out; have h2 := HR.out; rw [if_pos rfl] at h1; omega
        have HR' : Hid (runK (fun _ => insideB) (k + 1) (src.data.toList.drop (j + 1)) + (k + 1) = N) := Lib.hid (by have h1 := HQ2.out; have h2 := HR.out; rw [if_pos rfl] at h1; omega)
        obtain ⟨t, ht, HQ'⟩ : ∃ t : Bool, ((src[j].toNat : Int) == 10) = t ∧ Hid (posS ((src.data.toList.drop (j + 1)).take (N - (k + 1))) (if t = true then line1 + 1 else line1) (if t = true then 1 else col1 + 1) = (L, C)) := ⟨_, rfl, Lib.hid (by
          have h := HQ.out
          rw [show N - k = (N - (k + 1)) + 1 by omega, pos_step hlt] at h
          by_cases e : src[j].toNat = 10
          · have e2 : ((src[j].toNat : Int) == 10) = true := by simp [e]
            rw [if_pos e] at h; rw [e2]; exact h
          · have e2 : ((src[j].toNat : Int) == 10) = false := by rw [beq_eq_false_iff_ne]; omega
            rw [if_neg e] at h; rw [e2]; exact h)⟩
        clear HR HQ HQ2
        cases t
        all_goals
          go_wp2_with fail
          refine wp_region_tail 21 (DrewOf wr) (by kernel_rfl) (by kernel_rfl) (DrewOf.start _) ?_
          simp only [List.take_succ_cons, List.take_zero, List.drop_succ_cons, List.drop_zero]
          repeat
            try simp only [Act.put, List.setIfInBounds_toArray, List.set_cons_succ, List.set_cons_zero]
            apply stepsSeq.cons
            · rintro w' ⟨nq, rfl⟩
              simp only [Act.put, List.setIfInBounds_toArray, List.set_cons_succ, List.set_cons_zero]
              go_wp2_with (fail)
              first | exact ⟨rfl, nq, rfl⟩ | exact ⟨rfl, nq, (World.drewN_drewN _ _ _).symm⟩ | exact ⟨rfl, nq, by simp⟩
          try simp only [Act.put, List.setIfInBounds_toArray, List.set_cons_succ, List.set_cons_zero]
          refine stepsSeq.nil ?_
          rintro w' ⟨nq, rfl⟩
          go_wp2_with fail
          go_at_call 50; refine (HC.out _).mono ?_; rintro e1 w2 ⟨rfl, rfl⟩
          go_wp2_with fail
          refine wp_region_seq (DrewOf _) (by kernel_rfl) (by kernel_rfl) (DrewOf.start _) ?_
          repeat
            try simp only [Act.put, List.setIfInBounds_toArray, List.set_cons_succ, List.set_cons_zero]
            apply stepsSeq.cons
            · rintro w' ⟨nq, rfl⟩
              simp only [Act.put, List.setIfInBounds_toArray, List.set_cons_succ, List.set_cons_zero]
              go_wp2_with (fail)
              first | exact ⟨rfl, nq, rfl⟩ | exact ⟨rfl, nq, (World.drewN_drewN _ _ _).symm⟩ | exact ⟨rfl, nq, by simp⟩
          try simp only [Act.put, List.setIfInBounds_toArray, List.set_cons_succ, List.set_cons_zero]
          refine stepsSeq.nil ?_
          rintro w' ⟨nq, rfl⟩
          go_wp2_with fail
          go_roundg (N - (k + 1))
          case measure => omega
          case rel =>
            first
              | exact ⟨k + 1, j + 1, line1, col1 + 1, Lib.hid (by have := Hj.out; omega), rfl, hk1, HR', HQ', by omega, by omega, Lib.hid ((((HS.out.drewN _).set 1 _).drewN _).set 3 _), Lib.hid ((((HO.out.drewN _).setCell (.inr rfl) _).drewN _).setCell (.inr rfl) _)⟩
              | exact ⟨k + 1, j + 1, line1 + 1, 1, Lib.hid (by have := Hj.out; omega), rfl, hk1, HR', HQ', by omega, by omega, Lib.hid ((((((HS.out.drewN _).set 1 _).drewN _).set 0 _).set 1 _).set 3 _), Lib.hid ((((((HO.out.drewN _).setCell (.inr rfl) _).drewN _).setCell (.inr rfl) _).setCell (.inr rfl) _).setCell (.inr rfl) _)⟩
    · have Hk0 : Hid (k = N) := Lib.hid (by have h2 := HR.out; rw [run_end (by omega)] at h2; omega)
      have HX : Hid (line1 = L ∧ col1 = C) := Lib.hid (by have h := HQ.out; rw [Hk0.out, Nat.sub_self, List.take_zero] at h; simpa [posS] using h)
      have hja : at' ≤ j := by have := Hj.out; omega
      have hja' : (at' : Int) ≤ (j : Int) := by omega
      have hj2 : j ≤ src.size := by have := Hj.out; have := Hk0.out; omega
      have hj2' : (j : Int) ≤ (src.size : Int) := by omega
      have hj0 : (0 : Int) ≤ (at' : Int) := by omega
      have hj1 : (0 : Int) ≤ (j : Int) := by omega
      go_wp2_with fail
      refine wp_region_seq (DrewOf _) (by kernel_rfl) (by kernel_rfl) (DrewOf.start _) ?_
      repeat
        try simp only [Act.put, List.setIfInBounds_toArray, List.set_cons_succ, List.set_cons_zero]
        apply stepsSeq.cons
        · rintro w' ⟨nq, rfl⟩
          simp only [Act.put, List.setIfInBounds_toArray, List.set_cons_succ, List.set_cons_zero]
          go_wp2_with (fail)
          first | exact ⟨rfl, nq, rfl⟩ | exact ⟨rfl, nq, (World.drewN_drewN _ _ _).symm⟩ | exact ⟨rfl, nq, by simp⟩
      try simp only [Act.put, List.setIfInBounds_toArray, List.set_cons_succ, List.set_cons_zero]
      refine stepsSeq.nil ?_
      rintro w' ⟨nq, rfl⟩
      go_wp2_with fail
      refine wp_region_seq (DrewOf _) (by kernel_rfl) (by kernel_rfl) (DrewOf.start _) ?_
      repeat
        try simp only [Act.put, List.setIfInBounds_toArray, List.set_cons_succ, List.set_cons_zero]
        apply stepsSeq.cons
        · rintro w' ⟨nq, rfl⟩
          simp only [Act.put, List.setIfInBounds_toArray, List.set_cons_succ, List.set_cons_zero]
          go_wp2_with (fail)
          first | exact ⟨rfl, nq, rfl⟩ | exact ⟨rfl, nq, (World.drewN_drewN _ _ _).symm⟩ | exact ⟨rfl, nq, by simp⟩
      try simp only [Act.put, List.setIfInBounds_toArray, List.set_cons_succ, List.set_cons_zero]
      refine stepsSeq.nil ?_
      rintro w' ⟨nq, rfl⟩
      go_wp2_with fail
      try go_ret
      obtain rfl : j = at' + N := by have h1 := Hj.out; have h2 := Hk0.out; omega
      exact HE.out _ _ rfl (by obtain ⟨rfl, rfl⟩ := HX.out; exact HS.out) ((HO.out.drewN _).drewN _)

set_option maxRecDepth 100000 in
set_option maxHeartbeats 1000000 in
theorem skip_part (b : Nat) (src : ByteArray) (at' : Nat) (line col : Int) (w : World) (hS : Scan w b line col src at') (hat : at' ≤ src.size) (hsz : src.size ≤ 16384) (hl : 0 ≤ line ∧ line ≤ at' + 1) (hc : 0 ≤ col ∧ col ≤ at' + 1) :
    Calls Tryd.prog 41 #[.pointer (some ⟨b, 0, none⟩), .func (.func 40) #[] #[]] w (SkipE b src at' (runK (fun _ => partB) 0 (src.data.toList.drop at')) line col (fun g => g = b) w) := by
  obtain ⟨N, HN⟩ : ∃ N, Hid (runK (fun _ => partB) 0 (src.data.toList.drop at') = N) := ⟨_, Lib.hid rfl⟩
  obtain ⟨L, C, HP⟩ : ∃ L C, Hid (posS ((src.data.toList.drop at').take N) line col = (L, C)) := ⟨_, _, Lib.hid rfl⟩
  have hNle : N ≤ src.size - at' := by have := runK_le (fun _ => partB) (src.data.toList.drop at') 0; rw [HN.out, List.length_drop, str_len] at this; exact this
  have HE : Hid (∀ e w', e = .returned (.string (src.extract at' (at' + N))) → Scan w' b L C src (at' + N) → Only (fun g => g = b) w w' → SkipE b src at' (runK (fun _ => partB) 0 (src.data.toList.drop at')) line col (fun g => g = b) w e w') := Lib.hid (by
    intro e w' h1 h2 h3
    unfold SkipE
    rw [HN.out, HP.out]
    exact ⟨by rw [h1, bstr_extract, Nat.add_sub_cancel_left], h2, h3⟩)
  obtain ⟨R, hR⟩ : ∃ R, R = SkipE b src at' (runK (fun _ => partB) 0 (src.data.toList.drop at')) line col (fun g => g = b) w := ⟨_, rfl⟩
  rw [← hR] at HE ⊢
  clear hR
  obtain ⟨c0, c1, c2, c3, cf⟩ := hS.cells
  have HS := Lib.hid hS
  clear hS
  go_enter Tryd.func41, Tryd.ntmps41
  go_wp2_with fail
  clear c0 c1 c2 c3 cf
  go_loopg [10, 11, 12, 13, 14, 15, 16, 17, 18, 19, 20, 21, 22, 23, 24, 25, 26, 27, 28, 29, 30, 31, 32, 33, 34, 35, 36, 37, 38, 39, 40, 41, 42, 43, 44, 45, 46, 47, 48, 49, 50, 51, 52, 53, 54, 55, 56, 57, 58, 59, 60, 61, 62, 63, 64, 65, 66, 67, 68] (N) (fun g _ _ _ _ _ _ _ _ _ _ _ _ _ _ _ _ _ _ _ _ _ _ _ _ _ _ _ _ _ _ _ _ _ _ _ _ _ _ _ _ _ _ _ _ _ _ _ _ _ _ _ _ _ _ _ _ _ _ _ wr => ∃ (k j : Nat) (line1 col1 : Int), Hid (j = at' + k) ∧ g = N - k ∧ k ≤ N ∧ Hid (runK (fun _ => partB) k (src.data.toList.drop j) + k = N) ∧ Hid (posS ((src.data.toList.drop j).take (N - k)) line1 col1 = (L, C)) ∧ (0 ≤ line1 ∧ line1 ≤ j + 1) ∧ (0 ≤ col1 ∧ col1 ≤ j + 1) ∧ Hid (Scan wr b line1 col1 src j) ∧ Hid (Only (fun g => g = b) w wr))
  case atStart => exact ⟨0, at', line, col, Lib.hid rfl, by omega, by omega, Lib.hid (by rw [Nat.add_zero]; exact HN.out), Lib.hid HP.out, hl, hc, Lib.hid HS.out, Lib.hid (Only.refl _ _)⟩
  case round =>
    obtain ⟨k, j, line1, col1, Hj, rfl, hkN, HR, HQ, ⟨hl0, hl1⟩, ⟨hc0, hc1⟩, HS, HO⟩ := hrel
    obtain ⟨c0, c1, c2, c3, cf⟩ := HS.out.cells
    by_cases hlt : j < src.size
    · obtain ⟨q, hq, HQ2⟩ : ∃ q : Bool, (fun _ => partB) k src[j] = q ∧ Hid (runK (fun _ => partB) k (src.data.toList.drop j) = if q = true then runK (fun _ => partB) (k + 1) (src.data.toList.drop (j + 1)) + 1 else 0) := ⟨_, rfl, Lib.hid (run_step hlt k)⟩
      obtain ⟨qi, hqi⟩ : ∃ qi : Bool, partI (src[j].toNat : Int) = qi := ⟨_, rfl⟩
      have HC := Lib.hid (part_any (src[j].toNat : Int) (wr.drewN 0))
      have HC : Hid (∀ n, Calls Tryd.prog 40 #[.int .u8 (src[j].toNat : Int)] (wr.drewN n) fun e w' => e = .returned (.bool q) ∧ wr.drewN n = w') := Lib.hid (fun n => by rw [← hq]; exact part_any _ _)
      clear hqi
      have hb0 : src[j].toNat ≤ 255 := by have := src[j].toNat_lt; omega
      have hj3 : (0 : Int) ≤ (j : Int) := by omega
      clear hq
      cases q
      · have Hk0 : Hid (k = N) := Lib.hid (by have h1 := HQ2.out; have h2 := HR.out; rw [if_neg (by decide)] at h1; omega)
        have HX : Hid (line1 = L ∧ col1 = C) := Lib.hid (by have h := HQ.out; rw [Hk0.out, Nat.sub_self, List.take_zero] at h; simpa [posS] using h)
        go_wp2_with fail
        refine wp_region_tail 21 (DrewOf wr) (by kernel_rfl) (by kernel_rfl) (DrewOf.start _) ?_
        simp only [List.take_succ_cons, List.take_zero, List.drop_succ_cons, List.drop_zero]
        repeat
          try simp only [Act.put, List.setIfInBounds_toArray, List.set_cons_succ, List.set_cons_zero]
          apply stepsSeq.cons
          · rintro w' ⟨nq, rfl⟩
            simp only [Act.put, List.setIfInBounds_toArray, List.set_cons_succ, List.set_cons_zero]
            go_wp2_with (fail)
            first | exact ⟨rfl, nq, rfl⟩ | exact ⟨rfl, nq, (World.drewN_drewN _ _ _).symm⟩ | exact ⟨rfl, nq, by simp⟩
        try simp only [Act.put, List.setIfInBounds_toArray, List.set_cons_succ, List.set_cons_zero]
        refine stepsSeq.nil ?_
        rintro w' ⟨nq, rfl⟩
        go_wp2_with fail
        go_at_call 40; refine (HC.out _).mono ?_; rintro e1 w2 ⟨rfl, rfl⟩
        go_wp2_with fail
        have hja : at' ≤ j := by have := Hj.out; omega
        have hja' : (at' : Int) ≤ (j : Int) := by omega
        have hjs : j ≤ src.size := by omega
        have hjs' : (j : Int) ≤ (src.size : Int) := by omega
        have hj0 : (0 : Int) ≤ (at' : Int) := by omega
        refine wp_region_seq (DrewOf _) (by kernel_rfl) (by kernel_rfl) (DrewOf.start _) ?_
        repeat
          try simp only [Act.put, List.setIfInBounds_toArray, List.set_cons_succ, List.set_cons_zero]
          apply stepsSeq.cons
          · rintro w' ⟨nq, rfl⟩
            simp only [Act.put, List.setIfInBounds_toArray, List.set_cons_succ, List.set_cons_zero]
            go_wp2_with (fail)
            first | exact ⟨rfl, nq, rfl⟩ | exact ⟨rfl, nq, (World.drewN_drewN _ _ _).symm⟩ | exact ⟨rfl, nq, by simp⟩
        try simp only [Act.put, List.setIfInBounds_toArray, List.set_cons_succ, List.set_cons_zero]
        refine stepsSeq.nil ?_
        rintro w' ⟨nq, rfl⟩
        go_wp2_with fail
        try go_ret
        obtain rfl : j = at' + N := by have h1 := Hj.out; have h2 := Hk0.out; omega
        exact HE.out _ _ rfl (by obtain ⟨rfl, rfl⟩ := HX.out; exact HS.out) ((HO.out.drewN _).drewN _)
      · have hk1 : k + 1 ≤ N := by have h1 := HQ2.out; have h2 := HR.out; rw [if_pos rfl] at h1; omega
        have HR' : Hid (runK (fun _ => partB) (k + 1) (src.data.toList.drop (j + 1)) + (k + 1) = N) := Lib.hid (by have h1 := HQ2.out; have h2 := HR.out; rw [if_pos rfl] at h1; omega)
        obtain ⟨t, ht, HQ'⟩ : ∃ t : Bool, ((src[j].toNat : Int) == 10) = t ∧ Hid (posS ((src.data.toList.drop (j + 1)).take (N - (k + 1))) (if t = true then line1 + 1 else line1) (if t = true then 1 else col1 + 1) = (L, C)) := ⟨_, rfl, Lib.hid (by
          have h := HQ.out
          rw [show N - k = (N - (k + 1)) + 1 by omega, pos_step hlt] at h
          by_cases e : src[j].toNat = 10
          · have e2 : ((src[j].toNat : Int) == 10) = true := by simp [e]
            rw [if_pos e] at h; rw [e2]; exact h
          · have e2 : ((src[j].toNat : Int) == 10) = false := by rw [beq_eq_false_iff_ne]; omega
            rw [if_neg e] at h; rw [e2]; exact h)⟩
        clear HR HQ HQ2
        cases t
        all_goals
          go_wp2_with fail
          refine wp_region_tail 21 (DrewOf wr) (by kernel_rfl) (by kernel_rfl) (DrewOf.start _) ?_
          simp only [List.take_succ_cons, List.take_zero, List.drop_succ_cons, List.drop_zero]
          repeat
            try simp only [Act.put, List.setIfInBounds_toArray, List.set_cons_succ, List.set_cons_zero]
            apply stepsSeq.cons
            · rintro w' ⟨nq, rfl⟩
              simp only [Act.put, List.setIfInBounds_toArray, List.set_cons_succ, List.set_cons_zero]
              go_wp2_with (fail)
              first | exact ⟨rfl, nq, rfl⟩ | exact ⟨rfl, nq, (World.drewN_drewN _ _ _).symm⟩ | exact ⟨rfl, nq, by simp⟩
          try simp only [Act.put, List.setIfInBounds_toArray, List.set_cons_succ, List.set_cons_zero]
          refine stepsSeq.nil ?_
          rintro w' ⟨nq, rfl⟩
          go_wp2_with fail
          go_at_call 40; refine (HC.out _).mono ?_; rintro e1 w2 ⟨rfl, rfl⟩
          go_wp2_with fail
          refine wp_region_seq (DrewOf _) (by kernel_rfl) (by kernel_rfl) (DrewOf.start _) ?_
          repeat
            try simp only [Act.put, List.setIfInBounds_toArray, List.set_cons_succ, List.set_cons_zero]
            apply stepsSeq.cons
            · rintro w' ⟨nq, rfl⟩
              simp only [Act.put, List.setIfInBounds_toArray, List.set_cons_succ, List.set_cons_zero]
              go_wp2_with (fail)
              first | exact ⟨rfl, nq, rfl⟩ | exact ⟨rfl, nq, (World.drewN_drewN _ _ _).symm⟩ | exact ⟨rfl, nq, by simp⟩
          try simp only [Act.put, List.setIfInBounds_toArray, List.set_cons_succ, List.set_cons_zero]
          refine stepsSeq.nil ?_
          rintro w' ⟨nq, rfl⟩
          go_wp2_with fail
          go_roundg (N - (k + 1))
          case measure => omega
          case rel =>
            first
              | exact ⟨k + 1, j + 1, line1, col1 + 1, Lib.hid (by have := Hj.out; omega), rfl, hk1, HR', HQ', by omega, by omega, Lib.hid ((((HS.out.drewN _).set 1 _).drewN _).set 3 _), Lib.hid ((((HO.out.drewN _).setCell (.inr rfl) _).drewN _).setCell (.inr rfl) _)⟩
              | exact ⟨k + 1, j + 1, line1 + 1, 1, Lib.hid (by have := Hj.out; omega), rfl, hk1, HR', HQ', by omega, by omega, Lib.hid ((((((HS.out.drewN _).set 1 _).drewN _).set 0 _).set 1 _).set 3 _), Lib.hid ((((((HO.out.drewN _).setCell (.inr rfl) _).drewN _).setCell (.inr rfl) _).setCell (.inr rfl) _).setCell (.inr rfl) _)⟩
    · have Hk0 : Hid (k = N) := Lib.hid (by have h2 := HR.out; rw [run_end (by omega)] at h2; omega)
      have HX : Hid (line1 = L ∧ col1 = C) := Lib.hid (by have h := HQ.out; rw [Hk0.out, Nat.sub_self, List.take_zero] at h; simpa [posS] using h)
      have hja : at' ≤ j := by have := Hj.out; omega
      have hja' : (at' : Int) ≤ (j : Int) := by omega
      have hj2 : j ≤ src.size := by have := Hj.out; have := Hk0.out; omega
      have hj2' : (j : Int) ≤ (src.size : Int) := by omega
      have hj0 : (0 : Int) ≤ (at' : Int) := by omega
      have hj1 : (0 : Int) ≤ (j : Int) := by omega
      go_wp2_with fail
      refine wp_region_seq (DrewOf _) (by kernel_rfl) (by kernel_rfl) (DrewOf.start _) ?_
      repeat
        try simp only [Act.put, List.setIfInBounds_toArray, List.set_cons_succ, List.set_cons_zero]
        apply stepsSeq.cons
        · rintro w' ⟨nq, rfl⟩
          simp only [Act.put, List.setIfInBounds_toArray, List.set_cons_succ, List.set_cons_zero]
          go_wp2_with (fail)
          first | exact ⟨rfl, nq, rfl⟩ | exact ⟨rfl, nq, (World.drewN_drewN _ _ _).symm⟩ | exact ⟨rfl, nq, by simp⟩
      try simp only [Act.put, List.setIfInBounds_toArray, List.set_cons_succ, List.set_cons_zero]
      refine stepsSeq.nil ?_
      rintro w' ⟨nq, rfl⟩
      go_wp2_with fail
      refine wp_region_seq (DrewOf _) (by kernel_rfl) (by kernel_rfl) (DrewOf.start _) ?_
      repeat
        try simp only [Act.put, List.setIfInBounds_toArray, List.set_cons_succ, List.set_cons_zero]
        apply stepsSeq.cons
        · rintro w' ⟨nq, rfl⟩
          simp only [Act.put, List.setIfInBounds_toArray, List.set_cons_succ, List.set_cons_zero]
          go_wp2_with (fail)
          first | exact ⟨rfl, nq, rfl⟩ | exact ⟨rfl, nq, (World.drewN_drewN _ _ _).symm⟩ | exact ⟨rfl, nq, by simp⟩
      try simp only [Act.put, List.setIfInBounds_toArray, List.set_cons_succ, List.set_cons_zero]
      refine stepsSeq.nil ?_
      rintro w' ⟨nq, rfl⟩
      go_wp2_with fail
      try go_ret
      obtain rfl : j = at' + N := by have h1 := Hj.out; have h2 := Hk0.out; omega
      exact HE.out _ _ rfl (by obtain ⟨rfl, rfl⟩ := HX.out; exact HS.out) ((HO.out.drewN _).drewN _)
end Go.Proofs.YtcichbdkdbnmiaaDoor
