/- marcheslaw13.countExpr and count, walked: printable programs. -/
/- marcheslaw13.count, walked: printable programs. -/
/- marcheslaw13.CompileCounts, walked. -/
import Derived.Test.YtdeneckmoejcfaaSoundSJ
import Derived.Test.YtdeneckmoejcfaaTreeOJ
import Derived.Test.YtdeneckmoejcfaaPMaskJ
import Derived.Test.YtdeneckmoejcfaaPCompJ
import Derived.Test.YtdeneckmoejcfaaWAwkJ
set_option linter.unusedSimpArgs false
set_option linter.unusedVariables false
namespace Go.Proofs.Ytdeneckmoejcfaa
open Go.RowKit

mutual
theorem cntE_le : ∀ x : Ex, (cntE x).1 ≤ 4 * szE x
  | .mk op n name args => by
    have := cntEs_le args
    rw [cntE, szE]
    simp only
    split <;> omega
theorem cntEs_le : ∀ xs : List Ex, (cntEs xs).1 ≤ 4 * szEs xs
  | [] => by rw [cntEs]; exact Nat.zero_le _
  | x :: r => by
    have := cntE_le x
    have := cntEs_le r
    rw [cntEs, szEs]
    simp only
    omega
end
mutual
theorem cntS_le : ∀ x : St, (cntS x).1 ≤ 4 * szS x
  | .mk op n name es body els => by
    have := cntEs_le es
    have := cntSs_le body
    have := cntSs_le els
    rw [cntS, szS]
    simp only
    split <;> omega
theorem cntSs_le : ∀ xs : List St, (cntSs xs).1 ≤ 4 * szSs xs
  | [] => by rw [cntSs]; exact Nat.zero_le _
  | x :: r => by
    have := cntS_le x
    have := cntSs_le r
    rw [cntSs, szSs]
    simp only
    omega
end
set_option maxRecDepth 100000 in
set_option maxHeartbeats 2000000 in
theorem countE_any : ∀ (d : Nat) (op n : Int) (name : List UInt8) (args : List Ex) (v : Value) (w : World) (B : Nat), fineS d (.mk op n name args) = true → szEs args ≤ 100000 → okE (.mk op n name args) → EsL w B args v → B ≤ w.heap.size →
    Calls Try.prog 49 #[.agg #[.int .u8 op, .int .i64 n, .string (bstr name), v]] w fun e w' => e = .returned (.tuple #[.int .i64 ((cntE (.mk op n name args)).1 : Nat), .int .u32 (w32 (cntE (.mk op n name args)).2)]) ∧ Below w.heap.size w w' := by
  intro d
  induction d with
  | zero => intro op n name args v w B h; cases h
  | succ d ih =>
    intro op n name args v w B hf hsz hok hL hB
    obtain ⟨a, cap, rfl, hc1, hc2⟩ := hL.form
    have hoks : okEs args := hok.2.2.2
    rw [fineS, Bool.and_eq_true] at hf
    obtain ⟨hh, hall⟩ := hf
    have hn3 : op = 3 → 1 ≤ n ∧ n ≤ 10 := by
      rintro rfl
      rw [headE_3, Bool.and_eq_true, Bool.and_eq_true, decide_eq_true_eq, decide_eq_true_eq, decide_eq_true_eq] at hh
      exact hh.2.2
    have Hoks := Lib.hid hoks
    have Hall := Lib.hid (List.all_eq_true.1 hall)
    have HL := Lib.hid hL
    have Hih := Lib.hid ih
    have Hsz := Lib.hid hsz
    have Hop : Hid (¬ op = 3 → ¬ op = 21 → ¬ op = 22 → cntE (.mk op n name args) = (1 + (cntEs args).1, (cntEs args).2)) := Lib.hid (fun h3 h21 h22 => by rw [cntE, if_neg (by omega), if_neg h3]; exact congrArg _ BitVec.zero_or)
    obtain ⟨W1, hW1, hX1, hb1⟩ : ∃ W1, W1 = w.alloc (.cells #[.int .u8 op, .int .i64 n, .string (bstr name), .slice a args.length cap] 65) ∧ OwnV W1 w.heap.size 65 [.int .u8 op, .int .i64 n, .string (bstr name), .slice a args.length cap] ∧ Below w.heap.size w W1 := ⟨_, rfl, OwnV.new _ _ _, (Below.refl _ _).alloc (Nat.le_refl _) _⟩
    have Hb1 := Lib.hid hb1
    have HX1 := Lib.hid hX1
    have HW1 := Lib.hid hW1
    have x0 := hX1.cell (i := 0) rfl
    have x1 := hX1.cell (i := 1) rfl
    clear hsz hoks hL hb1 hX1 hW1 hok hh hall ih
    go_enter Try.func49, Try.ntmps49
    go_upto_region 1 with (fail)
    rw [← HW1.out]
    by_cases h3 : op = 3
    · subst h3
      obtain ⟨hn1, hn2⟩ := hn3 rfl
      obtain ⟨m, rfl⟩ : ∃ m : Nat, n = m := ⟨n.toNat, by omega⟩
      obtain ⟨M, hM⟩ : ∃ M, M = bit32 m := ⟨_, rfl⟩
      have hsx : IntKind.u32.wrap (2 ^ m) = w32 M := by rw [shl_u32 (by omega), hM]
      have Hs : Hid (cntE (.mk 3 (m : Int) name args) = (1 + (cntEs args).1, M ||| (cntEs args).2)) := Lib.hid (by rw [cntE, if_neg (by omega), if_pos rfl, hM]; rfl)
      clear hM hn3 Hop
      go_wp2_with fail
      go_loopw [4, 5, 6, 7, 8, 23, 24, 25, 26, 27, 28, 29, 30, 31, 32, 33, 34, 35, 36, 37, 38, 39, 40, 41, 42, 43, 44] (fun t4 t5 t6 _ _ _ _ _ _ _ _ _ _ _ _ _ _ _ _ _ _ _ _ _ _ _ _ wr => ∃ k : Nat, k ≤ args.length ∧ t6 = .int .i64 k ∧ t4 = .int .i64 ((1 + (cntEs (args.take k)).1 : Nat)) ∧ t5 = .int .u32 (w32 (HOr.hOr M ((cntEs (args.take k)).2))) ∧ Hid (Below W1.heap.size W1 wr)) (fun _ _ t6 _ _ _ _ _ _ _ _ _ _ _ _ _ _ _ _ _ _ _ _ _ _ _ _ _ => args.length - (intOf t6).toNat)
      case atStart => exact ⟨0, by omega, by first | rfl | go_num, by first | rfl | go_num, by show Value.int .u32 (w32 M) = Value.int .u32 (w32 (M ||| 0#32)); rw [BitVec.or_zero], Lib.hid (Below.refl _ _)⟩
      case round =>
        obtain ⟨k, hk, rfl, rfl, rfl, HB⟩ := hrel
        have hx := HX1.out.below HB.out (Nat.le_refl _)
        have hx3 := hx.cell (i := 3) rfl
        by_cases hkl : k < args.length
        · have hki : (k : Int) < (args.length : Int) := by omega
          have hcl : (args.length : Int) ≤ 9223372036854775807 := by omega
          have hLr : EsL wr B args (.slice a args.length cap) := HL.out.low ((Hb1.out.mono hB).trans (HB.out.mono (Nat.le_trans hB Hb1.out.size)))
          obtain ⟨b, off, op2, n2, name2, args2, aa, ac, rfl, hbB, hbw, hat, c0, c1, c2, c3, hL2⟩ := hLr.at hkl
          have HI := Lib.hid (Hih.out op2 n2 name2 args2 _ wr B (Hall.out _ (List.mem_of_getElem? hat)) (by have := szE_mk hat; have := Hsz.out; omega) (okEs_at Hoks.out hat) hL2 (Nat.le_trans hB (Nat.le_trans Hb1.out.size HB.out.size)))
          obtain ⟨st1, st2⟩ := cntEs_take hat
          have hb1 : (cntEs (args.take k)).1 + (cntE (.mk op2 n2 name2 args2)).1 ≤ 400000 := by
            have h1 := cntEs_le (args.take (k + 1))
            have h2 := szEs_app (args.take (k + 1)) (args.drop (k + 1))
            rw [List.take_append_drop] at h2
            have := Hsz.out
            omega
          have St1 := Lib.hid st1
          have St2 := Lib.hid st2
          generalize cntE (.mk op2 n2 name2 args2) = Z at *
          obtain ⟨z1, z2⟩ := Z
          generalize cntEs (args.take k) = Y at *
          obtain ⟨y1, y2⟩ := Y
          have hor : bits .or .u32 (w32 (M ||| y2)) (w32 z2) = w32 (M ||| y2 ||| z2) := bits_or32 _ _
          dsimp only at hb1 HI St1 St2 ⊢
          clear hx hLr hat hL2 st1 st2
          go_wp2_with fail
          refine HI.out.mono ?_
          rintro e2 w2 ⟨rfl, hb2⟩
          have HB2 := Lib.hid (HB.out.trans (hb2.mono HB.out.size))
          clear hb2
          go_wp2_with fail
          go_roundw
          case rel => exact ⟨k + 1, by omega, by go_num, by rw [St1.out]; go_num, by rw [St2.out, ← BitVec.or_assoc], HB2⟩
          case measure => simp [intOf]; omega
        · have hki : ¬ (k : Int) < (args.length : Int) := by omega
          have hke : k = args.length := by omega
          have htk : args.take k = args := by rw [hke, List.take_length]
          rw [htk]
          clear htk hke
          go_wp2_with fail
          go_ret2
          refine ⟨?_, Hb1.out.trans (HB.out.mono Hb1.out.size)⟩
          rw [Hs.out]
          rfl
    by_cases h21 : op = 21
    · subst h21
      have Hs : Hid (cntE (.mk 21 n name args) = (4 + (cntEs args).1, (cntEs args).2)) := Lib.hid (by rw [cntE, if_pos (.inl rfl), if_neg (by omega)]; exact congrArg _ BitVec.zero_or)
      clear hn3 Hop
      go_wp2_with fail
      go_loopw [4, 5, 6, 7, 8, 23, 24, 25, 26, 27, 28, 29, 30, 31, 32, 33, 34, 35, 36, 37, 38, 39, 40, 41, 42, 43, 44] (fun t4 t5 t6 _ _ _ _ _ _ _ _ _ _ _ _ _ _ _ _ _ _ _ _ _ _ _ _ wr => ∃ k : Nat, k ≤ args.length ∧ t6 = .int .i64 k ∧ t4 = .int .i64 ((4 + (cntEs (args.take k)).1 : Nat)) ∧ t5 = .int .u32 (w32 ((cntEs (args.take k)).2)) ∧ Hid (Below W1.heap.size W1 wr)) (fun _ _ t6 _ _ _ _ _ _ _ _ _ _ _ _ _ _ _ _ _ _ _ _ _ _ _ _ _ => args.length - (intOf t6).toNat)
      case atStart => exact ⟨0, by omega, by first | rfl | go_num, by first | rfl | go_num, rfl, Lib.hid (Below.refl _ _)⟩
      case round =>
        obtain ⟨k, hk, rfl, rfl, rfl, HB⟩ := hrel
        have hx := HX1.out.below HB.out (Nat.le_refl _)
        have hx3 := hx.cell (i := 3) rfl
        by_cases hkl : k < args.length
        · have hki : (k : Int) < (args.length : Int) := by omega
          have hcl : (args.length : Int) ≤ 9223372036854775807 := by omega
          have hLr : EsL wr B args (.slice a args.length cap) := HL.out.low ((Hb1.out.mono hB).trans (HB.out.mono (Nat.le_trans hB Hb1.out.size)))
          obtain ⟨b, off, op2, n2, name2, args2, aa, ac, rfl, hbB, hbw, hat, c0, c1, c2, c3, hL2⟩ := hLr.at hkl
          have HI := Lib.hid (Hih.out op2 n2 name2 args2 _ wr B (Hall.out _ (List.mem_of_getElem? hat)) (by have := szE_mk hat; have := Hsz.out; omega) (okEs_at Hoks.out hat) hL2 (Nat.le_trans hB (Nat.le_trans Hb1.out.size HB.out.size)))
          obtain ⟨st1, st2⟩ := cntEs_take hat
          have hb1 : (cntEs (args.take k)).1 + (cntE (.mk op2 n2 name2 args2)).1 ≤ 400000 := by
            have h1 := cntEs_le (args.take (k + 1))
            have h2 := szEs_app (args.take (k + 1)) (args.drop (k + 1))
            rw [List.take_append_drop] at h2
            have := Hsz.out
            omega
          have St1 := Lib.hid st1
          have St2 := Lib.hid st2
          generalize cntE (.mk op2 n2 name2 args2) = Z at *
          obtain ⟨z1, z2⟩ := Z
          generalize cntEs (args.take k) = Y at *
          obtain ⟨y1, y2⟩ := Y
          have hor : bits .or .u32 (w32 (y2)) (w32 z2) = w32 (y2 ||| z2) := bits_or32 _ _
          dsimp only at hb1 HI St1 St2 ⊢
          clear hx hLr hat hL2 st1 st2
          go_wp2_with fail
          refine HI.out.mono ?_
          rintro e2 w2 ⟨rfl, hb2⟩
          have HB2 := Lib.hid (HB.out.trans (hb2.mono HB.out.size))
          clear hb2
          go_wp2_with fail
          go_roundw
          case rel => exact ⟨k + 1, by omega, by go_num, by rw [St1.out]; go_num, by rw [St2.out], HB2⟩
          case measure => simp [intOf]; omega
        · have hki : ¬ (k : Int) < (args.length : Int) := by omega
          have hke : k = args.length := by omega
          have htk : args.take k = args := by rw [hke, List.take_length]
          rw [htk]
          clear htk hke
          go_wp2_with fail
          go_ret2
          refine ⟨?_, Hb1.out.trans (HB.out.mono Hb1.out.size)⟩
          rw [Hs.out]
          rfl
    by_cases h22 : op = 22
    · subst h22
      have Hs : Hid (cntE (.mk 22 n name args) = (4 + (cntEs args).1, (cntEs args).2)) := Lib.hid (by rw [cntE, if_pos (.inr rfl), if_neg (by omega)]; exact congrArg _ BitVec.zero_or)
      clear hn3 Hop
      go_wp2_with fail
      go_loopw [4, 5, 6, 7, 8, 23, 24, 25, 26, 27, 28, 29, 30, 31, 32, 33, 34, 35, 36, 37, 38, 39, 40, 41, 42, 43, 44] (fun t4 t5 t6 _ _ _ _ _ _ _ _ _ _ _ _ _ _ _ _ _ _ _ _ _ _ _ _ wr => ∃ k : Nat, k ≤ args.length ∧ t6 = .int .i64 k ∧ t4 = .int .i64 ((4 + (cntEs (args.take k)).1 : Nat)) ∧ t5 = .int .u32 (w32 ((cntEs (args.take k)).2)) ∧ Hid (Below W1.heap.size W1 wr)) (fun _ _ t6 _ _ _ _ _ _ _ _ _ _ _ _ _ _ _ _ _ _ _ _ _ _ _ _ _ => args.length - (intOf t6).toNat)
      case atStart => exact ⟨0, by omega, by first | rfl | go_num, by first | rfl | go_num, rfl, Lib.hid (Below.refl _ _)⟩
      case round =>
        obtain ⟨k, hk, rfl, rfl, rfl, HB⟩ := hrel
        have hx := HX1.out.below HB.out (Nat.le_refl _)
        have hx3 := hx.cell (i := 3) rfl
        by_cases hkl : k < args.length
        · have hki : (k : Int) < (args.length : Int) := by omega
          have hcl : (args.length : Int) ≤ 9223372036854775807 := by omega
          have hLr : EsL wr B args (.slice a args.length cap) := HL.out.low ((Hb1.out.mono hB).trans (HB.out.mono (Nat.le_trans hB Hb1.out.size)))
          obtain ⟨b, off, op2, n2, name2, args2, aa, ac, rfl, hbB, hbw, hat, c0, c1, c2, c3, hL2⟩ := hLr.at hkl
          have HI := Lib.hid (Hih.out op2 n2 name2 args2 _ wr B (Hall.out _ (List.mem_of_getElem? hat)) (by have := szE_mk hat; have := Hsz.out; omega) (okEs_at Hoks.out hat) hL2 (Nat.le_trans hB (Nat.le_trans Hb1.out.size HB.out.size)))
          obtain ⟨st1, st2⟩ := cntEs_take hat
          have hb1 : (cntEs (args.take k)).1 + (cntE (.mk op2 n2 name2 args2)).1 ≤ 400000 := by
            have h1 := cntEs_le (args.take (k + 1))
            have h2 := szEs_app (args.take (k + 1)) (args.drop (k + 1))
            rw [List.take_append_drop] at h2
            have := Hsz.out
            omega
          have St1 := Lib.hid st1
          have St2 := Lib.hid st2
          generalize cntE (.mk op2 n2 name2 args2) = Z at *
          obtain ⟨z1, z2⟩ := Z
          generalize cntEs (args.take k) = Y at *
          obtain ⟨y1, y2⟩ := Y
          have hor : bits .or .u32 (w32 (y2)) (w32 z2) = w32 (y2 ||| z2) := bits_or32 _ _
          dsimp only at hb1 HI St1 St2 ⊢
          clear hx hLr hat hL2 st1 st2
          go_wp2_with fail
          refine HI.out.mono ?_
          rintro e2 w2 ⟨rfl, hb2⟩
          have HB2 := Lib.hid (HB.out.trans (hb2.mono HB.out.size))
          clear hb2
          go_wp2_with fail
          go_roundw
          case rel => exact ⟨k + 1, by omega, by go_num, by rw [St1.out]; go_num, by rw [St2.out], HB2⟩
          case measure => simp [intOf]; omega
        · have hki : ¬ (k : Int) < (args.length : Int) := by omega
          have hke : k = args.length := by omega
          have htk : args.take k = args := by rw [hke, List.take_length]
          rw [htk]
          clear htk hke
          go_wp2_with fail
          go_ret2
          refine ⟨?_, Hb1.out.trans (HB.out.mono Hb1.out.size)⟩
          rw [Hs.out]
          rfl
    have Hs := Lib.hid (Hop.out h3 h21 h22)
    have hq3 : (op == 3) = false := by rw [beq_eq_false_iff_ne]; exact h3
    have hq1 : (op == 21) = false := by rw [beq_eq_false_iff_ne]; exact h21
    have hq2 : (op == 22) = false := by rw [beq_eq_false_iff_ne]; exact h22
    clear hn3 Hop h3 h21 h22
    go_wp2_with fail
    go_loopw [4, 5, 6, 7, 8, 23, 24, 25, 26, 27, 28, 29, 30, 31, 32, 33, 34, 35, 36, 37, 38, 39, 40, 41, 42, 43, 44] (fun t4 t5 t6 _ _ _ _ _ _ _ _ _ _ _ _ _ _ _ _ _ _ _ _ _ _ _ _ wr => ∃ k : Nat, k ≤ args.length ∧ t6 = .int .i64 k ∧ t4 = .int .i64 ((1 + (cntEs (args.take k)).1 : Nat)) ∧ t5 = .int .u32 (w32 ((cntEs (args.take k)).2)) ∧ Hid (Below W1.heap.size W1 wr)) (fun _ _ t6 _ _ _ _ _ _ _ _ _ _ _ _ _ _ _ _ _ _ _ _ _ _ _ _ _ => args.length - (intOf t6).toNat)
    case atStart => exact ⟨0, by omega, by first | rfl | go_num, by first | rfl | go_num, rfl, Lib.hid (Below.refl _ _)⟩
    case round =>
      obtain ⟨k, hk, rfl, rfl, rfl, HB⟩ := hrel
      have hx := HX1.out.below HB.out (Nat.le_refl _)
      have hx3 := hx.cell (i := 3) rfl
      by_cases hkl : k < args.length
      · have hki : (k : Int) < (args.length : Int) := by omega
        have hcl : (args.length : Int) ≤ 9223372036854775807 := by omega
        have hLr : EsL wr B args (.slice a args.length cap) := HL.out.low ((Hb1.out.mono hB).trans (HB.out.mono (Nat.le_trans hB Hb1.out.size)))
        obtain ⟨b, off, op2, n2, name2, args2, aa, ac, rfl, hbB, hbw, hat, c0, c1, c2, c3, hL2⟩ := hLr.at hkl
        have HI := Lib.hid (Hih.out op2 n2 name2 args2 _ wr B (Hall.out _ (List.mem_of_getElem? hat)) (by have := szE_mk hat; have := Hsz.out; omega) (okEs_at Hoks.out hat) hL2 (Nat.le_trans hB (Nat.le_trans Hb1.out.size HB.out.size)))
        obtain ⟨st1, st2⟩ := cntEs_take hat
        have hb1 : (cntEs (args.take k)).1 + (cntE (.mk op2 n2 name2 args2)).1 ≤ 400000 := by
          have h1 := cntEs_le (args.take (k + 1))
          have h2 := szEs_app (args.take (k + 1)) (args.drop (k + 1))
          rw [List.take_append_drop] at h2
          have := Hsz.out
          omega
        have St1 := Lib.hid st1
        have St2 := Lib.hid st2
        generalize cntE (.mk op2 n2 name2 args2) = Z at *
        obtain ⟨z1, z2⟩ := Z
        generalize cntEs (args.take k) = Y at *
        obtain ⟨y1, y2⟩ := Y
        have hor : bits .or .u32 (w32 (y2)) (w32 z2) = w32 (y2 ||| z2) := bits_or32 _ _
        dsimp only at hb1 HI St1 St2 ⊢
        clear hx hLr hat hL2 st1 st2
        go_wp2_with fail
        refine HI.out.mono ?_
        rintro e2 w2 ⟨rfl, hb2⟩
        have HB2 := Lib.hid (HB.out.trans (hb2.mono HB.out.size))
        clear hb2
        go_wp2_with fail
        go_roundw
        case rel => exact ⟨k + 1, by omega, by go_num, by rw [St1.out]; go_num, by rw [St2.out], HB2⟩
        case measure => simp [intOf]; omega
      · have hki : ¬ (k : Int) < (args.length : Int) := by omega
        have hke : k = args.length := by omega
        have htk : args.take k = args := by rw [hke, List.take_length]
        rw [htk]
        clear htk hke
        go_wp2_with fail
        go_ret2
        refine ⟨?_, Hb1.out.trans (HB.out.mono Hb1.out.size)⟩
        rw [Hs.out]
        rfl
end Go.Proofs.Ytdeneckmoejcfaa
namespace Go.Proofs.Ytdeneckmoejcfaa
open Go.RowKit

set_option maxRecDepth 100000 in
set_option maxHeartbeats 4000000 in
theorem count_any : ∀ (d : Nat) (xs : List St) (v : Value) (w : World) (B : Nat), rightS d xs = true → szSs xs ≤ 100000 → okSs xs → SsL w B xs v → B ≤ w.heap.size →
    Calls Try.prog 28 #[v] w fun e w' => e = .returned (.tuple #[.int .i64 ((cntSs xs).1 : Nat), .int .u32 (w32 (cntSs xs).2.1), .int .u32 (w32 (cntSs xs).2.2)]) ∧ Below w.heap.size w w' := by
  intro d
  induction d with
  | zero =>
    intro xs v w B h _ _ hL _
    have : xs = [] := by
      cases xs with
      | nil => rfl
      | cons x r => cases h
    subst this
    obtain ⟨a, cap, rfl, hc1, hc2⟩ := hL.form
    clear hL
    go_enter Try.func28, Try.ntmps28
    go_wp2_with fail
    go_loopw [5, 6, 7, 8, 9, 10, 11, 12, 13, 14, 15, 16, 17, 18, 19, 20, 21, 22, 23, 24, 25, 26, 27, 28, 29, 30, 31, 32, 33, 34, 35, 36, 37, 38, 39, 40, 41, 42, 43, 44, 45, 46, 47, 48, 49, 50, 51, 52, 53, 54, 55, 56, 57, 58, 59, 60, 61, 62, 63, 64, 65, 66, 67, 68, 69, 70, 71, 72, 73, 74, 75, 76, 77, 78, 79, 80, 81, 82, 83, 84, 85, 86, 87, 88, 89, 90, 91, 92, 93, 94, 95, 96, 97, 98, 99, 100, 101, 102, 103, 104, 105] (fun t5 t6 t7 t8 _ _ _ _ _ _ _ _ _ _ _ _ _ _ _ _ _ _ _ _ _ _ _ _ _ _ _ _ _ _ _ _ _ _ _ _ _ _ _ _ _ _ _ _ _ _ _ _ _ _ _ _ _ _ _ _ _ _ _ _ _ _ _ _ _ _ _ _ _ _ _ _ _ _ _ _ _ _ _ _ _ _ _ _ _ _ _ _ _ _ _ _ _ _ _ _ _ wr => t8 = .int .i64 0 ∧ t5 = .int .i64 0 ∧ t6 = .int .u32 0 ∧ t7 = .int .u32 0 ∧ Hid (Below w.heap.size w wr)) (fun _ _ _ _ _ _ _ _ _ _ _ _ _ _ _ _ _ _ _ _ _ _ _ _ _ _ _ _ _ _ _ _ _ _ _ _ _ _ _ _ _ _ _ _ _ _ _ _ _ _ _ _ _ _ _ _ _ _ _ _ _ _ _ _ _ _ _ _ _ _ _ _ _ _ _ _ _ _ _ _ _ _ _ _ _ _ _ _ _ _ _ _ _ _ _ _ _ _ _ _ _ _ => 0)
    case atStart => exact ⟨by first | rfl | go_num, by first | rfl | go_num, by first | rfl | go_num, by first | rfl | go_num, Lib.hid (Below.refl _ _)⟩
    case round =>
      obtain ⟨rfl, rfl, rfl, rfl, HB⟩ := hrel
      go_wp2_with fail
      go_ret3
      exact ⟨rfl, HB.out⟩
  | succ d ih =>
    intro xs v w B hf hsz hok hL hB
    obtain ⟨a, cap, rfl, hc1, hc2⟩ := hL.form
    rw [rightS_succ] at hf
    have Hoks := Lib.hid hok
    have Hall := Lib.hid (List.all_eq_true.1 hf)
    have HL := Lib.hid hL
    have Hih := Lib.hid ih
    have Hsz := Lib.hid hsz
    clear hsz hok hL ih hf
    go_enter Try.func28, Try.ntmps28
    go_wp2_with fail
    go_loopw [5, 6, 7, 8, 9, 10, 11, 12, 13, 14, 15, 16, 17, 18, 19, 20, 21, 22, 23, 24, 25, 26, 27, 28, 29, 30, 31, 32, 33, 34, 35, 36, 37, 38, 39, 40, 41, 42, 43, 44, 45, 46, 47, 48, 49, 50, 51, 52, 53, 54, 55, 56, 57, 58, 59, 60, 61, 62, 63, 64, 65, 66, 67, 68, 69, 70, 71, 72, 73, 74, 75, 76, 77, 78, 79, 80, 81, 82, 83, 84, 85, 86, 87, 88, 89, 90, 91, 92, 93, 94, 95, 96, 97, 98, 99, 100, 101, 102, 103, 104, 105] (fun t5 t6 t7 t8 _ _ _ _ _ _ _ _ _ _ _ _ _ _ _ _ _ _ _ _ _ _ _ _ _ _ _ _ _ _ _ _ _ _ _ _ _ _ _ _ _ _ _ _ _ _ _ _ _ _ _ _ _ _ _ _ _ _ _ _ _ _ _ _ _ _ _ _ _ _ _ _ _ _ _ _ _ _ _ _ _ _ _ _ _ _ _ _ _ _ _ _ _ _ _ _ _ wr => ∃ k : Nat, k ≤ xs.length ∧ t8 = .int .i64 k ∧ t5 = .int .i64 ((cntSs (xs.take k)).1 : Nat) ∧ t6 = .int .u32 (w32 (cntSs (xs.take k)).2.1) ∧ t7 = .int .u32 (w32 (cntSs (xs.take k)).2.2) ∧ Hid (Below w.heap.size w wr)) (fun _ _ _ t8 _ _ _ _ _ _ _ _ _ _ _ _ _ _ _ _ _ _ _ _ _ _ _ _ _ _ _ _ _ _ _ _ _ _ _ _ _ _ _ _ _ _ _ _ _ _ _ _ _ _ _ _ _ _ _ _ _ _ _ _ _ _ _ _ _ _ _ _ _ _ _ _ _ _ _ _ _ _ _ _ _ _ _ _ _ _ _ _ _ _ _ _ _ _ _ _ _ _ => xs.length - (intOf t8).toNat)
    case atStart => exact ⟨0, by omega, by first | rfl | go_num, by first | rfl | go_num, by first | rfl | go_num, by first | rfl | go_num, Lib.hid (Below.refl _ _)⟩
    case round =>
      obtain ⟨wo, rfl⟩ : ∃ wo : World, wo = wr := ⟨_, rfl⟩
      obtain ⟨k, hk, rfl, rfl, rfl, rfl, HB⟩ := hrel
      by_cases hkl : k < xs.length
      · have hki : (k : Int) < (xs.length : Int) := by omega
        have hcl : (xs.length : Int) ≤ 9223372036854775807 := by omega
        have hLr : SsL wo B xs (.slice a xs.length cap) := HL.out.low (HB.out.mono hB)
        obtain ⟨b, off, op, n, name, es, body, els, ae, ce, ab, cb, al, cl, rfl, hbB, hbw, hat, c0, c1, c2, c3, c4, c5, hE, hBd, hEl⟩ := hLr.at hkl
        obtain ⟨hz1, hz2, hz3⟩ := szS_mk hat
        obtain ⟨-, -, -, hok1, hok2, hok3⟩ := okSs_at Hoks.out hat
        have hr1 := Hall.out _ (List.mem_of_getElem? hat)
        unfold right1 at hr1
        simp only [Bool.and_eq_true] at hr1
        obtain ⟨⟨hrb, hrl⟩, hh, hes⟩ := hr1
        have hn3 : op = 3 → 1 ≤ n ∧ n ≤ 10 := by
          rintro rfl
          rw [headT_20100 _ _ _ _ _ _ rfl, Bool.and_eq_true, Bool.and_eq_true, Bool.and_eq_true, decide_eq_true_eq, decide_eq_true_eq, decide_eq_true_eq] at hh
          exact hh.2.2.1
        have hszr := HB.out.size
        have hszz := Hsz.out
        obtain ⟨st1, st2, st3⟩ := cntSs_take hat
        have hbd : (cntSs (xs.take k)).1 + (cntS (.mk op n name es body els)).1 ≤ 400000 := by
          have h1 := cntSs_le (xs.take (k + 1))
          have h2 := szSs_app (xs.take (k + 1)) (xs.drop (k + 1))
          rw [List.take_append_drop] at h2
          omega
        have St1 := Lib.hid st1
        have St2 := Lib.hid st2
        have St3 := Lib.hid st3
        have Hc : Hid (cntS (.mk op n name es body els) = _) := Lib.hid (by rw [cntS])
        obtain ⟨N, hN⟩ : ∃ N : Nat, N = (if op = 5 ∨ op = 4 ∧ 0 < els.length then 1 else 0) := ⟨_, rfl⟩
        obtain ⟨M, hM⟩ : ∃ M : BitVec 32, M = (if op = 3 then bit32 n.toNat else 0) := ⟨_, rfl⟩
        rw [← hN, ← hM] at Hc
        rw [Hc.out] at St1 St2 St3 hbd
        dsimp only at St1 St2 St3 hbd
        have hle : (es.length : Int) ≤ 9223372036854775807 := by obtain ⟨_, _, h, h1, h2⟩ := hE.form; omega
        have hll : (els.length : Int) ≤ 9223372036854775807 := by obtain ⟨_, _, h, h1, h2⟩ := hEl.form; omega
        have HE := Lib.hid hE
        have Hes := Lib.hid (List.all_eq_true.1 hes)
        have Hok1 := Lib.hid hok1
        have Hszes : Hid (szEs es ≤ 100000) := Lib.hid (by omega)
        obtain ⟨W1, hW1, hX1, hb1⟩ : ∃ W1, W1 = wo.alloc (.cells #[.int .u8 op, .int .i64 n, .string (bstr name), .slice ae es.length ce, .slice ab body.length cb, .slice al els.length cl] 59) ∧ OwnV W1 wo.heap.size 59 [.int .u8 op, .int .i64 n, .string (bstr name), .slice ae es.length ce, .slice ab body.length cb, .slice al els.length cl] ∧ Below wo.heap.size wo W1 := ⟨_, rfl, OwnV.new _ _ _, (Below.refl _ _).alloc (Nat.le_refl _) _⟩
        have HBd : Hid (∀ (w' : World), Below wo.heap.size wo w' → Calls Try.prog 28 #[.slice ab body.length cb] w' fun e w2 => e = .returned (.tuple #[.int .i64 ((cntSs body).1 : Nat), .int .u32 (w32 (cntSs body).2.1), .int .u32 (w32 (cntSs body).2.2)]) ∧ Below w'.heap.size w' w2) := Lib.hid (fun w' hb => Hih.out body _ w' B hrb (by omega) hok2 (hBd.low (hb.mono (Nat.le_trans hB hszr))) (Nat.le_trans hB (Nat.le_trans hszr hb.size)))
        have HEl : Hid (∀ (w' : World), Below wo.heap.size wo w' → Calls Try.prog 28 #[.slice al els.length cl] w' fun e w2 => e = .returned (.tuple #[.int .i64 ((cntSs els).1 : Nat), .int .u32 (w32 (cntSs els).2.1), .int .u32 (w32 (cntSs els).2.2)]) ∧ Below w'.heap.size w' w2) := Lib.hid (fun w' hb => Hih.out els _ w' B hrl (by omega) hok3 (hEl.low (hb.mono (Nat.le_trans hB hszr))) (Nat.le_trans hB (Nat.le_trans hszr hb.size)))
        have HX1 := Lib.hid hX1
        have Hb1 := Lib.hid hb1
        have HW1 := Lib.hid hW1
        have x0 := hX1.cell (i := 0) rfl
        have x1 := hX1.cell (i := 1) rfl
        have x3 := hX1.cell (i := 3) rfl
        have x5 := hX1.cell (i := 5) rfl
        generalize cntSs (xs.take k) = Y at *
        obtain ⟨y1, y2, y3⟩ := Y
        generalize cntSs body = Z at *
        obtain ⟨z1, z2, z3⟩ := Z
        generalize cntSs els = U at *
        obtain ⟨u1', u2', u3'⟩ := U
        dsimp only at hbd HBd HEl St1 St2 St3 ⊢
        have Hees := Lib.hid (cntEs_le es)
        have HN := Lib.hid hN
        have HM := Lib.hid hM
        clear hLr hat hz1 hz2 hz3 hok1 hok2 hok3 hE hBd hEl hrb hrl hh hes st1 st2 st3 hX1 hb1 hW1 hN hM hszz Hsz Hall Hih Hc hszr
        go_upto_region 6 with (fail)
        rw [← HW1.out]
        clear c0 c1 c2 c3 c4 c5
        by_cases h3 : op = 3
        · subst h3
          obtain ⟨hn1, hn2⟩ := hn3 rfl
          obtain ⟨m, rfl⟩ : ∃ m : Nat, n = m := ⟨n.toNat, by omega⟩
          have hMv : M = bit32 m := by rw [HM.out, if_pos rfl]; rfl
          obtain rfl : N = 0 := by rw [HN.out, if_neg (by omega)]
          have hsx : ((2 : Int) ^ m % 4294967296) = w32 M := by have h := shl_u32 (k := m) (by omega); rw [hMv, ← h]; simp [IntKind.wrap, IntKind.bits, IntKind.signed]
          have hsy : bits .or .u32 (w32 y3) (w32 M) = w32 (y3 ||| M) := bits_or32 _ _
          clear hMv hn3
          go_wp2_with fail
          go_loopw [5, 6, 10, 11, 12, 55, 56, 57, 58, 59, 60, 61, 62, 63, 64, 65, 66, 67, 68, 69, 70, 71, 72, 73, 74, 75, 76] (fun t5 t6 t10 _ _ _ _ _ _ _ _ _ _ _ _ _ _ _ _ _ _ _ _ _ _ _ _ wr => ∃ j : Nat, j ≤ es.length ∧ t10 = .int .i64 j ∧ t5 = .int .i64 ((y1 + 1 + (cntEs (es.take j)).1 : Nat)) ∧ t6 = .int .u32 (w32 (HOr.hOr y2 (cntEs (es.take j)).2)) ∧ Hid (Below W1.heap.size W1 wr)) (fun _ _ t10 _ _ _ _ _ _ _ _ _ _ _ _ _ _ _ _ _ _ _ _ _ _ _ _ _ => es.length - (intOf t10).toNat)
          case atStart => exact ⟨0, by omega, by first | rfl | go_num, by first | rfl | go_num, by show Value.int .u32 (w32 y2) = Value.int .u32 (w32 (y2 ||| 0#32)); rw [BitVec.or_zero], Lib.hid (Below.refl _ _)⟩
          case round =>
            obtain ⟨j, hj, rfl, rfl, rfl, HB2⟩ := hrel
            have hx := HX1.out.below HB2.out (Nat.le_refl _)
            have x3 := hx.cell (i := 3) rfl
            have x4 := hx.cell (i := 4) rfl
            by_cases hjl : j < es.length
            · have hji : (j : Int) < (es.length : Int) := by omega
              have hLe : EsL wr B es (.slice ae es.length ce) := HE.out.low ((Hb1.out.mono (Nat.le_trans hB HB.out.size)).trans (HB2.out.mono (Nat.le_trans (Nat.le_trans hB HB.out.size) Hb1.out.size)))
              obtain ⟨be, oe, op3, n3, name3, args, aa, ac, rfl, hbB3, hbw3, hat3, d0, d1, d2, d3, hL3⟩ := hLe.at hjl
              have HI := Lib.hid (countE_any 40 op3 n3 name3 args _ wr B (Hes.out _ (List.mem_of_getElem? hat3)) (by have := szE_mk hat3; have := Hszes.out; omega) (okEs_at Hok1.out hat3) hL3 (Nat.le_trans hB (Nat.le_trans HB.out.size (Nat.le_trans Hb1.out.size HB2.out.size))))
              obtain ⟨q1, q2⟩ := cntEs_take hat3
              have hbe : (cntEs (es.take j)).1 + (cntE (.mk op3 n3 name3 args)).1 ≤ 400000 := by
                have h1 := cntEs_le (es.take (j + 1))
                have h2 := szEs_app (es.take (j + 1)) (es.drop (j + 1))
                rw [List.take_append_drop] at h2
                have := Hszes.out
                omega
              have Q1 := Lib.hid q1
              have Q2 := Lib.hid q2
              generalize cntE (.mk op3 n3 name3 args) = Z at *
              obtain ⟨v1, v2⟩ := Z
              generalize cntEs (es.take j) = Y at *
              obtain ⟨t1, t2⟩ := Y
              have hor : bits .or .u32 (w32 (y2 ||| t2)) (w32 v2) = w32 (y2 ||| t2 ||| v2) := bits_or32 _ _
              dsimp only at hbe HI Q1 Q2 ⊢
              clear hx hLe hat3 hL3 q1 q2 x4
              go_wp2_with fail
              refine HI.out.mono ?_
              rintro e2 w2 ⟨rfl, hb2⟩
              have HB3 := Lib.hid (HB2.out.trans (hb2.mono HB2.out.size))
              clear hb2
              go_wp2_with fail
              go_roundw
              case rel => exact ⟨j + 1, by omega, by go_num, by rw [Q1.out]; go_num, by rw [Q2.out, ← BitVec.or_assoc], HB3⟩
              case measure => simp [intOf]; omega
            · have hji : ¬ (j : Int) < (es.length : Int) := by omega
              have hje : j = es.length := by omega
              have htk : es.take j = es := by rw [hje, List.take_length]
              rw [htk]
              clear htk hje hx
              generalize cntEs es = E at *
              obtain ⟨e1', e2'⟩ := E
              dsimp only at hbd St1 St2 St3 ⊢
              have HBW := Lib.hid (Hb1.out.trans (HB2.out.mono Hb1.out.size))
              go_wp2_with fail
              refine (HBd.out _ HBW.out).mono ?_
              rintro e4 w4 ⟨rfl, hb4⟩
              have HB4 := Lib.hid (HB2.out.trans (hb4.mono HB2.out.size))
              have x5 := (HX1.out.below HB4.out (Nat.le_refl _)).cell (i := 5) rfl
              have HBW4 := Lib.hid (Hb1.out.trans (HB4.out.mono Hb1.out.size))
              clear hb4 x3 x4
              go_wp2_with fail
              refine (HEl.out _ HBW4.out).mono ?_
              rintro e5 w5 ⟨rfl, hb5⟩
              have HB5 := Lib.hid (HB.out.trans ((HBW4.out.trans (hb5.mono HBW4.out.size)).mono HB.out.size))
              have o1 : bits .or .u32 (w32 (y2 ||| e2')) (w32 z2) = w32 (y2 ||| e2' ||| z2) := bits_or32 _ _
              have o2 : bits .or .u32 (w32 (y2 ||| e2' ||| z2)) (w32 u2') = w32 (y2 ||| e2' ||| z2 ||| u2') := bits_or32 _ _
              have o3 : bits .or .u32 (w32 (y3 ||| M)) (w32 z3) = w32 (y3 ||| M ||| z3) := bits_or32 _ _
              have o4 : bits .or .u32 (w32 (y3 ||| M ||| z3)) (w32 u3') = w32 (y3 ||| M ||| z3 ||| u3') := bits_or32 _ _
              clear hb5 x5
              go_wp2_with fail
              go_roundw
              case rel => exact ⟨k + 1, by omega, by go_num, by rw [St1.out]; go_num, by rw [St2.out]; congr 2; ac_rfl, by rw [St3.out]; congr 2; ac_rfl, HB5⟩
              case measure => simp [intOf]; omega
        by_cases h5 : op = 5
        · subst h5
          obtain rfl : N = 1 := by rw [HN.out, if_pos (.inl rfl)]
          have HMz : Hid (M = 0) := Lib.hid (by rw [HM.out, if_neg (by omega)])
          clear hn3
          go_wp2_with fail
          go_loopw [5, 6, 10, 11, 12, 55, 56, 57, 58, 59, 60, 61, 62, 63, 64, 65, 66, 67, 68, 69, 70, 71, 72, 73, 74, 75, 76] (fun t5 t6 t10 _ _ _ _ _ _ _ _ _ _ _ _ _ _ _ _ _ _ _ _ _ _ _ _ wr => ∃ j : Nat, j ≤ es.length ∧ t10 = .int .i64 j ∧ t5 = .int .i64 ((y1 + 2 + (cntEs (es.take j)).1 : Nat)) ∧ t6 = .int .u32 (w32 (HOr.hOr y2 (cntEs (es.take j)).2)) ∧ Hid (Below W1.heap.size W1 wr)) (fun _ _ t10 _ _ _ _ _ _ _ _ _ _ _ _ _ _ _ _ _ _ _ _ _ _ _ _ _ => es.length - (intOf t10).toNat)
          case atStart => exact ⟨0, by omega, by first | rfl | go_num, by first | rfl | go_num, by show Value.int .u32 (w32 y2) = Value.int .u32 (w32 (y2 ||| 0#32)); rw [BitVec.or_zero], Lib.hid (Below.refl _ _)⟩
          case round =>
            obtain ⟨j, hj, rfl, rfl, rfl, HB2⟩ := hrel
            have hx := HX1.out.below HB2.out (Nat.le_refl _)
            have x3 := hx.cell (i := 3) rfl
            have x4 := hx.cell (i := 4) rfl
            by_cases hjl : j < es.length
            · have hji : (j : Int) < (es.length : Int) := by omega
              have hLe : EsL wr B es (.slice ae es.length ce) := HE.out.low ((Hb1.out.mono (Nat.le_trans hB HB.out.size)).trans (HB2.out.mono (Nat.le_trans (Nat.le_trans hB HB.out.size) Hb1.out.size)))
              obtain ⟨be, oe, op3, n3, name3, args, aa, ac, rfl, hbB3, hbw3, hat3, d0, d1, d2, d3, hL3⟩ := hLe.at hjl
              have HI := Lib.hid (countE_any 40 op3 n3 name3 args _ wr B (Hes.out _ (List.mem_of_getElem? hat3)) (by have := szE_mk hat3; have := Hszes.out; omega) (okEs_at Hok1.out hat3) hL3 (Nat.le_trans hB (Nat.le_trans HB.out.size (Nat.le_trans Hb1.out.size HB2.out.size))))
              obtain ⟨q1, q2⟩ := cntEs_take hat3
              have hbe : (cntEs (es.take j)).1 + (cntE (.mk op3 n3 name3 args)).1 ≤ 400000 := by
                have h1 := cntEs_le (es.take (j + 1))
                have h2 := szEs_app (es.take (j + 1)) (es.drop (j + 1))
                rw [List.take_append_drop] at h2
                have := Hszes.out
                omega
              have Q1 := Lib.hid q1
              have Q2 := Lib.hid q2
              generalize cntE (.mk op3 n3 name3 args) = Z at *
              obtain ⟨v1, v2⟩ := Z
              generalize cntEs (es.take j) = Y at *
              obtain ⟨t1, t2⟩ := Y
              have hor : bits .or .u32 (w32 (y2 ||| t2)) (w32 v2) = w32 (y2 ||| t2 ||| v2) := bits_or32 _ _
              dsimp only at hbe HI Q1 Q2 ⊢
              clear hx hLe hat3 hL3 q1 q2 x4
              go_wp2_with fail
              refine HI.out.mono ?_
              rintro e2 w2 ⟨rfl, hb2⟩
              have HB3 := Lib.hid (HB2.out.trans (hb2.mono HB2.out.size))
              clear hb2
              go_wp2_with fail
              go_roundw
              case rel => exact ⟨j + 1, by omega, by go_num, by rw [Q1.out]; go_num, by rw [Q2.out, ← BitVec.or_assoc], HB3⟩
              case measure => simp [intOf]; omega
            · have hji : ¬ (j : Int) < (es.length : Int) := by omega
              have hje : j = es.length := by omega
              have htk : es.take j = es := by rw [hje, List.take_length]
              rw [htk]
              clear htk hje hx
              generalize cntEs es = E at *
              obtain ⟨e1', e2'⟩ := E
              dsimp only at hbd St1 St2 St3 ⊢
              have HBW := Lib.hid (Hb1.out.trans (HB2.out.mono Hb1.out.size))
              go_wp2_with fail
              refine (HBd.out _ HBW.out).mono ?_
              rintro e4 w4 ⟨rfl, hb4⟩
              have HB4 := Lib.hid (HB2.out.trans (hb4.mono HB2.out.size))
              have x5 := (HX1.out.below HB4.out (Nat.le_refl _)).cell (i := 5) rfl
              have HBW4 := Lib.hid (Hb1.out.trans (HB4.out.mono Hb1.out.size))
              clear hb4 x3 x4
              go_wp2_with fail
              refine (HEl.out _ HBW4.out).mono ?_
              rintro e5 w5 ⟨rfl, hb5⟩
              have HB5 := Lib.hid (HB.out.trans ((HBW4.out.trans (hb5.mono HBW4.out.size)).mono HB.out.size))
              have o1 : bits .or .u32 (w32 (y2 ||| e2')) (w32 z2) = w32 (y2 ||| e2' ||| z2) := bits_or32 _ _
              have o2 : bits .or .u32 (w32 (y2 ||| e2' ||| z2)) (w32 u2') = w32 (y2 ||| e2' ||| z2 ||| u2') := bits_or32 _ _
              have o3 : bits .or .u32 (w32 (y3)) (w32 z3) = w32 (y3 ||| z3) := bits_or32 _ _
              have o4 : bits .or .u32 (w32 (y3 ||| z3)) (w32 u3') = w32 (y3 ||| z3 ||| u3') := bits_or32 _ _
              clear hb5 x5
              go_wp2_with fail
              go_roundw
              case rel => exact ⟨k + 1, by omega, by go_num, by rw [St1.out]; go_num, by rw [St2.out]; congr 2; ac_rfl, by rw [St3.out]; rw [show M ||| z3 = z3 from by rw [HMz.out]; exact BitVec.zero_or]; congr 2; ac_rfl, HB5⟩
              case measure => simp [intOf]; omega
        by_cases h4 : op = 4
        · subst h4
          by_cases hel0 : 0 < els.length
          · skip
            have hel : 0 < els.length := hel0
            have heli : (els.length : Int) > 0 := by omega
            obtain rfl : N = 1 := by rw [HN.out, if_pos (.inr ⟨rfl, hel⟩)]
            have HMz : Hid (M = 0) := Lib.hid (by rw [HM.out, if_neg (by omega)])
            clear hn3
            go_wp2_with fail
            go_loopw [5, 6, 10, 11, 12, 55, 56, 57, 58, 59, 60, 61, 62, 63, 64, 65, 66, 67, 68, 69, 70, 71, 72, 73, 74, 75, 76] (fun t5 t6 t10 _ _ _ _ _ _ _ _ _ _ _ _ _ _ _ _ _ _ _ _ _ _ _ _ wr => ∃ j : Nat, j ≤ es.length ∧ t10 = .int .i64 j ∧ t5 = .int .i64 ((y1 + 2 + (cntEs (es.take j)).1 : Nat)) ∧ t6 = .int .u32 (w32 (HOr.hOr y2 (cntEs (es.take j)).2)) ∧ Hid (Below W1.heap.size W1 wr)) (fun _ _ t10 _ _ _ _ _ _ _ _ _ _ _ _ _ _ _ _ _ _ _ _ _ _ _ _ _ => es.length - (intOf t10).toNat)
            case atStart => exact ⟨0, by omega, by first | rfl | go_num, by first | rfl | go_num, by show Value.int .u32 (w32 y2) = Value.int .u32 (w32 (y2 ||| 0#32)); rw [BitVec.or_zero], Lib.hid (Below.refl _ _)⟩
            case round =>
              obtain ⟨j, hj, rfl, rfl, rfl, HB2⟩ := hrel
              have hx := HX1.out.below HB2.out (Nat.le_refl _)
              have x3 := hx.cell (i := 3) rfl
              have x4 := hx.cell (i := 4) rfl
              by_cases hjl : j < es.length
              · have hji : (j : Int) < (es.length : Int) := by omega
                have hLe : EsL wr B es (.slice ae es.length ce) := HE.out.low ((Hb1.out.mono (Nat.le_trans hB HB.out.size)).trans (HB2.out.mono (Nat.le_trans (Nat.le_trans hB HB.out.size) Hb1.out.size)))
                obtain ⟨be, oe, op3, n3, name3, args, aa, ac, rfl, hbB3, hbw3, hat3, d0, d1, d2, d3, hL3⟩ := hLe.at hjl
                have HI := Lib.hid (countE_any 40 op3 n3 name3 args _ wr B (Hes.out _ (List.mem_of_getElem? hat3)) (by have := szE_mk hat3; have := Hszes.out; omega) (okEs_at Hok1.out hat3) hL3 (Nat.le_trans hB (Nat.le_trans HB.out.size (Nat.le_trans Hb1.out.size HB2.out.size))))
                obtain ⟨q1, q2⟩ := cntEs_take hat3
                have hbe : (cntEs (es.take j)).1 + (cntE (.mk op3 n3 name3 args)).1 ≤ 400000 := by
                  have h1 := cntEs_le (es.take (j + 1))
                  have h2 := szEs_app (es.take (j + 1)) (es.drop (j + 1))
                  rw [List.take_append_drop] at h2
                  have := Hszes.out
                  omega
                have Q1 := Lib.hid q1
                have Q2 := Lib.hid q2
                generalize cntE (.mk op3 n3 name3 args) = Z at *
                obtain ⟨v1, v2⟩ := Z
                generalize cntEs (es.take j) = Y at *
                obtain ⟨t1, t2⟩ := Y
                have hor : bits .or .u32 (w32 (y2 ||| t2)) (w32 v2) = w32 (y2 ||| t2 ||| v2) := bits_or32 _ _
                dsimp only at hbe HI Q1 Q2 ⊢
                clear hx hLe hat3 hL3 q1 q2 x4
                go_wp2_with fail
                refine HI.out.mono ?_
                rintro e2 w2 ⟨rfl, hb2⟩
                have HB3 := Lib.hid (HB2.out.trans (hb2.mono HB2.out.size))
                clear hb2
                go_wp2_with fail
                go_roundw
                case rel => exact ⟨j + 1, by omega, by go_num, by rw [Q1.out]; go_num, by rw [Q2.out, ← BitVec.or_assoc], HB3⟩
                case measure => simp [intOf]; omega
              · have hji : ¬ (j : Int) < (es.length : Int) := by omega
                have hje : j = es.length := by omega
                have htk : es.take j = es := by rw [hje, List.take_length]
                rw [htk]
                clear htk hje hx
                generalize cntEs es = E at *
                obtain ⟨e1', e2'⟩ := E
                dsimp only at hbd St1 St2 St3 ⊢
                have HBW := Lib.hid (Hb1.out.trans (HB2.out.mono Hb1.out.size))
                go_wp2_with fail
                refine (HBd.out _ HBW.out).mono ?_
                rintro e4 w4 ⟨rfl, hb4⟩
                have HB4 := Lib.hid (HB2.out.trans (hb4.mono HB2.out.size))
                have x5 := (HX1.out.below HB4.out (Nat.le_refl _)).cell (i := 5) rfl
                have HBW4 := Lib.hid (Hb1.out.trans (HB4.out.mono Hb1.out.size))
                clear hb4 x3 x4
                go_wp2_with fail
                refine (HEl.out _ HBW4.out).mono ?_
                rintro e5 w5 ⟨rfl, hb5⟩
                have HB5 := Lib.hid (HB.out.trans ((HBW4.out.trans (hb5.mono HBW4.out.size)).mono HB.out.size))
                have o1 : bits .or .u32 (w32 (y2 ||| e2')) (w32 z2) = w32 (y2 ||| e2' ||| z2) := bits_or32 _ _
                have o2 : bits .or .u32 (w32 (y2 ||| e2' ||| z2)) (w32 u2') = w32 (y2 ||| e2' ||| z2 ||| u2') := bits_or32 _ _
                have o3 : bits .or .u32 (w32 (y3)) (w32 z3) = w32 (y3 ||| z3) := bits_or32 _ _
                have o4 : bits .or .u32 (w32 (y3 ||| z3)) (w32 u3') = w32 (y3 ||| z3 ||| u3') := bits_or32 _ _
                clear hb5 x5
                go_wp2_with fail
                go_roundw
                case rel => exact ⟨k + 1, by omega, by go_num, by rw [St1.out]; go_num, by rw [St2.out]; congr 2; ac_rfl, by rw [St3.out]; rw [show M ||| z3 = z3 from by rw [HMz.out]; exact BitVec.zero_or]; congr 2; ac_rfl, HB5⟩
                case measure => simp [intOf]; omega
          · skip
            have heli : ¬ (els.length : Int) > 0 := by omega
            obtain rfl : N = 0 := by rw [HN.out, if_neg (by omega)]
            have HMz : Hid (M = 0) := Lib.hid (by rw [HM.out, if_neg (by omega)])
            clear hn3
            go_wp2_with fail
            go_loopw [5, 6, 10, 11, 12, 55, 56, 57, 58, 59, 60, 61, 62, 63, 64, 65, 66, 67, 68, 69, 70, 71, 72, 73, 74, 75, 76] (fun t5 t6 t10 _ _ _ _ _ _ _ _ _ _ _ _ _ _ _ _ _ _ _ _ _ _ _ _ wr => ∃ j : Nat, j ≤ es.length ∧ t10 = .int .i64 j ∧ t5 = .int .i64 ((y1 + 1 + (cntEs (es.take j)).1 : Nat)) ∧ t6 = .int .u32 (w32 (HOr.hOr y2 (cntEs (es.take j)).2)) ∧ Hid (Below W1.heap.size W1 wr)) (fun _ _ t10 _ _ _ _ _ _ _ _ _ _ _ _ _ _ _ _ _ _ _ _ _ _ _ _ _ => es.length - (intOf t10).toNat)
            case atStart => exact ⟨0, by omega, by first | rfl | go_num, by first | rfl | go_num, by show Value.int .u32 (w32 y2) = Value.int .u32 (w32 (y2 ||| 0#32)); rw [BitVec.or_zero], Lib.hid (Below.refl _ _)⟩
            case round =>
              obtain ⟨j, hj, rfl, rfl, rfl, HB2⟩ := hrel
              have hx := HX1.out.below HB2.out (Nat.le_refl _)
              have x3 := hx.cell (i := 3) rfl
              have x4 := hx.cell (i := 4) rfl
              by_cases hjl : j < es.length
              · have hji : (j : Int) < (es.length : Int) := by omega
                have hLe : EsL wr B es (.slice ae es.length ce) := HE.out.low ((Hb1.out.mono (Nat.le_trans hB HB.out.size)).trans (HB2.out.mono (Nat.le_trans (Nat.le_trans hB HB.out.size) Hb1.out.size)))
                obtain ⟨be, oe, op3, n3, name3, args, aa, ac, rfl, hbB3, hbw3, hat3, d0, d1, d2, d3, hL3⟩ := hLe.at hjl
                have HI := Lib.hid (countE_any 40 op3 n3 name3 args _ wr B (Hes.out _ (List.mem_of_getElem? hat3)) (by have := szE_mk hat3; have := Hszes.out; omega) (okEs_at Hok1.out hat3) hL3 (Nat.le_trans hB (Nat.le_trans HB.out.size (Nat.le_trans Hb1.out.size HB2.out.size))))
                obtain ⟨q1, q2⟩ := cntEs_take hat3
                have hbe : (cntEs (es.take j)).1 + (cntE (.mk op3 n3 name3 args)).1 ≤ 400000 := by
                  have h1 := cntEs_le (es.take (j + 1))
                  have h2 := szEs_app (es.take (j + 1)) (es.drop (j + 1))
                  rw [List.take_append_drop] at h2
                  have := Hszes.out
                  omega
                have Q1 := Lib.hid q1
                have Q2 := Lib.hid q2
                generalize cntE (.mk op3 n3 name3 args) = Z at *
                obtain ⟨v1, v2⟩ := Z
                generalize cntEs (es.take j) = Y at *
                obtain ⟨t1, t2⟩ := Y
                have hor : bits .or .u32 (w32 (y2 ||| t2)) (w32 v2) = w32 (y2 ||| t2 ||| v2) := bits_or32 _ _
                dsimp only at hbe HI Q1 Q2 ⊢
                clear hx hLe hat3 hL3 q1 q2 x4
                go_wp2_with fail
                refine HI.out.mono ?_
                rintro e2 w2 ⟨rfl, hb2⟩
                have HB3 := Lib.hid (HB2.out.trans (hb2.mono HB2.out.size))
                clear hb2
                go_wp2_with fail
                go_roundw
                case rel => exact ⟨j + 1, by omega, by go_num, by rw [Q1.out]; go_num, by rw [Q2.out, ← BitVec.or_assoc], HB3⟩
                case measure => simp [intOf]; omega
              · have hji : ¬ (j : Int) < (es.length : Int) := by omega
                have hje : j = es.length := by omega
                have htk : es.take j = es := by rw [hje, List.take_length]
                rw [htk]
                clear htk hje hx
                generalize cntEs es = E at *
                obtain ⟨e1', e2'⟩ := E
                dsimp only at hbd St1 St2 St3 ⊢
                have HBW := Lib.hid (Hb1.out.trans (HB2.out.mono Hb1.out.size))
                go_wp2_with fail
                refine (HBd.out _ HBW.out).mono ?_
                rintro e4 w4 ⟨rfl, hb4⟩
                have HB4 := Lib.hid (HB2.out.trans (hb4.mono HB2.out.size))
                have x5 := (HX1.out.below HB4.out (Nat.le_refl _)).cell (i := 5) rfl
                have HBW4 := Lib.hid (Hb1.out.trans (HB4.out.mono Hb1.out.size))
                clear hb4 x3 x4
                go_wp2_with fail
                refine (HEl.out _ HBW4.out).mono ?_
                rintro e5 w5 ⟨rfl, hb5⟩
                have HB5 := Lib.hid (HB.out.trans ((HBW4.out.trans (hb5.mono HBW4.out.size)).mono HB.out.size))
                have o1 : bits .or .u32 (w32 (y2 ||| e2')) (w32 z2) = w32 (y2 ||| e2' ||| z2) := bits_or32 _ _
                have o2 : bits .or .u32 (w32 (y2 ||| e2' ||| z2)) (w32 u2') = w32 (y2 ||| e2' ||| z2 ||| u2') := bits_or32 _ _
                have o3 : bits .or .u32 (w32 (y3)) (w32 z3) = w32 (y3 ||| z3) := bits_or32 _ _
                have o4 : bits .or .u32 (w32 (y3 ||| z3)) (w32 u3') = w32 (y3 ||| z3 ||| u3') := bits_or32 _ _
                clear hb5 x5
                go_wp2_with fail
                go_roundw
                case rel => exact ⟨k + 1, by omega, by go_num, by rw [St1.out]; go_num, by rw [St2.out]; congr 2; ac_rfl, by rw [St3.out]; rw [show M ||| z3 = z3 from by rw [HMz.out]; exact BitVec.zero_or]; congr 2; ac_rfl, HB5⟩
                case measure => simp [intOf]; omega
        obtain rfl : N = 0 := by rw [HN.out, if_neg (by omega)]
        have HMz : Hid (M = 0) := Lib.hid (by rw [HM.out, if_neg h3])
        have hq3 : (op == 3) = false := by rw [beq_eq_false_iff_ne]; exact h3
        have hq5 : (op == 5) = false := by rw [beq_eq_false_iff_ne]; exact h5
        have hq4 : (op == 4) = false := by rw [beq_eq_false_iff_ne]; exact h4
        clear hn3 h3 h4 h5
        go_wp2_with fail
        go_loopw [5, 6, 10, 11, 12, 55, 56, 57, 58, 59, 60, 61, 62, 63, 64, 65, 66, 67, 68, 69, 70, 71, 72, 73, 74, 75, 76] (fun t5 t6 t10 _ _ _ _ _ _ _ _ _ _ _ _ _ _ _ _ _ _ _ _ _ _ _ _ wr => ∃ j : Nat, j ≤ es.length ∧ t10 = .int .i64 j ∧ t5 = .int .i64 ((y1 + 1 + (cntEs (es.take j)).1 : Nat)) ∧ t6 = .int .u32 (w32 (HOr.hOr y2 (cntEs (es.take j)).2)) ∧ Hid (Below W1.heap.size W1 wr)) (fun _ _ t10 _ _ _ _ _ _ _ _ _ _ _ _ _ _ _ _ _ _ _ _ _ _ _ _ _ => es.length - (intOf t10).toNat)
        case atStart => exact ⟨0, by omega, by first | rfl | go_num, by first | rfl | go_num, by show Value.int .u32 (w32 y2) = Value.int .u32 (w32 (y2 ||| 0#32)); rw [BitVec.or_zero], Lib.hid (Below.refl _ _)⟩
        case round =>
          obtain ⟨j, hj, rfl, rfl, rfl, HB2⟩ := hrel
          have hx := HX1.out.below HB2.out (Nat.le_refl _)
          have x3 := hx.cell (i := 3) rfl
          have x4 := hx.cell (i := 4) rfl
          by_cases hjl : j < es.length
          · have hji : (j : Int) < (es.length : Int) := by omega
            have hLe : EsL wr B es (.slice ae es.length ce) := HE.out.low ((Hb1.out.mono (Nat.le_trans hB HB.out.size)).trans (HB2.out.mono (Nat.le_trans (Nat.le_trans hB HB.out.size) Hb1.out.size)))
            obtain ⟨be, oe, op3, n3, name3, args, aa, ac, rfl, hbB3, hbw3, hat3, d0, d1, d2, d3, hL3⟩ := hLe.at hjl
            have HI := Lib.hid (countE_any 40 op3 n3 name3 args _ wr B (Hes.out _ (List.mem_of_getElem? hat3)) (by have := szE_mk hat3; have := Hszes.out; omega) (okEs_at Hok1.out hat3) hL3 (Nat.le_trans hB (Nat.le_trans HB.out.size (Nat.le_trans Hb1.out.size HB2.out.size))))
            obtain ⟨q1, q2⟩ := cntEs_take hat3
            have hbe : (cntEs (es.take j)).1 + (cntE (.mk op3 n3 name3 args)).1 ≤ 400000 := by
              have h1 := cntEs_le (es.take (j + 1))
              have h2 := szEs_app (es.take (j + 1)) (es.drop (j + 1))
              rw [List.take_append_drop] at h2
              have := Hszes.out
              omega
            have Q1 := Lib.hid q1
            have Q2 := Lib.hid q2
            generalize cntE (.mk op3 n3 name3 args) = Z at *
            obtain ⟨v1, v2⟩ := Z
            generalize cntEs (es.take j) = Y at *
            obtain ⟨t1, t2⟩ := Y
            have hor : bits .or .u32 (w32 (y2 ||| t2)) (w32 v2) = w32 (y2 ||| t2 ||| v2) := bits_or32 _ _
            dsimp only at hbe HI Q1 Q2 ⊢
            clear hx hLe hat3 hL3 q1 q2 x4
            go_wp2_with fail
            refine HI.out.mono ?_
            rintro e2 w2 ⟨rfl, hb2⟩
            have HB3 := Lib.hid (HB2.out.trans (hb2.mono HB2.out.size))
            clear hb2
            go_wp2_with fail
            go_roundw
            case rel => exact ⟨j + 1, by omega, by go_num, by rw [Q1.out]; go_num, by rw [Q2.out, ← BitVec.or_assoc], HB3⟩
            case measure => simp [intOf]; omega
          · have hji : ¬ (j : Int) < (es.length : Int) := by omega
            have hje : j = es.length := by omega
            have htk : es.take j = es := by rw [hje, List.take_length]
            rw [htk]
            clear htk hje hx
            generalize cntEs es = E at *
            obtain ⟨e1', e2'⟩ := E
            dsimp only at hbd St1 St2 St3 ⊢
            have HBW := Lib.hid (Hb1.out.trans (HB2.out.mono Hb1.out.size))
            go_wp2_with fail
            refine (HBd.out _ HBW.out).mono ?_
            rintro e4 w4 ⟨rfl, hb4⟩
            have HB4 := Lib.hid (HB2.out.trans (hb4.mono HB2.out.size))
            have x5 := (HX1.out.below HB4.out (Nat.le_refl _)).cell (i := 5) rfl
            have HBW4 := Lib.hid (Hb1.out.trans (HB4.out.mono Hb1.out.size))
            clear hb4 x3 x4
            go_wp2_with fail
            refine (HEl.out _ HBW4.out).mono ?_
            rintro e5 w5 ⟨rfl, hb5⟩
            have HB5 := Lib.hid (HB.out.trans ((HBW4.out.trans (hb5.mono HBW4.out.size)).mono HB.out.size))
            have o1 : bits .or .u32 (w32 (y2 ||| e2')) (w32 z2) = w32 (y2 ||| e2' ||| z2) := bits_or32 _ _
            have o2 : bits .or .u32 (w32 (y2 ||| e2' ||| z2)) (w32 u2') = w32 (y2 ||| e2' ||| z2 ||| u2') := bits_or32 _ _
            have o3 : bits .or .u32 (w32 (y3)) (w32 z3) = w32 (y3 ||| z3) := bits_or32 _ _
            have o4 : bits .or .u32 (w32 (y3 ||| z3)) (w32 u3') = w32 (y3 ||| z3 ||| u3') := bits_or32 _ _
            clear hb5 x5
            go_wp2_with fail
            go_roundw
            case rel => exact ⟨k + 1, by omega, by go_num, by rw [St1.out]; go_num, by rw [St2.out]; congr 2; ac_rfl, by rw [St3.out]; rw [show M ||| z3 = z3 from by rw [HMz.out]; exact BitVec.zero_or]; congr 2; ac_rfl, HB5⟩
            case measure => simp [intOf]; omega
      · have hki : ¬ (k : Int) < (xs.length : Int) := by omega
        have hke : k = xs.length := by omega
        have htk : xs.take k = xs := by rw [hke, List.take_length]
        rw [htk]
        clear htk hke
        go_wp2_with fail
        go_ret3
        exact ⟨rfl, HB.out⟩
end Go.Proofs.Ytdeneckmoejcfaa
namespace Go.Proofs.Ytdeneckmoejcfaa
open Go.RowKit
set_option maxRecDepth 100000 in
set_option maxHeartbeats 4000000 in
theorem counts_any (l : List St) (v : Value) (w : World) (hok : okSs l) (hL : SsL w w.heap.size l v) :
    Calls Try.prog 8 #[v] w fun e w' => e = .returned (.bool true) ∧ Below w.heap.size w w' := by
  obtain ⟨a, cap, rfl, _, _⟩ := hL.form
  have HL := Lib.hid hL
  have Hok := Lib.hid hok
  clear hL hok
  go_enter Try.func8, Try.ntmps8
  go_wp2_with fail
  refine (awake_any _).mono ?_
  rintro e1 w1 ⟨rfl, hb1⟩
  have HB1 := Lib.hid hb1
  have HS := Lib.hid (size_any (szSs l + 1) l _ w1 w.heap.size 400 (by omega) Hok.out (HL.out.low hb1) hb1.size (by omega) (by omega))
  clear hb1
  go_wp2_with fail
  refine HS.out.mono ?_
  rintro e2 w2 ⟨⟨r, rfl, -, hr, -⟩, hb2⟩
  have HB2 := Lib.hid (HB1.out.trans (hb2.mono HB1.out.size))
  have Hr := Lib.hid hr
  clear hb2 hr HS
  by_cases hrl : (r : Int) > 400
  · go_wp2_with fail
    go_ret
    exact ⟨rfl, HB2.out⟩
  have hrl2 : (r : Int) ≤ 400 := by omega
  have hsz : szSs l ≤ 400 := by have := Hr.out hrl2; omega
  have HC := Lib.hid (pcomp_any l _ w2 w.heap.size Hok.out (by omega) (HL.out.low HB2.out) HB2.out.size)
  have Hsz := Lib.hid hsz
  clear hsz hrl
  go_wp2_with fail
  refine HC.out.mono ?_
  rintro e3 w3 ⟨hP, hb3⟩
  have HB3 := Lib.hid (HB2.out.trans (hb3.mono HB2.out.size))
  clear HC
  cases hc : compS l with
  | err k =>
    rw [hc] at hP
    obtain ⟨rfl, hk⟩ := hP
    rw [show zeroP = .agg #[.slice none 0 0, .int .i64 0, .int .u32 0, .int .u32 0] from rfl]
    rcases hk with rfl | rfl | rfl | rfl | rfl
    all_goals
      go_wp2_with fail
      go_ret
      exact ⟨rfl, HB3.out.trans (((Below.refl w3.heap.size w3).alloc (Nat.le_refl _) _).mono HB3.out.size)⟩
  | ok p =>
    rw [hc] at hP
    obtain ⟨q, rfl, hO⟩ := hP
    have hS : SlC w3 p.code q := OwnC.sl hO
    obtain ⟨s0, t0, rfl, hst, _⟩ := Sl.form hS
    obtain ⟨hr40, hn, hr, hw⟩ := comp_counts hc
    obtain ⟨W4, hW4, hX4, hb4⟩ : ∃ W4, W4 = w3.alloc (.cells #[.slice s0 p.code.length t0, .int .i64 p.locals, .int .u32 (w32 p.reads), .int .u32 (w32 p.writes)] 29) ∧ OwnV W4 w3.heap.size 29 [.slice s0 p.code.length t0, .int .i64 p.locals, .int .u32 (w32 p.reads), .int .u32 (w32 p.writes)] ∧ Below w3.heap.size w3 W4 := ⟨_, rfl, OwnV.new _ _ _, (Below.refl _ _).alloc (Nat.le_refl _) _⟩
    have HB4 := Lib.hid (HB3.out.trans (hb4.mono HB3.out.size))
    have HQ := Lib.hid (count_any 40 l _ W4 w.heap.size hr40 (by have := Hsz.out; omega) Hok.out (HL.out.low HB4.out) HB4.out.size)
    rw [← hn, ← hr, ← hw] at HQ
    have HX4 := Lib.hid hX4
    have HW4 := Lib.hid hW4
    clear hW4 hX4 hb4 hS hO hn hr hw
    unfold progV
    go_upto_region 3 with (fail)
    rw [← HW4.out]
    go_wp2_with fail
    refine HQ.out.mono ?_
    rintro e5 w5 ⟨rfl, hb5⟩
    have HX5 := HX4.out.below hb5 (Nat.le_refl _)
    have HB5 := Lib.hid (HB4.out.trans (hb5.mono HB4.out.size))
    have y0 := HX5.cell (i := 0) rfl
    have y2 := HX5.cell (i := 2) rfl
    have y3 := HX5.cell (i := 3) rfl
    clear hb5 HX5
    go_wp2_with fail
    go_ret
    exact ⟨by first | rfl | simp, HB5.out⟩
end Go.Proofs.Ytdeneckmoejcfaa
