/- The program's translator: expr, walked, at each kind of operation. -/
import Derived.Test.YtdeneckmoejcfaaRExprJ
set_option linter.unusedSimpArgs false
set_option linter.unusedVariables false
namespace Go.Proofs.Ytdeneckmoejcfaa
open Go.RowKit

theorem tEs_app (xs ys : List Ex) (s : TS) : tEs (xs ++ ys) s = tEs ys (tEs xs s) := by
  induction xs generalizing s with
  | nil => rfl
  | cons x r ih => rw [List.cons_append, tEs, tEs, ih]
theorem tEs_take {xs : List Ex} {k : Nat} {x : Ex} (h : xs[k]? = some x) (s : TS) : tEs (xs.take (k + 1)) s = tE x (tEs (xs.take k) s) := by
  obtain ⟨hlt, rfl⟩ := List.getElem?_eq_some_iff.1 h
  rw [List.take_succ_eq_append_getElem hlt, tEs_app]; rfl
theorem szEs_take_le (xs : List Ex) (k : Nat) : szEs (xs.take k) ≤ szEs xs := by
  have := szEs_app (xs.take k) (xs.drop k)
  rw [List.take_append_drop] at this
  omega
set_option maxRecDepth 100000 in
set_option maxHeartbeats 2000000 in
theorem texpr_c1 (d : Nat) (ih : ExprK d) (n : Int) (name : List UInt8) (args : List Ex) (v : Value) (w : World) (t B : Nat) (vc vn : Value) (s : TS) (hf : fineS (d + 1) (.mk 1 n name args) = true) (hok : okE (.mk 1 n name args)) (hL : EsL w B args v) (hB : B ≤ w.heap.size) (h : TrC w t B vc vn s) (hn : s.names.length ≤ 900000) (hc : s.code.length + 4 * szE (.mk 1 n name args) ≤ 900000) :
    Calls Try.prog 85 #[.pointer (some ⟨t, 0, none⟩), .agg #[.int .u8 1, .int .i64 n, .string (bstr name), v]] w (TrP w t B vc vn (tE (.mk 1 n name args) s) (.tuple #[])) := by
  obtain ⟨a, cap, rfl, hcc1, hcc2⟩ := hL.form
  obtain ⟨W1, hW1, hX1, hb1⟩ : ∃ W1, W1 = w.alloc (.cells #[.int .u8 1, .int .i64 n, .string (bstr name), .slice a args.length cap] 65) ∧ OwnV W1 w.heap.size 65 [.int .u8 1, .int .i64 n, .string (bstr name), .slice a args.length cap] ∧ Below w.heap.size w W1 := ⟨_, rfl, OwnV.new _ _ _, (Below.refl _ _).alloc (Nat.le_refl _) _⟩
  have hs1 := hb1.size
  have h1 := h.grown hb1
  have HW1 := Lib.hid hW1
  have HF1 := Lib.hid (TrF.of_below t vc vn hb1)
  have x0 := hX1.cell (i := 0) rfl
  have x1 := hX1.cell (i := 1) rfl
  have x2 := hX1.cell (i := 2) rfl
  have x3 := hX1.cell (i := 3) rfl
  rw [fineS, Bool.and_eq_true] at hf
  obtain ⟨hh, hall⟩ := hf
  have hsz : szE (.mk 1 n name args) = 1 + name.length / 30 + szEs args := rfl
  have hma := (headE_len hh).1
  have HP := Lib.hid (put_any 1 n W1 t B vc vn s h1 (by omega) (by omega))
  have Hr : Hid (tE (.mk 1 n name args) s = s.put 1 n) := Lib.hid rfl
  generalize tE (.mk 1 n name args) s = sf at *
  clear ih hL h h1 hb1 hX1 hW1 hall hh hok hsz hma
  go_enter Try.func85, Try.ntmps85
  go_upto_region 1 with (fail)
  rw [← HW1.out]
  go_wp2_with fail
  refine HP.out.mono ?_
  rintro e2 w2 ⟨rfl, vc2, vn2, hT2, hF2⟩
  have HT2 := Lib.hid hT2
  have HF2 := Lib.hid (HF1.out.trans hF2)
  clear hT2 hF2
  go_wp2_with fail
  exact bodyPost_ret (results_none rfl _ _ _) rfl ⟨rfl, _, _, by rw [Hr.out]; exact HT2.out, HF2.out⟩
set_option maxRecDepth 100000 in
set_option maxHeartbeats 2000000 in
theorem texpr_c4 (d : Nat) (ih : ExprK d) (n : Int) (name : List UInt8) (args : List Ex) (v : Value) (w : World) (t B : Nat) (vc vn : Value) (s : TS) (hf : fineS (d + 1) (.mk 4 n name args) = true) (hok : okE (.mk 4 n name args)) (hL : EsL w B args v) (hB : B ≤ w.heap.size) (h : TrC w t B vc vn s) (hn : s.names.length ≤ 900000) (hc : s.code.length + 4 * szE (.mk 4 n name args) ≤ 900000) :
    Calls Try.prog 85 #[.pointer (some ⟨t, 0, none⟩), .agg #[.int .u8 4, .int .i64 n, .string (bstr name), v]] w (TrP w t B vc vn (tE (.mk 4 n name args) s) (.tuple #[])) := by
  obtain ⟨a, cap, rfl, hcc1, hcc2⟩ := hL.form
  obtain ⟨W1, hW1, hX1, hb1⟩ : ∃ W1, W1 = w.alloc (.cells #[.int .u8 4, .int .i64 n, .string (bstr name), .slice a args.length cap] 65) ∧ OwnV W1 w.heap.size 65 [.int .u8 4, .int .i64 n, .string (bstr name), .slice a args.length cap] ∧ Below w.heap.size w W1 := ⟨_, rfl, OwnV.new _ _ _, (Below.refl _ _).alloc (Nat.le_refl _) _⟩
  have hs1 := hb1.size
  have h1 := h.grown hb1
  have HW1 := Lib.hid hW1
  have HF1 := Lib.hid (TrF.of_below t vc vn hb1)
  have x0 := hX1.cell (i := 0) rfl
  have x1 := hX1.cell (i := 1) rfl
  have x2 := hX1.cell (i := 2) rfl
  have x3 := hX1.cell (i := 3) rfl
  rw [fineS, Bool.and_eq_true] at hf
  obtain ⟨hh, hall⟩ := hf
  have hsz : szE (.mk 4 n name args) = 1 + name.length / 30 + szEs args := rfl
  have hma := (headE_len hh).1
  have HP := Lib.hid (put_any 6 0 W1 t B vc vn s h1 (by omega) (by omega))
  have Hr : Hid (tE (.mk 4 n name args) s = s.put 6 0) := Lib.hid rfl
  generalize tE (.mk 4 n name args) s = sf at *
  clear ih hL h h1 hb1 hX1 hW1 hall hh hok hsz hma
  go_enter Try.func85, Try.ntmps85
  go_upto_region 1 with (fail)
  rw [← HW1.out]
  go_wp2_with fail
  refine HP.out.mono ?_
  rintro e2 w2 ⟨rfl, vc2, vn2, hT2, hF2⟩
  have HT2 := Lib.hid hT2
  have HF2 := Lib.hid (HF1.out.trans hF2)
  clear hT2 hF2
  go_wp2_with fail
  exact bodyPost_ret (results_none rfl _ _ _) rfl ⟨rfl, _, _, by rw [Hr.out]; exact HT2.out, HF2.out⟩
set_option maxRecDepth 100000 in
set_option maxHeartbeats 2000000 in
theorem texpr_c5 (d : Nat) (ih : ExprK d) (n : Int) (name : List UInt8) (args : List Ex) (v : Value) (w : World) (t B : Nat) (vc vn : Value) (s : TS) (hf : fineS (d + 1) (.mk 5 n name args) = true) (hok : okE (.mk 5 n name args)) (hL : EsL w B args v) (hB : B ≤ w.heap.size) (h : TrC w t B vc vn s) (hn : s.names.length ≤ 900000) (hc : s.code.length + 4 * szE (.mk 5 n name args) ≤ 900000) :
    Calls Try.prog 85 #[.pointer (some ⟨t, 0, none⟩), .agg #[.int .u8 5, .int .i64 n, .string (bstr name), v]] w (TrP w t B vc vn (tE (.mk 5 n name args) s) (.tuple #[])) := by
  obtain ⟨a, cap, rfl, hcc1, hcc2⟩ := hL.form
  obtain ⟨W1, hW1, hX1, hb1⟩ : ∃ W1, W1 = w.alloc (.cells #[.int .u8 5, .int .i64 n, .string (bstr name), .slice a args.length cap] 65) ∧ OwnV W1 w.heap.size 65 [.int .u8 5, .int .i64 n, .string (bstr name), .slice a args.length cap] ∧ Below w.heap.size w W1 := ⟨_, rfl, OwnV.new _ _ _, (Below.refl _ _).alloc (Nat.le_refl _) _⟩
  have hs1 := hb1.size
  have h1 := h.grown hb1
  have HW1 := Lib.hid hW1
  have HF1 := Lib.hid (TrF.of_below t vc vn hb1)
  have x0 := hX1.cell (i := 0) rfl
  have x1 := hX1.cell (i := 1) rfl
  have x2 := hX1.cell (i := 2) rfl
  have x3 := hX1.cell (i := 3) rfl
  rw [fineS, Bool.and_eq_true] at hf
  obtain ⟨hh, hall⟩ := hf
  have hsz : szE (.mk 5 n name args) = 1 + name.length / 30 + szEs args := rfl
  have hma := (headE_len hh).1
  have HP := Lib.hid (put_any 7 0 W1 t B vc vn s h1 (by omega) (by omega))
  have Hr : Hid (tE (.mk 5 n name args) s = s.put 7 0) := Lib.hid rfl
  generalize tE (.mk 5 n name args) s = sf at *
  clear ih hL h h1 hb1 hX1 hW1 hall hh hok hsz hma
  go_enter Try.func85, Try.ntmps85
  go_upto_region 1 with (fail)
  rw [← HW1.out]
  go_wp2_with fail
  refine HP.out.mono ?_
  rintro e2 w2 ⟨rfl, vc2, vn2, hT2, hF2⟩
  have HT2 := Lib.hid hT2
  have HF2 := Lib.hid (HF1.out.trans hF2)
  clear hT2 hF2
  go_wp2_with fail
  exact bodyPost_ret (results_none rfl _ _ _) rfl ⟨rfl, _, _, by rw [Hr.out]; exact HT2.out, HF2.out⟩
set_option maxRecDepth 100000 in
set_option maxHeartbeats 2000000 in
theorem texpr_c2 (d : Nat) (ih : ExprK d) (n : Int) (name : List UInt8) (args : List Ex) (v : Value) (w : World) (t B : Nat) (vc vn : Value) (s : TS) (hf : fineS (d + 1) (.mk 2 n name args) = true) (hok : okE (.mk 2 n name args)) (hL : EsL w B args v) (hB : B ≤ w.heap.size) (h : TrC w t B vc vn s) (hn : s.names.length ≤ 900000) (hc : s.code.length + 4 * szE (.mk 2 n name args) ≤ 900000) :
    Calls Try.prog 85 #[.pointer (some ⟨t, 0, none⟩), .agg #[.int .u8 2, .int .i64 n, .string (bstr name), v]] w (TrP w t B vc vn (tE (.mk 2 n name args) s) (.tuple #[])) := by
  obtain ⟨a, cap, rfl, hcc1, hcc2⟩ := hL.form
  obtain ⟨W1, hW1, hX1, hb1⟩ : ∃ W1, W1 = w.alloc (.cells #[.int .u8 2, .int .i64 n, .string (bstr name), .slice a args.length cap] 65) ∧ OwnV W1 w.heap.size 65 [.int .u8 2, .int .i64 n, .string (bstr name), .slice a args.length cap] ∧ Below w.heap.size w W1 := ⟨_, rfl, OwnV.new _ _ _, (Below.refl _ _).alloc (Nat.le_refl _) _⟩
  have hs1 := hb1.size
  have h1 := h.grown hb1
  have HW1 := Lib.hid hW1
  have HF1 := Lib.hid (TrF.of_below t vc vn hb1)
  have x0 := hX1.cell (i := 0) rfl
  have x1 := hX1.cell (i := 1) rfl
  have x2 := hX1.cell (i := 2) rfl
  have x3 := hX1.cell (i := 3) rfl
  rw [fineS, Bool.and_eq_true] at hf
  obtain ⟨hh, hall⟩ := hf
  have hsz : szE (.mk 2 n name args) = 1 + name.length / 30 + szEs args := rfl
  have hma := (headE_len hh).1
  have HS := Lib.hid (slot_any name W1 t B vc vn s h1 (by omega))
  have Hr : Hid (tE (.mk 2 n name args) s = (s.slot name).put 2 ((placeS name s.names 0 : Int) - 1)) := Lib.hid rfl
  have hsc : (s.slot name).code.length = s.code.length := by rw [TS.slot_code]
  have hBB : B ≤ W1.heap.size := by omega
  generalize tE (.mk 2 n name args) s = sf at *
  generalize placeS name s.names 0 = p at *
  generalize s.slot name = s1 at *
  clear ih hL h h1 hb1 hX1 hW1 hall hh hok hma
  go_enter Try.func85, Try.ntmps85
  go_upto_region 1 with (fail)
  rw [← HW1.out]
  go_wp2_with fail
  refine HS.out.mono ?_
  rintro e2 w2 ⟨rfl, vc2, vn2, hT2, hF2⟩
  have HP := Lib.hid (put_any 2 ((p : Int) - 1) w2 t B vc2 vn2 s1 hT2 (Nat.le_trans hBB hF2.size) (by omega))
  have HF2 := Lib.hid (HF1.out.trans hF2)
  clear hT2 hF2
  go_wp2_with fail
  refine HP.out.mono ?_
  rintro e3 w3 ⟨rfl, vc3, vn3, hT3, hF3⟩
  have HT3 := Lib.hid hT3
  have HF3 := Lib.hid (HF2.out.trans hF3)
  clear hT3 hF3
  go_wp2_with fail
  exact bodyPost_ret (results_none rfl _ _ _) rfl ⟨rfl, _, _, by rw [Hr.out]; exact HT3.out, HF3.out⟩
set_option maxRecDepth 100000 in
set_option maxHeartbeats 2000000 in
theorem texpr_c21 (d : Nat) (ih : ExprK d) (n : Int) (name : List UInt8) (args : List Ex) (v : Value) (w : World) (t B : Nat) (vc vn : Value) (s : TS) (hf : fineS (d + 1) (.mk 21 n name args) = true) (hok : okE (.mk 21 n name args)) (hL : EsL w B args v) (hB : B ≤ w.heap.size) (h : TrC w t B vc vn s) (hn : s.names.length ≤ 900000) (hc : s.code.length + 4 * szE (.mk 21 n name args) ≤ 900000) :
    Calls Try.prog 85 #[.pointer (some ⟨t, 0, none⟩), .agg #[.int .u8 21, .int .i64 n, .string (bstr name), v]] w (TrP w t B vc vn (tE (.mk 21 n name args) s) (.tuple #[])) := by
  obtain ⟨a, cap, rfl, hcc1, hcc2⟩ := hL.form
  obtain ⟨W1, hW1, hX1, hb1⟩ : ∃ W1, W1 = w.alloc (.cells #[.int .u8 21, .int .i64 n, .string (bstr name), .slice a args.length cap] 65) ∧ OwnV W1 w.heap.size 65 [.int .u8 21, .int .i64 n, .string (bstr name), .slice a args.length cap] ∧ Below w.heap.size w W1 := ⟨_, rfl, OwnV.new _ _ _, (Below.refl _ _).alloc (Nat.le_refl _) _⟩
  have hs1 := hb1.size
  have h1 := h.grown hb1
  have HW1 := Lib.hid hW1
  have HF1 := Lib.hid (TrF.of_below t vc vn hb1)
  have x0 := hX1.cell (i := 0) rfl
  have x1 := hX1.cell (i := 1) rfl
  have x2 := hX1.cell (i := 2) rfl
  have x3 := hX1.cell (i := 3) rfl
  rw [fineS, Bool.and_eq_true] at hf
  obtain ⟨hh, hall⟩ := hf
  have hsz : szE (.mk 21 n name args) = 1 + name.length / 30 + szEs args := rfl
  have hma := (headE_len hh).1
  obtain ⟨xa, xb, hab⟩ : ∃ xa xb, args = [xa, xb] := by
    have hm : args.length = 2 := hma
    match args, hm with
    | [xa, xb], _ => exact ⟨xa, xb, rfl⟩
  have Hr : Hid (tE (.mk 21 n name args) s = lazyT (tE xa) (tE xb) 12 0 s) := Lib.hid (by rw [hab]; rfl)
  have hsz2 : szEs args = szE xa + szE xb := by rw [hab]; simp [szEs]
  obtain ⟨-, -, -, hoks⟩ := hok
  have hal := List.all_eq_true.1 hall
  have hoks2 : okEs [xa, xb] := by rw [← hab]; exact hoks
  have HZ := Lib.hid (lazy_step d ih 21 n name xa xb (.slice a args.length cap) 12 0 W1 t B vc vn s (hal xa (by rw [hab]; simp)) (hal xb (by rw [hab]; simp)) hoks2.1 hoks2.2.1 (by rw [← hab]; exact hL.low (hb1.mono hB)) (by omega) h1 hn (by omega))
  generalize tE (.mk 21 n name args) s = sf at *
  generalize lazyT (tE xa) (tE xb) 12 0 s = sg at *
  clear ih hL h h1 hb1 hX1 hW1 hall hh hma hal hoks hoks2 hab
  go_enter Try.func85, Try.ntmps85
  go_upto_region 1 with (fail)
  rw [← HW1.out]
  go_wp2_with fail
  refine HZ.out.mono ?_
  rintro e2 w2 ⟨rfl, vc2, vn2, hT2, hF2⟩
  have HT2 := Lib.hid hT2
  have HF2 := Lib.hid (HF1.out.trans hF2)
  clear hT2 hF2
  go_wp2_with fail
  exact bodyPost_ret (results_none rfl _ _ _) rfl ⟨rfl, _, _, by rw [Hr.out]; exact HT2.out, HF2.out⟩
set_option maxRecDepth 100000 in
set_option maxHeartbeats 2000000 in
theorem texpr_c22 (d : Nat) (ih : ExprK d) (n : Int) (name : List UInt8) (args : List Ex) (v : Value) (w : World) (t B : Nat) (vc vn : Value) (s : TS) (hf : fineS (d + 1) (.mk 22 n name args) = true) (hok : okE (.mk 22 n name args)) (hL : EsL w B args v) (hB : B ≤ w.heap.size) (h : TrC w t B vc vn s) (hn : s.names.length ≤ 900000) (hc : s.code.length + 4 * szE (.mk 22 n name args) ≤ 900000) :
    Calls Try.prog 85 #[.pointer (some ⟨t, 0, none⟩), .agg #[.int .u8 22, .int .i64 n, .string (bstr name), v]] w (TrP w t B vc vn (tE (.mk 22 n name args) s) (.tuple #[])) := by
  obtain ⟨a, cap, rfl, hcc1, hcc2⟩ := hL.form
  obtain ⟨W1, hW1, hX1, hb1⟩ : ∃ W1, W1 = w.alloc (.cells #[.int .u8 22, .int .i64 n, .string (bstr name), .slice a args.length cap] 65) ∧ OwnV W1 w.heap.size 65 [.int .u8 22, .int .i64 n, .string (bstr name), .slice a args.length cap] ∧ Below w.heap.size w W1 := ⟨_, rfl, OwnV.new _ _ _, (Below.refl _ _).alloc (Nat.le_refl _) _⟩
  have hs1 := hb1.size
  have h1 := h.grown hb1
  have HW1 := Lib.hid hW1
  have HF1 := Lib.hid (TrF.of_below t vc vn hb1)
  have x0 := hX1.cell (i := 0) rfl
  have x1 := hX1.cell (i := 1) rfl
  have x2 := hX1.cell (i := 2) rfl
  have x3 := hX1.cell (i := 3) rfl
  rw [fineS, Bool.and_eq_true] at hf
  obtain ⟨hh, hall⟩ := hf
  have hsz : szE (.mk 22 n name args) = 1 + name.length / 30 + szEs args := rfl
  have hma := (headE_len hh).1
  obtain ⟨xa, xb, hab⟩ : ∃ xa xb, args = [xa, xb] := by
    have hm : args.length = 2 := hma
    match args, hm with
    | [xa, xb], _ => exact ⟨xa, xb, rfl⟩
  have Hr : Hid (tE (.mk 22 n name args) s = lazyT (tE xa) (tE xb) 13 1 s) := Lib.hid (by rw [hab]; rfl)
  have hsz2 : szEs args = szE xa + szE xb := by rw [hab]; simp [szEs]
  obtain ⟨-, -, -, hoks⟩ := hok
  have hal := List.all_eq_true.1 hall
  have hoks2 : okEs [xa, xb] := by rw [← hab]; exact hoks
  have HZ := Lib.hid (lazy_step d ih 22 n name xa xb (.slice a args.length cap) 13 1 W1 t B vc vn s (hal xa (by rw [hab]; simp)) (hal xb (by rw [hab]; simp)) hoks2.1 hoks2.2.1 (by rw [← hab]; exact hL.low (hb1.mono hB)) (by omega) h1 hn (by omega))
  generalize tE (.mk 22 n name args) s = sf at *
  generalize lazyT (tE xa) (tE xb) 13 1 s = sg at *
  clear ih hL h h1 hb1 hX1 hW1 hall hh hma hal hoks hoks2 hab
  go_enter Try.func85, Try.ntmps85
  go_upto_region 1 with (fail)
  rw [← HW1.out]
  go_wp2_with fail
  refine HZ.out.mono ?_
  rintro e2 w2 ⟨rfl, vc2, vn2, hT2, hF2⟩
  have HT2 := Lib.hid hT2
  have HF2 := Lib.hid (HF1.out.trans hF2)
  clear hT2 hF2
  go_wp2_with fail
  exact bodyPost_ret (results_none rfl _ _ _) rfl ⟨rfl, _, _, by rw [Hr.out]; exact HT2.out, HF2.out⟩
set_option maxRecDepth 100000 in
set_option maxHeartbeats 2000000 in
theorem texpr_c3 (d : Nat) (ih : ExprK d) (n : Int) (name : List UInt8) (args : List Ex) (v : Value) (w : World) (t B : Nat) (vc vn : Value) (s : TS) (hf : fineS (d + 1) (.mk 3 n name args) = true) (hok : okE (.mk 3 n name args)) (hL : EsL w B args v) (hB : B ≤ w.heap.size) (h : TrC w t B vc vn s) (hn : s.names.length ≤ 900000) (hc : s.code.length + 4 * szE (.mk 3 n name args) ≤ 900000) :
    Calls Try.prog 85 #[.pointer (some ⟨t, 0, none⟩), .agg #[.int .u8 3, .int .i64 n, .string (bstr name), v]] w (TrP w t B vc vn (tE (.mk 3 n name args) s) (.tuple #[])) := by
  obtain ⟨a, cap, rfl, hcc1, hcc2⟩ := hL.form
  obtain ⟨W1, hW1, hX1, hb1⟩ : ∃ W1, W1 = w.alloc (.cells #[.int .u8 3, .int .i64 n, .string (bstr name), .slice a args.length cap] 65) ∧ OwnV W1 w.heap.size 65 [.int .u8 3, .int .i64 n, .string (bstr name), .slice a args.length cap] ∧ Below w.heap.size w W1 := ⟨_, rfl, OwnV.new _ _ _, (Below.refl _ _).alloc (Nat.le_refl _) _⟩
  have hs1 := hb1.size
  have h1 := h.grown hb1
  have HW1 := Lib.hid hW1
  have HF1 := Lib.hid (TrF.of_below t vc vn hb1)
  have x0 := hX1.cell (i := 0) rfl
  have x1 := hX1.cell (i := 1) rfl
  have x2 := hX1.cell (i := 2) rfl
  have x3 := hX1.cell (i := 3) rfl
  rw [fineS, Bool.and_eq_true] at hf
  obtain ⟨hh, hall⟩ := hf
  have hsz : szE (.mk 3 n name args) = 1 + name.length / 30 + szEs args := rfl
  have hma := (headE_len hh).1
  have Hr : Hid (tE (.mk 3 n name args) s = (tEs args s).put 4 n) := Lib.hid (rfl)
  obtain ⟨-, -, -, hoks⟩ := hok
  have Hoks := Lib.hid hoks
  have Hal := Lib.hid (List.all_eq_true.1 hall)
  have Hih := Lib.hid ih
  have HL := Lib.hid hL
  have HT0 := Lib.hid h
  have HT1 := Lib.hid h1
  have HX1 := Lib.hid (And.intro hX1 (h.not (g := w.heap.size) (Nat.le_refl _)))
  have Hlaw : Hid (∀ k, ExpsT s (tEs (args.take k) s) (szEs (args.take k)) (codeEs s.names (args.take k))) := Lib.hid (fun k => tEs_law _ s (fun x hx s => tE_law d x s (List.all_eq_true.1 hall x (List.mem_of_mem_take hx))))
  have hle := szEs_len args
  generalize tE (.mk 3 n name args) s = sf at *
  clear ih hL h h1 hb1 hX1 hW1 hall hh hma hoks
  go_enter Try.func85, Try.ntmps85
  go_upto_region 1 with (fail)
  rw [← HW1.out]
  go_wp2_with fail
  go_loopw [5, 11, 12, 13, 14, 15, 16, 17, 18] (fun _ t11 _ _ _ _ _ _ _ wr => ∃ (k : Nat) (vc' vn' : Value), k ≤ args.length ∧ t11 = .int .i64 k ∧ Hid (TrC wr t B vc' vn' (tEs (args.take k) s)) ∧ Hid (TrF t vc vn w vc' vn' wr) ∧ Hid (OwnV wr w.heap.size 65 [.int .u8 3, .int .i64 n, .string (bstr name), .slice a args.length cap] ∧ ¬ TrS t vc' vn' w.heap.size)) (fun _ t11 _ _ _ _ _ _ _ _ => args.length - (intOf t11).toNat)
  case atStart => exact ⟨0, vc, vn, by omega, by first | rfl | go_num, Lib.hid HT1.out, Lib.hid HF1.out, Lib.hid HX1.out⟩
  case round =>
    obtain ⟨k, vc1, vn1, hk, rfl, HT, HF, HX⟩ := hrel
    have hBr := HF.out.below HT0.out hB
    have hsr := HF.out.size
    by_cases hkl : k < args.length
    · have hki : (k : Int) < (args.length : Int) := by omega
      obtain ⟨b, off, op1, n1, name1, args1, aa, ac, rfl, hbB, hbw, hat, c0, c1, c2, c3, hLa⟩ := (HL.out.low hBr).at hkl
      obtain ⟨W2, hW2, hX2, hb2⟩ : ∃ W2, W2 = wr.alloc (.cells #[.int .u8 op1, .int .i64 n1, .string (bstr name1), .slice aa args1.length ac] 65) ∧ OwnV W2 wr.heap.size 65 [.int .u8 op1, .int .i64 n1, .string (bstr name1), .slice aa args1.length ac] ∧ Below wr.heap.size wr W2 := ⟨_, rfl, OwnV.new _ _ _, (Below.refl _ _).alloc (Nat.le_refl _) _⟩
      have hlaw := Hlaw.out k
      have hl1 := hlaw.len
      have hl2 := szEs_take hat
      have hl3 := szEs_take_le args (k + 1)
      have hs2 := hb2.size
      have HE := Lib.hid (Hih.out op1 n1 name1 args1 _ W2 t B vc1 vn1 (tEs (args.take k) s) (Hal.out _ (List.mem_of_getElem? hat)) (okEs_at Hoks.out hat) (hLa.low (hb2.mono (by omega))) (by omega) (HT.out.grown hb2) (by rw [hlaw.names]; exact hn) (by omega))
      have Htk := Lib.hid (tEs_take hat s)
      rw [← Htk.out] at HE
      have HX2 := Lib.hid (And.intro (HX.out.1.below hb2 (Nat.le_refl _)) HX.out.2)
      have HF2 := Lib.hid (HF.out.trans (TrF.of_below t vc1 vn1 hb2))
      have HW2 := Lib.hid hW2
      have y0 := hX2.cell (i := 0) rfl
      have y1 := hX2.cell (i := 1) rfl
      have y2 := hX2.cell (i := 2) rfl
      have y3 := hX2.cell (i := 3) rfl
      clear hX2 hb2 hW2 hlaw hl1 hl2 hl3 hat hLa HT HF HX hBr
      go_upto_region 5 with (fail)
      rw [← HW2.out]
      go_wp2_with fail
      refine HE.out.mono ?_
      rintro e3 w3 ⟨rfl, vc3, vn3, hT3, hF3⟩
      have HT3 := Lib.hid hT3
      have HX3 := Lib.hid (hF3.own HX2.out.1 HX2.out.2)
      have HF3 := Lib.hid (HF2.out.trans hF3)
      clear hT3 hF3 HE HX2 HF2
      go_wp2_with fail
      go_roundw
      case rel => exact ⟨k + 1, vc3, vn3, by omega, by go_num, HT3, HF3, HX3⟩
      case measure => simp [intOf]; omega
    · have hki : ¬ (k : Int) < (args.length : Int) := by omega
      have hke : k = args.length := by omega
      have HT2 : Hid (TrC wr t B vc1 vn1 (tEs args s)) := Lib.hid (by have := HT.out; rw [hke, List.take_length] at this; exact this)
      have hll : (tEs args s).code.length ≤ s.code.length + 4 * szEs args := by have := (Hlaw.out args.length).len; rw [List.take_length] at this; exact this
      have HP := Lib.hid (put_any 4 n wr t B vc1 vn1 (tEs args s) HT2.out (by omega) (by omega))
      have x0 := HX.out.1.cell (i := 0) rfl
      have x1 := HX.out.1.cell (i := 1) rfl
      clear HT HT2 hBr hke
      go_wp2_with fail
      refine HP.out.mono ?_
      rintro e3 w3 ⟨rfl, vc3, vn3, hT3, hF3⟩
      have HT3 := Lib.hid hT3
      have HF3 := Lib.hid (HF.out.trans hF3)
      clear hT3 hF3
      go_wp2_with fail
      exact bodyPost_ret (results_none rfl _ _ _) rfl ⟨rfl, _, _, by rw [Hr.out]; exact HT3.out, HF3.out⟩
set_option maxRecDepth 100000 in
set_option maxHeartbeats 2000000 in
theorem texpr_c6 (d : Nat) (ih : ExprK d) (n : Int) (name : List UInt8) (args : List Ex) (v : Value) (w : World) (t B : Nat) (vc vn : Value) (s : TS) (hf : fineS (d + 1) (.mk 6 n name args) = true) (hok : okE (.mk 6 n name args)) (hL : EsL w B args v) (hB : B ≤ w.heap.size) (h : TrC w t B vc vn s) (hn : s.names.length ≤ 900000) (hc : s.code.length + 4 * szE (.mk 6 n name args) ≤ 900000) :
    Calls Try.prog 85 #[.pointer (some ⟨t, 0, none⟩), .agg #[.int .u8 6, .int .i64 n, .string (bstr name), v]] w (TrP w t B vc vn (tE (.mk 6 n name args) s) (.tuple #[])) := by
  obtain ⟨a, cap, rfl, hcc1, hcc2⟩ := hL.form
  obtain ⟨W1, hW1, hX1, hb1⟩ : ∃ W1, W1 = w.alloc (.cells #[.int .u8 6, .int .i64 n, .string (bstr name), .slice a args.length cap] 65) ∧ OwnV W1 w.heap.size 65 [.int .u8 6, .int .i64 n, .string (bstr name), .slice a args.length cap] ∧ Below w.heap.size w W1 := ⟨_, rfl, OwnV.new _ _ _, (Below.refl _ _).alloc (Nat.le_refl _) _⟩
  have hs1 := hb1.size
  have h1 := h.grown hb1
  have HW1 := Lib.hid hW1
  have HF1 := Lib.hid (TrF.of_below t vc vn hb1)
  have x0 := hX1.cell (i := 0) rfl
  have x1 := hX1.cell (i := 1) rfl
  have x2 := hX1.cell (i := 2) rfl
  have x3 := hX1.cell (i := 3) rfl
  rw [fineS, Bool.and_eq_true] at hf
  obtain ⟨hh, hall⟩ := hf
  have hsz : szE (.mk 6 n name args) = 1 + name.length / 30 + szEs args := rfl
  have hma := (headE_len hh).1
  have Hr : Hid (tE (.mk 6 n name args) s = (tEs args s).put 8 0) := Lib.hid (rfl)
  obtain ⟨-, -, -, hoks⟩ := hok
  have Hoks := Lib.hid hoks
  have Hal := Lib.hid (List.all_eq_true.1 hall)
  have Hih := Lib.hid ih
  have HL := Lib.hid hL
  have HT0 := Lib.hid h
  have HT1 := Lib.hid h1
  have HX1 := Lib.hid (And.intro hX1 (h.not (g := w.heap.size) (Nat.le_refl _)))
  have Hlaw : Hid (∀ k, ExpsT s (tEs (args.take k) s) (szEs (args.take k)) (codeEs s.names (args.take k))) := Lib.hid (fun k => tEs_law _ s (fun x hx s => tE_law d x s (List.all_eq_true.1 hall x (List.mem_of_mem_take hx))))
  have hle := szEs_len args
  generalize tE (.mk 6 n name args) s = sf at *
  clear ih hL h h1 hb1 hX1 hW1 hall hh hma hoks
  go_enter Try.func85, Try.ntmps85
  go_upto_region 1 with (fail)
  rw [← HW1.out]
  go_wp2_with fail
  go_loopw [5, 11, 12, 13, 14, 15, 16, 17, 18] (fun _ t11 _ _ _ _ _ _ _ wr => ∃ (k : Nat) (vc' vn' : Value), k ≤ args.length ∧ t11 = .int .i64 k ∧ Hid (TrC wr t B vc' vn' (tEs (args.take k) s)) ∧ Hid (TrF t vc vn w vc' vn' wr) ∧ Hid (OwnV wr w.heap.size 65 [.int .u8 6, .int .i64 n, .string (bstr name), .slice a args.length cap] ∧ ¬ TrS t vc' vn' w.heap.size)) (fun _ t11 _ _ _ _ _ _ _ _ => args.length - (intOf t11).toNat)
  case atStart => exact ⟨0, vc, vn, by omega, by first | rfl | go_num, Lib.hid HT1.out, Lib.hid HF1.out, Lib.hid HX1.out⟩
  case round =>
    obtain ⟨k, vc1, vn1, hk, rfl, HT, HF, HX⟩ := hrel
    have hBr := HF.out.below HT0.out hB
    have hsr := HF.out.size
    by_cases hkl : k < args.length
    · have hki : (k : Int) < (args.length : Int) := by omega
      obtain ⟨b, off, op1, n1, name1, args1, aa, ac, rfl, hbB, hbw, hat, c0, c1, c2, c3, hLa⟩ := (HL.out.low hBr).at hkl
      obtain ⟨W2, hW2, hX2, hb2⟩ : ∃ W2, W2 = wr.alloc (.cells #[.int .u8 op1, .int .i64 n1, .string (bstr name1), .slice aa args1.length ac] 65) ∧ OwnV W2 wr.heap.size 65 [.int .u8 op1, .int .i64 n1, .string (bstr name1), .slice aa args1.length ac] ∧ Below wr.heap.size wr W2 := ⟨_, rfl, OwnV.new _ _ _, (Below.refl _ _).alloc (Nat.le_refl _) _⟩
      have hlaw := Hlaw.out k
      have hl1 := hlaw.len
      have hl2 := szEs_take hat
      have hl3 := szEs_take_le args (k + 1)
      have hs2 := hb2.size
      have HE := Lib.hid (Hih.out op1 n1 name1 args1 _ W2 t B vc1 vn1 (tEs (args.take k) s) (Hal.out _ (List.mem_of_getElem? hat)) (okEs_at Hoks.out hat) (hLa.low (hb2.mono (by omega))) (by omega) (HT.out.grown hb2) (by rw [hlaw.names]; exact hn) (by omega))
      have Htk := Lib.hid (tEs_take hat s)
      rw [← Htk.out] at HE
      have HX2 := Lib.hid (And.intro (HX.out.1.below hb2 (Nat.le_refl _)) HX.out.2)
      have HF2 := Lib.hid (HF.out.trans (TrF.of_below t vc1 vn1 hb2))
      have HW2 := Lib.hid hW2
      have y0 := hX2.cell (i := 0) rfl
      have y1 := hX2.cell (i := 1) rfl
      have y2 := hX2.cell (i := 2) rfl
      have y3 := hX2.cell (i := 3) rfl
      clear hX2 hb2 hW2 hlaw hl1 hl2 hl3 hat hLa HT HF HX hBr
      go_upto_region 5 with (fail)
      rw [← HW2.out]
      go_wp2_with fail
      refine HE.out.mono ?_
      rintro e3 w3 ⟨rfl, vc3, vn3, hT3, hF3⟩
      have HT3 := Lib.hid hT3
      have HX3 := Lib.hid (hF3.own HX2.out.1 HX2.out.2)
      have HF3 := Lib.hid (HF2.out.trans hF3)
      clear hT3 hF3 HE HX2 HF2
      go_wp2_with fail
      go_roundw
      case rel => exact ⟨k + 1, vc3, vn3, by omega, by go_num, HT3, HF3, HX3⟩
      case measure => simp [intOf]; omega
    · have hki : ¬ (k : Int) < (args.length : Int) := by omega
      have hke : k = args.length := by omega
      have HT2 : Hid (TrC wr t B vc1 vn1 (tEs args s)) := Lib.hid (by have := HT.out; rw [hke, List.take_length] at this; exact this)
      have hll : (tEs args s).code.length ≤ s.code.length + 4 * szEs args := by have := (Hlaw.out args.length).len; rw [List.take_length] at this; exact this
      have HP := Lib.hid (put_any 8 0 wr t B vc1 vn1 (tEs args s) HT2.out (by omega) (by omega))
      have x0 := HX.out.1.cell (i := 0) rfl
      have x1 := HX.out.1.cell (i := 1) rfl
      clear HT HT2 hBr hke
      go_wp2_with fail
      refine HP.out.mono ?_
      rintro e3 w3 ⟨rfl, vc3, vn3, hT3, hF3⟩
      have HT3 := Lib.hid hT3
      have HF3 := Lib.hid (HF.out.trans hF3)
      clear hT3 hF3
      go_wp2_with fail
      exact bodyPost_ret (results_none rfl _ _ _) rfl ⟨rfl, _, _, by rw [Hr.out]; exact HT3.out, HF3.out⟩
set_option maxRecDepth 100000 in
set_option maxHeartbeats 2000000 in
theorem texpr_c7 (d : Nat) (ih : ExprK d) (op : Int) (n : Int) (name : List UInt8) (args : List Ex) (v : Value) (w : World) (t B : Nat) (vc vn : Value) (s : TS) (hf : fineS (d + 1) (.mk op n name args) = true) (hok : okE (.mk op n name args)) (hL : EsL w B args v) (hB : B ≤ w.heap.size) (h : TrC w t B vc vn s) (hn : s.names.length ≤ 900000) (hc : s.code.length + 4 * szE (.mk op n name args) ≤ 900000) (h7 : 7 ≤ op) (h24 : op ≤ 24) (h21 : op ≠ 21) (h22 : op ≠ 22) :
    Calls Try.prog 85 #[.pointer (some ⟨t, 0, none⟩), .agg #[.int .u8 op, .int .i64 n, .string (bstr name), v]] w (TrP w t B vc vn (tE (.mk op n name args) s) (.tuple #[])) := by
  obtain ⟨a, cap, rfl, hcc1, hcc2⟩ := hL.form
  obtain ⟨W1, hW1, hX1, hb1⟩ : ∃ W1, W1 = w.alloc (.cells #[.int .u8 op, .int .i64 n, .string (bstr name), .slice a args.length cap] 65) ∧ OwnV W1 w.heap.size 65 [.int .u8 op, .int .i64 n, .string (bstr name), .slice a args.length cap] ∧ Below w.heap.size w W1 := ⟨_, rfl, OwnV.new _ _ _, (Below.refl _ _).alloc (Nat.le_refl _) _⟩
  have hs1 := hb1.size
  have h1 := h.grown hb1
  have HW1 := Lib.hid hW1
  have HF1 := Lib.hid (TrF.of_below t vc vn hb1)
  have x0 := hX1.cell (i := 0) rfl
  have x1 := hX1.cell (i := 1) rfl
  have x2 := hX1.cell (i := 2) rfl
  have x3 := hX1.cell (i := 3) rfl
  rw [fineS, Bool.and_eq_true] at hf
  obtain ⟨hh, hall⟩ := hf
  have hsz : szE (.mk op n name args) = 1 + name.length / 30 + szEs args := rfl
  have hma := (headE_len hh).1
  have e1 : (op == 1) = false := by rw [beq_eq_false_iff_ne]; omega
  have e2 : (op == 2) = false := by rw [beq_eq_false_iff_ne]; omega
  have e3 : (op == 3) = false := by rw [beq_eq_false_iff_ne]; omega
  have e4 : (op == 4) = false := by rw [beq_eq_false_iff_ne]; omega
  have e5 : (op == 5) = false := by rw [beq_eq_false_iff_ne]; omega
  have e6 : (op == 6) = false := by rw [beq_eq_false_iff_ne]; omega
  have e21 : (op == 21) = false := by rw [beq_eq_false_iff_ne]; omega
  have e22 : (op == 22) = false := by rw [beq_eq_false_iff_ne]; omega
  have hop0 : 0 ≤ op := by omega
  have Hr : Hid (tE (.mk op n name args) s = (tEs args s).put 9 op) := Lib.hid (by rw [tE, if_neg (by omega), if_neg (by omega), if_neg (by omega), if_neg (by omega), if_neg (by omega), if_neg (by omega), if_neg (by omega), if_neg (by omega)])
  obtain ⟨-, -, -, hoks⟩ := hok
  have Hoks := Lib.hid hoks
  have Hal := Lib.hid (List.all_eq_true.1 hall)
  have Hih := Lib.hid ih
  have HL := Lib.hid hL
  have HT0 := Lib.hid h
  have HT1 := Lib.hid h1
  have HX1 := Lib.hid (And.intro hX1 (h.not (g := w.heap.size) (Nat.le_refl _)))
  have Hlaw : Hid (∀ k, ExpsT s (tEs (args.take k) s) (szEs (args.take k)) (codeEs s.names (args.take k))) := Lib.hid (fun k => tEs_law _ s (fun x hx s => tE_law d x s (List.all_eq_true.1 hall x (List.mem_of_mem_take hx))))
  have hle := szEs_len args
  generalize tE (.mk op n name args) s = sf at *
  clear ih hL h h1 hb1 hX1 hW1 hall hh hma hoks
  go_enter Try.func85, Try.ntmps85
  go_upto_region 1 with (fail)
  rw [← HW1.out]
  go_wp2_with fail
  go_loopw [5, 11, 12, 13, 14, 15, 16, 17, 18] (fun _ t11 _ _ _ _ _ _ _ wr => ∃ (k : Nat) (vc' vn' : Value), k ≤ args.length ∧ t11 = .int .i64 k ∧ Hid (TrC wr t B vc' vn' (tEs (args.take k) s)) ∧ Hid (TrF t vc vn w vc' vn' wr) ∧ Hid (OwnV wr w.heap.size 65 [.int .u8 op, .int .i64 n, .string (bstr name), .slice a args.length cap] ∧ ¬ TrS t vc' vn' w.heap.size)) (fun _ t11 _ _ _ _ _ _ _ _ => args.length - (intOf t11).toNat)
  case atStart => exact ⟨0, vc, vn, by omega, by first | rfl | go_num, Lib.hid HT1.out, Lib.hid HF1.out, Lib.hid HX1.out⟩
  case round =>
    obtain ⟨k, vc1, vn1, hk, rfl, HT, HF, HX⟩ := hrel
    have hBr := HF.out.below HT0.out hB
    have hsr := HF.out.size
    by_cases hkl : k < args.length
    · have hki : (k : Int) < (args.length : Int) := by omega
      obtain ⟨b, off, op1, n1, name1, args1, aa, ac, rfl, hbB, hbw, hat, c0, c1, c2, c3, hLa⟩ := (HL.out.low hBr).at hkl
      obtain ⟨W2, hW2, hX2, hb2⟩ : ∃ W2, W2 = wr.alloc (.cells #[.int .u8 op1, .int .i64 n1, .string (bstr name1), .slice aa args1.length ac] 65) ∧ OwnV W2 wr.heap.size 65 [.int .u8 op1, .int .i64 n1, .string (bstr name1), .slice aa args1.length ac] ∧ Below wr.heap.size wr W2 := ⟨_, rfl, OwnV.new _ _ _, (Below.refl _ _).alloc (Nat.le_refl _) _⟩
      have hlaw := Hlaw.out k
      have hl1 := hlaw.len
      have hl2 := szEs_take hat
      have hl3 := szEs_take_le args (k + 1)
      have hs2 := hb2.size
      have HE := Lib.hid (Hih.out op1 n1 name1 args1 _ W2 t B vc1 vn1 (tEs (args.take k) s) (Hal.out _ (List.mem_of_getElem? hat)) (okEs_at Hoks.out hat) (hLa.low (hb2.mono (by omega))) (by omega) (HT.out.grown hb2) (by rw [hlaw.names]; exact hn) (by omega))
      have Htk := Lib.hid (tEs_take hat s)
      rw [← Htk.out] at HE
      have HX2 := Lib.hid (And.intro (HX.out.1.below hb2 (Nat.le_refl _)) HX.out.2)
      have HF2 := Lib.hid (HF.out.trans (TrF.of_below t vc1 vn1 hb2))
      have HW2 := Lib.hid hW2
      have y0 := hX2.cell (i := 0) rfl
      have y1 := hX2.cell (i := 1) rfl
      have y2 := hX2.cell (i := 2) rfl
      have y3 := hX2.cell (i := 3) rfl
      clear hX2 hb2 hW2 hlaw hl1 hl2 hl3 hat hLa HT HF HX hBr
      go_upto_region 5 with (fail)
      rw [← HW2.out]
      go_wp2_with fail
      refine HE.out.mono ?_
      rintro e3 w3 ⟨rfl, vc3, vn3, hT3, hF3⟩
      have HT3 := Lib.hid hT3
      have HX3 := Lib.hid (hF3.own HX2.out.1 HX2.out.2)
      have HF3 := Lib.hid (HF2.out.trans hF3)
      clear hT3 hF3 HE HX2 HF2
      go_wp2_with fail
      go_roundw
      case rel => exact ⟨k + 1, vc3, vn3, by omega, by go_num, HT3, HF3, HX3⟩
      case measure => simp [intOf]; omega
    · have hki : ¬ (k : Int) < (args.length : Int) := by omega
      have hke : k = args.length := by omega
      have HT2 : Hid (TrC wr t B vc1 vn1 (tEs args s)) := Lib.hid (by have := HT.out; rw [hke, List.take_length] at this; exact this)
      have hll : (tEs args s).code.length ≤ s.code.length + 4 * szEs args := by have := (Hlaw.out args.length).len; rw [List.take_length] at this; exact this
      have HP := Lib.hid (put_any 9 op wr t B vc1 vn1 (tEs args s) HT2.out (by omega) (by omega))
      have x0 := HX.out.1.cell (i := 0) rfl
      have x1 := HX.out.1.cell (i := 1) rfl
      clear HT HT2 hBr hke
      go_wp2_with fail
      refine HP.out.mono ?_
      rintro e3 w3 ⟨rfl, vc3, vn3, hT3, hF3⟩
      have HT3 := Lib.hid hT3
      have HF3 := Lib.hid (HF.out.trans hF3)
      clear hT3 hF3
      go_wp2_with fail
      exact bodyPost_ret (results_none rfl _ _ _) rfl ⟨rfl, _, _, by rw [Hr.out]; exact HT3.out, HF3.out⟩
theorem texpr_any : ∀ d, ExprK d := by
  intro d
  induction d with
  | zero => intro op n name args v w t B vc vn s h; cases h
  | succ d ih =>
    intro op n name args v w t B vc vn s hf hok hL hB h hn hc
    have hg : 1 ≤ op ∧ op ≤ 24 := by
      have hf' := hf
      rw [fineS, Bool.and_eq_true] at hf'
      exact (headE_len hf'.1).2
    by_cases h7 : 7 ≤ op
    · by_cases h21 : op = 21
      · subst h21; exact texpr_c21 d ih n name args v w t B vc vn s hf hok hL hB h hn hc
      · by_cases h22 : op = 22
        · subst h22; exact texpr_c22 d ih n name args v w t B vc vn s hf hok hL hB h hn hc
        · exact texpr_c7 d ih op n name args v w t B vc vn s hf hok hL hB h hn hc h7 hg.2 h21 h22
    · have h6 : op = 1 ∨ op = 2 ∨ op = 3 ∨ op = 4 ∨ op = 5 ∨ op = 6 := by omega
      rcases h6 with rfl | rfl | rfl | rfl | rfl | rfl
      · exact texpr_c1 d ih n name args v w t B vc vn s hf hok hL hB h hn hc
      · exact texpr_c2 d ih n name args v w t B vc vn s hf hok hL hB h hn hc
      · exact texpr_c3 d ih n name args v w t B vc vn s hf hok hL hB h hn hc
      · exact texpr_c4 d ih n name args v w t B vc vn s hf hok hL hB h hn hc
      · exact texpr_c5 d ih n name args v w t B vc vn s hf hok hL hB h hn hc
      · exact texpr_c6 d ih n name args v w t B vc vn s hf hok hL hB h hn hc
end Go.Proofs.Ytdeneckmoejcfaa
