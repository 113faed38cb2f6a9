/- marchesref13.expr, walked: but for 'and' and 'or'. -/
/- The program's translator: lazy, walked from a contract of expr. -/
import Derived.Test.YtdeneckmoejcfaaKitCJ
import Derived.Test.YtdeneckmoejcfaaFineSJ
import Derived.Test.YtdeneckmoejcfaaTransMJ
set_option linter.unusedSimpArgs false
set_option linter.unusedVariables false
namespace Go.Proofs.Ytdeneckmoejcfaa
open Go.RowKit

/-- what expr answers -/
def ExprCR (w w' : World) (e : Ending) : CR Code1 → Prop
  | .ok c => ∃ v, e = .returned (.tuple #[v, .int .i64 0]) ∧ OwnC w' w.heap.size 47 v c
  | .err k => e = .returned (.tuple #[.slice none 0 0, .int .i64 k])
theorem Strs.below {w w' : World} {l : Names} {v : Value} (h : Strs w l v) (hb : Below w.heap.size w w') : Strs w' l v := Sl.below (by omega) h hb (Nat.le_refl _)
theorem headE_len {op n : Int} {name : List UInt8} {len : Nat} (h : headE op n name len = true) : len = manyS op ∧ 1 ≤ op ∧ op ≤ 24 := by
  unfold headE at h
  rw [Bool.and_eq_true, Bool.and_eq_true, decide_eq_true_eq, decide_eq_true_eq] at h
  exact ⟨h.2.1, h.1⟩
theorem code_one (ns : Names) (op n : Int) (name : List UInt8) (x : Ex) (h : op ≠ 1 ∧ op ≠ 2 ∧ op ≠ 4 ∧ op ≠ 5) : codeE ns (.mk op n name [x]) = (codeE ns x).andThen fun c => .ok (joinC c [if op = 3 then ⟨4, n⟩ else if op = 6 then ⟨8, 0⟩ else ⟨9, op⟩]) := by
  rw [codeE, if_neg h.1, if_neg h.2.1, if_neg h.2.2.1, if_neg h.2.2.2, codeEs]
  cases codeE ns x <;> rfl
theorem code_two (ns : Names) (op n : Int) (name : List UInt8) (x y : Ex) (h : op ≠ 1 ∧ op ≠ 2 ∧ op ≠ 4 ∧ op ≠ 5) : codeE ns (.mk op n name [x, y]) = (codeE ns x).andThen fun a => (codeE ns y).andThen fun b => .ok (if op = 21 ∨ op = 22 then lazyC a b op else joinC (joinC a b) [⟨9, op⟩]) := by
  rw [codeE, if_neg h.1, if_neg h.2.1, if_neg h.2.2.1, if_neg h.2.2.2, codeEs, codeEs]
  cases codeE ns x with
  | err e => rfl
  | ok a => cases codeE ns y <;> rfl
theorem jOk_small {c : Code1} (h : jOk c) (hl : c.length ≤ 1000000) : ∀ i ∈ c, jumpB i = true → 0 ≤ i.a ∧ i.a ≤ 1000000 := fun i hi hj => by have := h i hi hj; omega
set_option maxRecDepth 100000 in
set_option maxHeartbeats 2000000 in
theorem rexpr_c1 (d : Nat) (ih : ∀ (op n : Int) (name : List UInt8) (args : List Ex) (v : Value) (w : World) (B : Nat) (ns : Names) (vn : Value), fineS d (.mk op n name args) = true → okE (.mk op n name args) → szE (.mk op n name args) ≤ 100000 → EsL w B args v → B ≤ w.heap.size → Strs w ns vn → ns.length ≤ 1000000 → Calls Try.prog 70 #[.agg #[.int .u8 op, .int .i64 n, .string (bstr name), v], vn] w fun e w' => ExprCR w w' e (codeE ns (.mk op n name args)) ∧ Below w.heap.size w w')
    (n : Int) (name : List UInt8) (args : List Ex) (v : Value) (w : World) (B : Nat) (ns : Names) (vn : Value) (hf : fineS (d + 1) (.mk 1 n name args) = true) (hok : okE (.mk 1 n name args)) (hsz : szE (.mk 1 n name args) ≤ 100000) (hL : EsL w B args v) (_hB : B ≤ w.heap.size) (hS : Strs w ns vn) (_hns : ns.length ≤ 1000000) :
    Calls Try.prog 70 #[.agg #[.int .u8 1, .int .i64 n, .string (bstr name), v], vn] w fun e w' => ExprCR w w' e (codeE ns (.mk 1 n name args)) ∧ Below w.heap.size w w' := by
  obtain ⟨a, cap, rfl, hcc1, hcc2⟩ := hL.form
  obtain ⟨an, capn, rfl, hcn1, hcn2⟩ := Sl.form hS
  have Hih := Lib.hid ih
  have HL := Lib.hid hL
  have HS := Lib.hid hS
  obtain ⟨-, -, -, hoks⟩ := hok
  have Hoks := Lib.hid hoks
  rw [fineS, Bool.and_eq_true] at hf
  obtain ⟨hh, hall⟩ := hf
  have Hall := Lib.hid hall
  have hsz2 : szEs args ≤ 100000 := by rw [szE] at hsz; omega
  obtain ⟨W1, hW1, hX1, hb1⟩ : ∃ W1, W1 = w.alloc (.cells #[.int .u8 1, .int .i64 n, .string (bstr name), .slice a args.length cap] 65) ∧ OwnV W1 w.heap.size 65 [.int .u8 1, .int .i64 n, .string (bstr name), .slice a args.length cap] ∧ Below w.heap.size w W1 := ⟨_, rfl, OwnV.new _ _ _, (Below.refl _ _).alloc (Nat.le_refl _) _⟩
  have Hb1 := Lib.hid hb1
  have HX1 := Lib.hid hX1
  have x0 := hX1.cell (i := 0) rfl
  have x1 := hX1.cell (i := 1) rfl
  have HW1 := Lib.hid hW1
  have hs1 := hb1.size
  have HOne : Hid (∀ (op a : Int) (W : World), _) := Lib.hid (fun (op a : Int) (W : World) => one_any op a W)
  have Hc : Hid (codeE ns (.mk 1 n name args) = .ok [⟨1, n⟩]) := Lib.hid rfl
  generalize codeE ns (.mk 1 n name args) = R at *
  clear ih hL hS hoks hall hb1 hX1 hW1
  go_enter Try.func70, Try.ntmps70
  go_upto_region 1 with (fail)
  rw [← HW1.out]
  go_wp2_with fail
  refine (HOne.out _ _ _).mono ?_
  rintro e2 w2 ⟨⟨v2, rfl, hO2⟩, hb2⟩
  have HO2 := Lib.hid (own_mono' hO2 hs1)
  have Hb2 := Lib.hid (Hb1.out.trans (hb2.mono hs1))
  clear hO2 hb2
  go_wp2_with fail
  exact bodyPost_ret (v := .tuple #[v2, .int .i64 0]) (by simp [results, Try.results70, go_sem]) rfl ⟨by rw [Hc.out]; exact ⟨_, rfl, HO2.out⟩, Hb2.out⟩
set_option maxRecDepth 100000 in
set_option maxHeartbeats 2000000 in
theorem rexpr_c4 (d : Nat) (ih : ∀ (op n : Int) (name : List UInt8) (args : List Ex) (v : Value) (w : World) (B : Nat) (ns : Names) (vn : Value), fineS d (.mk op n name args) = true → okE (.mk op n name args) → szE (.mk op n name args) ≤ 100000 → EsL w B args v → B ≤ w.heap.size → Strs w ns vn → ns.length ≤ 1000000 → Calls Try.prog 70 #[.agg #[.int .u8 op, .int .i64 n, .string (bstr name), v], vn] w fun e w' => ExprCR w w' e (codeE ns (.mk op n name args)) ∧ Below w.heap.size w w')
    (n : Int) (name : List UInt8) (args : List Ex) (v : Value) (w : World) (B : Nat) (ns : Names) (vn : Value) (hf : fineS (d + 1) (.mk 4 n name args) = true) (hok : okE (.mk 4 n name args)) (hsz : szE (.mk 4 n name args) ≤ 100000) (hL : EsL w B args v) (_hB : B ≤ w.heap.size) (hS : Strs w ns vn) (_hns : ns.length ≤ 1000000) :
    Calls Try.prog 70 #[.agg #[.int .u8 4, .int .i64 n, .string (bstr name), v], vn] w fun e w' => ExprCR w w' e (codeE ns (.mk 4 n name args)) ∧ Below w.heap.size w w' := by
  obtain ⟨a, cap, rfl, hcc1, hcc2⟩ := hL.form
  obtain ⟨an, capn, rfl, hcn1, hcn2⟩ := Sl.form hS
  have Hih := Lib.hid ih
  have HL := Lib.hid hL
  have HS := Lib.hid hS
  obtain ⟨-, -, -, hoks⟩ := hok
  have Hoks := Lib.hid hoks
  rw [fineS, Bool.and_eq_true] at hf
  obtain ⟨hh, hall⟩ := hf
  have Hall := Lib.hid hall
  have hsz2 : szEs args ≤ 100000 := by rw [szE] at hsz; omega
  obtain ⟨W1, hW1, hX1, hb1⟩ : ∃ W1, W1 = w.alloc (.cells #[.int .u8 4, .int .i64 n, .string (bstr name), .slice a args.length cap] 65) ∧ OwnV W1 w.heap.size 65 [.int .u8 4, .int .i64 n, .string (bstr name), .slice a args.length cap] ∧ Below w.heap.size w W1 := ⟨_, rfl, OwnV.new _ _ _, (Below.refl _ _).alloc (Nat.le_refl _) _⟩
  have Hb1 := Lib.hid hb1
  have HX1 := Lib.hid hX1
  have x0 := hX1.cell (i := 0) rfl
  have HW1 := Lib.hid hW1
  have hs1 := hb1.size
  have HOne : Hid (∀ (op a : Int) (W : World), _) := Lib.hid (fun (op a : Int) (W : World) => one_any op a W)
  have Hc : Hid (codeE ns (.mk 4 n name args) = .ok [⟨6, 0⟩]) := Lib.hid rfl
  generalize codeE ns (.mk 4 n name args) = R at *
  clear ih hL hS hoks hall hb1 hX1 hW1
  go_enter Try.func70, Try.ntmps70
  go_upto_region 1 with (fail)
  rw [← HW1.out]
  go_wp2_with fail
  refine (HOne.out _ _ _).mono ?_
  rintro e2 w2 ⟨⟨v2, rfl, hO2⟩, hb2⟩
  have HO2 := Lib.hid (own_mono' hO2 hs1)
  have Hb2 := Lib.hid (Hb1.out.trans (hb2.mono hs1))
  clear hO2 hb2
  go_wp2_with fail
  exact bodyPost_ret (v := .tuple #[v2, .int .i64 0]) (by simp [results, Try.results70, go_sem]) rfl ⟨by rw [Hc.out]; exact ⟨_, rfl, HO2.out⟩, Hb2.out⟩
set_option maxRecDepth 100000 in
set_option maxHeartbeats 2000000 in
theorem rexpr_c5 (d : Nat) (ih : ∀ (op n : Int) (name : List UInt8) (args : List Ex) (v : Value) (w : World) (B : Nat) (ns : Names) (vn : Value), fineS d (.mk op n name args) = true → okE (.mk op n name args) → szE (.mk op n name args) ≤ 100000 → EsL w B args v → B ≤ w.heap.size → Strs w ns vn → ns.length ≤ 1000000 → Calls Try.prog 70 #[.agg #[.int .u8 op, .int .i64 n, .string (bstr name), v], vn] w fun e w' => ExprCR w w' e (codeE ns (.mk op n name args)) ∧ Below w.heap.size w w')
    (n : Int) (name : List UInt8) (args : List Ex) (v : Value) (w : World) (B : Nat) (ns : Names) (vn : Value) (hf : fineS (d + 1) (.mk 5 n name args) = true) (hok : okE (.mk 5 n name args)) (hsz : szE (.mk 5 n name args) ≤ 100000) (hL : EsL w B args v) (_hB : B ≤ w.heap.size) (hS : Strs w ns vn) (_hns : ns.length ≤ 1000000) :
    Calls Try.prog 70 #[.agg #[.int .u8 5, .int .i64 n, .string (bstr name), v], vn] w fun e w' => ExprCR w w' e (codeE ns (.mk 5 n name args)) ∧ Below w.heap.size w w' := by
  obtain ⟨a, cap, rfl, hcc1, hcc2⟩ := hL.form
  obtain ⟨an, capn, rfl, hcn1, hcn2⟩ := Sl.form hS
  have Hih := Lib.hid ih
  have HL := Lib.hid hL
  have HS := Lib.hid hS
  obtain ⟨-, -, -, hoks⟩ := hok
  have Hoks := Lib.hid hoks
  rw [fineS, Bool.and_eq_true] at hf
  obtain ⟨hh, hall⟩ := hf
  have Hall := Lib.hid hall
  have hsz2 : szEs args ≤ 100000 := by rw [szE] at hsz; omega
  obtain ⟨W1, hW1, hX1, hb1⟩ : ∃ W1, W1 = w.alloc (.cells #[.int .u8 5, .int .i64 n, .string (bstr name), .slice a args.length cap] 65) ∧ OwnV W1 w.heap.size 65 [.int .u8 5, .int .i64 n, .string (bstr name), .slice a args.length cap] ∧ Below w.heap.size w W1 := ⟨_, rfl, OwnV.new _ _ _, (Below.refl _ _).alloc (Nat.le_refl _) _⟩
  have Hb1 := Lib.hid hb1
  have HX1 := Lib.hid hX1
  have x0 := hX1.cell (i := 0) rfl
  have HW1 := Lib.hid hW1
  have hs1 := hb1.size
  have HOne : Hid (∀ (op a : Int) (W : World), _) := Lib.hid (fun (op a : Int) (W : World) => one_any op a W)
  have Hc : Hid (codeE ns (.mk 5 n name args) = .ok [⟨7, 0⟩]) := Lib.hid rfl
  generalize codeE ns (.mk 5 n name args) = R at *
  clear ih hL hS hoks hall hb1 hX1 hW1
  go_enter Try.func70, Try.ntmps70
  go_upto_region 1 with (fail)
  rw [← HW1.out]
  go_wp2_with fail
  refine (HOne.out _ _ _).mono ?_
  rintro e2 w2 ⟨⟨v2, rfl, hO2⟩, hb2⟩
  have HO2 := Lib.hid (own_mono' hO2 hs1)
  have Hb2 := Lib.hid (Hb1.out.trans (hb2.mono hs1))
  clear hO2 hb2
  go_wp2_with fail
  exact bodyPost_ret (v := .tuple #[v2, .int .i64 0]) (by simp [results, Try.results70, go_sem]) rfl ⟨by rw [Hc.out]; exact ⟨_, rfl, HO2.out⟩, Hb2.out⟩
set_option maxRecDepth 100000 in
set_option maxHeartbeats 2000000 in
theorem rexpr_c2 (d : Nat) (ih : ∀ (op n : Int) (name : List UInt8) (args : List Ex) (v : Value) (w : World) (B : Nat) (ns : Names) (vn : Value), fineS d (.mk op n name args) = true → okE (.mk op n name args) → szE (.mk op n name args) ≤ 100000 → EsL w B args v → B ≤ w.heap.size → Strs w ns vn → ns.length ≤ 1000000 → Calls Try.prog 70 #[.agg #[.int .u8 op, .int .i64 n, .string (bstr name), v], vn] w fun e w' => ExprCR w w' e (codeE ns (.mk op n name args)) ∧ Below w.heap.size w w')
    (n : Int) (name : List UInt8) (args : List Ex) (v : Value) (w : World) (B : Nat) (ns : Names) (vn : Value) (hf : fineS (d + 1) (.mk 2 n name args) = true) (hok : okE (.mk 2 n name args)) (hsz : szE (.mk 2 n name args) ≤ 100000) (hL : EsL w B args v) (_hB : B ≤ w.heap.size) (hS : Strs w ns vn) (hns : ns.length ≤ 1000000) :
    Calls Try.prog 70 #[.agg #[.int .u8 2, .int .i64 n, .string (bstr name), v], vn] w fun e w' => ExprCR w w' e (codeE ns (.mk 2 n name args)) ∧ Below w.heap.size w w' := by
  obtain ⟨a, cap, rfl, hcc1, hcc2⟩ := hL.form
  obtain ⟨an, capn, rfl, hcn1, hcn2⟩ := Sl.form hS
  have Hih := Lib.hid ih
  have HL := Lib.hid hL
  have HS := Lib.hid hS
  obtain ⟨-, -, -, hoks⟩ := hok
  have Hoks := Lib.hid hoks
  rw [fineS, Bool.and_eq_true] at hf
  obtain ⟨hh, hall⟩ := hf
  have Hall := Lib.hid hall
  have hsz2 : szEs args ≤ 100000 := by rw [szE] at hsz; omega
  obtain ⟨W1, hW1, hX1, hb1⟩ : ∃ W1, W1 = w.alloc (.cells #[.int .u8 2, .int .i64 n, .string (bstr name), .slice a args.length cap] 65) ∧ OwnV W1 w.heap.size 65 [.int .u8 2, .int .i64 n, .string (bstr name), .slice a args.length cap] ∧ Below w.heap.size w W1 := ⟨_, rfl, OwnV.new _ _ _, (Below.refl _ _).alloc (Nat.le_refl _) _⟩
  have Hb1 := Lib.hid hb1
  have HX1 := Lib.hid hX1
  have x0 := hX1.cell (i := 0) rfl
  have x2 := hX1.cell (i := 2) rfl
  have HW1 := Lib.hid hW1
  have hs1 := hb1.size
  have HOne : Hid (∀ (op a : Int) (W : World), _) := Lib.hid (fun (op a : Int) (W : World) => one_any op a W)
  have Hc : Hid (codeE ns (.mk 2 n name args) = if placeS name ns 0 = 0 then .err 131 else .ok [⟨2, (placeS name ns 0 : Int) - 1⟩]) := Lib.hid rfl
  generalize codeE ns (.mk 2 n name args) = R at *
  have HFi : Hid (∀ W : World, Below w.heap.size w W → Calls Try.prog 71 #[.slice an ns.length capn, .string (bstr name)] W _) := Lib.hid (fun W hb => rfind_any ns name _ W (HS.out.below hb) hns)
  generalize placeS name ns 0 = p at *
  clear ih hL hS hoks hall hb1 hX1 hW1
  by_cases hp : p = 0
  · have hp1 : (p : Int) - 1 < 0 := by omega
    have Hc2 : Hid (R = .err 131) := Lib.hid (by rw [Hc.out, if_pos hp])
    clear Hc hp
    go_enter Try.func70, Try.ntmps70
    go_upto_region 1 with (fail)
    rw [← HW1.out]
    go_wp2_with fail
    refine (HFi.out _ Hb1.out).mono ?_
    rintro e2 w2 ⟨rfl, rfl⟩
    go_wp2_with fail
    exact bodyPost_ret (v := .tuple #[.slice none 0 0, .int .i64 131]) (by simp [results, Try.results70, go_sem]) rfl ⟨by rw [Hc2.out]; rfl, Hb1.out⟩
  · have hp1 : ¬ (p : Int) - 1 < 0 := by omega
    have hp2 : 0 ≤ (p : Int) - 1 := by omega
    have Hc2 : Hid (R = .ok [⟨2, (p : Int) - 1⟩]) := Lib.hid (by rw [Hc.out, if_neg hp])
    clear Hc hp
    go_enter Try.func70, Try.ntmps70
    go_upto_region 1 with (fail)
    rw [← HW1.out]
    go_wp2_with fail
    refine (HFi.out _ Hb1.out).mono ?_
    rintro e2 w2 ⟨rfl, rfl⟩
    go_wp2_with fail
    refine (HFi.out _ Hb1.out).mono ?_
    rintro e2 w2 ⟨rfl, rfl⟩
    go_wp2_with fail
    refine (HOne.out _ _ _).mono ?_
    rintro e2 w2 ⟨⟨v2, rfl, hO2⟩, hb2⟩
    have HO2 := Lib.hid (own_mono' hO2 hs1)
    have Hb2 := Lib.hid (Hb1.out.trans (hb2.mono hs1))
    clear hO2 hb2
    go_wp2_with fail
    exact bodyPost_ret (v := .tuple #[v2, .int .i64 0]) (by simp [results, Try.results70, go_sem]) rfl ⟨by rw [Hc2.out]; exact ⟨_, rfl, HO2.out⟩, Hb2.out⟩
set_option maxRecDepth 100000 in
set_option maxHeartbeats 2000000 in
theorem rexpr_c3 (d : Nat) (ih : ∀ (op n : Int) (name : List UInt8) (args : List Ex) (v : Value) (w : World) (B : Nat) (ns : Names) (vn : Value), fineS d (.mk op n name args) = true → okE (.mk op n name args) → szE (.mk op n name args) ≤ 100000 → EsL w B args v → B ≤ w.heap.size → Strs w ns vn → ns.length ≤ 1000000 → Calls Try.prog 70 #[.agg #[.int .u8 op, .int .i64 n, .string (bstr name), v], vn] w fun e w' => ExprCR w w' e (codeE ns (.mk op n name args)) ∧ Below w.heap.size w w')
    (n : Int) (name : List UInt8) (args : List Ex) (v : Value) (w : World) (B : Nat) (ns : Names) (vn : Value) (hf : fineS (d + 1) (.mk 3 n name args) = true) (hok : okE (.mk 3 n name args)) (hsz : szE (.mk 3 n name args) ≤ 100000) (hL : EsL w B args v) (hB : B ≤ w.heap.size) (hS : Strs w ns vn) (hns : ns.length ≤ 1000000) :
    Calls Try.prog 70 #[.agg #[.int .u8 3, .int .i64 n, .string (bstr name), v], vn] w fun e w' => ExprCR w w' e (codeE ns (.mk 3 n name args)) ∧ Below w.heap.size w w' := by
  obtain ⟨a, cap, rfl, hcc1, hcc2⟩ := hL.form
  obtain ⟨an, capn, rfl, hcn1, hcn2⟩ := Sl.form hS
  have Hih := Lib.hid ih
  have HL := Lib.hid hL
  have HS := Lib.hid hS
  obtain ⟨-, -, -, hoks⟩ := hok
  have Hoks := Lib.hid hoks
  rw [fineS, Bool.and_eq_true] at hf
  obtain ⟨hh, hall⟩ := hf
  have Hall := Lib.hid hall
  have hsz2 : szEs args ≤ 100000 := by rw [szE] at hsz; omega
  obtain ⟨W1, hW1, hX1, hb1⟩ : ∃ W1, W1 = w.alloc (.cells #[.int .u8 3, .int .i64 n, .string (bstr name), .slice a args.length cap] 65) ∧ OwnV W1 w.heap.size 65 [.int .u8 3, .int .i64 n, .string (bstr name), .slice a args.length cap] ∧ Below w.heap.size w W1 := ⟨_, rfl, OwnV.new _ _ _, (Below.refl _ _).alloc (Nat.le_refl _) _⟩
  have Hb1 := Lib.hid hb1
  have HX1 := Lib.hid hX1
  have x0 := hX1.cell (i := 0) rfl
  have x3 := hX1.cell (i := 3) rfl
  have HW1 := Lib.hid hW1
  have hs1 := hb1.size
  have HOne : Hid (∀ (op a : Int) (W : World), _) := Lib.hid (fun (op a : Int) (W : World) => one_any op a W)
  have hl : args.length = 1 := (headE_len hh).1.trans (by rfl)
  have h0 : 0 < args.length := by omega
  have h0i : (0 : Int) < (args.length : Int) := by omega
  have hl1 : ((args.length : Int) == 1) = true := by rw [hl]; rfl
  obtain ⟨b, off, op1, n1, name1, args1, aa, ac, rfl, hbB, hbw, hat, c0', c1', c2', c3', hL1⟩ := hL.at h0
  rw [Nat.zero_mul, Nat.add_zero] at c0' c1' c2' c3'
  have c0 := Below.keep hb1 c0'
  have c1 := Below.keep hb1 c1'
  have c2 := Below.keep hb1 c2'
  have c3 := Below.keep hb1 c3'
  have hsz3 : szE (.mk op1 n1 name1 args1) ≤ 100000 := Nat.le_trans (szEs_le hat) hsz2
  have Hc : Hid (codeE ns (.mk 3 n name args) = (codeE ns (.mk op1 n1 name1 args1)).andThen fun c => .ok (joinC c [⟨4, n⟩])) := Lib.hid (by
    have e : args = [.mk op1 n1 name1 args1] := by
      match args, hl, hat with
      | [xa], _, h => simpa using h
    rw [e, code_one ns _ n name _ (by omega)]; rfl)
  have HE1 : Hid (∀ W : World, Below w.heap.size w W → Calls Try.prog 70 #[.agg #[.int .u8 op1, .int .i64 n1, .string (bstr name1), .slice aa args1.length ac], .slice an ns.length capn] W _) := Lib.hid (fun W hb => Hih.out op1 n1 name1 args1 _ W B ns _ (by rw [List.all_eq_true] at hall; exact hall _ (List.mem_of_getElem? hat)) (okEs_at Hoks.out hat) hsz3 (hL1.low (hb.mono hB)) (Nat.le_trans hB hb.size) (HS.out.below hb) hns)
  have Hk : Hid (∀ k, codeE ns (.mk op1 n1 name1 args1) = .err k → k = 131) := Lib.hid (fun k h => codeE_err ns _ k h)
  have Hok : Hid (∀ c, codeE ns (.mk op1 n1 name1 args1) = .ok c → jOk c ∧ c.length ≤ 400000) := Lib.hid (fun c h => by
    obtain ⟨h1, h2⟩ := codeE_ok ns _ c h
    exact ⟨h1, by omega⟩)
  generalize codeE ns (.mk op1 n1 name1 args1) = R1 at *
  generalize codeE ns (.mk 3 n name args) = R at *
  clear c0' c1' c2' c3'
  clear ih hL hS hoks hall hb1 hbB hbw hat hL1 hl hX1 hW1
  go_enter Try.func70, Try.ntmps70
  go_upto_region 1 with (fail)
  rw [← HW1.out]
  go_wp2_with fail
  refine (HE1.out _ Hb1.out).mono ?_
  rintro e2 w2 ⟨he2, hb2⟩
  have HX2 := Lib.hid (HX1.out.below hb2 (Nat.le_refl _))
  have Hb2 := Lib.hid (Hb1.out.trans (hb2.mono hs1))
  have hs2 : w.heap.size ≤ w2.heap.size := Nat.le_trans hs1 hb2.size
  clear hb2 c0 c1 c2 c3 x0 x3
  cases R1 with
  | err k =>
    obtain rfl := he2
    obtain rfl : k = 131 := Hk.out k rfl
    have Hc2 : Hid (R = .err 131) := Lib.hid (by rw [Hc.out]; rfl)
    go_wp2_with fail
    exact bodyPost_ret (v := .tuple #[.slice none 0 0, .int .i64 131]) (by simp [results, Try.results70, go_sem]) rfl ⟨by rw [Hc2.out]; rfl, Hb2.out⟩
  | ok ca =>
    obtain ⟨v2, rfl, hO2⟩ := he2
    obtain ⟨hjo, hcl⟩ := Hok.out ca rfl
    obtain ⟨va2, vc2, rfl, _, _⟩ := Sl.form hO2.sl
    have HO2 := Lib.hid hO2
    have Hc2 : Hid (R = .ok (joinC ca [⟨4, n⟩])) := Lib.hid Hc.out
    have HJn : Hid (∀ (v3 : Value) (W : World), Below w2.heap.size w2 W → SlC W [⟨4, n⟩] v3 → Calls Try.prog 58 #[.slice va2 ca.length vc2, v3] W _) := Lib.hid (fun v3 W hb h3 => join_any ca [⟨4, n⟩] _ v3 W (HO2.out.sl.below hb) h3 (by omega) (by simp) (jOk_small (jOk_one rfl) (by simp)))
    have x0 := HX2.out.cell (i := 0) rfl
    have x1 := HX2.out.cell (i := 1) rfl
    clear Hc hO2 hjo Hok Hk
    go_wp2_with fail
    refine (HOne.out _ _ _).mono ?_
    rintro e3 w3 ⟨⟨v3, rfl, hO3⟩, hb3⟩
    have HJ := Lib.hid (HJn.out v3 w3 hb3 hO3.sl)
    have Hb3 := Lib.hid (Hb2.out.trans (hb3.mono hs2))
    have hs3 : w.heap.size ≤ w3.heap.size := Nat.le_trans hs2 hb3.size
    clear hO3 hb3
    go_wp2_with fail
    refine HJ.out.mono ?_
    rintro e4 w4 ⟨⟨v4, rfl, hO4⟩, hb4⟩
    have HO4 := Lib.hid (own_mono' hO4 hs3)
    have Hb4 := Lib.hid (Hb3.out.trans (hb4.mono hs3))
    clear hO4 hb4
    go_wp2_with fail
    exact bodyPost_ret (v := .tuple #[v4, .int .i64 0]) (by simp [results, Try.results70, go_sem]) rfl ⟨by rw [Hc2.out]; exact ⟨_, rfl, HO4.out⟩, Hb4.out⟩
set_option maxRecDepth 100000 in
set_option maxHeartbeats 2000000 in
theorem rexpr_c6 (d : Nat) (ih : ∀ (op n : Int) (name : List UInt8) (args : List Ex) (v : Value) (w : World) (B : Nat) (ns : Names) (vn : Value), fineS d (.mk op n name args) = true → okE (.mk op n name args) → szE (.mk op n name args) ≤ 100000 → EsL w B args v → B ≤ w.heap.size → Strs w ns vn → ns.length ≤ 1000000 → Calls Try.prog 70 #[.agg #[.int .u8 op, .int .i64 n, .string (bstr name), v], vn] w fun e w' => ExprCR w w' e (codeE ns (.mk op n name args)) ∧ Below w.heap.size w w')
    (n : Int) (name : List UInt8) (args : List Ex) (v : Value) (w : World) (B : Nat) (ns : Names) (vn : Value) (hf : fineS (d + 1) (.mk 6 n name args) = true) (hok : okE (.mk 6 n name args)) (hsz : szE (.mk 6 n name args) ≤ 100000) (hL : EsL w B args v) (hB : B ≤ w.heap.size) (hS : Strs w ns vn) (hns : ns.length ≤ 1000000) :
    Calls Try.prog 70 #[.agg #[.int .u8 6, .int .i64 n, .string (bstr name), v], vn] w fun e w' => ExprCR w w' e (codeE ns (.mk 6 n name args)) ∧ Below w.heap.size w w' := by
  obtain ⟨a, cap, rfl, hcc1, hcc2⟩ := hL.form
  obtain ⟨an, capn, rfl, hcn1, hcn2⟩ := Sl.form hS
  have Hih := Lib.hid ih
  have HL := Lib.hid hL
  have HS := Lib.hid hS
  obtain ⟨-, -, -, hoks⟩ := hok
  have Hoks := Lib.hid hoks
  rw [fineS, Bool.and_eq_true] at hf
  obtain ⟨hh, hall⟩ := hf
  have Hall := Lib.hid hall
  have hsz2 : szEs args ≤ 100000 := by rw [szE] at hsz; omega
  obtain ⟨W1, hW1, hX1, hb1⟩ : ∃ W1, W1 = w.alloc (.cells #[.int .u8 6, .int .i64 n, .string (bstr name), .slice a args.length cap] 65) ∧ OwnV W1 w.heap.size 65 [.int .u8 6, .int .i64 n, .string (bstr name), .slice a args.length cap] ∧ Below w.heap.size w W1 := ⟨_, rfl, OwnV.new _ _ _, (Below.refl _ _).alloc (Nat.le_refl _) _⟩
  have Hb1 := Lib.hid hb1
  have HX1 := Lib.hid hX1
  have x0 := hX1.cell (i := 0) rfl
  have x3 := hX1.cell (i := 3) rfl
  have HW1 := Lib.hid hW1
  have hs1 := hb1.size
  have HOne : Hid (∀ (op a : Int) (W : World), _) := Lib.hid (fun (op a : Int) (W : World) => one_any op a W)
  have hl : args.length = 1 := (headE_len hh).1.trans (by rfl)
  have h0 : 0 < args.length := by omega
  have h0i : (0 : Int) < (args.length : Int) := by omega
  have hl1 : ((args.length : Int) == 1) = true := by rw [hl]; rfl
  obtain ⟨b, off, op1, n1, name1, args1, aa, ac, rfl, hbB, hbw, hat, c0', c1', c2', c3', hL1⟩ := hL.at h0
  rw [Nat.zero_mul, Nat.add_zero] at c0' c1' c2' c3'
  have c0 := Below.keep hb1 c0'
  have c1 := Below.keep hb1 c1'
  have c2 := Below.keep hb1 c2'
  have c3 := Below.keep hb1 c3'
  have hsz3 : szE (.mk op1 n1 name1 args1) ≤ 100000 := Nat.le_trans (szEs_le hat) hsz2
  have Hc : Hid (codeE ns (.mk 6 n name args) = (codeE ns (.mk op1 n1 name1 args1)).andThen fun c => .ok (joinC c [⟨8, 0⟩])) := Lib.hid (by
    have e : args = [.mk op1 n1 name1 args1] := by
      match args, hl, hat with
      | [xa], _, h => simpa using h
    rw [e, code_one ns _ n name _ (by omega)]; rfl)
  have HE1 : Hid (∀ W : World, Below w.heap.size w W → Calls Try.prog 70 #[.agg #[.int .u8 op1, .int .i64 n1, .string (bstr name1), .slice aa args1.length ac], .slice an ns.length capn] W _) := Lib.hid (fun W hb => Hih.out op1 n1 name1 args1 _ W B ns _ (by rw [List.all_eq_true] at hall; exact hall _ (List.mem_of_getElem? hat)) (okEs_at Hoks.out hat) hsz3 (hL1.low (hb.mono hB)) (Nat.le_trans hB hb.size) (HS.out.below hb) hns)
  have Hk : Hid (∀ k, codeE ns (.mk op1 n1 name1 args1) = .err k → k = 131) := Lib.hid (fun k h => codeE_err ns _ k h)
  have Hok : Hid (∀ c, codeE ns (.mk op1 n1 name1 args1) = .ok c → jOk c ∧ c.length ≤ 400000) := Lib.hid (fun c h => by
    obtain ⟨h1, h2⟩ := codeE_ok ns _ c h
    exact ⟨h1, by omega⟩)
  generalize codeE ns (.mk op1 n1 name1 args1) = R1 at *
  generalize codeE ns (.mk 6 n name args) = R at *
  clear c0' c1' c2' c3'
  clear ih hL hS hoks hall hb1 hbB hbw hat hL1 hl hX1 hW1
  go_enter Try.func70, Try.ntmps70
  go_upto_region 1 with (fail)
  rw [← HW1.out]
  go_wp2_with fail
  refine (HE1.out _ Hb1.out).mono ?_
  rintro e2 w2 ⟨he2, hb2⟩
  have HX2 := Lib.hid (HX1.out.below hb2 (Nat.le_refl _))
  have Hb2 := Lib.hid (Hb1.out.trans (hb2.mono hs1))
  have hs2 : w.heap.size ≤ w2.heap.size := Nat.le_trans hs1 hb2.size
  clear hb2 c0 c1 c2 c3 x0 x3
  cases R1 with
  | err k =>
    obtain rfl := he2
    obtain rfl : k = 131 := Hk.out k rfl
    have Hc2 : Hid (R = .err 131) := Lib.hid (by rw [Hc.out]; rfl)
    go_wp2_with fail
    exact bodyPost_ret (v := .tuple #[.slice none 0 0, .int .i64 131]) (by simp [results, Try.results70, go_sem]) rfl ⟨by rw [Hc2.out]; rfl, Hb2.out⟩
  | ok ca =>
    obtain ⟨v2, rfl, hO2⟩ := he2
    obtain ⟨hjo, hcl⟩ := Hok.out ca rfl
    obtain ⟨va2, vc2, rfl, _, _⟩ := Sl.form hO2.sl
    have HO2 := Lib.hid hO2
    have Hc2 : Hid (R = .ok (joinC ca [⟨8, 0⟩])) := Lib.hid Hc.out
    have HJn : Hid (∀ (v3 : Value) (W : World), Below w2.heap.size w2 W → SlC W [⟨8, 0⟩] v3 → Calls Try.prog 58 #[.slice va2 ca.length vc2, v3] W _) := Lib.hid (fun v3 W hb h3 => join_any ca [⟨8, 0⟩] _ v3 W (HO2.out.sl.below hb) h3 (by omega) (by simp) (jOk_small (jOk_one rfl) (by simp)))
    have x0 := HX2.out.cell (i := 0) rfl
    clear Hc hO2 hjo Hok Hk
    go_wp2_with fail
    refine (HOne.out _ _ _).mono ?_
    rintro e3 w3 ⟨⟨v3, rfl, hO3⟩, hb3⟩
    have HJ := Lib.hid (HJn.out v3 w3 hb3 hO3.sl)
    have Hb3 := Lib.hid (Hb2.out.trans (hb3.mono hs2))
    have hs3 : w.heap.size ≤ w3.heap.size := Nat.le_trans hs2 hb3.size
    clear hO3 hb3
    go_wp2_with fail
    refine HJ.out.mono ?_
    rintro e4 w4 ⟨⟨v4, rfl, hO4⟩, hb4⟩
    have HO4 := Lib.hid (own_mono' hO4 hs3)
    have Hb4 := Lib.hid (Hb3.out.trans (hb4.mono hs3))
    clear hO4 hb4
    go_wp2_with fail
    exact bodyPost_ret (v := .tuple #[v4, .int .i64 0]) (by simp [results, Try.results70, go_sem]) rfl ⟨by rw [Hc2.out]; exact ⟨_, rfl, HO4.out⟩, Hb4.out⟩
set_option maxRecDepth 100000 in
set_option maxHeartbeats 2000000 in
theorem rexpr_c7 (d : Nat) (ih : ∀ (op n : Int) (name : List UInt8) (args : List Ex) (v : Value) (w : World) (B : Nat) (ns : Names) (vn : Value), fineS d (.mk op n name args) = true → okE (.mk op n name args) → szE (.mk op n name args) ≤ 100000 → EsL w B args v → B ≤ w.heap.size → Strs w ns vn → ns.length ≤ 1000000 → Calls Try.prog 70 #[.agg #[.int .u8 op, .int .i64 n, .string (bstr name), v], vn] w fun e w' => ExprCR w w' e (codeE ns (.mk op n name args)) ∧ Below w.heap.size w w')
    (op : Int) (n : Int) (name : List UInt8) (args : List Ex) (v : Value) (w : World) (B : Nat) (ns : Names) (vn : Value) (hf : fineS (d + 1) (.mk op n name args) = true) (hok : okE (.mk op n name args)) (hsz : szE (.mk op n name args) ≤ 100000) (hL : EsL w B args v) (hB : B ≤ w.heap.size) (hS : Strs w ns vn) (hns : ns.length ≤ 1000000) (hc1 : 7 ≤ op) (hc2 : op ≤ 9) :
    Calls Try.prog 70 #[.agg #[.int .u8 op, .int .i64 n, .string (bstr name), v], vn] w fun e w' => ExprCR w w' e (codeE ns (.mk op n name args)) ∧ Below w.heap.size w w' := by
  obtain ⟨a, cap, rfl, hcc1, hcc2⟩ := hL.form
  obtain ⟨an, capn, rfl, hcn1, hcn2⟩ := Sl.form hS
  have Hih := Lib.hid ih
  have HL := Lib.hid hL
  have HS := Lib.hid hS
  obtain ⟨-, -, -, hoks⟩ := hok
  have Hoks := Lib.hid hoks
  rw [fineS, Bool.and_eq_true] at hf
  obtain ⟨hh, hall⟩ := hf
  have Hall := Lib.hid hall
  have hsz2 : szEs args ≤ 100000 := by rw [szE] at hsz; omega
  obtain ⟨W1, hW1, hX1, hb1⟩ : ∃ W1, W1 = w.alloc (.cells #[.int .u8 op, .int .i64 n, .string (bstr name), .slice a args.length cap] 65) ∧ OwnV W1 w.heap.size 65 [.int .u8 op, .int .i64 n, .string (bstr name), .slice a args.length cap] ∧ Below w.heap.size w W1 := ⟨_, rfl, OwnV.new _ _ _, (Below.refl _ _).alloc (Nat.le_refl _) _⟩
  have Hb1 := Lib.hid hb1
  have HX1 := Lib.hid hX1
  have x0 := hX1.cell (i := 0) rfl
  have x3 := hX1.cell (i := 3) rfl
  have HW1 := Lib.hid hW1
  have hs1 := hb1.size
  have HOne : Hid (∀ (op a : Int) (W : World), _) := Lib.hid (fun (op a : Int) (W : World) => one_any op a W)
  have hl : args.length = 1 := (headE_len hh).1.trans (by unfold manyS; rw [if_pos (by omega), if_neg (by omega)])
  have h0 : 0 < args.length := by omega
  have h0i : (0 : Int) < (args.length : Int) := by omega
  have hl1 : ((args.length : Int) == 1) = true := by rw [hl]; rfl
  obtain ⟨b, off, op1, n1, name1, args1, aa, ac, rfl, hbB, hbw, hat, c0', c1', c2', c3', hL1⟩ := hL.at h0
  rw [Nat.zero_mul, Nat.add_zero] at c0' c1' c2' c3'
  have c0 := Below.keep hb1 c0'
  have c1 := Below.keep hb1 c1'
  have c2 := Below.keep hb1 c2'
  have c3 := Below.keep hb1 c3'
  have hsz3 : szE (.mk op1 n1 name1 args1) ≤ 100000 := Nat.le_trans (szEs_le hat) hsz2
  have Hc : Hid (codeE ns (.mk op n name args) = (codeE ns (.mk op1 n1 name1 args1)).andThen fun c => .ok (joinC c [⟨9, op⟩])) := Lib.hid (by
    have e : args = [.mk op1 n1 name1 args1] := by
      match args, hl, hat with
      | [xa], _, h => simpa using h
    rw [e, code_one ns _ n name _ (by omega)]; rw [if_neg (by omega), if_neg (by omega)])
  have HE1 : Hid (∀ W : World, Below w.heap.size w W → Calls Try.prog 70 #[.agg #[.int .u8 op1, .int .i64 n1, .string (bstr name1), .slice aa args1.length ac], .slice an ns.length capn] W _) := Lib.hid (fun W hb => Hih.out op1 n1 name1 args1 _ W B ns _ (by rw [List.all_eq_true] at hall; exact hall _ (List.mem_of_getElem? hat)) (okEs_at Hoks.out hat) hsz3 (hL1.low (hb.mono hB)) (Nat.le_trans hB hb.size) (HS.out.below hb) hns)
  have Hk : Hid (∀ k, codeE ns (.mk op1 n1 name1 args1) = .err k → k = 131) := Lib.hid (fun k h => codeE_err ns _ k h)
  have Hok : Hid (∀ c, codeE ns (.mk op1 n1 name1 args1) = .ok c → jOk c ∧ c.length ≤ 400000) := Lib.hid (fun c h => by
    obtain ⟨h1, h2⟩ := codeE_ok ns _ c h
    exact ⟨h1, by omega⟩)
  generalize codeE ns (.mk op1 n1 name1 args1) = R1 at *
  generalize codeE ns (.mk op n name args) = R at *
  clear c0' c1' c2' c3'
  clear ih hL hS hoks hall hb1 hbB hbw hat hL1 hl hX1 hW1
  have e1 : (op == 1) = false := by rw [beq_eq_false_iff_ne]; omega
  have e2 : (op == 2) = false := by rw [beq_eq_false_iff_ne]; omega
  have e3 : (op == 3) = false := by rw [beq_eq_false_iff_ne]; omega
  have e4 : (op == 4) = false := by rw [beq_eq_false_iff_ne]; omega
  have e5 : (op == 5) = false := by rw [beq_eq_false_iff_ne]; omega
  have e6 : (op == 6) = false := by rw [beq_eq_false_iff_ne]; omega
  have hw : wrap64 op = op := by unfold wrap64; omega
  clear hc1 hc2
  go_enter Try.func70, Try.ntmps70
  go_upto_region 1 with (fail)
  rw [← HW1.out]
  go_wp2_with fail
  refine (HE1.out _ Hb1.out).mono ?_
  rintro e2 w2 ⟨he2, hb2⟩
  have HX2 := Lib.hid (HX1.out.below hb2 (Nat.le_refl _))
  have Hb2 := Lib.hid (Hb1.out.trans (hb2.mono hs1))
  have hs2 : w.heap.size ≤ w2.heap.size := Nat.le_trans hs1 hb2.size
  clear hb2 c0 c1 c2 c3 x0 x3
  cases R1 with
  | err k =>
    obtain rfl := he2
    obtain rfl : k = 131 := Hk.out k rfl
    have Hc2 : Hid (R = .err 131) := Lib.hid (by rw [Hc.out]; rfl)
    go_wp2_with fail
    exact bodyPost_ret (v := .tuple #[.slice none 0 0, .int .i64 131]) (by simp [results, Try.results70, go_sem]) rfl ⟨by rw [Hc2.out]; rfl, Hb2.out⟩
  | ok ca =>
    obtain ⟨v2, rfl, hO2⟩ := he2
    obtain ⟨hjo, hcl⟩ := Hok.out ca rfl
    obtain ⟨va2, vc2, rfl, _, _⟩ := Sl.form hO2.sl
    have HO2 := Lib.hid hO2
    have Hc2 : Hid (R = .ok (joinC ca [⟨9, op⟩])) := Lib.hid Hc.out
    have HJn : Hid (∀ (v3 : Value) (W : World), Below w2.heap.size w2 W → SlC W [⟨9, op⟩] v3 → Calls Try.prog 58 #[.slice va2 ca.length vc2, v3] W _) := Lib.hid (fun v3 W hb h3 => join_any ca [⟨9, op⟩] _ v3 W (HO2.out.sl.below hb) h3 (by omega) (by simp) (jOk_small (jOk_one rfl) (by simp)))
    have x0 := HX2.out.cell (i := 0) rfl
    have x3 := HX2.out.cell (i := 3) rfl
    clear Hc hO2 hjo Hok Hk
    go_wp2_with fail
    refine (HOne.out _ _ _).mono ?_
    rintro e3 w3 ⟨⟨v3, rfl, hO3⟩, hb3⟩
    have HJ := Lib.hid (HJn.out v3 w3 hb3 hO3.sl)
    have Hb3 := Lib.hid (Hb2.out.trans (hb3.mono hs2))
    have hs3 : w.heap.size ≤ w3.heap.size := Nat.le_trans hs2 hb3.size
    clear hO3 hb3
    go_wp2_with fail
    refine HJ.out.mono ?_
    rintro e4 w4 ⟨⟨v4, rfl, hO4⟩, hb4⟩
    have HO4 := Lib.hid (own_mono' hO4 hs3)
    have Hb4 := Lib.hid (Hb3.out.trans (hb4.mono hs3))
    clear hO4 hb4
    go_wp2_with fail
    exact bodyPost_ret (v := .tuple #[v4, .int .i64 0]) (by simp [results, Try.results70, go_sem]) rfl ⟨by rw [Hc2.out]; exact ⟨_, rfl, HO4.out⟩, Hb4.out⟩
end Go.Proofs.Ytdeneckmoejcfaa
namespace Go.Proofs.Ytdeneckmoejcfaa
open Go.RowKit

/-- the contract of expr at depth d -/
def ExprK (d : Nat) : Prop := ∀ (op n : Int) (name : List UInt8) (args : List Ex) (v : Value) (w : World) (t B : Nat) (vc vn : Value) (s : TS), fineS d (.mk op n name args) = true → okE (.mk op n name args) → EsL w B args v → B ≤ w.heap.size → TrC w t B vc vn s → s.names.length ≤ 900000 → s.code.length + 4 * szE (.mk op n name args) ≤ 900000 →
  Calls Try.prog 85 #[.pointer (some ⟨t, 0, none⟩), .agg #[.int .u8 op, .int .i64 n, .string (bstr name), v]] w (TrP w t B vc vn (tE (.mk op n name args) s) (.tuple #[]))
set_option maxRecDepth 100000 in
set_option maxHeartbeats 2000000 in
theorem lazy_step (d : Nat) (ih : ExprK d) (op n : Int) (name : List UInt8) (xa xb : Ex) (va : Value) (j u : Int) (w : World) (t B : Nat) (vc vn : Value) (s : TS) (hfa : fineS d xa = true) (hfb : fineS d xb = true) (hoa : okE xa) (hob : okE xb) (hL : EsL w B [xa, xb] va) (hB : B ≤ w.heap.size) (h : TrC w t B vc vn s) (hn : s.names.length ≤ 900000) (hc : s.code.length + 4 * (1 + (szE xa + szE xb)) ≤ 900000) :
    Calls Try.prog 103 #[.pointer (some ⟨t, 0, none⟩), .agg #[.int .u8 op, .int .i64 n, .string (bstr name), va], .int .u8 j, .int .i64 u] w (TrP w t B vc vn (lazyT (tE xa) (tE xb) j u s) (.tuple #[])) := by
  obtain ⟨a, cap, hv, hcc1, hcc2⟩ := hL.form
  have hv2 : va = .slice a 2 cap := hv
  subst hv2
  clear hv
  obtain ⟨W1, hW1, hX1, hb1⟩ : ∃ W1, W1 = w.alloc (.cells #[.int .u8 op, .int .i64 n, .string (bstr name), .slice a 2 cap] 65) ∧ OwnV W1 w.heap.size 65 [.int .u8 op, .int .i64 n, .string (bstr name), .slice a 2 cap] ∧ Below w.heap.size w W1 := ⟨_, rfl, OwnV.new _ _ _, (Below.refl _ _).alloc (Nat.le_refl _) _⟩
  have hs1 := hb1.size
  have h1 := h.grown hb1
  obtain ⟨b, off, op1, n1, name1, args1, aa, ac, rfl, hbB, hbw, hat, c0', c1', c2', c3', hLa⟩ := hL.at (k := 0) (by simp)
  obtain ⟨b', off', op2, n2, name2, args2, ab, ac2, he', hbB', hbw', hat', d0, d1, d2, d3, hLb⟩ := hL.at (k := 1) (by simp)
  cases he'
  rw [Nat.zero_mul, Nat.add_zero] at c0' c1' c2' c3'
  have c0 := Below.keep hb1 c0'
  have c1 := Below.keep hb1 c1'
  have c2 := Below.keep hb1 c2'
  have c3 := Below.keep hb1 c3'
  rw [Nat.one_mul] at d0 d1 d2 d3
  have hxa : xa = .mk op1 n1 name1 args1 := by simpa using hat
  have hxb : xb = .mk op2 n2 name2 args2 := by simpa using hat'
  subst hxa hxb
  have N1 := h.not (g := w.heap.size) (Nat.le_refl _)
  have ea := tE_law d _ s hfa
  have eb := tE_law d _ ((tE (.mk op1 n1 name1 args1) s).put j 0) hfb
  have HA := Lib.hid (ih op1 n1 name1 args1 _ W1 t B vc vn s hfa hoa (hLa.low (hb1.mono hB)) (by omega) h1 hn (by omega))
  have l1 := ea.len
  have l1' := ea.le
  have nm1 : (tE (.mk op1 n1 name1 args1) s).names.length ≤ 900000 := by rw [ea.names]; exact hn
  have nm2 : ((tE (.mk op1 n1 name1 args1) s).put j 0).names.length ≤ 900000 := nm1
  have p1 : ((tE (.mk op1 n1 name1 args1) s).put j 0).code.length = (tE (.mk op1 n1 name1 args1) s).code.length + 1 := by simp [TS.put_code]
  have l3 := eb.len
  have l3' := eb.le
  have nm3 : (tE (.mk op2 n2 name2 args2) ((tE (.mk op1 n1 name1 args1) s).put j 0)).names.length ≤ 900000 := by rw [eb.names]; exact nm2
  have HFi : Hid (lazyT (tE (.mk op1 n1 name1 args1)) (tE (.mk op2 n2 name2 args2)) j u s = lazyFin (tE (.mk op1 n1 name1 args1) s) (tE (.mk op2 n2 name2 args2) ((tE (.mk op1 n1 name1 args1) s).put j 0)) u) := Lib.hid rfl
  have HBc : Hid (∀ (W : World) (vc' vn' : Value), Below B w W → B ≤ W.heap.size → TrC W t B vc' vn' ((tE (.mk op1 n1 name1 args1) s).put j 0) → Calls Try.prog 85 #[.pointer (some ⟨t, 0, none⟩), .agg #[.int .u8 op2, .int .i64 n2, .string (bstr name2), .slice ab args2.length ac2]] W (TrP W t B vc' vn' (tE (.mk op2 n2 name2 args2) ((tE (.mk op1 n1 name1 args1) s).put j 0)) (.tuple #[]))) := Lib.hid (fun W vc' vn' hb hBW hT => ih op2 n2 name2 args2 _ W t B vc' vn' _ hfb hob (hLb.low hb) hBW hT nm2 (by omega))
  generalize hq3 : tE (.mk op2 n2 name2 args2) ((tE (.mk op1 n1 name1 args1) s).put j 0) = s3 at *
  generalize hq1 : tE (.mk op1 n1 name1 args1) s = s1 at *
  generalize lazyT (tE (.mk op1 n1 name1 args1)) (tE (.mk op2 n2 name2 args2)) j u s = sf at *
  generalize szE (.mk op1 n1 name1 args1) = z1 at *
  generalize szE (.mk op2 n2 name2 args2) = z2 at *
  have x3 := hX1.cell (i := 3) rfl
  have HX1 := Lib.hid (And.intro hX1 N1)
  have HD0 := Lib.hid d0
  have HD1 := Lib.hid d1
  have HD2 := Lib.hid d2
  have HD3 := Lib.hid d3
  have HF1 := Lib.hid (TrF.of_below t vc vn hb1)
  have HT1 := Lib.hid h1
  have HT0 := Lib.hid h
  have HW1 := Lib.hid hW1
  clear hq1 hq3 ih hL hLa c0' c1' c2' c3' hLb hX1 h h1 hb1 hW1 N1 ea eb nm1 nm2 hat hat' hfa hfb hoa hob hbB' hbw hbw' d0 d1 d2 d3
  go_enter Try.func103, Try.ntmps103
  go_upto_region 1 with (fail)
  rw [← HW1.out]
  go_wp2_with fail
  refine HA.out.mono ?_
  rintro e2 w2 ⟨rfl, vc2, vn2, hT2, hF2⟩
  have HX2 := Lib.hid (hF2.own HX1.out.1 HX1.out.2)
  have HF2 := Lib.hid (HF1.out.trans hF2)
  have hs2 := hF2.size
  have HL2 := Lib.hid (later_any j w2 t B vc2 vn2 s1 hT2 (by omega) (by omega))
  clear hT2 hF2 HA HX1 HF1 c0 c1 c2 c3
  go_wp2_with fail
  refine HL2.out.mono ?_
  rintro e3 w3 ⟨k1, k2, rfl, hk1, hk2, vc3, vn3, hT3, hF3, hn1, hn2⟩
  have HX3 := Lib.hid (hF3.own HX2.out.1 HX2.out.2)
  have HF3 := Lib.hid (HF2.out.trans hF3)
  have HK3 := Lib.hid (And.intro (And.intro hk1 hn1) (And.intro hk2 hn2))
  have hs3 := hF3.size
  have hB3 := HF3.out.below HT0.out hB
  have c0 := (hB3.cell (p := ⟨b, off + 4, none⟩) hbB).trans HD0.out
  have c1 := (hB3.cell (p := ⟨b, off + 4 + 1, none⟩) hbB).trans HD1.out
  have c2 := (hB3.cell (p := ⟨b, off + 4 + 2, none⟩) hbB).trans HD2.out
  have c3 := (hB3.cell (p := ⟨b, off + 4 + 3, none⟩) hbB).trans HD3.out
  have x3 := HX3.out.1.cell (i := 3) rfl
  have HB3 := Lib.hid (HBc.out w3 vc3 vn3 hB3 (by omega) hT3)
  clear hT3 hF3 hk1 hk2 hn1 hn2 HX2 HF2 HL2 HBc hB3
  go_wp2_with fail
  refine HB3.out.mono ?_
  rintro e4 w4 ⟨rfl, vc4, vn4, hT4, hF4⟩
  have HK4 := Lib.hid (And.intro (hF4.own HK3.out.1.1 HK3.out.1.2) (hF4.own HK3.out.2.1 HK3.out.2.2))
  have HF4 := Lib.hid (HF3.out.trans hF4)
  have hs4 := hF4.size
  have HP4 := Lib.hid (put_any 10 0 w4 t B vc4 vn4 s3 hT4 (by omega) (by omega))
  clear hT4 hF4 HB3 HK3 HF3 HX3 c0 c1 c2 c3 x3
  go_wp2_with fail
  refine HP4.out.mono ?_
  rintro e5 w5 ⟨rfl, vc5, vn5, hT5, hF5⟩
  have p4 : (s3.put 10 0).code.length = s3.code.length + 1 := by simp [TS.put_code]
  have HK5 := Lib.hid (And.intro (hF5.own HK4.out.1.1 HK4.out.1.2) (hF5.own HK4.out.2.1 HK4.out.2.2))
  have HF5 := Lib.hid (HF4.out.trans hF5)
  have hs5 := hF5.size
  have HL5 := Lib.hid (later_any 11 w5 t B vc5 vn5 (s3.put 10 0) hT5 (by omega) (by omega))
  clear hT5 hF5 HP4 HK4 HF4
  go_wp2_with fail
  refine HL5.out.mono ?_
  rintro e6 w6 ⟨m1, m2, rfl, hm1, hm2, vc6, vn6, hT6, hF6, hq1, hq2⟩
  have p5 : ((s3.put 10 0).put 11 0).code.length = s3.code.length + 2 := by simp [TS.put_code]
  have HK6 := Lib.hid (And.intro (hF6.own HK5.out.1.1 HK5.out.1.2) (hF6.own HK5.out.2.1 HK5.out.2.2))
  have HM6 := Lib.hid (And.intro (And.intro hm1 hq1) (And.intro hm2 hq2))
  have HF6 := Lib.hid (HF5.out.trans hF6)
  have hs6 := hF6.size
  have HL6 := Lib.hid (later1_any k1 k2 s1.code.length w6 t B vc6 vn6 ((s3.put 10 0).put 11 0) hT6 (by omega) (by omega) HK6.out.1.1 HK6.out.2.1)
  clear hT6 hF6 HL5 HK5 HF5 hm1 hm2 hq1 hq2
  go_wp2_with fail
  refine HL6.out.mono ?_
  rintro e7 w7 ⟨rfl, vc7, vn7, hT7, hF7⟩
  have p6 : (((s3.put 10 0).put 11 0).patch s1.code.length).code.length = s3.code.length + 2 := by show (setA _ _ _).length = _; rw [setA_len, p5]
  have HM7 := Lib.hid (And.intro (hF7.own HM6.out.1.1 HM6.out.1.2) (hF7.own HM6.out.2.1 HM6.out.2.2))
  have HF7 := Lib.hid (HF6.out.trans hF7)
  have hs7 := hF7.size
  have HP7 := Lib.hid (put_any 1 u w7 t B vc7 vn7 _ hT7 (by omega) (by omega))
  clear hT7 hF7 HL6 HM6 HF6 HK6
  go_wp2_with fail
  refine HP7.out.mono ?_
  rintro e8 w8 ⟨rfl, vc8, vn8, hT8, hF8⟩
  have p7 : ((((s3.put 10 0).put 11 0).patch s1.code.length).put 1 u).code.length = s3.code.length + 3 := by rw [TS.put_code, List.length_append, p6]; rfl
  have HM8 := Lib.hid (And.intro (hF8.own HM7.out.1.1 HM7.out.1.2) (hF8.own HM7.out.2.1 HM7.out.2.2))
  have HF8 := Lib.hid (HF7.out.trans hF8)
  have HL8 := Lib.hid (later1_any m1 m2 (s3.put 10 0).code.length w8 t B vc8 vn8 _ hT8 (by omega) (by omega) HM8.out.1.1 HM8.out.2.1)
  clear hT8 hF8 HP7 HM7 HF7
  go_wp2_with fail
  refine HL8.out.mono ?_
  rintro e9 w9 ⟨rfl, vc9, vn9, hT9, hF9⟩
  have HT9 := Lib.hid hT9
  have HF9 := Lib.hid (HF8.out.trans hF9)
  clear hT9 hF9 HL8 HM8 HF8
  go_wp2_with fail
  exact bodyPost_ret (results_none rfl _ _ _) rfl ⟨rfl, _, _, by rw [HFi.out]; exact HT9.out, HF9.out⟩
end Go.Proofs.Ytdeneckmoejcfaa
