/- marchesref13.expr: all kinds of operations. -/
import Derived.Test.YtdeneckmoejcfaaRExprCK
set_option linter.unusedSimpArgs false
set_option linter.unusedVariables false
namespace Go.Proofs.Ytdeneckmoejcfaa
open Go.RowKit

theorem fineS_succ {d:Nat} {op n:Int} {name:List UInt8} {args:List Ex} (h:fineS (d+1) (.mk op n name args)=true):1≤op∧op≤24:=by
  rw [fineS,Bool.and_eq_true] at h
  exact (headE_len h.1).2
theorem rexpr_any:∀ (d:Nat) (op n:Int) (name:List UInt8) (args:List Ex) (v:Value) (w:World) (B:Nat) (ns:Names) (vn:Value),fineS d (.mk op n name args)=true→okE (.mk op n name args)→szE (.mk op n name args)≤100000→EsL w B args v→B≤w.heap.size→Strs w ns vn→ns.length≤1000000 →
    Calls Try.prog 70 #[.agg #[.int .u8 op,.int .i64 n,.string (bstr name),v],vn] w fun e w'=>ExprCR w w' e (codeE ns (.mk op n name args))∧Below w.heap.size w w':=by
  intro d
  induction d with
  | zero=>intro op n name args v w B ns vn h;cases h
  | succ d ih =>
    intro op n name args v w B ns vn hf hok hsz hL hB hS hns
    have hg:=fineS_succ hf
    by_cases h10:10≤op
    · by_cases h21:op=21
      · subst h21
        exact rexpr_c21 d ih n name args v w B ns vn hf hok hsz hL hB hS hns
      · by_cases h22:op=22
        · subst h22
          exact rexpr_c22 d ih n name args v w B ns vn hf hok hsz hL hB hS hns
        · exact rexpr_c10 d ih op n name args v w B ns vn hf hok hsz hL hB hS hns h10 hg.2 h21 h22
    · by_cases h7:7≤op
      · exact rexpr_c7 d ih op n name args v w B ns vn hf hok hsz hL hB hS hns h7 (by omega)
      · have h6:op=1∨op=2∨op=3∨op=4∨op=5∨op=6:=by omega
        rcases h6 with rfl | rfl | rfl | rfl | rfl | rfl
        · exact rexpr_c1 d ih n name args v w B ns vn hf hok hsz hL hB hS hns
        · exact rexpr_c2 d ih n name args v w B ns vn hf hok hsz hL hB hS hns
        · exact rexpr_c3 d ih n name args v w B ns vn hf hok hsz hL hB hS hns
        · exact rexpr_c4 d ih n name args v w B ns vn hf hok hsz hL hB hS hns
        · exact rexpr_c5 d ih n name args v w B ns vn hf hok hsz hL hB hS hns
        · exact rexpr_c6 d ih n name args v w B ns vn hf hok hsz hL hB hS hns
end Go.Proofs.Ytdeneckmoejcfaa
