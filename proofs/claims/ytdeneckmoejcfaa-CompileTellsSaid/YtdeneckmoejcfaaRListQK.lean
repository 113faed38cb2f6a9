/- marchesref13.list: at every depth. -/
import Derived.Test.YtdeneckmoejcfaaRListK
set_option linter.unusedSimpArgs false
set_option linter.unusedVariables false
namespace Go.Proofs.Ytdeneckmoejcfaa
open Go.RowKit

set_option maxRecDepth 100000 in
theorem rlist_zero (l:List St) (v:Value) (w:World) (B:Nat) (ns:Names) (vn:Value) (hf:rightS 0 l=true) (hL:SsL w B l v) (hS:Strs w ns vn) :
    Calls Try.prog 38 #[v,vn] w fun e w'=>StmtCR w w' e (codeL ns l)∧Below w.heap.size w w':=by
  obtain ⟨a,cap,rfl,_,_⟩:=hL.form
  obtain ⟨an,capn,rfl,_,_⟩:=Sl.form hS
  obtain rfl:l=[]:=by
    cases l with
    | nil=>rfl
    | cons x r=>cases hf
  clear hL hS hf
  go_enter Try.func38,Try.ntmps38
  go_wp2_with fail
  go_loopw [1,4,5,6,7,8,9,10,11,12,13,16,17,18,19,20,21,22,23,24,25,26,27,28,29,30,31,32,33,34,35,36,37,38,39,40,41,42,43,44,45,46,47,48,49,50,51,52,53,54] (fun _ _ _ _ t7 t8 t9 _ _ _ _ _ _ _ _ _ _ _ _ _ _ _ _ _ _ _ _ _ _ _ _ _ _ _ _ _ _ _ _ _ _ _ _ _ _ _ _ _ _ _ wr=>t9=.int .i64 0∧t8=.int .i64 ns.length∧t7=.slice none 0 0∧wr=w) (fun _ _ _ _ _ _ _ _ _ _ _ _ _ _ _ _ _ _ _ _ _ _ _ _ _ _ _ _ _ _ _ _ _ _ _ _ _ _ _ _ _ _ _ _ _ _ _ _ _ _ _=>0)
  case atStart=>exact ⟨by first | rfl | go_num,by first | rfl | go_num,rfl,rfl⟩
  case round =>
    obtain ⟨rfl,rfl,rfl,rfl⟩:=hrel
    go_wp2_with fail
    exact bodyPost_ret (v:=.tuple #[.slice none 0 0,.int .i64 ns.length,.int .i64 0]) (by simp [results,Try.results38,go_sem]) rfl ⟨⟨_,rfl,World.ownsRow_nil _ _ _ _⟩,Below.refl _ _⟩
theorem rlist_any:∀ (d:Nat) (l:List St) (v:Value) (w:World) (B:Nat) (ns:Names) (vn:Value),rightS d l=true→okSs l→szSs l≤100000→SsL w B l v→B≤w.heap.size→Strs w ns vn→ns.length+szSs l≤900000 →
    Calls Try.prog 38 #[v,vn] w fun e w'=>StmtCR w w' e (codeL ns l)∧Below w.heap.size w w':=by
  intro d
  induction d with
  | zero=>intro l v w B ns vn hf _ _ hL _ hS _;exact rlist_zero l v w B ns vn hf hL hS
  | succ d ih=>intro l v w B ns vn hf hok hsz hL hB hS hns;exact rlist_step d ih l v w B ns vn hf hok hsz hL hB hS hns
end Go.Proofs.Ytdeneckmoejcfaa
