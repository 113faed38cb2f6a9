/- What comes in, opened: a list of statements. -/
import Derived.Test.YtdeneckmoejcfaaLexMZs
import Derived.Test.YtdeneckmoejcfaaOnlyZs
import Derived.Lib.SmallJoins
import Derived.Deep.Slices
import Derived.OpenShut
import Derived.KernelRfl
import Derived.LaidLaws
import Derived.LaidMore
import Derived.Lay
import Derived.LaidHandle
import Derived.Stop.Joined
import Derived.Stop.LaidErr
import Derived.ChangeArms
set_option linter.unusedSimpArgs false
set_option linter.unusedVariables false
namespace Go.Proofs.Ytdeneckmoejcfaa
open Go.ChangeShapes Go.WideShapes Go.RowKit
set_option maxRecDepth 100000

theorem ExsC.join {w:World} {P:Nat->Prop} {xs ys:List Ex} {cs ds:List Value} (h:ExsC w P xs cs) (g:ExsC w P ys ds):ExsC w P (xs++ys) (cs++ds):=by
 induction h with
 | nil=>exact g
 | cons h1 h2 h3 _ _ ih=>exact .cons h1 h2 h3 ih
theorem StsC.join {w:World} {P:Nat->Prop} {xs ys:List St} {cs ds:List Value} (h:StsC w P xs cs) (g:StsC w P ys ds):StsC w P (xs++ys) (cs++ds):=by
 induction h with
 | nil=>exact g
 | cons h1 h2 h3 b1 b2 b3 l1 l2 l3 _ _ _ ih=>exact .cons h1 h2 h3 b1 b2 b3 l1 l2 l3 ih
variable {H : Type} {enc : TypeId × Value -> H} {w : World} {base : Nat} {spare : Nat -> Bool} {held : Bool}
theorem own:ownKnob Try.prog.godebug=none:=by kernel_rfl
theorem each {α β:Type} [Inhabited α] (m:Nat) (R:Nat->List β->Prop) (f:α->List β) (hR:∀ i,i < m->∃ s,R i (f s)) :
  ∃ l:List α,l.length=m/\∀ i (h:i < l.length),R i (f l[i]):=by
 let g:Nat->α:=fun i=>if h:i < m then (hR i h).choose else default
 have hg:∀ i,i < m->R i (f (g i)):=fun i h=>by
  simp only [g,dif_pos h];exact (hR i h).choose_spec
 refine ⟨(List.range m).map g,by simp,?_⟩;intro i hi;have hi':i < m:=by simpa using hi
 simpa using hg i hi'
instance : Inhabited Tok := ⟨⟨0, [], 0, 0, 0⟩⟩
end Go.Proofs.Ytdeneckmoejcfaa
