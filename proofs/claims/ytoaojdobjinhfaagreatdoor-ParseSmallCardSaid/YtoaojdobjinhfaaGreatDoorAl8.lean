/- Short names for facts that many texts use. -/
import Derived.Lib.Hide
import Derived.WalkKit
import Derived.Below
namespace Go.Proofs.YtoaojdobjinhfaaGreatDoor
open Go.RowKit
theorem zh {p:Prop} (h:p):RowKit.Hid p:=h
theorem zr (n:Nat):n≤n:=Nat.le_refl n
theorem zs1 {α:Type _} (l:List α) (i:Nat) (a:α):l.toArray.setIfInBounds i a=(l.set i a).toArray:=List.setIfInBounds_toArray ..
theorem zs2 {α:Type _} (x:α) (l:List α) (a:α):(x::l).set 0 a=a::l:=rfl
theorem zs3 {α:Type _} (x:α) (l:List α) (n:Nat) (a:α):(x::l).set (n+1) a=x::l.set n a:=rfl
theorem zmf (P:Program) (fn:Fn) (first cap:Array Value) (w:World):(Instr.makeFunc fn first cap).run P w=.ok (.func fn first cap) w:=rfl
theorem yA {α:Type _} {as bs:List α}:(as++bs).length=as.length+bs.length:=List.length_append
theorem yB {α:Type _} {a:α} {as:List α}:(a::as).length=as.length+1:=rfl
theorem yC (a b:Bool):((a&&b)=true)=(a=true∧b=true):=Bool.and_eq_true a b
theorem yD {α:Type _} {l:List α} {i:Nat} (h:i<l.length):l[i]?=some l[i]:=List.getElem?_eq_getElem h
theorem yL {α:Type _}:([]:List α).length=0:=rfl
theorem yN {c:Prop} {h:Decidable c} (hnc:¬c) {α:Sort _} {t e:α}:ite c t e=e:=if_neg hnc
theorem yP {c:Prop} {h:Decidable c} (hc:c) {α:Sort _} {t e:α}:ite c t e=t:=if_pos hc
theorem yQ {p:Prop} [Decidable p]:(decide p=true)=p:=decide_eq_true_eq
theorem yR (B:Nat) (w:World):Below B w w:=Below.refl B w
theorem yT {n m k:Nat} (a:n≤m) (b:m≤k):n≤k:=Nat.le_trans a b
theorem yE {P:Program} {fn:Func} {R:Ending→World→Prop} {a:Act} {w:World} {v:Value} (hr:(results fn a.tmps).run P w=.ok v w) (hd:a.defers=[]) (hR:R (.returned v) w):bodyPost P fn R .ret a w:=bodyPost_ret hr hd hR
end Go.Proofs.YtoaojdobjinhfaaGreatDoor
