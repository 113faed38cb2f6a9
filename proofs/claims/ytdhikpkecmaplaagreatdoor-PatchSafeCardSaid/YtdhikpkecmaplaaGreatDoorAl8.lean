/- Short names for facts that many texts use. -/
import Derived.Lib.Hide
import Derived.WalkKit
namespace Go.Proofs.YtdhikpkecmaplaaGreatDoor
theorem zh {p:Prop} (h:p):RowKit.Hid p:=h
theorem zr (n:Nat):n≤n:=Nat.le_refl n
theorem zs1 {α:Type _} (l:List α) (i:Nat) (a:α):l.toArray.setIfInBounds i a=(l.set i a).toArray:=List.setIfInBounds_toArray ..
theorem zs2 {α:Type _} (x:α) (l:List α) (a:α):(x::l).set 0 a=a::l:=rfl
theorem zs3 {α:Type _} (x:α) (l:List α) (n:Nat) (a:α):(x::l).set (n+1) a=x::l.set n a:=rfl
theorem zmf (P:Program) (fn:Fn) (first cap:Array Value) (w:World):(Instr.makeFunc fn first cap).run P w=.ok (.func fn first cap) w:=rfl
end Go.Proofs.YtdhikpkecmaplaaGreatDoor
