/- A system that comes in, opened. -/
import Derived.Test.YtdhikpkecmaplaaGreatDoorTreeOMk
set_option linter.unusedSimpArgs false
set_option linter.unusedVariables false
set_option maxRecDepth 100000
namespace Go.Proofs.YtdhikpkecmaplaaGreatDoor
open Go.ChangeShapes Go.WideShapes Go.RowKit

theorem ztA {n:Int} (h:(Lit.int .i64 n).wf=true) : -9223372036854775808<=n/\n<=9223372036854775807:=by
 simp [Lit.wf,IntKind.min,IntKind.max,IntKind.signed,IntKind.bits] at h;omega
theorem sys_of {H:Type} {enc:TypeId × Value->H} {w:World} {base:Nat} {spare:Nat->Bool} {held:Bool} {n:Nat} {v0 v1 v2 v3:Value} {y0 y1 y2 y3:DataW H × List MemPlace}
  (h0:DataW.trod enc Tryz.prog w base spare held n 9 [v0]=some y0) (h1:DataW.trod enc Tryz.prog w base spare held n 57 [v1]=some y1)
  (h2:DataW.trod enc Tryz.prog w base spare held n 57 [v2]=some y2) (h3:DataW.trod enc Tryz.prog w base spare held n 3 [v3]=some y3) :
  ∃ s:Sys,[v0,v1,v2,v3]=s.cells/\s.ok:=by
 obtain ⟨s,e0,_,hs⟩:=DataW.trod_string Tryz.underlying9 h0;obtain ⟨r,e1,_,hr⟩:=DataW.trod_int Tryz.underlying57 h1;obtain ⟨u,e2,_,hu⟩:=DataW.trod_int Tryz.underlying57 h2;obtain ⟨g,e3,_,hg⟩:=DataW.trod_int Tryz.underlying3 h3;obtain ⟨r,rfl⟩:=zrW hr;obtain ⟨u,rfl⟩:=zrW hu;cases e0;cases e1;cases e2;cases e3;exact ⟨⟨s,r,u,g⟩,rfl,hs,ztA hg⟩
theorem open_sys {H:Type} {enc:TypeId × Value->H} {w:World} {base:Nat} {spare:Nat->Bool} {held:Bool} {r:Reach} {b0:Nat} {v:Value} {d:DataW H} {p:List MemPlace}
  (hv:Value.okWide Tryz.prog w r b0 61 v) (h:DataW.Trod enc Tryz.prog w base spare held 61 v d p):∃ s:Sys,v=s.val/\s.ok:=by
 obtain ⟨v0,v1,v2,v3,y0,y1,y2,y3,n,rfl,_,_,h0,h1,h2,h3⟩:=Joins.open_agg4 Tryz.underlying61 (by kernel_rfl) (by kernel_rfl) hv h;obtain ⟨s,hs,hk⟩:=sys_of h0 h1 h2 h3;refine ⟨s,?_,hk⟩;simp only [Sys.cells,List.cons.injEq,and_true] at hs;obtain ⟨rfl,rfl,rfl,rfl⟩:=hs;rfl
end Go.Proofs.YtdhikpkecmaplaaGreatDoor
