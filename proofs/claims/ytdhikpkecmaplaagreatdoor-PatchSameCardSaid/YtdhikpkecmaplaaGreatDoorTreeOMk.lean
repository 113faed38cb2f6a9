/- What comes in, opened: a list of statements. -/
import Derived.Test.YtdhikpkecmaplaaGreatDoorGlobMk
import Derived.Lib.SmallJoins
import Derived.Deep.Slices
import Derived.OpenShut
import Derived.KernelRfl
import Derived.LaidLaws
import Derived.LaidMore
import Derived.Lay
import Derived.LaidHandle
import Derived.Stop.Joined
import Derived.Stop.LaidErr
import Derived.ChangeArms
set_option linter.unusedSimpArgs false
set_option linter.unusedVariables false
namespace Go.Proofs.YtdhikpkecmaplaaGreatDoor
open Go.ChangeShapes Go.WideShapes Go.RowKit
set_option maxRecDepth 100000

theorem ExsC.join {w:World} {P:Nat->Prop} {xs ys:List Ex} {cs ds:List Value} (h:ExsC w P xs cs) (g:ExsC w P ys ds):ExsC w P (xs++ys) (cs++ds):=by
 induction h with
 | nil=>exact g
 | cons h1 h2 h3 _ _ ih=>exact .cons h1 h2 h3 ih
theorem StsC.join {w:World} {P:Nat->Prop} {xs ys:List St} {cs ds:List Value} (h:StsC w P xs cs) (g:StsC w P ys ds):StsC w P (xs++ys) (cs++ds):=by
 induction h with
 | nil=>exact g
 | cons h1 h2 h3 b1 b2 b3 l1 l2 l3 _ _ _ ih=>exact .cons h1 h2 h3 b1 b2 b3 l1 l2 l3 ih
variable {H : Type} {enc : TypeId × Value -> H} {w : World} {base : Nat} {spare : Nat -> Bool} {held : Bool}
theorem own:ownKnob Tryz.prog.godebug=none:=by kernel_rfl
theorem ztz:laidOutB Tryz.prog=true:=by kernel_rfl
def zkV : List (String × DataW Unit) := Rows.patchMasksRow.laid
theorem powL:(Rows.laid_internal_strconv_uint64pow10:DataW Unit)=Lib.tabData .u64 Lib.pow10Tab:=by kernel_rfl
theorem spaceL:(Rows.laid_strings_asciiSpace:DataW Unit)=Lib.tabData .u8 spaceTab:=by kernel_rfl
theorem zgF {P:Program} {n nm:String} {d:DataW Unit} {r:List (String × DataW Unit)} {W:World} {g:Nat} {ti:TypeId} {ms:Array (String × TypeId)}
  (h:laidMet P ((n,.iface nm d) :: r) W) (hg:P.globalNamed n=some g) (ht:(P.globals[g]?).map (·.type)=some ti) (hi:P.underlying ti=some (.interface ms)) :
  ∃ tp p,W.var? P n=some #[.iface tp p]:=by
 obtain ⟨ps,⟨g0,t0,cs0,f0,p0,q0,hg0,ht0,hv0,hd0,_,e0⟩,_,hrows⟩:=h;obtain rfl:=Option.some.inj (hg.symm.trans hg0);obtain rfl:=Option.some.inj (ht.symm.trans ht0);obtain ⟨l0⟩:=cs0;obtain ⟨f1,u,v,e,_⟩:=iface_of_trod hi hd0;have e':l0=[.iface u v]:=e;subst e';exact ⟨u,v,hv0⟩
theorem zc8 {P:Program} {W:World} {n:String} {g:Nat} {v:Value} {vs:List Value} (hg:P.globalNamed n=some g) (h:W.var? P n=some (v :: vs).toArray):g < W.heap.size:=by
 have:=World.var?_cell hg h 0;have h1:W.cell? ⟨g,0,none⟩=some v:=by simpa using this
 exact World.block_lt_of_cell? W _ h1
theorem zny {W:World} (h:laidMetH Tryz.prog zkV W):Glob W:=by
 rw [MakeChecks.laidMetH_plain _ _ _ (by kernel_rfl)] at h
 have h2 : laidMet Tryz.prog (("internal/strconv.uint64pow10", Rows.laid_internal_strconv_uint64pow10) :: _) W := h.tail.tail
 have h4 : laidMet Tryz.prog (("strconv.ErrRange", Rows.laid_strconv_ErrRange) :: _) W := h2.tail.tail
 have h5 : laidMet Tryz.prog (("strconv.ErrSyntax", Rows.laid_strconv_ErrSyntax) :: _) W := h4.tail
 have h7 : laidMet Tryz.prog (("strings.asciiSpace", Rows.laid_strings_asciiSpace) :: _) W := h5.tail.tail
 rw [powL] at h2;rw [spaceL] at h7;have k1:=Lib.tabIs_of_head gl1 (by kernel_rfl) Tryz.underlying336 Tryz.underlying47 (by kernel_rfl) (by kernel_rfl) h2;have k0:=Lib.tabIs_of_head gl0 (by kernel_rfl) Tryz.underlying287 Tryz.underlying5 (by kernel_rfl) (by kernel_rfl) h7;obtain ⟨a,b,k3⟩:=zgF h4 gl3 (by kernel_rfl) Tryz.underlying188;obtain ⟨c,d,k2⟩:=zgF h5 gl2 (by kernel_rfl) Tryz.underlying188;have b0:=zc8 (v:=.int .u8 0) (vs:=(spaceTab.map fun z=>Value.int .u8 z).tail) gl0 k0;have b1:=zc8 (v:=.int .u64 1) (vs:=(Lib.pow10Tab.map fun z=>Value.int .u64 z).tail) gl1 k1;have b2:=zc8 (vs:=[]) gl2 k2;have b3:=zc8 (vs:=[]) gl3 k3;exact ⟨Nat.succ_le_of_lt (by omega),k0,k1,⟨c,d,k2⟩,⟨a,b,k3⟩⟩
theorem zsD (os:Os) (args:Array Value):laidMetH Tryz.prog zkV ((World.laidAll Tryz.prog os zkV).forCall (fun _ _=>0) ⟨#[],args,[]⟩).memory:=by
 rw [MakeChecks.laidMetH_plain _ _ _ (by kernel_rfl)];exact laidMet_laidAll _ (by kernel_rfl) (by kernel_rfl)
theorem each {α β:Type} [Inhabited α] (m:Nat) (R:Nat->List β->Prop) (f:α->List β) (hR:∀ i,i < m->∃ s,R i (f s)) :
  ∃ l:List α,l.length=m/\∀ i (h:i < l.length),R i (f l[i]):=by
 let g:Nat->α:=fun i=>if h:i < m then (hR i h).choose else default
 have hg:∀ i,i < m->R i (f (g i)):=fun i h=>by
  simp only [g,dif_pos h];exact (hR i h).choose_spec
 refine ⟨(List.range m).map g,by simp,?_⟩;intro i hi;have hi':i < m:=by simpa using hi
 simpa using hg i hi'
instance : Inhabited Tok := ⟨⟨0, [], 0, 0, 0⟩⟩
end Go.Proofs.YtdhikpkecmaplaaGreatDoor
