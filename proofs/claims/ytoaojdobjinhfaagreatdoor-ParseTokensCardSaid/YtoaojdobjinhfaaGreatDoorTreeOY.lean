/- What comes in, opened: a list of statements. -/
/- What the row's list gives a walk: the library's variables as they are laid; and a world that meets the list. -/
/- A slice of tokens that comes in, opened. -/
import Derived.Test.YtoaojdobjinhfaaGreatDoorRLexY
import Derived.Lib.SmallJoins
import Derived.Deep.Slices
import Derived.OpenShut
import Derived.KernelRfl
import Derived.Test.YtoaojdobjinhfaaGreatDoorRows
import Derived.Test.YtoaojdobjinhfaaGreatDoorGlobY
import Derived.LaidLaws
import Derived.LaidMore
import Derived.Lay
import Derived.LaidHandle
import Derived.Stop.Joined
import Derived.Stop.LaidErr
import Derived.Test.YtoaojdobjinhfaaGreatDoorLexMY
import Derived.ChangeArms
set_option linter.unusedSimpArgs false
set_option linter.unusedVariables false
namespace Go.Proofs.YtoaojdobjinhfaaGreatDoor
open Go.ChangeShapes Go.WideShapes Go.RowKit
set_option maxRecDepth 100000

theorem ExsC.join {w:World} {P:Nat→Prop} {xs ys:List Ex} {cs ds:List Value} (h:ExsC w P xs cs) (g:ExsC w P ys ds):ExsC w P (xs++ys) (cs++ds):=by
 induction h with
 | nil=>exact g
 | cons h1 h2 h3 _ _ ih=>exact .cons h1 h2 h3 ih
theorem StsC.join {w:World} {P:Nat→Prop} {xs ys:List St} {cs ds:List Value} (h:StsC w P xs cs) (g:StsC w P ys ds):StsC w P (xs++ys) (cs++ds):=by
 induction h with
 | nil=>exact g
 | cons h1 h2 h3 b1 b2 b3 l1 l2 l3 _ _ _ ih=>exact .cons h1 h2 h3 b1 b2 b3 l1 l2 l3 ih
theorem addr_add (b off k:Nat):(⟨b,off,none⟩:Addr).add k=⟨b,off+k,none⟩:=by
 unfold Addr.add;split
 ·next h=>rw [h,Nat.add_zero]
 ·rfl
theorem open_flat {H:Type} {enc:TypeId × Value→H} {P:Program} {w:World} {base:Nat} {spare:Nat→Bool} {held:Bool} {fuel:Nat} {t e:TypeId} {cs:List Value} {x:DataW H × List MemPlace} {α:Type} (sz:Nat) (hsz:0 < sz)
  (ht:P.underlying t=some (.slice e)) (hc:P.cellsOf e=sz) (R:List α→List Value→Prop) (r0:R [] []) (rj:∀ a b c d,R a b→R c d→R (a++c) (b++d))
  (el:∀ n cs y,n < fuel→DataW.trod enc P w base spare held n e cs=some y→∃ a,R [a] cs) (h:DataW.trod enc P w base spare held fuel t cs=some x) :
  ∃ v l ds,cs=[v]∧Sl w sz l.length ds v∧(l.length=0∨∀ g,v.ownBlock=some g→g < w.heap.size)∧R l ds:=by
 rcases DataW.trod_slice ht h with ⟨rfl,-⟩ | ⟨a,len,cap,elems,rest,n,rfl,rfl,-,hb,hl,hm,hlen,hel,-,-⟩
 ·exact ⟨_,[],[],rfl,Sl.nil w sz,.inl rfl,r0⟩
 ·rw [hc] at hel
  have key:∀ k,k≤len→∃ l ds,l.length=k∧ds.length=k * sz∧R l ds∧∀ j,j < k * sz→w.cell? (a.add j)=ds[j]?:=by
   intro k
   induction k with
   | zero=>intro _;exact ⟨[],[],rfl,by simp,r0,fun j hj=>by omega⟩
   | succ k ih =>
    intro hk;obtain ⟨l,ds,hl1,hd1,hr,hcell⟩:=ih (by omega);have:=hel k (by omega);rw [List.getElem?_eq_getElem (by omega)] at this;obtain ⟨cs',h1,h2⟩:=Option.bind_eq_some_iff.1 this;obtain ⟨_,hlen',hcell'⟩:=World.cells?_some h1;obtain ⟨z,hz⟩:=el n cs' _ (Nat.lt_succ_self n) h2;refine ⟨l++[z],ds++cs',by simp [hl1],by rw [List.length_append,hd1,hlen',Nat.succ_mul],rj _ _ _ _ hr hz,fun j hj=>?_⟩;rw [Nat.succ_mul] at hj;by_cases hj1:j < k * sz
    ·rw [List.getElem?_append_left (by omega)];exact hcell j hj1
    ·have:=hcell' (j - k * sz) (by omega);rw [Go.Deep.add_add,show k * sz+(j - k * sz)=j by omega] at this;rw [this,List.getElem?_append_right (by omega),hd1]
  obtain ⟨l,ds,rfl,hd,hr,hcell⟩:=key len (Nat.le_refl _)
  have hlow:0 < l.length→a.spot=none∧a.block < w.heap.size:=by
   intro h0;have hpos:0 < l.length * sz:=Nat.mul_pos h0 hsz;have e0:=hcell 0 hpos;rw [List.getElem?_eq_getElem (by omega)] at e0;have e1:a.add 0=a:=by cases a;simp [Addr.add]
   rw [e1] at e0;exact ⟨World.cell?_spot e0,World.block_lt_of_cell? _ _ e0⟩
  refine ⟨_,l,ds,rfl,⟨some a,cap,rfl,hl,hm,hd,fun h0=>?_⟩,?_,hr⟩
  ·obtain ⟨hs,-⟩:=hlow h0;obtain ⟨b,off,spot⟩:=a;cases hs;refine ⟨b,off,rfl,fun j hj=>?_⟩;rw [← addr_add];exact hcell j hj
  ·rcases Nat.eq_zero_or_pos l.length with h0 | h0
   ·exact .inl h0
   ·right;intro g hg;obtain ⟨hs,hlt⟩:=hlow h0;obtain ⟨b,off,spot⟩:=a;cases hs;cases hg;exact hlt
theorem u8_okay {n:Int} (h:(Lit.int .u8 n).wf=true):0≤n∧n≤255:=by
 simpa [Lit.wf,IntKind.min,IntKind.max,IntKind.signed,IntKind.bits] using h
theorem i64_okay {n:Int} (h:(Lit.int .i64 n).wf=true):okI n:=by
 simp [Lit.wf,IntKind.min,IntKind.max,IntKind.signed,IntKind.bits] at h;unfold okI;omega
theorem bstr_from (s:ByteArray):bstr s.data.toList=s:=by cases s;unfold bstr;simp
theorem bstr_len (s:ByteArray):s.data.toList.length=s.size:=rfl
theorem okEs_app {xs ys:List Ex} (h:okEs xs) (g:okEs ys):okEs (xs++ys):=by
 induction xs with
 | nil=>exact g
 | cons x r ih=>exact ⟨h.1,ih h.2⟩
theorem okSs_app {xs ys:List St} (h:okSs xs) (g:okSs ys):okSs (xs++ys):=by
 induction xs with
 | nil=>exact g
 | cons x r ih=>exact ⟨h.1,ih h.2⟩
variable {H : Type} {enc : TypeId × Value → H} {w : World} {base : Nat} {spare : Nat → Bool} {held : Bool}
theorem open_exs:∀ (fuel:Nat) (cs:List Value) (x:DataW H × List MemPlace),DataW.trod enc Tryz.prog w base spare held fuel 27 cs=some x →
  ∃ v l,cs=[v]∧okEs l∧EsL w w.heap.size l v:=by
 intro fuel
 induction fuel using Nat.strongRecOn with
 | _ fuel ih =>
  intro cs x h
  obtain ⟨v,l,ds,rfl,h1,h2,h3⟩:=open_flat 4 (by omega) Tryz.underlying27 (by kernel_rfl) (fun (l:List Ex) ds=>okEs l∧ExsC w (fun g=>g < w.heap.size) l ds) ⟨trivial,.nil⟩ (fun a b c d g1 g2=>⟨okEs_app g1.1 g2.1,g1.2.join g2.2⟩) (fun n cs y hn hy=>by
   obtain ⟨xs,m,rfl,-,hl,hlen,hf⟩:=DataW.trod_struct Tryz.underlying29 hy;have hl4:cs.length=4:=hl.trans (by kernel_rfl)
   match xs,hlen with
   | [y0,y1,y2,y3],_ =>
   match cs,hl4 with
   | [c0,c1,c2,c3],_ =>
   have g0:=hf 0 _ rfl;have g1:=hf 1 _ rfl;have g2:=hf 2 _ rfl;have g3:=hf 3 _ rfl;have k1:Tryz.prog.cellsOf 5 = 1:=by kernel_rfl
   have k2:Tryz.prog.cellsOf 3 = 1:=by kernel_rfl
   have k3:Tryz.prog.cellsOf 9 = 1:=by kernel_rfl
   have k4:Tryz.prog.cellsOf 27 = 1:=by kernel_rfl
   simp [k1,k2,k3,k4] at g0 g1 g2 g3;obtain ⟨op,e0,-,w0⟩:=DataW.trod_int Tryz.underlying5 g0;obtain ⟨a,e1,-,w1⟩:=DataW.trod_int Tryz.underlying3 g1;obtain ⟨s,e2,-,w2⟩:=DataW.trod_string Tryz.underlying9 g2;obtain ⟨va,args,e3,o3,ds3,q1,q2,q3⟩:=ih m (by omega) _ _ g3;cases e0;cases e1;cases e2;cases e3;refine ⟨.mk op a s.data.toList args,⟨⟨u8_okay w0,i64_okay w1,by rw [bstr_len];exact w2,o3⟩,trivial⟩,?_⟩;have:=ExsC.cons (w:=w) (P:=fun g=>g < w.heap.size) (op:=op) (n:=a) (name:=s.data.toList) q1 q2 q3 .nil
   rwa [bstr_from] at this) h
  exact ⟨v,l,rfl,h3.1,ds,h1,h2,h3.2⟩
theorem open_sts:∀ (fuel:Nat) (cs:List Value) (x:DataW H × List MemPlace),DataW.trod enc Tryz.prog w base spare held fuel 24 cs=some x →
  ∃ v l,cs=[v]∧okSs l∧SsL w w.heap.size l v:=by
 intro fuel
 induction fuel using Nat.strongRecOn with
 | _ fuel ih =>
  intro cs x h
  obtain ⟨v,l,ds,rfl,h1,h2,h3⟩:=open_flat 6 (by omega) Tryz.underlying24 (by kernel_rfl) (fun (l:List St) ds=>okSs l∧StsC w (fun g=>g < w.heap.size) l ds) ⟨trivial,.nil⟩ (fun a b c d g1 g2=>⟨okSs_app g1.1 g2.1,g1.2.join g2.2⟩) (fun n cs y hn hy=>by
   obtain ⟨xs,m,rfl,-,hl,hlen,hf⟩:=DataW.trod_struct Tryz.underlying56 hy;have hl4:cs.length=6:=hl.trans (by kernel_rfl)
   match xs,hlen with
   | [y0,y1,y2,y3,y4,y5],_ =>
   match cs,hl4 with
   | [c0,c1,c2,c3,c4,c5],_ =>
   have g0:=hf 0 _ rfl;have g1:=hf 1 _ rfl;have g2:=hf 2 _ rfl;have g3:=hf 3 _ rfl;have g4:=hf 4 _ rfl;have g5:=hf 5 _ rfl;have k1:Tryz.prog.cellsOf 5 = 1:=by kernel_rfl
   have k2:Tryz.prog.cellsOf 3 = 1:=by kernel_rfl
   have k3:Tryz.prog.cellsOf 9 = 1:=by kernel_rfl
   have k4:Tryz.prog.cellsOf 27 = 1:=by kernel_rfl
   have k5:Tryz.prog.cellsOf 24 = 1:=by kernel_rfl
   simp [k1,k2,k3,k4,k5] at g0 g1 g2 g3 g4 g5;obtain ⟨op,e0,-,w0⟩:=DataW.trod_int Tryz.underlying5 g0;obtain ⟨a,e1,-,w1⟩:=DataW.trod_int Tryz.underlying3 g1;obtain ⟨s,e2,-,w2⟩:=DataW.trod_string Tryz.underlying9 g2;obtain ⟨va,es,e3,o3,ds3,q1,q2,q3⟩:=open_exs _ _ _ g3;obtain ⟨vb,body,e4,o4,ds4,p1,p2,p3⟩:=ih m (by omega) _ _ g4;obtain ⟨vl,els,e5,o5,ds5,r1,r2,r3⟩:=ih m (by omega) _ _ g5;cases e0;cases e1;cases e2;cases e3;cases e4;cases e5;refine ⟨.mk op a s.data.toList es body els,⟨⟨u8_okay w0,i64_okay w1,by rw [bstr_len];exact w2,o3,o4,o5⟩,trivial⟩,?_⟩;have:=StsC.cons (w:=w) (P:=fun g=>g < w.heap.size) (op:=op) (n:=a) (name:=s.data.toList) q1 q2 q3 p1 p2 p3 r1 r2 r3 .nil
   rwa [bstr_from] at this) h
  exact ⟨v,l,rfl,h3.1,ds,h1,h2,h3.2⟩
theorem open_stmts {r:Reach} {b0:Nat} {v:Value} {d:DataW H} {p:List MemPlace}
  (hv:Value.okWide Tryz.prog w r b0 24 v) (h:DataW.Trod enc Tryz.prog w base spare held 24 v d p):∃ l,okSs l∧SsL w w.heap.size l v:=by
 obtain ⟨a,len,cap,rfl⟩:=okWide_slice Tryz.underlying24 hv;obtain ⟨fuel,hf⟩:=h;obtain ⟨v',l,e,ho,hs⟩:=open_sts fuel _ _ hf;simp [Value.cells] at e;subst e;exact ⟨l,ho,hs⟩
end Go.Proofs.YtoaojdobjinhfaaGreatDoor
namespace Go.Proofs.YtoaojdobjinhfaaGreatDoor
open Go.ChangeShapes Go.WideShapes Go.RowKit

theorem own:ownKnob Tryz.prog.godebug=none:=by kernel_rfl
theorem laidOut:laidOutB Tryz.prog=true:=by kernel_rfl
def laidL : List (String × DataW Unit) := Rows.parseTellsRow.laid
theorem powL:(Rows.laid_internal_strconv_uint64pow10:DataW Unit)=Lib.tabData .u64 Lib.pow10Tab:=by kernel_rfl
theorem spaceL:(Rows.laid_strings_asciiSpace:DataW Unit)=Lib.tabData .u8 spaceTab:=by kernel_rfl
theorem iface_head {P:Program} {n nm:String} {d:DataW Unit} {r:List (String × DataW Unit)} {W:World} {g:Nat} {ti:TypeId} {ms:Array (String × TypeId)}
  (h:laidMet P ((n,.iface nm d) :: r) W) (hg:P.globalNamed n=some g) (ht:(P.globals[g]?).map (·.type)=some ti) (hi:P.underlying ti=some (.interface ms)) :
  ∃ tp p,W.var? P n=some #[.iface tp p]:=by
 obtain ⟨ps,⟨g0,t0,cs0,f0,p0,q0,hg0,ht0,hv0,hd0,_,e0⟩,_,hrows⟩:=h;obtain rfl:=Option.some.inj (hg.symm.trans hg0);obtain rfl:=Option.some.inj (ht.symm.trans ht0);obtain ⟨l0⟩:=cs0;obtain ⟨f1,u,v,e,_⟩:=iface_of_trod hi hd0;have e':l0=[.iface u v]:=e;subst e';exact ⟨u,v,hv0⟩
theorem block_of_var {P:Program} {W:World} {n:String} {g:Nat} {v:Value} {vs:List Value} (hg:P.globalNamed n=some g) (h:W.var? P n=some (v :: vs).toArray):g < W.heap.size:=by
 have:=World.var?_cell hg h 0;have h1:W.cell? ⟨g,0,none⟩=some v:=by simpa using this
 exact World.block_lt_of_cell? W _ h1
theorem glob_of_laid {W:World} (h:laidMetH Tryz.prog laidL W):Glob W:=by
 rw [MakeChecks.laidMetH_plain _ _ _ (by kernel_rfl)] at h
 have h2 : laidMet Tryz.prog (("internal/strconv.uint64pow10", Rows.laid_internal_strconv_uint64pow10) :: _) W := h.tail.tail
 have h4 : laidMet Tryz.prog (("strconv.ErrRange", Rows.laid_strconv_ErrRange) :: _) W := h2.tail.tail
 have h5 : laidMet Tryz.prog (("strconv.ErrSyntax", Rows.laid_strconv_ErrSyntax) :: _) W := h4.tail
 have h7 : laidMet Tryz.prog (("strings.asciiSpace", Rows.laid_strings_asciiSpace) :: _) W := h5.tail.tail
 rw [powL] at h2;rw [spaceL] at h7;have k1:=Lib.tabIs_of_head gl1 (by kernel_rfl) Tryz.underlying209 Tryz.underlying180 (by kernel_rfl) (by kernel_rfl) h2;have k0:=Lib.tabIs_of_head gl0 (by kernel_rfl) Tryz.underlying160 Tryz.underlying5 (by kernel_rfl) (by kernel_rfl) h7;obtain ⟨a,b,k3⟩:=iface_head h4 gl3 (by kernel_rfl) Tryz.underlying103;obtain ⟨c,d,k2⟩:=iface_head h5 gl2 (by kernel_rfl) Tryz.underlying103;have b0:=block_of_var (v:=.int .u8 0) (vs:=(spaceTab.map fun z=>Value.int .u8 z).tail) gl0 k0;have b1:=block_of_var (v:=.int .u64 1) (vs:=(Lib.pow10Tab.map fun z=>Value.int .u64 z).tail) gl1 k1;have b2:=block_of_var (vs:=[]) gl2 k2;have b3:=block_of_var (vs:=[]) gl3 k3;exact ⟨Nat.succ_le_of_lt (by omega),k0,k1,⟨c,d,k2⟩,⟨a,b,k3⟩⟩
theorem met_laid (os:Os) (args:Array Value):laidMetH Tryz.prog laidL ((World.laidAll Tryz.prog os laidL).forCall (fun _ _=>0) ⟨#[],args,[]⟩).memory:=by
 rw [MakeChecks.laidMetH_plain _ _ _ (by kernel_rfl)];exact laidMet_laidAll _ (by kernel_rfl) (by kernel_rfl)
end Go.Proofs.YtoaojdobjinhfaaGreatDoor
namespace Go.Proofs.YtoaojdobjinhfaaGreatDoor
open Go.ChangeShapes Go.WideShapes Go.RowKit

theorem add_none (b off k:Nat):(⟨b,off,none⟩:Addr).add k=⟨b,off+k,none⟩:=by
 unfold Addr.add;split
 ·next h=>rw [h,Nat.add_zero]
 ·rfl
theorem bstr_back (s:ByteArray):bstr s.data.toList=s:=by cases s;unfold bstr;simp
theorem tok_of {H:Type} {enc:TypeId × Value→H} {w:World} {base:Nat} {spare:Nat→Bool} {held:Bool} {n:Nat} {v0 v1 v2 v3 v4:Value} {y0 y1 y2 y3 y4:DataW H × List MemPlace}
  (h0:DataW.trod enc Tryz.prog w base spare held n 5 [v0]=some y0) (h1:DataW.trod enc Tryz.prog w base spare held n 9 [v1]=some y1)
  (h2:DataW.trod enc Tryz.prog w base spare held n 3 [v2]=some y2) (h3:DataW.trod enc Tryz.prog w base spare held n 3 [v3]=some y3) (h4:DataW.trod enc Tryz.prog w base spare held n 3 [v4]=some y4) :
  ∃ t:Tok,[v0,v1,v2,v3,v4]=t.cells:=by
 obtain ⟨k,e0,_,_⟩:=DataW.trod_int Tryz.underlying5 h0;obtain ⟨s,e1,_,hs⟩:=DataW.trod_string Tryz.underlying9 h1;obtain ⟨a,e2,_,_⟩:=DataW.trod_int Tryz.underlying3 h2;obtain ⟨b,e3,_,_⟩:=DataW.trod_int Tryz.underlying3 h3;obtain ⟨c,e4,_,_⟩:=DataW.trod_int Tryz.underlying3 h4;cases e0;cases e1;cases e2;cases e3;cases e4;exact ⟨⟨k,s.data.toList,a,b,c⟩,by simp [Tok.cells,bstr_back]⟩
theorem each {α β:Type} [Inhabited α] (m:Nat) (R:Nat→List β→Prop) (f:α→List β) (hR:∀ i,i < m→∃ s,R i (f s)) :
  ∃ l:List α,l.length=m∧∀ i (h:i < l.length),R i (f l[i]):=by
 let g:Nat→α:=fun i=>if h:i < m then (hR i h).choose else default
 have hg:∀ i,i < m→R i (f (g i)):=fun i h=>by
  simp only [g,dif_pos h];exact (hR i h).choose_spec
 refine ⟨(List.range m).map g,by simp,?_⟩;intro i hi;have hi':i < m:=by simpa using hi
 simpa using hg i hi'
instance : Inhabited Tok := ⟨⟨0, [], 0, 0, 0⟩⟩
set_option maxRecDepth 100000 in
theorem open_toks {H:Type} {enc:TypeId × Value→H} {w:World} {base:Nat} {spare:Nat→Bool} {held:Bool} {r:Reach} {b0:Nat} {v:Value} {d:DataW H} {p:List MemPlace}
  (hv:Value.okWide Tryz.prog w r b0 45 v) (h:DataW.Trod enc Tryz.prog w base spare held 45 v d p):∃ l:List Tok,Toks w l v∧l.length≤9223372036854775807:=by
 obtain ⟨a,len,cap,rfl⟩:=okWide_slice Tryz.underlying45 hv;obtain ⟨fuel,hf⟩:=h;have c5:Tryz.prog.cellsOf 51 = 5:=by kernel_rfl
 rcases Go.Deep.open_slice Tryz.underlying45 hf with ⟨hcs,_⟩ | ⟨x,l,c,m,n,D,Pl,hcs,_,hl,hm,hmm,_,hx⟩
 ·simp [Value.cells] at hcs;obtain ⟨rfl,rfl,rfl⟩:=hcs;exact ⟨[],Sl.nil w 5,by simp⟩
 ·simp [Value.cells] at hcs;obtain ⟨rfl,rfl,rfl⟩:=hcs;have hlm:len≤m:=by rw [hmm];split <;> omega
  have key:∀ i,i < len→∃ s:Tok,∀ j,j < 5→w.cell? ((x.add (i * 5)).add j)=s.cells[j]?:=by
   intro i hi;obtain ⟨cs',hc,ht⟩:=hx i (by omega);rw [c5] at hc;obtain ⟨_,hlen,hcell⟩:=World.cells?_some hc;obtain ⟨xs,n',_,_,_,hxl,hel⟩:=DataW.trod_struct Tryz.underlying51 ht
   match cs',hlen,xs,hxl with
   | [v0,v1,v2,v3,v4],_,[y0,y1,y2,y3,y4],_ =>
    obtain ⟨s,hs⟩:=tok_of (v0:=v0) (v1:=v1) (v2:=v2) (v3:=v3) (v4:=v4) (hel 0 _ rfl) (hel 1 _ rfl) (hel 2 _ rfl) (hel 3 _ rfl) (hel 4 _ rfl);rw [hs] at hcell;exact ⟨s,hcell⟩
  obtain ⟨l,hl',hr⟩:=each (f:=Tok.cells) len (fun i cs=>∀ j,j < 5→w.cell? ((x.add (i * 5)).add j)=cs[j]?) key;subst hl';refine ⟨l,⟨some x,cap,rfl,hl,hm,flat_len _ 5 (fun _=>rfl) l,fun h0=>?_⟩,by have:maxLen=9223372036854775807:=rfl;omega⟩;obtain ⟨b,off,spot⟩:=x;have e0:=hr 0 h0 0 (by omega)
  have hs:spot=none:=by
   have:w.cell? ⟨b,off,spot⟩=some (.int .u8 (l[0]'h0).kind):=by simpa [Addr.add,Tok.cells] using e0
   exact World.cell?_spot this
  subst hs;refine ⟨b,off,rfl,fun j hj=>?_⟩;have:=hr (j / 5) (by omega) (j % 5) (by omega);rw [← flat_cell Tok.cells 5 (fun _=>rfl) l (j / 5) (by omega) (j % 5) (by omega)] at this;have e:j / 5 * 5+j % 5=j:=by omega
  rw [e] at this;rw [← this];have e2:off+j=off+j / 5 * 5+j % 5:=by omega
  rw [e2,add_none,add_none]
end Go.Proofs.YtoaojdobjinhfaaGreatDoor
