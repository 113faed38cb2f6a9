/- What comes in, opened: a list of statements. -/
import Derived.Test.YtoaojdobjinhfaaGreatDoorRegionS
import Derived.Test.YtoaojdobjinhfaaGreatDoorTreeOC
set_option linter.unusedSimpArgs false
set_option linter.unusedVariables false
set_option maxRecDepth 100000
set_option maxHeartbeats 1000000
namespace Go.Proofs.YtoaojdobjinhfaaGreatDoor
open Go.ChangeShapes Go.WideShapes Go.RowKit
set_option maxRecDepth 100000

theorem ExsC.join {w:World} {P:Nat→Prop} {xs ys:List Ex} {cs ds:List Value} (h:ExsC w P xs cs) (g:ExsC w P ys ds):ExsC w P (xs++ys) (cs++ds):=by
 induction h with
 | nil=>exact g
 | cons h1 h2 h3 _ _ ih=>exact .cons h1 h2 h3 ih
theorem StsC.join {w:World} {P:Nat→Prop} {xs ys:List St} {cs ds:List Value} (h:StsC w P xs cs) (g:StsC w P ys ds):StsC w P (xs++ys) (cs++ds):=by
 induction h with
 | nil=>exact g
 | cons h1 h2 h3 b1 b2 b3 l1 l2 l3 _ _ _ ih=>exact .cons h1 h2 h3 b1 b2 b3 l1 l2 l3 ih
theorem zmR (b off k:Nat):(⟨b,off,none⟩:Addr).add k=⟨b,off+k,none⟩:=by
 unfold Addr.add;split
 ·next h=>rw [h,Nat.add_zero]
 ·rfl
theorem zlZ {H:Type} {enc:TypeId × Value→H} {P:Program} {w:World} {base:Nat} {spare:Nat→Bool} {held:Bool} {fuel:Nat} {t e:TypeId} {cs:List Value} {x:DataW H × List MemPlace} {α:Type} (sz:Nat) (hsz:0 < sz)
  (ht:P.underlying t=some (.slice e)) (hc:P.cellsOf e=sz) (R:List α→List Value→Prop) (r0:R [] []) (rj:∀ a b c d,R a b→R c d→R (a++c) (b++d))
  (el:∀ n cs y,n < fuel→DataW.trod enc P w base spare held n e cs=some y→∃ a,R [a] cs) (h:DataW.trod enc P w base spare held fuel t cs=some x) :
  ∃ v l ds,cs=[v]∧Sl w sz l.length ds v∧(l.length=0∨∀ g,v.ownBlock=some g→g < w.heap.size)∧R l ds:=by
 rcases DataW.trod_slice ht h with ⟨rfl,-⟩ | ⟨a,len,cap,elems,rest,n,rfl,rfl,-,hb,hl,hm,hlen,hel,-,-⟩
 ·exact ⟨_,[],[],rfl,Sl.nil w sz,.inl rfl,r0⟩
 ·rw [hc] at hel
  have key:∀ k,k≤len→∃ l ds,l.length=k∧ds.length=k * sz∧R l ds∧∀ j,j < k * sz→w.cell? (a.add j)=ds[j]?:=by
   intro k
   induction k with
   | zero=>intro _;exact ⟨[],[],rfl,by simp,r0,fun j hj=>by omega⟩
   | succ k ih =>
    intro hk;obtain ⟨l,ds,hl1,hd1,hr,hcell⟩:=ih (by omega);have:=hel k (by omega);rw [List.getElem?_eq_getElem (by omega)] at this;obtain ⟨cs',h1,h2⟩:=Option.bind_eq_some_iff.1 this;obtain ⟨_,hlen',hcell'⟩:=World.cells?_some h1;obtain ⟨z,hz⟩:=el n cs' _ (Nat.lt_succ_self n) h2;refine ⟨l++[z],ds++cs',by simp [hl1],by rw [List.length_append,hd1,hlen',Nat.succ_mul],rj _ _ _ _ hr hz,fun j hj=>?_⟩;rw [Nat.succ_mul] at hj;by_cases hj1:j < k * sz
    ·rw [List.getElem?_append_left (by omega)];exact hcell j hj1
    ·have:=hcell' (j - k * sz) (by omega);rw [Go.Deep.add_add,show k * sz+(j - k * sz)=j by omega] at this;rw [this,List.getElem?_append_right (by omega),hd1]
  obtain ⟨l,ds,rfl,hd,hr,hcell⟩:=key len (zr _)
  have hlow:0 < l.length→a.spot=none∧a.block < w.heap.size:=by
   intro h0;have hpos:0 < l.length * sz:=Nat.mul_pos h0 hsz;have e0:=hcell 0 hpos;rw [List.getElem?_eq_getElem (by omega)] at e0;have e1:a.add 0=a:=by cases a;simp [Addr.add]
   rw [e1] at e0;exact ⟨World.cell?_spot e0,World.block_lt_of_cell? _ _ e0⟩
  refine ⟨_,l,ds,rfl,⟨some a,cap,rfl,hl,hm,hd,fun h0=>?_⟩,?_,hr⟩
  ·obtain ⟨hs,-⟩:=hlow h0;obtain ⟨b,off,spot⟩:=a;cases hs;refine ⟨b,off,rfl,fun j hj=>?_⟩;rw [← zmR];exact hcell j hj
  ·rcases Nat.eq_zero_or_pos l.length with h0 | h0
   ·exact .inl h0
   ·right;intro g hg;obtain ⟨hs,hlt⟩:=hlow h0;obtain ⟨b,off,spot⟩:=a;cases hs;cases hg;exact hlt
theorem zjM {n:Int} (h:(Lit.int .u8 n).wf=true):0≤n∧n≤255:=by
 simpa [Lit.wf,IntKind.min,IntKind.max,IntKind.signed,IntKind.bits] using h
theorem ziQ {n:Int} (h:(Lit.int .i64 n).wf=true):okI n:=by
 simp [Lit.wf,IntKind.min,IntKind.max,IntKind.signed,IntKind.bits] at h;unfold okI;omega
theorem zhm (s:ByteArray):bstr s.data.toList=s:=by cases s;unfold bstr;simp
theorem ziR (s:ByteArray):s.data.toList.length=s.size:=rfl
theorem zmS {xs ys:List Ex} (h:okEs xs) (g:okEs ys):okEs (xs++ys):=by
 induction xs with
 | nil=>exact g
 | cons x r ih=>exact ⟨h.1,ih h.2⟩
variable {H : Type} {enc : TypeId × Value → H} {w : World} {base : Nat} {spare : Nat → Bool} {held : Bool}
theorem zmT:∀ (fuel:Nat) (cs:List Value) (x:DataW H × List MemPlace),DataW.trod enc Tryz.prog w base spare held fuel 27 cs=some x →
  ∃ v l,cs=[v]∧okEs l∧EsL w w.heap.size l v:=by
 intro fuel
 induction fuel using Nat.strongRecOn with
 | _ fuel ih =>
  intro cs x h
  obtain ⟨v,l,ds,rfl,h1,h2,h3⟩:=zlZ 4 (by omega) Tryz.underlying27 (by kernel_rfl) (fun (l:List Ex) ds=>okEs l∧ExsC w (fun g=>g < w.heap.size) l ds) ⟨trivial,.nil⟩ (fun a b c d g1 g2=>⟨zmS g1.1 g2.1,g1.2.join g2.2⟩) (fun n cs y hn hy=>by
   obtain ⟨xs,m,rfl,-,hl,hlen,hf⟩:=DataW.trod_struct Tryz.underlying29 hy;have hl4:cs.length=4:=hl.trans (by kernel_rfl)
   match xs,hlen with
   | [y0,y1,y2,y3],_ =>
   match cs,hl4 with
   | [c0,c1,c2,c3],_ =>
   have g0:=hf 0 _ rfl;have g1:=hf 1 _ rfl;have g2:=hf 2 _ rfl;have g3:=hf 3 _ rfl;have k1:Tryz.prog.cellsOf 5 = 1:=by kernel_rfl
   have k2:Tryz.prog.cellsOf 3 = 1:=by kernel_rfl
   have k3:Tryz.prog.cellsOf 9 = 1:=by kernel_rfl
   have k4:Tryz.prog.cellsOf 27 = 1:=by kernel_rfl
   simp [k1,k2,k3,k4] at g0 g1 g2 g3;obtain ⟨op,e0,-,w0⟩:=DataW.trod_int Tryz.underlying5 g0;obtain ⟨a,e1,-,w1⟩:=DataW.trod_int Tryz.underlying3 g1;obtain ⟨s,e2,-,w2⟩:=DataW.trod_string Tryz.underlying9 g2;obtain ⟨va,args,e3,o3,ds3,q1,q2,q3⟩:=ih m (by omega) _ _ g3;cases e0;cases e1;cases e2;cases e3;refine ⟨.mk op a s.data.toList args,⟨⟨zjM w0,ziQ w1,by rw [ziR];exact w2,o3⟩,trivial⟩,?_⟩;have:=ExsC.cons (w:=w) (P:=fun g=>g < w.heap.size) (op:=op) (n:=a) (name:=s.data.toList) q1 q2 q3 .nil
   rwa [zhm] at this) h
  exact ⟨v,l,rfl,h3.1,ds,h1,h2,h3.2⟩
theorem laidOut:laidOutB Tryz.prog=true:=by kernel_rfl
open Go.RowKit

theorem zkW (l:List UInt8):(bstr l).size=l.length:=by simp [bstr,ByteArray.size]
theorem zl0:∀ (m:Nat) (op n:Int) (name:List UInt8) (args:List Ex) (v:Value) (w:World) (B left:Nat),szEs args < m→okE (.mk op n name args)→EsL w B args v→B≤w.heap.size→left≤1000 →
  Calls Tryz.prog 19 #[.agg #[.int .u8 op,.int .i64 n,.string (bstr name),v],.int .i64 left] w fun e w'=>(∃ r:Nat,e=.returned (.int .i64 r)∧1≤r∧r≤left+576460752303423488∧(r≤left→r=szE (.mk op n name args)))∧Below w.heap.size w w':=by
 intro m
 induction m with
 | zero=>intro op n name args v w B left h;omega
 | succ m ih =>
  intro op n name args v w B left hm hok hL hB hl;obtain ⟨a,cap,rfl,hc1,hc2⟩:=hL.form;have hnm:name.length≤9223372036854775807:=hok.2.2.1;have hoks:okEs args:=hok.2.2.2;obtain ⟨N,hN⟩:∃ N,(bstr name).size=N:=⟨_,rfl⟩;have hN2:N=name.length:=by rw [← hN,zkW]
  obtain ⟨M,hM⟩:∃ M:Nat,M=N / 30:=⟨_,rfl⟩;have hq:((N:Int).tdiv 30)=M:=by rw [hM,Int.tdiv_eq_ediv_of_nonneg (by omega)];omega
  have hMb:M≤307445734561825861:=by omega
  have Hs:Hid (szE (.mk op n name args)=1+M+szEs args):=zh (by rw [szE,hM,hN2]);have Hoks:=zh hoks;have HL:=zh hL;have Hm:=zh hm;obtain ⟨W1,hW1,hX1,hb1⟩:∃ W1,W1=w.alloc (.cells #[.int .u8 op,.int .i64 n,.string (bstr name),.slice a args.length cap] 29)∧OwnV W1 w.heap.size 29 [.int .u8 op,.int .i64 n,.string (bstr name),.slice a args.length cap]∧Below w.heap.size w W1:=⟨_,rfl,OwnV.new _ _ _,(Below.refl _ _).alloc (zr _) _⟩;have Hb1:=zh hb1;have HX1:=zh hX1;have x2:=hX1.cell (i:=2) rfl;clear hm hok hoks hL hnm hN2 hb1 hX1;go_enter Tryz.func19,Tryz.ntmps19
  go_wp2_with fail
  rw [← hW1];clear hW1;go_loopw [5,6,12,13,14,15,16,17,18,19,20,21,22,23,24,25,26,27,28,29,30,31,32,33,34] (fun t5 t6 _ _ _ _ _ _ _ _ _ _ _ _ _ _ _ _ _ _ _ _ _ _ _ wr=>∃ (k r:Nat),k≤args.length∧t6=.int .i64 k∧t5=.int .i64 r∧1≤r∧r≤left+576460752303423488∧Hid (r≤left→r=1+M+szEs (args.take k))∧Hid (Below W1.heap.size W1 wr)) (fun _ t6 _ _ _ _ _ _ _ _ _ _ _ _ _ _ _ _ _ _ _ _ _ _ _ _=>args.length - (intOf t6).toNat)
  case atStart=>exact ⟨0,1+M,by omega,by first | rfl | go_num,by first | rfl | go_num,by omega,by omega,zh (fun _=>by simp [szEs]),zh (Below.refl _ _)⟩
  case round =>
   obtain ⟨k,r,hk,rfl,rfl,hr1,hr2,HR,HB⟩:=hrel;have hx:=HX1.out.below HB.out (zr _);have hx3:=hx.cell (i:=3) rfl;by_cases hkl:k < args.length
   ·have hki:(k:Int) < (args.length:Int):=by omega
    have hcl:(args.length:Int)≤9223372036854775807:=by omega
    by_cases hrl:r≤left
    ·have hLr:EsL wr B args (.slice a args.length cap):=HL.out.low ((Hb1.out.mono hB).trans (HB.out.mono (Nat.le_trans hB Hb1.out.size)));obtain ⟨b,off,op2,n2,name2,args2,aa,ac,rfl,hbB,hbw,hat,c0,c1,c2,c3,hL2⟩:=hLr.at hkl;have HI:=zh (ih op2 n2 name2 args2 _ wr B (left - r) (by have:=zlL hat;have:=Hm.out;omega) (zgR Hoks.out hat) hL2 (Nat.le_trans hB (Nat.le_trans Hb1.out.size HB.out.size)) (by omega));have Hst:Hid (szEs (args.take (k+1))=szEs (args.take k)+szE (.mk op2 n2 name2 args2)):=zh (zhi hat)
     generalize szE (.mk op2 n2 name2 args2)=Z at *
     have hsub:(left:Int) - r=((left - r:Nat):Int):=by omega
     have hli:(r:Int)≤left:=by omega
     clear hx hLr hat hL2;go_wp2_with fail
     refine HI.out.mono ?_;rintro e2 w2 ⟨⟨r2,rfl,h1,h2,h3⟩,hb2⟩;have H3:=zh h3;have HB2:=zh (HB.out.trans (hb2.mono HB.out.size));clear h3 hb2;go_wp2_with fail
     go_roundw
     case rel=>exact ⟨k+1,r+r2,by omega,by go_num,by go_num,by omega,by omega,zh (fun h=>by have:=HR.out (by omega);have:=H3.out (by omega);have:=Hst.out;omega),HB2⟩
     case measure=>simp [intOf];omega
    ·have hli:¬ (r:Int)≤left:=by omega
     go_wp2_with fail
     go_ret;exact ⟨⟨r,rfl,hr1,hr2,fun h=>by omega⟩,Hb1.out.trans (HB.out.mono Hb1.out.size)⟩
   ·have hki:¬ (k:Int) < (args.length:Int):=by omega
    have hke:k=args.length:=by omega
    go_wp2_with fail
    go_ret;exact ⟨⟨r,rfl,hr1,hr2,fun h=>by have h2:=HR.out h;rw [hke,List.take_length] at h2;have:=Hs.out;omega⟩,Hb1.out.trans (HB.out.mono Hb1.out.size)⟩

theorem open_expr {H:Type} {enc:TypeId × Value→H} {w:World} {base:Nat} {spare:Nat→Bool} {held:Bool} {r:Reach} {b0:Nat} {v:Value} {d:DataW H} {p:List MemPlace}
  (hv:Value.okWide Tryz.prog w r b0 29 v) (h:DataW.Trod enc Tryz.prog w base spare held 29 v d p):∃ (op n:Int) (name:List UInt8) (args:List Ex) (va:Value),v=.agg #[.int .u8 op,.int .i64 n,.string (bstr name),va]∧okE (.mk op n name args)∧EsL w w.heap.size args va:=by
 obtain ⟨v0,v1,v2,v3,y0,y1,y2,y3,m,rfl,_,_,h0,h1,h2,h3⟩:=Joins.open_agg4 Tryz.underlying29 (by kernel_rfl) (by kernel_rfl) hv h;obtain ⟨op,e0,-,w0⟩:=DataW.trod_int Tryz.underlying5 h0;obtain ⟨a,e1,-,w1⟩:=DataW.trod_int Tryz.underlying3 h1;obtain ⟨s,e2,-,w2⟩:=DataW.trod_string Tryz.underlying9 h2;obtain ⟨va,args,e3,o3,hE⟩:=zmT _ _ _ h3;cases e0;cases e1;cases e2;cases e3;exact ⟨op,a,s.data.toList,args,_,by rw [zhm],⟨zjM w0,ziQ w1,by rw [ziR];exact w2,o3⟩,hE⟩
end Go.Proofs.YtoaojdobjinhfaaGreatDoor
