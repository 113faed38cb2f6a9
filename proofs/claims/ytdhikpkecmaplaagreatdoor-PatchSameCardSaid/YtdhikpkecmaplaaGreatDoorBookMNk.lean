/- The patches of a book: when they are right, put in, taken out, applied; R tells which source is right for which slot. Plain mathematics. -/
import Derived.Test.YtdhikpkecmaplaaGreatDoorBackMNk
import Derived.Test.YtdhikpkecmaplaaGreatDoorTransWMk
set_option linter.unusedSimpArgs false
set_option linter.unusedVariables false
set_option maxRecDepth 100000
set_option maxHeartbeats 1000000
namespace Go.Proofs.YtdhikpkecmaplaaGreatDoor
theorem pg_behind {mx:Int} {n:Nat} {R:Int->List UInt8->Bool} {last t:Int} {l:List Pt} (h:PG mx n R last [] l):PG mx n R (t+1) [] (znZ t l):=by
 obtain ⟨h1,h2⟩:=h;have hs:(znZ t l).Sublist l:=List.dropWhile_sublist _;refine ⟨fun x hx=>?_,h2.sublist hs⟩;obtain ⟨-,a2,a3,a4,a5,-⟩:=h1 x (hs.subset hx);exact ⟨by have:=zrR h2 x hx;omega,a2,a3,a4,a5,fun y hy=>by cases hy⟩
theorem apply_right {R:Int->List UInt8->Bool}:∀ (l:List Pt) (scr:List (List UInt8)),(∀ p ∈ l,0<=p.slot/\R p.slot p.src=true)->(∀ (i:Nat) (x:List UInt8),scr[i]? = some x->R i x=true)->∀ (i:Nat) (x:List UInt8),(zn4 scr l)[i]? = some x->R i x=true:=by
 intro l
 induction l with
 | nil=>intro scr _ h;exact h
 | cons p r ih =>
  intro scr hp h;refine ih (scr.set p.slot.toNat p.src) (fun q hq=>hp q (List.mem_cons_of_mem _ hq)) fun i x hx=>?_
  obtain ⟨h0,h1⟩:=hp p (by simp);by_cases e:p.slot.toNat=i
  ·subst e;rw [List.getElem?_set_self'] at hx
   cases hs:scr[p.slot.toNat]? with
   | none=>rw [hs] at hx;cases hx
   | some y =>
    rw [hs] at hx;cases hx;rw [show ((p.slot.toNat:Nat):Int)=p.slot by omega];exact h1
  ·rw [List.getElem?_set_ne e] at hx;exact h i x hx
theorem adv_valid {base:Nat->Bool} {R:Int->List UInt8->Bool} {b:Bk} {t:Int} (h:VB base R b) (h0:b.tick<=t) (h1:t<=1073741824):VB base R (advB t b):=by
 have hd:(znZ t b.pend).Sublist b.pend:=List.dropWhile_sublist _;have hu:(upTo t b.pend).Sublist b.pend:=List.takeWhile_sublist _;refine ⟨by show 0<=t;have:=h.lo;omega,h1,?_,?_,yT hd.length_le h.room,?_,?_⟩
 ·show base (zn4 _ _).length=true;rw [zpz];exact h.sys
 ·show (zn4 _ _).length<=16;rw [zpz];exact h.many
 ·exact apply_right _ _ (fun p hp=>by obtain ⟨-,-,a3,-,a5,-⟩:=h.pend.1 p (hu.subset hp);exact ⟨a3,a5⟩) h.scr
 ·show PG _ (zn4 _ _).length R (t+1) [] _;rw [zpz];exact pg_behind h.pend
open Go.RowKit

def ProgS.cells (p : ProgS) (vc : Value) : List Value := [vc, .int .i64 p.locals, .int .u32 (w32 p.reads), .int .u32 (w32 p.writes)]

def eqI (x y : InsS) : Bool := (x.op == y.op) && (x.a == y.a)
theorem eqI_iff (x y:InsS):eqI x y=true ↔ x=y:=by
 unfold eqI;rw [yC,beq_iff_eq,beq_iff_eq];cases x;cases y;simp
def sameC (a b : znA) : Bool := decide (a.length = b.length) && (a.zip b).all fun z => eqI z.1 z.2
theorem sameC_iff (a b:znA):sameC a b=true ↔ a=b:=by
 unfold sameC;rw [yC,yQ,List.all_eq_true];constructor
 ·rintro ⟨h1,h2⟩;apply List.ext_getElem h1;intro i h3 h4
  have h5:(a[i],b[i]) ∈ a.zip b:=by
   have:(a.zip b)[i]'(by rw [List.length_zip];omega)=(a[i],b[i]):=List.getElem_zip;rw [<- this];exact List.getElem_mem _
  exact (eqI_iff _ _).1 (h2 _ h5)
 ·rintro rfl;refine ⟨rfl,fun z hz=>?_⟩
  have key:∀ (l:znA) (z:InsS × InsS),z ∈ l.zip l->z.1=z.2:=by
   intro l
   induction l with
   | nil=>intro z h;simp at h
   | cons x l ih =>
    intro z h;rw [List.zip_cons_cons,List.mem_cons] at h;rcases h with rfl | h
    ·rfl
    ·exact ih z h
  exact (eqI_iff _ _).2 (key a z hz)
theorem sameCode_any (a b:znA) (va vb:Value) (w:World) (hA:SlC w a va) (hB:SlC w b vb) (hla:a.length<=1000000) (hlb:b.length<=1000000) :
  Calls Tryz.prog 73 #[va,vb] w (zbe (sameC a b) w):=by
 obtain ⟨aa,ca,rfl,_,_⟩:=Sl.form hA;obtain ⟨ab,cb,rfl,_,_⟩:=Sl.form hB;have HA:=zh hA;have HB:=zh hB;obtain ⟨final,hfin⟩:∃ r,sameC a b=r:=⟨_,rfl⟩;have HF:Hid (final=sameC a b):=zh hfin.symm;rw [hfin];clear hA hB hfin;by_cases hne:a.length=b.length
 ·have hnb:((a.length:Int) != (b.length:Int))=false:=by simp [hne]
  have Hne:=zh hne;have hlab:b.length<=a.length:=by omega
  have hlba:a.length<=b.length:=by omega
  clear hne;go_enter Tryz.func73,Tryz.ntmps73
  go_wp2_with fail
  go_loopw [4,5,11,12,13,14,15,16,17,18,19,20,21,22,23,24,25] (fun _ t5 _ _ _ _ _ _ _ _ _ _ _ _ _ _ _ wr=>∃ k:Nat,k<=a.length/\t5=.int .i64 k/\Hid (∀ j,j < k->a[j]? = b[j]?)/\Hid (Below w.heap.size w wr)) (fun _ t5 _ _ _ _ _ _ _ _ _ _ _ _ _ _ _ _=>a.length - (intOf t5).toNat)
  case atStart=>exact ⟨0,by omega,by first | rfl | go_num,zh (fun j hj=>by omega),zh (yR _ _)⟩
  case round =>
   obtain ⟨k,hk,rfl,HE,Hb⟩:=hrel;by_cases hkl:k < a.length
   ·have hki:(k:Int) < (a.length:Int):=by omega
    have hkb:k < b.length:=by omega
    obtain ⟨g,off,rfl,hgw,c0,c1⟩:=(HA.out.below Hb.out).at hkl;obtain ⟨g2,off2,rfl,hgw2,d0,d1⟩:=(HB.out.below Hb.out).at hkb;have Ha:Hid (a[k]? = some a[k]):=zh (yD hkl);have Hb2:Hid (b[k]? = some b[k]):=zh (yD hkb)
    generalize a[k]=x at *
    generalize b[k]=y at *
    have hw2:=Hb.out.size;obtain ⟨xo,xa⟩:=x;obtain ⟨yo,ya⟩:=y;obtain ⟨p1,hp1⟩:∃ p:Bool,(xo == yo)=p:=⟨_,rfl⟩;obtain ⟨p2,hp2⟩:∃ p:Bool,(xa == ya)=p:=⟨_,rfl⟩
    have Hxy:Hid ((p1 && p2)=true ↔ a[k]? = b[k]?):=zh (by
     rw [Ha.out,Hb2.out,yC,<- hp1,<- hp2,beq_iff_eq,beq_iff_eq,Option.some.injEq,InsS.mk.injEq])
    have Hno:Hid (¬ (p1 && p2)=true->final=false):=zh (fun h=>by
     rw [HF.out,Bool.eq_false_iff];intro h2;rw [sameC_iff] at h2
     exact h (Hxy.out.2 (by rw [h2])))
    clear Ha Hb2;cases p1 <;> cases p2
    all_goals
     go_wp2_with fail
     refine zac (DrewOf _) (by kernel_rfl) (by kernel_rfl) (DrewOf.start _) ?_
     repeat
      try simp only [Act.put,zs1,zs3,zs2]
      apply stepsSeq.cons
      ·rintro w' ⟨nq,rfl⟩;simp only [Act.put,zs1,zs3,zs2];go_wp2_with (fail)
       first | exact ⟨rfl,nq,rfl⟩ | exact ⟨rfl,nq,(World.drewN_drewN _ _ _).symm⟩ | exact ⟨rfl,nq,by simp⟩
     try simp only [Act.put,zs1,zs3,zs2]
     refine stepsSeq.nil ?_;rintro w' ⟨nq,rfl⟩;go_wp2_with fail
    rotate_right
    ·go_roundw
     case rel=>exact ⟨k+1,by omega,by go_num,zh (fun j hj=>by
      by_cases e:j=k
      ·rw [e];exact Hxy.out.1 rfl
      ·exact HE.out j (by omega)),zh (Go.Proofs.YtdhikpkecmaplaaGreatDoor.Below.drewN Hb.out _)⟩
     case measure=>simp [intOf];omega
    all_goals
     go_ret;exact ⟨by rw [Hno.out (by decide)];rfl,Go.Proofs.YtdhikpkecmaplaaGreatDoor.Below.drewN Hb.out _⟩
   ·have hki:¬ (k:Int) < (a.length:Int):=by omega
    have hke:k=a.length:=by omega
    have Hf:Hid (final=true):=zh (by
     rw [HF.out,sameC_iff];apply List.ext_getElem? fun j=>?_
     by_cases hj:j < a.length
     ·exact HE.out j (by omega)
     ·rw [List.getElem?_eq_none (by omega),List.getElem?_eq_none (by omega)])
    clear hke;go_wp2_with fail
    go_ret;exact ⟨by rw [Hf.out];rfl,Hb.out⟩
 ·have hnb:((a.length:Int) != (b.length:Int))=true:=by simp;omega
  have Hf:Hid (final=false):=zh (by
   rw [HF.out,Bool.eq_false_iff];intro h;rw [sameC_iff] at h
   exact hne (by rw [h]))
  go_enter Tryz.func73,Tryz.ntmps73
  go_wp2_with fail
  go_ret;exact ⟨by rw [Hf.out];rfl,yR _ _⟩
theorem same_any (p q:ProgS) (va vb:Value) (w:World) (hA:SlC w p.code va) (hB:SlC w q.code vb) (hla:p.code.length<=1000000) (hlb:q.code.length<=1000000) :
  Calls Tryz.prog 29 #[zow p va,zow q vb] w (zbe (sameC p.code q.code && (decide (p.locals=q.locals) && (decide (p.reads=q.reads) && decide (p.writes=q.writes)))) w):=by
 obtain ⟨aa,ca,rfl,_,_⟩:=Sl.form hA;obtain ⟨ab,cb,rfl,_,_⟩:=Sl.form hB;obtain ⟨W1,hW1,hX1,hb1⟩:∃ W1,W1=w.alloc (.cells #[.slice aa p.code.length ca,.int .i64 p.locals,.int .u32 (w32 p.reads),.int .u32 (w32 p.writes)] 59)/\OwnV W1 w.heap.size 59 (p.cells (.slice aa p.code.length ca))/\Below w.heap.size w W1:=⟨_,rfl,OwnV.new _ _ _,(yR _ _).alloc (zr _) _⟩;obtain ⟨W2,hW2,hX2,hb2⟩:∃ W2,W2=W1.alloc (.cells #[.slice ab q.code.length cb,.int .i64 q.locals,.int .u32 (w32 q.reads),.int .u32 (w32 q.writes)] 59)/\OwnV W2 W1.heap.size 59 (q.cells (.slice ab q.code.length cb))/\Below W1.heap.size W1 W2:=⟨_,rfl,OwnV.new _ _ _,(yR _ _).alloc (zr _) _⟩;have hb:=hb1.trans (hb2.mono hb1.size);have HS:=zh (sameCode_any p.code q.code _ _ W2 (hA.below hb) (hB.below hb) hla hlb);have HX1:=zh (hX1.below hb2 (zr _));have HX2:=zh hX2;have Hb:=zh hb;have HW1:=zh hW1;have HW2:=zh hW2;have hs:=hb.size;have hsz1:W1.heap.size=w.heap.size+1:=by rw [hW1];simp
 have Hsz:=zh hsz1;obtain ⟨q0,hq0⟩:∃ q0,sameC p.code q.code=q0:=⟨_,rfl⟩;rw [hq0] at HS ⊢;obtain ⟨q1,hq1⟩:∃ q1:Bool,(p.locals == q.locals)=q1:=⟨_,rfl⟩;obtain ⟨q2,hq2⟩:∃ q2:Bool,(w32 p.reads == w32 q.reads)=q2:=⟨_,rfl⟩;obtain ⟨q3,hq3⟩:∃ q3:Bool,(w32 p.writes == w32 q.writes)=q3:=⟨_,rfl⟩
 have w32i:∀ x y:BitVec 32,(w32 x == w32 y)=decide (x=y):=fun x y=>by
  rw [Bool.eq_iff_iff,beq_iff_eq,yQ];unfold w32;exact ⟨fun h=>BitVec.eq_of_toNat_eq (by omega),fun h=>by rw [h]⟩
 have HR:Hid ((q0 && (decide (p.locals=q.locals) && (decide (p.reads=q.reads) && decide (p.writes=q.writes))))=(q0 && (q1 && (q2 && q3)))):=zh (by
  rw [<- hq1,<- hq2,<- hq3,w32i,w32i]
  congr 2)
 rw [HR.out];have x0:=HX1.out.cell (i:=0) (v:=.slice aa p.code.length ca) rfl;have y0:=HX2.out.cell (i:=0) (v:=.slice ab q.code.length cb) rfl;unfold zow;clear hA hB hX1 hX2 hb1 hb2 hb hW1 hW2 hsz1 hq0 w32i HR;go_enter Tryz.func29,Tryz.ntmps29
 go_upto_region 1 with (fail)
 rw [<- HW1.out,<- HW2.out,<- Hsz.out];go_wp2_with fail
 refine HS.out.mono ?_;rintro e2 w2 ⟨rfl,hb2⟩;have HX1b:=zh (HX1.out.below hb2 (zr _));have HX2b:=zh (HX2.out.below hb2 (zr _));have x1:=HX1b.out.cell (i:=1) (v:=.int .i64 p.locals) rfl;have x2:=HX1b.out.cell (i:=2) (v:=.int .u32 (w32 p.reads)) rfl;have x3:=HX1b.out.cell (i:=3) (v:=.int .u32 (w32 p.writes)) rfl;have y1:=HX2b.out.cell (i:=1) (v:=.int .i64 q.locals) rfl;have y2:=HX2b.out.cell (i:=2) (v:=.int .u32 (w32 q.reads)) rfl;have y3:=HX2b.out.cell (i:=3) (v:=.int .u32 (w32 q.writes)) rfl;have Hb2:=zh (Hb.out.trans (hb2.mono hs));clear hb2 x0 y0;cases q0 <;> cases q1 <;> cases q2 <;> cases q3
 all_goals
  go_wp2_with fail
  go_ret;exact ⟨by rfl,Hb2.out⟩
def Pairs (w : World) (c : znA) (v : Value) : Prop := Sl w 2 c.length (c.flatMap fun i => [.int .i64 i.op, .int .i64 i.a]) v
theorem Pairs.at {w:World} {c:znA} {a:Option Addr} {m cap:Nat} (h:Pairs w c (.slice a m cap)) {k:Nat} (hk:k < c.length) :
  ∃ b off,a=some ⟨b,off,none⟩/\b < w.heap.size/\w.cell? ⟨b,off+k * 2,none⟩=some (.int .i64 c[k].op)/\w.cell? ⟨b,off+k * 2+1,none⟩=some (.int .i64 c[k].a):=by
 obtain ⟨b,off,rfl,hlt,hc⟩:=Sl.at (by omega) h (by omega);refine ⟨b,off,rfl,hlt,?_,?_⟩
 ·have:=hc (k * 2+0) (by omega);rw [zeW (fun i:InsS=>[Value.int .i64 i.op,.int .i64 i.a]) 2 (fun _=>rfl) c k hk 0 (by omega)] at this;exact this
 ·have:=hc (k * 2+1) (by omega);rw [zeW (fun i:InsS=>[Value.int .i64 i.op,.int .i64 i.a]) 2 (fun _=>rfl) c k hk 1 (by omega)] at this;rw [Nat.add_assoc];exact this
end Go.Proofs.YtdhikpkecmaplaaGreatDoor
