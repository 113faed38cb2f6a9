/- marcheslaw13: SameCode, Same, code, program, walked. -/
import Derived.Test.YtdeneckmoejcfaaPCompZs
import Derived.Test.YtdeneckmoejcfaaPSoundAZs
import Derived.Test.YtdeneckmoejcfaaRParRZs
set_option linter.unusedSimpArgs false
set_option linter.unusedVariables false
set_option maxRecDepth 100000
set_option maxHeartbeats 1000000
namespace Go.Proofs.Ytdeneckmoejcfaa
open Go.RowKit

def eqI (x y : InsS) : Bool := (x.op == y.op) && (x.a == y.a)
theorem eqI_iff (x y:InsS):eqI x y=true ↔ x=y:=by
 unfold eqI;rw [yC,beq_iff_eq,beq_iff_eq];cases x;cases y;simp
def sameC (a b : znA) : Bool := decide (a.length = b.length) && (a.zip b).all fun z => eqI z.1 z.2
theorem sameC_iff (a b:znA):sameC a b=true ↔ a=b:=by
 unfold sameC;rw [yC,yQ,List.all_eq_true];constructor
 ·rintro ⟨h1,h2⟩;apply List.ext_getElem h1;intro i h3 h4
  have h5:(a[i],b[i]) ∈ a.zip b:=by
   have:(a.zip b)[i]'(by rw [List.length_zip];omega)=(a[i],b[i]):=List.getElem_zip;rw [<- this];exact List.getElem_mem _
  exact (eqI_iff _ _).1 (h2 _ h5)
 ·rintro rfl;refine ⟨rfl,fun z hz=>?_⟩
  have key:∀ (l:znA) (z:InsS × InsS),z ∈ l.zip l->z.1=z.2:=by
   intro l
   induction l with
   | nil=>intro z h;simp at h
   | cons x l ih =>
    intro z h;rw [List.zip_cons_cons,List.mem_cons] at h;rcases h with rfl | h
    ·rfl
    ·exact ih z h
  exact (eqI_iff _ _).2 (key a z hz)
theorem sameCode_any (a b:znA) (va vb:Value) (w:World) (hA:SlC w a va) (hB:SlC w b vb) (hla:a.length<=1000000) (hlb:b.length<=1000000) :
  Calls Try.prog 31 #[va,vb] w (zbe (sameC a b) w):=by
 obtain ⟨aa,ca,rfl,_,_⟩:=Sl.form hA;obtain ⟨ab,cb,rfl,_,_⟩:=Sl.form hB;have HA:=zh hA;have HB:=zh hB;obtain ⟨final,hfin⟩:∃ r,sameC a b=r:=⟨_,rfl⟩;have HF:Hid (final=sameC a b):=zh hfin.symm;rw [hfin];clear hA hB hfin;by_cases hne:a.length=b.length
 ·have hnb:((a.length:Int) != (b.length:Int))=false:=by simp [hne]
  have Hne:=zh hne;have hlab:b.length<=a.length:=by omega
  have hlba:a.length<=b.length:=by omega
  clear hne;go_enter Try.func31,Try.ntmps31
  go_wp2_with fail
  go_loopw [4,5,11,12,13,14,15,16,17,18,19,20,21,22,23,24,25] (fun _ t5 _ _ _ _ _ _ _ _ _ _ _ _ _ _ _ wr=>∃ k:Nat,k<=a.length/\t5=.int .i64 k/\Hid (∀ j,j < k->a[j]? = b[j]?)/\Hid (Below w.heap.size w wr)) (fun _ t5 _ _ _ _ _ _ _ _ _ _ _ _ _ _ _ _=>a.length - (intOf t5).toNat)
  case atStart=>exact ⟨0,by omega,by first | rfl | go_num,zh (fun j hj=>by omega),zh (yR _ _)⟩
  case round =>
   obtain ⟨k,hk,rfl,HE,Hb⟩:=hrel;by_cases hkl:k < a.length
   ·have hki:(k:Int) < (a.length:Int):=by omega
    have hkb:k < b.length:=by omega
    obtain ⟨g,off,rfl,hgw,c0,c1⟩:=(HA.out.below Hb.out).at hkl;obtain ⟨g2,off2,rfl,hgw2,d0,d1⟩:=(HB.out.below Hb.out).at hkb;have Ha:Hid (a[k]? = some a[k]):=zh (yD hkl);have Hb2:Hid (b[k]? = some b[k]):=zh (yD hkb)
    generalize a[k]=x at *
    generalize b[k]=y at *
    have hw2:=Hb.out.size;obtain ⟨xo,xa⟩:=x;obtain ⟨yo,ya⟩:=y;obtain ⟨p1,hp1⟩:∃ p:Bool,(xo == yo)=p:=⟨_,rfl⟩;obtain ⟨p2,hp2⟩:∃ p:Bool,(xa == ya)=p:=⟨_,rfl⟩
    have Hxy:Hid ((p1 && p2)=true ↔ a[k]? = b[k]?):=zh (by
     rw [Ha.out,Hb2.out,yC,<- hp1,<- hp2,beq_iff_eq,beq_iff_eq,Option.some.injEq,InsS.mk.injEq])
    have Hno:Hid (¬ (p1 && p2)=true->final=false):=zh (fun h=>by
     rw [HF.out,Bool.eq_false_iff];intro h2;rw [sameC_iff] at h2
     exact h (Hxy.out.2 (by rw [h2])))
    clear Ha Hb2;cases p1 <;> cases p2
    all_goals
     go_wp2_with fail
     refine zac (DrewOf _) (by kernel_rfl) (by kernel_rfl) (DrewOf.start _) ?_
     repeat
      try simp only [Act.put,zs1,zs3,zs2]
      apply stepsSeq.cons
      ·rintro w' ⟨nq,rfl⟩;simp only [Act.put,zs1,zs3,zs2];go_wp2_with (fail)
       first | exact ⟨rfl,nq,rfl⟩ | exact ⟨rfl,nq,(World.drewN_drewN _ _ _).symm⟩ | exact ⟨rfl,nq,by simp⟩
     try simp only [Act.put,zs1,zs3,zs2]
     refine stepsSeq.nil ?_;rintro w' ⟨nq,rfl⟩;go_wp2_with fail
    rotate_right
    ·go_roundw
     case rel=>exact ⟨k+1,by omega,by go_num,zh (fun j hj=>by
      by_cases e:j=k
      ·rw [e];exact Hxy.out.1 rfl
      ·exact HE.out j (by omega)),zh (Go.Proofs.Ytdeneckmoejcfaa.Below.drewN Hb.out _)⟩
     case measure=>simp [intOf];omega
    all_goals
     go_ret;exact ⟨by rw [Hno.out (by decide)];rfl,Go.Proofs.Ytdeneckmoejcfaa.Below.drewN Hb.out _⟩
   ·have hki:¬ (k:Int) < (a.length:Int):=by omega
    have hke:k=a.length:=by omega
    have Hf:Hid (final=true):=zh (by
     rw [HF.out,sameC_iff];apply List.ext_getElem? fun j=>?_
     by_cases hj:j < a.length
     ·exact HE.out j (by omega)
     ·rw [List.getElem?_eq_none (by omega),List.getElem?_eq_none (by omega)])
    clear hke;go_wp2_with fail
    go_ret;exact ⟨by rw [Hf.out];rfl,Hb.out⟩
 ·have hnb:((a.length:Int) != (b.length:Int))=true:=by simp;omega
  have Hf:Hid (final=false):=zh (by
   rw [HF.out,Bool.eq_false_iff];intro h;rw [sameC_iff] at h
   exact hne (by rw [h]))
  go_enter Try.func31,Try.ntmps31
  go_wp2_with fail
  go_ret;exact ⟨by rw [Hf.out];rfl,yR _ _⟩
theorem same_any (p q:ProgS) (va vb:Value) (w:World) (hA:SlC w p.code va) (hB:SlC w q.code vb) (hla:p.code.length<=1000000) (hlb:q.code.length<=1000000) :
  Calls Try.prog 25 #[zow p va,zow q vb] w (zbe (sameC p.code q.code && (decide (p.locals=q.locals) && (decide (p.reads=q.reads) && decide (p.writes=q.writes)))) w):=by
 obtain ⟨aa,ca,rfl,_,_⟩:=Sl.form hA;obtain ⟨ab,cb,rfl,_,_⟩:=Sl.form hB;obtain ⟨W1,hW1,hX1,hb1⟩:∃ W1,W1=w.alloc (.cells #[.slice aa p.code.length ca,.int .i64 p.locals,.int .u32 (w32 p.reads),.int .u32 (w32 p.writes)] 29)/\OwnV W1 w.heap.size 29 (p.cells (.slice aa p.code.length ca))/\Below w.heap.size w W1:=⟨_,rfl,OwnV.new _ _ _,(yR _ _).alloc (zr _) _⟩;obtain ⟨W2,hW2,hX2,hb2⟩:∃ W2,W2=W1.alloc (.cells #[.slice ab q.code.length cb,.int .i64 q.locals,.int .u32 (w32 q.reads),.int .u32 (w32 q.writes)] 29)/\OwnV W2 W1.heap.size 29 (q.cells (.slice ab q.code.length cb))/\Below W1.heap.size W1 W2:=⟨_,rfl,OwnV.new _ _ _,(yR _ _).alloc (zr _) _⟩;have hb:=hb1.trans (hb2.mono hb1.size);have HS:=zh (sameCode_any p.code q.code _ _ W2 (hA.below hb) (hB.below hb) hla hlb);have HX1:=zh (hX1.below hb2 (zr _));have HX2:=zh hX2;have Hb:=zh hb;have HW1:=zh hW1;have HW2:=zh hW2;have hs:=hb.size;have hsz1:W1.heap.size=w.heap.size+1:=by rw [hW1];simp
 have Hsz:=zh hsz1;obtain ⟨q0,hq0⟩:∃ q0,sameC p.code q.code=q0:=⟨_,rfl⟩;rw [hq0] at HS ⊢;obtain ⟨q1,hq1⟩:∃ q1:Bool,(p.locals == q.locals)=q1:=⟨_,rfl⟩;obtain ⟨q2,hq2⟩:∃ q2:Bool,(w32 p.reads == w32 q.reads)=q2:=⟨_,rfl⟩;obtain ⟨q3,hq3⟩:∃ q3:Bool,(w32 p.writes == w32 q.writes)=q3:=⟨_,rfl⟩
 have w32i:∀ x y:BitVec 32,(w32 x == w32 y)=decide (x=y):=fun x y=>by
  rw [Bool.eq_iff_iff,beq_iff_eq,yQ];unfold w32;exact ⟨fun h=>BitVec.eq_of_toNat_eq (by omega),fun h=>by rw [h]⟩
 have HR:Hid ((q0 && (decide (p.locals=q.locals) && (decide (p.reads=q.reads) && decide (p.writes=q.writes))))=(q0 && (q1 && (q2 && q3)))):=zh (by
  rw [<- hq1,<- hq2,<- hq3,w32i,w32i]
  congr 2)
 rw [HR.out];have x0:=HX1.out.cell (i:=0) (v:=.slice aa p.code.length ca) rfl;have y0:=HX2.out.cell (i:=0) (v:=.slice ab q.code.length cb) rfl;unfold zow;clear hA hB hX1 hX2 hb1 hb2 hb hW1 hW2 hsz1 hq0 w32i HR;go_enter Try.func25,Try.ntmps25
 go_upto_region 1 with (fail)
 rw [<- HW1.out,<- HW2.out,<- Hsz.out];go_wp2_with fail
 refine HS.out.mono ?_;rintro e2 w2 ⟨rfl,hb2⟩;have HX1b:=zh (HX1.out.below hb2 (zr _));have HX2b:=zh (HX2.out.below hb2 (zr _));have x1:=HX1b.out.cell (i:=1) (v:=.int .i64 p.locals) rfl;have x2:=HX1b.out.cell (i:=2) (v:=.int .u32 (w32 p.reads)) rfl;have x3:=HX1b.out.cell (i:=3) (v:=.int .u32 (w32 p.writes)) rfl;have y1:=HX2b.out.cell (i:=1) (v:=.int .i64 q.locals) rfl;have y2:=HX2b.out.cell (i:=2) (v:=.int .u32 (w32 q.reads)) rfl;have y3:=HX2b.out.cell (i:=3) (v:=.int .u32 (w32 q.writes)) rfl;have Hb2:=zh (Hb.out.trans (hb2.mono hs));clear hb2 x0 y0;cases q0 <;> cases q1 <;> cases q2 <;> cases q3
 all_goals
  go_wp2_with fail
  go_ret;exact ⟨by rfl,Hb2.out⟩
def progS (bs : List UInt8) : List St := match zbg bs with
  | .ok l => l
  | .err _ _ _ => []
def ProgramE (bs : List UInt8) (w : World) (e : Ending) (w' : World) : Prop := ∃ v, e = .returned v /\ SsL w' w'.heap.size (progS bs) v /\ Below w.heap.size w w'
theorem program_any (s:ByteArray) (w:World) (hs:s.size<=9223372036854775807) :
  Calls Try.prog 20 #[.string s] w (ProgramE s.data.toList w):=by
 have HP:=zh (zfa s w hs);have Hr:Hid (progS s.data.toList=match zbg s.data.toList with | .ok l=>l | .err _ _ _=>[]):=zh rfl;unfold ProgramE
 generalize progS s.data.toList=l at *
 generalize zbg s.data.toList=r at *
 go_enter Try.func20,Try.ntmps20
 go_wp2_with fail
 refine HP.out.mono ?_;rintro e2 w2 ⟨h2,hb2⟩;have Hb2:=zh hb2;clear hb2 HP
 cases r with
 | ok xs =>
  obtain ⟨v,rfl,cs,hown,hst⟩:=h2;obtain ⟨a,cap,rfl,_,_⟩:=Sl.form (Sl.of_own hown)
  have HL:Hid (SsL w2 w2.heap.size l (.slice a xs.length cap)):=zh (by
   have e:l=xs:=Hr.out;rw [e]
   exact ⟨cs,Sl.of_own hown,.inr fun g hg=>(hown.lt g hg).2,hst.weak fun g hg _=>hg⟩)
  clear hown hst;go_wp2_with fail
  go_ret
  exact ⟨_,rfl,HL.out,Hb2.out⟩
 | err a b c =>
  obtain ⟨rfl,-⟩:=h2
  have HL:Hid (SsL w2 w2.heap.size l (.slice none 0 0)):=zh (by
   have e:l=[]:=Hr.out;rw [e]
   exact SsL.nil _ _)
  go_wp2_with fail
  go_ret;exact ⟨_,rfl,HL.out,Hb2.out⟩
def Pairs (w : World) (c : znA) (v : Value) : Prop := Sl w 2 c.length (c.flatMap fun i => [.int .i64 i.op, .int .i64 i.a]) v
theorem Pairs.at {w:World} {c:znA} {a:Option Addr} {m cap:Nat} (h:Pairs w c (.slice a m cap)) {k:Nat} (hk:k < c.length) :
  ∃ b off,a=some ⟨b,off,none⟩/\b < w.heap.size/\w.cell? ⟨b,off+k * 2,none⟩=some (.int .i64 c[k].op)/\w.cell? ⟨b,off+k * 2+1,none⟩=some (.int .i64 c[k].a):=by
 obtain ⟨b,off,rfl,hlt,hc⟩:=Sl.at (by omega) h (by omega);refine ⟨b,off,rfl,hlt,?_,?_⟩
 ·have:=hc (k * 2+0) (by omega);rw [zeW (fun i:InsS=>[Value.int .i64 i.op,.int .i64 i.a]) 2 (fun _=>rfl) c k hk 0 (by omega)] at this;exact this
 ·have:=hc (k * 2+1) (by omega);rw [zeW (fun i:InsS=>[Value.int .i64 i.op,.int .i64 i.a]) 2 (fun _=>rfl) c k hk 1 (by omega)] at this;rw [Nat.add_assoc];exact this
theorem code_any (c:znA) (v:Value) (w:World) (hP:Pairs w c v) (hl:c.length<=1000000) (hop:∀ i ∈ c,0<=i.op/\i.op<=255) :
  Calls Try.prog 16 #[v] w fun e w'=>(∃ v,e=.returned v/\OwnC w' w.heap.size 35 v c)/\Below w.heap.size w w':=by
 obtain ⟨a,cap,rfl,_,_⟩:=Sl.form hP;have HP:=zh hP;have Hop:=zh hop;clear hP hop;go_enter Try.func16,Try.ntmps16
 go_wp2_with fail
 go_loopw [3,4,5,6,7,8,9,10,11,12,13,14,15,16,17,18,19,20,21,22,23,24,25] (fun t3 t4 _ _ _ _ _ _ _ _ _ _ _ _ _ _ _ _ _ _ _ _ _ wr=>∃ k:Nat,k<=c.length/\t4=.int .i64 k/\wr.ownsRow w.heap.size 35 2 t3 k (znH (c.take k))/\Hid (Below w.heap.size w wr)) (fun _ t4 _ _ _ _ _ _ _ _ _ _ _ _ _ _ _ _ _ _ _ _ _ _=>c.length - (intOf t4).toNat)
 case atStart=>exact ⟨0,by omega,by first | rfl | go_num,World.ownsRow_nil _ _ _ _,zh (yR _ _)⟩
 case round =>
  obtain ⟨k,hk,rfl,hown,Hb⟩:=hrel;by_cases hkl:k < c.length
  ·have hki:(k:Int) < (c.length:Int):=by omega
   have hszr:=Hb.out.size;obtain ⟨b,off,rfl,hbw,c0w,c1w⟩:=Pairs.at HP.out hkl;have c0:=Below.keep Hb.out c0w;have c1:=Below.keep Hb.out c1w;have Htk:Hid (znH (c.take (k+1))=znH (c.take k)++[.int .u8 c[k].op,.int .i64 c[k].a]):=zh (by rw [List.take_succ_eq_append_getElem hkl,zrL];rfl);obtain ⟨h0,h1⟩:=Hop.out c[k] (List.getElem_mem hkl)
   generalize c[k]=z at *
   obtain ⟨op,x⟩:=z;simp only at h0 h1 c0 c1 c0w c1w;have Hc0:=zh c0w;have Hc1:=zh c1w;have hwr:IntKind.u8.wrap op=op:=by simp [IntKind.wrap,IntKind.bits,IntKind.signed];omega
   have hownS:((wr.alloc (.cells #[.int .u8 op,.int .i64 x] 35)).drew).ownsRow w.heap.size 35 2 u3 k (znH (c.take k)):=zbu (hown.alloc _) (B:=(wr.alloc (.cells #[.int .u8 op,.int .i64 x] 35)).heap.size) ⟨rfl,rfl,rfl,zr _,fun _ _=>rfl⟩ (zr _);have hslS:Sl ((wr.alloc (.cells #[.int .u8 op,.int .i64 x] 35)).drew) 2 1 [.int .u8 op,.int .i64 x] (.slice (some ⟨wr.heap.size,0,none⟩) 1 1):=zb7 ((OwnV.new wr 35 [.int .u8 op,.int .i64 x]).drew) (by simp) (by omega) (by omega);have hbS:Below w.heap.size w ((wr.alloc (.cells #[.int .u8 op,.int .i64 x] 35)).drew):=(Hb.out.alloc hszr _).drew;have HownS:=zh hownS;have HslS:=zh hslS;have HbS:=zh hbS;have hszS:=hbS.size;clear hownS hslS hbS hown c0w c1w;go_wp2_with fail
   go_region_held3 (fun w'=>w'.cell? ⟨b,off+k * 2,none⟩=some (.int .i64 op)/\w'.cell? ⟨b,off+k * 2+1,none⟩=some (.int .i64 x)) (go_keep) ((refine zaR rfl (.tmp 11) (.tmp 24) 26 rfl HownS.out zsk Try.underlying26 rfl (by decide) rfl HslS.out rfl rfl (by unfold maxLen;omega) (by omega) hszS ?_;intro v' w3 hown4 hg4 hb4 hat4;have e0:=Below.keep (HbS.out.trans hb4) Hc0.out;have e1:=Below.keep (HbS.out.trans hb4) Hc1.out))
   have Hown4:=zh hown4;have Hb3:Hid (Below w.heap.size w w3):=zh (HbS.out.trans hb4);clear hown4 hg4 hb4 hat4;go_wp2_with fail
   go_roundw
   case rel=>exact ⟨k+1,by omega,by go_num,by rw [Htk.out];exact Hown4.out,zh Hb3.out⟩
   case measure=>simp [intOf];omega
  ·have hki:¬ (k:Int) < (c.length:Int):=by omega
   have hke:k=c.length:=by omega
   have Hown:Hid (OwnC wr w.heap.size 35 u3 c):=zh (by rw [hke,List.take_length] at hown;exact hown);clear hke hown;go_wp2_with fail
   go_ret;exact ⟨⟨_,rfl,Hown.out⟩,Hb.out⟩

mutual
def okEB : Ex -> Bool
  | .mk op n name args => decide (0 <= op) && (decide (op <= 255) && (decide (-9223372036854775808 <= n) && (decide (n <= 9223372036854775807) && (decide (name.length <= 9223372036854775807) && okEsB args))))
def okEsB : List Ex -> Bool
  | [] => true
  | x :: r => okEB x && okEsB r
end
mutual
def okSB : St -> Bool
  | .mk op n name es body els => decide (0 <= op) && (decide (op <= 255) && (decide (-9223372036854775808 <= n) && (decide (n <= 9223372036854775807) && (decide (name.length <= 9223372036854775807) && (okEsB es && (okSsB body && okSsB els))))))
def okSsB : List St -> Bool
  | [] => true
  | x :: r => okSB x && okSsB r
end
mutual
theorem okEB_ok:∀ (x:Ex),okEB x=true->okE x
 | .mk op n name args,h=>by
  unfold okEB at h;simp only [yC,yQ] at h;exact ⟨⟨h.1,h.2.1⟩,⟨h.2.2.1,h.2.2.2.1⟩,h.2.2.2.2.1,okEsB_ok args h.2.2.2.2.2⟩
theorem okEsB_ok:∀ (xs:List Ex),okEsB xs=true->okEs xs
 | [],_=>trivial
 | x :: r,h=>by
  unfold okEsB at h;rw [yC] at h;exact ⟨okEB_ok x h.1,okEsB_ok r h.2⟩
end
mutual
theorem okSB_ok:∀ (x:St),okSB x=true->okS x
 | .mk op n name es body els,h=>by
  unfold okSB at h;simp only [yC,yQ] at h;exact ⟨⟨h.1,h.2.1⟩,⟨h.2.2.1,h.2.2.2.1⟩,h.2.2.2.2.1,okEsB_ok es h.2.2.2.2.2.1,okSsB_ok body h.2.2.2.2.2.2.1,okSsB_ok els h.2.2.2.2.2.2.2⟩
theorem okSsB_ok:∀ (xs:List St),okSsB xs=true->okSs xs
 | [],_=>trivial
 | x :: r,h=>by
  unfold okSsB at h;rw [yC] at h;exact ⟨okSB_ok x h.1,okSsB_ok r h.2⟩
end
def fitSrc (bs : List UInt8) : Bool := okSsB (progS bs) && decide (szSs (progS bs) <= 100000)
theorem fitSrc_ok {bs:List UInt8} (h:fitSrc bs=true):okSs (progS bs)/\szSs (progS bs)<=100000:=by
 unfold fitSrc at h;rw [yC,yQ] at h;exact ⟨okSsB_ok _ h.1,h.2⟩
def awk0 : List UInt8 := [108, 101, 116, 32, 97, 32, 61, 32, 51, 59, 32, 119, 104, 105, 108, 101, 32, 40, 97, 41, 32, 123, 32, 118, 97, 114, 115, 91, 48, 93, 32, 61, 32, 97, 59, 32, 97, 32, 61, 32, 97, 32, 45, 32, 49, 59, 32, 125]
theorem awk0_fit:fitSrc awk0=true:=by kernel_rfl
def awk1 : List UInt8 := [108, 101, 116, 32, 120, 32, 61, 32, 112, 111, 115, 91, 48, 93, 32, 38, 38, 32, 116, 105, 99, 107, 59]
theorem awk1_fit:fitSrc awk1=true:=by kernel_rfl
def awk2 : List UInt8 := [120, 32, 61, 32, 112, 111, 115, 91, 48, 93, 32, 38, 38, 32, 116, 105, 99, 107, 59]
theorem awk2_fit:fitSrc awk2=true:=by kernel_rfl
def awk3 : List UInt8 := [108, 101, 116, 32, 120, 32, 61, 32, 49, 59, 32, 105, 102, 32, 40, 120, 41, 32, 123, 32, 108, 101, 116, 32, 120, 32, 61, 32, 50, 59, 32, 125]
theorem awk3_fit:fitSrc awk3=true:=by kernel_rfl
def want0 : znA := [⟨1, 3⟩, ⟨3, 0⟩, ⟨2, 0⟩, ⟨12, 12⟩, ⟨1, 0⟩, ⟨2, 0⟩, ⟨5, 7⟩, ⟨2, 0⟩, ⟨1, 1⟩, ⟨9, 14⟩, ⟨3, 0⟩, ⟨11, 2⟩]
def want1 : znA := [⟨1, 0⟩, ⟨4, 1⟩, ⟨12, 6⟩, ⟨6, 0⟩, ⟨10, 0⟩, ⟨11, 7⟩, ⟨1, 0⟩, ⟨3, 0⟩]
theorem awk0_ok:zol (progS awk0)=.ok ⟨want0,1,0,128⟩:=by kernel_rfl
theorem awk1_ok:zol (progS awk1)=.ok ⟨want1,1,2,0⟩:=by kernel_rfl
theorem awk2_ok:zol (progS awk2)=.err 131:=by kernel_rfl
theorem awk3_ok:zol (progS awk3)=.err 132:=by kernel_rfl
end Go.Proofs.Ytdeneckmoejcfaa
