/- slices.ContainsFunc over expressions and statements, walked: where the function says of each element what p says. -/
import Derived.Test.YtdeneckmoejcfaaFineSZs
import Derived.Test.YtdeneckmoejcfaaRParPZs
set_option linter.unusedSimpArgs false
set_option linter.unusedVariables false
set_option maxRecDepth 100000
set_option maxHeartbeats 4000000
namespace Go.Proofs.Ytdeneckmoejcfaa
open Go.RowKit

theorem zfS {α:Type} {p:α->Bool} {l:List α} {k:Nat} {x:α} (h:l[k]? = some x) (h1:(l.take k).any p=false):(p x=false->(l.take (k+1)).any p=false)/\(p x=true->l.any p=true):=by
 obtain ⟨hlt,rfl⟩:=List.getElem?_eq_some_iff.1 h;constructor
 ·intro hp;rw [List.take_succ_eq_append_getElem hlt,List.any_append,h1];simp [hp]
 ·intro hp;rw [List.any_eq_true];exact ⟨_,List.getElem_mem hlt,hp⟩
theorem znn (xs:List Ex) (v:Value) (p:Ex->Bool) (c:Value) (w:World) (B:Nat) (hL:EsL w B xs v) (hB:B<=w.heap.size)
  (hF:∀ (k:Nat) (op n:Int) (name:List UInt8) (args:List Ex) (va:Value) (W:World),xs[k]? = some (.mk op n name args)->Below w.heap.size w W->EsL W B args va->Calls Try.prog 113 #[.agg #[.int .u8 op,.int .i64 n,.string (bstr name),va],c] W (zbe (p (.mk op n name args)) W)) :
  Calls Try.prog 111 #[v,.func (.func 113) #[] #[c]] w fun e w'=>(∃ i:Int,e=.returned (.int .i64 i)/\decide (0<=i)=xs.any p)/\Below w.heap.size w w':=by
 obtain ⟨a,cap,rfl,hc1,hc2⟩:=hL.form;have HL:=zh hL;have HF:=zh hF;clear hL hF;go_enter Try.func111,Try.ntmps111
 go_wp2_with fail
 go_loopw [4,5,8,9,10,11,12,13,14,15,16,17,18] (fun _ _ t8 _ _ _ _ _ _ _ _ _ _ wr=>∃ k:Nat,k<=xs.length/\t8=.int .i64 k/\Hid ((xs.take k).any p=false)/\Hid (Below w.heap.size w wr)) (fun _ _ t8 _ _ _ _ _ _ _ _ _ _ _=>xs.length - (intOf t8).toNat)
 case atStart=>exact ⟨0,by omega,by first | rfl | go_num,zh (by simp),zh (yR _ _)⟩
 case round =>
  obtain ⟨k,hk,rfl,HA,HB⟩:=hrel;by_cases hkl:k < xs.length
  ·have hki:(k:Int) < (xs.length:Int):=by omega
   have hcl:(xs.length:Int)<=9223372036854775807:=by omega
   have hLr:EsL wr B xs (.slice a xs.length cap):=HL.out.low (HB.out.mono hB);obtain ⟨b,off,op2,n2,name2,args2,aa,ac,rfl,hbB,hbw,hat,c0,c1,c2,c3,hL2⟩:=hLr.at hkl;have HI:=zh (HF.out k op2 n2 name2 args2 _ wr hat HB.out hL2);have Hal:=zh (zfS hat HA.out)
   generalize p (.mk op2 n2 name2 args2)=q at *
   clear hLr hL2
   cases q with
   | true =>
    have Han:=zh (Hal.out.2 rfl);clear Hal;go_wp2_with fail
    refine HI.out.mono ?_;rintro e2 w2 ⟨rfl,hb2⟩;have HB2:=zh (HB.out.trans (hb2.mono HB.out.size));clear hb2;go_wp2_with fail
    go_ret
    exact ⟨⟨k,rfl,by rw [Han.out,yQ];omega⟩,HB2.out⟩
   | false =>
    have HA2:=zh (Hal.out.1 rfl);clear Hal;go_wp2_with fail
    refine HI.out.mono ?_;rintro e2 w2 ⟨rfl,hb2⟩;have HB2:=zh (HB.out.trans (hb2.mono HB.out.size));clear hb2;go_wp2_with fail
    go_roundw
    case rel=>exact ⟨k+1,by omega,by go_num,HA2,HB2⟩
    case measure=>simp [intOf];omega
  ·have hki:¬ (k:Int) < (xs.length:Int):=by omega
   have hke:k=xs.length:=by omega
   have HA2:Hid (xs.any p=false):=zh (by have:=HA.out;rw [hke,List.take_length] at this;exact this);clear HA;go_wp2_with fail
   go_ret;exact ⟨⟨-1,rfl,by rw [HA2.out];rfl⟩,HB.out⟩
theorem zkv (xs:List Ex) (v:Value) (p:Ex->Bool) (c:Value) (w:World) (B:Nat) (hL:EsL w B xs v) (hB:B<=w.heap.size)
  (hF:∀ (k:Nat) (op n:Int) (name:List UInt8) (args:List Ex) (va:Value) (W:World),xs[k]? = some (.mk op n name args)->Below w.heap.size w W->EsL W B args va->Calls Try.prog 113 #[.agg #[.int .u8 op,.int .i64 n,.string (bstr name),va],c] W (zbe (p (.mk op n name args)) W)) :
  Calls Try.prog 100 #[v,.func (.func 113) #[] #[c]] w (zbe (xs.any p) w):=by
 obtain ⟨a,cap,rfl,hc1,hc2⟩:=hL.form;have H:=zh (znn xs _ p c w B hL hB hF)
 generalize xs.any p=q at *
 clear hL hF;go_enter Try.func100,Try.ntmps100
 go_wp2_with fail
 refine H.out.mono ?_;rintro e1 w2 ⟨⟨i,rfl,hi⟩,hb⟩;have Hb:=zh hb;have hi2:decide (i >= 0)=q:=hi;clear hb hi;go_wp2_with fail
 go_ret;exact ⟨by first | rfl | exact retb hi2,Hb.out⟩
theorem zno (xs:List Ex) (v:Value) (p:Ex->Bool) (w:World) (B:Nat) (hL:EsL w B xs v) (hB:B<=w.heap.size)
  (hF:∀ (k:Nat) (op n:Int) (name:List UInt8) (args:List Ex) (va:Value) (W:World),xs[k]? = some (.mk op n name args)->Below w.heap.size w W->EsL W B args va->Calls Try.prog 101 #[.agg #[.int .u8 op,.int .i64 n,.string (bstr name),va]] W (zbe (p (.mk op n name args)) W)) :
  Calls Try.prog 111 #[v,.func (.func 101) #[] #[]] w fun e w'=>(∃ i:Int,e=.returned (.int .i64 i)/\decide (0<=i)=xs.any p)/\Below w.heap.size w w':=by
 obtain ⟨a,cap,rfl,hc1,hc2⟩:=hL.form;have HL:=zh hL;have HF:=zh hF;clear hL hF;go_enter Try.func111,Try.ntmps111
 go_wp2_with fail
 go_loopw [4,5,8,9,10,11,12,13,14,15,16,17,18] (fun _ _ t8 _ _ _ _ _ _ _ _ _ _ wr=>∃ k:Nat,k<=xs.length/\t8=.int .i64 k/\Hid ((xs.take k).any p=false)/\Hid (Below w.heap.size w wr)) (fun _ _ t8 _ _ _ _ _ _ _ _ _ _ _=>xs.length - (intOf t8).toNat)
 case atStart=>exact ⟨0,by omega,by first | rfl | go_num,zh (by simp),zh (yR _ _)⟩
 case round =>
  obtain ⟨k,hk,rfl,HA,HB⟩:=hrel;by_cases hkl:k < xs.length
  ·have hki:(k:Int) < (xs.length:Int):=by omega
   have hcl:(xs.length:Int)<=9223372036854775807:=by omega
   have hLr:EsL wr B xs (.slice a xs.length cap):=HL.out.low (HB.out.mono hB);obtain ⟨b,off,op2,n2,name2,args2,aa,ac,rfl,hbB,hbw,hat,c0,c1,c2,c3,hL2⟩:=hLr.at hkl;have HI:=zh (HF.out k op2 n2 name2 args2 _ wr hat HB.out hL2);have Hal:=zh (zfS hat HA.out)
   generalize p (.mk op2 n2 name2 args2)=q at *
   clear hLr hL2
   cases q with
   | true =>
    have Han:=zh (Hal.out.2 rfl);clear Hal;go_wp2_with fail
    refine HI.out.mono ?_;rintro e2 w2 ⟨rfl,hb2⟩;have HB2:=zh (HB.out.trans (hb2.mono HB.out.size));clear hb2;go_wp2_with fail
    go_ret
    exact ⟨⟨k,rfl,by rw [Han.out,yQ];omega⟩,HB2.out⟩
   | false =>
    have HA2:=zh (Hal.out.1 rfl);clear Hal;go_wp2_with fail
    refine HI.out.mono ?_;rintro e2 w2 ⟨rfl,hb2⟩;have HB2:=zh (HB.out.trans (hb2.mono HB.out.size));clear hb2;go_wp2_with fail
    go_roundw
    case rel=>exact ⟨k+1,by omega,by go_num,HA2,HB2⟩
    case measure=>simp [intOf];omega
  ·have hki:¬ (k:Int) < (xs.length:Int):=by omega
   have hke:k=xs.length:=by omega
   have HA2:Hid (xs.any p=false):=zh (by have:=HA.out;rw [hke,List.take_length] at this;exact this);clear HA;go_wp2_with fail
   go_ret;exact ⟨⟨-1,rfl,by rw [HA2.out];rfl⟩,HB.out⟩
theorem zkw (xs:List Ex) (v:Value) (p:Ex->Bool) (w:World) (B:Nat) (hL:EsL w B xs v) (hB:B<=w.heap.size)
  (hF:∀ (k:Nat) (op n:Int) (name:List UInt8) (args:List Ex) (va:Value) (W:World),xs[k]? = some (.mk op n name args)->Below w.heap.size w W->EsL W B args va->Calls Try.prog 101 #[.agg #[.int .u8 op,.int .i64 n,.string (bstr name),va]] W (zbe (p (.mk op n name args)) W)) :
  Calls Try.prog 100 #[v,.func (.func 101) #[] #[]] w (zbe (xs.any p) w):=by
 obtain ⟨a,cap,rfl,hc1,hc2⟩:=hL.form;have H:=zh (zno xs _ p w B hL hB hF)
 generalize xs.any p=q at *
 clear hL hF;go_enter Try.func100,Try.ntmps100
 go_wp2_with fail
 refine H.out.mono ?_;rintro e1 w2 ⟨⟨i,rfl,hi⟩,hb⟩;have Hb:=zh hb;have hi2:decide (i >= 0)=q:=hi;clear hb hi;go_wp2_with fail
 go_ret;exact ⟨by first | rfl | exact retb hi2,Hb.out⟩
theorem znp (xs:List St) (v:Value) (p:St->Bool) (c:Value) (w:World) (B:Nat) (hL:SsL w B xs v) (hB:B<=w.heap.size)
  (hF:∀ (k:Nat) (op n:Int) (name:List UInt8) (es:List Ex) (body els:List St) (va vb vc:Value) (W:World),xs[k]? = some (.mk op n name es body els)->Below w.heap.size w W->EsL W B es va->SsL W B body vb->SsL W B els vc->Calls Try.prog 83 #[.agg #[.int .u8 op,.int .i64 n,.string (bstr name),va,vb,vc],c] W (zbe (p (.mk op n name es body els)) W)) :
  Calls Try.prog 97 #[v,.func (.func 83) #[] #[c]] w fun e w'=>(∃ i:Int,e=.returned (.int .i64 i)/\decide (0<=i)=xs.any p)/\Below w.heap.size w w':=by
 obtain ⟨a,cap,rfl,hc1,hc2⟩:=hL.form;have HL:=zh hL;have HF:=zh hF;clear hL hF;go_enter Try.func97,Try.ntmps97
 go_wp2_with fail
 go_loopw [4,5,8,9,10,11,12,13,14,15,16,17,18] (fun _ _ t8 _ _ _ _ _ _ _ _ _ _ wr=>∃ k:Nat,k<=xs.length/\t8=.int .i64 k/\Hid ((xs.take k).any p=false)/\Hid (Below w.heap.size w wr)) (fun _ _ t8 _ _ _ _ _ _ _ _ _ _ _=>xs.length - (intOf t8).toNat)
 case atStart=>exact ⟨0,by omega,by first | rfl | go_num,zh (by simp),zh (yR _ _)⟩
 case round =>
  obtain ⟨k,hk,rfl,HA,HB⟩:=hrel;by_cases hkl:k < xs.length
  ·have hki:(k:Int) < (xs.length:Int):=by omega
   have hcl:(xs.length:Int)<=9223372036854775807:=by omega
   have hLr:SsL wr B xs (.slice a xs.length cap):=HL.out.low (HB.out.mono hB);obtain ⟨b,off,op2,n2,name2,es,body,els,ae,ce,ab,cb,al,cl,rfl,hbB,hbw,hat,c0,c1,c2,c3,c4,c5,hE,hBd,hEl⟩:=hLr.at hkl;have HI:=zh (HF.out k op2 n2 name2 es body els _ _ _ wr hat HB.out hE hBd hEl);have Hal:=zh (zfS hat HA.out)
   generalize p (.mk op2 n2 name2 es body els)=q at *
   clear hLr hE hBd hEl
   cases q with
   | true =>
    have Han:=zh (Hal.out.2 rfl);clear Hal;go_wp2_with fail
    refine HI.out.mono ?_;rintro e2 w2 ⟨rfl,hb2⟩;have HB2:=zh (HB.out.trans (hb2.mono HB.out.size));clear hb2;go_wp2_with fail
    go_ret
    exact ⟨⟨k,rfl,by rw [Han.out,yQ];omega⟩,HB2.out⟩
   | false =>
    have HA2:=zh (Hal.out.1 rfl);clear Hal;go_wp2_with fail
    refine HI.out.mono ?_;rintro e2 w2 ⟨rfl,hb2⟩;have HB2:=zh (HB.out.trans (hb2.mono HB.out.size));clear hb2;go_wp2_with fail
    go_roundw
    case rel=>exact ⟨k+1,by omega,by go_num,HA2,HB2⟩
    case measure=>simp [intOf];omega
  ·have hki:¬ (k:Int) < (xs.length:Int):=by omega
   have hke:k=xs.length:=by omega
   have HA2:Hid (xs.any p=false):=zh (by have:=HA.out;rw [hke,List.take_length] at this;exact this);clear HA;go_wp2_with fail
   go_ret;exact ⟨⟨-1,rfl,by rw [HA2.out];rfl⟩,HB.out⟩
theorem zkx (xs:List St) (v:Value) (p:St->Bool) (c:Value) (w:World) (B:Nat) (hL:SsL w B xs v) (hB:B<=w.heap.size)
  (hF:∀ (k:Nat) (op n:Int) (name:List UInt8) (es:List Ex) (body els:List St) (va vb vc:Value) (W:World),xs[k]? = some (.mk op n name es body els)->Below w.heap.size w W->EsL W B es va->SsL W B body vb->SsL W B els vc->Calls Try.prog 83 #[.agg #[.int .u8 op,.int .i64 n,.string (bstr name),va,vb,vc],c] W (zbe (p (.mk op n name es body els)) W)) :
  Calls Try.prog 82 #[v,.func (.func 83) #[] #[c]] w (zbe (xs.any p) w):=by
 obtain ⟨a,cap,rfl,hc1,hc2⟩:=hL.form;have H:=zh (znp xs _ p c w B hL hB hF)
 generalize xs.any p=q at *
 clear hL hF;go_enter Try.func82,Try.ntmps82
 go_wp2_with fail
 refine H.out.mono ?_;rintro e1 w2 ⟨⟨i,rfl,hi⟩,hb⟩;have Hb:=zh hb;have hi2:decide (i >= 0)=q:=hi;clear hb hi;go_wp2_with fail
 go_ret;exact ⟨by first | rfl | exact retb hi2,Hb.out⟩
theorem zmG (op:Int) (w:World):Calls Try.prog 112 #[.int .u8 op] w fun e w'=>e=.returned (.int .i64 (zbH op))/\w=w':=by
 by_cases h:op=1∨op=2∨op=3∨op=4∨op=5
 ·rcases h with rfl | rfl | rfl | rfl | rfl
  all_goals
   go_enter Try.func112,Try.ntmps112
   go_wp2_with fail
   go_ret;exact ⟨rfl,rfl⟩
 ·have e1:(op == 1)=false:=by rw [beq_eq_false_iff_ne];omega
  have e2:(op == 2)=false:=by rw [beq_eq_false_iff_ne];omega
  have e3:(op == 3)=false:=by rw [beq_eq_false_iff_ne];omega
  have e4:(op == 4)=false:=by rw [beq_eq_false_iff_ne];omega
  have e5:(op == 5)=false:=by rw [beq_eq_false_iff_ne];omega
  by_cases h6:6<=op
  ·by_cases h9:op<=9
   ·have HM:Hid (zbH op=1):=zh (by unfold zbH zb9;rw [yP (by omega),yP (by omega),yN (by omega)];rfl)
    generalize zbH op=final at *
    clear h;go_enter Try.func112,Try.ntmps112
    go_wp2_with fail
    go_ret;exact ⟨by rw [HM.out];rfl,rfl⟩
   ·have h10:10<=op:=by omega
    have h9':¬ op<=9:=h9;by_cases h24:op<=24
    ·have HM:Hid (zbH op=2):=zh (by unfold zbH zb9;rw [yP (by omega),yN (by omega)];rfl)
     generalize zbH op=final at *
     clear h;go_enter Try.func112,Try.ntmps112
     go_wp2_with fail
     go_ret;exact ⟨by rw [HM.out];rfl,rfl⟩
    ·have HM:Hid (zbH op = -1):=zh (by unfold zbH;rw [yN (by omega)])
     generalize zbH op=final at *
     clear h;go_enter Try.func112,Try.ntmps112
     go_wp2_with fail
     go_ret;exact ⟨by rw [HM.out];rfl,rfl⟩
  ·have HM:Hid (zbH op = -1):=zh (by unfold zbH;rw [yN (by omega)]);have h10:¬ 10<=op:=by omega
   generalize zbH op=final at *
   clear h;go_enter Try.func112,Try.ntmps112
   go_wp2_with fail
   go_ret;exact ⟨by rw [HM.out];rfl,rfl⟩
theorem zhg (n:Int) (w:World):Calls Try.prog 99 #[.int .i64 n] w fun e w'=>e=.returned (.bool (decide (1<=n/\n<=10)))/\w=w':=by
 obtain ⟨p1,p2,q1,q2,hq⟩:∃ p1 p2:Bool,decide (n >= 1)=p1/\decide (n<=10)=p2/\decide (1<=n/\n<=10)=(p1 && p2):=⟨_,_,rfl,rfl,by rw [Bool.decide_and]⟩;rw [hq];clear hq;cases p1 <;> cases p2
 all_goals
  go_enter Try.func99,Try.ntmps99
  go_wp2;go_ret;exact ⟨rfl,rfl⟩
theorem zlJ (d:Nat) (hd:d<=41) (op n:Int) (name:List UInt8) (args:List Ex) (v:Value) (q:Bool) (tb:Nat) (w:World) (hv:∃ a cap,v=.slice a args.length cap) (hD:OwnV w tb 3 [.int .i64 ((d:Int)+1)])
  (H:∀ w',Below w.heap.size w w'->Calls Try.prog 102 #[.agg #[.int .u8 op,.int .i64 n,.string (bstr name),v],.int .i64 d] w' (zbe q w')) :
  Calls Try.prog 113 #[.agg #[.int .u8 op,.int .i64 n,.string (bstr name),v],.pointer (some ⟨tb,0,none⟩)] w (zbe (!q) w):=by
 obtain ⟨a,cap,rfl⟩:=hv;have HH:=zh H;have hlt:=hD.lt;have d0:=hD.cell (i:=0) rfl;have hne:¬ tb=w.heap.size:=by omega
 clear H hD;go_enter Try.func113,Try.ntmps113
 go_wp2_with fail
 refine (HH.out _ ((yR _ _).alloc (zr _) _)).mono ?_;rintro e1 w1 ⟨rfl,hb1⟩;have Hb1:=zh (((yR w.heap.size w).alloc (zr _) (.cells #[.int .u8 op,.int .i64 n,.string (bstr name),.slice a args.length cap] 65)).trans (hb1.mono (by simp)));clear hb1;go_wp2_with fail
 go_ret;exact ⟨rfl,Hb1.out⟩
theorem zky (d:Nat) (hd:d<=40) (ih:∀ (op n:Int) (name:List UInt8) (args:List Ex) (v:Value) (w:World) (B:Nat),okE (.mk op n name args)->EsL w B args v->B<=w.heap.size->Calls Try.prog 102 #[.agg #[.int .u8 op,.int .i64 n,.string (bstr name),v],.int .i64 d] w (zbe (zbd d (.mk op n name args)) w))
  (op n:Int) (name:List UInt8) (args:List Ex) (v:Value) (w:World) (B:Nat) (hok:okE (.mk op n name args)) (hL:EsL w B args v) (hB:B<=w.heap.size) :
  Calls Try.prog 102 #[.agg #[.int .u8 op,.int .i64 n,.string (bstr name),v],.int .i64 ((d:Int)+1)] w (zbe (zbd (d+1) (.mk op n name args)) w):=by
 obtain ⟨a,cap,rfl,hcc1,hcc2⟩:=hL.form;have Hih:=zh ih;have HL:=zh hL;obtain ⟨-,-,-,hoks⟩:=hok;have Hoks:=zh hoks;obtain ⟨W0,hW0,hb0,hX0,hY0,hsz⟩:=zbD w [.int .u8 op,.int .i64 n,.string (bstr name),.slice a args.length cap] [.int .i64 ((d:Int)+1)] 65 3;have Hb0:=zh hb0;have HX0:=zh hX0;have HY0:=zh hY0;obtain ⟨x0,x1,x2,x3⟩:=yc4 hX0;have y0:=hY0.cell (i:=0) rfl;have HW0:=zh hW0;have HM:Hid (∀ w:World,_):=zh (fun w:World=>zmG op w);have HNm:Hid (∀ w:World,_):=zh (fun w:World=>zdr name w);have HK:Hid (∀ w:World,_):=zh (fun w:World=>zhg n w);have hd0:0 < (d:Int)+1:=by omega
 obtain ⟨final,hfin⟩:∃ q,zbd (d+1) (.mk op n name args)=q:=⟨_,rfl⟩;have HF:Hid (final=(zbN op n name args.length && args.all (zbd d))):=zh (by rw [<- hfin,zbd]);rw [zk2] at HF;rw [hfin]
 have HC:Hid (∀ (W:World) (fp:Value),fp=.pointer (some ⟨w.heap.size+1,0,none⟩)->Below W0.heap.size W0 W->Calls Try.prog 100 #[.slice a args.length cap,.func (.func 113) #[] #[fp]] W (zbe (args.any fun x=>!zbd d x) W)):=zh (by
  rintro W fp rfl hb;refine zkv args _ (fun x=>!zbd d x) _ W B (HL.out.low ((Hb0.out.mono hB).trans (hb.mono (yT hB Hb0.out.size)))) (yT hB (yT Hb0.out.size hb.size)) ?_;intro k op2 n2 name2 args2 va W2 hat hb2 hL2;have hY2:=(HY0.out.below hb (zr _)).below hb2 (zr _);obtain ⟨aa,ac,rfl,_,_⟩:=hL2.form;refine zlJ d (by omega) op2 n2 name2 args2 _ _ _ W2 ⟨_,_,rfl⟩ hY2 ?_;intro w3 hb3
  exact Hih.out op2 n2 name2 args2 _ w3 B (zgR Hoks.out hat) (hL2.low (hb3.mono (yT hB (yT Hb0.out.size (yT hb.size hb2.size))))) (yT hB (yT Hb0.out.size (yT hb.size (yT hb2.size hb3.size)))))
 have hnot:(args.any fun x=>!zbd d x) = !args.all (zbd d):=by rw [List.all_eq_not_any_not,Bool.not_not]
 rw [hnot] at HC
 have HQ1:Hid (op=1->args.length=zb9 op->args.all (zbd d)=true):=zh (fun h h2=>by
  have:args=[]:=List.eq_nil_of_length_eq_zero (by rw [h2,h];rfl)
  rw [this];rfl)
 generalize args.all (zbd d)=qa at *
 clear hb0 hX0 hY0 hL hoks ih hfin hW0 hnot;by_cases hm:zbH op=(args.length:Int)
 ·have hm1:(zbH op != (args.length:Int))=false:=by rw [hm];simp
  have HMl:Hid (op=1->args.length=zb9 op):=zh (fun h=>by rw [h] at hm ⊢;have e:zbH 1=0:=rfl;have e2:zb9 1=0:=rfl;omega);have Hm:=zh hm
  generalize zbH op=M at *
  clear hm;obtain ⟨e2,he2⟩:∃ q,(op == 2)=q:=⟨_,rfl⟩;by_cases hn:name=[]
  ·have hs:(bstr name).toList=[]:=str_nil.2 hn;have Hn:=zh hn;clear hn
   cases e2 with
   | true =>
    have HFz:Hid (final=false):=zh (by rw [HF.out,decide_eq_true Hm.out,he2,decide_eq_false (not_not_intro Hn.out),Bool.true_and];rfl);clear HF;go_enter Try.func102,Try.ntmps102
    go_upto_region 1 with (fail)
    rw [<- HW0.out];refine zac (fun w'=>Below W0.heap.size W0 w') (by kernel_rfl) (by kernel_rfl) ((yR _ _).drew) ?_
    repeat
     try simp only [Act.put,zs1,zs3,zs2]
     apply stepsSeq.cons
     ·intro w' hb1;have Hb1':=zh hb1;have x0':=Below.keep hb1 x0;have x1':=Below.keep hb1 x1;have x2':=Below.keep hb1 x2;have x3':=Below.keep hb1 x3;have y0':=Below.keep hb1 y0;simp only [Act.put,zs1,zs3,zs2];go_wp2_with ((go_at_call 112;refine (HM.out _).mono ?_;rintro e2 w2 ⟨rfl,rfl⟩))
      first | exact ⟨rfl,Hb1'.out⟩ | exact ⟨rfl,Hb1'.out.trans (hb2.mono Hb1'.out.size)⟩
    try simp only [Act.put,zs1,zs3,zs2]
    refine stepsSeq.nil ?_;intro w' hb1;have Hb1:=zh (Hb0.out.trans (hb1.mono Hb0.out.size));have Hbz:=zh hb1;replace x0:=(HX0.out.below hb1 (zr _)).cell (i:=0) rfl;replace x1:=(HX0.out.below hb1 (zr _)).cell (i:=1) rfl;replace x2:=(HX0.out.below hb1 (zr _)).cell (i:=2) rfl;replace x3:=(HX0.out.below hb1 (zr _)).cell (i:=3) rfl;clear hb1;go_wp2_with fail
    go_ret
    exact ⟨retb (a:=false) HFz.out.symm,Hb1.out⟩
   | false =>
    have HF1:Hid (final=((if op=1 then decide (0<=n) else if op=3 then decide (1<=n/\n<=10) else decide (n=0)) && qa)):=zh (by rw [HF.out,decide_eq_true Hm.out,he2,decide_eq_false (not_not_intro Hn.out),decide_eq_true Hn.out,Bool.true_or,Bool.true_and,Bool.true_and];rfl);clear HF;obtain ⟨o1,ho1⟩:∃ q,(op == 1)=q:=⟨_,rfl⟩
    cases o1 with
    | true =>
     obtain ⟨p,hp⟩:∃ q,decide (n >= 0)=q:=⟨_,rfl⟩
     have Hlen:Hid (final=p):=zh (by
      have h1:op=1:=by rw [beq_iff_eq] at ho1;exact ho1
      rw [HF1.out,yP h1,<- hp,HQ1.out h1 (HMl.out h1),Bool.and_true])
     go_enter Try.func102,Try.ntmps102
     go_upto_region 1 with (fail)
     rw [<- HW0.out];refine zac (fun w'=>Below W0.heap.size W0 w') (by kernel_rfl) (by kernel_rfl) ((yR _ _).drew) ?_
     repeat
      try simp only [Act.put,zs1,zs3,zs2]
      apply stepsSeq.cons
      ·intro w' hb1;have Hb1':=zh hb1;have x0':=Below.keep hb1 x0;have x1':=Below.keep hb1 x1;have x2':=Below.keep hb1 x2;have x3':=Below.keep hb1 x3;have y0':=Below.keep hb1 y0;simp only [Act.put,zs1,zs3,zs2];go_wp2_with ((go_at_call 112;refine (HM.out _).mono ?_;rintro e2 w2 ⟨rfl,rfl⟩))
       first | exact ⟨rfl,Hb1'.out⟩ | exact ⟨rfl,Hb1'.out.trans (hb2.mono Hb1'.out.size)⟩
     try simp only [Act.put,zs1,zs3,zs2]
     refine stepsSeq.nil ?_;intro w' hb1;have Hb1:=zh (Hb0.out.trans (hb1.mono Hb0.out.size));have Hbz:=zh hb1;replace x0:=(HX0.out.below hb1 (zr _)).cell (i:=0) rfl;replace x1:=(HX0.out.below hb1 (zr _)).cell (i:=1) rfl;replace x2:=(HX0.out.below hb1 (zr _)).cell (i:=2) rfl;replace x3:=(HX0.out.below hb1 (zr _)).cell (i:=3) rfl;clear hb1;go_wp2_with fail
     go_ret
     exact ⟨by first | exact retb (a:=p) Hlen.out.symm | exact retb (hp.trans Hlen.out.symm),Hb1.out⟩
    | false =>
     obtain ⟨o3,ho3⟩:∃ q,(op == 3)=q:=⟨_,rfl⟩;have h1:¬ op=1:=by rw [beq_eq_false_iff_ne] at ho1;exact ho1
     cases o3 with
     | true =>
      have h3:op=3:=by rw [beq_iff_eq] at ho3;exact ho3
      have HFq:Hid (final=(decide (1<=n/\n<=10) && qa)):=zh (by rw [HF1.out,yN h1,yP h3])
      generalize decide (1<=n/\n<=10)=p at *
      clear h1 h3 HF1
      cases p with
      | false =>
       have HFz:Hid (final=false):=zh (by rw [HFq.out,Bool.false_and]);go_enter Try.func102,Try.ntmps102
       go_upto_region 1 with (fail)
       rw [<- HW0.out];refine zac (fun w'=>Below W0.heap.size W0 w') (by kernel_rfl) (by kernel_rfl) ((yR _ _).drew) ?_
       repeat
        try simp only [Act.put,zs1,zs3,zs2]
        apply stepsSeq.cons
        ·intro w' hb1;have Hb1':=zh hb1;have x0':=Below.keep hb1 x0;have x1':=Below.keep hb1 x1;have x2':=Below.keep hb1 x2;have x3':=Below.keep hb1 x3;have y0':=Below.keep hb1 y0;simp only [Act.put,zs1,zs3,zs2];go_wp2_with ((go_at_call 112;refine (HM.out _).mono ?_;rintro e2 w2 ⟨rfl,rfl⟩))
         first | exact ⟨rfl,Hb1'.out⟩ | exact ⟨rfl,Hb1'.out.trans (hb2.mono Hb1'.out.size)⟩
       try simp only [Act.put,zs1,zs3,zs2]
       refine stepsSeq.nil ?_;intro w' hb1;have Hb1:=zh (Hb0.out.trans (hb1.mono Hb0.out.size));have Hbz:=zh hb1;replace x0:=(HX0.out.below hb1 (zr _)).cell (i:=0) rfl;replace x1:=(HX0.out.below hb1 (zr _)).cell (i:=1) rfl;replace x2:=(HX0.out.below hb1 (zr _)).cell (i:=2) rfl;replace x3:=(HX0.out.below hb1 (zr _)).cell (i:=3) rfl;clear hb1;go_wp2_with fail
       refine (HK.out _).mono ?_;rintro e3 w3 ⟨rfl,rfl⟩;go_wp2_with fail
       go_ret
       exact ⟨retb (a:=false) HFz.out.symm,Hb1.out⟩
      | true =>
       have HFq:Hid (final=qa):=zh (by rw [HFq.out,Bool.true_and]);go_enter Try.func102,Try.ntmps102
       go_upto_region 1 with (fail)
       rw [<- HW0.out];refine zac (fun w'=>Below W0.heap.size W0 w') (by kernel_rfl) (by kernel_rfl) ((yR _ _).drew) ?_
       repeat
        try simp only [Act.put,zs1,zs3,zs2]
        apply stepsSeq.cons
        ·intro w' hb1;have Hb1':=zh hb1;have x0':=Below.keep hb1 x0;have x1':=Below.keep hb1 x1;have x2':=Below.keep hb1 x2;have x3':=Below.keep hb1 x3;have y0':=Below.keep hb1 y0;simp only [Act.put,zs1,zs3,zs2];go_wp2_with ((go_at_call 112;refine (HM.out _).mono ?_;rintro e2 w2 ⟨rfl,rfl⟩))
         first | exact ⟨rfl,Hb1'.out⟩ | exact ⟨rfl,Hb1'.out.trans (hb2.mono Hb1'.out.size)⟩
       try simp only [Act.put,zs1,zs3,zs2]
       refine stepsSeq.nil ?_;intro w' hb1;have Hb1:=zh (Hb0.out.trans (hb1.mono Hb0.out.size));have Hbz:=zh hb1;replace x0:=(HX0.out.below hb1 (zr _)).cell (i:=0) rfl;replace x1:=(HX0.out.below hb1 (zr _)).cell (i:=1) rfl;replace x2:=(HX0.out.below hb1 (zr _)).cell (i:=2) rfl;replace x3:=(HX0.out.below hb1 (zr _)).cell (i:=3) rfl;clear hb1;go_wp2_with fail
       refine (HK.out _).mono ?_;rintro e3 w3 ⟨rfl,rfl⟩;go_wp2_with fail
       refine (HC.out _ _ rfl Hbz.out).mono ?_;rintro e3 w3 ⟨rfl,hb3⟩;have Hb3:=zh (Hb1.out.trans (hb3.mono Hb1.out.size));clear hb3;go_wp2_with fail
       go_ret
       exact ⟨retb (a:=qa) HFq.out.symm,Hb3.out⟩
     | false =>
      have h3:¬ op=3:=by rw [beq_eq_false_iff_ne] at ho3;exact ho3
      have HFq:Hid (final=(decide (n=0) && qa)):=zh (by rw [HF1.out,yN h1,yN h3]);obtain ⟨p,hp,hp2⟩:∃ q,(n != 0)=q/\decide (n=0) = !q:=⟨_,rfl,by rw [Bool.eq_iff_iff];simp⟩;rw [hp2] at HFq;clear h1 h3 HF1 hp2
      cases p with
      | true =>
       have HFz:Hid (final=false):=zh (by rw [HFq.out];rfl);go_enter Try.func102,Try.ntmps102
       go_upto_region 1 with (fail)
       rw [<- HW0.out];refine zac (fun w'=>Below W0.heap.size W0 w') (by kernel_rfl) (by kernel_rfl) ((yR _ _).drew) ?_
       repeat
        try simp only [Act.put,zs1,zs3,zs2]
        apply stepsSeq.cons
        ·intro w' hb1;have Hb1':=zh hb1;have x0':=Below.keep hb1 x0;have x1':=Below.keep hb1 x1;have x2':=Below.keep hb1 x2;have x3':=Below.keep hb1 x3;have y0':=Below.keep hb1 y0;simp only [Act.put,zs1,zs3,zs2];go_wp2_with ((go_at_call 112;refine (HM.out _).mono ?_;rintro e2 w2 ⟨rfl,rfl⟩))
         first | exact ⟨rfl,Hb1'.out⟩ | exact ⟨rfl,Hb1'.out.trans (hb2.mono Hb1'.out.size)⟩
       try simp only [Act.put,zs1,zs3,zs2]
       refine stepsSeq.nil ?_;intro w' hb1;have Hb1:=zh (Hb0.out.trans (hb1.mono Hb0.out.size));have Hbz:=zh hb1;replace x0:=(HX0.out.below hb1 (zr _)).cell (i:=0) rfl;replace x1:=(HX0.out.below hb1 (zr _)).cell (i:=1) rfl;replace x2:=(HX0.out.below hb1 (zr _)).cell (i:=2) rfl;replace x3:=(HX0.out.below hb1 (zr _)).cell (i:=3) rfl;clear hb1;go_wp2_with fail
       go_ret
       exact ⟨retb (a:=false) HFz.out.symm,Hb1.out⟩
      | false =>
       have HFq:Hid (final=qa):=zh (by rw [HFq.out];rfl);go_enter Try.func102,Try.ntmps102
       go_upto_region 1 with (fail)
       rw [<- HW0.out];refine zac (fun w'=>Below W0.heap.size W0 w') (by kernel_rfl) (by kernel_rfl) ((yR _ _).drew) ?_
       repeat
        try simp only [Act.put,zs1,zs3,zs2]
        apply stepsSeq.cons
        ·intro w' hb1;have Hb1':=zh hb1;have x0':=Below.keep hb1 x0;have x1':=Below.keep hb1 x1;have x2':=Below.keep hb1 x2;have x3':=Below.keep hb1 x3;have y0':=Below.keep hb1 y0;simp only [Act.put,zs1,zs3,zs2];go_wp2_with ((go_at_call 112;refine (HM.out _).mono ?_;rintro e2 w2 ⟨rfl,rfl⟩))
         first | exact ⟨rfl,Hb1'.out⟩ | exact ⟨rfl,Hb1'.out.trans (hb2.mono Hb1'.out.size)⟩
       try simp only [Act.put,zs1,zs3,zs2]
       refine stepsSeq.nil ?_;intro w' hb1;have Hb1:=zh (Hb0.out.trans (hb1.mono Hb0.out.size));have Hbz:=zh hb1;replace x0:=(HX0.out.below hb1 (zr _)).cell (i:=0) rfl;replace x1:=(HX0.out.below hb1 (zr _)).cell (i:=1) rfl;replace x2:=(HX0.out.below hb1 (zr _)).cell (i:=2) rfl;replace x3:=(HX0.out.below hb1 (zr _)).cell (i:=3) rfl;clear hb1;go_wp2_with fail
       refine (HC.out _ _ rfl Hbz.out).mono ?_;rintro e3 w3 ⟨rfl,hb3⟩;have Hb3:=zh (Hb1.out.trans (hb3.mono Hb1.out.size));clear hb3;go_wp2_with fail
       go_ret;exact ⟨retb (a:=qa) HFq.out.symm,Hb3.out⟩
  ·have hs:¬ (bstr name).toList=[]:=fun h=>hn (str_nil.1 h)
   have hs2:(bstr name).toList.isEmpty=false:=by rw [List.isEmpty_eq_false_iff];exact hs
   have Hn:=zh hn;clear hn
   cases e2 with
   | false =>
    have HFz:Hid (final=false):=zh (by rw [HF.out,decide_eq_true Hm.out,he2,decide_eq_true Hn.out,Bool.true_and];rfl);clear HF;go_enter Try.func102,Try.ntmps102
    go_upto_region 1 with (fail)
    rw [<- HW0.out];refine zac (fun w'=>Below W0.heap.size W0 w') (by kernel_rfl) (by kernel_rfl) ((yR _ _).drew) ?_
    repeat
     try simp only [Act.put,zs1,zs3,zs2]
     apply stepsSeq.cons
     ·intro w' hb1;have Hb1':=zh hb1;have x0':=Below.keep hb1 x0;have x1':=Below.keep hb1 x1;have x2':=Below.keep hb1 x2;have x3':=Below.keep hb1 x3;have y0':=Below.keep hb1 y0;simp only [Act.put,zs1,zs3,zs2];go_wp2_with ((go_at_call 112;refine (HM.out _).mono ?_;rintro e2 w2 ⟨rfl,rfl⟩))
      first | exact ⟨rfl,Hb1'.out⟩ | exact ⟨rfl,Hb1'.out.trans (hb2.mono Hb1'.out.size)⟩
    try simp only [Act.put,zs1,zs3,zs2]
    refine stepsSeq.nil ?_;intro w' hb1;have Hb1:=zh (Hb0.out.trans (hb1.mono Hb0.out.size));have Hbz:=zh hb1;replace x0:=(HX0.out.below hb1 (zr _)).cell (i:=0) rfl;replace x1:=(HX0.out.below hb1 (zr _)).cell (i:=1) rfl;replace x2:=(HX0.out.below hb1 (zr _)).cell (i:=2) rfl;replace x3:=(HX0.out.below hb1 (zr _)).cell (i:=3) rfl;clear hb1;go_wp2_with fail
    go_ret
    exact ⟨retb (a:=false) HFz.out.symm,Hb1.out⟩
   | true =>
    obtain ⟨p,hp⟩:∃ q,zaP name=q:=⟨_,rfl⟩;have h2:op=2:=by rw [beq_iff_eq] at he2;exact he2
    have o1:(op == 1)=false:=by rw [beq_eq_false_iff_ne];omega
    have o3:(op == 3)=false:=by rw [beq_eq_false_iff_ne];omega
    have HF1:Hid (final=((p && decide (n=0)) && qa)):=zh (by rw [HF.out,decide_eq_true Hm.out,he2,decide_eq_true Hn.out,decide_eq_false Hn.out,Bool.false_or,hp,Bool.true_and,yN (by omega),yN (by omega)];rfl);rw [hp] at HNm;clear HF hp h2
    cases p with
    | false =>
     have HFz:Hid (final=false):=zh (by rw [HF1.out];rfl);go_enter Try.func102,Try.ntmps102
     go_upto_region 1 with (fail)
     rw [<- HW0.out];refine zac (fun w'=>Below W0.heap.size W0 w') (by kernel_rfl) (by kernel_rfl) ((yR _ _).drew) ?_
     repeat
      try simp only [Act.put,zs1,zs3,zs2]
      apply stepsSeq.cons
      ·intro w' hb1;have Hb1':=zh hb1;have x0':=Below.keep hb1 x0;have x1':=Below.keep hb1 x1;have x2':=Below.keep hb1 x2;have x3':=Below.keep hb1 x3;have y0':=Below.keep hb1 y0;simp only [Act.put,zs1,zs3,zs2];go_wp2_with ((first | (go_at_call 112;refine (HM.out _).mono ?_;rintro e2 w2 ⟨rfl,rfl⟩) | (go_at_call 98;refine (HNm.out _).mono ?_;rintro e2 w2 ⟨rfl,hb2⟩)))
       first | exact ⟨rfl,Hb1'.out⟩ | exact ⟨rfl,Hb1'.out.trans (hb2.mono Hb1'.out.size)⟩
     try simp only [Act.put,zs1,zs3,zs2]
     refine stepsSeq.nil ?_;intro w' hb1;have Hb1:=zh (Hb0.out.trans (hb1.mono Hb0.out.size));have Hbz:=zh hb1;replace x0:=(HX0.out.below hb1 (zr _)).cell (i:=0) rfl;replace x1:=(HX0.out.below hb1 (zr _)).cell (i:=1) rfl;replace x2:=(HX0.out.below hb1 (zr _)).cell (i:=2) rfl;replace x3:=(HX0.out.below hb1 (zr _)).cell (i:=3) rfl;clear hb1;go_wp2_with fail
     go_ret
     exact ⟨retb (a:=false) HFz.out.symm,Hb1.out⟩
    | true =>
     obtain ⟨p,hp,hp2⟩:∃ q,(n != 0)=q/\decide (n=0) = !q:=⟨_,rfl,by rw [Bool.eq_iff_iff];simp⟩;rw [hp2] at HF1;clear hp2
     cases p with
     | true =>
      have HFz:Hid (final=false):=zh (by rw [HF1.out];rfl);go_enter Try.func102,Try.ntmps102
      go_upto_region 1 with (fail)
      rw [<- HW0.out];refine zac (fun w'=>Below W0.heap.size W0 w') (by kernel_rfl) (by kernel_rfl) ((yR _ _).drew) ?_
      repeat
       try simp only [Act.put,zs1,zs3,zs2]
       apply stepsSeq.cons
       ·intro w' hb1;have Hb1':=zh hb1;have x0':=Below.keep hb1 x0;have x1':=Below.keep hb1 x1;have x2':=Below.keep hb1 x2;have x3':=Below.keep hb1 x3;have y0':=Below.keep hb1 y0;simp only [Act.put,zs1,zs3,zs2];go_wp2_with ((first | (go_at_call 112;refine (HM.out _).mono ?_;rintro e2 w2 ⟨rfl,rfl⟩) | (go_at_call 98;refine (HNm.out _).mono ?_;rintro e2 w2 ⟨rfl,hb2⟩)))
        first | exact ⟨rfl,Hb1'.out⟩ | exact ⟨rfl,Hb1'.out.trans (hb2.mono Hb1'.out.size)⟩
      try simp only [Act.put,zs1,zs3,zs2]
      refine stepsSeq.nil ?_;intro w' hb1;have Hb1:=zh (Hb0.out.trans (hb1.mono Hb0.out.size));have Hbz:=zh hb1;replace x0:=(HX0.out.below hb1 (zr _)).cell (i:=0) rfl;replace x1:=(HX0.out.below hb1 (zr _)).cell (i:=1) rfl;replace x2:=(HX0.out.below hb1 (zr _)).cell (i:=2) rfl;replace x3:=(HX0.out.below hb1 (zr _)).cell (i:=3) rfl;clear hb1;go_wp2_with fail
      go_ret
      exact ⟨retb (a:=false) HFz.out.symm,Hb1.out⟩
     | false =>
      have HFq:Hid (final=qa):=zh (by rw [HF1.out];rfl);go_enter Try.func102,Try.ntmps102
      go_upto_region 1 with (fail)
      rw [<- HW0.out];refine zac (fun w'=>Below W0.heap.size W0 w') (by kernel_rfl) (by kernel_rfl) ((yR _ _).drew) ?_
      repeat
       try simp only [Act.put,zs1,zs3,zs2]
       apply stepsSeq.cons
       ·intro w' hb1;have Hb1':=zh hb1;have x0':=Below.keep hb1 x0;have x1':=Below.keep hb1 x1;have x2':=Below.keep hb1 x2;have x3':=Below.keep hb1 x3;have y0':=Below.keep hb1 y0;simp only [Act.put,zs1,zs3,zs2];go_wp2_with ((first | (go_at_call 112;refine (HM.out _).mono ?_;rintro e2 w2 ⟨rfl,rfl⟩) | (go_at_call 98;refine (HNm.out _).mono ?_;rintro e2 w2 ⟨rfl,hb2⟩)))
        first | exact ⟨rfl,Hb1'.out⟩ | exact ⟨rfl,Hb1'.out.trans (hb2.mono Hb1'.out.size)⟩
      try simp only [Act.put,zs1,zs3,zs2]
      refine stepsSeq.nil ?_;intro w' hb1;have Hb1:=zh (Hb0.out.trans (hb1.mono Hb0.out.size));have Hbz:=zh hb1;replace x0:=(HX0.out.below hb1 (zr _)).cell (i:=0) rfl;replace x1:=(HX0.out.below hb1 (zr _)).cell (i:=1) rfl;replace x2:=(HX0.out.below hb1 (zr _)).cell (i:=2) rfl;replace x3:=(HX0.out.below hb1 (zr _)).cell (i:=3) rfl;clear hb1;go_wp2_with fail
      refine (HC.out _ _ rfl Hbz.out).mono ?_;rintro e3 w3 ⟨rfl,hb3⟩;have Hb3:=zh (Hb1.out.trans (hb3.mono Hb1.out.size));clear hb3;go_wp2_with fail
      go_ret;exact ⟨retb (a:=qa) HFq.out.symm,Hb3.out⟩
 ·have hm1:(zbH op != (args.length:Int))=true:=by rw [bne_iff_ne];exact hm
  have Hm:=zh hm
  generalize zbH op=M at *
  clear hm;have HFz:Hid (final=false):=zh (by rw [HF.out,decide_eq_false Hm.out,Bool.false_and,Bool.false_and]);clear HF;go_enter Try.func102,Try.ntmps102
  go_upto_region 1 with (fail)
  rw [<- HW0.out];refine zac (fun w'=>Below W0.heap.size W0 w') (by kernel_rfl) (by kernel_rfl) ((yR _ _).drew) ?_
  repeat
   try simp only [Act.put,zs1,zs3,zs2]
   apply stepsSeq.cons
   ·intro w' hb1;have Hb1':=zh hb1;have x0':=Below.keep hb1 x0;have x1':=Below.keep hb1 x1;have x2':=Below.keep hb1 x2;have x3':=Below.keep hb1 x3;have y0':=Below.keep hb1 y0;simp only [Act.put,zs1,zs3,zs2];go_wp2_with ((go_at_call 112;refine (HM.out _).mono ?_;rintro e2 w2 ⟨rfl,rfl⟩))
    first | exact ⟨rfl,Hb1'.out⟩ | exact ⟨rfl,Hb1'.out.trans (hb2.mono Hb1'.out.size)⟩
  try simp only [Act.put,zs1,zs3,zs2]
  refine stepsSeq.nil ?_;intro w' hb1;have Hb1:=zh (Hb0.out.trans (hb1.mono Hb0.out.size));have Hbz:=zh hb1;replace x0:=(HX0.out.below hb1 (zr _)).cell (i:=0) rfl;replace x1:=(HX0.out.below hb1 (zr _)).cell (i:=1) rfl;replace x2:=(HX0.out.below hb1 (zr _)).cell (i:=2) rfl;replace x3:=(HX0.out.below hb1 (zr _)).cell (i:=3) rfl;clear hb1;go_wp2_with fail
  go_ret;exact ⟨retb (a:=false) HFz.out.symm,Hb1.out⟩
theorem zkz (op n:Int) (name:List UInt8) (args:List Ex) (v:Value) (w:World) (B:Nat) (hL:EsL w B args v) :
  Calls Try.prog 102 #[.agg #[.int .u8 op,.int .i64 n,.string (bstr name),v],.int .i64 0] w (zbe (zbd 0 (.mk op n name args)) w):=by
 obtain ⟨a,cap,rfl,hcc1,hcc2⟩:=hL.form;clear hL;obtain ⟨W0,hW0,hb0,hX0,hY0,hsz⟩:=zbD w [.int .u8 op,.int .i64 n,.string (bstr name),.slice a args.length cap] [.int .i64 0] 65 3;have Hb0:=zh hb0;have y0:=hY0.cell (i:=0) rfl;have HW0:=zh hW0;clear hb0 hX0 hY0 hW0;go_enter Try.func102,Try.ntmps102
 go_upto_region 1 with (fail)
 rw [<- HW0.out];refine zac (fun w'=>Below W0.heap.size W0 w') (by kernel_rfl) (by kernel_rfl) ((yR _ _).drew) ?_
 repeat
  try simp only [Act.put,zs1,zs3,zs2]
  apply stepsSeq.cons
  ·intro w' hb1;have Hb1':=zh hb1;have y0':=Below.keep hb1 y0;simp only [Act.put,zs1,zs3,zs2];go_wp2_with ((fail))
   first | exact ⟨rfl,Hb1'.out⟩ | exact ⟨rfl,Hb1'.out.trans (hb2.mono Hb1'.out.size)⟩
 try simp only [Act.put,zs1,zs3,zs2]
 refine stepsSeq.nil ?_;intro w' hb1;have Hb1:=zh (Hb0.out.trans (hb1.mono Hb0.out.size));clear hb1;go_wp2_with fail
 go_ret;exact ⟨rfl,Hb1.out⟩
theorem zhh:∀ (d:Nat),d<=41->∀ (op n:Int) (name:List UInt8) (args:List Ex) (v:Value) (w:World) (B:Nat),okE (.mk op n name args)->EsL w B args v->B<=w.heap.size ->
  Calls Try.prog 102 #[.agg #[.int .u8 op,.int .i64 n,.string (bstr name),v],.int .i64 d] w (zbe (zbd d (.mk op n name args)) w):=by
 intro d
 induction d with
 | zero=>intro _ op n name args v w B _ hL _;exact zkz op n name args v w B hL
 | succ d ih =>
  intro hd op n name args v w B hok hL hB;rw [show ((d+1:Nat):Int)=(d:Int)+1 from Int.natCast_succ d];exact zky d (by omega) (ih (by omega)) op n name args v w B hok hL hB
end Go.Proofs.Ytdeneckmoejcfaa
