/- marcheslaw12.SizeExpr and Size, walked: where the answer is at most what was left, it is the size. No program's condition but that the names are strings. -/
/- marcheslaw12.Size, walked. -/
import Derived.Test.YtoaojdobjinhfaaGreatDoorRLexY
set_option linter.unusedSimpArgs false
set_option linter.unusedVariables false
namespace Go.Proofs.YtoaojdobjinhfaaGreatDoor
open Go.RowKit

theorem bstr_sizeZ (l:List UInt8):(bstr l).size=l.length:=by simp [bstr,ByteArray.size]
set_option maxRecDepth 100000 in
set_option maxHeartbeats 1000000 in
theorem sizeE_any:∀ (m:Nat) (op n:Int) (name:List UInt8) (args:List Ex) (v:Value) (w:World) (B left:Nat),szEs args < m→okE (.mk op n name args)→EsL w B args v→B≤w.heap.size→left≤1000 →
  Calls Tryz.prog 19 #[.agg #[.int .u8 op,.int .i64 n,.string (bstr name),v],.int .i64 left] w fun e w'=>(∃ r:Nat,e=.returned (.int .i64 r)∧1≤r∧r≤left+576460752303423488∧(r≤left→r=szE (.mk op n name args)))∧Below w.heap.size w w':=by
 intro m
 induction m with
 | zero=>intro op n name args v w B left h;omega
 | succ m ih =>
  intro op n name args v w B left hm hok hL hB hl;obtain ⟨a,cap,rfl,hc1,hc2⟩:=hL.form;have hnm:name.length≤9223372036854775807:=hok.2.2.1;have hoks:okEs args:=hok.2.2.2;obtain ⟨N,hN⟩:∃ N,(bstr name).size=N:=⟨_,rfl⟩;have hN2:N=name.length:=by rw [← hN,bstr_sizeZ]
  obtain ⟨M,hM⟩:∃ M:Nat,M=N / 30:=⟨_,rfl⟩;have hq:((N:Int).tdiv 30)=M:=by rw [hM,Int.tdiv_eq_ediv_of_nonneg (by omega)];omega
  have hMb:M≤307445734561825861:=by omega
  have Hs:Hid (szE (.mk op n name args)=1+M+szEs args):=Lib.hid (by rw [szE,hM,hN2]);have Hoks:=Lib.hid hoks;have HL:=Lib.hid hL;have Hm:=Lib.hid hm;obtain ⟨W1,hW1,hX1,hb1⟩:∃ W1,W1=w.alloc (.cells #[.int .u8 op,.int .i64 n,.string (bstr name),.slice a args.length cap] 29)∧OwnV W1 w.heap.size 29 [.int .u8 op,.int .i64 n,.string (bstr name),.slice a args.length cap]∧Below w.heap.size w W1:=⟨_,rfl,OwnV.new _ _ _,(Below.refl _ _).alloc (Nat.le_refl _) _⟩;have Hb1:=Lib.hid hb1;have HX1:=Lib.hid hX1;have x2:=hX1.cell (i:=2) rfl;clear hm hok hoks hL hnm hN2 hb1 hX1;go_enter Tryz.func19,Tryz.ntmps19
  go_wp2_with fail
  rw [← hW1];clear hW1;go_loopw [5,6,12,13,14,15,16,17,18,19,20,21,22,23,24,25,26,27,28,29,30,31,32,33,34] (fun t5 t6 _ _ _ _ _ _ _ _ _ _ _ _ _ _ _ _ _ _ _ _ _ _ _ wr=>∃ (k r:Nat),k≤args.length∧t6=.int .i64 k∧t5=.int .i64 r∧1≤r∧r≤left+576460752303423488∧Hid (r≤left→r=1+M+szEs (args.take k))∧Hid (Below W1.heap.size W1 wr)) (fun _ t6 _ _ _ _ _ _ _ _ _ _ _ _ _ _ _ _ _ _ _ _ _ _ _ _=>args.length - (intOf t6).toNat)
  case atStart=>exact ⟨0,1+M,by omega,by first | rfl | go_num,by first | rfl | go_num,by omega,by omega,Lib.hid (fun _=>by simp [szEs]),Lib.hid (Below.refl _ _)⟩
  case round =>
   obtain ⟨k,r,hk,rfl,rfl,hr1,hr2,HR,HB⟩:=hrel;have hx:=HX1.out.below HB.out (Nat.le_refl _);have hx3:=hx.cell (i:=3) rfl;by_cases hkl:k < args.length
   ·have hki:(k:Int) < (args.length:Int):=by omega
    have hcl:(args.length:Int)≤9223372036854775807:=by omega
    by_cases hrl:r≤left
    ·have hLr:EsL wr B args (.slice a args.length cap):=HL.out.low ((Hb1.out.mono hB).trans (HB.out.mono (Nat.le_trans hB Hb1.out.size)));obtain ⟨b,off,op2,n2,name2,args2,aa,ac,rfl,hbB,hbw,hat,c0,c1,c2,c3,hL2⟩:=hLr.at hkl;have HI:=Lib.hid (ih op2 n2 name2 args2 _ wr B (left - r) (by have:=szE_mk hat;have:=Hm.out;omega) (okEs_at Hoks.out hat) hL2 (Nat.le_trans hB (Nat.le_trans Hb1.out.size HB.out.size)) (by omega));have Hst:Hid (szEs (args.take (k+1))=szEs (args.take k)+szE (.mk op2 n2 name2 args2)):=Lib.hid (szEs_take hat)
     generalize szE (.mk op2 n2 name2 args2)=Z at *
     have hsub:(left:Int) - r=((left - r:Nat):Int):=by omega
     have hli:(r:Int)≤left:=by omega
     clear hx hLr hat hL2;go_wp2_with fail
     refine HI.out.mono ?_;rintro e2 w2 ⟨⟨r2,rfl,h1,h2,h3⟩,hb2⟩;have H3:=Lib.hid h3;have HB2:=Lib.hid (HB.out.trans (hb2.mono HB.out.size));clear h3 hb2;go_wp2_with fail
     go_roundw
     case rel=>exact ⟨k+1,r+r2,by omega,by go_num,by go_num,by omega,by omega,Lib.hid (fun h=>by have:=HR.out (by omega);have:=H3.out (by omega);have:=Hst.out;omega),HB2⟩
     case measure=>simp [intOf];omega
    ·have hli:¬ (r:Int)≤left:=by omega
     go_wp2_with fail
     go_ret;exact ⟨⟨r,rfl,hr1,hr2,fun h=>by omega⟩,Hb1.out.trans (HB.out.mono Hb1.out.size)⟩
   ·have hki:¬ (k:Int) < (args.length:Int):=by omega
    have hke:k=args.length:=by omega
    go_wp2_with fail
    go_ret;exact ⟨⟨r,rfl,hr1,hr2,fun h=>by have h2:=HR.out h;rw [hke,List.take_length] at h2;have:=Hs.out;omega⟩,Hb1.out.trans (HB.out.mono Hb1.out.size)⟩
end Go.Proofs.YtoaojdobjinhfaaGreatDoor
namespace Go.Proofs.YtoaojdobjinhfaaGreatDoor
open Go.RowKit

set_option maxRecDepth 100000 in
set_option maxHeartbeats 2000000 in
theorem size_any:∀ (m:Nat) (xs:List St) (v:Value) (w:World) (B:Nat) (left:Int),szSs xs < m→okSs xs→SsL w B xs v→B≤w.heap.size→-600000000000000000≤left→left≤1000 →
  Calls Tryz.prog 17 #[v,.int .i64 left] w fun e w'=>(∃ r:Nat,e=.returned (.int .i64 r)∧(r:Int)≤max left 0+576460752303423488∧((r:Int)≤left→r=szSs xs)∧(left < 0→r=0))∧Below w.heap.size w w':=by
 intro m
 induction m with
 | zero=>intro xs v w B left h;omega
 | succ m ih =>
  intro xs v w B left hm hok hL hB hl0 hl;obtain ⟨a,cap,rfl,hc1,hc2⟩:=hL.form;have Hoks:=Lib.hid hok;have HL:=Lib.hid hL;have Hm:=Lib.hid hm;have Hih:=Lib.hid ih;clear hm hok hL ih;go_enter Tryz.func17,Tryz.ntmps17
  go_wp2_with fail
  go_loopw [5,6,7,8,9,10,11,12,13,14,15,16,17,18,19,20,21,22,23,24,25,26,27,28,29,30,31,32,33,34,35,36,37,38,39,40,41,42,43,44,45,46,47,48,49,50,51,52,53,54,55,56,57,58,59,60,61,62,63,64,65,66,67,68,69,70,71,72,73,74,75,76,77,78,79] (fun t5 t6 _ _ _ _ _ _ _ _ _ _ _ _ _ _ _ _ _ _ _ _ _ _ _ _ _ _ _ _ _ _ _ _ _ _ _ _ _ _ _ _ _ _ _ _ _ _ _ _ _ _ _ _ _ _ _ _ _ _ _ _ _ _ _ _ _ _ _ _ _ _ _ _ _ wr=>∃ (k r:Nat),k≤xs.length∧t6=.int .i64 k∧t5=.int .i64 r∧(r:Int)≤max left 0+576460752303423488∧Hid ((r:Int)≤left→r=szSs (xs.take k))∧(left < 0→r=0)∧Hid (Below w.heap.size w wr)) (fun _ t6 _ _ _ _ _ _ _ _ _ _ _ _ _ _ _ _ _ _ _ _ _ _ _ _ _ _ _ _ _ _ _ _ _ _ _ _ _ _ _ _ _ _ _ _ _ _ _ _ _ _ _ _ _ _ _ _ _ _ _ _ _ _ _ _ _ _ _ _ _ _ _ _ _ _=>xs.length - (intOf t6).toNat)
  case atStart=>exact ⟨0,0,by omega,by first | rfl | go_num,by first | rfl | go_num,by omega,Lib.hid (fun _=>by simp [szSs]),fun _=>rfl,Lib.hid (Below.refl _ _)⟩
  case round =>
   obtain ⟨wo,rfl⟩:∃ wo:World,wo=wr:=⟨_,rfl⟩;obtain ⟨k,r,hk,rfl,rfl,hr2,HR,hneg,HB⟩:=hrel;by_cases hkl:k < xs.length
   ·have hki:(k:Int) < (xs.length:Int):=by omega
    have hcl:(xs.length:Int)≤9223372036854775807:=by omega
    by_cases hrl:(r:Int)≤left
    ·have hLr:SsL wo B xs (.slice a xs.length cap):=HL.out.low (HB.out.mono hB);obtain ⟨b,off,op2,n2,name2,es,body,els,ae,ce,ab,cb,al,cl,rfl,hbB,hbw,hat,c0,c1,c2,c3,c4,c5,hE,hBd,hEl⟩:=hLr.at hkl;obtain ⟨hz1,hz2,hz3⟩:=szS_mk hat;obtain ⟨-,-,hnm,hok1,hok2,hok3⟩:=okSs_at Hoks.out hat;have hszr:=HB.out.size;obtain ⟨N,hN⟩:∃ N,(bstr name2).size=N:=⟨_,rfl⟩;have hN2:N=name2.length:=by rw [← hN,bstr_sizeZ]
     obtain ⟨M,hM⟩:∃ M:Nat,M=N / 30:=⟨_,rfl⟩;have hq:((N:Int).tdiv 30)=M:=by rw [hM,Int.tdiv_eq_ediv_of_nonneg (by omega)];omega
     have hMb:M≤307445734561825861:=by omega
     have Hst:Hid (szSs (xs.take (k+1))=szSs (xs.take k)+(1+M+szEs es+szSs body+szSs els)):=Lib.hid (by rw [szSs_take hat,szS,hM,hN2]);have hle:(es.length:Int)≤9223372036854775807:=by obtain ⟨_,_,h,h1,h2⟩:=hE.form;omega
     have Hok1:=Lib.hid hok1;have HE:=Lib.hid hE;have HBd:Hid (∀ (w':World) (l':Int),Below wo.heap.size wo w'→-600000000000000000≤l'→l'≤1000→Calls Tryz.prog 17 #[.slice ab body.length cb,.int .i64 l'] w' _):=Lib.hid (fun w' l' hb h1 h2=>Hih.out body _ w' B l' (by have:=Hm.out;omega) hok2 (hBd.low (hb.mono (Nat.le_trans hB hszr))) (Nat.le_trans hB (Nat.le_trans hszr hb.size)) h1 h2);have HEl:Hid (∀ (w':World) (l':Int),Below wo.heap.size wo w'→-600000000000000000≤l'→l'≤1000→Calls Tryz.prog 17 #[.slice al els.length cl,.int .i64 l'] w' _):=Lib.hid (fun w' l' hb h1 h2=>Hih.out els _ w' B l' (by have:=Hm.out;omega) hok3 (hEl.low (hb.mono (Nat.le_trans hB hszr))) (Nat.le_trans hB (Nat.le_trans hszr hb.size)) h1 h2);have C3:=Lib.hid c3;have C4:=Lib.hid c4;have C5:=Lib.hid c5;clear hLr hat hz1 hz2 hz3 hnm hok1 hok2 hok3 hE hBd hEl hN2 hM;go_wp2_with fail
     go_loopw [5,7,29,30,31,32,33,34,35,36,37,38,39,40,41,42,43,44,45,46,47,48,49,50,51,52,53,54,55,56,57] (fun t5 t7 _ _ _ _ _ _ _ _ _ _ _ _ _ _ _ _ _ _ _ _ _ _ _ _ _ _ _ _ _ wr=>∃ (j s:Nat),j≤es.length∧t7=.int .i64 j∧t5=.int .i64 s∧(s:Int)≤left+576460752303423488∧Hid ((s:Int)≤left→s=r+(1+M+szEs (es.take j)))∧Hid (Below wo.heap.size wo wr)) (fun _ t7 _ _ _ _ _ _ _ _ _ _ _ _ _ _ _ _ _ _ _ _ _ _ _ _ _ _ _ _ _ _=>es.length - (intOf t7).toNat)
     case atStart=>exact ⟨0,r+(1+M),by omega,by first | rfl | go_num,by first | rfl | go_num,by omega,Lib.hid (fun _=>by simp [szEs]),Lib.hid (Below.refl _ _)⟩
     case round =>
      obtain ⟨j,s,hj,rfl,rfl,hs2,HS,HB2⟩:=hrel;have c3:=Below.keep HB2.out C3.out;by_cases hjl:j < es.length
      ·have hji:(j:Int) < (es.length:Int):=by omega
       by_cases hsl:(s:Int)≤left
       ·have hLe:EsL wr B es (.slice ae es.length ce):=HE.out.low (HB2.out.mono (Nat.le_trans hB hszr));obtain ⟨be,oe,op3,n3,name3,args,aa,ac,rfl,hbB3,hbw3,hat3,d0,d1,d2,d3,hL3⟩:=hLe.at hjl;obtain ⟨sub,hsub⟩:∃ sub:Nat,left - s=(sub:Int):=⟨(left - s).toNat,by omega⟩;have HI:=Lib.hid (sizeE_any _ op3 n3 name3 args _ wr B sub (Nat.lt_succ_self _) (okEs_at Hok1.out hat3) hL3 (Nat.le_trans hB (Nat.le_trans hszr HB2.out.size)) (by omega));have Hst3:Hid (szEs (es.take (j+1))=szEs (es.take j)+szE (.mk op3 n3 name3 args)):=Lib.hid (szEs_take hat3)
        generalize szE (.mk op3 n3 name3 args)=Z at *
        clear hLe hat3 hL3;go_wp2_with fail
        refine HI.out.mono ?_;rintro e2 w2 ⟨⟨r2,rfl,h1,h2,h3⟩,hb2⟩;have H3:=Lib.hid h3;have HB3:=Lib.hid (HB2.out.trans (hb2.mono HB2.out.size));clear h3 hb2;go_wp2_with fail
        go_roundw
        case rel=>exact ⟨j+1,s+r2,by omega,by go_num,by go_num,by omega,Lib.hid (fun h=>by have:=HS.out (by omega);have:=H3.out (by omega);have:=Hst3.out;omega),HB3⟩
        case measure=>simp [intOf];omega
       ·have hsi:¬ (s:Int)≤left:=by omega
        have HS2:Hid ((s:Int)≤left→s=r+(1+M+szEs es)):=Lib.hid (fun h=>by omega);have c4:=Below.keep HB2.out C4.out;go_wp2_with fail
        refine (HBd.out _ _ HB2.out (by omega) (by omega)).mono ?_;rintro e4 w4 ⟨⟨r4,rfl,h41,h42,h43⟩,hb4⟩;have H42:=Lib.hid h42;have HB4:=Lib.hid (HB2.out.trans (hb4.mono HB2.out.size));have c5:=Below.keep HB4.out C5.out;clear h42 hb4 c4;go_wp2_with fail
        refine (HEl.out _ _ HB4.out (by omega) (by omega)).mono ?_;rintro e5 w5 ⟨⟨r5,rfl,h51,h52,h53⟩,hb5⟩;have H52:=Lib.hid h52;have HB5:=Lib.hid (HB.out.trans ((HB4.out.trans (hb5.mono HB4.out.size)).mono hszr));clear h52 hb5 c5;go_wp2_with fail
        go_roundw
        case rel=>exact ⟨k+1,s+r4+r5,by omega,by go_num,by go_num,by omega,Lib.hid (fun h=>by have:=HR.out hrl;have:=HS2.out (by omega);have:=H42.out (by omega);have:=H52.out (by omega);have:=Hst.out;omega),fun h=>by omega,HB5⟩
        case measure=>simp [intOf];omega
      ·have hji:¬ (j:Int) < (es.length:Int):=by omega
       have hje:j=es.length:=by omega
       have HS2:Hid ((s:Int)≤left→s=r+(1+M+szEs es)):=Lib.hid (fun h=>by have h2:=HS.out h;rw [hje,List.take_length] at h2;exact h2);have c4:=Below.keep HB2.out C4.out;go_wp2_with fail
       refine (HBd.out _ _ HB2.out (by omega) (by omega)).mono ?_;rintro e4 w4 ⟨⟨r4,rfl,h41,h42,h43⟩,hb4⟩;have H42:=Lib.hid h42;have HB4:=Lib.hid (HB2.out.trans (hb4.mono HB2.out.size));have c5:=Below.keep HB4.out C5.out;clear h42 hb4 c4;go_wp2_with fail
       refine (HEl.out _ _ HB4.out (by omega) (by omega)).mono ?_;rintro e5 w5 ⟨⟨r5,rfl,h51,h52,h53⟩,hb5⟩;have H52:=Lib.hid h52;have HB5:=Lib.hid (HB.out.trans ((HB4.out.trans (hb5.mono HB4.out.size)).mono hszr));clear h52 hb5 c5;go_wp2_with fail
       go_roundw
       case rel=>exact ⟨k+1,s+r4+r5,by omega,by go_num,by go_num,by omega,Lib.hid (fun h=>by have:=HR.out hrl;have:=HS2.out (by omega);have:=H42.out (by omega);have:=H52.out (by omega);have:=Hst.out;omega),fun h=>by omega,HB5⟩
       case measure=>simp [intOf];omega
    ·have hli:¬ (r:Int)≤left:=by omega
     go_wp2_with fail
     go_ret;exact ⟨⟨r,rfl,hr2,fun h=>by omega,hneg⟩,HB.out⟩
   ·have hki:¬ (k:Int) < (xs.length:Int):=by omega
    have hke:k=xs.length:=by omega
    go_wp2_with fail
    go_ret;exact ⟨⟨r,rfl,hr2,fun h=>by have h2:=HR.out h;rw [hke,List.take_length] at h2;exact h2,hneg⟩,HB.out⟩
end Go.Proofs.YtoaojdobjinhfaaGreatDoor
