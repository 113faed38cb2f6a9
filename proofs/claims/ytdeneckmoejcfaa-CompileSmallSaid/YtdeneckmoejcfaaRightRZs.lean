/- marchesref12.right and Printable, walked: they say which statements are printable. -/
import Derived.Test.YtdeneckmoejcfaaFineRZs
import Derived.Test.YtdeneckmoejcfaaKitCZs
set_option linter.unusedSimpArgs false
set_option linter.unusedVariables false
set_option maxRecDepth 100000
set_option maxHeartbeats 16000000
namespace Go.Proofs.Ytdeneckmoejcfaa
open Go.RowKit

theorem headT_ref {op n:Int} {name:List UInt8} {le lb ll:Nat} (h:1<=op/\op<=7):zbA op n name le lb ll=(decide (le=zfg op) && ((if op<=2 then zaP name else decide (name=[])) && ((if op=3 then decide (1<=n/\n<=10) else decide (n=0)) && decide ((lb=0∨op=4∨op=5)/\(ll=0∨op=4))))):=by
 unfold zbA;rw [decide_eq_true h,Bool.true_and,<- Bool.decide_and]
theorem right_step (d:Nat) (hd:d<=40) (ih:∀ (l:List St) (v:Value) (w:World) (B:Nat),okSs l->SsL w B l v->B<=w.heap.size->Calls Try.prog 56 #[v,.int .i64 d] w (zbe (zaJ d l) w))
  (l:List St) (v:Value) (w:World) (B:Nat) (hok:okSs l) (hL:SsL w B l v) (hB:B<=w.heap.size) :
  Calls Try.prog 56 #[v,.int .i64 ((d:Int)+1)] w (zbe (zaJ (d+1) l) w):=by
 obtain ⟨a,cap,rfl,hcc1,hcc2⟩:=hL.form;have Hih:=zh ih;have HL:=zh hL;have Hoks:=zh hok;obtain ⟨final,hfin⟩:∃ q,zaJ (d+1) l=q:=⟨_,rfl⟩;have HF:Hid (final=l.all (zh2 d)):=zh (by rw [<- hfin,zfn]);rw [hfin];have hd1:((d:Int)+1 == 0)=false:=by rw [beq_eq_false_iff_ne];omega
 clear hok hL ih hfin;go_enter Try.func56,Try.ntmps56
 go_wp2_with fail
 go_loopw [4,5,6,7,8,9,10,11,12,13,14,15,16,17,18,19,20,21,22,23,24,25,26,27,28,29,30,31,32,33,34,35,36,37,38,39,40,41,42,43,44,45,46,47,48,49,50,51,52,53,54,55,56,57,58,59,60,61,62,63,64,65,66,67,68,69,70,71,72,73,74,75,76,77,78,79,80,81,82,83,84,85,86,87,88,89,90,91,92,93,94,95,96,97,98,99,100,101,102,103,104,105,106,107,108,109,110,111,112,113,114,115,116,117,118,119,120,121,122,123,124,125,126,127,128,129,130,131,132,133,134,135,136,137,138,139,140,141,142] (fun _ t5 _ _ _ _ _ _ _ _ _ _ _ _ _ _ _ _ _ _ _ _ _ _ _ _ _ _ _ _ _ _ _ _ _ _ _ _ _ _ _ _ _ _ _ _ _ _ _ _ _ _ _ _ _ _ _ _ _ _ _ _ _ _ _ _ _ _ _ _ _ _ _ _ _ _ _ _ _ _ _ _ _ _ _ _ _ _ _ _ _ _ _ _ _ _ _ _ _ _ _ _ _ _ _ _ _ _ _ _ _ _ _ _ _ _ _ _ _ _ _ _ _ _ _ _ _ _ _ _ _ _ _ _ _ _ _ _ _ wr=>∃ (k:Nat),k<=l.length/\t5=.int .i64 k/\Hid ((l.take k).all (zh2 d)=true)/\Hid (Below w.heap.size w wr)) (fun _ t5 _ _ _ _ _ _ _ _ _ _ _ _ _ _ _ _ _ _ _ _ _ _ _ _ _ _ _ _ _ _ _ _ _ _ _ _ _ _ _ _ _ _ _ _ _ _ _ _ _ _ _ _ _ _ _ _ _ _ _ _ _ _ _ _ _ _ _ _ _ _ _ _ _ _ _ _ _ _ _ _ _ _ _ _ _ _ _ _ _ _ _ _ _ _ _ _ _ _ _ _ _ _ _ _ _ _ _ _ _ _ _ _ _ _ _ _ _ _ _ _ _ _ _ _ _ _ _ _ _ _ _ _ _ _ _ _ _ _=>l.length - (intOf t5).toNat)
 case atStart=>exact ⟨0,by omega,by first | rfl | go_num,zh (by simp),zh (yR _ _)⟩
 case round =>
  obtain ⟨wo,rfl⟩:∃ wo:World,wo=wr:=⟨_,rfl⟩;obtain ⟨k,hk,rfl,HA,HB⟩:=hrel;by_cases hkl:k < l.length
  ·have hki:(k:Int) < (l.length:Int):=by omega
   have hcl:(l.length:Int)<=9223372036854775807:=by omega
   have hszr:=HB.out.size;have hLr:SsL wo B l (.slice a l.length cap):=HL.out.low (HB.out.mono hB);obtain ⟨b,off,op,n,name,es,body,els,ae,ce,ab,cb,al,cl,rfl,hbB,hbw,hat,c0,c1,c2,c3,c4,c5,hE,hBd,hEl⟩:=hLr.at hkl;obtain ⟨-,-,-,hok1,hok2,hok3⟩:=znr Hoks.out hat;have Hal:=zh (all_take hat HA.out);have HR:Hid (zh2 d (.mk op n name es body els)=((zaJ d body && zaJ d els) && (zbA op n name es.length body.length els.length && es.all (zbd 40)))):=zh rfl
   generalize zh2 d (.mk op n name es body els)=q at *
   have HBd:Hid (∀ (w':World),Below wo.heap.size wo w'->Calls Try.prog 56 #[.slice ab body.length cb,.int .i64 d] w' _):=zh (fun w' hb=>Hih.out body _ w' B hok2 (hBd.low (hb.mono (yT hB hszr))) (yT hB (yT hszr hb.size)));have HEl:Hid (∀ (w':World),Below wo.heap.size wo w'->Calls Try.prog 56 #[.slice al els.length cl,.int .i64 d] w' _):=zh (fun w' hb=>Hih.out els _ w' B hok3 (hEl.low (hb.mono (yT hB hszr))) (yT hB (yT hszr hb.size)))
   generalize zaJ d body=qb at *
   generalize zaJ d els=ql at *
   have HE:Hid (∀ (w':World),Below wo.heap.size wo w'->EsL w' B es (.slice ae es.length ce)):=zh (fun w' hb=>hE.low (hb.mono (yT hB hszr)));have hfe:=hE.form;obtain ⟨_,_,_,hlce,hlce2⟩:=hfe;obtain ⟨_,_,_,hlcb,hlcb2⟩:=hBd.form;obtain ⟨_,_,_,hlcl,hlcl2⟩:=hEl.form;have HFi:Hid (∀ (op n:Int) (name:List UInt8) (args:List Ex) (v:Value) (w':World),okE (.mk op n name args)->EsL w' B args v->B<=w'.heap.size->Calls Try.prog 69 #[.agg #[.int .u8 op,.int .i64 n,.string (bstr name),v],.int .i64 40] w' _):=zh (fun op n name args v w' h1 h2 h3=>fine_any 40 (by omega) op n name args v w' B h1 h2 h3);have Hok1:=zh hok1;have HNm:Hid (∀ w:World,_):=zh (fun w:World=>zfU name w);obtain ⟨W1,hW1,hX1,hb1⟩:∃ W1,W1=wo.alloc (.cells #[.int .u8 op,.int .i64 n,.string (bstr name),.slice ae es.length ce,.slice ab body.length cb,.slice al els.length cl] 59)/\OwnV W1 wo.heap.size 59 [.int .u8 op,.int .i64 n,.string (bstr name),.slice ae es.length ce,.slice ab body.length cb,.slice al els.length cl]/\Below wo.heap.size wo W1:=⟨_,rfl,OwnV.new _ _ _,(yR _ _).alloc (zr _) _⟩;have Hb1:=zh hb1;have HX1:=zh hX1;have HW1:=zh hW1;have x0:=hX1.cell (i:=0) rfl;have x4:=hX1.cell (i:=4) rfl;have HFq:Hid (q=false->final=false):=zh (fun h=>by rw [HF.out,Hal.out.2 h]);clear hLr hE hBd hEl hok1 hok2 hok3 hat hW1 hX1 hb1;by_cases hrg:1<=op/\op<=7
   ·obtain ⟨hr1,hr7⟩:=hrg;go_upto_region 5 with (fail)
    rw [<- HW1.out];go_wp2_with fail
    refine (HBd.out _ Hb1.out).mono ?_;rintro e2 w2 ⟨rfl,hb2⟩;have HX2:=zh (HX1.out.below hb2 (zr _));have Hb2:=zh (Hb1.out.trans (hb2.mono Hb1.out.size));have x5:=HX2.out.cell (i:=5) rfl;clear hb2 x0 x4
    cases qb with
    | false =>
     have HFz:Hid (final=false):=zh (HFq.out (by rw [HR.out,Bool.false_and,Bool.false_and]));go_wp2_with fail
     go_ret
     exact ⟨retb (a:=false) HFz.out.symm,HB.out.trans (Hb2.out.mono hszr)⟩
    | true =>
    go_wp2_with fail
    refine (HEl.out _ Hb2.out).mono ?_;rintro e3 w3 ⟨rfl,hb3⟩;have HX4:=zh (HX2.out.below hb3 (zr _));have Hb4:=zh (Hb2.out.trans (hb3.mono Hb2.out.size));clear hb3 x5
    cases ql with
    | false =>
     have HFz:Hid (final=false):=zh (HFq.out (by rw [HR.out,Bool.and_false,Bool.false_and]));go_wp2_with fail
     go_ret
     exact ⟨retb (a:=false) HFz.out.symm,HB.out.trans (Hb4.out.mono hszr)⟩
    | true =>
    obtain ⟨x0,x1,x2,x3,x4,x5⟩:=yc6 HX4.out;obtain ⟨qm,Hqm⟩:∃ q,Hid (decide (es.length=zfg op)=q):=⟨_,zh rfl⟩;obtain ⟨qn,Hqn⟩:∃ q,Hid ((if op<=2 then zaP name else decide (name=[]))=q):=⟨_,zh rfl⟩;obtain ⟨qc,Hqc⟩:∃ q,Hid ((if op=3 then decide (1<=n/\n<=10) else decide (n=0))=q):=⟨_,zh rfl⟩;obtain ⟨qp,Hqp⟩:∃ q,Hid (decide ((body.length=0∨op=4∨op=5)/\(els.length=0∨op=4))=q):=⟨_,zh rfl⟩;replace HR:Hid (q=((qm && (qn && (qc && qp))) && es.all (zbd 40))):=zh (by rw [HR.out,headT_ref ⟨hr1,hr7⟩,Hqm.out,Hqn.out,Hqc.out,Hqp.out];rfl);have Hm:=zh (cnt_ne Hqm.out);go_upto_region 7 with (fail)
    rcases (show op<=2∨op=3∨op=4∨op=5∨6<=op by omega) with hc | hc | hc | hc | hc
    all_goals
     first | have e3:(op == 3)=true:=by rw [beq_iff_eq];omega | have e3:(op == 3)=false:=by rw [beq_eq_false_iff_ne];omega
     first | have m3:(op != 3)=true:=by rw [bne_iff_ne];omega | have m3:(op != 3)=false:=by rw [bne_eq_false_iff_eq];omega
     first | have m4:(op != 4)=true:=by rw [bne_iff_ne];omega | have m4:(op != 4)=false:=by rw [bne_eq_false_iff_eq];omega
     first | have m5:(op != 5)=true:=by rw [bne_iff_ne];omega | have m5:(op != 5)=false:=by rw [bne_eq_false_iff_eq];omega
     first | have g5:op<=5:=by omega | have g5:5 < op:=by omega
     first | have g2:op<=2:=by omega | have g2:2 < op:=by omega
     first | rw [yP (by omega)] at Hqn;rw [Hqn.out] at HNm | rw [yN (by omega)] at Hqn
     first | rw [yP (by omega)] at Hqc | rw [yN (by omega)] at Hqc
     first | have hm:zfg op=0:=by unfold zfg;split <;> (try split) <;> omega | have hm:zfg op=1:=by unfold zfg;split <;> (try split) <;> omega | have hm:zfg op=2:=by unfold zfg;split <;> (try split) <;> omega
     first | have hln:=Hm.out 0 (by rw [hm];rfl) | have hln:=Hm.out 1 (by rw [hm];rfl) | have hln:=Hm.out 2 (by rw [hm];rfl)
     rw [hm] at Hqm;have Hop:=zh hc;clear Hm hm hc;go_upto_region 12 with (fail)
     simp only [List.append_eq,List.cons_append,List.nil_append]
     cases qm with
     | false =>
      replace hln:_=true:=hln;have HFz:Hid (final=false):=zh (HFq.out (by simpa using HR.out));clear HR;go_wp2_with (go_at_call 68;refine (HNm.out _).mono ?_;rintro e4 w4 ⟨rfl,hb4⟩;have Hb4:=zh (Hb4.out.trans (hb4.mono Hb4.out.size));have HX4:=zh (HX4.out.below hb4 (zr _));clear hb4 x0 x1 x2 x3 x4 x5;obtain ⟨x0,x1,x2,x3,x4,x5⟩:=yc6 HX4.out)
      go_ret
      exact ⟨retb (a:=false) HFz.out.symm,HB.out.trans (Hb4.out.mono hszr)⟩
     | true =>
     replace hln:_=false:=hln;have Hl:=zh (of_decide_eq_true Hqm.out)
     cases qn with
     | false =>
      try have hs:¬ (bstr name).toList=[]:=fun h=>of_decide_eq_false Hqn.out (str_nil.1 h)
      have HFz:Hid (final=false):=zh (HFq.out (by simpa using HR.out));clear HR;go_wp2_with (go_at_call 68;refine (HNm.out _).mono ?_;rintro e4 w4 ⟨rfl,hb4⟩;have Hb4:=zh (Hb4.out.trans (hb4.mono Hb4.out.size));have HX4:=zh (HX4.out.below hb4 (zr _));clear hb4 x0 x1 x2 x3 x4 x5;obtain ⟨x0,x1,x2,x3,x4,x5⟩:=yc6 HX4.out)
      go_ret
      exact ⟨retb (a:=false) HFz.out.symm,HB.out.trans (Hb4.out.mono hszr)⟩
     | true =>
     try have hs:(bstr name).toList=[]:=str_nil.2 (of_decide_eq_true Hqn.out)
     cases qc with
     | false =>
      have hz:=of_decide_eq_false Hqc.out;try have z3:(n != 0)=true:=by rw [bne_iff_ne];omega
      have HFz:Hid (final=false):=zh (HFq.out (by simpa using HR.out));clear HR;by_cases z1:n < 1
      all_goals first | omega | skip
      all_goals
       try have z2:10 < n:=by omega
       go_wp2_with (go_at_call 68;refine (HNm.out _).mono ?_;rintro e4 w4 ⟨rfl,hb4⟩;have Hb4:=zh (Hb4.out.trans (hb4.mono Hb4.out.size));have HX4:=zh (HX4.out.below hb4 (zr _));clear hb4 x0 x1 x2 x3 x4 x5;obtain ⟨x0,x1,x2,x3,x4,x5⟩:=yc6 HX4.out)
       go_ret
       exact ⟨retb (a:=false) HFz.out.symm,HB.out.trans (Hb4.out.mono hszr)⟩
     | true =>
     have hz:=of_decide_eq_true Hqc.out;try have z1:¬ n < 1:=by omega
     try have z2:¬ 10 < n:=by omega
     try have z3:(n != 0)=false:=by rw [bne_eq_false_iff_eq];omega
     clear hz
     cases qp with
     | false =>
      have hp:=of_decide_eq_false Hqp.out;have hop:=Hop.out;have HFz:Hid (final=false):=zh (HFq.out (by simpa using HR.out));clear HR;by_cases hbd:0 < body.length
      all_goals
       first | have hbd1:(body.length:Int) > 0:=by omega | have hbd1:¬ (body.length:Int) > 0:=by omega
       first | have hel:0 < els.length:=by omega | have hel:¬ 0 < els.length:=by omega | by_cases hel:0 < els.length
      all_goals
       first | have hel1:(els.length:Int) > 0:=by omega | have hel1:¬ (els.length:Int) > 0:=by omega
       first | omega | skip
      all_goals
       clear hop hp;go_wp2_with (go_at_call 68;refine (HNm.out _).mono ?_;rintro e4 w4 ⟨rfl,hb4⟩;have Hb4:=zh (Hb4.out.trans (hb4.mono Hb4.out.size));have HX4:=zh (HX4.out.below hb4 (zr _));clear hb4 x0 x1 x2 x3 x4 x5;obtain ⟨x0,x1,x2,x3,x4,x5⟩:=yc6 HX4.out)
       go_ret
       exact ⟨retb (a:=false) HFz.out.symm,HB.out.trans (Hb4.out.mono hszr)⟩
     | true =>
     have hp:=of_decide_eq_true Hqp.out;have hop:=Hop.out;replace HR:Hid (q=es.all (zbd 40)):=zh (by rw [HR.out];rfl);by_cases hbd:0 < body.length
     all_goals
      first | have hbd1:(body.length:Int) > 0:=by omega | have hbd1:¬ (body.length:Int) > 0:=by omega
      by_cases hel:0 < els.length
     all_goals
      first | have hel1:(els.length:Int) > 0:=by omega | have hel1:¬ (els.length:Int) > 0:=by omega
      first | omega | skip
     all_goals
      clear hop hp;go_upto_region 14 with (go_at_call 68;refine (HNm.out _).mono ?_;rintro e4 w4 ⟨rfl,hb4⟩;have Hb4:=zh (Hb4.out.trans (hb4.mono Hb4.out.size));have HX4:=zh (HX4.out.below hb4 (zr _));clear hb4 x0 x1 x2 x3 x4 x5;obtain ⟨x0,x1,x2,x3,x4,x5⟩:=yc6 HX4.out)
      go_wp2_with fail
      go_loopw [4,8,131,132,133,134,135,136,137,138,139,140,141,142] (fun _ t8 _ _ _ _ _ _ _ _ _ _ _ _ wr=>∃ (j:Nat),j<=es.length/\t8=.int .i64 j/\Hid ((es.take j).all (zbd 40)=true)/\Hid (Below wo.heap.size wo wr)/\Hid (OwnV wr wo.heap.size 59 [.int .u8 op,.int .i64 n,.string (bstr name),.slice ae es.length ce,.slice ab body.length cb,.slice al els.length cl])) (fun _ t8 _ _ _ _ _ _ _ _ _ _ _ _ _=>es.length - (intOf t8).toNat)
      case atStart=>exact ⟨0,by omega,by first | rfl | go_num,zh (by simp),Hb4,HX4⟩
      case round =>
       obtain ⟨j,hj,rfl,HA2,HB2,HXr⟩:=hrel;have hx3:=HXr.out.cell (i:=3) rfl;have hlo:=Hl.out;first | have k0:(j:Int) < 0:=by omega | have k0:¬ (j:Int) < 0:=by omega
       by_cases hjl:j < es.length
       ·first | omega | skip
        all_goals
         try have k1:(j:Int) < 1:=by omega
         try have k2:(j:Int) < 2:=by omega
         have hji2:(j:Int) < (es.length:Int):=by omega
         have hcl2:(es.length:Int)<=9223372036854775807:=by omega
         obtain ⟨be,oe,op2,n2,name2,args2,aa,ac,rfl,hbB2,hbw2,hat2,d0,d1,d2,d3,hL2⟩:=(HE.out _ HB2.out).at hjl;have HI:=zh (HFi.out op2 n2 name2 args2 _ wr (zgR Hok1.out hat2) hL2 (yT hB (yT hszr HB2.out.size)));have Hal2:=zh (all_take hat2 HA2.out)
         generalize zbd 40 (.mk op2 n2 name2 args2)=qf at *
         clear hat2 hL2 hlo;go_wp2_with fail
         refine HI.out.mono ?_;rintro e6 w6 ⟨rfl,hb6⟩;have Hb6:=zh (HB2.out.trans (hb6.mono HB2.out.size));have HX6:=zh (HXr.out.below hb6 (zr _));clear hb6
         cases qf with
         | false =>
          have HFz:Hid (final=false):=zh (HFq.out (by rw [HR.out,Hal2.out.2 rfl]));clear Hal2;go_wp2_with fail
          go_ret
          exact ⟨retb (a:=false) HFz.out.symm,HB.out.trans (Hb6.out.mono hszr)⟩
         | true =>
          have HA3:=zh (Hal2.out.1 rfl);clear Hal2;go_wp2_with fail
          go_roundw
          case rel=>exact ⟨j+1,by omega,by go_num,HA3,Hb6,HX6⟩
          case measure=>simp [intOf];omega
       ·try have k1:¬ (j:Int) < 1:=by omega
        try have k2:¬ (j:Int) < 2:=by omega
        have hje:j=es.length:=by omega
        have Hq:Hid (q=true):=zh (by have:=HA2.out;rw [hje,List.take_length] at this;rw [HR.out,this]);have HA3:=zh (Hal.out.1 Hq.out);have HB3:=zh (HB.out.trans (HB2.out.mono hszr));clear Hq HR Hal HFq hlo;go_wp2_with fail
        go_roundw
        case rel=>exact ⟨k+1,by omega,by go_num,HA3,HB3⟩
        case measure=>simp [intOf];omega
   ·have HFz:Hid (final=false):=zh (HFq.out (by rw [HR.out,zk3 _ _ _ _ _ _ hrg,Bool.false_and,Bool.and_false]));by_cases h1:op < 1
    all_goals
     try have h2:7 < op:=by omega
     go_upto_region 5 with (fail)
     rw [<- HW1.out];go_wp2_with fail
     go_ret;exact ⟨retb (a:=false) HFz.out.symm,HB.out.trans ((Hb1.out).mono hszr)⟩
  ·have hki:¬ (k:Int) < (l.length:Int):=by omega
   have hke:k=l.length:=by omega
   have HFt:Hid (final=true):=zh (by have:=HA.out;rw [hke,List.take_length] at this;rw [HF.out,this]);clear HF;go_wp2_with fail
   go_ret;exact ⟨retb (a:=true) HFt.out.symm,HB.out⟩
theorem right_zero (l:List St) (v:Value) (w:World) (B:Nat) (hL:SsL w B l v) :
  Calls Try.prog 56 #[v,.int .i64 0] w (zbe (zaJ 0 l) w):=by
 obtain ⟨a,cap,rfl,hcc1,hcc2⟩:=hL.form;have HL:=zh hL;obtain ⟨final,hfin⟩:∃ q,zaJ 0 l=q:=⟨_,rfl⟩;have HF:Hid (final=l.isEmpty):=zh (by rw [<- hfin,zaJ]);rw [hfin];clear hL hfin;go_enter Try.func56,Try.ntmps56
 go_wp2_with fail
 go_loopw [4,5,6,7,8,9,10,11,12,13,14,15,16,17,18,19,20,21,22,23,24,25,26,27,28,29,30,31,32,33,34,35,36,37,38,39,40,41,42,43,44,45,46,47,48,49,50,51,52,53,54,55,56,57,58,59,60,61,62,63,64,65,66,67,68,69,70,71,72,73,74,75,76,77,78,79,80,81,82,83,84,85,86,87,88,89,90,91,92,93,94,95,96,97,98,99,100,101,102,103,104,105,106,107,108,109,110,111,112,113,114,115,116,117,118,119,120,121,122,123,124,125,126,127,128,129,130,131,132,133,134,135,136,137,138,139,140,141,142] (fun _ t5 _ _ _ _ _ _ _ _ _ _ _ _ _ _ _ _ _ _ _ _ _ _ _ _ _ _ _ _ _ _ _ _ _ _ _ _ _ _ _ _ _ _ _ _ _ _ _ _ _ _ _ _ _ _ _ _ _ _ _ _ _ _ _ _ _ _ _ _ _ _ _ _ _ _ _ _ _ _ _ _ _ _ _ _ _ _ _ _ _ _ _ _ _ _ _ _ _ _ _ _ _ _ _ _ _ _ _ _ _ _ _ _ _ _ _ _ _ _ _ _ _ _ _ _ _ _ _ _ _ _ _ _ _ _ _ _ _ wr=>t5=.int .i64 0/\wr=w) (fun _ _ _ _ _ _ _ _ _ _ _ _ _ _ _ _ _ _ _ _ _ _ _ _ _ _ _ _ _ _ _ _ _ _ _ _ _ _ _ _ _ _ _ _ _ _ _ _ _ _ _ _ _ _ _ _ _ _ _ _ _ _ _ _ _ _ _ _ _ _ _ _ _ _ _ _ _ _ _ _ _ _ _ _ _ _ _ _ _ _ _ _ _ _ _ _ _ _ _ _ _ _ _ _ _ _ _ _ _ _ _ _ _ _ _ _ _ _ _ _ _ _ _ _ _ _ _ _ _ _ _ _ _ _ _ _ _ _ _ _=>0)
 case atStart=>exact ⟨by first | rfl | go_num,rfl⟩
 case round =>
  obtain ⟨rfl,rfl⟩:=hrel;by_cases hkl:0 < l.length
  ·have hki:(0:Int) < (l.length:Int):=by omega
   obtain ⟨b,off,op,n,name,es,body,els,ae,ce,ab,cb,al,cl,rfl,hbB,hbw,hat,c0,c1,c2,c3,c4,c5,hE,hBd,hEl⟩:=HL.out.at hkl
   have HFz:Hid (final=false):=zh (by rw [HF.out];cases l with
    | nil=>simp at hkl
    | cons x r=>rfl)
   rw [Nat.zero_mul,Nat.add_zero] at c0 c1 c2 c3 c4 c5;clear HF hE hBd hEl hat;go_wp2_with fail
   go_ret;exact ⟨retb (a:=false) HFz.out.symm,(yR _ _).alloc (zr _) _⟩
  ·have hki:¬ (0:Int) < (l.length:Int):=by omega
   have HFz:Hid (final=true):=zh (by rw [HF.out];cases l with
    | nil=>rfl
    | cons x r=>simp at hkl)
   clear HF;go_wp2_with fail
   go_ret;exact ⟨retb (a:=true) HFz.out.symm,yR _ _⟩
theorem right_any:∀ (d:Nat),d<=41->∀ (l:List St) (v:Value) (w:World) (B:Nat),okSs l->SsL w B l v->B<=w.heap.size->Calls Try.prog 56 #[v,.int .i64 d] w (zbe (zaJ d l) w):=by
 intro d
 induction d with
 | zero=>intro _ l v w B _ hL _;exact right_zero l v w B hL
 | succ d ih =>
  intro hd l v w B hok hL hB;rw [show ((d+1:Nat):Int)=(d:Int)+1 from Int.natCast_succ d];exact right_step d (by omega) (ih (by omega)) l v w B hok hL hB
theorem printable_any (l:List St) (v:Value) (w:World) (B:Nat) (hok:okSs l) (hL:SsL w B l v) (hB:B<=w.heap.size) :
  Calls Try.prog 37 #[v] w (zbe (zaJ 40 l) w):=by
 have H:Hid (Calls Try.prog 56 #[v,.int .i64 40] w _):=zh (right_any 40 (by omega) l v w B hok hL hB);obtain ⟨a,cap,rfl,hcc1,hcc2⟩:=hL.form
 generalize zaJ 40 l=q at *
 clear hL hok;go_enter Try.func37,Try.ntmps37
 go_wp2_with fail
 refine H.out.mono ?_;rintro e1 w1 ⟨rfl,hb⟩;have Hb:=zh hb;clear hb;go_wp2_with fail
 go_ret;exact ⟨rfl,Hb.out⟩
end Go.Proofs.Ytdeneckmoejcfaa
