/- marchesref12.Fine, walked: it says which expressions are printable. -/
import Derived.Test.YtdeneckmoejcfaaFineSZs
import Derived.Test.YtdeneckmoejcfaaRParPZs
set_option linter.unusedSimpArgs false
set_option linter.unusedVariables false
set_option maxRecDepth 100000
set_option maxHeartbeats 16000000
namespace Go.Proofs.Ytdeneckmoejcfaa
open Go.RowKit

theorem cnt_ne {k a:Nat} {q:Bool} (h:decide (k=a)=q) (m:Int) (hm:(a:Int)=m):((k:Int) != m) = !q:=by
 rw [<- h,<- hm,Bool.eq_iff_iff,bne_iff_ne,Bool.not_eq_true',decide_eq_false_iff_not];omega
theorem headE_in {op n:Int} {name:List UInt8} {len:Nat} (h:1<=op/\op<=24):zbN op n name len=(decide (len=zb9 op) && ((if op=2 then zaP name else decide (name=[])) && (if op=1 then decide (0<=n) else if op=3 then decide (1<=n/\n<=10) else decide (n=0)))):=by
 unfold zbN;rw [decide_eq_true h,Bool.true_and]
theorem fine_step (d:Nat) (hd:d<=40) (ih:∀ (op n:Int) (name:List UInt8) (args:List Ex) (v:Value) (w:World) (B:Nat),okE (.mk op n name args)->EsL w B args v->B<=w.heap.size->Calls Try.prog 69 #[.agg #[.int .u8 op,.int .i64 n,.string (bstr name),v],.int .i64 d] w (zbe (zbd d (.mk op n name args)) w))
  (op n:Int) (name:List UInt8) (args:List Ex) (v:Value) (w:World) (B:Nat) (hok:okE (.mk op n name args)) (hL:EsL w B args v) (hB:B<=w.heap.size) :
  Calls Try.prog 69 #[.agg #[.int .u8 op,.int .i64 n,.string (bstr name),v],.int .i64 ((d:Int)+1)] w (zbe (zbd (d+1) (.mk op n name args)) w):=by
 obtain ⟨a,cap,rfl,hcc1,hcc2⟩:=hL.form;have Hih:=zh ih;have HL:=zh hL;obtain ⟨-,-,-,hoks⟩:=hok;have Hoks:=zh hoks;have HNm:Hid (∀ w:World,_):=zh (fun w:World=>zfU name w);obtain ⟨W1,hW1,hX1,hb1⟩:∃ W1,W1=w.alloc (.cells #[.int .u8 op,.int .i64 n,.string (bstr name),.slice a args.length cap] 65)/\OwnV W1 w.heap.size 65 [.int .u8 op,.int .i64 n,.string (bstr name),.slice a args.length cap]/\Below w.heap.size w W1:=⟨_,rfl,OwnV.new _ _ _,(yR _ _).alloc (zr _) _⟩;have HW1:=zh hW1;have Hb1:=zh hb1;have HbN:Hid (Below W1.heap.size W1 W1):=zh (yR _ _);have HX1:=zh hX1;obtain ⟨x0,x1,x2,x3⟩:=yc4 HX1.out;obtain ⟨final,hfin⟩:∃ q,zbd (d+1) (.mk op n name args)=q:=⟨_,rfl⟩;have HF:Hid (final=(zbN op n name args.length && args.all (zbd d))):=zh (by rw [<- hfin,zbd]);rw [hfin];have hd1:((d:Int)+1 == 0)=false:=by rw [beq_eq_false_iff_ne];omega
 clear hb1 hX1 hW1 hL hoks ih hfin;by_cases hg:1<=op/\op<=24
 ·obtain ⟨qm,Hqm⟩:∃ q,Hid (decide (args.length=zb9 op)=q):=⟨_,zh rfl⟩;obtain ⟨qn,Hqn⟩:∃ q,Hid ((if op=2 then zaP name else decide (name=[]))=q):=⟨_,zh rfl⟩;obtain ⟨qc,Hqc⟩:∃ q,Hid ((if op=1 then decide (0<=n) else if op=3 then decide (1<=n/\n<=10) else decide (n=0))=q):=⟨_,zh rfl⟩;replace HF:Hid (final=((qm && (qn && qc)) && args.all (zbd d))):=zh (by rw [HF.out,headE_in hg,Hqm.out,Hqn.out,Hqc.out]);have Hm:=zh (cnt_ne Hqm.out);rcases (show op=1∨op=2∨op=3∨op=4∨op=5∨6<=op/\op<=9∨10<=op/\op<=24 by omega) with hop | hop | hop | hop | hop | hop | hop
  all_goals
   have g1:¬ op < 1:=by omega
   have g2:¬ 24 < op:=by omega
   first | have g3:op < 10:=by omega | have g3:¬ op < 10:=by omega
   first | have e1:(op == 1)=true:=by rw [beq_iff_eq];omega | have e1:(op == 1)=false:=by rw [beq_eq_false_iff_ne];omega
   first | have e2:(op == 2)=true:=by rw [beq_iff_eq];omega | have e2:(op == 2)=false:=by rw [beq_eq_false_iff_ne];omega
   first | have e3:(op == 3)=true:=by rw [beq_iff_eq];omega | have e3:(op == 3)=false:=by rw [beq_eq_false_iff_ne];omega
   first | have e4:(op == 4)=true:=by rw [beq_iff_eq];omega | have e4:(op == 4)=false:=by rw [beq_eq_false_iff_ne];omega
   first | have e5:(op == 5)=true:=by rw [beq_iff_eq];omega | have e5:(op == 5)=false:=by rw [beq_eq_false_iff_ne];omega
   first | have n1:(op != 1)=true:=by rw [bne_iff_ne];omega | have n1:(op != 1)=false:=by rw [bne_eq_false_iff_eq];omega
   first | have n2:(op != 2)=true:=by rw [bne_iff_ne];omega | have n2:(op != 2)=false:=by rw [bne_eq_false_iff_eq];omega
   first | have n3:(op != 3)=true:=by rw [bne_iff_ne];omega | have n3:(op != 3)=false:=by rw [bne_eq_false_iff_eq];omega
   first | rw [yP (by omega)] at Hqn;rw [Hqn.out] at HNm | rw [yN (by omega)] at Hqn
   first | rw [yP (by omega)] at Hqc | rw [yN (by omega),yP (by omega)] at Hqc | rw [yN (by omega),yN (by omega)] at Hqc
   first | have hm:zb9 op=0:=by unfold zb9;split <;> (try split) <;> omega | have hm:zb9 op=1:=by unfold zb9;split <;> (try split) <;> omega | have hm:zb9 op=2:=by unfold zb9;split <;> (try split) <;> omega
   first | have hln:=Hm.out 0 (by rw [hm];rfl) | have hln:=Hm.out 1 (by rw [hm];rfl) | have hln:=Hm.out 2 (by rw [hm];rfl)
   rw [hm] at Hqm;clear hg hop Hm hm;go_enter Try.func69,Try.ntmps69
   go_upto_region 1 with (fail)
   rw [<- HW1.out];clear HW1;go_upto_region 8 with (fail)
   simp only [List.append_eq,List.cons_append,List.nil_append]
   cases qm with
   | false =>
    replace hln:_=true:=hln;have HFz:Hid (final=false):=zh (by simpa using HF.out);clear HF;go_wp2_with (go_at_call 68;refine (HNm.out _).mono ?_;rintro e2 w2 ⟨rfl,hb2⟩;have HbN:=zh (HbN.out.trans (hb2.mono HbN.out.size));clear hb2 x0 x1 x2 x3;obtain ⟨x0,x1,x2,x3⟩:=yc4 (HX1.out.below HbN.out (zr _)))
    go_ret
    exact ⟨retb (a:=false) HFz.out.symm,Hb1.out.trans (HbN.out.mono Hb1.out.size)⟩
   | true =>
    replace hln:_=false:=hln;have Hl:=zh (of_decide_eq_true Hqm.out)
    cases qn with
    | false =>
     try have hs:¬ (bstr name).toList=[]:=fun h=>of_decide_eq_false Hqn.out (str_nil.1 h)
     have HFz:Hid (final=false):=zh (by simpa using HF.out);clear HF;go_wp2_with (go_at_call 68;refine (HNm.out _).mono ?_;rintro e2 w2 ⟨rfl,hb2⟩;have HbN:=zh (HbN.out.trans (hb2.mono HbN.out.size));clear hb2 x0 x1 x2 x3;obtain ⟨x0,x1,x2,x3⟩:=yc4 (HX1.out.below HbN.out (zr _)))
     go_ret
     exact ⟨retb (a:=false) HFz.out.symm,Hb1.out.trans (HbN.out.mono Hb1.out.size)⟩
    | true =>
     try have hs:(bstr name).toList=[]:=str_nil.2 (of_decide_eq_true Hqn.out)
     cases qc with
     | false =>
      have hz:=of_decide_eq_false Hqc.out;try have z0:n < 0:=by omega
      try have z3:(n != 0)=true:=by rw [bne_iff_ne];omega
      have HFz:Hid (final=false):=zh (by simpa using HF.out);clear HF;by_cases z1:n < 1
      all_goals first | omega | skip
      all_goals
       try have z2:10 < n:=by omega
       go_wp2_with (go_at_call 68;refine (HNm.out _).mono ?_;rintro e2 w2 ⟨rfl,hb2⟩;have HbN:=zh (HbN.out.trans (hb2.mono HbN.out.size));clear hb2 x0 x1 x2 x3;obtain ⟨x0,x1,x2,x3⟩:=yc4 (HX1.out.below HbN.out (zr _)))
       go_ret
       exact ⟨retb (a:=false) HFz.out.symm,Hb1.out.trans (HbN.out.mono Hb1.out.size)⟩
     | true =>
      have hz:=of_decide_eq_true Hqc.out;have z0:¬ n < 0:=by omega
      try have z1:¬ n < 1:=by omega
      try have z2:¬ 10 < n:=by omega
      try have z3:(n != 0)=false:=by rw [bne_eq_false_iff_eq];omega
      replace HF:Hid (final=args.all (zbd d)):=zh (by rw [HF.out];rfl);clear hz;go_upto_region 10 with (go_at_call 68;refine (HNm.out _).mono ?_;rintro e2 w2 ⟨rfl,hb2⟩;have HbN:=zh (HbN.out.trans (hb2.mono HbN.out.size));clear hb2 x0 x1 x2 x3;obtain ⟨x0,x1,x2,x3⟩:=yc4 (HX1.out.below HbN.out (zr _)))
      go_wp2_with fail
      go_loopw [4,6,106,107,108,109,110,111,112,113,114,115,116,117,118,119] (fun _ t6 _ _ _ _ _ _ _ _ _ _ _ _ _ _ wr=>∃ (k:Nat),k<=args.length/\t6=.int .i64 k/\Hid ((args.take k).all (zbd d)=true)/\Hid (Below W1.heap.size W1 wr)) (fun _ t6 _ _ _ _ _ _ _ _ _ _ _ _ _ _ _=>args.length - (intOf t6).toNat)
      case atStart=>exact ⟨0,by omega,by first | rfl | go_num,zh (by simp),HbN⟩
      case round =>
       obtain ⟨k,hk,rfl,HA,HB⟩:=hrel;have hx3:=(HX1.out.below HB.out (zr _)).cell (i:=3) rfl;have hlo:=Hl.out;first | have k0:(k:Int) < 0:=by omega | have k0:¬ (k:Int) < 0:=by omega
       by_cases hkl:k < args.length
       ·first | omega | skip
        all_goals
         try have k1:(k:Int) < 1:=by omega
         try have k2:(k:Int) < 2:=by omega
         have hLr:EsL wr B args (.slice a args.length cap):=HL.out.low ((Hb1.out.mono hB).trans (HB.out.mono (yT hB Hb1.out.size)));obtain ⟨b,off,op2,n2,name2,args2,aa,ac,rfl,hbB,hbw,hat,c0,c1,c2,c3,hL2⟩:=hLr.at hkl;have HI:=zh (Hih.out op2 n2 name2 args2 _ wr B (zgR Hoks.out hat) hL2 (yT hB (yT Hb1.out.size HB.out.size)));have Hal:=zh (all_take hat HA.out)
         generalize zbd d (.mk op2 n2 name2 args2)=q at *
         have hki2:(k:Int) < (args.length:Int):=by omega
         clear hLr hat hL2 hlo;go_wp2_with fail
         refine HI.out.mono ?_;rintro e2 w2 ⟨rfl,hb2⟩;have HB2:=zh (HB.out.trans (hb2.mono HB.out.size));clear hb2
         cases q with
         | false =>
          have HF2:Hid (final=false):=zh (by rw [HF.out,Hal.out.2 rfl]);clear HF;go_wp2_with fail
          go_ret
          exact ⟨retb (a:=false) HF2.out.symm,Hb1.out.trans (HB2.out.mono Hb1.out.size)⟩
         | true =>
          have HA2:=zh (Hal.out.1 rfl);clear Hal;go_wp2_with fail
          go_roundw
          case rel=>exact ⟨k+1,by omega,by go_num,HA2,HB2⟩
          case measure=>simp [intOf];omega
       ·try have k1:¬ (k:Int) < 1:=by omega
        try have k2:¬ (k:Int) < 2:=by omega
        have hke:k=args.length:=by omega
        have HF2:Hid (final=true):=zh (by have:=HA.out;rw [hke,List.take_length] at this;rw [HF.out,this]);clear HF hlo;go_wp2_with fail
        go_ret;exact ⟨retb (a:=true) HF2.out.symm,Hb1.out.trans (HB.out.mono Hb1.out.size)⟩
 ·have HFz:Hid (final=false):=zh (by rw [HF.out,headE_G _ _ _ _ hg];rfl);clear HF;by_cases h1:op < 1
  all_goals
   try have h2:24 < op:=by omega
   go_enter Try.func69,Try.ntmps69
   go_upto_region 1 with (fail)
   rw [<- HW1.out];go_wp2_with fail
   go_ret;exact ⟨retb (a:=false) HFz.out.symm,Hb1.out⟩
theorem fine_any:∀ (d:Nat),d<=41->∀ (op n:Int) (name:List UInt8) (args:List Ex) (v:Value) (w:World) (B:Nat),okE (.mk op n name args)->EsL w B args v->B<=w.heap.size ->
  Calls Try.prog 69 #[.agg #[.int .u8 op,.int .i64 n,.string (bstr name),v],.int .i64 d] w (zbe (zbd d (.mk op n name args)) w):=by
 intro d
 induction d with
 | zero =>
  intro _ op n name args v w B _ hL _;obtain ⟨a,cap,rfl,hcc1,hcc2⟩:=hL.form;clear hL;go_enter Try.func69,Try.ntmps69
  go_wp2_with fail
  go_ret
  exact ⟨rfl,(yR _ _).alloc (zr _) _⟩
 | succ d ih =>
  intro hd op n name args v w B hok hL hB;rw [show ((d+1:Nat):Int)=(d:Int)+1 from Int.natCast_succ d];exact fine_step d (by omega) (ih (by omega)) op n name args v w B hok hL hB
end Go.Proofs.Ytdeneckmoejcfaa
