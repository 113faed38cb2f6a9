/- parse.right, walked: it says what the reference says of a statement. -/
import Derived.Test.YtdeneckmoejcfaaKitCZs
import Derived.Test.YtdeneckmoejcfaaQFuncZs
set_option linter.unusedSimpArgs false
set_option linter.unusedVariables false
set_option maxRecDepth 100000
set_option maxHeartbeats 12000000
namespace Go.Proofs.Ytdeneckmoejcfaa
open Go.RowKit

def ziy : Nat -> St -> Bool
  | 0, _ => false
  | d + 1, x => zh2 d x
theorem zlK (d:Nat) (l:List St):zaJ d l=l.all (ziy d):=by
 cases d with
 | zero=>cases l <;> rfl
 | succ d=>rw [zfn];rfl
theorem zkA (op n:Int) (name:List UInt8) (args:List Ex) (v:Value) (q:Bool) (w:World) (hv:∃ a cap,v=.slice a args.length cap)
  (H:∀ w',Below w.heap.size w w'->Calls Try.prog 102 #[.agg #[.int .u8 op,.int .i64 n,.string (bstr name),v],.int .i64 40] w' (zbe q w')) :
  Calls Try.prog 101 #[.agg #[.int .u8 op,.int .i64 n,.string (bstr name),v]] w (zbe (!q) w):=by
 obtain ⟨a,cap,rfl⟩:=hv;have HH:=zh H;clear H;go_enter Try.func101,Try.ntmps101
 go_wp2_with fail
 refine (HH.out _ ((yR _ _).alloc (zr _) _)).mono ?_;rintro e1 w1 ⟨rfl,hb1⟩;have Hb1:=zh (((yR w.heap.size w).alloc (zr _) (.cells #[.int .u8 op,.int .i64 n,.string (bstr name),.slice a args.length cap] 65)).trans (hb1.mono (by simp)));clear hb1;go_wp2_with fail
 go_ret;exact ⟨rfl,Hb1.out⟩
theorem name_ne {name:List UInt8} {q:Bool} (h:decide (name=[])=q):(q=false->¬ (bstr name).toList=[]/\(bstr name).toList.isEmpty=false)/\(q=true->(bstr name).toList=[]):=by
 subst h;refine ⟨fun h=>?_,fun h=>str_nil.2 (of_decide_eq_true h)⟩;have h1:¬ (bstr name).toList=[]:=fun e=>of_decide_eq_false h (str_nil.1 e)
 exact ⟨h1,by rw [List.isEmpty_eq_false_iff];exact h1⟩
theorem zero_ne {n:Int} {q:Bool} (h:decide (n=0)=q):(n != 0) = !q:=by
 rw [<- h,Bool.eq_iff_iff,bne_iff_ne,Bool.not_eq_true',decide_eq_false_iff_not]
theorem headT_in {op n:Int} {name:List UInt8} {le lb ll:Nat} (h:1<=op/\op<=7):zbA op n name le lb ll=(decide (le=zfg op) && ((if op<=2 then zaP name else decide (name=[])) && ((if op=3 then decide (1<=n/\n<=10) else decide (n=0)) && decide ((lb=0∨op=4∨op=5)/\(ll=0∨op=4))))):=by
 unfold zbA;rw [decide_eq_true h,Bool.true_and,<- Bool.decide_and]
theorem many_ne {op:Int} {k:Nat} {q:Bool} (h:decide (k=zfg op)=q) (m:Int) (hm:(zfg op:Int)=m):((k:Int) != m) = !q:=by
 rw [<- h,<- hm,Bool.eq_iff_iff,bne_iff_ne,Bool.not_eq_true',decide_eq_false_iff_not];omega
theorem zjh (N:Nat) (hN:N<=41) (op n:Int) (name:List UInt8) (es:List Ex) (body els:List St) (ve vb vl:Value) (w:World) (B:Nat) (hok:okS (.mk op n name es body els)) (hE:EsL w B es ve) (hBd:SsL w B body vb) (hEl:SsL w B els vl) (hB:B<=w.heap.size)
  (hA:∀ d,N=d+1->∀ w',Below w.heap.size w w'->Calls Try.prog 61 #[vb,.int .i64 d] w' (zbe (zaJ d body) w')) (hC:∀ d,N=d+1->∀ w',Below w.heap.size w w'->Calls Try.prog 61 #[vl,.int .i64 d] w' (zbe (zaJ d els) w')) :
  Calls Try.prog 84 #[.agg #[.int .u8 op,.int .i64 n,.string (bstr name),ve,vb,vl],.int .i64 N] w (zbe (ziy N (.mk op n name es body els)) w):=by
 obtain ⟨ae,ce,rfl,hlce,hlce2⟩:=hE.form;obtain ⟨ab,cb,rfl,hlcb,hlcb2⟩:=hBd.form;obtain ⟨al,cl,rfl,hlcl,hlcl2⟩:=hEl.form;obtain ⟨-,-,-,hok1,-,-⟩:=hok;have Hok1:=zh hok1;have HE:=zh hE;have HA:=zh hA;have HC:=zh hC;have HNm:Hid (∀ w:World,_):=zh (fun w:World=>zdr name w);have HK:Hid (∀ w:World,_):=zh (fun w:World=>zhg n w);obtain ⟨W1,hW1,hX1,hb1⟩:∃ W1,W1=w.alloc (.cells #[.int .u8 op,.int .i64 n,.string (bstr name),.slice ae es.length ce,.slice ab body.length cb,.slice al els.length cl] 59)/\OwnV W1 w.heap.size 59 [.int .u8 op,.int .i64 n,.string (bstr name),.slice ae es.length ce,.slice ab body.length cb,.slice al els.length cl]/\Below w.heap.size w W1:=⟨_,rfl,OwnV.new _ _ _,(yR _ _).alloc (zr _) _⟩;have Hb1:=zh hb1;have HX1:=zh hX1;have HW1:=zh hW1;have x0:=hX1.cell (i:=0) rfl
 have HE2:Hid (∀ (w':World),Below w.heap.size w w'->Calls Try.prog 100 #[.slice ae es.length ce,.func (.func 101) #[] #[]] w' (zbe (es.any fun x=>!zbd 40 x) w')):=zh (by
  intro w' hb;refine zkw es _ (fun x=>!zbd 40 x) w' B (HE.out.low (hb.mono hB)) (yT hB hb.size) ?_;intro k op2 n2 name2 args2 va W2 hat hb2 hL2;obtain ⟨aa,ac,rfl,_,_⟩:=hL2.form;refine zkA op2 n2 name2 args2 _ _ W2 ⟨_,_,rfl⟩ ?_;intro w3 hb3
  exact zhh 40 (by omega) op2 n2 name2 args2 _ w3 B (zgR Hok1.out hat) (hL2.low (hb3.mono (yT hB (yT hb.size hb2.size)))) (yT hB (yT hb.size (yT hb2.size hb3.size))))
 have hnot:(es.any fun x=>!zbd 40 x) = !es.all (zbd 40):=by rw [List.all_eq_not_any_not,Bool.not_not]
 rw [hnot] at HE2;obtain ⟨final,hfin⟩:∃ q,ziy N (.mk op n name es body els)=q:=⟨_,rfl⟩;have HF0:Hid (N=0->final=false):=zh (fun h=>by rw [<- hfin,h];rfl);have HF1:Hid (∀ d,N=d+1->final=((zaJ d body && zaJ d els) && (zbA op n name es.length body.length els.length && es.all (zbd 40)))):=zh (fun d h=>by rw [<- hfin,h];rfl);rw [hfin]
 generalize es.all (zbd 40)=qe at *
 clear hE hBd hEl hok1 hW1 hX1 hb1 hA hC hnot hfin;by_cases hrg:1<=op/\op<=7
 ·obtain ⟨qm,Hqm⟩:∃ q,Hid (decide (es.length=zfg op)=q):=⟨_,zh rfl⟩;obtain ⟨qn,Hqn⟩:∃ q,Hid ((if op<=2 then zaP name else decide (name=[]))=q):=⟨_,zh rfl⟩;obtain ⟨qc,Hqc⟩:∃ q,Hid ((if op=3 then decide (1<=n/\n<=10) else decide (n=0))=q):=⟨_,zh rfl⟩;obtain ⟨qp,Hqp⟩:∃ q,Hid (decide ((body.length=0∨op=4∨op=5)/\(els.length=0∨op=4))=q):=⟨_,zh rfl⟩;have HT:Hid (zbA op n name es.length body.length els.length=(qm && (qn && (qc && qp)))):=zh (by rw [headT_in hrg,Hqm.out,Hqn.out,Hqc.out,Hqp.out]);have Hm:=zh (many_ne Hqm.out);rcases (show op=1∨op=2∨op=3∨op=4∨op=5∨op=6∨op=7 by omega) with hop | hop | hop | hop | hop | hop | hop
  all_goals
   first | have e1:(op == 1)=true:=by rw [beq_iff_eq];omega | have e1:(op == 1)=false:=by rw [beq_eq_false_iff_ne];omega
   first | have e2:(op == 2)=true:=by rw [beq_iff_eq];omega | have e2:(op == 2)=false:=by rw [beq_eq_false_iff_ne];omega
   first | have e3:(op == 3)=true:=by rw [beq_iff_eq];omega | have e3:(op == 3)=false:=by rw [beq_eq_false_iff_ne];omega
   first | have e4:(op == 4)=true:=by rw [beq_iff_eq];omega | have e4:(op == 4)=false:=by rw [beq_eq_false_iff_ne];omega
   first | have e5:(op == 5)=true:=by rw [beq_iff_eq];omega | have e5:(op == 5)=false:=by rw [beq_eq_false_iff_ne];omega
   first | have m6:(op != 6)=true:=by rw [bne_iff_ne];omega | have m6:(op != 6)=false:=by rw [bne_eq_false_iff_eq];omega
   first | have m7:(op != 7)=true:=by rw [bne_iff_ne];omega | have m7:(op != 7)=false:=by rw [bne_eq_false_iff_eq];omega
   first | rw [yP (by omega)] at Hqn;rw [Hqn.out] at HNm | rw [yN (by omega)] at Hqn;have Hs:=zh (name_ne Hqn.out)
   first | rw [yP (by omega)] at Hqc;rw [Hqc.out] at HK | rw [yN (by omega)] at Hqc;have hz1:=zero_ne Hqc.out
   first | have hln:=Hm.out 1 (by rw [hop];decide) | have hln:=Hm.out 2 (by rw [hop];decide) | have hln:=Hm.out 0 (by rw [hop];decide)
   have Hop:=zh hop;clear hrg hop Hm;go_enter Try.func84,Try.ntmps84
   go_upto_region 1 with (fail)
   rw [<- HW1.out];go_upto_region 2 with (fail)
   refine zac (fun w'=>Below W1.heap.size W1 w') (by kernel_rfl) (by kernel_rfl) ((yR _ _).drew) ?_
   repeat
    try simp only [Act.put,zs1,zs3,zs2]
    apply stepsSeq.cons
    ·intro w' hb1;have Hb1':=zh hb1;have x0':=Below.keep hb1 x0;simp only [Act.put,zs1,zs3,zs2];go_wp2_with ((fail))
     first | exact ⟨rfl,Hb1'.out⟩ | exact ⟨rfl,Hb1'.out.trans (hb2.mono Hb1'.out.size)⟩
   try simp only [Act.put,zs1,zs3,zs2]
   refine stepsSeq.nil ?_;intro w' hb1;have Hb4:=zh (Hb1.out.trans (hb1.mono Hb1.out.size));have HX4:=zh (HX1.out.below hb1 (zr _));clear hb1 x0;obtain ⟨x0,x1,x2,x3,x4,x5⟩:=yc6 HX4.out;go_upto_region 11 with (fail)
   simp only [List.append_eq,List.cons_append,List.nil_append];by_cases hN0:N=0
   ·have hNi:(N:Int)<=0:=by omega
    have HFd:Hid (final=false):=zh (HF0.out hN0);clear hN0 HT HF1;have HFz:Hid (final=false):=zh (by simpa using HFd.out);clear HFd;go_wp2_with (first | (go_at_call 98;refine (HNm.out _).mono ?_;rintro e4 w4 ⟨rfl,hb4⟩;have Hb4:=zh (Hb4.out.trans (hb4.mono Hb4.out.size));have HX4:=zh (HX4.out.below hb4 (zr _));clear hb4 x0 x1 x2 x3 x4 x5;obtain ⟨x0,x1,x2,x3,x4,x5⟩:=yc6 HX4.out) | (go_at_call 99;refine (HK.out _).mono ?_;rintro e5 w5 ⟨rfl,rfl⟩))
    go_ret;exact ⟨by first | rfl | exact retb (a:=false) HFz.out.symm,Hb4.out⟩
   obtain ⟨d,hd⟩:∃ d,N=d+1:=⟨N - 1,by omega⟩;have hNi:0 < (N:Int):=by omega
   have hsub:(N:Int) - 1=(d:Int):=by omega
   have hd41:(d:Int)<=41:=by omega
   have HFd:=HF1.out d hd;rw [HT.out] at HFd;have HFd:=zh HFd;have HAd:=zh (HA.out d hd);have HCd:=zh (HC.out d hd)
   generalize zaJ d body=qb at *
   generalize zaJ d els=ql at *
   clear HF1 HF0 HA HC hd hN0 hN HT
   cases qm with
   | false =>
    simp only [Bool.not_false] at hln;have HFz:Hid (final=false):=zh (by simpa using HFd.out);clear HFd;go_wp2_with (first | (go_at_call 98;refine (HNm.out _).mono ?_;rintro e4 w4 ⟨rfl,hb4⟩;have Hb4:=zh (Hb4.out.trans (hb4.mono Hb4.out.size));have HX4:=zh (HX4.out.below hb4 (zr _));clear hb4 x0 x1 x2 x3 x4 x5;obtain ⟨x0,x1,x2,x3,x4,x5⟩:=yc6 HX4.out) | (go_at_call 99;refine (HK.out _).mono ?_;rintro e5 w5 ⟨rfl,rfl⟩))
    go_ret
    exact ⟨by first | rfl | exact retb (a:=false) HFz.out.symm,Hb4.out⟩
   | true =>
    simp only [Bool.not_true] at hln
    cases qn with
    | false =>
     try obtain ⟨hs,hs2⟩:=Hs.out.1 rfl
     have HFz:Hid (final=false):=zh (by simpa using HFd.out);clear HFd;go_wp2_with (first | (go_at_call 98;refine (HNm.out _).mono ?_;rintro e4 w4 ⟨rfl,hb4⟩;have Hb4:=zh (Hb4.out.trans (hb4.mono Hb4.out.size));have HX4:=zh (HX4.out.below hb4 (zr _));clear hb4 x0 x1 x2 x3 x4 x5;obtain ⟨x0,x1,x2,x3,x4,x5⟩:=yc6 HX4.out) | (go_at_call 99;refine (HK.out _).mono ?_;rintro e5 w5 ⟨rfl,rfl⟩))
     go_ret
     exact ⟨by first | rfl | exact retb (a:=false) HFz.out.symm,Hb4.out⟩
    | true =>
     try have hs:=Hs.out.2 rfl
     cases qc with
     | false =>
      try simp only [Bool.not_false] at hz1
      have HFz:Hid (final=false):=zh (by simpa using HFd.out);clear HFd;go_wp2_with (first | (go_at_call 98;refine (HNm.out _).mono ?_;rintro e4 w4 ⟨rfl,hb4⟩;have Hb4:=zh (Hb4.out.trans (hb4.mono Hb4.out.size));have HX4:=zh (HX4.out.below hb4 (zr _));clear hb4 x0 x1 x2 x3 x4 x5;obtain ⟨x0,x1,x2,x3,x4,x5⟩:=yc6 HX4.out) | (go_at_call 99;refine (HK.out _).mono ?_;rintro e5 w5 ⟨rfl,rfl⟩))
      go_ret
      exact ⟨by first | rfl | exact retb (a:=false) HFz.out.symm,Hb4.out⟩
     | true =>
      try simp only [Bool.not_true] at hz1
      cases qp with
      | false =>
       by_cases hbd:0 < body.length
       all_goals
        first | have hbd1:(body.length:Int) > 0:=by omega | have hbd1:¬ (body.length:Int) > 0:=by omega
        by_cases hel:0 < els.length
       all_goals
        first | have hel1:(els.length:Int) > 0:=by omega | have hel1:¬ (els.length:Int) > 0:=by omega
       all_goals first | exact absurd Hqp.out (by have:=Hop.out;rw [decide_eq_false_iff_not];omega) | skip
       all_goals
        have HFz:Hid (final=false):=zh (by simpa using HFd.out);clear HFd;go_wp2_with (first | (go_at_call 98;refine (HNm.out _).mono ?_;rintro e4 w4 ⟨rfl,hb4⟩;have Hb4:=zh (Hb4.out.trans (hb4.mono Hb4.out.size));have HX4:=zh (HX4.out.below hb4 (zr _));clear hb4 x0 x1 x2 x3 x4 x5;obtain ⟨x0,x1,x2,x3,x4,x5⟩:=yc6 HX4.out) | (go_at_call 99;refine (HK.out _).mono ?_;rintro e5 w5 ⟨rfl,rfl⟩))
        go_ret
        exact ⟨by first | rfl | exact retb (a:=false) HFz.out.symm,Hb4.out⟩
      | true =>
       by_cases hbd:0 < body.length
       all_goals
        first | have hbd1:(body.length:Int) > 0:=by omega | have hbd1:¬ (body.length:Int) > 0:=by omega
        by_cases hel:0 < els.length
       all_goals
        first | have hel1:(els.length:Int) > 0:=by omega | have hel1:¬ (els.length:Int) > 0:=by omega
       all_goals first | exact absurd Hqp.out (by have:=Hop.out;rw [yQ];omega) | skip
       all_goals
        have HFq:Hid (final=((qb && ql) && qe)):=zh (by rw [HFd.out];rfl);clear HFd;go_upto_region 13 with (first | (go_at_call 98;refine (HNm.out _).mono ?_;rintro e4 w4 ⟨rfl,hb4⟩;have Hb4:=zh (Hb4.out.trans (hb4.mono Hb4.out.size));have HX4:=zh (HX4.out.below hb4 (zr _));clear hb4 x0 x1 x2 x3 x4 x5;obtain ⟨x0,x1,x2,x3,x4,x5⟩:=yc6 HX4.out) | (go_at_call 99;refine (HK.out _).mono ?_;rintro e5 w5 ⟨rfl,rfl⟩))
        go_wp2_with fail
        refine (HE2.out _ Hb4.out).mono ?_;rintro e6 w6 ⟨rfl,hb6⟩;have Hb6:=zh (Hb4.out.trans (hb6.mono Hb4.out.size));have HX6:=zh (HX4.out.below hb6 (zr _));clear hb6 x0 x1 x2 x3 x4 x5;have x4:=HX6.out.cell (i:=4) rfl
        cases qe with
        | false =>
         have HFz:Hid (final=false):=zh (by rw [HFq.out,Bool.and_false]);clear HFq;go_wp2_with fail
         go_ret
         exact ⟨retb (a:=false) HFz.out.symm,Hb6.out⟩
        | true =>
         go_wp2_with fail
         refine (HAd.out _ Hb6.out).mono ?_;rintro e7 w7 ⟨rfl,hb7⟩;have Hb7:=zh (Hb6.out.trans (hb7.mono Hb6.out.size));have x5:=(HX6.out.below hb7 (zr _)).cell (i:=5) rfl;clear hb7 x4
         cases qb with
         | false =>
          have HFz:Hid (final=false):=zh (by rw [HFq.out];rfl);clear HFq;go_wp2_with fail
          go_ret
          exact ⟨retb (a:=false) HFz.out.symm,Hb7.out⟩
         | true =>
          have HFz:Hid (final=ql):=zh (by rw [HFq.out,Bool.and_true,Bool.true_and]);clear HFq;go_wp2_with fail
          refine (HCd.out _ Hb7.out).mono ?_;rintro e8 w8 ⟨rfl,hb8⟩;have Hb8:=zh (Hb7.out.trans (hb8.mono Hb7.out.size));clear hb8;go_wp2_with fail
          go_ret;exact ⟨retb (a:=ql) HFz.out.symm,Hb8.out⟩
 ·have HFd:Hid (final=false):=zh (by
   rcases Nat.eq_zero_or_pos N with h | h
   ·exact HF0.out h
   ·obtain ⟨d,hd⟩:∃ d,N=d+1:=⟨N - 1,by omega⟩
    rw [HF1.out d hd,zk3 _ _ _ _ _ _ hrg,Bool.false_and,Bool.and_false])
  have e1:(op == 1)=false:=by rw [beq_eq_false_iff_ne];omega
  have e2:(op == 2)=false:=by rw [beq_eq_false_iff_ne];omega
  have e3:(op == 3)=false:=by rw [beq_eq_false_iff_ne];omega
  have e4:(op == 4)=false:=by rw [beq_eq_false_iff_ne];omega
  have e5:(op == 5)=false:=by rw [beq_eq_false_iff_ne];omega
  have m6:(op != 6)=true:=by rw [bne_iff_ne];omega
  have m7:(op != 7)=true:=by rw [bne_iff_ne];omega
  clear hrg HF0 HF1;go_enter Try.func84,Try.ntmps84
  go_upto_region 1 with (fail)
  rw [<- HW1.out];go_upto_region 2 with (fail)
  refine zac (fun w'=>Below W1.heap.size W1 w') (by kernel_rfl) (by kernel_rfl) ((yR _ _).drew) ?_
  repeat
   try simp only [Act.put,zs1,zs3,zs2]
   apply stepsSeq.cons
   ·intro w' hb1;have Hb1':=zh hb1;have x0':=Below.keep hb1 x0;simp only [Act.put,zs1,zs3,zs2];go_wp2_with ((fail))
    first | exact ⟨rfl,Hb1'.out⟩ | exact ⟨rfl,Hb1'.out.trans (hb2.mono Hb1'.out.size)⟩
  try simp only [Act.put,zs1,zs3,zs2]
  refine stepsSeq.nil ?_;intro w' hb1;have Hb4:=zh (Hb1.out.trans (hb1.mono Hb1.out.size));have HX4:=zh (HX1.out.below hb1 (zr _));clear hb1 x0;obtain ⟨x0,x1,x2,x3,x4,x5⟩:=yc6 HX4.out;have HFz:Hid (final=false):=zh (by simpa using HFd.out);clear HFd;go_wp2_with (first | (go_at_call 98;refine (HNm.out _).mono ?_;rintro e4 w4 ⟨rfl,hb4⟩;have Hb4:=zh (Hb4.out.trans (hb4.mono Hb4.out.size));have HX4:=zh (HX4.out.below hb4 (zr _));clear hb4 x0 x1 x2 x3 x4 x5;obtain ⟨x0,x1,x2,x3,x4,x5⟩:=yc6 HX4.out) | (go_at_call 99;refine (HK.out _).mono ?_;rintro e5 w5 ⟨rfl,rfl⟩))
  go_ret;exact ⟨by first | rfl | exact retb (a:=false) HFz.out.symm,Hb4.out⟩
theorem zmH (d:Nat) (op n:Int) (name:List UInt8) (es:List Ex) (body els:List St) (ve vb vl:Value) (q:Bool) (tb:Nat) (w:World) (hve:∃ a cap,ve=.slice a es.length cap) (hvb:∃ a cap,vb=.slice a body.length cap) (hvl:∃ a cap,vl=.slice a els.length cap) (hD:OwnV w tb 3 [.int .i64 d])
  (H:∀ w',Below w.heap.size w w'->Calls Try.prog 84 #[.agg #[.int .u8 op,.int .i64 n,.string (bstr name),ve,vb,vl],.int .i64 d] w' (zbe q w')) :
  Calls Try.prog 83 #[.agg #[.int .u8 op,.int .i64 n,.string (bstr name),ve,vb,vl],.pointer (some ⟨tb,0,none⟩)] w (zbe (!q) w):=by
 obtain ⟨ae,ce,rfl⟩:=hve;obtain ⟨ab,cb,rfl⟩:=hvb;obtain ⟨al,cl,rfl⟩:=hvl;have HH:=zh H;have hlt:=hD.lt;have d0:=hD.cell (i:=0) rfl;have hne:¬ tb=w.heap.size:=by omega
 clear H hD;go_enter Try.func83,Try.ntmps83
 go_wp2_with fail
 refine (HH.out _ ((yR _ _).alloc (zr _) _)).mono ?_;rintro e1 w1 ⟨rfl,hb1⟩;have Hb1:=zh (((yR w.heap.size w).alloc (zr _) (.cells #[.int .u8 op,.int .i64 n,.string (bstr name),.slice ae es.length ce,.slice ab body.length cb,.slice al els.length cl] 59)).trans (hb1.mono (by simp)));clear hb1;go_wp2_with fail
 go_ret;exact ⟨rfl,Hb1.out⟩
theorem ziz (N:Nat) (hN:N<=41) (ih:∀ d,N=d+1->∀ (l:List St) (v:Value) (w:World) (B:Nat),okSs l->SsL w B l v->B<=w.heap.size->Calls Try.prog 61 #[v,.int .i64 d] w (zbe (zaJ d l) w))
  (l:List St) (v:Value) (w:World) (B:Nat) (hok:okSs l) (hL:SsL w B l v) (hB:B<=w.heap.size) :
  Calls Try.prog 61 #[v,.int .i64 N] w (zbe (zaJ N l) w):=by
 obtain ⟨a,cap,rfl,hcc1,hcc2⟩:=hL.form;obtain ⟨W1,hW1,hX1,hb1⟩:∃ W1,W1=w.alloc (.cells #[.int .i64 N] 3)/\OwnV W1 w.heap.size 3 [.int .i64 N]/\Below w.heap.size w W1:=⟨_,rfl,OwnV.new _ _ _,(yR _ _).alloc (zr _) _⟩
 have HC:Hid (Calls Try.prog 82 #[.slice a l.length cap,.func (.func 83) #[] #[.pointer (some ⟨w.heap.size,0,none⟩)]] W1 (zbe (l.any fun x=>!ziy N x) W1)):=zh (by
  refine zkx l _ (fun x=>!ziy N x) _ W1 B (hL.low (hb1.mono hB)) (yT hB hb1.size) ?_;intro k op n name es body els va vb vc W2 hat hb2 hE hBd hEl;obtain ⟨ae,ce,rfl,_,_⟩:=hE.form;obtain ⟨ab,cb,rfl,_,_⟩:=hBd.form;obtain ⟨al,cl,rfl,_,_⟩:=hEl.form;have hok2:=znr hok hat;have h12:B<=W2.heap.size:=yT hB (yT hb1.size hb2.size);refine zmH N op n name es body els _ _ _ _ _ W2 ⟨_,_,rfl⟩ ⟨_,_,rfl⟩ ⟨_,_,rfl⟩ (hX1.below hb2 (zr _)) ?_;intro w3 hb3;have h13:B<=w3.heap.size:=yT h12 hb3.size;refine zjh N hN op n name es body els _ _ _ w3 B hok2 (hE.low (hb3.mono h12)) (hBd.low (hb3.mono h12)) (hEl.low (hb3.mono h12)) h13 ?_ ?_
  ·intro d hd w4 hb4;exact ih d hd body _ w4 B hok2.2.2.2.2.1 (hBd.low ((hb3.mono h12).trans (hb4.mono h13))) (yT h13 hb4.size)
  ·intro d hd w4 hb4
   exact ih d hd els _ w4 B hok2.2.2.2.2.2 (hEl.low ((hb3.mono h12).trans (hb4.mono h13))) (yT h13 hb4.size))
 have hnot:(l.any fun x=>!ziy N x) = !zaJ N l:=by rw [zlK,List.all_eq_not_any_not,Bool.not_not]
 rw [hnot] at HC
 generalize zaJ N l=q at *
 have Hb1:=zh hb1;clear hL hok hX1 hb1 hnot ih;go_enter Try.func61,Try.ntmps61
 go_upto_region 1 with (fail)
 rw [<- hW1];clear hW1;go_wp2_with fail
 refine HC.out.mono ?_;rintro e1 w1 ⟨rfl,hb⟩;have Hb:=zh (Hb1.out.trans (hb.mono Hb1.out.size));clear hb;go_wp2_with fail
 go_ret;exact ⟨by first | rfl | exact retb (Bool.not_not _),Hb.out⟩
theorem znq:∀ (d:Nat),d<=41->∀ (l:List St) (v:Value) (w:World) (B:Nat),okSs l->SsL w B l v->B<=w.heap.size->Calls Try.prog 61 #[v,.int .i64 d] w (zbe (zaJ d l) w):=by
  intro d
  induction d with
  | zero=>intro _ l v w B hok hL hB;exact ziz 0 (by omega) (fun d h=>by omega) l v w B hok hL hB
  | succ d ih =>
    intro hd l v w B hok hL hB
    exact ziz (d + 1) hd (fun e h => by obtain rfl : d = e := by omega
                                        exact ih (by omega)) l v w B hok hL hB
theorem zem (l:List St) (v:Value) (w:World) (B:Nat) (hok:okSs l) (hL:SsL w B l v) (hB:B<=w.heap.size) :
  Calls Try.prog 40 #[v] w (zbe (zaJ 40 l) w):=by
 have H:Hid (Calls Try.prog 61 #[v,.int .i64 40] w _):=zh (znq 40 (by omega) l v w B hok hL hB);obtain ⟨a,cap,rfl,hcc1,hcc2⟩:=hL.form
 generalize zaJ 40 l=q at *
 clear hL hok;go_enter Try.func40,Try.ntmps40
 go_wp2_with fail
 refine H.out.mono ?_;rintro e1 w1 ⟨rfl,hb⟩;have Hb:=zh hb;clear hb;go_wp2_with fail
 go_ret;exact ⟨rfl,Hb.out⟩
end Go.Proofs.Ytdeneckmoejcfaa
