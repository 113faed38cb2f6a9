/- marcheskit's comparisons of statements, walked: where both are the same the answer is true. -/
import Derived.Test.YtdeneckmoejcfaaKitQK
set_option linter.unusedSimpArgs false
set_option linter.unusedVariables false
namespace Go.Proofs.Ytdeneckmoejcfaa
open Go.RowKit

set_option maxRecDepth 100000 in
set_option maxHeartbeats 1000000 in
theorem sameS_any (op n:Int) (name:List UInt8) (es:List Ex) (body els:List St) (va vb vc ua ub uc:Value) (w:World) (h1:∃ a cap,va=.slice a es.length cap) (h2:∃ a cap,vb=.slice a body.length cap) (h3:∃ a cap,vc=.slice a els.length cap) (h4:∃ a cap,ua=.slice a es.length cap) (h5:∃ a cap,ub=.slice a body.length cap) (h6:∃ a cap,uc=.slice a els.length cap)
    (hC:∀ w',Below w.heap.size w w'→Calls Try.prog 66 #[va,ua] w' (YesE w')) (hD:∀ w',Below w.heap.size w w'→Calls Try.prog 34 #[vb,ub] w' (YesE w')) (hE:∀ w',Below w.heap.size w w'→Calls Try.prog 34 #[vc,uc] w' (YesE w')) :
    Calls Try.prog 51 #[.agg #[.int .u8 op,.int .i64 n,.string (bstr name),va,vb,vc],.agg #[.int .u8 op,.int .i64 n,.string (bstr name),ua,ub,uc]] w (YesE w):=by
  obtain ⟨a1,p1,rfl⟩:=h1
  obtain ⟨a2,p2,rfl⟩:=h2
  obtain ⟨a3,p3,rfl⟩:=h3
  obtain ⟨a4,p4,rfl⟩:=h4
  obtain ⟨a5,p5,rfl⟩:=h5
  obtain ⟨a6,p6,rfl⟩:=h6
  have HC:=Lib.hid hC
  have HD:=Lib.hid hD
  have HE:=Lib.hid hE
  clear hC hD hE
  go_enter Try.func51,Try.ntmps51
  go_upto_region 1 with (fail)
  obtain ⟨W0,hW0,hb0,hR0,hT0,hsz⟩:=opened2 w [.int .u8 op,.int .i64 n,.string (bstr name),.slice a1 es.length p1,.slice a2 body.length p2,.slice a3 els.length p3] [.int .u8 op,.int .i64 n,.string (bstr name),.slice a4 es.length p4,.slice a5 body.length p5,.slice a6 els.length p6] 59 59
  rw [← hW0]
  clear hW0
  have Hb0:=Lib.hid hb0
  have HR0:=Lib.hid hR0
  have HT0:=Lib.hid hT0
  have x0:=hR0.cell (i:=0) rfl
  have x1:=hR0.cell (i:=1) rfl
  have x2:=hR0.cell (i:=2) rfl
  have x3:=hR0.cell (i:=3) rfl
  have y0:=hT0.cell (i:=0) rfl
  have y1:=hT0.cell (i:=1) rfl
  have y2:=hT0.cell (i:=2) rfl
  have y3:=hT0.cell (i:=3) rfl
  clear hb0 hR0 hT0
  go_wp2_with fail
  refine (HC.out _ Hb0.out).mono ?_
  rintro e1 w1 ⟨rfl,hb1⟩
  have x4:=(HR0.out.below hb1 (Nat.le_refl _)).cell (i:=4) rfl
  have y4:=(HT0.out.below hb1 (Nat.le_refl _)).cell (i:=4) rfl
  have Hb1:=Lib.hid (Hb0.out.trans (hb1.mono Hb0.out.size))
  have HR1:=Lib.hid (HR0.out.below hb1 (Nat.le_refl _))
  have HT1:=Lib.hid (HT0.out.below hb1 (Nat.le_refl _))
  clear hb1
  go_wp2_with fail
  refine (HD.out _ Hb1.out).mono ?_
  rintro e2 w2 ⟨rfl,hb2⟩
  have x5:=(HR1.out.below hb2 (Nat.le_refl _)).cell (i:=5) rfl
  have y5:=(HT1.out.below hb2 (Nat.le_refl _)).cell (i:=5) rfl
  have Hb2:=Lib.hid (Hb1.out.trans (hb2.mono Hb1.out.size))
  clear hb2
  go_wp2_with fail
  refine (HE.out _ Hb2.out).mono ?_
  rintro e3 w3 ⟨rfl,hb3⟩
  have Hb3:=Lib.hid (Hb2.out.trans (hb3.mono Hb2.out.size))
  clear hb3
  go_wp2_with fail
  go_ret
  exact ⟨rfl,Hb3.out⟩
set_option maxRecDepth 100000 in
set_option maxHeartbeats 1000000 in
theorem sameSs_any:∀ (m:Nat) (xs:List St) (va vb:Value) (w:World) (B:Nat),szSs xs < m→SsL w B xs va→SsL w B xs vb→B≤w.heap.size →
    Calls Try.prog 34 #[va,vb] w (YesE w):=by
  intro m
  induction m with
  | zero=>intro xs va vb w B h;omega
  | succ m ih =>
    intro xs va vb w B hm hL hM hB
    obtain ⟨a,cap,rfl,hc1,hc2⟩:=hL.form
    obtain ⟨a',cap',rfl,hc1',hc2'⟩:=hM.form
    have HL:=Lib.hid hL
    have HM:=Lib.hid hM
    have Hm:=Lib.hid hm
    have Hih:=Lib.hid ih
    clear hm hL hM ih
    go_enter Try.func34,Try.ntmps34
    go_wp2_with fail
    go_loopw [4,5,11,12,13,14,15,16,17,18,19,20,21,22,23,24,25,26] (fun _ t5 _ _ _ _ _ _ _ _ _ _ _ _ _ _ _ _ wr=>∃ (k:Nat),k≤xs.length∧t5=.int .i64 k∧Hid (Below w.heap.size w wr)) (fun _ t5 _ _ _ _ _ _ _ _ _ _ _ _ _ _ _ _ _=>xs.length - (intOf t5).toNat)
    case atStart=>exact ⟨0,by omega,by first | rfl | go_num,Lib.hid (Below.refl _ _)⟩
    case round =>
      obtain ⟨k,hk,rfl,HB⟩:=hrel
      have hszr:=HB.out.size
      by_cases hkl:k < xs.length
      · have hki:(k:Int) < (xs.length:Int):=by omega
        have hcl:(xs.length:Int)≤9223372036854775807:=by omega
        have hLr:SsL wr B xs (.slice a xs.length cap):=HL.out.low (HB.out.mono hB)
        have hMr:SsL wr B xs (.slice a' xs.length cap'):=HM.out.low (HB.out.mono hB)
        obtain ⟨b,off,op2,n2,name2,es,body,els,ae,ce,ab,cb,al,cl,rfl,hbB,hbw,hat,c0,c1,c2,c3,c4,c5,hE,hBd,hEl⟩:=hLr.at hkl
        obtain ⟨b',off',op3,n3,name3,es',body',els',ae',ce',ab',cb',al',cl',rfl,hbB',hbw',hat',d0,d1,d2,d3,d4,d5,hE',hBd',hEl'⟩:=hMr.at hkl
        rw [hat] at hat'
        cases hat'
        obtain ⟨hz1,hz2,hz3⟩:=szS_mk hat
        have HI:Hid (∀ N,Calls Try.prog 51 _ (wr.drewN N) (YesE (wr.drewN N))):=Lib.hid (fun N=>by
          have hbN:∀ {w'},Below (wr.drewN N).heap.size (wr.drewN N) w'→Below wr.heap.size wr w':=fun hb=>Below.trans (b:=wr.drewN N) ⟨rfl,rfl,rfl,Nat.le_refl _,fun _ _=>rfl⟩ hb
          exact sameS_any op2 n2 name2 es body els _ _ _ _ _ _ (wr.drewN N) ⟨ae,ce,rfl⟩ ⟨ab,cb,rfl⟩ ⟨al,cl,rfl⟩ ⟨ae',ce',rfl⟩ ⟨ab',cb',rfl⟩ ⟨al',cl',rfl⟩
            (fun w' hb=>sameEs_any _ es _ _ w' B (Nat.lt_succ_self _) (hE.low ((hbN hb).mono (Nat.le_trans hB hszr))) (hE'.low ((hbN hb).mono (Nat.le_trans hB hszr))) (Nat.le_trans hB (Nat.le_trans hszr (hbN hb).size)))
            (fun w' hb=>Hih.out body _ _ w' B (by have:=Hm.out;omega) (hBd.low ((hbN hb).mono (Nat.le_trans hB hszr))) (hBd'.low ((hbN hb).mono (Nat.le_trans hB hszr))) (Nat.le_trans hB (Nat.le_trans hszr (hbN hb).size)))
            (fun w' hb=>Hih.out els _ _ w' B (by have:=Hm.out;omega) (hEl.low ((hbN hb).mono (Nat.le_trans hB hszr))) (hEl'.low ((hbN hb).mono (Nat.le_trans hB hszr))) (Nat.le_trans hB (Nat.le_trans hszr (hbN hb).size))))
        clear hLr hat hE hBd hEl hE' hBd' hEl' hz1 hz2 hz3 hMr
        go_wp2_with fail
        refine wp_region_tail 8 (DrewOf wr) (by kernel_rfl) (by kernel_rfl) (DrewOf.start _) ?_
        simp only [List.take_succ_cons,List.take_zero,List.drop_succ_cons,List.drop_zero]
        repeat
          try simp only [Act.put,List.setIfInBounds_toArray,List.set_cons_succ,List.set_cons_zero]
          apply stepsSeq.cons
          · rintro w' ⟨nq,rfl⟩
            simp only [Act.put,List.setIfInBounds_toArray,List.set_cons_succ,List.set_cons_zero]
            go_wp2_with (fail)
            first | exact ⟨rfl,nq,rfl⟩ | exact ⟨rfl,nq,(World.drewN_drewN _ _ _).symm⟩ | exact ⟨rfl,nq,by simp⟩
        try simp only [Act.put,List.setIfInBounds_toArray,List.set_cons_succ,List.set_cons_zero]
        refine stepsSeq.nil ?_
        rintro w' ⟨nq,rfl⟩
        go_wp2_with fail
        refine (HI.out _).mono ?_
        rintro e2 w2 ⟨rfl,hb2⟩
        have HB2:Hid (Below w.heap.size w w2):=Lib.hid ((Below.drewN HB.out nq).trans (hb2.mono hszr))
        clear hb2
        go_wp2_with fail
        go_roundw
        case rel=>exact ⟨k+1,by omega,by go_num,HB2⟩
        case measure=>simp [intOf];omega
      · have hki:¬ (k:Int) < (xs.length:Int):=by omega
        go_wp2_with fail
        go_ret
        exact ⟨rfl,HB.out⟩
end Go.Proofs.Ytdeneckmoejcfaa
