/- marchesref12.right and Printable, walked: they say which statements are printable. -/
import Derived.Test.YtdeneckmoejcfaaFineRK
import Derived.Test.YtdeneckmoejcfaaFineSK
import Derived.Test.YtdeneckmoejcfaaKitCK
set_option linter.unusedSimpArgs false
set_option linter.unusedVariables false
namespace Go.Proofs.Ytdeneckmoejcfaa
open Go.RowKit

set_option maxRecDepth 100000 in
set_option maxHeartbeats 4000000 in
theorem right_step (d:Nat) (hd:d≤40) (ih:∀ (l:List St) (v:Value) (w:World) (B:Nat),okSs l→SsL w B l v→B≤w.heap.size→Calls Try.prog 56 #[v,.int .i64 d] w (BoolE (rightS d l) w))
    (l:List St) (v:Value) (w:World) (B:Nat) (hok:okSs l) (hL:SsL w B l v) (hB:B≤w.heap.size) :
    Calls Try.prog 56 #[v,.int .i64 ((d:Int)+1)] w (BoolE (rightS (d+1) l) w):=by
  obtain ⟨a,cap,rfl,hcc1,hcc2⟩:=hL.form
  have Hih:=Lib.hid ih
  have HL:=Lib.hid hL
  have Hoks:=Lib.hid hok
  obtain ⟨final,hfin⟩:∃ q,rightS (d+1) l=q:=⟨_,rfl⟩
  have HF:Hid (final=l.all (right1 d)):=Lib.hid (by rw [← hfin,rightS_succ])
  rw [hfin]
  have hd1:((d:Int)+1 == 0)=false:=by rw [beq_eq_false_iff_ne];omega
  clear hok hL ih hfin
  go_enter Try.func56,Try.ntmps56
  go_wp2_with fail
  go_loopw [4,5,6,7,8,9,10,11,12,13,14,15,16,17,18,19,20,21,22,23,24,25,26,27,28,29,30,31,32,33,34,35,36,37,38,39,40,41,42,43,44,45,46,47,48,49,50,51,52,53,54,55,56,57,58,59,60,61,62,63,64,65,66,67,68,69,70,71,72,73,74,75,76,77,78,79,80,81,82,83,84,85,86,87,88,89,90,91,92,93,94,95,96,97,98,99,100,101,102,103,104,105,106,107,108,109,110,111,112,113,114,115,116,117,118,119,120,121,122,123,124,125,126,127,128,129,130,131,132,133,134,135,136,137,138,139,140,141,142] (fun _ t5 _ _ _ _ _ _ _ _ _ _ _ _ _ _ _ _ _ _ _ _ _ _ _ _ _ _ _ _ _ _ _ _ _ _ _ _ _ _ _ _ _ _ _ _ _ _ _ _ _ _ _ _ _ _ _ _ _ _ _ _ _ _ _ _ _ _ _ _ _ _ _ _ _ _ _ _ _ _ _ _ _ _ _ _ _ _ _ _ _ _ _ _ _ _ _ _ _ _ _ _ _ _ _ _ _ _ _ _ _ _ _ _ _ _ _ _ _ _ _ _ _ _ _ _ _ _ _ _ _ _ _ _ _ _ _ _ _ wr=>∃ (k:Nat),k≤l.length∧t5=.int .i64 k∧Hid ((l.take k).all (right1 d)=true)∧Hid (Below w.heap.size w wr)) (fun _ t5 _ _ _ _ _ _ _ _ _ _ _ _ _ _ _ _ _ _ _ _ _ _ _ _ _ _ _ _ _ _ _ _ _ _ _ _ _ _ _ _ _ _ _ _ _ _ _ _ _ _ _ _ _ _ _ _ _ _ _ _ _ _ _ _ _ _ _ _ _ _ _ _ _ _ _ _ _ _ _ _ _ _ _ _ _ _ _ _ _ _ _ _ _ _ _ _ _ _ _ _ _ _ _ _ _ _ _ _ _ _ _ _ _ _ _ _ _ _ _ _ _ _ _ _ _ _ _ _ _ _ _ _ _ _ _ _ _ _=>l.length - (intOf t5).toNat)
  case atStart=>exact ⟨0,by omega,by first | rfl | go_num,Lib.hid (by simp),Lib.hid (Below.refl _ _)⟩
  case round =>
    obtain ⟨wo,rfl⟩:∃ wo:World,wo=wr:=⟨_,rfl⟩
    obtain ⟨k,hk,rfl,HA,HB⟩:=hrel
    by_cases hkl:k < l.length
    · have hki:(k:Int) < (l.length:Int):=by omega
      have hcl:(l.length:Int)≤9223372036854775807:=by omega
      have hszr:=HB.out.size
      have hLr:SsL wo B l (.slice a l.length cap):=HL.out.low (HB.out.mono hB)
      obtain ⟨b,off,op,n,name,es,body,els,ae,ce,ab,cb,al,cl,rfl,hbB,hbw,hat,c0,c1,c2,c3,c4,c5,hE,hBd,hEl⟩:=hLr.at hkl
      obtain ⟨-,-,-,hok1,hok2,hok3⟩:=okSs_at Hoks.out hat
      have Hal:=Lib.hid (all_take hat HA.out)
      have HR:Hid (right1 d (.mk op n name es body els)=((rightS d body && rightS d els) && (headT op n name es.length body.length els.length && es.all (fineS 40)))):=Lib.hid rfl
      generalize right1 d (.mk op n name es body els)=q at *
      have HBd:Hid (∀ (w':World),Below wo.heap.size wo w'→Calls Try.prog 56 #[.slice ab body.length cb,.int .i64 d] w' _):=Lib.hid (fun w' hb=>Hih.out body _ w' B hok2 (hBd.low (hb.mono (Nat.le_trans hB hszr))) (Nat.le_trans hB (Nat.le_trans hszr hb.size)))
      have HEl:Hid (∀ (w':World),Below wo.heap.size wo w'→Calls Try.prog 56 #[.slice al els.length cl,.int .i64 d] w' _):=Lib.hid (fun w' hb=>Hih.out els _ w' B hok3 (hEl.low (hb.mono (Nat.le_trans hB hszr))) (Nat.le_trans hB (Nat.le_trans hszr hb.size)))
      generalize rightS d body=qb at *
      generalize rightS d els=ql at *
      have HE:Hid (∀ (w':World),Below wo.heap.size wo w'→EsL w' B es (.slice ae es.length ce)):=Lib.hid (fun w' hb=>hE.low (hb.mono (Nat.le_trans hB hszr)))
      have hfe:=hE.form
      obtain ⟨_,_,_,hlce,hlce2⟩:=hfe
      obtain ⟨_,_,_,hlcb,hlcb2⟩:=hBd.form
      obtain ⟨_,_,_,hlcl,hlcl2⟩:=hEl.form
      have HFi:Hid (∀ (op n:Int) (name:List UInt8) (args:List Ex) (v:Value) (w':World),okE (.mk op n name args)→EsL w' B args v→B≤w'.heap.size→Calls Try.prog 69 #[.agg #[.int .u8 op,.int .i64 n,.string (bstr name),v],.int .i64 40] w' _):=Lib.hid (fun op n name args v w' h1 h2 h3=>fine_any 40 (by omega) op n name args v w' B h1 h2 h3)
      have Hok1:=Lib.hid hok1
      have HNm:Hid (∀ w:World,_):=Lib.hid (fun w:World=>Name_any name w)
      obtain ⟨W1,hW1,hX1,hb1⟩:∃ W1,W1=wo.alloc (.cells #[.int .u8 op,.int .i64 n,.string (bstr name),.slice ae es.length ce,.slice ab body.length cb,.slice al els.length cl] 59)∧OwnV W1 wo.heap.size 59 [.int .u8 op,.int .i64 n,.string (bstr name),.slice ae es.length ce,.slice ab body.length cb,.slice al els.length cl]∧Below wo.heap.size wo W1:=⟨_,rfl,OwnV.new _ _ _,(Below.refl _ _).alloc (Nat.le_refl _) _⟩
      have Hb1:=Lib.hid hb1
      have HX1:=Lib.hid hX1
      have HW1:=Lib.hid hW1
      have x0:=hX1.cell (i:=0) rfl
      have x4:=hX1.cell (i:=4) rfl
      have HFq:Hid (q=false→final=false):=Lib.hid (fun h=>by rw [HF.out,Hal.out.2 h])
      clear hLr hE hBd hEl hok1 hok2 hok3 hat hW1 hX1 hb1
      by_cases hrg:1≤op∧op≤7
      · obtain ⟨hr1,hr7⟩:=hrg
        cases qb with
        | false =>
          have HFz:Hid (final=false):=Lib.hid (HFq.out (by rw [HR.out,Bool.false_and,Bool.false_and]))
          go_upto_region 5 with (fail)
          rw [← HW1.out]
          go_wp2_with fail
          refine (HBd.out _ Hb1.out).mono ?_
          rintro e2 w2 ⟨rfl,hb2⟩
          have HX2:=Lib.hid (HX1.out.below hb2 (Nat.le_refl _))
          have Hb2:=Lib.hid (Hb1.out.trans (hb2.mono Hb1.out.size))
          have x5:=HX2.out.cell (i:=5) rfl
          clear hb2 x0 x4
          go_wp2_with fail
          go_ret
          exact ⟨retb (a:=false) HFz.out.symm,HB.out.trans ((Hb2.out).mono hszr)⟩
        | true =>
          cases ql with
          | false =>
            have HFz:Hid (final=false):=Lib.hid (HFq.out (by rw [HR.out,Bool.and_false,Bool.false_and]))
            go_upto_region 5 with (fail)
            rw [← HW1.out]
            go_wp2_with fail
            refine (HBd.out _ Hb1.out).mono ?_
            rintro e2 w2 ⟨rfl,hb2⟩
            have HX2:=Lib.hid (HX1.out.below hb2 (Nat.le_refl _))
            have Hb2:=Lib.hid (Hb1.out.trans (hb2.mono Hb1.out.size))
            have x5:=HX2.out.cell (i:=5) rfl
            clear hb2 x0 x4
            go_wp2_with fail
            refine (HEl.out _ Hb2.out).mono ?_
            rintro e3 w3 ⟨rfl,hb3⟩
            have HX3:=Lib.hid (HX2.out.below hb3 (Nat.le_refl _))
            have Hb3:=Lib.hid (Hb2.out.trans (hb3.mono Hb2.out.size))
            clear hb3 x5
            go_wp2_with fail
            go_ret
            exact ⟨retb (a:=false) HFz.out.symm,HB.out.trans ((Hb3.out).mono hszr)⟩
          | true =>
            have HR2:Hid (q=(headT op n name es.length body.length els.length && es.all (fineS 40))):=Lib.hid (by rw [HR.out,Bool.and_true,Bool.true_and])
            clear HR
            go_upto_region 5 with (fail)
            rw [← HW1.out]
            go_wp2_with fail
            refine (HBd.out _ Hb1.out).mono ?_
            rintro e2 w2 ⟨rfl,hb2⟩
            have HX2:=Lib.hid (HX1.out.below hb2 (Nat.le_refl _))
            have Hb2:=Lib.hid (Hb1.out.trans (hb2.mono Hb1.out.size))
            have x5:=HX2.out.cell (i:=5) rfl
            clear hb2 x0 x4
            go_wp2_with fail
            refine (HEl.out _ Hb2.out).mono ?_
            rintro e3 w3 ⟨rfl,hb3⟩
            have HX3:=Lib.hid (HX2.out.below hb3 (Nat.le_refl _))
            have Hb3:=Lib.hid (Hb2.out.trans (hb3.mono Hb2.out.size))
            clear hb3 x5
            have x0:=HX3.out.cell (i:=0) rfl
            have x1:=HX3.out.cell (i:=1) rfl
            have x2:=HX3.out.cell (i:=2) rfl
            have x3:=HX3.out.cell (i:=3) rfl
            have x4:=HX3.out.cell (i:=4) rfl
            have x5:=HX3.out.cell (i:=5) rfl
            go_upto_region 7 with (fail)
            rcases (show (op≤2)∨op=3∨op=4∨op=5∨(6≤op) by omega) with hc | hc | hc | hc | hc
            · have e3:(op == 3)=false:=by rw [beq_eq_false_iff_ne];omega
              have m3:(op != 3)=true:=by rw [bne_iff_ne];omega
              have m4:(op != 4)=true:=by rw [bne_iff_ne];omega
              have m5:(op != 5)=true:=by rw [bne_iff_ne];omega
              have g5:op≤5:=by omega
              have g2:op≤2:=by omega
              have Hc:=Lib.hid hc
              have HT:Hid (headT op n name es.length body.length els.length=(decide (es.length=1) && (nameS name && (decide (n=0) && (decide (body.length=0) && decide (els.length=0)))))):=Lib.hid (headT_11000 _ _ _ _ _ _ hr1 hc)
              clear hc
              by_cases hl:es.length=1
              · have hln:((es.length:Int) != 1)=false:=by rw [hl];rfl
                have Hl:=Lib.hid hl
                clear hl
                obtain ⟨qn,hqn⟩:∃ q,nameS name=q:=⟨_,rfl⟩
                rw [hqn] at HNm HT
                clear hqn
                cases qn with
                | true =>
                  by_cases hz:n=0
                  · have hz1:(n != 0)=false:=by simp [hz]
                    have Hz:=Lib.hid hz
                    clear hz
                    by_cases hbd:body.length=0
                    · have hbd1:¬ (body.length:Int) > 0:=by omega
                      have hbd2:¬ 0 < body.length:=by omega
                      have Hbd:=Lib.hid hbd
                      clear hbd
                      by_cases hel:els.length=0
                      · have hel1:¬ (els.length:Int) > 0:=by omega
                        have hel2:¬ 0 < els.length:=by omega
                        have Hel:=Lib.hid hel
                        clear hel
                        have Hh:Hid (headT op n name es.length body.length els.length=true):=Lib.hid (by rw [HT.out,decide_eq_true Hl.out,Bool.true_and,Bool.true_and,decide_eq_true Hz.out,Bool.true_and,decide_eq_true Hbd.out,Bool.true_and,decide_eq_true Hel.out])
                        clear HT
                        go_upto_region 12 with (fail)
                        simp only [List.append_eq,List.cons_append,List.nil_append]
                        go_upto_region 14 with (go_at_call 68;refine (HNm.out _).mono ?_;rintro e4 w4 ⟨rfl,hb4⟩;have Hb4:=Lib.hid hb4;clear hb4 x0 x1 x2 x3 x4 x5;have x0:=(HX3.out.below Hb4.out (Nat.le_refl _)).cell (i:=0) rfl;have x1:=(HX3.out.below Hb4.out (Nat.le_refl _)).cell (i:=1) rfl;have x2:=(HX3.out.below Hb4.out (Nat.le_refl _)).cell (i:=2) rfl;have x3:=(HX3.out.below Hb4.out (Nat.le_refl _)).cell (i:=3) rfl;have x4:=(HX3.out.below Hb4.out (Nat.le_refl _)).cell (i:=4) rfl;have x5:=(HX3.out.below Hb4.out (Nat.le_refl _)).cell (i:=5) rfl)
                        go_wp2_with fail
                        have HXw:Hid (OwnV w4 wo.heap.size 59 [.int .u8 op,.int .i64 n,.string (bstr name),.slice ae es.length ce,.slice ab body.length cb,.slice al els.length cl]):=Lib.hid (HX3.out.below Hb4.out (Nat.le_refl _))
                        have Hbw:Hid (Below wo.heap.size wo w4):=Lib.hid (Hb3.out.trans (Hb4.out.mono Hb3.out.size))
                        go_loopw [4,8,131,132,133,134,135,136,137,138,139,140,141,142] (fun _ t8 _ _ _ _ _ _ _ _ _ _ _ _ wr=>∃ (j:Nat),j≤es.length∧t8=.int .i64 j∧Hid ((es.take j).all (fineS 40)=true)∧Hid (Below w4.heap.size w4 wr)) (fun _ t8 _ _ _ _ _ _ _ _ _ _ _ _ _=>es.length - (intOf t8).toNat)
                        case atStart=>exact ⟨0,by omega,by first | rfl | go_num,Lib.hid (by simp),Lib.hid (Below.refl _ _)⟩
                        case round =>
                          obtain ⟨j,hj,rfl,HA2,HB2⟩:=hrel
                          have Hbq:Hid (Below wo.heap.size wo wr):=Lib.hid (Hbw.out.trans (HB2.out.mono Hbw.out.size))
                          have hx3:=(HXw.out.below HB2.out (Nat.le_refl _)).cell (i:=3) rfl
                          by_cases hjl:j < es.length
                          · have hji:(j:Int) < 1:=by have:=Hl.out;omega
                            have hji2:(j:Int) < (es.length:Int):=by omega
                            have hcl2:(es.length:Int)≤9223372036854775807:=by omega
                            obtain ⟨be,oe,op2,n2,name2,args2,aa,ac,rfl,hbB2,hbw2,hat2,d0,d1,d2,d3,hL2⟩:=(HE.out _ Hbq.out).at hjl
                            have HI:=Lib.hid (HFi.out op2 n2 name2 args2 _ wr (okEs_at Hok1.out hat2) hL2 (Nat.le_trans hB (Nat.le_trans hszr Hbq.out.size)))
                            have Hal2:=Lib.hid (all_take hat2 HA2.out)
                            generalize fineS 40 (.mk op2 n2 name2 args2)=qf at *
                            clear hat2 hL2
                            cases qf with
                            | false =>
                              have HFz:Hid (final=false):=Lib.hid (HFq.out (by rw [HR2.out,Hal2.out.2 rfl,Bool.and_false]))
                              clear Hal2
                              go_wp2_with fail
                              refine HI.out.mono ?_
                              rintro e6 w6 ⟨rfl,hb6⟩
                              have Hb6:=Lib.hid (HB.out.trans ((Hbq.out.trans (hb6.mono Hbq.out.size)).mono hszr))
                              clear hb6
                              go_wp2_with fail
                              go_ret
                              exact ⟨retb (a:=false) HFz.out.symm,Hb6.out⟩
                            | true =>
                              have HA3:=Lib.hid (Hal2.out.1 rfl)
                              clear Hal2
                              go_wp2_with fail
                              refine HI.out.mono ?_
                              rintro e6 w6 ⟨rfl,hb6⟩
                              have Hb6:=Lib.hid (HB2.out.trans (hb6.mono HB2.out.size))
                              clear hb6
                              go_wp2_with fail
                              go_roundw
                              case rel=>exact ⟨j+1,by omega,by go_num,HA3,Hb6⟩
                              case measure=>simp [intOf];omega
                          · have hji:¬ (j:Int) < 1:=by have:=Hl.out;omega
                            have hje:j=es.length:=by omega
                            have Hq:Hid (q=true):=Lib.hid (by have:=HA2.out;rw [hje,List.take_length] at this;rw [HR2.out,this,Bool.and_true];exact Hh.out)
                            have HA3:=Lib.hid (Hal.out.1 Hq.out)
                            have HB3:=Lib.hid (HB.out.trans (Hbq.out.mono hszr))
                            clear Hq HR2 Hal HFq
                            go_wp2_with fail
                            go_roundw
                            case rel=>exact ⟨k+1,by omega,by go_num,HA3,HB3⟩
                            case measure=>simp [intOf];omega
                      · have hel1:(els.length:Int) > 0:=by omega
                        have hel2:0 < els.length:=by omega
                        have Hel:=Lib.hid hel
                        clear hel
                        have HFz:Hid (final=false):=Lib.hid (HFq.out (by rw [HR2.out,HT.out,decide_eq_true Hl.out,Bool.true_and,Bool.true_and,decide_eq_true Hz.out,Bool.true_and,decide_eq_true Hbd.out,Bool.true_and,decide_eq_false Hel.out,Bool.false_and]))
                        clear HR2 HT
                        go_upto_region 12 with (fail)
                        simp only [List.append_eq,List.cons_append,List.nil_append]
                        go_wp2_with (go_at_call 68;refine (HNm.out _).mono ?_;rintro e4 w4 ⟨rfl,hb4⟩;have Hb4:=Lib.hid hb4;clear hb4 x0 x1 x2 x3 x4 x5;have x0:=(HX3.out.below Hb4.out (Nat.le_refl _)).cell (i:=0) rfl;have x1:=(HX3.out.below Hb4.out (Nat.le_refl _)).cell (i:=1) rfl;have x2:=(HX3.out.below Hb4.out (Nat.le_refl _)).cell (i:=2) rfl;have x3:=(HX3.out.below Hb4.out (Nat.le_refl _)).cell (i:=3) rfl;have x4:=(HX3.out.below Hb4.out (Nat.le_refl _)).cell (i:=4) rfl;have x5:=(HX3.out.below Hb4.out (Nat.le_refl _)).cell (i:=5) rfl)
                        go_ret
                        exact ⟨retb (a:=false) HFz.out.symm,HB.out.trans ((Hb3.out.trans (Hb4.out.mono Hb3.out.size)).mono hszr)⟩
                    · have hbd1:(body.length:Int) > 0:=by omega
                      have hbd2:0 < body.length:=by omega
                      have Hbd:=Lib.hid hbd
                      clear hbd
                      have HFz:Hid (final=false):=Lib.hid (HFq.out (by rw [HR2.out,HT.out,decide_eq_true Hl.out,Bool.true_and,Bool.true_and,decide_eq_true Hz.out,Bool.true_and,decide_eq_false Hbd.out,Bool.false_and,Bool.false_and]))
                      clear HR2 HT
                      go_upto_region 12 with (fail)
                      simp only [List.append_eq,List.cons_append,List.nil_append]
                      go_wp2_with (go_at_call 68;refine (HNm.out _).mono ?_;rintro e4 w4 ⟨rfl,hb4⟩;have Hb4:=Lib.hid hb4;clear hb4 x0 x1 x2 x3 x4 x5;have x0:=(HX3.out.below Hb4.out (Nat.le_refl _)).cell (i:=0) rfl;have x1:=(HX3.out.below Hb4.out (Nat.le_refl _)).cell (i:=1) rfl;have x2:=(HX3.out.below Hb4.out (Nat.le_refl _)).cell (i:=2) rfl;have x3:=(HX3.out.below Hb4.out (Nat.le_refl _)).cell (i:=3) rfl;have x4:=(HX3.out.below Hb4.out (Nat.le_refl _)).cell (i:=4) rfl;have x5:=(HX3.out.below Hb4.out (Nat.le_refl _)).cell (i:=5) rfl)
                      go_ret
                      exact ⟨retb (a:=false) HFz.out.symm,HB.out.trans ((Hb3.out.trans (Hb4.out.mono Hb3.out.size)).mono hszr)⟩
                  · have hz1:(n != 0)=true:=by simp [hz]
                    have Hz:=Lib.hid hz
                    clear hz
                    have HFz:Hid (final=false):=Lib.hid (HFq.out (by rw [HR2.out,HT.out,decide_eq_true Hl.out,Bool.true_and,Bool.true_and,decide_eq_false Hz.out,Bool.false_and,Bool.false_and]))
                    clear HR2 HT
                    go_upto_region 12 with (fail)
                    simp only [List.append_eq,List.cons_append,List.nil_append]
                    go_wp2_with (go_at_call 68;refine (HNm.out _).mono ?_;rintro e4 w4 ⟨rfl,hb4⟩;have Hb4:=Lib.hid hb4;clear hb4 x0 x1 x2 x3 x4 x5;have x0:=(HX3.out.below Hb4.out (Nat.le_refl _)).cell (i:=0) rfl;have x1:=(HX3.out.below Hb4.out (Nat.le_refl _)).cell (i:=1) rfl;have x2:=(HX3.out.below Hb4.out (Nat.le_refl _)).cell (i:=2) rfl;have x3:=(HX3.out.below Hb4.out (Nat.le_refl _)).cell (i:=3) rfl;have x4:=(HX3.out.below Hb4.out (Nat.le_refl _)).cell (i:=4) rfl;have x5:=(HX3.out.below Hb4.out (Nat.le_refl _)).cell (i:=5) rfl)
                    go_ret
                    exact ⟨retb (a:=false) HFz.out.symm,HB.out.trans ((Hb3.out.trans (Hb4.out.mono Hb3.out.size)).mono hszr)⟩
                | false =>
                  have HFz:Hid (final=false):=Lib.hid (HFq.out (by rw [HR2.out,HT.out,decide_eq_true Hl.out,Bool.true_and,Bool.false_and,Bool.false_and]))
                  clear HR2 HT
                  go_upto_region 12 with (fail)
                  simp only [List.append_eq,List.cons_append,List.nil_append]
                  go_wp2_with (go_at_call 68;refine (HNm.out _).mono ?_;rintro e4 w4 ⟨rfl,hb4⟩;have Hb4:=Lib.hid hb4;clear hb4 x0 x1 x2 x3 x4 x5;have x0:=(HX3.out.below Hb4.out (Nat.le_refl _)).cell (i:=0) rfl;have x1:=(HX3.out.below Hb4.out (Nat.le_refl _)).cell (i:=1) rfl;have x2:=(HX3.out.below Hb4.out (Nat.le_refl _)).cell (i:=2) rfl;have x3:=(HX3.out.below Hb4.out (Nat.le_refl _)).cell (i:=3) rfl;have x4:=(HX3.out.below Hb4.out (Nat.le_refl _)).cell (i:=4) rfl;have x5:=(HX3.out.below Hb4.out (Nat.le_refl _)).cell (i:=5) rfl)
                  go_ret
                  exact ⟨retb (a:=false) HFz.out.symm,HB.out.trans ((Hb3.out.trans (Hb4.out.mono Hb3.out.size)).mono hszr)⟩
              · have hln:((es.length:Int) != 1)=true:=by rw [bne_iff_ne];omega
                have Hl:=Lib.hid hl
                clear hl
                have HFz:Hid (final=false):=Lib.hid (HFq.out (by rw [HR2.out,HT.out,decide_eq_false Hl.out,Bool.false_and,Bool.false_and]))
                clear HR2 HT
                go_upto_region 12 with (fail)
                simp only [List.append_eq,List.cons_append,List.nil_append]
                go_wp2_with (fail)
                go_ret
                exact ⟨retb (a:=false) HFz.out.symm,HB.out.trans ((Hb3.out).mono hszr)⟩
            · have e3:(op == 3)=true:=by rw [beq_iff_eq];omega
              have m3:(op != 3)=false:=by rw [bne_eq_false_iff_eq];omega
              have m4:(op != 4)=true:=by rw [bne_iff_ne];omega
              have m5:(op != 5)=true:=by rw [bne_iff_ne];omega
              have g5:op≤5:=by omega
              have g2:2 < op:=by omega
              have Hc:=Lib.hid hc
              have HT:Hid (headT op n name es.length body.length els.length=(decide (es.length=2) && (decide (name=[]) && (decide (1≤n∧n≤10) && (decide (body.length=0) && decide (els.length=0)))))):=Lib.hid (headT_20100 _ _ _ _ _ _ hc)
              clear hc
              by_cases hl:es.length=2
              · have hln:((es.length:Int) != 2)=false:=by rw [hl];rfl
                have Hl:=Lib.hid hl
                clear hl
                by_cases hn:name=[]
                · have hs:(bstr name).toList=[]:=str_nil.2 hn
                  have Hn:=Lib.hid hn
                  clear hn
                  by_cases hz:1≤n∧n≤10
                  · obtain ⟨hz1,hz2⟩:=hz
                    have Hz:Hid (1≤n∧n≤10):=Lib.hid ⟨hz1,hz2⟩
                    by_cases hbd:body.length=0
                    · have hbd1:¬ (body.length:Int) > 0:=by omega
                      have hbd2:¬ 0 < body.length:=by omega
                      have Hbd:=Lib.hid hbd
                      clear hbd
                      by_cases hel:els.length=0
                      · have hel1:¬ (els.length:Int) > 0:=by omega
                        have hel2:¬ 0 < els.length:=by omega
                        have Hel:=Lib.hid hel
                        clear hel
                        have Hh:Hid (headT op n name es.length body.length els.length=true):=Lib.hid (by rw [HT.out,decide_eq_true Hl.out,Bool.true_and,decide_eq_true Hn.out,Bool.true_and,decide_eq_true Hz.out,Bool.true_and,decide_eq_true Hbd.out,Bool.true_and,decide_eq_true Hel.out])
                        clear HT
                        go_upto_region 12 with (fail)
                        simp only [List.append_eq,List.cons_append,List.nil_append]
                        go_upto_region 14 with (fail)
                        go_wp2_with fail
                        have HXw:Hid (OwnV w3 wo.heap.size 59 [.int .u8 op,.int .i64 n,.string (bstr name),.slice ae es.length ce,.slice ab body.length cb,.slice al els.length cl]):=Lib.hid HX3.out
                        have Hbw:Hid (Below wo.heap.size wo w3):=Lib.hid (Hb3.out)
                        go_loopw [4,8,131,132,133,134,135,136,137,138,139,140,141,142] (fun _ t8 _ _ _ _ _ _ _ _ _ _ _ _ wr=>∃ (j:Nat),j≤es.length∧t8=.int .i64 j∧Hid ((es.take j).all (fineS 40)=true)∧Hid (Below w3.heap.size w3 wr)) (fun _ t8 _ _ _ _ _ _ _ _ _ _ _ _ _=>es.length - (intOf t8).toNat)
                        case atStart=>exact ⟨0,by omega,by first | rfl | go_num,Lib.hid (by simp),Lib.hid (Below.refl _ _)⟩
                        case round =>
                          obtain ⟨j,hj,rfl,HA2,HB2⟩:=hrel
                          have Hbq:Hid (Below wo.heap.size wo wr):=Lib.hid (Hbw.out.trans (HB2.out.mono Hbw.out.size))
                          have hx3:=(HXw.out.below HB2.out (Nat.le_refl _)).cell (i:=3) rfl
                          by_cases hjl:j < es.length
                          · have hji:(j:Int) < 2:=by have:=Hl.out;omega
                            have hji2:(j:Int) < (es.length:Int):=by omega
                            have hcl2:(es.length:Int)≤9223372036854775807:=by omega
                            obtain ⟨be,oe,op2,n2,name2,args2,aa,ac,rfl,hbB2,hbw2,hat2,d0,d1,d2,d3,hL2⟩:=(HE.out _ Hbq.out).at hjl
                            have HI:=Lib.hid (HFi.out op2 n2 name2 args2 _ wr (okEs_at Hok1.out hat2) hL2 (Nat.le_trans hB (Nat.le_trans hszr Hbq.out.size)))
                            have Hal2:=Lib.hid (all_take hat2 HA2.out)
                            generalize fineS 40 (.mk op2 n2 name2 args2)=qf at *
                            clear hat2 hL2
                            cases qf with
                            | false =>
                              have HFz:Hid (final=false):=Lib.hid (HFq.out (by rw [HR2.out,Hal2.out.2 rfl,Bool.and_false]))
                              clear Hal2
                              go_wp2_with fail
                              refine HI.out.mono ?_
                              rintro e6 w6 ⟨rfl,hb6⟩
                              have Hb6:=Lib.hid (HB.out.trans ((Hbq.out.trans (hb6.mono Hbq.out.size)).mono hszr))
                              clear hb6
                              go_wp2_with fail
                              go_ret
                              exact ⟨retb (a:=false) HFz.out.symm,Hb6.out⟩
                            | true =>
                              have HA3:=Lib.hid (Hal2.out.1 rfl)
                              clear Hal2
                              go_wp2_with fail
                              refine HI.out.mono ?_
                              rintro e6 w6 ⟨rfl,hb6⟩
                              have Hb6:=Lib.hid (HB2.out.trans (hb6.mono HB2.out.size))
                              clear hb6
                              go_wp2_with fail
                              go_roundw
                              case rel=>exact ⟨j+1,by omega,by go_num,HA3,Hb6⟩
                              case measure=>simp [intOf];omega
                          · have hji:¬ (j:Int) < 2:=by have:=Hl.out;omega
                            have hje:j=es.length:=by omega
                            have Hq:Hid (q=true):=Lib.hid (by have:=HA2.out;rw [hje,List.take_length] at this;rw [HR2.out,this,Bool.and_true];exact Hh.out)
                            have HA3:=Lib.hid (Hal.out.1 Hq.out)
                            have HB3:=Lib.hid (HB.out.trans (Hbq.out.mono hszr))
                            clear Hq HR2 Hal HFq
                            go_wp2_with fail
                            go_roundw
                            case rel=>exact ⟨k+1,by omega,by go_num,HA3,HB3⟩
                            case measure=>simp [intOf];omega
                      · have hel1:(els.length:Int) > 0:=by omega
                        have hel2:0 < els.length:=by omega
                        have Hel:=Lib.hid hel
                        clear hel
                        have HFz:Hid (final=false):=Lib.hid (HFq.out (by rw [HR2.out,HT.out,decide_eq_true Hl.out,Bool.true_and,decide_eq_true Hn.out,Bool.true_and,decide_eq_true Hz.out,Bool.true_and,decide_eq_true Hbd.out,Bool.true_and,decide_eq_false Hel.out,Bool.false_and]))
                        clear HR2 HT
                        go_upto_region 12 with (fail)
                        simp only [List.append_eq,List.cons_append,List.nil_append]
                        go_wp2_with (fail)
                        go_ret
                        exact ⟨retb (a:=false) HFz.out.symm,HB.out.trans ((Hb3.out).mono hszr)⟩
                    · have hbd1:(body.length:Int) > 0:=by omega
                      have hbd2:0 < body.length:=by omega
                      have Hbd:=Lib.hid hbd
                      clear hbd
                      have HFz:Hid (final=false):=Lib.hid (HFq.out (by rw [HR2.out,HT.out,decide_eq_true Hl.out,Bool.true_and,decide_eq_true Hn.out,Bool.true_and,decide_eq_true Hz.out,Bool.true_and,decide_eq_false Hbd.out,Bool.false_and,Bool.false_and]))
                      clear HR2 HT
                      go_upto_region 12 with (fail)
                      simp only [List.append_eq,List.cons_append,List.nil_append]
                      go_wp2_with (fail)
                      go_ret
                      exact ⟨retb (a:=false) HFz.out.symm,HB.out.trans ((Hb3.out).mono hszr)⟩
                  · have HFz:Hid (final=false):=Lib.hid (HFq.out (by rw [HR2.out,HT.out,decide_eq_true Hl.out,Bool.true_and,decide_eq_true Hn.out,Bool.true_and,decide_eq_false hz,Bool.false_and,Bool.false_and]))
                    clear HR2 HT
                    by_cases hz1:n < 1
                    · clear hz
                      go_upto_region 12 with (fail)
                      simp only [List.append_eq,List.cons_append,List.nil_append]
                      go_wp2_with (fail)
                      go_ret
                      exact ⟨retb (a:=false) HFz.out.symm,HB.out.trans ((Hb3.out).mono hszr)⟩
                    · have hz2:10 < n:=by omega
                      clear hz hz1
                      go_upto_region 12 with (fail)
                      simp only [List.append_eq,List.cons_append,List.nil_append]
                      go_wp2_with (fail)
                      go_ret
                      exact ⟨retb (a:=false) HFz.out.symm,HB.out.trans ((Hb3.out).mono hszr)⟩
                · have hs:¬ (bstr name).toList=[]:=fun h=>hn (str_nil.1 h)
                  have Hn:=Lib.hid hn
                  clear hn
                  have HFz:Hid (final=false):=Lib.hid (HFq.out (by rw [HR2.out,HT.out,decide_eq_true Hl.out,Bool.true_and,decide_eq_false Hn.out,Bool.false_and,Bool.false_and]))
                  clear HR2 HT
                  go_upto_region 12 with (fail)
                  simp only [List.append_eq,List.cons_append,List.nil_append]
                  go_wp2_with (fail)
                  go_ret
                  exact ⟨retb (a:=false) HFz.out.symm,HB.out.trans ((Hb3.out).mono hszr)⟩
              · have hln:((es.length:Int) != 2)=true:=by rw [bne_iff_ne];omega
                have Hl:=Lib.hid hl
                clear hl
                have HFz:Hid (final=false):=Lib.hid (HFq.out (by rw [HR2.out,HT.out,decide_eq_false Hl.out,Bool.false_and,Bool.false_and]))
                clear HR2 HT
                go_upto_region 12 with (fail)
                simp only [List.append_eq,List.cons_append,List.nil_append]
                go_wp2_with (fail)
                go_ret
                exact ⟨retb (a:=false) HFz.out.symm,HB.out.trans ((Hb3.out).mono hszr)⟩
            · have e3:(op == 3)=false:=by rw [beq_eq_false_iff_ne];omega
              have m3:(op != 3)=true:=by rw [bne_iff_ne];omega
              have m4:(op != 4)=false:=by rw [bne_eq_false_iff_eq];omega
              have m5:(op != 5)=true:=by rw [bne_iff_ne];omega
              have g5:op≤5:=by omega
              have g2:2 < op:=by omega
              have Hc:=Lib.hid hc
              have HT:Hid (headT op n name es.length body.length els.length=(decide (es.length=1) && (decide (name=[]) && (decide (n=0) && (true))))):=Lib.hid (headT_10011 _ _ _ _ _ _ hc)
              clear hc
              by_cases hl:es.length=1
              · have hln:((es.length:Int) != 1)=false:=by rw [hl];rfl
                have Hl:=Lib.hid hl
                clear hl
                by_cases hn:name=[]
                · have hs:(bstr name).toList=[]:=str_nil.2 hn
                  have Hn:=Lib.hid hn
                  clear hn
                  by_cases hz:n=0
                  · have hz1:(n != 0)=false:=by simp [hz]
                    have Hz:=Lib.hid hz
                    clear hz
                    by_cases hbd:0 < body.length
                    · have hbd1:(body.length:Int) > 0:=by omega
                      have hbd2:0 < body.length:=by omega
                      clear hbd
                      by_cases hel:0 < els.length
                      · have hel1:(els.length:Int) > 0:=by omega
                        have hel2:0 < els.length:=by omega
                        clear hel
                        have Hh:Hid (headT op n name es.length body.length els.length=true):=Lib.hid (by rw [HT.out,decide_eq_true Hl.out,Bool.true_and,decide_eq_true Hn.out,Bool.true_and,decide_eq_true Hz.out,Bool.true_and])
                        clear HT
                        go_upto_region 12 with (fail)
                        simp only [List.append_eq,List.cons_append,List.nil_append]
                        go_upto_region 14 with (fail)
                        go_wp2_with fail
                        have HXw:Hid (OwnV w3 wo.heap.size 59 [.int .u8 op,.int .i64 n,.string (bstr name),.slice ae es.length ce,.slice ab body.length cb,.slice al els.length cl]):=Lib.hid HX3.out
                        have Hbw:Hid (Below wo.heap.size wo w3):=Lib.hid (Hb3.out)
                        go_loopw [4,8,131,132,133,134,135,136,137,138,139,140,141,142] (fun _ t8 _ _ _ _ _ _ _ _ _ _ _ _ wr=>∃ (j:Nat),j≤es.length∧t8=.int .i64 j∧Hid ((es.take j).all (fineS 40)=true)∧Hid (Below w3.heap.size w3 wr)) (fun _ t8 _ _ _ _ _ _ _ _ _ _ _ _ _=>es.length - (intOf t8).toNat)
                        case atStart=>exact ⟨0,by omega,by first | rfl | go_num,Lib.hid (by simp),Lib.hid (Below.refl _ _)⟩
                        case round =>
                          obtain ⟨j,hj,rfl,HA2,HB2⟩:=hrel
                          have Hbq:Hid (Below wo.heap.size wo wr):=Lib.hid (Hbw.out.trans (HB2.out.mono Hbw.out.size))
                          have hx3:=(HXw.out.below HB2.out (Nat.le_refl _)).cell (i:=3) rfl
                          by_cases hjl:j < es.length
                          · have hji:(j:Int) < 1:=by have:=Hl.out;omega
                            have hji2:(j:Int) < (es.length:Int):=by omega
                            have hcl2:(es.length:Int)≤9223372036854775807:=by omega
                            obtain ⟨be,oe,op2,n2,name2,args2,aa,ac,rfl,hbB2,hbw2,hat2,d0,d1,d2,d3,hL2⟩:=(HE.out _ Hbq.out).at hjl
                            have HI:=Lib.hid (HFi.out op2 n2 name2 args2 _ wr (okEs_at Hok1.out hat2) hL2 (Nat.le_trans hB (Nat.le_trans hszr Hbq.out.size)))
                            have Hal2:=Lib.hid (all_take hat2 HA2.out)
                            generalize fineS 40 (.mk op2 n2 name2 args2)=qf at *
                            clear hat2 hL2
                            cases qf with
                            | false =>
                              have HFz:Hid (final=false):=Lib.hid (HFq.out (by rw [HR2.out,Hal2.out.2 rfl,Bool.and_false]))
                              clear Hal2
                              go_wp2_with fail
                              refine HI.out.mono ?_
                              rintro e6 w6 ⟨rfl,hb6⟩
                              have Hb6:=Lib.hid (HB.out.trans ((Hbq.out.trans (hb6.mono Hbq.out.size)).mono hszr))
                              clear hb6
                              go_wp2_with fail
                              go_ret
                              exact ⟨retb (a:=false) HFz.out.symm,Hb6.out⟩
                            | true =>
                              have HA3:=Lib.hid (Hal2.out.1 rfl)
                              clear Hal2
                              go_wp2_with fail
                              refine HI.out.mono ?_
                              rintro e6 w6 ⟨rfl,hb6⟩
                              have Hb6:=Lib.hid (HB2.out.trans (hb6.mono HB2.out.size))
                              clear hb6
                              go_wp2_with fail
                              go_roundw
                              case rel=>exact ⟨j+1,by omega,by go_num,HA3,Hb6⟩
                              case measure=>simp [intOf];omega
                          · have hji:¬ (j:Int) < 1:=by have:=Hl.out;omega
                            have hje:j=es.length:=by omega
                            have Hq:Hid (q=true):=Lib.hid (by have:=HA2.out;rw [hje,List.take_length] at this;rw [HR2.out,this,Bool.and_true];exact Hh.out)
                            have HA3:=Lib.hid (Hal.out.1 Hq.out)
                            have HB3:=Lib.hid (HB.out.trans (Hbq.out.mono hszr))
                            clear Hq HR2 Hal HFq
                            go_wp2_with fail
                            go_roundw
                            case rel=>exact ⟨k+1,by omega,by go_num,HA3,HB3⟩
                            case measure=>simp [intOf];omega
                      · have hel1:¬ (els.length:Int) > 0:=by omega
                        have hel2:¬ 0 < els.length:=by omega
                        clear hel
                        have Hh:Hid (headT op n name es.length body.length els.length=true):=Lib.hid (by rw [HT.out,decide_eq_true Hl.out,Bool.true_and,decide_eq_true Hn.out,Bool.true_and,decide_eq_true Hz.out,Bool.true_and])
                        clear HT
                        go_upto_region 12 with (fail)
                        simp only [List.append_eq,List.cons_append,List.nil_append]
                        go_upto_region 14 with (fail)
                        go_wp2_with fail
                        have HXw:Hid (OwnV w3 wo.heap.size 59 [.int .u8 op,.int .i64 n,.string (bstr name),.slice ae es.length ce,.slice ab body.length cb,.slice al els.length cl]):=Lib.hid HX3.out
                        have Hbw:Hid (Below wo.heap.size wo w3):=Lib.hid (Hb3.out)
                        go_loopw [4,8,131,132,133,134,135,136,137,138,139,140,141,142] (fun _ t8 _ _ _ _ _ _ _ _ _ _ _ _ wr=>∃ (j:Nat),j≤es.length∧t8=.int .i64 j∧Hid ((es.take j).all (fineS 40)=true)∧Hid (Below w3.heap.size w3 wr)) (fun _ t8 _ _ _ _ _ _ _ _ _ _ _ _ _=>es.length - (intOf t8).toNat)
                        case atStart=>exact ⟨0,by omega,by first | rfl | go_num,Lib.hid (by simp),Lib.hid (Below.refl _ _)⟩
                        case round =>
                          obtain ⟨j,hj,rfl,HA2,HB2⟩:=hrel
                          have Hbq:Hid (Below wo.heap.size wo wr):=Lib.hid (Hbw.out.trans (HB2.out.mono Hbw.out.size))
                          have hx3:=(HXw.out.below HB2.out (Nat.le_refl _)).cell (i:=3) rfl
                          by_cases hjl:j < es.length
                          · have hji:(j:Int) < 1:=by have:=Hl.out;omega
                            have hji2:(j:Int) < (es.length:Int):=by omega
                            have hcl2:(es.length:Int)≤9223372036854775807:=by omega
                            obtain ⟨be,oe,op2,n2,name2,args2,aa,ac,rfl,hbB2,hbw2,hat2,d0,d1,d2,d3,hL2⟩:=(HE.out _ Hbq.out).at hjl
                            have HI:=Lib.hid (HFi.out op2 n2 name2 args2 _ wr (okEs_at Hok1.out hat2) hL2 (Nat.le_trans hB (Nat.le_trans hszr Hbq.out.size)))
                            have Hal2:=Lib.hid (all_take hat2 HA2.out)
                            generalize fineS 40 (.mk op2 n2 name2 args2)=qf at *
                            clear hat2 hL2
                            cases qf with
                            | false =>
                              have HFz:Hid (final=false):=Lib.hid (HFq.out (by rw [HR2.out,Hal2.out.2 rfl,Bool.and_false]))
                              clear Hal2
                              go_wp2_with fail
                              refine HI.out.mono ?_
                              rintro e6 w6 ⟨rfl,hb6⟩
                              have Hb6:=Lib.hid (HB.out.trans ((Hbq.out.trans (hb6.mono Hbq.out.size)).mono hszr))
                              clear hb6
                              go_wp2_with fail
                              go_ret
                              exact ⟨retb (a:=false) HFz.out.symm,Hb6.out⟩
                            | true =>
                              have HA3:=Lib.hid (Hal2.out.1 rfl)
                              clear Hal2
                              go_wp2_with fail
                              refine HI.out.mono ?_
                              rintro e6 w6 ⟨rfl,hb6⟩
                              have Hb6:=Lib.hid (HB2.out.trans (hb6.mono HB2.out.size))
                              clear hb6
                              go_wp2_with fail
                              go_roundw
                              case rel=>exact ⟨j+1,by omega,by go_num,HA3,Hb6⟩
                              case measure=>simp [intOf];omega
                          · have hji:¬ (j:Int) < 1:=by have:=Hl.out;omega
                            have hje:j=es.length:=by omega
                            have Hq:Hid (q=true):=Lib.hid (by have:=HA2.out;rw [hje,List.take_length] at this;rw [HR2.out,this,Bool.and_true];exact Hh.out)
                            have HA3:=Lib.hid (Hal.out.1 Hq.out)
                            have HB3:=Lib.hid (HB.out.trans (Hbq.out.mono hszr))
                            clear Hq HR2 Hal HFq
                            go_wp2_with fail
                            go_roundw
                            case rel=>exact ⟨k+1,by omega,by go_num,HA3,HB3⟩
                            case measure=>simp [intOf];omega
                    · have hbd1:¬ (body.length:Int) > 0:=by omega
                      have hbd2:¬ 0 < body.length:=by omega
                      clear hbd
                      by_cases hel:0 < els.length
                      · have hel1:(els.length:Int) > 0:=by omega
                        have hel2:0 < els.length:=by omega
                        clear hel
                        have Hh:Hid (headT op n name es.length body.length els.length=true):=Lib.hid (by rw [HT.out,decide_eq_true Hl.out,Bool.true_and,decide_eq_true Hn.out,Bool.true_and,decide_eq_true Hz.out,Bool.true_and])
                        clear HT
                        go_upto_region 12 with (fail)
                        simp only [List.append_eq,List.cons_append,List.nil_append]
                        go_upto_region 14 with (fail)
                        go_wp2_with fail
                        have HXw:Hid (OwnV w3 wo.heap.size 59 [.int .u8 op,.int .i64 n,.string (bstr name),.slice ae es.length ce,.slice ab body.length cb,.slice al els.length cl]):=Lib.hid HX3.out
                        have Hbw:Hid (Below wo.heap.size wo w3):=Lib.hid (Hb3.out)
                        go_loopw [4,8,131,132,133,134,135,136,137,138,139,140,141,142] (fun _ t8 _ _ _ _ _ _ _ _ _ _ _ _ wr=>∃ (j:Nat),j≤es.length∧t8=.int .i64 j∧Hid ((es.take j).all (fineS 40)=true)∧Hid (Below w3.heap.size w3 wr)) (fun _ t8 _ _ _ _ _ _ _ _ _ _ _ _ _=>es.length - (intOf t8).toNat)
                        case atStart=>exact ⟨0,by omega,by first | rfl | go_num,Lib.hid (by simp),Lib.hid (Below.refl _ _)⟩
                        case round =>
                          obtain ⟨j,hj,rfl,HA2,HB2⟩:=hrel
                          have Hbq:Hid (Below wo.heap.size wo wr):=Lib.hid (Hbw.out.trans (HB2.out.mono Hbw.out.size))
                          have hx3:=(HXw.out.below HB2.out (Nat.le_refl _)).cell (i:=3) rfl
                          by_cases hjl:j < es.length
                          · have hji:(j:Int) < 1:=by have:=Hl.out;omega
                            have hji2:(j:Int) < (es.length:Int):=by omega
                            have hcl2:(es.length:Int)≤9223372036854775807:=by omega
                            obtain ⟨be,oe,op2,n2,name2,args2,aa,ac,rfl,hbB2,hbw2,hat2,d0,d1,d2,d3,hL2⟩:=(HE.out _ Hbq.out).at hjl
                            have HI:=Lib.hid (HFi.out op2 n2 name2 args2 _ wr (okEs_at Hok1.out hat2) hL2 (Nat.le_trans hB (Nat.le_trans hszr Hbq.out.size)))
                            have Hal2:=Lib.hid (all_take hat2 HA2.out)
                            generalize fineS 40 (.mk op2 n2 name2 args2)=qf at *
                            clear hat2 hL2
                            cases qf with
                            | false =>
                              have HFz:Hid (final=false):=Lib.hid (HFq.out (by rw [HR2.out,Hal2.out.2 rfl,Bool.and_false]))
                              clear Hal2
                              go_wp2_with fail
                              refine HI.out.mono ?_
                              rintro e6 w6 ⟨rfl,hb6⟩
                              have Hb6:=Lib.hid (HB.out.trans ((Hbq.out.trans (hb6.mono Hbq.out.size)).mono hszr))
                              clear hb6
                              go_wp2_with fail
                              go_ret
                              exact ⟨retb (a:=false) HFz.out.symm,Hb6.out⟩
                            | true =>
                              have HA3:=Lib.hid (Hal2.out.1 rfl)
                              clear Hal2
                              go_wp2_with fail
                              refine HI.out.mono ?_
                              rintro e6 w6 ⟨rfl,hb6⟩
                              have Hb6:=Lib.hid (HB2.out.trans (hb6.mono HB2.out.size))
                              clear hb6
                              go_wp2_with fail
                              go_roundw
                              case rel=>exact ⟨j+1,by omega,by go_num,HA3,Hb6⟩
                              case measure=>simp [intOf];omega
                          · have hji:¬ (j:Int) < 1:=by have:=Hl.out;omega
                            have hje:j=es.length:=by omega
                            have Hq:Hid (q=true):=Lib.hid (by have:=HA2.out;rw [hje,List.take_length] at this;rw [HR2.out,this,Bool.and_true];exact Hh.out)
                            have HA3:=Lib.hid (Hal.out.1 Hq.out)
                            have HB3:=Lib.hid (HB.out.trans (Hbq.out.mono hszr))
                            clear Hq HR2 Hal HFq
                            go_wp2_with fail
                            go_roundw
                            case rel=>exact ⟨k+1,by omega,by go_num,HA3,HB3⟩
                            case measure=>simp [intOf];omega
                      · have hel1:¬ (els.length:Int) > 0:=by omega
                        have hel2:¬ 0 < els.length:=by omega
                        clear hel
                        have Hh:Hid (headT op n name es.length body.length els.length=true):=Lib.hid (by rw [HT.out,decide_eq_true Hl.out,Bool.true_and,decide_eq_true Hn.out,Bool.true_and,decide_eq_true Hz.out,Bool.true_and])
                        clear HT
                        go_upto_region 12 with (fail)
                        simp only [List.append_eq,List.cons_append,List.nil_append]
                        go_upto_region 14 with (fail)
                        go_wp2_with fail
                        have HXw:Hid (OwnV w3 wo.heap.size 59 [.int .u8 op,.int .i64 n,.string (bstr name),.slice ae es.length ce,.slice ab body.length cb,.slice al els.length cl]):=Lib.hid HX3.out
                        have Hbw:Hid (Below wo.heap.size wo w3):=Lib.hid (Hb3.out)
                        go_loopw [4,8,131,132,133,134,135,136,137,138,139,140,141,142] (fun _ t8 _ _ _ _ _ _ _ _ _ _ _ _ wr=>∃ (j:Nat),j≤es.length∧t8=.int .i64 j∧Hid ((es.take j).all (fineS 40)=true)∧Hid (Below w3.heap.size w3 wr)) (fun _ t8 _ _ _ _ _ _ _ _ _ _ _ _ _=>es.length - (intOf t8).toNat)
                        case atStart=>exact ⟨0,by omega,by first | rfl | go_num,Lib.hid (by simp),Lib.hid (Below.refl _ _)⟩
                        case round =>
                          obtain ⟨j,hj,rfl,HA2,HB2⟩:=hrel
                          have Hbq:Hid (Below wo.heap.size wo wr):=Lib.hid (Hbw.out.trans (HB2.out.mono Hbw.out.size))
                          have hx3:=(HXw.out.below HB2.out (Nat.le_refl _)).cell (i:=3) rfl
                          by_cases hjl:j < es.length
                          · have hji:(j:Int) < 1:=by have:=Hl.out;omega
                            have hji2:(j:Int) < (es.length:Int):=by omega
                            have hcl2:(es.length:Int)≤9223372036854775807:=by omega
                            obtain ⟨be,oe,op2,n2,name2,args2,aa,ac,rfl,hbB2,hbw2,hat2,d0,d1,d2,d3,hL2⟩:=(HE.out _ Hbq.out).at hjl
                            have HI:=Lib.hid (HFi.out op2 n2 name2 args2 _ wr (okEs_at Hok1.out hat2) hL2 (Nat.le_trans hB (Nat.le_trans hszr Hbq.out.size)))
                            have Hal2:=Lib.hid (all_take hat2 HA2.out)
                            generalize fineS 40 (.mk op2 n2 name2 args2)=qf at *
                            clear hat2 hL2
                            cases qf with
                            | false =>
                              have HFz:Hid (final=false):=Lib.hid (HFq.out (by rw [HR2.out,Hal2.out.2 rfl,Bool.and_false]))
                              clear Hal2
                              go_wp2_with fail
                              refine HI.out.mono ?_
                              rintro e6 w6 ⟨rfl,hb6⟩
                              have Hb6:=Lib.hid (HB.out.trans ((Hbq.out.trans (hb6.mono Hbq.out.size)).mono hszr))
                              clear hb6
                              go_wp2_with fail
                              go_ret
                              exact ⟨retb (a:=false) HFz.out.symm,Hb6.out⟩
                            | true =>
                              have HA3:=Lib.hid (Hal2.out.1 rfl)
                              clear Hal2
                              go_wp2_with fail
                              refine HI.out.mono ?_
                              rintro e6 w6 ⟨rfl,hb6⟩
                              have Hb6:=Lib.hid (HB2.out.trans (hb6.mono HB2.out.size))
                              clear hb6
                              go_wp2_with fail
                              go_roundw
                              case rel=>exact ⟨j+1,by omega,by go_num,HA3,Hb6⟩
                              case measure=>simp [intOf];omega
                          · have hji:¬ (j:Int) < 1:=by have:=Hl.out;omega
                            have hje:j=es.length:=by omega
                            have Hq:Hid (q=true):=Lib.hid (by have:=HA2.out;rw [hje,List.take_length] at this;rw [HR2.out,this,Bool.and_true];exact Hh.out)
                            have HA3:=Lib.hid (Hal.out.1 Hq.out)
                            have HB3:=Lib.hid (HB.out.trans (Hbq.out.mono hszr))
                            clear Hq HR2 Hal HFq
                            go_wp2_with fail
                            go_roundw
                            case rel=>exact ⟨k+1,by omega,by go_num,HA3,HB3⟩
                            case measure=>simp [intOf];omega
                  · have hz1:(n != 0)=true:=by simp [hz]
                    have Hz:=Lib.hid hz
                    clear hz
                    have HFz:Hid (final=false):=Lib.hid (HFq.out (by rw [HR2.out,HT.out,decide_eq_true Hl.out,Bool.true_and,decide_eq_true Hn.out,Bool.true_and,decide_eq_false Hz.out,Bool.false_and,Bool.false_and]))
                    clear HR2 HT
                    go_upto_region 12 with (fail)
                    simp only [List.append_eq,List.cons_append,List.nil_append]
                    go_wp2_with (fail)
                    go_ret
                    exact ⟨retb (a:=false) HFz.out.symm,HB.out.trans ((Hb3.out).mono hszr)⟩
                · have hs:¬ (bstr name).toList=[]:=fun h=>hn (str_nil.1 h)
                  have Hn:=Lib.hid hn
                  clear hn
                  have HFz:Hid (final=false):=Lib.hid (HFq.out (by rw [HR2.out,HT.out,decide_eq_true Hl.out,Bool.true_and,decide_eq_false Hn.out,Bool.false_and,Bool.false_and]))
                  clear HR2 HT
                  go_upto_region 12 with (fail)
                  simp only [List.append_eq,List.cons_append,List.nil_append]
                  go_wp2_with (fail)
                  go_ret
                  exact ⟨retb (a:=false) HFz.out.symm,HB.out.trans ((Hb3.out).mono hszr)⟩
              · have hln:((es.length:Int) != 1)=true:=by rw [bne_iff_ne];omega
                have Hl:=Lib.hid hl
                clear hl
                have HFz:Hid (final=false):=Lib.hid (HFq.out (by rw [HR2.out,HT.out,decide_eq_false Hl.out,Bool.false_and,Bool.false_and]))
                clear HR2 HT
                go_upto_region 12 with (fail)
                simp only [List.append_eq,List.cons_append,List.nil_append]
                go_wp2_with (fail)
                go_ret
                exact ⟨retb (a:=false) HFz.out.symm,HB.out.trans ((Hb3.out).mono hszr)⟩
            · have e3:(op == 3)=false:=by rw [beq_eq_false_iff_ne];omega
              have m3:(op != 3)=true:=by rw [bne_iff_ne];omega
              have m4:(op != 4)=true:=by rw [bne_iff_ne];omega
              have m5:(op != 5)=false:=by rw [bne_eq_false_iff_eq];omega
              have g5:op≤5:=by omega
              have g2:2 < op:=by omega
              have Hc:=Lib.hid hc
              have HT:Hid (headT op n name es.length body.length els.length=(decide (es.length=1) && (decide (name=[]) && (decide (n=0) && (decide (els.length=0)))))):=Lib.hid (headT_10010 _ _ _ _ _ _ hc)
              clear hc
              by_cases hl:es.length=1
              · have hln:((es.length:Int) != 1)=false:=by rw [hl];rfl
                have Hl:=Lib.hid hl
                clear hl
                by_cases hn:name=[]
                · have hs:(bstr name).toList=[]:=str_nil.2 hn
                  have Hn:=Lib.hid hn
                  clear hn
                  by_cases hz:n=0
                  · have hz1:(n != 0)=false:=by simp [hz]
                    have Hz:=Lib.hid hz
                    clear hz
                    by_cases hbd:0 < body.length
                    · have hbd1:(body.length:Int) > 0:=by omega
                      have hbd2:0 < body.length:=by omega
                      clear hbd
                      by_cases hel:els.length=0
                      · have hel1:¬ (els.length:Int) > 0:=by omega
                        have hel2:¬ 0 < els.length:=by omega
                        have Hel:=Lib.hid hel
                        clear hel
                        have Hh:Hid (headT op n name es.length body.length els.length=true):=Lib.hid (by rw [HT.out,decide_eq_true Hl.out,Bool.true_and,decide_eq_true Hn.out,Bool.true_and,decide_eq_true Hz.out,Bool.true_and,decide_eq_true Hel.out])
                        clear HT
                        go_upto_region 12 with (fail)
                        simp only [List.append_eq,List.cons_append,List.nil_append]
                        go_upto_region 14 with (fail)
                        go_wp2_with fail
                        have HXw:Hid (OwnV w3 wo.heap.size 59 [.int .u8 op,.int .i64 n,.string (bstr name),.slice ae es.length ce,.slice ab body.length cb,.slice al els.length cl]):=Lib.hid HX3.out
                        have Hbw:Hid (Below wo.heap.size wo w3):=Lib.hid (Hb3.out)
                        go_loopw [4,8,131,132,133,134,135,136,137,138,139,140,141,142] (fun _ t8 _ _ _ _ _ _ _ _ _ _ _ _ wr=>∃ (j:Nat),j≤es.length∧t8=.int .i64 j∧Hid ((es.take j).all (fineS 40)=true)∧Hid (Below w3.heap.size w3 wr)) (fun _ t8 _ _ _ _ _ _ _ _ _ _ _ _ _=>es.length - (intOf t8).toNat)
                        case atStart=>exact ⟨0,by omega,by first | rfl | go_num,Lib.hid (by simp),Lib.hid (Below.refl _ _)⟩
                        case round =>
                          obtain ⟨j,hj,rfl,HA2,HB2⟩:=hrel
                          have Hbq:Hid (Below wo.heap.size wo wr):=Lib.hid (Hbw.out.trans (HB2.out.mono Hbw.out.size))
                          have hx3:=(HXw.out.below HB2.out (Nat.le_refl _)).cell (i:=3) rfl
                          by_cases hjl:j < es.length
                          · have hji:(j:Int) < 1:=by have:=Hl.out;omega
                            have hji2:(j:Int) < (es.length:Int):=by omega
                            have hcl2:(es.length:Int)≤9223372036854775807:=by omega
                            obtain ⟨be,oe,op2,n2,name2,args2,aa,ac,rfl,hbB2,hbw2,hat2,d0,d1,d2,d3,hL2⟩:=(HE.out _ Hbq.out).at hjl
                            have HI:=Lib.hid (HFi.out op2 n2 name2 args2 _ wr (okEs_at Hok1.out hat2) hL2 (Nat.le_trans hB (Nat.le_trans hszr Hbq.out.size)))
                            have Hal2:=Lib.hid (all_take hat2 HA2.out)
                            generalize fineS 40 (.mk op2 n2 name2 args2)=qf at *
                            clear hat2 hL2
                            cases qf with
                            | false =>
                              have HFz:Hid (final=false):=Lib.hid (HFq.out (by rw [HR2.out,Hal2.out.2 rfl,Bool.and_false]))
                              clear Hal2
                              go_wp2_with fail
                              refine HI.out.mono ?_
                              rintro e6 w6 ⟨rfl,hb6⟩
                              have Hb6:=Lib.hid (HB.out.trans ((Hbq.out.trans (hb6.mono Hbq.out.size)).mono hszr))
                              clear hb6
                              go_wp2_with fail
                              go_ret
                              exact ⟨retb (a:=false) HFz.out.symm,Hb6.out⟩
                            | true =>
                              have HA3:=Lib.hid (Hal2.out.1 rfl)
                              clear Hal2
                              go_wp2_with fail
                              refine HI.out.mono ?_
                              rintro e6 w6 ⟨rfl,hb6⟩
                              have Hb6:=Lib.hid (HB2.out.trans (hb6.mono HB2.out.size))
                              clear hb6
                              go_wp2_with fail
                              go_roundw
                              case rel=>exact ⟨j+1,by omega,by go_num,HA3,Hb6⟩
                              case measure=>simp [intOf];omega
                          · have hji:¬ (j:Int) < 1:=by have:=Hl.out;omega
                            have hje:j=es.length:=by omega
                            have Hq:Hid (q=true):=Lib.hid (by have:=HA2.out;rw [hje,List.take_length] at this;rw [HR2.out,this,Bool.and_true];exact Hh.out)
                            have HA3:=Lib.hid (Hal.out.1 Hq.out)
                            have HB3:=Lib.hid (HB.out.trans (Hbq.out.mono hszr))
                            clear Hq HR2 Hal HFq
                            go_wp2_with fail
                            go_roundw
                            case rel=>exact ⟨k+1,by omega,by go_num,HA3,HB3⟩
                            case measure=>simp [intOf];omega
                      · have hel1:(els.length:Int) > 0:=by omega
                        have hel2:0 < els.length:=by omega
                        have Hel:=Lib.hid hel
                        clear hel
                        have HFz:Hid (final=false):=Lib.hid (HFq.out (by rw [HR2.out,HT.out,decide_eq_true Hl.out,Bool.true_and,decide_eq_true Hn.out,Bool.true_and,decide_eq_true Hz.out,Bool.true_and,decide_eq_false Hel.out,Bool.false_and]))
                        clear HR2 HT
                        go_upto_region 12 with (fail)
                        simp only [List.append_eq,List.cons_append,List.nil_append]
                        go_wp2_with (fail)
                        go_ret
                        exact ⟨retb (a:=false) HFz.out.symm,HB.out.trans ((Hb3.out).mono hszr)⟩
                    · have hbd1:¬ (body.length:Int) > 0:=by omega
                      have hbd2:¬ 0 < body.length:=by omega
                      clear hbd
                      by_cases hel:els.length=0
                      · have hel1:¬ (els.length:Int) > 0:=by omega
                        have hel2:¬ 0 < els.length:=by omega
                        have Hel:=Lib.hid hel
                        clear hel
                        have Hh:Hid (headT op n name es.length body.length els.length=true):=Lib.hid (by rw [HT.out,decide_eq_true Hl.out,Bool.true_and,decide_eq_true Hn.out,Bool.true_and,decide_eq_true Hz.out,Bool.true_and,decide_eq_true Hel.out])
                        clear HT
                        go_upto_region 12 with (fail)
                        simp only [List.append_eq,List.cons_append,List.nil_append]
                        go_upto_region 14 with (fail)
                        go_wp2_with fail
                        have HXw:Hid (OwnV w3 wo.heap.size 59 [.int .u8 op,.int .i64 n,.string (bstr name),.slice ae es.length ce,.slice ab body.length cb,.slice al els.length cl]):=Lib.hid HX3.out
                        have Hbw:Hid (Below wo.heap.size wo w3):=Lib.hid (Hb3.out)
                        go_loopw [4,8,131,132,133,134,135,136,137,138,139,140,141,142] (fun _ t8 _ _ _ _ _ _ _ _ _ _ _ _ wr=>∃ (j:Nat),j≤es.length∧t8=.int .i64 j∧Hid ((es.take j).all (fineS 40)=true)∧Hid (Below w3.heap.size w3 wr)) (fun _ t8 _ _ _ _ _ _ _ _ _ _ _ _ _=>es.length - (intOf t8).toNat)
                        case atStart=>exact ⟨0,by omega,by first | rfl | go_num,Lib.hid (by simp),Lib.hid (Below.refl _ _)⟩
                        case round =>
                          obtain ⟨j,hj,rfl,HA2,HB2⟩:=hrel
                          have Hbq:Hid (Below wo.heap.size wo wr):=Lib.hid (Hbw.out.trans (HB2.out.mono Hbw.out.size))
                          have hx3:=(HXw.out.below HB2.out (Nat.le_refl _)).cell (i:=3) rfl
                          by_cases hjl:j < es.length
                          · have hji:(j:Int) < 1:=by have:=Hl.out;omega
                            have hji2:(j:Int) < (es.length:Int):=by omega
                            have hcl2:(es.length:Int)≤9223372036854775807:=by omega
                            obtain ⟨be,oe,op2,n2,name2,args2,aa,ac,rfl,hbB2,hbw2,hat2,d0,d1,d2,d3,hL2⟩:=(HE.out _ Hbq.out).at hjl
                            have HI:=Lib.hid (HFi.out op2 n2 name2 args2 _ wr (okEs_at Hok1.out hat2) hL2 (Nat.le_trans hB (Nat.le_trans hszr Hbq.out.size)))
                            have Hal2:=Lib.hid (all_take hat2 HA2.out)
                            generalize fineS 40 (.mk op2 n2 name2 args2)=qf at *
                            clear hat2 hL2
                            cases qf with
                            | false =>
                              have HFz:Hid (final=false):=Lib.hid (HFq.out (by rw [HR2.out,Hal2.out.2 rfl,Bool.and_false]))
                              clear Hal2
                              go_wp2_with fail
                              refine HI.out.mono ?_
                              rintro e6 w6 ⟨rfl,hb6⟩
                              have Hb6:=Lib.hid (HB.out.trans ((Hbq.out.trans (hb6.mono Hbq.out.size)).mono hszr))
                              clear hb6
                              go_wp2_with fail
                              go_ret
                              exact ⟨retb (a:=false) HFz.out.symm,Hb6.out⟩
                            | true =>
                              have HA3:=Lib.hid (Hal2.out.1 rfl)
                              clear Hal2
                              go_wp2_with fail
                              refine HI.out.mono ?_
                              rintro e6 w6 ⟨rfl,hb6⟩
                              have Hb6:=Lib.hid (HB2.out.trans (hb6.mono HB2.out.size))
                              clear hb6
                              go_wp2_with fail
                              go_roundw
                              case rel=>exact ⟨j+1,by omega,by go_num,HA3,Hb6⟩
                              case measure=>simp [intOf];omega
                          · have hji:¬ (j:Int) < 1:=by have:=Hl.out;omega
                            have hje:j=es.length:=by omega
                            have Hq:Hid (q=true):=Lib.hid (by have:=HA2.out;rw [hje,List.take_length] at this;rw [HR2.out,this,Bool.and_true];exact Hh.out)
                            have HA3:=Lib.hid (Hal.out.1 Hq.out)
                            have HB3:=Lib.hid (HB.out.trans (Hbq.out.mono hszr))
                            clear Hq HR2 Hal HFq
                            go_wp2_with fail
                            go_roundw
                            case rel=>exact ⟨k+1,by omega,by go_num,HA3,HB3⟩
                            case measure=>simp [intOf];omega
                      · have hel1:(els.length:Int) > 0:=by omega
                        have hel2:0 < els.length:=by omega
                        have Hel:=Lib.hid hel
                        clear hel
                        have HFz:Hid (final=false):=Lib.hid (HFq.out (by rw [HR2.out,HT.out,decide_eq_true Hl.out,Bool.true_and,decide_eq_true Hn.out,Bool.true_and,decide_eq_true Hz.out,Bool.true_and,decide_eq_false Hel.out,Bool.false_and]))
                        clear HR2 HT
                        go_upto_region 12 with (fail)
                        simp only [List.append_eq,List.cons_append,List.nil_append]
                        go_wp2_with (fail)
                        go_ret
                        exact ⟨retb (a:=false) HFz.out.symm,HB.out.trans ((Hb3.out).mono hszr)⟩
                  · have hz1:(n != 0)=true:=by simp [hz]
                    have Hz:=Lib.hid hz
                    clear hz
                    have HFz:Hid (final=false):=Lib.hid (HFq.out (by rw [HR2.out,HT.out,decide_eq_true Hl.out,Bool.true_and,decide_eq_true Hn.out,Bool.true_and,decide_eq_false Hz.out,Bool.false_and,Bool.false_and]))
                    clear HR2 HT
                    go_upto_region 12 with (fail)
                    simp only [List.append_eq,List.cons_append,List.nil_append]
                    go_wp2_with (fail)
                    go_ret
                    exact ⟨retb (a:=false) HFz.out.symm,HB.out.trans ((Hb3.out).mono hszr)⟩
                · have hs:¬ (bstr name).toList=[]:=fun h=>hn (str_nil.1 h)
                  have Hn:=Lib.hid hn
                  clear hn
                  have HFz:Hid (final=false):=Lib.hid (HFq.out (by rw [HR2.out,HT.out,decide_eq_true Hl.out,Bool.true_and,decide_eq_false Hn.out,Bool.false_and,Bool.false_and]))
                  clear HR2 HT
                  go_upto_region 12 with (fail)
                  simp only [List.append_eq,List.cons_append,List.nil_append]
                  go_wp2_with (fail)
                  go_ret
                  exact ⟨retb (a:=false) HFz.out.symm,HB.out.trans ((Hb3.out).mono hszr)⟩
              · have hln:((es.length:Int) != 1)=true:=by rw [bne_iff_ne];omega
                have Hl:=Lib.hid hl
                clear hl
                have HFz:Hid (final=false):=Lib.hid (HFq.out (by rw [HR2.out,HT.out,decide_eq_false Hl.out,Bool.false_and,Bool.false_and]))
                clear HR2 HT
                go_upto_region 12 with (fail)
                simp only [List.append_eq,List.cons_append,List.nil_append]
                go_wp2_with (fail)
                go_ret
                exact ⟨retb (a:=false) HFz.out.symm,HB.out.trans ((Hb3.out).mono hszr)⟩
            · have e3:(op == 3)=false:=by rw [beq_eq_false_iff_ne];omega
              have m3:(op != 3)=true:=by rw [bne_iff_ne];omega
              have m4:(op != 4)=true:=by rw [bne_iff_ne];omega
              have m5:(op != 5)=true:=by rw [bne_iff_ne];omega
              have g5:5 < op:=by omega
              have g2:2 < op:=by omega
              have Hc:=Lib.hid hc
              have HT:Hid (headT op n name es.length body.length els.length=(decide (es.length=0) && (decide (name=[]) && (decide (n=0) && (decide (body.length=0) && decide (els.length=0)))))):=Lib.hid (headT_00000 _ _ _ _ _ _ hc hr7)
              clear hc
              by_cases hl:es.length=0
              · have hln:((es.length:Int) != 0)=false:=by rw [hl];rfl
                have Hl:=Lib.hid hl
                clear hl
                by_cases hn:name=[]
                · have hs:(bstr name).toList=[]:=str_nil.2 hn
                  have Hn:=Lib.hid hn
                  clear hn
                  by_cases hz:n=0
                  · have hz1:(n != 0)=false:=by simp [hz]
                    have Hz:=Lib.hid hz
                    clear hz
                    by_cases hbd:body.length=0
                    · have hbd1:¬ (body.length:Int) > 0:=by omega
                      have hbd2:¬ 0 < body.length:=by omega
                      have Hbd:=Lib.hid hbd
                      clear hbd
                      by_cases hel:els.length=0
                      · have hel1:¬ (els.length:Int) > 0:=by omega
                        have hel2:¬ 0 < els.length:=by omega
                        have Hel:=Lib.hid hel
                        clear hel
                        have Hh:Hid (headT op n name es.length body.length els.length=true):=Lib.hid (by rw [HT.out,decide_eq_true Hl.out,Bool.true_and,decide_eq_true Hn.out,Bool.true_and,decide_eq_true Hz.out,Bool.true_and,decide_eq_true Hbd.out,Bool.true_and,decide_eq_true Hel.out])
                        clear HT
                        go_upto_region 12 with (fail)
                        simp only [List.append_eq,List.cons_append,List.nil_append]
                        go_upto_region 14 with (fail)
                        go_wp2_with fail
                        have HXw:Hid (OwnV w3 wo.heap.size 59 [.int .u8 op,.int .i64 n,.string (bstr name),.slice ae es.length ce,.slice ab body.length cb,.slice al els.length cl]):=Lib.hid HX3.out
                        have Hbw:Hid (Below wo.heap.size wo w3):=Lib.hid (Hb3.out)
                        go_loopw [4,8,131,132,133,134,135,136,137,138,139,140,141,142] (fun _ t8 _ _ _ _ _ _ _ _ _ _ _ _ wr=>∃ (j:Nat),j≤es.length∧t8=.int .i64 j∧Hid ((es.take j).all (fineS 40)=true)∧Hid (Below w3.heap.size w3 wr)) (fun _ t8 _ _ _ _ _ _ _ _ _ _ _ _ _=>es.length - (intOf t8).toNat)
                        case atStart=>exact ⟨0,by omega,by first | rfl | go_num,Lib.hid (by simp),Lib.hid (Below.refl _ _)⟩
                        case round =>
                          obtain ⟨j,hj,rfl,HA2,HB2⟩:=hrel
                          have Hbq:Hid (Below wo.heap.size wo wr):=Lib.hid (Hbw.out.trans (HB2.out.mono Hbw.out.size))
                          have hx3:=(HXw.out.below HB2.out (Nat.le_refl _)).cell (i:=3) rfl
                          by_cases hjl:j < es.length
                          · have:=Hl.out
                            omega
                          · have hji:¬ (j:Int) < 0:=by have:=Hl.out;omega
                            have hje:j=es.length:=by omega
                            have Hq:Hid (q=true):=Lib.hid (by have:=HA2.out;rw [hje,List.take_length] at this;rw [HR2.out,this,Bool.and_true];exact Hh.out)
                            have HA3:=Lib.hid (Hal.out.1 Hq.out)
                            have HB3:=Lib.hid (HB.out.trans (Hbq.out.mono hszr))
                            clear Hq HR2 Hal HFq
                            go_wp2_with fail
                            go_roundw
                            case rel=>exact ⟨k+1,by omega,by go_num,HA3,HB3⟩
                            case measure=>simp [intOf];omega
                      · have hel1:(els.length:Int) > 0:=by omega
                        have hel2:0 < els.length:=by omega
                        have Hel:=Lib.hid hel
                        clear hel
                        have HFz:Hid (final=false):=Lib.hid (HFq.out (by rw [HR2.out,HT.out,decide_eq_true Hl.out,Bool.true_and,decide_eq_true Hn.out,Bool.true_and,decide_eq_true Hz.out,Bool.true_and,decide_eq_true Hbd.out,Bool.true_and,decide_eq_false Hel.out,Bool.false_and]))
                        clear HR2 HT
                        go_upto_region 12 with (fail)
                        simp only [List.append_eq,List.cons_append,List.nil_append]
                        go_wp2_with (fail)
                        go_ret
                        exact ⟨retb (a:=false) HFz.out.symm,HB.out.trans ((Hb3.out).mono hszr)⟩
                    · have hbd1:(body.length:Int) > 0:=by omega
                      have hbd2:0 < body.length:=by omega
                      have Hbd:=Lib.hid hbd
                      clear hbd
                      have HFz:Hid (final=false):=Lib.hid (HFq.out (by rw [HR2.out,HT.out,decide_eq_true Hl.out,Bool.true_and,decide_eq_true Hn.out,Bool.true_and,decide_eq_true Hz.out,Bool.true_and,decide_eq_false Hbd.out,Bool.false_and,Bool.false_and]))
                      clear HR2 HT
                      go_upto_region 12 with (fail)
                      simp only [List.append_eq,List.cons_append,List.nil_append]
                      go_wp2_with (fail)
                      go_ret
                      exact ⟨retb (a:=false) HFz.out.symm,HB.out.trans ((Hb3.out).mono hszr)⟩
                  · have hz1:(n != 0)=true:=by simp [hz]
                    have Hz:=Lib.hid hz
                    clear hz
                    have HFz:Hid (final=false):=Lib.hid (HFq.out (by rw [HR2.out,HT.out,decide_eq_true Hl.out,Bool.true_and,decide_eq_true Hn.out,Bool.true_and,decide_eq_false Hz.out,Bool.false_and,Bool.false_and]))
                    clear HR2 HT
                    go_upto_region 12 with (fail)
                    simp only [List.append_eq,List.cons_append,List.nil_append]
                    go_wp2_with (fail)
                    go_ret
                    exact ⟨retb (a:=false) HFz.out.symm,HB.out.trans ((Hb3.out).mono hszr)⟩
                · have hs:¬ (bstr name).toList=[]:=fun h=>hn (str_nil.1 h)
                  have Hn:=Lib.hid hn
                  clear hn
                  have HFz:Hid (final=false):=Lib.hid (HFq.out (by rw [HR2.out,HT.out,decide_eq_true Hl.out,Bool.true_and,decide_eq_false Hn.out,Bool.false_and,Bool.false_and]))
                  clear HR2 HT
                  go_upto_region 12 with (fail)
                  simp only [List.append_eq,List.cons_append,List.nil_append]
                  go_wp2_with (fail)
                  go_ret
                  exact ⟨retb (a:=false) HFz.out.symm,HB.out.trans ((Hb3.out).mono hszr)⟩
              · have hln:((es.length:Int) != 0)=true:=by rw [bne_iff_ne];omega
                have Hl:=Lib.hid hl
                clear hl
                have HFz:Hid (final=false):=Lib.hid (HFq.out (by rw [HR2.out,HT.out,decide_eq_false Hl.out,Bool.false_and,Bool.false_and]))
                clear HR2 HT
                go_upto_region 12 with (fail)
                simp only [List.append_eq,List.cons_append,List.nil_append]
                go_wp2_with (fail)
                go_ret
                exact ⟨retb (a:=false) HFz.out.symm,HB.out.trans ((Hb3.out).mono hszr)⟩
      · have HFz:Hid (final=false):=Lib.hid (HFq.out (by rw [HR.out,headT_out _ _ _ _ _ _ hrg,Bool.false_and,Bool.and_false]))
        by_cases h1:op < 1
        · clear hrg
          go_upto_region 5 with (fail)
          rw [← HW1.out]
          go_wp2_with fail
          go_ret
          exact ⟨retb (a:=false) HFz.out.symm,HB.out.trans ((Hb1.out).mono hszr)⟩
        · have h2:7 < op:=by omega
          have h3:1≤op:=by omega
          clear hrg h1
          go_upto_region 5 with (fail)
          rw [← HW1.out]
          go_wp2_with fail
          go_ret
          exact ⟨retb (a:=false) HFz.out.symm,HB.out.trans ((Hb1.out).mono hszr)⟩
    · have hki:¬ (k:Int) < (l.length:Int):=by omega
      have hke:k=l.length:=by omega
      have HFt:Hid (final=true):=Lib.hid (by have:=HA.out;rw [hke,List.take_length] at this;rw [HF.out,this])
      clear HF
      go_wp2_with fail
      go_ret
      exact ⟨retb (a:=true) HFt.out.symm,HB.out⟩
end Go.Proofs.Ytdeneckmoejcfaa
