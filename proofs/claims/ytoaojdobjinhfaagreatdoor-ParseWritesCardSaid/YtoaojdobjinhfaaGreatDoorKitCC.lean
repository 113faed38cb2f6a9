/- marcheskit's copies of trees, walked. -/
import Derived.Test.YtoaojdobjinhfaaGreatDoorOnlyC
import Derived.Test.YtoaojdobjinhfaaGreatDoorRParOC
set_option linter.unusedSimpArgs false
set_option linter.unusedVariables false
set_option maxRecDepth 100000
set_option maxHeartbeats 1000000
namespace Go.Proofs.YtoaojdobjinhfaaGreatDoor
open Go.RowKit

theorem EsV.set {w:World} {m:Nat} {xs:List Ex} {v:Value} (h:EsV w m xs v) {b o:Nat} {x:Value} (hlt:b < m):EsV (w.setCell ⟨b,o,none⟩ x) m xs v:=h.grown (zaY _ _ _ _) hlt
theorem SsV.set {w:World} {m:Nat} {xs:List St} {v:Value} (h:SsV w m xs v) {b o:Nat} {x:Value} (hlt:b < m):SsV (w.setCell ⟨b,o,none⟩ x) m xs v:=h.grown (zaY _ _ _ _) hlt
theorem EsV.one {w:World} {m B:Nat} {op n:Int} {name:List UInt8} {args:List Ex} {v:Value} (h:EsV w m args v) (hB:B≤m):ExsC w (fun g=>B≤g) [.mk op n name args] [.int .u8 op,.int .i64 n,.string (bstr name),v]:=by
 obtain ⟨cs,h1,h2,h3⟩:=h;exact (ExsC.cons (P:=fun g=>m≤g) h1 h2 h3 .nil).weak fun g _ h=>Nat.le_trans hB h
def YesE (w : World) (e : Ending) (w' : World) : Prop := e = .returned (.bool true) ∧ Below w.heap.size w w'
theorem zeT (op n:Int) (name:List UInt8) (args:List Ex) (va vb:Value) (w:World) (hva:∃ a cap,va=.slice a args.length cap) (hvb:∃ a cap,vb=.slice a args.length cap) (hC:∀ w',Below w.heap.size w w'→Calls Tryz.prog 66 #[va,vb] w' (YesE w')) :
  Calls Tryz.prog 35 #[.agg #[.int .u8 op,.int .i64 n,.string (bstr name),va],.agg #[.int .u8 op,.int .i64 n,.string (bstr name),vb]] w (YesE w):=by
 obtain ⟨a,cap,rfl⟩:=hva;obtain ⟨b,capb,rfl⟩:=hvb;have HC:=zh hC;clear hC;go_enter Tryz.func35,Tryz.ntmps35
 go_upto_region 1 with (fail)
 obtain ⟨W0,hW0,hb0,hR0,hT0,hsz⟩:=zbD w [.int .u8 op,.int .i64 n,.string (bstr name),.slice a args.length cap] [.int .u8 op,.int .i64 n,.string (bstr name),.slice b args.length capb] 29 29;rw [← hW0];clear hW0;have Hb0:=zh hb0;have x0:=hR0.cell (i:=0) rfl;have x1:=hR0.cell (i:=1) rfl;have x2:=hR0.cell (i:=2) rfl;have x3:=hR0.cell (i:=3) rfl;have y0:=hT0.cell (i:=0) rfl;have y1:=hT0.cell (i:=1) rfl;have y2:=hT0.cell (i:=2) rfl;have y3:=hT0.cell (i:=3) rfl;clear hb0 hR0 hT0;go_wp2_with fail
 refine (HC.out _ Hb0.out).mono ?_;rintro e1 w1 ⟨rfl,hb1⟩;have Hb1:=zh (Hb0.out.trans (hb1.mono Hb0.out.size));clear hb1;go_wp2_with fail
 go_ret;exact ⟨rfl,Hb1.out⟩
theorem zes:∀ (m:Nat) (xs:List Ex) (va vb:Value) (w:World) (B:Nat),szEs xs < m→EsL w B xs va→EsL w B xs vb→B≤w.heap.size →
  Calls Tryz.prog 66 #[va,vb] w (YesE w):=by
 intro m
 induction m with
 | zero=>intro xs va vb w B h;omega
 | succ m ih =>
  intro xs va vb w B hm hL hM hB;obtain ⟨a,cap,rfl,hc1,hc2⟩:=hL.form;obtain ⟨a',cap',rfl,hc1',hc2'⟩:=hM.form;have HL:=zh hL;have HM:=zh hM;have Hm:=zh hm;have Hih:=zh ih;clear hm hL hM ih;go_enter Tryz.func66,Tryz.ntmps66
  go_wp2_with fail
  go_loopw [4,5,11,12,13,14,15,16,17,18,19,20,21,22,23,24,25,26] (fun _ t5 _ _ _ _ _ _ _ _ _ _ _ _ _ _ _ _ wr=>∃ (k:Nat),k≤xs.length∧t5=.int .i64 k∧Hid (Below w.heap.size w wr)) (fun _ t5 _ _ _ _ _ _ _ _ _ _ _ _ _ _ _ _ _=>xs.length - (intOf t5).toNat)
  case atStart=>exact ⟨0,by omega,by first | rfl | go_num,zh (Below.refl _ _)⟩
  case round =>
   obtain ⟨k,hk,rfl,HB⟩:=hrel;have hszr:=HB.out.size;by_cases hkl:k < xs.length
   ·have hki:(k:Int) < (xs.length:Int):=by omega
    have hcl:(xs.length:Int)≤9223372036854775807:=by omega
    have hLr:EsL wr B xs (.slice a xs.length cap):=HL.out.low (HB.out.mono hB);have hMr:EsL wr B xs (.slice a' xs.length cap'):=HM.out.low (HB.out.mono hB);obtain ⟨b,off,op2,n2,name2,args2,aa,ac,rfl,hbB,hbw,hat,c0,c1,c2,c3,hL2⟩:=hLr.at hkl;obtain ⟨b',off',op3,n3,name3,args3,aa',ac',rfl,hbB',hbw',hat',d0,d1,d2,d3,hM2⟩:=hMr.at hkl;rw [hat] at hat';cases hat';have hz:=zlL hat
    have HI:Hid (∀ N,Calls Tryz.prog 35 _ (wr.drewN N) (YesE (wr.drewN N))):=zh (fun N=>zeT op2 n2 name2 args2 _ _ (wr.drewN N) ⟨aa,ac,rfl⟩ ⟨aa',ac',rfl⟩ (fun w' hb=>by
     have hb:Below wr.heap.size wr w':=Below.trans (b:=wr.drewN N) ⟨rfl,rfl,rfl,zr _,fun _ _=>rfl⟩ hb
     exact Hih.out args2 _ _ w' B (by have:=Hm.out;omega) (hL2.low (hb.mono (Nat.le_trans hB hszr))) (hM2.low (hb.mono (Nat.le_trans hB hszr))) (Nat.le_trans hB (Nat.le_trans hszr hb.size))))
    clear hLr hat hL2 hz hMr hM2;go_wp2_with fail
    refine zaW 8 (DrewOf wr) (by kernel_rfl) (by kernel_rfl) (DrewOf.start _) ?_;simp only [List.take_succ_cons,List.take_zero,List.drop_succ_cons,List.drop_zero]
    repeat
     try simp only [Act.put,zs1,zs3,zs2]
     apply stepsSeq.cons
     ·rintro w' ⟨nq,rfl⟩;simp only [Act.put,zs1,zs3,zs2];go_wp2_with (fail)
      first | exact ⟨rfl,nq,rfl⟩ | exact ⟨rfl,nq,(World.drewN_drewN _ _ _).symm⟩ | exact ⟨rfl,nq,by simp⟩
    try simp only [Act.put,zs1,zs3,zs2]
    refine stepsSeq.nil ?_;rintro w' ⟨nq,rfl⟩;go_wp2_with fail
    refine (HI.out _).mono ?_;rintro e2 w2 ⟨rfl,hb2⟩;have HB2:Hid (Below w.heap.size w w2):=zh ((Below.drewN HB.out nq).trans (hb2.mono hszr));clear hb2;go_wp2_with fail
    go_roundw
    case rel=>exact ⟨k+1,by omega,by go_num,HB2⟩
    case measure=>simp [intOf];omega
   ·have hki:¬ (k:Int) < (xs.length:Int):=by omega
    go_wp2_with fail
    go_ret;exact ⟨rfl,HB.out⟩
end Go.Proofs.YtoaojdobjinhfaaGreatDoor
