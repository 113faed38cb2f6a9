/- The laws of patch: small, and Same of two books that are the same, walked. -/
import Derived.Test.YtdhikpkecmaplaaGreatDoorBookSWk
import Derived.Test.YtdhikpkecmaplaaGreatDoorPtIMk
import Derived.Test.YtdhikpkecmaplaaGreatDoorPtLMk
set_option linter.unusedSimpArgs false
set_option linter.unusedVariables false
set_option maxRecDepth 100000
namespace Go.Proofs.YtdhikpkecmaplaaGreatDoor
open Go.RowKit

theorem samePts_any {w:World} {l:List Pt} {v u:Value} (h1:Pts w l v) (h2:Pts w l u):Calls Tryz.prog 32 #[v,u] w (zbe true w):=by
 obtain ⟨a,ca,rfl,hca1,hca2⟩:=h1.form;obtain ⟨b,cb,rfl,hcb1,hcb2⟩:=h2.form;have H1:=zh h1;have H2:=zh h2;clear h1 h2;go_enter Tryz.func32,Tryz.ntmps32
 go_wp2_with fail
 go_loopw [4,5,11,12,13,14,15,16,17,18,19,20,21,22,23,24,25] (fun _ t5 _ _ _ _ _ _ _ _ _ _ _ _ _ _ _ wr=>∃ k:Nat,k<=l.length/\t5=.int .i64 k/\Hid (Below w.heap.size w wr)) (fun _ t5 _ _ _ _ _ _ _ _ _ _ _ _ _ _ _ _=>l.length - (intOf t5).toNat)
 case atStart=>exact ⟨0,by omega,by first | rfl | go_num,zh (Below.refl _ _)⟩
 case round =>
  obtain ⟨k,hk,rfl,HB⟩:=hrel;by_cases hkl:k < l.length
  ·have hki:(k:Int) < (l.length:Int):=by omega
   have hcl:(l.length:Int)<=9223372036854775807:=by omega
   obtain ⟨g1,o1,rfl,hg1,hc1⟩:=(H1.out.below HB.out (zr _)).at (by omega);obtain ⟨g2,o2,rfl,hg2,hc2⟩:=(H2.out.below HB.out (zr _)).at (by omega);have c:=hc1 k hkl;have d:=hc2 k hkl;obtain ⟨c0,c1,c2⟩:=c;obtain ⟨d0,d1,d2⟩:=d;clear hc1 hc2;go_wp2_with fail
   refine zac (DrewOf _) (by kernel_rfl) (by kernel_rfl) (DrewOf.start _) ?_
   repeat
    try simp only [Act.put,zs1,zs3,zs2]
    apply stepsSeq.cons
    ·rintro w' ⟨nq,rfl⟩;simp only [Act.put,zs1,zs3,zs2];go_wp2_with (fail)
     first | exact ⟨rfl,nq,rfl⟩ | exact ⟨rfl,nq,(World.drewN_drewN _ _ _).symm⟩ | exact ⟨rfl,nq,by simp⟩
   try simp only [Act.put,zs1,zs3,zs2]
   refine stepsSeq.nil ?_;rintro w' ⟨nq,rfl⟩;go_wp2_with fail
   go_roundw
   case rel=>exact ⟨k+1,by omega,by go_num,zh (HB.out.trans (c:=wr.drewN nq) ⟨rfl,rfl,rfl,zr _,fun _ _=>rfl⟩)⟩
   case measure=>simp [intOf];omega
  ·have hki:¬ (k:Int) < (l.length:Int):=by omega
   go_wp2_with fail
   go_ret;exact ⟨rfl,HB.out⟩
theorem sameTxt_any {w:World} {l:List (List UInt8)} {v u:Value} (h1:Strs w l v) (h2:Strs w l u):Calls Tryz.prog 24 #[v,u] w (zbe true w):=by
 obtain ⟨a,ca,rfl,hca1,hca2⟩:=h1.form;obtain ⟨b,cb,rfl,hcb1,hcb2⟩:=h2.form;have H1:=zh h1;have H2:=zh h2;clear h1 h2;go_enter Tryz.func24,Tryz.ntmps24
 go_wp2_with fail
 go_loopw [4,5,11,12,13,14,15,16,17,18,19,20,21,22,23,24,25] (fun _ t5 _ _ _ _ _ _ _ _ _ _ _ _ _ _ _ wr=>∃ k:Nat,k<=l.length/\t5=.int .i64 k/\Hid (Below w.heap.size w wr)) (fun _ t5 _ _ _ _ _ _ _ _ _ _ _ _ _ _ _ _=>l.length - (intOf t5).toNat)
 case atStart=>exact ⟨0,by omega,by first | rfl | go_num,zh (Below.refl _ _)⟩
 case round =>
  obtain ⟨k,hk,rfl,HB⟩:=hrel;by_cases hkl:k < l.length
  ·have hki:(k:Int) < (l.length:Int):=by omega
   have hcl:(l.length:Int)<=9223372036854775807:=by omega
   obtain ⟨g1,o1,rfl,hg1,hc1⟩:=(Strs.low H1.out HB.out (zr _)).here (by omega);obtain ⟨g2,o2,rfl,hg2,hc2⟩:=(Strs.low H2.out HB.out (zr _)).here (by omega);have c:=hc1 k hkl;have d:=hc2 k hkl;skip
   clear hc1 hc2;go_wp2_with fail
   refine zac (DrewOf _) (by kernel_rfl) (by kernel_rfl) (DrewOf.start _) ?_
   repeat
    try simp only [Act.put,zs1,zs3,zs2]
    apply stepsSeq.cons
    ·rintro w' ⟨nq,rfl⟩;simp only [Act.put,zs1,zs3,zs2];go_wp2_with (fail)
     first | exact ⟨rfl,nq,rfl⟩ | exact ⟨rfl,nq,(World.drewN_drewN _ _ _).symm⟩ | exact ⟨rfl,nq,by simp⟩
   try simp only [Act.put,zs1,zs3,zs2]
   refine stepsSeq.nil ?_;rintro w' ⟨nq,rfl⟩;go_wp2_with fail
   go_roundw
   case rel=>exact ⟨k+1,by omega,by go_num,zh (HB.out.trans (c:=wr.drewN nq) ⟨rfl,rfl,rfl,zr _,fun _ _=>rfl⟩)⟩
   case measure=>simp [intOf];omega
  ·have hki:¬ (k:Int) < (l.length:Int):=by omega
   go_wp2_with fail
   go_ret;exact ⟨rfl,HB.out⟩
theorem sameSys_any {w:World} {l:List Sys} {v u:Value} (h1:Syss w l v) (h2:Syss w l u):Calls Tryz.prog 25 #[v,u] w (zbe true w):=by
 obtain ⟨a,ca,rfl,hca1,hca2⟩:=h1.form;obtain ⟨b,cb,rfl,hcb1,hcb2⟩:=h2.form;have H1:=zh h1;have H2:=zh h2;clear h1 h2;go_enter Tryz.func25,Tryz.ntmps25
 go_wp2_with fail
 go_loopw [4,5,11,12,13,14,15,16,17,18,19,20,21,22,23,24,25] (fun _ t5 _ _ _ _ _ _ _ _ _ _ _ _ _ _ _ wr=>∃ k:Nat,k<=l.length/\t5=.int .i64 k/\Hid (Below w.heap.size w wr)) (fun _ t5 _ _ _ _ _ _ _ _ _ _ _ _ _ _ _ _=>l.length - (intOf t5).toNat)
 case atStart=>exact ⟨0,by omega,by first | rfl | go_num,zh (Below.refl _ _)⟩
 case round =>
  obtain ⟨k,hk,rfl,HB⟩:=hrel;by_cases hkl:k < l.length
  ·have hki:(k:Int) < (l.length:Int):=by omega
   have hcl:(l.length:Int)<=9223372036854775807:=by omega
   obtain ⟨g1,o1,rfl,hg1,hc1⟩:=(Syss.below H1.out HB.out (zr _)).at hkl;obtain ⟨g2,o2,rfl,hg2,hc2⟩:=(Syss.below H2.out HB.out (zr _)).at hkl;have c:=hc1 k hkl;have d:=hc2 k hkl;obtain ⟨c0,c1,c2,c3⟩:=c;obtain ⟨d0,d1,d2,d3⟩:=d;clear hc1 hc2;go_wp2_with fail
   refine zac (DrewOf _) (by kernel_rfl) (by kernel_rfl) (DrewOf.start _) ?_
   repeat
    try simp only [Act.put,zs1,zs3,zs2]
    apply stepsSeq.cons
    ·rintro w' ⟨nq,rfl⟩;simp only [Act.put,zs1,zs3,zs2];go_wp2_with (fail)
     first | exact ⟨rfl,nq,rfl⟩ | exact ⟨rfl,nq,(World.drewN_drewN _ _ _).symm⟩ | exact ⟨rfl,nq,by simp⟩
   try simp only [Act.put,zs1,zs3,zs2]
   refine stepsSeq.nil ?_;rintro w' ⟨nq,rfl⟩;go_wp2_with fail
   go_roundw
   case rel=>exact ⟨k+1,by omega,by go_num,zh (HB.out.trans (c:=wr.drewN nq) ⟨rfl,rfl,rfl,zr _,fun _ _=>rfl⟩)⟩
   case measure=>simp [intOf];omega
  ·have hki:¬ (k:Int) < (l.length:Int):=by omega
   go_wp2_with fail
   go_ret;exact ⟨rfl,HB.out⟩
theorem sameBk_any {w:World} {ys:List Sys} {b:Bk} {vs vc vp us uc up:Value} {B B':Nat} (h1:BkIn B w ys b vs vc vp) (h2:BkIn B' w ys b us uc up):Calls Tryz.prog 21 #[bkV b vs vc vp,bkV b us uc up] w (zbe true w):=by
 have HS:=zh (fun W (hb:Below w.heap.size w W)=>sameSys_any (Syss.below h1.sys hb (zr _)) (Syss.below h2.sys hb (zr _)));have HT:=zh (fun W (hb:Below w.heap.size w W)=>sameTxt_any (Strs.low h1.scr hb (zr _)) (Strs.low h2.scr hb (zr _)));have HP:=zh (fun W (hb:Below w.heap.size w W)=>samePts_any (h1.pend.below hb (zr _)) (h2.pend.below hb (zr _)));clear h1 h2;obtain ⟨W0,hW0,hb0,hX,hY,hs0⟩:=zqb w [.int .i64 b.tick,vs,vc,vp] [.int .i64 b.tick,us,uc,up] 26 26;have HW0:=zh hW0;have HX:=zh hX;have HY:=zh hY;have Hb0:=zh hb0;obtain ⟨x0,x1⟩:=yc2 hX;obtain ⟨y0,y1⟩:=yc2 hY;clear hW0 hb0 hX hY;unfold bkV;go_enter Tryz.func21,Tryz.ntmps21
 go_upto_region 1 with (fail)
 rw [<- HW0.out];go_wp2_with fail
 refine (HS.out _ Hb0.out).mono ?_;rintro e1 w1 ⟨rfl,hb1⟩;have Hb1:=zh (Hb0.out.trans (hb1.mono Hb0.out.size));have HX1:=zh (HX.out.below hb1 (zr _));have HY1:=zh (HY.out.below hb1 (zr _));clear hb1 x0 x1 y0 y1;have x2:=HX1.out.cell (i:=2) rfl;have y2:=HY1.out.cell (i:=2) rfl;go_wp2_with fail
 refine (HT.out _ Hb1.out).mono ?_;rintro e2 w2 ⟨rfl,hb2⟩;have Hb2:=zh (Hb1.out.trans (hb2.mono Hb1.out.size));have x3:=(HX1.out.below hb2 (zr _)).cell (i:=3) rfl;have y3:=(HY1.out.below hb2 (zr _)).cell (i:=3) rfl;clear hb2 x2 y2;go_wp2_with fail
 refine (HP.out _ Hb2.out).mono ?_;rintro e3 w3 ⟨rfl,hb3⟩;have Hb3:=zh (Hb2.out.trans (hb3.mono Hb2.out.size));clear hb3 x3 y3;go_wp2_with fail
 go_ret;exact ⟨rfl,Hb3.out⟩
def SmallE (a b c : Nat) (e : Ending) : Prop := ∃ q : Bool, e = .returned (.bool q) /\ (q = true -> a <= 20 /\ b <= 20 /\ c <= 40)
theorem small_any {w:World} {ys:List Sys} {b:Bk} {vs vc vp:Value} {B:Nat} (hB:B<=w.heap.size) (h:BkIn B w ys b vs vc vp) (hOk:BkOk ys b):Calls Tryz.prog 14 #[bkV b vs vc vp] w fun e w'=>SmallE ys.length b.scr.length b.pend.length e/\Below w.heap.size w w':=by
 obtain ⟨ay,cs,rfl,hcs1,hcs2⟩:=h.sys.form;obtain ⟨ac,cc,rfl,hcc1,hcc2⟩:=h.scr.form;obtain ⟨ap,cp,rfl,hcp1,hcp2⟩:=h.pend.form;have H:=zh h;obtain ⟨W0,hW0,hb0,hX,hs0⟩:=box1 w [.int .i64 b.tick,.slice ay ys.length cs,.slice ac b.scr.length cc,.slice ap b.pend.length cp] 26;have HW0:=zh hW0;have HX:=zh hX;have Hb0:=zh hb0;have HC:Hid (Strs W0 b.scr (.slice ac b.scr.length cc)):=zh (Strs.low h.scr hb0 (zr _));have HP:Hid (Pts W0 b.pend (.slice ap b.pend.length cp)):=zh (h.pend.below hb0 (zr _));unfold bkV;clear h H hW0 hb0 hX;go_enter Tryz.func14,Tryz.ntmps14
 go_upto_region 1 with (fail)
 rw [<- HW0.out];go_wp2_with fail
 go_loopw [3,4,6,7,8,9,10,11,12,13,14,15,16,17,18,19,20] (fun t3 t4 _ _ _ _ _ _ _ _ _ _ _ _ _ _ _ wr=>∃ (k:Nat) (z:Int),k<=b.scr.length/\t4=.int .i64 k/\t3=.int .i64 z/\Hid (Below W0.heap.size W0 wr)) (fun _ t4 _ _ _ _ _ _ _ _ _ _ _ _ _ _ _ _=>b.scr.length - (intOf t4).toNat)
 case atStart=>exact ⟨0,0,by omega,by first | rfl | go_num,by first | rfl | go_num,zh (Below.refl _ _)⟩
 case round =>
  obtain ⟨k,z,hk,rfl,rfl,HB⟩:=hrel;have x2:=(HX.out.below HB.out (zr _)).cell (i:=2) rfl;by_cases hkl:k < b.scr.length
  ·have hki:(k:Int) < (b.scr.length:Int):=by omega
   have hcl:(b.scr.length:Int)<=9223372036854775807:=by omega
   obtain ⟨g1,o1,rfl,hg1,hc1⟩:=(Strs.low HC.out HB.out (zr _)).here (by omega);have c:=hc1 k hkl;clear hc1;go_wp2_with fail
   go_roundw
   case rel=>exact ⟨k+1,_,by omega,by go_num,rfl,HB⟩
   case measure=>simp [intOf];omega
  ·have hki:¬ (k:Int) < (b.scr.length:Int):=by omega
   go_wp2_with fail
   go_loopw [3,5,21,22,23,24,25,26,27,28,29,30,31,32,33,34,35,36] (fun t3 t5 _ _ _ _ _ _ _ _ _ _ _ _ _ _ _ _ wr=>∃ (k:Nat) (z:Int),k<=b.pend.length/\t5=.int .i64 k/\t3=.int .i64 z/\Hid (Below W0.heap.size W0 wr)) (fun _ t5 _ _ _ _ _ _ _ _ _ _ _ _ _ _ _ _ _=>b.pend.length - (intOf t5).toNat)
   case atStart=>exact ⟨0,z,by omega,by first | rfl | go_num,by first | rfl | go_num,HB⟩
   case round =>
    clear HB hk hkl hki x2;obtain ⟨k,z,hk,rfl,rfl,HB⟩:=hrel;have x3:=(HX.out.below HB.out (zr _)).cell (i:=3) rfl;by_cases hkl:k < b.pend.length
    ·have hki:(k:Int) < (b.pend.length:Int):=by omega
     have hcl:(b.pend.length:Int)<=9223372036854775807:=by omega
     obtain ⟨g1,o1,rfl,hg1,hc1⟩:=(HP.out.below HB.out (zr _)).at (by omega);obtain ⟨c0,c1,c2⟩:=hc1 k hkl;clear hc1;go_wp2_with fail
     go_roundw
     case rel=>exact ⟨k+1,_,by omega,by go_num,rfl,HB⟩
     case measure=>simp [intOf];omega
    ·have hki:¬ (k:Int) < (b.pend.length:Int):=by omega
     have x1:=(HX.out.below HB.out (zr _)).cell (i:=1) rfl;have x2:=(HX.out.below HB.out (zr _)).cell (i:=2) rfl;have Hbe:=zh (Hb0.out.trans (HB.out.mono Hb0.out.size));by_cases h1:(ys.length:Int)<=20
     all_goals by_cases h2:(b.scr.length:Int)<=20
     all_goals by_cases h3:(b.pend.length:Int)<=40
     all_goals by_cases h4:z<=6000
     all_goals
      go_wp2_with fail
      go_ret;exact ⟨⟨_,rfl,fun h=>by first | exact ⟨by omega,by omega,by omega⟩ | cases h⟩,Hbe.out⟩
end Go.Proofs.YtdhikpkecmaplaaGreatDoor
