/- The laws of patch: small, and Same of two books that are the same, walked. -/
import Derived.Test.YtdhikpkecmaplaaGreatDoorPtIMk
import Derived.Test.YtdhikpkecmaplaaGreatDoorPtLMk
set_option linter.unusedSimpArgs false
set_option linter.unusedVariables false
set_option maxRecDepth 100000
namespace Go.Proofs.YtdhikpkecmaplaaGreatDoor
open Go.RowKit

def SmallE (a b c : Nat) (e : Ending) : Prop := ∃ q : Bool, e = .returned (.bool q) /\ (q = true -> a <= 20 /\ b <= 20 /\ c <= 40)
theorem small_any {w:World} {ys:List Sys} {b:Bk} {vs vc vp:Value} {B:Nat} (hB:B<=w.heap.size) (h:BkIn B w ys b vs vc vp) (hOk:BkOk ys b):Calls Tryz.prog 14 #[bkV b vs vc vp] w fun e w'=>SmallE ys.length b.scr.length b.pend.length e/\Below w.heap.size w w':=by
 obtain ⟨ay,cs,rfl,hcs1,hcs2⟩:=h.sys.form;obtain ⟨ac,cc,rfl,hcc1,hcc2⟩:=h.scr.form;obtain ⟨ap,cp,rfl,hcp1,hcp2⟩:=h.pend.form;have H:=zh h;obtain ⟨W0,hW0,hb0,hX,hs0⟩:=box1 w [.int .i64 b.tick,.slice ay ys.length cs,.slice ac b.scr.length cc,.slice ap b.pend.length cp] 26;have HW0:=zh hW0;have HX:=zh hX;have Hb0:=zh hb0;have HC:Hid (Strs W0 b.scr (.slice ac b.scr.length cc)):=zh (Strs.low h.scr hb0 (zr _));have HP:Hid (Pts W0 b.pend (.slice ap b.pend.length cp)):=zh (h.pend.below hb0 (zr _));unfold bkV;clear h H hW0 hb0 hX;go_enter Tryz.func14,Tryz.ntmps14
 go_upto_region 1 with (fail)
 rw [<- HW0.out];go_wp2_with fail
 go_loopw [3,4,6,7,8,9,10,11,12,13,14,15,16,17,18,19,20] (fun t3 t4 _ _ _ _ _ _ _ _ _ _ _ _ _ _ _ wr=>∃ (k:Nat) (z:Int),k<=b.scr.length/\t4=.int .i64 k/\t3=.int .i64 z/\Hid (Below W0.heap.size W0 wr)) (fun _ t4 _ _ _ _ _ _ _ _ _ _ _ _ _ _ _ _=>b.scr.length - (intOf t4).toNat)
 case atStart=>exact ⟨0,0,by omega,by first | rfl | go_num,by first | rfl | go_num,zh (Below.refl _ _)⟩
 case round =>
  obtain ⟨k,z,hk,rfl,rfl,HB⟩:=hrel;have x2:=(HX.out.below HB.out (zr _)).cell (i:=2) rfl;by_cases hkl:k < b.scr.length
  ·have hki:(k:Int) < (b.scr.length:Int):=by omega
   have hcl:(b.scr.length:Int)<=9223372036854775807:=by omega
   obtain ⟨g1,o1,rfl,hg1,hc1⟩:=(Strs.low HC.out HB.out (zr _)).here (by omega);have c:=hc1 k hkl;clear hc1;go_wp2_with fail
   go_roundw
   case rel=>exact ⟨k+1,_,by omega,by go_num,rfl,HB⟩
   case measure=>simp [intOf];omega
  ·have hki:¬ (k:Int) < (b.scr.length:Int):=by omega
   go_wp2_with fail
   go_loopw [3,5,21,22,23,24,25,26,27,28,29,30,31,32,33,34,35,36] (fun t3 t5 _ _ _ _ _ _ _ _ _ _ _ _ _ _ _ _ wr=>∃ (k:Nat) (z:Int),k<=b.pend.length/\t5=.int .i64 k/\t3=.int .i64 z/\Hid (Below W0.heap.size W0 wr)) (fun _ t5 _ _ _ _ _ _ _ _ _ _ _ _ _ _ _ _ _=>b.pend.length - (intOf t5).toNat)
   case atStart=>exact ⟨0,z,by omega,by first | rfl | go_num,by first | rfl | go_num,HB⟩
   case round =>
    clear HB hk hkl hki x2;obtain ⟨k,z,hk,rfl,rfl,HB⟩:=hrel;have x3:=(HX.out.below HB.out (zr _)).cell (i:=3) rfl;by_cases hkl:k < b.pend.length
    ·have hki:(k:Int) < (b.pend.length:Int):=by omega
     have hcl:(b.pend.length:Int)<=9223372036854775807:=by omega
     obtain ⟨g1,o1,rfl,hg1,hc1⟩:=(HP.out.below HB.out (zr _)).at (by omega);obtain ⟨c0,c1,c2⟩:=hc1 k hkl;clear hc1;go_wp2_with fail
     go_roundw
     case rel=>exact ⟨k+1,_,by omega,by go_num,rfl,HB⟩
     case measure=>simp [intOf];omega
    ·have hki:¬ (k:Int) < (b.pend.length:Int):=by omega
     have x1:=(HX.out.below HB.out (zr _)).cell (i:=1) rfl;have x2:=(HX.out.below HB.out (zr _)).cell (i:=2) rfl;have Hbe:=zh (Hb0.out.trans (HB.out.mono Hb0.out.size));by_cases h1:(ys.length:Int)<=20
     all_goals by_cases h2:(b.scr.length:Int)<=20
     all_goals by_cases h3:(b.pend.length:Int)<=40
     all_goals by_cases h4:z<=6000
     all_goals
      go_wp2_with fail
      go_ret;exact ⟨⟨_,rfl,fun h=>by first | exact ⟨by omega,by omega,by omega⟩ | cases h⟩,Hbe.out⟩
end Go.Proofs.YtdhikpkecmaplaaGreatDoor
