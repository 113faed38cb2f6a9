/- marcheslaw13.names, walked. -/
import Derived.Test.YtdeneckmoejcfaaParOkQs
import Derived.Test.YtdeneckmoejcfaaWTelZs
import Derived.Deep.CutBlock
set_option linter.unusedSimpArgs false
set_option linter.unusedVariables false
set_option maxRecDepth 100000
set_option maxHeartbeats 16000000
namespace Go.Proofs.Ytdeneckmoejcfaa
open Go.RowKit
theorem progS_ok (bs:List UInt8):okSs (progS bs)/\szSs (progS bs)<=16385:=by
 unfold progS
 cases h:zbg bs with
 | ok xs =>
  obtain ⟨h1,ts,h2,h3⟩:=zsI h
  exact ⟨h1,yT h3 (ziK h2)⟩
 | err a b c=>exact ⟨trivial,by simp [szSs]⟩
theorem compiled_any (bs:List UInt8) (v:Value) (w:World) (hL:SsL w w.heap.size (progS bs) v) :
  Calls Try.prog 13 #[v] w fun e w'=>e=.returned (.bool true)/\Below w.heap.size w w':=
 compiles_any (progS bs) v w w.heap.size (progS_ok bs).1 (by have:=(progS_ok bs).2;omega) hL (zr _)
theorem names_sizes:(ByteArray.mk #[108,101,116,32]++ByteArray.mk #[97]++ByteArray.mk #[32,61,32,49,59]).size<=100/\(ByteArray.mk #[108,101,116,32]++ByteArray.mk #[98]++ByteArray.mk #[32,61,32,49,59]).size<=100/\(ByteArray.mk #[97]++ByteArray.mk #[32,61,32,49,59]).size<=100/\(ByteArray.mk #[98]++ByteArray.mk #[32,61,32,49,59]).size<=100/\(ByteArray.mk #[118,97,114,115,91,48,93,32,61,32]++ByteArray.mk #[97]++ByteArray.mk #[59]).size<=100/\(ByteArray.mk #[118,97,114,115,91,48,93,32,61,32]++ByteArray.mk #[98]++ByteArray.mk #[59]).size<=100:=by
 simp [ByteArray.size_append,ByteArray.size]
def Lines3 (W : World) (g : Nat) (e : TypeId) : Prop := ∃ s0 s1 s2 : ByteArray, s0.size <= 100 /\ s1.size <= 100 /\ s2.size <= 100 /\ OwnV W g e [.string s0, .string s1, .string s2]
theorem Lines3.set {W:World} {g:Nat} {e:TypeId} (h:Lines3 W g e) {s:ByteArray} (hs:s.size<=100) (k:Nat):Lines3 (W.setCell ⟨g,k,none⟩ (.string s)) g e:=by
 obtain ⟨s0,s1,s2,h0,h1,h2,h3⟩:=h;have h4:=h3.set k (.string s)
 match k with
 | 0=>exact ⟨s,s1,s2,hs,h1,h2,h4⟩
 | 1=>exact ⟨s0,s,s2,h0,hs,h2,h4⟩
 | 2=>exact ⟨s0,s1,s,h0,h1,hs,h4⟩
 | n+3=>exact ⟨s0,s1,s2,h0,h1,h2,h4⟩
theorem Lines3.alloc {W:World} {g:Nat} {e:TypeId} (h:Lines3 W g e) (o:Obj):Lines3 (W.alloc o) g e:=by
 obtain ⟨s0,s1,s2,h0,h1,h2,h3⟩:=h;exact ⟨s0,s1,s2,h0,h1,h2,h3.alloc o⟩
theorem Lines3.drew {W:World} {g:Nat} {e:TypeId} (h:Lines3 W g e):Lines3 W.drew g e:=by
 obtain ⟨s0,s1,s2,h0,h1,h2,h3⟩:=h;exact ⟨s0,s1,s2,h0,h1,h2,h3.drew⟩
theorem names_any (w:World):Calls Try.prog 22 #[] w fun e w'=>e=.returned (.bool true)/\Below w.heap.size w w':=by
 go_enter Try.func22,Try.ntmps22
 go_upto_region 2 with (fail)
 obtain ⟨W1,hW1,hX1,hb1⟩:∃ W,W=w.alloc (.cells #[.string { data:=#[97] },.string { data:=#[98] }] 9)/\OwnV W w.heap.size 9 [.string { data:=#[97] },.string { data:=#[98] }]/\Below w.heap.size w W:=⟨_,rfl,OwnV.new _ _ _,(yR _ _).alloc (zr _) _⟩;have HW1:=zh hW1;have HX1:=zh hX1;have Hb1:=zh hb1;clear hW1 hX1 hb1;rw [<- HW1.out];clear HW1;go_wp2_with fail
 go_loopw [0,2,3,4,5,6,8,9,10,11,12,13,14,15,16,17,18,19,20,21,22,23,24,25,26,27,28,29,30,31,32,33,34,35,36,37,38,39,40,41,42,43,44,45,46,47,48,49,50,51,52,53,54,55,56,57,58,59,60,61,62,63,64,65,66,67,68,69,70,71,72,73,74,75,76,77,78,79,80,81,82,83,84,85,86,87,88,89,90,91,92,93,94] (fun _ t2 _ _ _ _ _ _ _ _ _ _ _ _ _ _ _ _ _ _ _ _ _ _ _ _ _ _ _ _ _ _ _ _ _ _ _ _ _ _ _ _ _ _ _ _ _ _ _ _ _ _ _ _ _ _ _ _ _ _ _ _ _ _ _ _ _ _ _ _ _ _ _ _ _ _ _ _ _ _ _ _ _ _ _ _ _ _ _ _ _ _ _ wr=>∃ i:Nat,i<=864/\t2=.int .i64 i/\Hid (OwnV wr w.heap.size 9 [.string { data:=#[97] },.string { data:=#[98] }])/\Hid (Below w.heap.size w wr)) (fun _ t2 _ _ _ _ _ _ _ _ _ _ _ _ _ _ _ _ _ _ _ _ _ _ _ _ _ _ _ _ _ _ _ _ _ _ _ _ _ _ _ _ _ _ _ _ _ _ _ _ _ _ _ _ _ _ _ _ _ _ _ _ _ _ _ _ _ _ _ _ _ _ _ _ _ _ _ _ _ _ _ _ _ _ _ _ _ _ _ _ _ _ _ _=>864 - (intOf t2).toNat)
 case atStart=>exact ⟨0,by omega,by first | rfl | go_num,HX1,Hb1⟩
 case round =>
  obtain ⟨i,hi,rfl,HX,HB⟩:=hrel;have hsr:=HB.out.size;by_cases hil:i < 864
  ·have hii:(i:Int) < 864:=by omega
   obtain ⟨wo,rfl⟩:∃ wo:World,wo=wr:=⟨_,rfl⟩;go_upto_region 6 with (fail)
   obtain ⟨W2,hW2,hY2,hb2⟩:∃ W,W=wo.alloc (.cells #[.string { data:=#[] },.string { data:=#[] },.string { data:=#[] }] 74)/\OwnV W wo.heap.size 74 [.string { data:=#[] },.string { data:=#[] },.string { data:=#[] }]/\Below wo.heap.size wo W:=⟨_,rfl,OwnV.new _ _ _,(yR _ _).alloc (zr _) _⟩;have HW2:=zh hW2;have HY2:=zh hY2;have Hb2:=zh hb2;have hs2:=hb2.size;clear hW2 hY2 hb2;rw [<- HW2.out];clear HW2;have hwo:w.heap.size < wo.heap.size:=HX.out.lt;go_wp2_with fail
   go_loopw [4,5,13,14,15,16,17,18,19,20,21,22,23,24,25,26,27,28,29,30,31,32,33,34,35,36,37,38,39,40,41,42,43,44,45,46] (fun t4 t5 _ _ _ _ _ _ _ _ _ _ _ _ _ _ _ _ _ _ _ _ _ _ _ _ _ _ _ _ _ _ _ _ _ _ wr=>∃ (k n:Nat) (s0 s1 s2:ByteArray),k<=3/\n<=864/\t4=.int .i64 k/\t5=.int .i64 n/\s0.size<=100/\s1.size<=100/\s2.size<=100/\Hid (OwnV wr wo.heap.size 74 [.string s0,.string s1,.string s2])/\Hid (Below wo.heap.size wo wr)) (fun t4 _ _ _ _ _ _ _ _ _ _ _ _ _ _ _ _ _ _ _ _ _ _ _ _ _ _ _ _ _ _ _ _ _ _ _ _=>3 - (intOf t4).toNat)
   case atStart=>exact ⟨0,i,_,_,_,by omega,by omega,by first | rfl | go_num,rfl,by decide,by decide,by decide,HY2,Hb2⟩
   case round =>
    obtain ⟨k,n,s0,s1,s2,hk,hn,rfl,rfl,hz0,hz1,hz2,HY,Hbo⟩:=hrel;have hso:=Hbo.out.size;have HXr:=zh (HX.out.below Hbo.out (zr _));by_cases hkl:k < 3
    ·have hki:(k:Int) < 3:=by omega
     obtain ⟨r,hr,hr2⟩:∃ r:Nat,(n:Int).tmod 2=(r:Int)/\r < 2:=⟨n % 2,by rw [Int.tmod_eq_emod_of_nonneg (by omega)];omega,by omega⟩;have hr3:(r:Int) < 2:=by omega
     have h2:((n:Int).tmod 2=0/\r=0)∨((n:Int).tmod 2=1/\r=1):=by omega
     clear hr;obtain ⟨qn,hqn⟩:∃ qn:Nat,qn=n / 2:=⟨_,rfl⟩;have hw2:IntKind.i64.wrap ((n:Int) / 2)=(qn:Int):=by rw [IntWalk.i64_in _ (by omega)];omega
     obtain ⟨n6,hn6⟩:∃ qn:Nat,qn=n / 6:=⟨_,rfl⟩;have hw6:IntKind.i64.wrap ((n:Int) / 6)=(n6:Int):=by rw [IntWalk.i64_in _ (by omega)];omega
     have hm3:(qn:Int).tmod 3=0∨(qn:Int).tmod 3=1∨(qn:Int).tmod 3=2:=by rw [Int.tmod_eq_emod_of_nonneg (by omega)];omega
     clear hqn;have yf:=HY.out.free k;have ylt:=HY.out.lt;have hkc:=yf
     obtain ⟨sk,hsk⟩:∃ sk:ByteArray,wr.cell? ⟨wo.heap.size,k,none⟩=some (.string sk):=by
      have h3:k=0∨k=1∨k=2:=by omega
      rcases h3 with rfl | rfl | rfl
      ·exact ⟨_,HY.out.cell (i:=0) rfl⟩
      ·exact ⟨_,HY.out.cell (i:=1) rfl⟩
      ·exact ⟨_,HY.out.cell (i:=2) rfl⟩
     have x0:wr.cell? ⟨w.heap.size,0,none⟩=some (.string { data:=#[97] }):=HXr.out.cell (i:=0) rfl;have x1:wr.cell? ⟨w.heap.size,1,none⟩=some (.string { data:=#[98] }):=HXr.out.cell (i:=1) rfl;have hL3:=zh (show Lines3 wr wo.heap.size 74 from ⟨s0,s1,s2,hz0,hz1,hz2,HY.out⟩);have hNS:=zh names_sizes;go_upto_block 3 with (fail)
     go_cut [] (fun wx=>Lines3 wx wo.heap.size 74/\Below wo.heap.size wo wx)
     case first =>
      rcases h2 with ⟨hr,rfl⟩ | ⟨hr,rfl⟩
      ·rcases hm3 with hm | hm | hm
       ·go_wp2_with fail
        go_region_with (fail)
        all_goals
         go_wp2_with fail
         go_meet;refine ⟨?_,?_⟩
         ·repeat (first | apply Lines3.drew | apply Lines3.alloc)
          exact hL3.out.set hNS.out.1 _
         ·repeat (first | exact Hbo.out | apply Below.drew | refine Below.alloc ?_ (by first | exact hso | (simp;exact hso)) _ | exact Hbo.out.setCell (p:=⟨wo.heap.size,k,none⟩) (zr _) _)
       ·go_wp2_with fail
        go_region_with (fail)
        all_goals
         go_wp2_with fail
         go_meet;refine ⟨?_,?_⟩
         ·repeat (first | apply Lines3.drew | apply Lines3.alloc)
          exact hL3.out.set hNS.out.2.2.1 _
         ·repeat (first | exact Hbo.out | apply Below.drew | refine Below.alloc ?_ (by first | exact hso | (simp;exact hso)) _ | exact Hbo.out.setCell (p:=⟨wo.heap.size,k,none⟩) (zr _) _)
       ·go_wp2_with fail
        go_region_with (fail)
        all_goals
         go_wp2_with fail
         go_meet;refine ⟨?_,?_⟩
         ·repeat (first | apply Lines3.drew | apply Lines3.alloc)
          exact hL3.out.set hNS.out.2.2.2.2.1 _
         ·repeat (first | exact Hbo.out | apply Below.drew | refine Below.alloc ?_ (by first | exact hso | (simp;exact hso)) _ | exact Hbo.out.setCell (p:=⟨wo.heap.size,k,none⟩) (zr _) _)
      ·rcases hm3 with hm | hm | hm
       ·go_wp2_with fail
        go_region_with (fail)
        all_goals
         go_wp2_with fail
         go_meet;refine ⟨?_,?_⟩
         ·repeat (first | apply Lines3.drew | apply Lines3.alloc)
          exact hL3.out.set hNS.out.2.1 _
         ·repeat (first | exact Hbo.out | apply Below.drew | refine Below.alloc ?_ (by first | exact hso | (simp;exact hso)) _ | exact Hbo.out.setCell (p:=⟨wo.heap.size,k,none⟩) (zr _) _)
       ·go_wp2_with fail
        go_region_with (fail)
        all_goals
         go_wp2_with fail
         go_meet;refine ⟨?_,?_⟩
         ·repeat (first | apply Lines3.drew | apply Lines3.alloc)
          exact hL3.out.set hNS.out.2.2.2.1 _
         ·repeat (first | exact Hbo.out | apply Below.drew | refine Below.alloc ?_ (by first | exact hso | (simp;exact hso)) _ | exact Hbo.out.setCell (p:=⟨wo.heap.size,k,none⟩) (zr _) _)
       ·go_wp2_with fail
        go_region_with (fail)
        all_goals
         go_wp2_with fail
         go_meet;refine ⟨?_,?_⟩
         ·repeat (first | apply Lines3.drew | apply Lines3.alloc)
          exact hL3.out.set hNS.out.2.2.2.2.2 _
         ·repeat (first | exact Hbo.out | apply Below.drew | refine Below.alloc ?_ (by first | exact hso | (simp;exact hso)) _ | exact Hbo.out.setCell (p:=⟨wo.heap.size,k,none⟩) (zr _) _)
     case rest =>
      obtain ⟨⟨z0,z1,z2,hq0,hq1,hq2,HZ⟩,HBz⟩:=hcut;replace HZ:=zh HZ;replace HBz:=zh HBz;go_wp2_with fail
      have hn6i:(n:Int) / 6=(n6:Int):=by omega
      go_roundw
      case rel=>exact ⟨k+1,n6,z0,z1,z2,by omega,by omega,by go_num,by rw [hn6i],hq0,hq1,hq2,HZ,HBz⟩
      case measure=>simp [intOf];omega
    ·have hki:¬ (k:Int) < 3:=by omega
     have ylt:=HY.out.lt;obtain ⟨y0,y1,y2⟩:=yc3 HY.out;have hz0':s0.size<=140737488355328:=by omega
     have hz1':s1.size<=140737488355328:=by omega
     have hz2':s2.size<=140737488355328:=by omega
     obtain ⟨j,hj⟩:∃ j:Nat,j=i / 216:=⟨_,rfl⟩;have hwi:IntKind.i64.wrap ((i:Int) / 216)=(j:Int):=by rw [IntWalk.i64_in _ (by omega)];omega
     have hj4:j=0∨j=1∨j=2∨j=3:=by omega
     clear hj;have hP:=zh program_any;have hC:=zh compiled_any;have hwo':w.heap.size<=wo.heap.size:=by omega
     have hwr':w.heap.size<=wr.heap.size:=by omega
     rcases hj4 with rfl | rfl | rfl | rfl
     all_goals
      go_wp2_with fail
      go_at_call 20;refine (hP.out _ _ (by simp only [Go.ByteArray.size_append',Go.ByteArray.size_mk',List.size_toArray,yB,yL];omega)).mono ?_;rintro e5 w5 ⟨v5,rfl,hL5,hb5⟩;replace hL5:=zh hL5;have HB5:=zh (HB.out.trans ((Hbo.out.mono hwo').trans (((yR w.heap.size wr).alloc hwr' _).trans (hb5.mono (by simp;omega)))));have HX5:=zh (HXr.out.below (((yR wr.heap.size wr).alloc (zr _) _).trans (hb5.mono (by simp))) (zr _));clear hb5;go_wp2_with fail
      go_at_call 13;refine (hC.out _ v5 _ hL5.out).mono ?_;rintro e6 w6 ⟨rfl,hb6⟩;have HB6:=zh (HB5.out.trans (hb6.mono HB5.out.size));have HX6:=zh (HX5.out.below hb6 (zr _));clear hb6;go_wp2_with fail
      go_roundw
      case rel=>exact ⟨i+1,by omega,by go_num,HX6,HB6⟩
      case measure=>simp [intOf];omega
  ·have hii:¬ (i:Int) < 864:=by omega
   go_wp2_with fail
   go_ret;exact ⟨rfl,HB.out⟩
end Go.Proofs.Ytdeneckmoejcfaa
