/- The layer patch: slices.IndexFunc and ContainsFunc over systems and patches, walked: where the function says of each element what p says. Printed by gen_pfunc.py. -/
import Derived.Test.YtdhikpkecmaplaaGreatDoorQFuncMk
import Derived.Test.YtdhikpkecmaplaaGreatDoorTransSMk
set_option linter.unusedSimpArgs false
set_option linter.unusedVariables false
set_option maxRecDepth 100000
set_option maxHeartbeats 1000000
namespace Go.Proofs.YtdhikpkecmaplaaGreatDoor
open Go.RowKit

def FoundI {α : Type} (xs : List α) (p : α -> Bool) (i : Int) : Prop := (i = -1 /\ xs.any p = false) ∨ ∃ (k : Nat) (h : k < xs.length), i = (k : Int) /\ p xs[k] = true /\ (xs.take k).any p = false
theorem FoundI.any {α:Type} {xs:List α} {p:α->Bool} {i:Int} (h:FoundI xs p i):decide (i >= 0)=xs.any p:=by
 rcases h with ⟨rfl,h⟩ | ⟨k,hk,rfl,h,_⟩
 ·rw [h];rfl
 ·rw [List.any_eq_true.2 ⟨_,List.getElem_mem hk,h⟩,yQ];omega
theorem zsL (xs:List Sys) (v:Value) (p:Sys->Bool) (dc0:Value) (dc1:Value) (w:World) (B:Nat) (hL:Syss w xs v) (hlow:Low B xs.length v) (hB:B<=w.heap.size)
  (hF:∀ (k:Nat) (h:k < xs.length) (W:World),Below w.heap.size w W->Calls Tryz.prog 123 #[xs[k].val,dc0,dc1] W (zbe (p xs[k]) W)) :
  Calls Tryz.prog 122 #[v,.func (.func 123) #[] #[dc0,dc1]] w fun e w'=>(∃ i:Int,e=.returned (.int .i64 i)/\FoundI xs p i)/\Below w.heap.size w w':=by
 obtain ⟨a,cap,rfl,hc1,hc2⟩:=hL.form;have HL:=zh hL;have HF:=zh hF;have Hlow:=zh hlow;clear hL hF hlow;go_enter Tryz.func122,Tryz.ntmps122
 go_wp2_with fail
 go_loopw [4,5,8,9,10,11,12,13,14,15,16,17,18] (fun _ _ t8 _ _ _ _ _ _ _ _ _ _ wr=>∃ k:Nat,k<=xs.length/\t8=.int .i64 k/\Hid ((xs.take k).any p=false)/\Hid (Below w.heap.size w wr)) (fun _ _ t8 _ _ _ _ _ _ _ _ _ _ _=>xs.length - (intOf t8).toNat)
 case atStart=>exact ⟨0,by omega,by first | rfl | go_num,zh (by simp),zh (yR _ _)⟩
 case round =>
  obtain ⟨k,hk,rfl,HA,HB⟩:=hrel;by_cases hkl:k < xs.length
  ·have hki:(k:Int) < (xs.length:Int):=by omega
   have hcl:(xs.length:Int)<=9223372036854775807:=by omega
   have hLr:Syss wr xs (.slice a xs.length cap):=Sl.lowBelow HL.out Hlow.out (HB.out.mono hB);obtain ⟨b,off,rfl,hbw,hc⟩:=hLr.at hkl;obtain ⟨c0,c1,c2,c3⟩:=hc k hkl;have HI:=zh (HF.out k hkl wr HB.out);have Hal:=zh (zfS (p:=p) (yD hkl) HA.out);have Hq:Hid (p xs[k]=p xs[k]):=zh rfl;generalize hq0:p xs[k]=q at HI Hal;have Hq0:=zh hq0;clear hLr hc hq0 Hq
   cases q with
   | true =>
    clear Hal;go_wp2_with fail
    refine HI.out.mono ?_;rintro e2 w2 ⟨rfl,hb2⟩;have HB2:=zh (HB.out.trans (hb2.mono HB.out.size));clear hb2;go_wp2_with fail
    go_ret
    exact ⟨⟨k,rfl,.inr ⟨k,hkl,rfl,Hq0.out,HA.out⟩⟩,HB2.out⟩
   | false =>
    have HA2:=zh (Hal.out.1 rfl);clear Hal;go_wp2_with fail
    refine HI.out.mono ?_;rintro e2 w2 ⟨rfl,hb2⟩;have HB2:=zh (HB.out.trans (hb2.mono HB.out.size));clear hb2;go_wp2_with fail
    go_roundw
    case rel=>exact ⟨k+1,by omega,by go_num,HA2,HB2⟩
    case measure=>simp [intOf];omega
  ·have hki:¬ (k:Int) < (xs.length:Int):=by omega
   have hke:k=xs.length:=by omega
   have HA2:Hid (xs.any p=false):=zh (by have:=HA.out;rw [hke,List.take_length] at this;exact this);clear HA;go_wp2_with fail
   go_ret;exact ⟨⟨-1,rfl,.inl ⟨rfl,HA2.out⟩⟩,HB.out⟩
theorem zq5 (xs:List Sys) (v:Value) (p:Sys->Bool) (dc0:Value) (dc1:Value) (w:World) (B:Nat) (hL:Syss w xs v) (hlow:Low B xs.length v) (hB:B<=w.heap.size)
  (hF:∀ (k:Nat) (h:k < xs.length) (W:World),Below w.heap.size w W->Calls Tryz.prog 123 #[xs[k].val,dc0,dc1] W (zbe (p xs[k]) W)) :
  Calls Tryz.prog 86 #[v,.func (.func 123) #[] #[dc0,dc1]] w (zbe (xs.any p) w):=by
 obtain ⟨a,cap,rfl,hc1,hc2⟩:=hL.form;have H:=zh (zsL xs _ p dc0 dc1 w B hL hlow hB hF);have hfi:∀ i,FoundI xs p i->decide (i >= 0)=xs.any p:=fun i h=>h.any
 have Hfi:=zh hfi;clear hL hF hfi hlow;go_enter Tryz.func86,Tryz.ntmps86
 go_wp2_with fail
 refine H.out.mono ?_;rintro e1 w2 ⟨⟨i,rfl,hi⟩,hb⟩;have Hb:=zh hb;have Hi:=zh (Hfi.out i hi);clear hb hi H;go_wp2_with fail
 go_ret;exact ⟨retb Hi.out,Hb.out⟩
theorem zsM (xs:List Sys) (v:Value) (p:Sys->Bool) (dc0:Value) (w:World) (B:Nat) (hL:Syss w xs v) (hlow:Low B xs.length v) (hB:B<=w.heap.size)
  (hF:∀ (k:Nat) (h:k < xs.length) (W:World),Below w.heap.size w W->Calls Tryz.prog 87 #[xs[k].val,dc0] W (zbe (p xs[k]) W)) :
  Calls Tryz.prog 122 #[v,.func (.func 87) #[] #[dc0]] w fun e w'=>(∃ i:Int,e=.returned (.int .i64 i)/\FoundI xs p i)/\Below w.heap.size w w':=by
 obtain ⟨a,cap,rfl,hc1,hc2⟩:=hL.form;have HL:=zh hL;have HF:=zh hF;have Hlow:=zh hlow;clear hL hF hlow;go_enter Tryz.func122,Tryz.ntmps122
 go_wp2_with fail
 go_loopw [4,5,8,9,10,11,12,13,14,15,16,17,18] (fun _ _ t8 _ _ _ _ _ _ _ _ _ _ wr=>∃ k:Nat,k<=xs.length/\t8=.int .i64 k/\Hid ((xs.take k).any p=false)/\Hid (Below w.heap.size w wr)) (fun _ _ t8 _ _ _ _ _ _ _ _ _ _ _=>xs.length - (intOf t8).toNat)
 case atStart=>exact ⟨0,by omega,by first | rfl | go_num,zh (by simp),zh (yR _ _)⟩
 case round =>
  obtain ⟨k,hk,rfl,HA,HB⟩:=hrel;by_cases hkl:k < xs.length
  ·have hki:(k:Int) < (xs.length:Int):=by omega
   have hcl:(xs.length:Int)<=9223372036854775807:=by omega
   have hLr:Syss wr xs (.slice a xs.length cap):=Sl.lowBelow HL.out Hlow.out (HB.out.mono hB);obtain ⟨b,off,rfl,hbw,hc⟩:=hLr.at hkl;obtain ⟨c0,c1,c2,c3⟩:=hc k hkl;have HI:=zh (HF.out k hkl wr HB.out);have Hal:=zh (zfS (p:=p) (yD hkl) HA.out);have Hq:Hid (p xs[k]=p xs[k]):=zh rfl;generalize hq0:p xs[k]=q at HI Hal;have Hq0:=zh hq0;clear hLr hc hq0 Hq
   cases q with
   | true =>
    clear Hal;go_wp2_with fail
    refine HI.out.mono ?_;rintro e2 w2 ⟨rfl,hb2⟩;have HB2:=zh (HB.out.trans (hb2.mono HB.out.size));clear hb2;go_wp2_with fail
    go_ret
    exact ⟨⟨k,rfl,.inr ⟨k,hkl,rfl,Hq0.out,HA.out⟩⟩,HB2.out⟩
   | false =>
    have HA2:=zh (Hal.out.1 rfl);clear Hal;go_wp2_with fail
    refine HI.out.mono ?_;rintro e2 w2 ⟨rfl,hb2⟩;have HB2:=zh (HB.out.trans (hb2.mono HB.out.size));clear hb2;go_wp2_with fail
    go_roundw
    case rel=>exact ⟨k+1,by omega,by go_num,HA2,HB2⟩
    case measure=>simp [intOf];omega
  ·have hki:¬ (k:Int) < (xs.length:Int):=by omega
   have hke:k=xs.length:=by omega
   have HA2:Hid (xs.any p=false):=zh (by have:=HA.out;rw [hke,List.take_length] at this;exact this);clear HA;go_wp2_with fail
   go_ret;exact ⟨⟨-1,rfl,.inl ⟨rfl,HA2.out⟩⟩,HB.out⟩
theorem zq6 (xs:List Sys) (v:Value) (p:Sys->Bool) (dc0:Value) (w:World) (B:Nat) (hL:Syss w xs v) (hlow:Low B xs.length v) (hB:B<=w.heap.size)
  (hF:∀ (k:Nat) (h:k < xs.length) (W:World),Below w.heap.size w W->Calls Tryz.prog 87 #[xs[k].val,dc0] W (zbe (p xs[k]) W)) :
  Calls Tryz.prog 86 #[v,.func (.func 87) #[] #[dc0]] w (zbe (xs.any p) w):=by
 obtain ⟨a,cap,rfl,hc1,hc2⟩:=hL.form;have H:=zh (zsM xs _ p dc0 w B hL hlow hB hF);have hfi:∀ i,FoundI xs p i->decide (i >= 0)=xs.any p:=fun i h=>h.any
 have Hfi:=zh hfi;clear hL hF hfi hlow;go_enter Tryz.func86,Tryz.ntmps86
 go_wp2_with fail
 refine H.out.mono ?_;rintro e1 w2 ⟨⟨i,rfl,hi⟩,hb⟩;have Hb:=zh hb;have Hi:=zh (Hfi.out i hi);clear hb hi H;go_wp2_with fail
 go_ret;exact ⟨retb Hi.out,Hb.out⟩
theorem zr2 (xs:List Pt) (v:Value) (p:Pt->Bool) (dc0:Value) (w:World) (B:Nat) (hL:Pts w xs v) (hlow:Low B xs.length v) (hB:B<=w.heap.size)
  (hF:∀ (k:Nat) (h:k < xs.length) (W:World),Below w.heap.size w W->Calls Tryz.prog 88 #[xs[k].val,dc0] W (zbe (p xs[k]) W)) :
  Calls Tryz.prog 56 #[v,.func (.func 88) #[] #[dc0]] w fun e w'=>(∃ i:Int,e=.returned (.int .i64 i)/\FoundI xs p i)/\Below w.heap.size w w':=by
 obtain ⟨a,cap,rfl,hc1,hc2⟩:=hL.form;have HL:=zh hL;have HF:=zh hF;have Hlow:=zh hlow;clear hL hF hlow;go_enter Tryz.func56,Tryz.ntmps56
 go_wp2_with fail
 go_loopw [4,5,8,9,10,11,12,13,14,15,16,17,18] (fun _ _ t8 _ _ _ _ _ _ _ _ _ _ wr=>∃ k:Nat,k<=xs.length/\t8=.int .i64 k/\Hid ((xs.take k).any p=false)/\Hid (Below w.heap.size w wr)) (fun _ _ t8 _ _ _ _ _ _ _ _ _ _ _=>xs.length - (intOf t8).toNat)
 case atStart=>exact ⟨0,by omega,by first | rfl | go_num,zh (by simp),zh (yR _ _)⟩
 case round =>
  obtain ⟨k,hk,rfl,HA,HB⟩:=hrel;by_cases hkl:k < xs.length
  ·have hki:(k:Int) < (xs.length:Int):=by omega
   have hcl:(xs.length:Int)<=9223372036854775807:=by omega
   have hLr:Pts wr xs (.slice a xs.length cap):=Sl.lowBelow HL.out Hlow.out (HB.out.mono hB);obtain ⟨b,off,rfl,hbw,hc⟩:=hLr.at (by omega);obtain ⟨c0,c1,c2⟩:=hc k hkl;have HI:=zh (HF.out k hkl wr HB.out);have Hal:=zh (zfS (p:=p) (yD hkl) HA.out);have Hq:Hid (p xs[k]=p xs[k]):=zh rfl;generalize hq0:p xs[k]=q at HI Hal;have Hq0:=zh hq0;clear hLr hc hq0 Hq
   cases q with
   | true =>
    clear Hal;go_wp2_with fail
    refine HI.out.mono ?_;rintro e2 w2 ⟨rfl,hb2⟩;have HB2:=zh (HB.out.trans (hb2.mono HB.out.size));clear hb2;go_wp2_with fail
    go_ret
    exact ⟨⟨k,rfl,.inr ⟨k,hkl,rfl,Hq0.out,HA.out⟩⟩,HB2.out⟩
   | false =>
    have HA2:=zh (Hal.out.1 rfl);clear Hal;go_wp2_with fail
    refine HI.out.mono ?_;rintro e2 w2 ⟨rfl,hb2⟩;have HB2:=zh (HB.out.trans (hb2.mono HB.out.size));clear hb2;go_wp2_with fail
    go_roundw
    case rel=>exact ⟨k+1,by omega,by go_num,HA2,HB2⟩
    case measure=>simp [intOf];omega
  ·have hki:¬ (k:Int) < (xs.length:Int):=by omega
   have hke:k=xs.length:=by omega
   have HA2:Hid (xs.any p=false):=zh (by have:=HA.out;rw [hke,List.take_length] at this;exact this);clear HA;go_wp2_with fail
   go_ret;exact ⟨⟨-1,rfl,.inl ⟨rfl,HA2.out⟩⟩,HB.out⟩
theorem zqL (xs:List Pt) (v:Value) (p:Pt->Bool) (dc0:Value) (w:World) (B:Nat) (hL:Pts w xs v) (hlow:Low B xs.length v) (hB:B<=w.heap.size)
  (hF:∀ (k:Nat) (h:k < xs.length) (W:World),Below w.heap.size w W->Calls Tryz.prog 88 #[xs[k].val,dc0] W (zbe (p xs[k]) W)) :
  Calls Tryz.prog 89 #[v,.func (.func 88) #[] #[dc0]] w (zbe (xs.any p) w):=by
 obtain ⟨a,cap,rfl,hc1,hc2⟩:=hL.form;have H:=zh (zr2 xs _ p dc0 w B hL hlow hB hF);have hfi:∀ i,FoundI xs p i->decide (i >= 0)=xs.any p:=fun i h=>h.any
 have Hfi:=zh hfi;clear hL hF hfi hlow;go_enter Tryz.func89,Tryz.ntmps89
 go_wp2_with fail
 refine H.out.mono ?_;rintro e1 w2 ⟨⟨i,rfl,hi⟩,hb⟩;have Hb:=zh hb;have Hi:=zh (Hfi.out i hi);clear hb hi H;go_wp2_with fail
 go_ret;exact ⟨retb Hi.out,Hb.out⟩
theorem zr3 (xs:List Pt) (v:Value) (p:Pt->Bool) (dc0:Value) (dc1:Value) (w:World) (B:Nat) (hL:Pts w xs v) (hlow:Low B xs.length v) (hB:B<=w.heap.size)
  (hF:∀ (k:Nat) (h:k < xs.length) (W:World),Below w.heap.size w W->Calls Tryz.prog 93 #[xs[k].val,dc0,dc1] W (zbe (p xs[k]) W)) :
  Calls Tryz.prog 56 #[v,.func (.func 93) #[] #[dc0,dc1]] w fun e w'=>(∃ i:Int,e=.returned (.int .i64 i)/\FoundI xs p i)/\Below w.heap.size w w':=by
 obtain ⟨a,cap,rfl,hc1,hc2⟩:=hL.form;have HL:=zh hL;have HF:=zh hF;have Hlow:=zh hlow;clear hL hF hlow;go_enter Tryz.func56,Tryz.ntmps56
 go_wp2_with fail
 go_loopw [4,5,8,9,10,11,12,13,14,15,16,17,18] (fun _ _ t8 _ _ _ _ _ _ _ _ _ _ wr=>∃ k:Nat,k<=xs.length/\t8=.int .i64 k/\Hid ((xs.take k).any p=false)/\Hid (Below w.heap.size w wr)) (fun _ _ t8 _ _ _ _ _ _ _ _ _ _ _=>xs.length - (intOf t8).toNat)
 case atStart=>exact ⟨0,by omega,by first | rfl | go_num,zh (by simp),zh (yR _ _)⟩
 case round =>
  obtain ⟨k,hk,rfl,HA,HB⟩:=hrel;by_cases hkl:k < xs.length
  ·have hki:(k:Int) < (xs.length:Int):=by omega
   have hcl:(xs.length:Int)<=9223372036854775807:=by omega
   have hLr:Pts wr xs (.slice a xs.length cap):=Sl.lowBelow HL.out Hlow.out (HB.out.mono hB);obtain ⟨b,off,rfl,hbw,hc⟩:=hLr.at (by omega);obtain ⟨c0,c1,c2⟩:=hc k hkl;have HI:=zh (HF.out k hkl wr HB.out);have Hal:=zh (zfS (p:=p) (yD hkl) HA.out);have Hq:Hid (p xs[k]=p xs[k]):=zh rfl;generalize hq0:p xs[k]=q at HI Hal;have Hq0:=zh hq0;clear hLr hc hq0 Hq
   cases q with
   | true =>
    clear Hal;go_wp2_with fail
    refine HI.out.mono ?_;rintro e2 w2 ⟨rfl,hb2⟩;have HB2:=zh (HB.out.trans (hb2.mono HB.out.size));clear hb2;go_wp2_with fail
    go_ret
    exact ⟨⟨k,rfl,.inr ⟨k,hkl,rfl,Hq0.out,HA.out⟩⟩,HB2.out⟩
   | false =>
    have HA2:=zh (Hal.out.1 rfl);clear Hal;go_wp2_with fail
    refine HI.out.mono ?_;rintro e2 w2 ⟨rfl,hb2⟩;have HB2:=zh (HB.out.trans (hb2.mono HB.out.size));clear hb2;go_wp2_with fail
    go_roundw
    case rel=>exact ⟨k+1,by omega,by go_num,HA2,HB2⟩
    case measure=>simp [intOf];omega
  ·have hki:¬ (k:Int) < (xs.length:Int):=by omega
   have hke:k=xs.length:=by omega
   have HA2:Hid (xs.any p=false):=zh (by have:=HA.out;rw [hke,List.take_length] at this;exact this);clear HA;go_wp2_with fail
   go_ret;exact ⟨⟨-1,rfl,.inl ⟨rfl,HA2.out⟩⟩,HB.out⟩
theorem zry (xs:List Pt) (v:Value) (p:Pt->Bool) (dc0:Value) (w:World) (B:Nat) (hL:Pts w xs v) (hlow:Low B xs.length v) (hB:B<=w.heap.size)
  (hF:∀ (k:Nat) (h:k < xs.length) (W:World),Below w.heap.size w W->Calls Tryz.prog 57 #[xs[k].val,dc0] W (zbe (p xs[k]) W)) :
  Calls Tryz.prog 56 #[v,.func (.func 57) #[] #[dc0]] w fun e w'=>(∃ i:Int,e=.returned (.int .i64 i)/\FoundI xs p i)/\Below w.heap.size w w':=by
 obtain ⟨a,cap,rfl,hc1,hc2⟩:=hL.form;have HL:=zh hL;have HF:=zh hF;have Hlow:=zh hlow;clear hL hF hlow;go_enter Tryz.func56,Tryz.ntmps56
 go_wp2_with fail
 go_loopw [4,5,8,9,10,11,12,13,14,15,16,17,18] (fun _ _ t8 _ _ _ _ _ _ _ _ _ _ wr=>∃ k:Nat,k<=xs.length/\t8=.int .i64 k/\Hid ((xs.take k).any p=false)/\Hid (Below w.heap.size w wr)) (fun _ _ t8 _ _ _ _ _ _ _ _ _ _ _=>xs.length - (intOf t8).toNat)
 case atStart=>exact ⟨0,by omega,by first | rfl | go_num,zh (by simp),zh (yR _ _)⟩
 case round =>
  obtain ⟨k,hk,rfl,HA,HB⟩:=hrel;by_cases hkl:k < xs.length
  ·have hki:(k:Int) < (xs.length:Int):=by omega
   have hcl:(xs.length:Int)<=9223372036854775807:=by omega
   have hLr:Pts wr xs (.slice a xs.length cap):=Sl.lowBelow HL.out Hlow.out (HB.out.mono hB);obtain ⟨b,off,rfl,hbw,hc⟩:=hLr.at (by omega);obtain ⟨c0,c1,c2⟩:=hc k hkl;have HI:=zh (HF.out k hkl wr HB.out);have Hal:=zh (zfS (p:=p) (yD hkl) HA.out);have Hq:Hid (p xs[k]=p xs[k]):=zh rfl;generalize hq0:p xs[k]=q at HI Hal;have Hq0:=zh hq0;clear hLr hc hq0 Hq
   cases q with
   | true =>
    clear Hal;go_wp2_with fail
    refine HI.out.mono ?_;rintro e2 w2 ⟨rfl,hb2⟩;have HB2:=zh (HB.out.trans (hb2.mono HB.out.size));clear hb2;go_wp2_with fail
    go_ret
    exact ⟨⟨k,rfl,.inr ⟨k,hkl,rfl,Hq0.out,HA.out⟩⟩,HB2.out⟩
   | false =>
    have HA2:=zh (Hal.out.1 rfl);clear Hal;go_wp2_with fail
    refine HI.out.mono ?_;rintro e2 w2 ⟨rfl,hb2⟩;have HB2:=zh (HB.out.trans (hb2.mono HB.out.size));clear hb2;go_wp2_with fail
    go_roundw
    case rel=>exact ⟨k+1,by omega,by go_num,HA2,HB2⟩
    case measure=>simp [intOf];omega
  ·have hki:¬ (k:Int) < (xs.length:Int):=by omega
   have hke:k=xs.length:=by omega
   have HA2:Hid (xs.any p=false):=zh (by have:=HA.out;rw [hke,List.take_length] at this;exact this);clear HA;go_wp2_with fail
   go_ret;exact ⟨⟨-1,rfl,.inl ⟨rfl,HA2.out⟩⟩,HB.out⟩

theorem zsN {w:World} {gs gp:Nat} {slot:Int} {P:ProgS} {a:Option Addr} {k cap:Nat} (y:Sys) (hs:OwnV w gs 3 [.int .i64 slot]) (hp:OwnV w gp 59 [.slice a k cap,.int .i64 P.locals,.int .u32 (w32 P.reads),.int .u32 (w32 P.writes)]) :
  Calls Tryz.prog 123 #[y.val,.pointer (some ⟨gs,0,none⟩),.pointer (some ⟨gp,0,none⟩)] w (zbe (y.pg == slot && !zn9 P.reads P.writes y) w):=by
 have hl1:=hs.lt;have hl2:=hp.lt;have hbx:Below w.heap.size w (w.alloc (.cells #[.string y.name,.int .u32 (w32 y.rd),.int .u32 (w32 y.wr),.int .i64 y.pg] 61)):=(yR _ _).alloc (zr _) _;have HF:=zh (zoR P y (.slice a k cap) _ ⟨a,k,cap,rfl⟩:Calls _ _ _ (w.alloc (.cells #[.string y.name,.int .u32 (w32 y.rd),.int .u32 (w32 y.wr),.int .i64 y.pg] 61)) _);obtain ⟨nm,rd,wr,pg⟩:=y;unfold Sys.val zow at HF;unfold Sys.val;simp only at HF hbx ⊢;have Hbx:=zh hbx;have x0:=hs.cell (i:=0) rfl;obtain ⟨y0,y1,y2,y3⟩:=yc4 hp
 generalize zn9 P.reads P.writes ⟨nm,rd,wr,pg⟩=q at *
 clear hs hp hbx;by_cases he:pg=slot
 ·subst he;rw [show (pg == pg && !q) = !q by simp];go_enter Tryz.func123,Tryz.ntmps123
  go_wp2_with fail
  go_at_call 26;refine HF.out.mono ?_;rintro e1 w1 ⟨rfl,hb1⟩;have Hb1:=zh (Hbx.out.trans (hb1.mono Hbx.out.size));clear hb1;go_wp2_with fail
  go_ret;exact ⟨rfl,Hb1.out⟩
 ·have he2:(pg == slot)=false:=by simpa using he
  rw [he2,Bool.false_and];go_enter Tryz.func123,Tryz.ntmps123
  go_wp2_with fail
  go_ret;exact ⟨rfl,Hbx.out⟩
theorem zrz {w:World} {gb:Nat} {t:Int} {vs vp:Value} {a:Option Addr} {n cap:Nat} (y:Sys) (hb:OwnV w gb 26 [.int .i64 t,vs,.slice a n cap,vp]) :
  Calls Tryz.prog 87 #[y.val,.pointer (some ⟨gb,0,none⟩)] w (zbe (decide ((n:Int)<=y.pg)) w):=by
 obtain ⟨nm,rd,wr,pg⟩:=y;have hl:=hb.lt;have x2:=hb.cell (i:=2) rfl;unfold Sys.val;simp only;clear hb;go_enter Tryz.func87,Tryz.ntmps87
 go_wp2_with fail
 go_ret;exact ⟨rfl,(yR _ _).alloc (zr _) _⟩
theorem zrA {w:World} {gx:Nat} {x:Pt} (y:Pt) (hx:OwnV w gx 32 x.cells) :
  Calls Tryz.prog 88 #[y.val,.pointer (some ⟨gx,0,none⟩)] w (zbe (y.same x) w):=by
 obtain ⟨t,s,src⟩:=x;obtain ⟨t2,s2,src2⟩:=y;unfold Pt.cells at hx;unfold Pt.val Pt.same;have hl:=hx.lt;obtain ⟨x0,x1⟩:=yc2 hx;simp only at x0 x1 ⊢;clear hx;by_cases h1:t2=t
 ·subst h1;go_enter Tryz.func88,Tryz.ntmps88
  go_wp2_with fail
  go_ret;exact ⟨retb (by simp),(yR _ _).alloc (zr _) _⟩
 ·have h2:(t2 == t)=false:=by simpa using h1
  go_enter Tryz.func88,Tryz.ntmps88
  go_wp2_with fail
  go_ret;exact ⟨retb (by simp [h2]),(yR _ _).alloc (zr _) _⟩
theorem zr4 {w:World} {gt gs:Nat} {t s:Int} (y:Pt) (h1:OwnV w gt 3 [.int .i64 t]) (h2:OwnV w gs 3 [.int .i64 s]) (src:List UInt8) :
  Calls Tryz.prog 93 #[y.val,.pointer (some ⟨gt,0,none⟩),.pointer (some ⟨gs,0,none⟩)] w (zbe (y.same ⟨t,s,src⟩) w):=by
 obtain ⟨t2,s2,src2⟩:=y;unfold Pt.val Pt.same;have hl:=h1.lt;have hl2:=h2.lt;have x0:=h1.cell (i:=0) rfl;have x1:=h2.cell (i:=0) rfl;simp only at x0 x1 ⊢;clear h1 h2;by_cases h1:t2=t
 ·subst h1;go_enter Tryz.func93,Tryz.ntmps93
  go_wp2_with fail
  go_ret;exact ⟨retb (by simp),(yR _ _).alloc (zr _) _⟩
 ·have h2:(t2 == t)=false:=by simpa using h1
  go_enter Tryz.func93,Tryz.ntmps93
  go_wp2_with fail
  go_ret;exact ⟨retb (by simp [h2]),(yR _ _).alloc (zr _) _⟩
theorem zrB {w:World} {gx:Nat} {x:Pt} (y:Pt) (hx:OwnV w gx 32 x.cells) :
  Calls Tryz.prog 57 #[y.val,.pointer (some ⟨gx,0,none⟩)] w (zbe (decide (x.tick < y.tick)) w):=by
 obtain ⟨t,s,src⟩:=x;obtain ⟨t2,s2,src2⟩:=y;unfold Pt.cells at hx;unfold Pt.val;have hl:=hx.lt;have x0:=hx.cell (i:=0) rfl;simp only at x0 ⊢;clear hx;go_enter Tryz.func57,Tryz.ntmps57
 go_wp2_with fail
 go_ret;exact ⟨rfl,(yR _ _).alloc (zr _) _⟩

def zqM (E : Nat -> Int) (n : Nat) (x : Int) (j : Nat) : Prop := (x = 0 /\ j = n /\ ∀ i, i < n -> E i = 0) ∨ ∃ i, j = i + 1 /\ i < n /\ E i ≠ 0 /\ x = E i /\ ∀ k, k < i -> E k = 0
def zr5 (E : Nat -> Int) (Inv : Nat -> World -> Prop) (n : Nat) (e : Ending) (w' : World) : Prop := ∃ x j, e = .returned (.int .i64 x) /\ zqM E n x j /\ Inv j w'
theorem zqk {w:World} {g cap:Nat} {cs:List Value} {E:Nat->Int} {Inv:Nat->World->Prop} (h0:Inv 0 w) (hR:∀ i W,Inv i W->OwnV W g 103 cs) (hcap:cap=cs.length) (hn:cs.length<=1000)
  (hF:∀ (i:Nat) (W:World) (v:Value),Inv i W->cs[i]? = some v->∃ (k:Nat) (caps:Array Value),v=.func (.func k) #[] caps/\(∀ W,(callFunc k caps).run Tryz.prog W=.ok (.enter k caps) W)/\Calls Tryz.prog k caps W fun e W'=>e=.returned (.int .i64 (E i))/\Inv (i+1) W') :
  Calls Tryz.prog 44 #[.slice (some ⟨g,0,none⟩) cs.length cap] w (zr5 E Inv cs.length):=by
 subst hcap;have HR:=zh hR;have HF:=zh hF;have H0:=zh h0;obtain ⟨n,hnn⟩:∃ n,cs.length=n:=⟨_,rfl⟩;have Hn:=zh hnn;rw [hnn] at hn ⊢;clear h0 hR hF hnn;go_enter Tryz.func44,Tryz.ntmps44
 go_wp2_with fail
 go_loopw [2,4,5,8,9,10,11,12,13,14,15,16,17] (fun _ _ _ t8 _ _ _ _ _ _ _ _ _ wr=>∃ i:Nat,i<=n/\t8=.int .i64 i/\Hid (Inv i wr)/\Hid (∀ k,k < i->E k=0)) (fun _ _ _ t8 _ _ _ _ _ _ _ _ _ _=>n - (intOf t8).toNat)
 case atStart=>exact ⟨0,by omega,by first | rfl | go_num,H0,zh (fun k hk=>by omega)⟩
 case round =>
  obtain ⟨i,hi,rfl,HI,HE⟩:=hrel;by_cases hin:i < n
  ·have hii:(i:Int) < (n:Int):=by omega
   have hO:=HR.out i wr HI.out;have hgc:cs[i]? = some (cs[i]'(by rw [Hn.out];exact hin)):=yD _;obtain ⟨k,caps,hv,hk,hC⟩:=HF.out i wr _ HI.out hgc;rw [hv] at hgc;have x0:=hO.cell hgc;have HC:=zh hC;clear hO hC hv hgc;go_wp2_with fail
   refine HC.out.mono ?_;rintro e1 w1 ⟨rfl,hI1⟩;have HI1:=zh hI1;clear hI1;by_cases hz:E i=0
   ·have Hz:=zh hz;rw [hz];clear hz;go_wp2_with fail
    go_roundw
    case rel=>exact ⟨i+1,by omega,by go_num,HI1,zh (fun k hk=>by
     rcases Nat.lt_or_ge k i with h | h
     ·exact HE.out k h
     ·obtain rfl:k=i:=by omega
      exact Hz.out)⟩
    case measure=>simp [intOf];omega
   ·have Hz:=zh hz;have hz2:(E i != 0)=true:=by simpa using hz
    generalize hx:E i=x at *
    have Hx:=zh hx;clear hz hx;go_wp2_with fail
    go_ret;exact ⟨x,i+1,rfl,.inr ⟨i,rfl,hin,by rw [Hx.out];exact Hz.out,Hx.out.symm,HE.out⟩,HI1.out⟩
  ·have hii:¬ (i:Int) < (n:Int):=by omega
   obtain rfl:i=n:=by omega
   go_wp2_with fail
   go_ret;exact ⟨0,i,rfl,.inl ⟨rfl,rfl,HE.out⟩,HI.out⟩
def IsSl (v : Value) : Prop := ∃ a k cap, v = .slice a k cap
theorem Sl.isSl {w:World} {sz n:Nat} {cs:List Value} {v:Value} (h:Sl w sz n cs v):IsSl v:=by obtain ⟨a,cap,rfl,_⟩:=h;exact ⟨a,_,cap,rfl⟩
theorem zpH (w:World) (X Y Z:List Value) (tX tY tZ:TypeId):∃ W0,W0=((w.alloc (.cells X.toArray tX)).alloc (.cells Y.toArray tY)).alloc (.cells Z.toArray tZ)/\Below w.heap.size w W0/\OwnV W0 w.heap.size tX X/\OwnV W0 (w.heap.size+1) tY Y/\OwnV W0 (w.heap.size+2) tZ Z/\W0.heap.size=w.heap.size+3:=
 ⟨_,rfl,(((yR _ _).alloc (zr _) _).alloc (by simp) _).alloc (by simp;omega) _,((OwnV.new _ _ _).alloc _).alloc _,(OwnV.newAt (by simp) _ _).alloc _,OwnV.newAt (by simp) _ _,by simp⟩
theorem zr6 {w:World} {ys:List Sys} {P:ProgS} {slot t:Int} {vs vc vp v:Value} (hS:Syss w ys vs) (h1:IsSl vc) (h2:IsSl vp) (h3:IsSl v) :
  Calls Tryz.prog 92 #[.agg #[.int .i64 t,vs,vc,vp],zow P v,.int .i64 slot] w (zbe (zpb ys P slot) w):=by
 obtain ⟨a,cap,rfl,hc1,hc2⟩:=hS.form;obtain ⟨a1,k1,cap1,rfl⟩:=h1;obtain ⟨a2,k2,cap2,rfl⟩:=h2;obtain ⟨a3,k3,cap3,rfl⟩:=h3;unfold zow;obtain ⟨W0,hW0,hb0,hX,hY,hZ,hs0⟩:=zpH w [.int .i64 t,.slice a ys.length cap,.slice a1 k1 cap1,.slice a2 k2 cap2] [.slice a3 k3 cap3,.int .i64 P.locals,.int .u32 (w32 P.reads),.int .u32 (w32 P.writes)] [.int .i64 slot] 26 59 3;have hS0:Syss W0 ys (.slice a ys.length cap):=hS.below hb0 (zr _);have HC:=zh (zq5 ys _ (fun y=>y.pg == slot && !zn9 P.reads P.writes y) (.pointer (some ⟨w.heap.size+2,0,none⟩)) (.pointer (some ⟨w.heap.size+1,0,none⟩)) W0 w.heap.size hS0 (Sl.low0 (by omega) hS) (by omega) (fun k hk W hb=>zsN _ (hZ.below hb (zr _)) (hY.below hb (zr _))));have Hq:Hid (zpb ys P slot = !(ys.any fun y=>y.pg == slot && !zn9 P.reads P.writes y)):=zh rfl;generalize zpb ys P slot=q2 at Hq ⊢;generalize (ys.any fun y=>y.pg == slot && !zn9 P.reads P.writes y)=q at HC Hq;obtain rfl:=Hq.out;have x1:=hX.cell (i:=1) rfl;have HW0:=zh hW0;have Hb0:=zh hb0;clear hW0 hb0 hX hY hZ hS hS0;go_enter Tryz.func92,Tryz.ntmps92
 go_upto_region 1 with (fail)
 rw [<- HW0.out];go_wp2_with fail
 refine HC.out.mono ?_;rintro e1 w1 ⟨rfl,hb1⟩;have Hb1:=zh (Hb0.out.trans (hb1.mono (by omega)));clear hb1;go_wp2_with fail
 go_ret;exact ⟨rfl,Hb1.out⟩
theorem zr7 {w:World} {l:List Pt} {tick slot t:Int} {vs vc vp:Value} (hS:Pts w l vp) (h1:IsSl vc) (h2:IsSl vs) (src:List UInt8) :
  Calls Tryz.prog 53 #[.agg #[.int .i64 t,vs,vc,vp],.int .i64 tick,.int .i64 slot] w fun e w'=>(∃ i:Int,e=.returned (.int .i64 i)/\FoundI l (fun y=>y.same ⟨tick,slot,src⟩) i)/\Below w.heap.size w w':=by
 obtain ⟨a,cap,rfl,hc1,hc2⟩:=hS.form;obtain ⟨a1,k1,cap1,rfl⟩:=h1;obtain ⟨a2,k2,cap2,rfl⟩:=h2;obtain ⟨W0,hW0,hb0,hX,hY,hZ,hs0⟩:=zpH w [.int .i64 t,.slice a2 k2 cap2,.slice a1 k1 cap1,.slice a l.length cap] [.int .i64 tick] [.int .i64 slot] 26 3 3;have hS0:Pts W0 l (.slice a l.length cap):=hS.below hb0 (zr _);have HC:=zh (zr3 l _ (fun y=>y.same ⟨tick,slot,src⟩) (.pointer (some ⟨w.heap.size+1,0,none⟩)) (.pointer (some ⟨w.heap.size+2,0,none⟩)) W0 w.heap.size hS0 (Sl.low0 (by omega) hS) (by omega) (fun k hk W hb=>zr4 _ (hY.below hb (zr _)) (hZ.below hb (zr _)) src));have x3:=hX.cell (i:=3) rfl;have HW0:=zh hW0;have Hb0:=zh hb0;clear hW0 hb0 hX hY hZ hS hS0;go_enter Tryz.func53,Tryz.ntmps53
 go_upto_region 1 with (fail)
 rw [<- HW0.out];go_wp2_with fail
 refine HC.out.mono ?_;rintro e1 w1 ⟨⟨i,rfl,hi⟩,hb1⟩;have Hb1:=zh (Hb0.out.trans (hb1.mono (by omega)));have Hi:=zh hi;clear hb1 hi;go_wp2_with fail
 go_ret;exact ⟨⟨i,rfl,Hi.out⟩,Hb1.out⟩
end Go.Proofs.YtdhikpkecmaplaaGreatDoor
