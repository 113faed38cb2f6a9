/- marchesref12.Fine, walked: it says which expressions are printable. -/
import Derived.Test.YtoaojdobjinhfaaGreatDoorRParOC
import Derived.Test.YtoaojdobjinhfaaGreatDoorRegionS
set_option linter.unusedSimpArgs false
set_option linter.unusedVariables false
set_option maxRecDepth 100000
set_option maxHeartbeats 2000000
namespace Go.Proofs.YtoaojdobjinhfaaGreatDoor
open Go.RowKit

theorem fine_c1 (d:Nat) (hd:d≤40) (ih:∀ (op n:Int) (name:List UInt8) (args:List Ex) (v:Value) (w:World) (B:Nat),okE (.mk op n name args)→EsL w B args v→B≤w.heap.size→Calls Tryz.prog 76 #[.agg #[.int .u8 op,.int .i64 n,.string (bstr name),v],.int .i64 d] w (zbe (zbd d (.mk op n name args)) w))
  (n:Int) (name:List UInt8) (args:List Ex) (v:Value) (w:World) (B:Nat) (hok:okE (.mk 1 n name args)) (hL:EsL w B args v) (_hB:B≤w.heap.size) :
  Calls Tryz.prog 76 #[.agg #[.int .u8 1,.int .i64 n,.string (bstr name),v],.int .i64 ((d:Int)+1)] w (zbe (zbd (d+1) (.mk 1 n name args)) w):=by
 obtain ⟨a,cap,rfl,hcc1,hcc2⟩:=hL.form;have Hih:=zh ih;have HL:=zh hL;obtain ⟨-,-,-,hoks⟩:=hok;have Hoks:=zh hoks;obtain ⟨W1,hW1,hX1,hb1⟩:∃ W1,W1=w.alloc (.cells #[.int .u8 1,.int .i64 n,.string (bstr name),.slice a args.length cap] 29)∧OwnV W1 w.heap.size 29 [.int .u8 1,.int .i64 n,.string (bstr name),.slice a args.length cap]∧Below w.heap.size w W1:=⟨_,rfl,OwnV.new _ _ _,(Below.refl _ _).alloc (zr _) _⟩;have Hb1:=zh hb1;have HX1:=zh hX1;have x0:=hX1.cell (i:=0) rfl;have x1:=hX1.cell (i:=1) rfl;have x2:=hX1.cell (i:=2) rfl;have x3:=hX1.cell (i:=3) rfl;obtain ⟨final,hfin⟩:∃ q,zbd (d+1) (.mk 1 n name args)=q:=⟨_,rfl⟩;have HF:Hid (final=((decide (args.length=0) && (decide (name=[]) && decide (0≤n))) && args.all (zbd d))):=zh (by rw [← hfin,zbd,zmW]);rw [hfin];have hd1:((d:Int)+1 == 0)=false:=by rw [beq_eq_false_iff_ne];omega
 clear hb1 hX1 hL hoks ih hfin;by_cases hl:args.length=0
 ·have hln:((args.length:Int) != 0)=false:=by rw [hl];rfl
  have Hl:=zh hl;clear hl;by_cases hn:name=[]
  ·have hs:(bstr name).toList=[]:=str_nil.2 hn;have Hn:=zh hn;clear hn;by_cases hz:0≤n
   ·have hz1:¬ n < 0:=by omega
    have Hh:Hid (_=true):=zh (show (decide (args.length=0) && (decide (name=[]) && decide (0≤n)))=true by rw [decide_eq_true Hl.out,decide_eq_true Hn.out,decide_eq_true hz];rfl);go_enter Tryz.func76,Tryz.ntmps76
    go_upto_region 1 with (fail)
    rw [← hW1];clear hW1;go_upto_region 8 with (fail)
    simp only [List.append_eq,List.cons_append,List.nil_append];go_upto_region 10 with (fail)
    go_wp2_with fail
    go_loopw [4,6,106,107,108,109,110,111,112,113,114,115,116,117,118,119] (fun _ t6 _ _ _ _ _ _ _ _ _ _ _ _ _ _ wr=>∃ (k:Nat),k≤args.length∧t6=.int .i64 k∧Hid ((args.take k).all (zbd d)=true)∧Hid (Below W1.heap.size W1 wr)) (fun _ t6 _ _ _ _ _ _ _ _ _ _ _ _ _ _ _=>args.length - (intOf t6).toNat)
    case atStart=>exact ⟨0,by omega,by first | rfl | go_num,zh (by simp),zh (Below.refl _ _)⟩
    case round =>
     obtain ⟨k,hk,rfl,HA,HB⟩:=hrel;have hx3:=(HX1.out.below HB.out (zr _)).cell (i:=3) rfl;by_cases hkl:k < args.length
     ·have:=Hl.out;omega
     ·have hki:¬ (k:Int) < 0:=by have:=Hl.out;omega
      have hke:k=args.length:=by omega
      have HF2:Hid (final=true):=zh (by have:=HA.out;rw [hke,List.take_length] at this;rw [HF.out,this,Bool.and_true];exact Hh.out);clear HF;go_wp2_with fail
      go_ret;exact ⟨retb (a:=true) HF2.out.symm,Hb1.out.trans (HB.out.mono Hb1.out.size)⟩
   ·have hz1:n < 0:=by omega
    have Hz:=zh hz;clear hz;have HFz:Hid (final=false):=zh (by rw [HF.out,decide_eq_false Hz.out,Bool.and_false,Bool.and_false,Bool.false_and]);clear HF;go_enter Tryz.func76,Tryz.ntmps76
    go_upto_region 1 with (fail)
    rw [← hW1];clear hW1;go_upto_region 8 with (fail)
    simp only [List.append_eq,List.cons_append,List.nil_append];go_wp2_with (fail)
    go_ret;exact ⟨retb (a:=false) HFz.out.symm,Hb1.out⟩
  ·have hs:¬ (bstr name).toList=[]:=fun h=>hn (str_nil.1 h)
   have Hn:=zh hn;clear hn;have HFz:Hid (final=false):=zh (by rw [HF.out,decide_eq_false Hn.out,Bool.false_and,Bool.and_false,Bool.false_and]);clear HF;go_enter Tryz.func76,Tryz.ntmps76
   go_upto_region 1 with (fail)
   rw [← hW1];clear hW1;go_upto_region 8 with (fail)
   simp only [List.append_eq,List.cons_append,List.nil_append];go_wp2_with (fail)
   go_ret;exact ⟨retb (a:=false) HFz.out.symm,Hb1.out⟩
 ·have hln:((args.length:Int) != 0)=true:=by rw [bne_iff_ne];omega
  have Hl:=zh hl;clear hl;have HFz:Hid (final=false):=zh (by rw [HF.out,decide_eq_false Hl.out,Bool.false_and,Bool.false_and]);clear HF;go_enter Tryz.func76,Tryz.ntmps76
  go_upto_region 1 with (fail)
  rw [← hW1];clear hW1;go_upto_region 8 with (fail)
  simp only [List.append_eq,List.cons_append,List.nil_append];go_wp2_with (fail)
  go_ret;exact ⟨retb (a:=false) HFz.out.symm,Hb1.out⟩
theorem fine_c2 (d:Nat) (hd:d≤40) (ih:∀ (op n:Int) (name:List UInt8) (args:List Ex) (v:Value) (w:World) (B:Nat),okE (.mk op n name args)→EsL w B args v→B≤w.heap.size→Calls Tryz.prog 76 #[.agg #[.int .u8 op,.int .i64 n,.string (bstr name),v],.int .i64 d] w (zbe (zbd d (.mk op n name args)) w))
  (n:Int) (name:List UInt8) (args:List Ex) (v:Value) (w:World) (B:Nat) (hok:okE (.mk 2 n name args)) (hL:EsL w B args v) (_hB:B≤w.heap.size) :
  Calls Tryz.prog 76 #[.agg #[.int .u8 2,.int .i64 n,.string (bstr name),v],.int .i64 ((d:Int)+1)] w (zbe (zbd (d+1) (.mk 2 n name args)) w):=by
 obtain ⟨a,cap,rfl,hcc1,hcc2⟩:=hL.form;have Hih:=zh ih;have HL:=zh hL;obtain ⟨-,-,-,hoks⟩:=hok;have Hoks:=zh hoks;obtain ⟨W1,hW1,hX1,hb1⟩:∃ W1,W1=w.alloc (.cells #[.int .u8 2,.int .i64 n,.string (bstr name),.slice a args.length cap] 29)∧OwnV W1 w.heap.size 29 [.int .u8 2,.int .i64 n,.string (bstr name),.slice a args.length cap]∧Below w.heap.size w W1:=⟨_,rfl,OwnV.new _ _ _,(Below.refl _ _).alloc (zr _) _⟩;have Hb1:=zh hb1;have HX1:=zh hX1;have x0:=hX1.cell (i:=0) rfl;have x1:=hX1.cell (i:=1) rfl;have x2:=hX1.cell (i:=2) rfl;have x3:=hX1.cell (i:=3) rfl;obtain ⟨final,hfin⟩:∃ q,zbd (d+1) (.mk 2 n name args)=q:=⟨_,rfl⟩;have HF:Hid (final=((decide (args.length=0) && (zaP name && decide (n=0))) && args.all (zbd d))):=zh (by rw [← hfin,zbd,zmX]);rw [hfin];have hd1:((d:Int)+1 == 0)=false:=by rw [beq_eq_false_iff_ne];omega
 clear hb1 hX1 hL hoks ih hfin;by_cases hl:args.length=0
 ·have hln:((args.length:Int) != 0)=false:=by rw [hl];rfl
  have Hl:=zh hl;clear hl;have HNm:Hid (∀ w:World,_):=zh (fun w:World=>zfU name w);obtain ⟨q,hq⟩:∃ q,zaP name=q:=⟨_,rfl⟩;rw [hq] at HNm HF;clear hq
  cases q with
  | true =>
   by_cases hz:n=0
   ·have hz1:(n != 0)=false:=by simp [hz]
    have Hz:=zh hz;clear hz;have Hh:Hid (_=true):=zh (show ((decide (args.length=0) && (true && decide (n=0))))=true by rw [decide_eq_true Hl.out,decide_eq_true Hz.out];rfl);go_enter Tryz.func76,Tryz.ntmps76
    go_upto_region 1 with (fail)
    rw [← hW1];clear hW1;go_upto_region 8 with (fail)
    simp only [List.append_eq,List.cons_append,List.nil_append];go_upto_region 10 with (go_at_call 22;refine (HNm.out _).mono ?_;rintro e2 w2 ⟨rfl,hb2⟩;have Hb2:=zh hb2;clear hb2 x0 x1 x2 x3;have x0:=(HX1.out.below Hb2.out (zr _)).cell (i:=0) rfl;have x1:=(HX1.out.below Hb2.out (zr _)).cell (i:=1) rfl;have x2:=(HX1.out.below Hb2.out (zr _)).cell (i:=2) rfl;have x3:=(HX1.out.below Hb2.out (zr _)).cell (i:=3) rfl)
    go_wp2_with fail
    go_loopw [4,6,106,107,108,109,110,111,112,113,114,115,116,117,118,119] (fun _ t6 _ _ _ _ _ _ _ _ _ _ _ _ _ _ wr=>∃ (k:Nat),k≤args.length∧t6=.int .i64 k∧Hid ((args.take k).all (zbd d)=true)∧Hid (Below W1.heap.size W1 wr)) (fun _ t6 _ _ _ _ _ _ _ _ _ _ _ _ _ _ _=>args.length - (intOf t6).toNat)
    case atStart=>exact ⟨0,by omega,by first | rfl | go_num,zh (by simp),zh Hb2.out⟩
    case round =>
     obtain ⟨k,hk,rfl,HA,HB⟩:=hrel;have hx3:=(HX1.out.below HB.out (zr _)).cell (i:=3) rfl;by_cases hkl:k < args.length
     ·have:=Hl.out;omega
     ·have hki:¬ (k:Int) < 0:=by have:=Hl.out;omega
      have hke:k=args.length:=by omega
      have HF2:Hid (final=true):=zh (by have:=HA.out;rw [hke,List.take_length] at this;rw [HF.out,this,Bool.and_true];exact Hh.out);clear HF;go_wp2_with fail
      go_ret;exact ⟨retb (a:=true) HF2.out.symm,Hb1.out.trans (HB.out.mono Hb1.out.size)⟩
   ·have hz1:(n != 0)=true:=by simp [hz]
    have Hz:=zh hz;clear hz;have HFz:Hid (final=false):=zh (by rw [HF.out,decide_eq_false Hz.out,Bool.and_false,Bool.and_false,Bool.false_and]);clear HF;go_enter Tryz.func76,Tryz.ntmps76
    go_upto_region 1 with (fail)
    rw [← hW1];clear hW1;go_upto_region 8 with (fail)
    simp only [List.append_eq,List.cons_append,List.nil_append];go_wp2_with (go_at_call 22;refine (HNm.out _).mono ?_;rintro e2 w2 ⟨rfl,hb2⟩;have Hb2:=zh hb2;clear hb2 x0 x1 x2 x3;have x0:=(HX1.out.below Hb2.out (zr _)).cell (i:=0) rfl;have x1:=(HX1.out.below Hb2.out (zr _)).cell (i:=1) rfl;have x2:=(HX1.out.below Hb2.out (zr _)).cell (i:=2) rfl;have x3:=(HX1.out.below Hb2.out (zr _)).cell (i:=3) rfl)
    go_ret
    exact ⟨retb (a:=false) HFz.out.symm,(Hb1.out.trans (Hb2.out.mono Hb1.out.size))⟩
  | false =>
   have HFz:Hid (final=false):=zh (by rw [HF.out,Bool.false_and,Bool.and_false,Bool.false_and]);clear HF;go_enter Tryz.func76,Tryz.ntmps76
   go_upto_region 1 with (fail)
   rw [← hW1];clear hW1;go_upto_region 8 with (fail)
   simp only [List.append_eq,List.cons_append,List.nil_append];go_wp2_with (go_at_call 22;refine (HNm.out _).mono ?_;rintro e2 w2 ⟨rfl,hb2⟩;have Hb2:=zh hb2;clear hb2 x0 x1 x2 x3;have x0:=(HX1.out.below Hb2.out (zr _)).cell (i:=0) rfl;have x1:=(HX1.out.below Hb2.out (zr _)).cell (i:=1) rfl;have x2:=(HX1.out.below Hb2.out (zr _)).cell (i:=2) rfl;have x3:=(HX1.out.below Hb2.out (zr _)).cell (i:=3) rfl)
   go_ret;exact ⟨retb (a:=false) HFz.out.symm,Hb1.out.trans (Hb2.out.mono Hb1.out.size)⟩
 ·have hln:((args.length:Int) != 0)=true:=by rw [bne_iff_ne];omega
  have Hl:=zh hl;clear hl;have HFz:Hid (final=false):=zh (by rw [HF.out,decide_eq_false Hl.out,Bool.false_and,Bool.false_and]);clear HF;go_enter Tryz.func76,Tryz.ntmps76
  go_upto_region 1 with (fail)
  rw [← hW1];clear hW1;go_upto_region 8 with (fail)
  simp only [List.append_eq,List.cons_append,List.nil_append];go_wp2_with (fail)
  go_ret;exact ⟨retb (a:=false) HFz.out.symm,Hb1.out⟩
theorem fine_c3 (d:Nat) (hd:d≤40) (ih:∀ (op n:Int) (name:List UInt8) (args:List Ex) (v:Value) (w:World) (B:Nat),okE (.mk op n name args)→EsL w B args v→B≤w.heap.size→Calls Tryz.prog 76 #[.agg #[.int .u8 op,.int .i64 n,.string (bstr name),v],.int .i64 d] w (zbe (zbd d (.mk op n name args)) w))
  (n:Int) (name:List UInt8) (args:List Ex) (v:Value) (w:World) (B:Nat) (hok:okE (.mk 3 n name args)) (hL:EsL w B args v) (hB:B≤w.heap.size) :
  Calls Tryz.prog 76 #[.agg #[.int .u8 3,.int .i64 n,.string (bstr name),v],.int .i64 ((d:Int)+1)] w (zbe (zbd (d+1) (.mk 3 n name args)) w):=by
 obtain ⟨a,cap,rfl,hcc1,hcc2⟩:=hL.form;have Hih:=zh ih;have HL:=zh hL;obtain ⟨-,-,-,hoks⟩:=hok;have Hoks:=zh hoks;obtain ⟨W1,hW1,hX1,hb1⟩:∃ W1,W1=w.alloc (.cells #[.int .u8 3,.int .i64 n,.string (bstr name),.slice a args.length cap] 29)∧OwnV W1 w.heap.size 29 [.int .u8 3,.int .i64 n,.string (bstr name),.slice a args.length cap]∧Below w.heap.size w W1:=⟨_,rfl,OwnV.new _ _ _,(Below.refl _ _).alloc (zr _) _⟩;have Hb1:=zh hb1;have HX1:=zh hX1;have x0:=hX1.cell (i:=0) rfl;have x1:=hX1.cell (i:=1) rfl;have x2:=hX1.cell (i:=2) rfl;have x3:=hX1.cell (i:=3) rfl;obtain ⟨final,hfin⟩:∃ q,zbd (d+1) (.mk 3 n name args)=q:=⟨_,rfl⟩;have HF:Hid (final=((decide (args.length=1) && (decide (name=[]) && decide (1≤n∧n≤10))) && args.all (zbd d))):=zh (by rw [← hfin,zbd,zmY]);rw [hfin];have hd1:((d:Int)+1 == 0)=false:=by rw [beq_eq_false_iff_ne];omega
 clear hb1 hX1 hL hoks ih hfin;by_cases hl:args.length=1
 ·have hln:((args.length:Int) != 1)=false:=by rw [hl];rfl
  have Hl:=zh hl;clear hl;by_cases hn:name=[]
  ·have hs:(bstr name).toList=[]:=str_nil.2 hn;have Hn:=zh hn;clear hn;by_cases hz:1≤n∧n≤10
   ·obtain ⟨hz1,hz2⟩:=hz;have hz3:¬ n < 1:=by omega
    have hz4:¬ 10 < n:=by omega
    have Hh:Hid (_=true):=zh (show (decide (args.length=1) && (decide (name=[]) && decide (1≤n∧n≤10)))=true by rw [decide_eq_true Hl.out,decide_eq_true Hn.out,decide_eq_true (show 1≤n∧n≤10 from ⟨hz1,hz2⟩)];rfl);go_enter Tryz.func76,Tryz.ntmps76
    go_upto_region 1 with (fail)
    rw [← hW1];clear hW1;go_upto_region 8 with (fail)
    simp only [List.append_eq,List.cons_append,List.nil_append];go_upto_region 10 with (fail)
    go_wp2_with fail
    go_loopw [4,6,106,107,108,109,110,111,112,113,114,115,116,117,118,119] (fun _ t6 _ _ _ _ _ _ _ _ _ _ _ _ _ _ wr=>∃ (k:Nat),k≤args.length∧t6=.int .i64 k∧Hid ((args.take k).all (zbd d)=true)∧Hid (Below W1.heap.size W1 wr)) (fun _ t6 _ _ _ _ _ _ _ _ _ _ _ _ _ _ _=>args.length - (intOf t6).toNat)
    case atStart=>exact ⟨0,by omega,by first | rfl | go_num,zh (by simp),zh (Below.refl _ _)⟩
    case round =>
     obtain ⟨k,hk,rfl,HA,HB⟩:=hrel;have hx3:=(HX1.out.below HB.out (zr _)).cell (i:=3) rfl;by_cases hkl:k < args.length
     ·have hki:(k:Int) < 1:=by have:=Hl.out;omega
      have hcl:(args.length:Int)=1:=by have:=Hl.out;omega
      have hLr:EsL wr B args (.slice a args.length cap):=HL.out.low ((Hb1.out.mono hB).trans (HB.out.mono (Nat.le_trans hB Hb1.out.size)));obtain ⟨b,off,op2,n2,name2,args2,aa,ac,rfl,hbB,hbw,hat,c0,c1,c2,c3,hL2⟩:=hLr.at hkl;have HI:=zh (Hih.out op2 n2 name2 args2 _ wr B (zgR Hoks.out hat) hL2 (Nat.le_trans hB (Nat.le_trans Hb1.out.size HB.out.size)));have Hal:=zh (all_take hat HA.out)
      generalize zbd d (.mk op2 n2 name2 args2)=q at *
      have hki2:(k:Int) < (args.length:Int):=by omega
      clear hcl;clear hLr hat hL2
      cases q with
      | false =>
       have HF2:Hid (final=false):=zh (by rw [HF.out,Hal.out.2 rfl,Bool.and_false]);clear HF;go_wp2_with fail
       refine HI.out.mono ?_;rintro e2 w2 ⟨rfl,hb2⟩;have HB2:=zh (Hb1.out.trans ((HB.out.trans (hb2.mono HB.out.size)).mono Hb1.out.size));clear hb2;go_wp2_with fail
       go_ret
       exact ⟨retb (a:=false) HF2.out.symm,HB2.out⟩
      | true =>
       have HA2:=zh (Hal.out.1 rfl);clear Hal;go_wp2_with fail
       refine HI.out.mono ?_;rintro e2 w2 ⟨rfl,hb2⟩;have HB2:=zh (HB.out.trans (hb2.mono HB.out.size));clear hb2;go_wp2_with fail
       go_roundw
       case rel=>exact ⟨k+1,by omega,by go_num,HA2,HB2⟩
       case measure=>simp [intOf];omega
     ·have hki:¬ (k:Int) < 1:=by have:=Hl.out;omega
      have hke:k=args.length:=by omega
      have HF2:Hid (final=true):=zh (by have:=HA.out;rw [hke,List.take_length] at this;rw [HF.out,this,Bool.and_true];exact Hh.out);clear HF;go_wp2_with fail
      go_ret;exact ⟨retb (a:=true) HF2.out.symm,Hb1.out.trans (HB.out.mono Hb1.out.size)⟩
   ·have HFz:Hid (final=false):=zh (by rw [HF.out,decide_eq_false hz,Bool.and_false,Bool.and_false,Bool.false_and]);by_cases hz1:n < 1
    ·go_enter Tryz.func76,Tryz.ntmps76
     go_upto_region 1 with (fail)
     rw [← hW1];clear hW1;go_upto_region 8 with (fail)
     simp only [List.append_eq,List.cons_append,List.nil_append];clear HF;go_wp2_with (fail)
     go_ret;exact ⟨retb (a:=false) HFz.out.symm,Hb1.out⟩
    ·have hz2:10 < n:=by omega
     go_enter Tryz.func76,Tryz.ntmps76
     go_upto_region 1 with (fail)
     rw [← hW1];clear hW1;go_upto_region 8 with (fail)
     simp only [List.append_eq,List.cons_append,List.nil_append];clear HF;go_wp2_with (fail)
     go_ret;exact ⟨retb (a:=false) HFz.out.symm,Hb1.out⟩
  ·have hs:¬ (bstr name).toList=[]:=fun h=>hn (str_nil.1 h)
   have Hn:=zh hn;clear hn;have HFz:Hid (final=false):=zh (by rw [HF.out,decide_eq_false Hn.out,Bool.false_and,Bool.and_false,Bool.false_and]);clear HF;go_enter Tryz.func76,Tryz.ntmps76
   go_upto_region 1 with (fail)
   rw [← hW1];clear hW1;go_upto_region 8 with (fail)
   simp only [List.append_eq,List.cons_append,List.nil_append];go_wp2_with (fail)
   go_ret;exact ⟨retb (a:=false) HFz.out.symm,Hb1.out⟩
 ·have hln:((args.length:Int) != 1)=true:=by rw [bne_iff_ne];omega
  have Hl:=zh hl;clear hl;have HFz:Hid (final=false):=zh (by rw [HF.out,decide_eq_false Hl.out,Bool.false_and,Bool.false_and]);clear HF;go_enter Tryz.func76,Tryz.ntmps76
  go_upto_region 1 with (fail)
  rw [← hW1];clear hW1;go_upto_region 8 with (fail)
  simp only [List.append_eq,List.cons_append,List.nil_append];go_wp2_with (fail)
  go_ret;exact ⟨retb (a:=false) HFz.out.symm,Hb1.out⟩
theorem fine_c4 (d:Nat) (hd:d≤40) (ih:∀ (op n:Int) (name:List UInt8) (args:List Ex) (v:Value) (w:World) (B:Nat),okE (.mk op n name args)→EsL w B args v→B≤w.heap.size→Calls Tryz.prog 76 #[.agg #[.int .u8 op,.int .i64 n,.string (bstr name),v],.int .i64 d] w (zbe (zbd d (.mk op n name args)) w))
  (n:Int) (name:List UInt8) (args:List Ex) (v:Value) (w:World) (B:Nat) (hok:okE (.mk 4 n name args)) (hL:EsL w B args v) (_hB:B≤w.heap.size) :
  Calls Tryz.prog 76 #[.agg #[.int .u8 4,.int .i64 n,.string (bstr name),v],.int .i64 ((d:Int)+1)] w (zbe (zbd (d+1) (.mk 4 n name args)) w):=by
 obtain ⟨a,cap,rfl,hcc1,hcc2⟩:=hL.form;have Hih:=zh ih;have HL:=zh hL;obtain ⟨-,-,-,hoks⟩:=hok;have Hoks:=zh hoks;obtain ⟨W1,hW1,hX1,hb1⟩:∃ W1,W1=w.alloc (.cells #[.int .u8 4,.int .i64 n,.string (bstr name),.slice a args.length cap] 29)∧OwnV W1 w.heap.size 29 [.int .u8 4,.int .i64 n,.string (bstr name),.slice a args.length cap]∧Below w.heap.size w W1:=⟨_,rfl,OwnV.new _ _ _,(Below.refl _ _).alloc (zr _) _⟩;have Hb1:=zh hb1;have HX1:=zh hX1;have x0:=hX1.cell (i:=0) rfl;have x1:=hX1.cell (i:=1) rfl;have x2:=hX1.cell (i:=2) rfl;have x3:=hX1.cell (i:=3) rfl;obtain ⟨final,hfin⟩:∃ q,zbd (d+1) (.mk 4 n name args)=q:=⟨_,rfl⟩;have HF:Hid (final=((decide (args.length=0) && (decide (name=[]) && decide (n=0))) && args.all (zbd d))):=zh (by rw [← hfin,zbd,zmZ]);rw [hfin];have hd1:((d:Int)+1 == 0)=false:=by rw [beq_eq_false_iff_ne];omega
 clear hb1 hX1 hL hoks ih hfin;by_cases hl:args.length=0
 ·have hln:((args.length:Int) != 0)=false:=by rw [hl];rfl
  have Hl:=zh hl;clear hl;by_cases hn:name=[]
  ·have hs:(bstr name).toList=[]:=str_nil.2 hn;have Hn:=zh hn;clear hn;by_cases hz:n=0
   ·have hz1:(n != 0)=false:=by simp [hz]
    have Hz:=zh hz;clear hz;have Hh:Hid (_=true):=zh (show ((decide (args.length=0) && (decide (name=[]) && decide (n=0))))=true by rw [decide_eq_true Hl.out,decide_eq_true Hz.out,decide_eq_true Hn.out];rfl);go_enter Tryz.func76,Tryz.ntmps76
    go_upto_region 1 with (fail)
    rw [← hW1];clear hW1;go_upto_region 8 with (fail)
    simp only [List.append_eq,List.cons_append,List.nil_append];go_upto_region 10 with (fail)
    go_wp2_with fail
    go_loopw [4,6,106,107,108,109,110,111,112,113,114,115,116,117,118,119] (fun _ t6 _ _ _ _ _ _ _ _ _ _ _ _ _ _ wr=>∃ (k:Nat),k≤args.length∧t6=.int .i64 k∧Hid ((args.take k).all (zbd d)=true)∧Hid (Below W1.heap.size W1 wr)) (fun _ t6 _ _ _ _ _ _ _ _ _ _ _ _ _ _ _=>args.length - (intOf t6).toNat)
    case atStart=>exact ⟨0,by omega,by first | rfl | go_num,zh (by simp),zh (Below.refl _ _)⟩
    case round =>
     obtain ⟨k,hk,rfl,HA,HB⟩:=hrel;have hx3:=(HX1.out.below HB.out (zr _)).cell (i:=3) rfl;by_cases hkl:k < args.length
     ·have:=Hl.out;omega
     ·have hki:¬ (k:Int) < 0:=by have:=Hl.out;omega
      have hke:k=args.length:=by omega
      have HF2:Hid (final=true):=zh (by have:=HA.out;rw [hke,List.take_length] at this;rw [HF.out,this,Bool.and_true];exact Hh.out);clear HF;go_wp2_with fail
      go_ret;exact ⟨retb (a:=true) HF2.out.symm,Hb1.out.trans (HB.out.mono Hb1.out.size)⟩
   ·have hz1:(n != 0)=true:=by simp [hz]
    have Hz:=zh hz;clear hz;have HFz:Hid (final=false):=zh (by rw [HF.out,decide_eq_false Hz.out,Bool.and_false,Bool.and_false,Bool.false_and]);clear HF;go_enter Tryz.func76,Tryz.ntmps76
    go_upto_region 1 with (fail)
    rw [← hW1];clear hW1;go_upto_region 8 with (fail)
    simp only [List.append_eq,List.cons_append,List.nil_append];go_wp2_with (fail)
    go_ret;exact ⟨retb (a:=false) HFz.out.symm,Hb1.out⟩
  ·have hs:¬ (bstr name).toList=[]:=fun h=>hn (str_nil.1 h)
   have Hn:=zh hn;clear hn;have HFz:Hid (final=false):=zh (by rw [HF.out,decide_eq_false Hn.out,Bool.false_and,Bool.and_false,Bool.false_and]);clear HF;go_enter Tryz.func76,Tryz.ntmps76
   go_upto_region 1 with (fail)
   rw [← hW1];clear hW1;go_upto_region 8 with (fail)
   simp only [List.append_eq,List.cons_append,List.nil_append];go_wp2_with (fail)
   go_ret;exact ⟨retb (a:=false) HFz.out.symm,Hb1.out⟩
 ·have hln:((args.length:Int) != 0)=true:=by rw [bne_iff_ne];omega
  have Hl:=zh hl;clear hl;have HFz:Hid (final=false):=zh (by rw [HF.out,decide_eq_false Hl.out,Bool.false_and,Bool.false_and]);clear HF;go_enter Tryz.func76,Tryz.ntmps76
  go_upto_region 1 with (fail)
  rw [← hW1];clear hW1;go_upto_region 8 with (fail)
  simp only [List.append_eq,List.cons_append,List.nil_append];go_wp2_with (fail)
  go_ret;exact ⟨retb (a:=false) HFz.out.symm,Hb1.out⟩
theorem fine_c5 (d:Nat) (hd:d≤40) (ih:∀ (op n:Int) (name:List UInt8) (args:List Ex) (v:Value) (w:World) (B:Nat),okE (.mk op n name args)→EsL w B args v→B≤w.heap.size→Calls Tryz.prog 76 #[.agg #[.int .u8 op,.int .i64 n,.string (bstr name),v],.int .i64 d] w (zbe (zbd d (.mk op n name args)) w))
  (n:Int) (name:List UInt8) (args:List Ex) (v:Value) (w:World) (B:Nat) (hok:okE (.mk 5 n name args)) (hL:EsL w B args v) (_hB:B≤w.heap.size) :
  Calls Tryz.prog 76 #[.agg #[.int .u8 5,.int .i64 n,.string (bstr name),v],.int .i64 ((d:Int)+1)] w (zbe (zbd (d+1) (.mk 5 n name args)) w):=by
 obtain ⟨a,cap,rfl,hcc1,hcc2⟩:=hL.form;have Hih:=zh ih;have HL:=zh hL;obtain ⟨-,-,-,hoks⟩:=hok;have Hoks:=zh hoks;obtain ⟨W1,hW1,hX1,hb1⟩:∃ W1,W1=w.alloc (.cells #[.int .u8 5,.int .i64 n,.string (bstr name),.slice a args.length cap] 29)∧OwnV W1 w.heap.size 29 [.int .u8 5,.int .i64 n,.string (bstr name),.slice a args.length cap]∧Below w.heap.size w W1:=⟨_,rfl,OwnV.new _ _ _,(Below.refl _ _).alloc (zr _) _⟩;have Hb1:=zh hb1;have HX1:=zh hX1;have x0:=hX1.cell (i:=0) rfl;have x1:=hX1.cell (i:=1) rfl;have x2:=hX1.cell (i:=2) rfl;have x3:=hX1.cell (i:=3) rfl;obtain ⟨final,hfin⟩:∃ q,zbd (d+1) (.mk 5 n name args)=q:=⟨_,rfl⟩;have HF:Hid (final=((decide (args.length=0) && (decide (name=[]) && decide (n=0))) && args.all (zbd d))):=zh (by rw [← hfin,zbd,zm0]);rw [hfin];have hd1:((d:Int)+1 == 0)=false:=by rw [beq_eq_false_iff_ne];omega
 clear hb1 hX1 hL hoks ih hfin;by_cases hl:args.length=0
 ·have hln:((args.length:Int) != 0)=false:=by rw [hl];rfl
  have Hl:=zh hl;clear hl;by_cases hn:name=[]
  ·have hs:(bstr name).toList=[]:=str_nil.2 hn;have Hn:=zh hn;clear hn;by_cases hz:n=0
   ·have hz1:(n != 0)=false:=by simp [hz]
    have Hz:=zh hz;clear hz;have Hh:Hid (_=true):=zh (show ((decide (args.length=0) && (decide (name=[]) && decide (n=0))))=true by rw [decide_eq_true Hl.out,decide_eq_true Hz.out,decide_eq_true Hn.out];rfl);go_enter Tryz.func76,Tryz.ntmps76
    go_upto_region 1 with (fail)
    rw [← hW1];clear hW1;go_upto_region 8 with (fail)
    simp only [List.append_eq,List.cons_append,List.nil_append];go_upto_region 10 with (fail)
    go_wp2_with fail
    go_loopw [4,6,106,107,108,109,110,111,112,113,114,115,116,117,118,119] (fun _ t6 _ _ _ _ _ _ _ _ _ _ _ _ _ _ wr=>∃ (k:Nat),k≤args.length∧t6=.int .i64 k∧Hid ((args.take k).all (zbd d)=true)∧Hid (Below W1.heap.size W1 wr)) (fun _ t6 _ _ _ _ _ _ _ _ _ _ _ _ _ _ _=>args.length - (intOf t6).toNat)
    case atStart=>exact ⟨0,by omega,by first | rfl | go_num,zh (by simp),zh (Below.refl _ _)⟩
    case round =>
     obtain ⟨k,hk,rfl,HA,HB⟩:=hrel;have hx3:=(HX1.out.below HB.out (zr _)).cell (i:=3) rfl;by_cases hkl:k < args.length
     ·have:=Hl.out;omega
     ·have hki:¬ (k:Int) < 0:=by have:=Hl.out;omega
      have hke:k=args.length:=by omega
      have HF2:Hid (final=true):=zh (by have:=HA.out;rw [hke,List.take_length] at this;rw [HF.out,this,Bool.and_true];exact Hh.out);clear HF;go_wp2_with fail
      go_ret;exact ⟨retb (a:=true) HF2.out.symm,Hb1.out.trans (HB.out.mono Hb1.out.size)⟩
   ·have hz1:(n != 0)=true:=by simp [hz]
    have Hz:=zh hz;clear hz;have HFz:Hid (final=false):=zh (by rw [HF.out,decide_eq_false Hz.out,Bool.and_false,Bool.and_false,Bool.false_and]);clear HF;go_enter Tryz.func76,Tryz.ntmps76
    go_upto_region 1 with (fail)
    rw [← hW1];clear hW1;go_upto_region 8 with (fail)
    simp only [List.append_eq,List.cons_append,List.nil_append];go_wp2_with (fail)
    go_ret;exact ⟨retb (a:=false) HFz.out.symm,Hb1.out⟩
  ·have hs:¬ (bstr name).toList=[]:=fun h=>hn (str_nil.1 h)
   have Hn:=zh hn;clear hn;have HFz:Hid (final=false):=zh (by rw [HF.out,decide_eq_false Hn.out,Bool.false_and,Bool.and_false,Bool.false_and]);clear HF;go_enter Tryz.func76,Tryz.ntmps76
   go_upto_region 1 with (fail)
   rw [← hW1];clear hW1;go_upto_region 8 with (fail)
   simp only [List.append_eq,List.cons_append,List.nil_append];go_wp2_with (fail)
   go_ret;exact ⟨retb (a:=false) HFz.out.symm,Hb1.out⟩
 ·have hln:((args.length:Int) != 0)=true:=by rw [bne_iff_ne];omega
  have Hl:=zh hl;clear hl;have HFz:Hid (final=false):=zh (by rw [HF.out,decide_eq_false Hl.out,Bool.false_and,Bool.false_and]);clear HF;go_enter Tryz.func76,Tryz.ntmps76
  go_upto_region 1 with (fail)
  rw [← hW1];clear hW1;go_upto_region 8 with (fail)
  simp only [List.append_eq,List.cons_append,List.nil_append];go_wp2_with (fail)
  go_ret;exact ⟨retb (a:=false) HFz.out.symm,Hb1.out⟩
theorem fine_cE (d:Nat) (hd:d≤40) (ih:∀ (op n:Int) (name:List UInt8) (args:List Ex) (v:Value) (w:World) (B:Nat),okE (.mk op n name args)→EsL w B args v→B≤w.heap.size→Calls Tryz.prog 76 #[.agg #[.int .u8 op,.int .i64 n,.string (bstr name),v],.int .i64 d] w (zbe (zbd d (.mk op n name args)) w))
  (op:Int) (n:Int) (name:List UInt8) (args:List Ex) (v:Value) (w:World) (B:Nat) (hok:okE (.mk op n name args)) (hL:EsL w B args v) (hB:B≤w.heap.size) (hc1:6≤op) (hc2:op≤9) :
  Calls Tryz.prog 76 #[.agg #[.int .u8 op,.int .i64 n,.string (bstr name),v],.int .i64 ((d:Int)+1)] w (zbe (zbd (d+1) (.mk op n name args)) w):=by
 obtain ⟨a,cap,rfl,hcc1,hcc2⟩:=hL.form;have Hih:=zh ih;have HL:=zh hL;obtain ⟨-,-,-,hoks⟩:=hok;have Hoks:=zh hoks;obtain ⟨W1,hW1,hX1,hb1⟩:∃ W1,W1=w.alloc (.cells #[.int .u8 op,.int .i64 n,.string (bstr name),.slice a args.length cap] 29)∧OwnV W1 w.heap.size 29 [.int .u8 op,.int .i64 n,.string (bstr name),.slice a args.length cap]∧Below w.heap.size w W1:=⟨_,rfl,OwnV.new _ _ _,(Below.refl _ _).alloc (zr _) _⟩;have Hb1:=zh hb1;have HX1:=zh hX1;have x0:=hX1.cell (i:=0) rfl;have x1:=hX1.cell (i:=1) rfl;have x2:=hX1.cell (i:=2) rfl;have x3:=hX1.cell (i:=3) rfl;obtain ⟨final,hfin⟩:∃ q,zbd (d+1) (.mk op n name args)=q:=⟨_,rfl⟩;have HF:Hid (final=((decide (args.length=1) && (decide (name=[]) && decide (n=0))) && args.all (zbd d))):=zh (by rw [← hfin,zbd,zm1 _ _ _ _ hc1 hc2]);rw [hfin];have hd1:((d:Int)+1 == 0)=false:=by rw [beq_eq_false_iff_ne];omega
 have e1:(op == 1)=false:=by rw [beq_eq_false_iff_ne];omega
 have e2:(op == 2)=false:=by rw [beq_eq_false_iff_ne];omega
 have e3:(op == 3)=false:=by rw [beq_eq_false_iff_ne];omega
 have e4:(op == 4)=false:=by rw [beq_eq_false_iff_ne];omega
 have e5:(op == 5)=false:=by rw [beq_eq_false_iff_ne];omega
 have n1:(op != 1)=true:=by rw [bne_iff_ne];omega
 have n2:(op != 2)=true:=by rw [bne_iff_ne];omega
 have n3:(op != 3)=true:=by rw [bne_iff_ne];omega
 have l1:¬ op < 1:=by omega
 have l2:¬ 24 < op:=by omega
 have l3:op < 10:=by omega
 clear hb1 hX1 hL hoks ih hfin hc1 hc2;by_cases hl:args.length=1
 ·have hln:((args.length:Int) != 1)=false:=by rw [hl];rfl
  have Hl:=zh hl;clear hl;by_cases hn:name=[]
  ·have hs:(bstr name).toList=[]:=str_nil.2 hn;have Hn:=zh hn;clear hn;by_cases hz:n=0
   ·have hz1:(n != 0)=false:=by simp [hz]
    have Hz:=zh hz;clear hz;have Hh:Hid (_=true):=zh (show ((decide (args.length=1) && (decide (name=[]) && decide (n=0))))=true by rw [decide_eq_true Hl.out,decide_eq_true Hz.out,decide_eq_true Hn.out];rfl);go_enter Tryz.func76,Tryz.ntmps76
    go_upto_region 1 with (fail)
    rw [← hW1];clear hW1;go_upto_region 8 with (fail)
    simp only [List.append_eq,List.cons_append,List.nil_append];go_upto_region 10 with (fail)
    go_wp2_with fail
    go_loopw [4,6,106,107,108,109,110,111,112,113,114,115,116,117,118,119] (fun _ t6 _ _ _ _ _ _ _ _ _ _ _ _ _ _ wr=>∃ (k:Nat),k≤args.length∧t6=.int .i64 k∧Hid ((args.take k).all (zbd d)=true)∧Hid (Below W1.heap.size W1 wr)) (fun _ t6 _ _ _ _ _ _ _ _ _ _ _ _ _ _ _=>args.length - (intOf t6).toNat)
    case atStart=>exact ⟨0,by omega,by first | rfl | go_num,zh (by simp),zh (Below.refl _ _)⟩
    case round =>
     obtain ⟨k,hk,rfl,HA,HB⟩:=hrel;have hx3:=(HX1.out.below HB.out (zr _)).cell (i:=3) rfl;by_cases hkl:k < args.length
     ·have hki:(k:Int) < 1:=by have:=Hl.out;omega
      have hcl:(args.length:Int)=1:=by have:=Hl.out;omega
      have hLr:EsL wr B args (.slice a args.length cap):=HL.out.low ((Hb1.out.mono hB).trans (HB.out.mono (Nat.le_trans hB Hb1.out.size)));obtain ⟨b,off,op2,n2,name2,args2,aa,ac,rfl,hbB,hbw,hat,c0,c1,c2,c3,hL2⟩:=hLr.at hkl;have HI:=zh (Hih.out op2 n2 name2 args2 _ wr B (zgR Hoks.out hat) hL2 (Nat.le_trans hB (Nat.le_trans Hb1.out.size HB.out.size)));have Hal:=zh (all_take hat HA.out)
      generalize zbd d (.mk op2 n2 name2 args2)=q at *
      have hki2:(k:Int) < (args.length:Int):=by omega
      clear hcl;clear hLr hat hL2
      cases q with
      | false =>
       have HF2:Hid (final=false):=zh (by rw [HF.out,Hal.out.2 rfl,Bool.and_false]);clear HF;go_wp2_with fail
       refine HI.out.mono ?_;rintro e2 w2 ⟨rfl,hb2⟩;have HB2:=zh (Hb1.out.trans ((HB.out.trans (hb2.mono HB.out.size)).mono Hb1.out.size));clear hb2;go_wp2_with fail
       go_ret
       exact ⟨retb (a:=false) HF2.out.symm,HB2.out⟩
      | true =>
       have HA2:=zh (Hal.out.1 rfl);clear Hal;go_wp2_with fail
       refine HI.out.mono ?_;rintro e2 w2 ⟨rfl,hb2⟩;have HB2:=zh (HB.out.trans (hb2.mono HB.out.size));clear hb2;go_wp2_with fail
       go_roundw
       case rel=>exact ⟨k+1,by omega,by go_num,HA2,HB2⟩
       case measure=>simp [intOf];omega
     ·have hki:¬ (k:Int) < 1:=by have:=Hl.out;omega
      have hke:k=args.length:=by omega
      have HF2:Hid (final=true):=zh (by have:=HA.out;rw [hke,List.take_length] at this;rw [HF.out,this,Bool.and_true];exact Hh.out);clear HF;go_wp2_with fail
      go_ret;exact ⟨retb (a:=true) HF2.out.symm,Hb1.out.trans (HB.out.mono Hb1.out.size)⟩
   ·have hz1:(n != 0)=true:=by simp [hz]
    have Hz:=zh hz;clear hz;have HFz:Hid (final=false):=zh (by rw [HF.out,decide_eq_false Hz.out,Bool.and_false,Bool.and_false,Bool.false_and]);clear HF;go_enter Tryz.func76,Tryz.ntmps76
    go_upto_region 1 with (fail)
    rw [← hW1];clear hW1;go_upto_region 8 with (fail)
    simp only [List.append_eq,List.cons_append,List.nil_append];go_wp2_with (fail)
    go_ret;exact ⟨retb (a:=false) HFz.out.symm,Hb1.out⟩
  ·have hs:¬ (bstr name).toList=[]:=fun h=>hn (str_nil.1 h)
   have Hn:=zh hn;clear hn;have HFz:Hid (final=false):=zh (by rw [HF.out,decide_eq_false Hn.out,Bool.false_and,Bool.and_false,Bool.false_and]);clear HF;go_enter Tryz.func76,Tryz.ntmps76
   go_upto_region 1 with (fail)
   rw [← hW1];clear hW1;go_upto_region 8 with (fail)
   simp only [List.append_eq,List.cons_append,List.nil_append];go_wp2_with (fail)
   go_ret;exact ⟨retb (a:=false) HFz.out.symm,Hb1.out⟩
 ·have hln:((args.length:Int) != 1)=true:=by rw [bne_iff_ne];omega
  have Hl:=zh hl;clear hl;have HFz:Hid (final=false):=zh (by rw [HF.out,decide_eq_false Hl.out,Bool.false_and,Bool.false_and]);clear HF;go_enter Tryz.func76,Tryz.ntmps76
  go_upto_region 1 with (fail)
  rw [← hW1];clear hW1;go_upto_region 8 with (fail)
  simp only [List.append_eq,List.cons_append,List.nil_append];go_wp2_with (fail)
  go_ret;exact ⟨retb (a:=false) HFz.out.symm,Hb1.out⟩
theorem fine_cF (d:Nat) (hd:d≤40) (ih:∀ (op n:Int) (name:List UInt8) (args:List Ex) (v:Value) (w:World) (B:Nat),okE (.mk op n name args)→EsL w B args v→B≤w.heap.size→Calls Tryz.prog 76 #[.agg #[.int .u8 op,.int .i64 n,.string (bstr name),v],.int .i64 d] w (zbe (zbd d (.mk op n name args)) w))
  (op:Int) (n:Int) (name:List UInt8) (args:List Ex) (v:Value) (w:World) (B:Nat) (hok:okE (.mk op n name args)) (hL:EsL w B args v) (hB:B≤w.heap.size) (hc1:10≤op) (hc2:op≤24) :
  Calls Tryz.prog 76 #[.agg #[.int .u8 op,.int .i64 n,.string (bstr name),v],.int .i64 ((d:Int)+1)] w (zbe (zbd (d+1) (.mk op n name args)) w):=by
 obtain ⟨a,cap,rfl,hcc1,hcc2⟩:=hL.form;have Hih:=zh ih;have HL:=zh hL;obtain ⟨-,-,-,hoks⟩:=hok;have Hoks:=zh hoks;obtain ⟨W1,hW1,hX1,hb1⟩:∃ W1,W1=w.alloc (.cells #[.int .u8 op,.int .i64 n,.string (bstr name),.slice a args.length cap] 29)∧OwnV W1 w.heap.size 29 [.int .u8 op,.int .i64 n,.string (bstr name),.slice a args.length cap]∧Below w.heap.size w W1:=⟨_,rfl,OwnV.new _ _ _,(Below.refl _ _).alloc (zr _) _⟩;have Hb1:=zh hb1;have HX1:=zh hX1;have x0:=hX1.cell (i:=0) rfl;have x1:=hX1.cell (i:=1) rfl;have x2:=hX1.cell (i:=2) rfl;have x3:=hX1.cell (i:=3) rfl;obtain ⟨final,hfin⟩:∃ q,zbd (d+1) (.mk op n name args)=q:=⟨_,rfl⟩;have HF:Hid (final=((decide (args.length=2) && (decide (name=[]) && decide (n=0))) && args.all (zbd d))):=zh (by rw [← hfin,zbd,zjA _ _ _ _ hc1 hc2]);rw [hfin];have hd1:((d:Int)+1 == 0)=false:=by rw [beq_eq_false_iff_ne];omega
 have e1:(op == 1)=false:=by rw [beq_eq_false_iff_ne];omega
 have e2:(op == 2)=false:=by rw [beq_eq_false_iff_ne];omega
 have e3:(op == 3)=false:=by rw [beq_eq_false_iff_ne];omega
 have e4:(op == 4)=false:=by rw [beq_eq_false_iff_ne];omega
 have e5:(op == 5)=false:=by rw [beq_eq_false_iff_ne];omega
 have n1:(op != 1)=true:=by rw [bne_iff_ne];omega
 have n2:(op != 2)=true:=by rw [bne_iff_ne];omega
 have n3:(op != 3)=true:=by rw [bne_iff_ne];omega
 have l1:¬ op < 1:=by omega
 have l2:¬ 24 < op:=by omega
 have l3:¬ op < 10:=by omega
 clear hb1 hX1 hL hoks ih hfin hc1 hc2;by_cases hl:args.length=2
 ·have hln:((args.length:Int) != 2)=false:=by rw [hl];rfl
  have Hl:=zh hl;clear hl;by_cases hn:name=[]
  ·have hs:(bstr name).toList=[]:=str_nil.2 hn;have Hn:=zh hn;clear hn;by_cases hz:n=0
   ·have hz1:(n != 0)=false:=by simp [hz]
    have Hz:=zh hz;clear hz;have Hh:Hid (_=true):=zh (show ((decide (args.length=2) && (decide (name=[]) && decide (n=0))))=true by rw [decide_eq_true Hl.out,decide_eq_true Hz.out,decide_eq_true Hn.out];rfl);go_enter Tryz.func76,Tryz.ntmps76
    go_upto_region 1 with (fail)
    rw [← hW1];clear hW1;go_upto_region 8 with (fail)
    simp only [List.append_eq,List.cons_append,List.nil_append];go_upto_region 10 with (fail)
    go_wp2_with fail
    go_loopw [4,6,106,107,108,109,110,111,112,113,114,115,116,117,118,119] (fun _ t6 _ _ _ _ _ _ _ _ _ _ _ _ _ _ wr=>∃ (k:Nat),k≤args.length∧t6=.int .i64 k∧Hid ((args.take k).all (zbd d)=true)∧Hid (Below W1.heap.size W1 wr)) (fun _ t6 _ _ _ _ _ _ _ _ _ _ _ _ _ _ _=>args.length - (intOf t6).toNat)
    case atStart=>exact ⟨0,by omega,by first | rfl | go_num,zh (by simp),zh (Below.refl _ _)⟩
    case round =>
     obtain ⟨k,hk,rfl,HA,HB⟩:=hrel;have hx3:=(HX1.out.below HB.out (zr _)).cell (i:=3) rfl;by_cases hkl:k < args.length
     ·have hki:(k:Int) < 2:=by have:=Hl.out;omega
      have hcl:(args.length:Int)=2:=by have:=Hl.out;omega
      have hLr:EsL wr B args (.slice a args.length cap):=HL.out.low ((Hb1.out.mono hB).trans (HB.out.mono (Nat.le_trans hB Hb1.out.size)));obtain ⟨b,off,op2,n2,name2,args2,aa,ac,rfl,hbB,hbw,hat,c0,c1,c2,c3,hL2⟩:=hLr.at hkl;have HI:=zh (Hih.out op2 n2 name2 args2 _ wr B (zgR Hoks.out hat) hL2 (Nat.le_trans hB (Nat.le_trans Hb1.out.size HB.out.size)));have Hal:=zh (all_take hat HA.out)
      generalize zbd d (.mk op2 n2 name2 args2)=q at *
      have hki2:(k:Int) < (args.length:Int):=by omega
      clear hcl;clear hLr hat hL2
      cases q with
      | false =>
       have HF2:Hid (final=false):=zh (by rw [HF.out,Hal.out.2 rfl,Bool.and_false]);clear HF;go_wp2_with fail
       refine HI.out.mono ?_;rintro e2 w2 ⟨rfl,hb2⟩;have HB2:=zh (Hb1.out.trans ((HB.out.trans (hb2.mono HB.out.size)).mono Hb1.out.size));clear hb2;go_wp2_with fail
       go_ret
       exact ⟨retb (a:=false) HF2.out.symm,HB2.out⟩
      | true =>
       have HA2:=zh (Hal.out.1 rfl);clear Hal;go_wp2_with fail
       refine HI.out.mono ?_;rintro e2 w2 ⟨rfl,hb2⟩;have HB2:=zh (HB.out.trans (hb2.mono HB.out.size));clear hb2;go_wp2_with fail
       go_roundw
       case rel=>exact ⟨k+1,by omega,by go_num,HA2,HB2⟩
       case measure=>simp [intOf];omega
     ·have hki:¬ (k:Int) < 2:=by have:=Hl.out;omega
      have hke:k=args.length:=by omega
      have HF2:Hid (final=true):=zh (by have:=HA.out;rw [hke,List.take_length] at this;rw [HF.out,this,Bool.and_true];exact Hh.out);clear HF;go_wp2_with fail
      go_ret;exact ⟨retb (a:=true) HF2.out.symm,Hb1.out.trans (HB.out.mono Hb1.out.size)⟩
   ·have hz1:(n != 0)=true:=by simp [hz]
    have Hz:=zh hz;clear hz;have HFz:Hid (final=false):=zh (by rw [HF.out,decide_eq_false Hz.out,Bool.and_false,Bool.and_false,Bool.false_and]);clear HF;go_enter Tryz.func76,Tryz.ntmps76
    go_upto_region 1 with (fail)
    rw [← hW1];clear hW1;go_upto_region 8 with (fail)
    simp only [List.append_eq,List.cons_append,List.nil_append];go_wp2_with (fail)
    go_ret;exact ⟨retb (a:=false) HFz.out.symm,Hb1.out⟩
  ·have hs:¬ (bstr name).toList=[]:=fun h=>hn (str_nil.1 h)
   have Hn:=zh hn;clear hn;have HFz:Hid (final=false):=zh (by rw [HF.out,decide_eq_false Hn.out,Bool.false_and,Bool.and_false,Bool.false_and]);clear HF;go_enter Tryz.func76,Tryz.ntmps76
   go_upto_region 1 with (fail)
   rw [← hW1];clear hW1;go_upto_region 8 with (fail)
   simp only [List.append_eq,List.cons_append,List.nil_append];go_wp2_with (fail)
   go_ret;exact ⟨retb (a:=false) HFz.out.symm,Hb1.out⟩
 ·have hln:((args.length:Int) != 2)=true:=by rw [bne_iff_ne];omega
  have Hl:=zh hl;clear hl;have HFz:Hid (final=false):=zh (by rw [HF.out,decide_eq_false Hl.out,Bool.false_and,Bool.false_and]);clear HF;go_enter Tryz.func76,Tryz.ntmps76
  go_upto_region 1 with (fail)
  rw [← hW1];clear hW1;go_upto_region 8 with (fail)
  simp only [List.append_eq,List.cons_append,List.nil_append];go_wp2_with (fail)
  go_ret;exact ⟨retb (a:=false) HFz.out.symm,Hb1.out⟩
theorem fine_cG (d:Nat) (hd:d≤40) (ih:∀ (op n:Int) (name:List UInt8) (args:List Ex) (v:Value) (w:World) (B:Nat),okE (.mk op n name args)→EsL w B args v→B≤w.heap.size→Calls Tryz.prog 76 #[.agg #[.int .u8 op,.int .i64 n,.string (bstr name),v],.int .i64 d] w (zbe (zbd d (.mk op n name args)) w))
  (op:Int) (n:Int) (name:List UInt8) (args:List Ex) (v:Value) (w:World) (B:Nat) (hok:okE (.mk op n name args)) (hL:EsL w B args v) (_hB:B≤w.heap.size) (hc:¬ (1≤op∧op≤24)) :
  Calls Tryz.prog 76 #[.agg #[.int .u8 op,.int .i64 n,.string (bstr name),v],.int .i64 ((d:Int)+1)] w (zbe (zbd (d+1) (.mk op n name args)) w):=by
 obtain ⟨a,cap,rfl,hcc1,hcc2⟩:=hL.form;have Hih:=zh ih;have HL:=zh hL;obtain ⟨-,-,-,hoks⟩:=hok;have Hoks:=zh hoks;obtain ⟨W1,hW1,hX1,hb1⟩:∃ W1,W1=w.alloc (.cells #[.int .u8 op,.int .i64 n,.string (bstr name),.slice a args.length cap] 29)∧OwnV W1 w.heap.size 29 [.int .u8 op,.int .i64 n,.string (bstr name),.slice a args.length cap]∧Below w.heap.size w W1:=⟨_,rfl,OwnV.new _ _ _,(Below.refl _ _).alloc (zr _) _⟩;have Hb1:=zh hb1;have HX1:=zh hX1;have x0:=hX1.cell (i:=0) rfl;have x1:=hX1.cell (i:=1) rfl;have x2:=hX1.cell (i:=2) rfl;have x3:=hX1.cell (i:=3) rfl;obtain ⟨final,hfin⟩:∃ q,zbd (d+1) (.mk op n name args)=q:=⟨_,rfl⟩;have HF:Hid (final=(false && args.all (zbd d))):=zh (by rw [← hfin,zbd,headE_G _ _ _ _ hc]);rw [hfin];have hd1:((d:Int)+1 == 0)=false:=by rw [beq_eq_false_iff_ne];omega
 clear hb1 hX1 hL hoks ih hfin;have HF2:Hid (final=false):=zh (by rw [HF.out];rfl);by_cases h1:op < 1
 ·go_enter Tryz.func76,Tryz.ntmps76
  go_upto_region 1 with (fail)
  rw [← hW1];clear hW1;clear HF;go_wp2_with fail
  go_ret;exact ⟨retb (a:=false) HF2.out.symm,Hb1.out⟩
 ·have h2:24 < op:=by omega
  go_enter Tryz.func76,Tryz.ntmps76
  go_upto_region 1 with (fail)
  rw [← hW1];clear hW1;clear HF;go_wp2_with fail
  go_ret;exact ⟨retb (a:=false) HF2.out.symm,Hb1.out⟩
theorem fine_zero (op n:Int) (name:List UInt8) (args:List Ex) (v:Value) (w:World) (B:Nat) (hL:EsL w B args v) :
  Calls Tryz.prog 76 #[.agg #[.int .u8 op,.int .i64 n,.string (bstr name),v],.int .i64 0] w (zbe (zbd 0 (.mk op n name args)) w):=by
 obtain ⟨a,cap,rfl,hcc1,hcc2⟩:=hL.form;clear hL;go_enter Tryz.func76,Tryz.ntmps76
 go_wp2_with fail
 go_ret;exact ⟨rfl,(Below.refl _ _).alloc (zr _) _⟩
theorem fine_any:∀ (d:Nat),d≤41→∀ (op n:Int) (name:List UInt8) (args:List Ex) (v:Value) (w:World) (B:Nat),okE (.mk op n name args)→EsL w B args v→B≤w.heap.size →
  Calls Tryz.prog 76 #[.agg #[.int .u8 op,.int .i64 n,.string (bstr name),v],.int .i64 d] w (zbe (zbd d (.mk op n name args)) w):=by
 intro d
 induction d with
 | zero=>intro _ op n name args v w B _ hL _;exact fine_zero op n name args v w B hL
 | succ d ih =>
  intro hd op n name args v w B hok hL hB;have ih:=ih (by omega);rw [show ((d+1:Nat):Int)=(d:Int)+1 from Int.natCast_succ d];by_cases hg:1≤op∧op≤24
  ·by_cases h6:6≤op
   ·by_cases h9:op≤9
    ·exact fine_cE d (by omega) ih op n name args v w B hok hL hB h6 h9
    ·exact fine_cF d (by omega) ih op n name args v w B hok hL hB (by omega) hg.2
   ·have h5:op=1∨op=2∨op=3∨op=4∨op=5:=by omega
    rcases h5 with rfl | rfl | rfl | rfl | rfl
    ·exact fine_c1 d (by omega) ih n name args v w B hok hL hB
    ·exact fine_c2 d (by omega) ih n name args v w B hok hL hB
    ·exact fine_c3 d (by omega) ih n name args v w B hok hL hB
    ·exact fine_c4 d (by omega) ih n name args v w B hok hL hB
    ·exact fine_c5 d (by omega) ih n name args v w B hok hL hB
  ·exact fine_cG d (by omega) ih op n name args v w B hok hL hB hg
end Go.Proofs.YtoaojdobjinhfaaGreatDoor
