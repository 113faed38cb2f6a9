/- marcheslaw12.ParseWrong, walked by its ways. -/
import Derived.Test.YtoaojdobjinhfaaGreatDoorAwMC
import Derived.Test.YtoaojdobjinhfaaGreatDoorFirstLW
set_option linter.unusedSimpArgs false
set_option linter.unusedVariables false
set_option maxRecDepth 100000
set_option maxHeartbeats 2000000
namespace Go.Proofs.YtoaojdobjinhfaaGreatDoor
open Go.RowKit

def PBad (a b c : Int) (w : World) (e : Ending) (w' : World) : Prop := e = .returned (.tuple #[.slice none 0 0, .int .i64 a, .int .i64 b, .int .i64 c]) ∧ Below w.heap.size w w'
section
variable {s rest : ByteArray} {w : World} (HA : Hid (Calls Tryz.prog 15 #[] w (YesE w)))
include HA
theorem ww_long (h:1500 < s.size∨¬ 1500 < s.size∧1500 < rest.size):Calls Tryz.prog 12 #[.string s,.string rest] w (YesE w):=by
 rcases h with h | ⟨h,h2⟩
 ·have h1:(s.size:Int) > 1500:=by omega
  go_enter Tryz.func12,Tryz.ntmps12
  go_wp2_with fail
  go_at_call 15;refine HA.out.mono ?_;rintro e1 w1 ⟨rfl,hb1⟩;have Hb1:=zh hb1;clear hb1;go_wp2_with fail
  exact bodyPost_ret (v:=.bool true) (by simp [results,Tryz.results12,go_sem]) rfl ⟨rfl,Hb1.out⟩
 ·have h1:¬ (s.size:Int) > 1500:=by omega
  have h3:(rest.size:Int) > 1500:=by omega
  go_enter Tryz.func12,Tryz.ntmps12
  go_wp2_with fail
  go_at_call 15;refine HA.out.mono ?_;rintro e1 w1 ⟨rfl,hb1⟩;have Hb1:=zh hb1;clear hb1;go_wp2_with fail
  exact bodyPost_ret (v:=.bool true) (by simp [results,Tryz.results12,go_sem]) rfl ⟨rfl,Hb1.out⟩
theorem ww_lex (h1:¬ (s.size:Int) > 1500) (h2:¬ (rest.size:Int) > 1500) {a b c:Int} (ha:1≤a) (hc:c≠0)
  (HP:Hid (∀ W,Below w.heap.size w W→Calls Tryz.prog 31 #[.string s] W (PBad a b c W)))
  (HL:Hid (∀ W,Below w.heap.size w W→Calls Tryz.prog 36 #[.string s] W (PBad a b c W))):Calls Tryz.prog 12 #[.string s,.string rest] w (YesE w):=by
 unfold PBad at HP HL;have hc0:(c == 0)=false:=by rw [beq_eq_false_iff_ne];exact hc
 have hc1:(c != 0)=true:=by simpa using hc
 have ha0:(a == 0)=false:=by rw [beq_eq_false_iff_ne];omega
 clear hc ha;go_enter Tryz.func12,Tryz.ntmps12
 go_wp2_with fail
 go_at_call 15;refine HA.out.mono ?_;rintro e1 w1 ⟨rfl,hb1⟩;have Hb1:=zh hb1;clear hb1;go_wp2_with fail
 go_at_call 31;refine (HP.out _ Hb1.out).mono ?_;rintro e2 w2 ⟨rfl,hb2⟩;have Hb2:=zh (Hb1.out.trans (hb2.mono Hb1.out.size));clear hb2 HP;go_wp2_with fail
 go_at_call 36;refine (HL.out _ Hb2.out).mono ?_;rintro e3 w3 ⟨rfl,hb3⟩;have Hb3:=zh (Hb2.out.trans (hb3.mono Hb2.out.size));clear hb3 HL;go_wp2_with fail
 exact bodyPost_ret (v:=.bool true) (by simp [results,Tryz.results12,go_sem]) rfl ⟨rfl,Hb3.out⟩
theorem ww_ok (h1:¬ (s.size:Int) > 1500) (h2:¬ (rest.size:Int) > 1500) {ts:List Tok}
  (HP:Hid (∀ W,Below w.heap.size w W→Calls Tryz.prog 31 #[.string s] W fun e w'=>(∃ p m cp,e=.returned (.tuple #[.slice p m cp,.int .i64 0,.int .i64 0,.int .i64 0]))∧Below W.heap.size W w'))
  (HL:Hid (∀ W,Below w.heap.size w W→Calls Tryz.prog 36 #[.string s] W fun e w'=>LexE w' e (.ok ts)∧Below W.heap.size W w')):Calls Tryz.prog 12 #[.string s,.string rest] w (YesE w):=by
 unfold LexE at HL;simp only [] at HL;go_enter Tryz.func12,Tryz.ntmps12
 go_wp2_with fail
 go_at_call 15;refine HA.out.mono ?_;rintro e1 w1 ⟨rfl,hb1⟩;have Hb1:=zh hb1;clear hb1;go_wp2_with fail
 go_at_call 31;refine (HP.out _ Hb1.out).mono ?_;rintro e2 w2 ⟨⟨p,m,cp,rfl⟩,hb2⟩;have Hb2:=zh (Hb1.out.trans (hb2.mono Hb1.out.size));clear hb2 HP;go_wp2_with fail
 go_at_call 36;refine (HL.out _ Hb2.out).mono ?_;rintro e3 w3 ⟨⟨r,rfl,-⟩,hb3⟩;have Hb3:=zh (Hb2.out.trans (hb3.mono Hb2.out.size));clear hb3 HL;go_wp2_with fail
 exact bodyPost_ret (v:=.bool true) (by simp [results,Tryz.results12,go_sem]) rfl ⟨rfl,Hb3.out⟩
theorem ww_end (h1:¬ (s.size:Int) > 1500) (h2:¬ (rest.size:Int) > 1500) {ts:List Tok} {k:Nat} (hk:k < ts.length) (hm:ts.length≤1000000) {L C:Int} (hL:(zaa ts k).line=L) (hC:(zaa ts k).col=C) (hkd:(zaa ts k).kind=4)
  (HF:Hid (∀ i,i < k→¬ ((zaa ts i).line=L∧(zaa ts i).col=C)))
  (HI:Hid (∀ a,a < s.size→¬ ((plS s.data.toList a).1=L∧(plS s.data.toList a).2=C)))
  (HP:Hid (∀ W,Below w.heap.size w W→Calls Tryz.prog 31 #[.string s] W (PBad L C 120 W)))
  (HPl:Hid (∀ (a:Nat) (W:World),a≤s.size→Calls Tryz.prog 37 #[.string s,.int .i64 a] W fun e w'=>e=.returned (.tuple #[.int .i64 (plS s.data.toList a).1,.int .i64 (plS s.data.toList a).2])∧Below W.heap.size W w'))
  (HL:Hid (∀ W,Below w.heap.size w W→Calls Tryz.prog 36 #[.string s] W fun e w'=>LexE w' e (.ok ts)∧Below W.heap.size W w')):Calls Tryz.prog 12 #[.string s,.string rest] w (YesE w):=by
 unfold PBad at HP;unfold LexE at HL;simp only [] at HL;have HhL:=zh hL;have HhC:=zh hC;have Hkd:=zh hkd;clear hL hC hkd;go_enter Tryz.func12,Tryz.ntmps12
 go_wp2_with fail
 go_at_call 15;refine HA.out.mono ?_;rintro e1 w1 ⟨rfl,hb1⟩;have Hb1:=zh hb1;clear hb1;go_wp2_with fail
 go_at_call 31;refine (HP.out _ Hb1.out).mono ?_;rintro e2 w2 ⟨rfl,hb2⟩;have Hb2:=zh (Hb1.out.trans (hb2.mono Hb1.out.size));clear hb2 HP;go_wp2_with fail
 go_at_call 36;refine (HL.out _ Hb2.out).mono ?_;rintro e3 w3 ⟨⟨r,rfl,hT⟩,hb3⟩;obtain ⟨ta,tc,rfl,-,-⟩:=Sl.form hT;have HT:=zh hT;have Hb3:=zh (Hb2.out.trans (hb3.mono Hb2.out.size));clear hb3 HL hT;go_wp2_with fail
 go_loopw [13,15,16,80,81,82,83,84,85,86,87,88,89,90,91,92,93,94,95,96,97,98,99] (fun t13 _ _ _ _ _ _ _ _ _ _ _ _ _ _ _ _ _ _ _ _ _ _ wr=>∃ a:Nat,a≤s.size∧t13=.int .i64 a∧Hid (Below w3.heap.size w3 wr)) (fun t13 _ _ _ _ _ _ _ _ _ _ _ _ _ _ _ _ _ _ _ _ _ _ _=>s.size - (intOf t13).toNat)
 case atStart=>exact ⟨0,by omega,by first | rfl | go_num,zh (Below.refl _ _)⟩
 case round =>
  obtain ⟨a,ha,rfl,Hb⟩:=hrel;by_cases hlt:a < s.size
  ·have hlt':(a:Int) < s.size:=by omega
   have hI:=HI.out a hlt;have HPa:=zh (HPl.out a wr ha)
   generalize (plS s.data.toList a).1=X at *
   generalize (plS s.data.toList a).2=Y at *
   obtain ⟨q,hq⟩:∃ q,(X == L)=q:=⟨_,rfl⟩;obtain ⟨q2,hq2⟩:∃ q,(Y == C)=q:=⟨_,rfl⟩
   have hqq:q=true→q2=true→False:=by
    intro e1 e2;rw [e1] at hq;rw [e2] at hq2;exact hI ⟨by simpa using hq,by simpa using hq2⟩
   go_wp2_with fail
   go_at_call 37;refine HPa.out.mono ?_;rintro e4 w4 ⟨rfl,hb4⟩;have Hb4:=zh (Hb.out.trans (hb4.mono Hb.out.size));clear hb4 hI HI
   cases q with
   | false =>
    go_wp2_with fail
    go_roundw
    case rel=>exact ⟨a+1,by omega,by go_num,Hb4⟩
    case measure=>simp [intOf];omega
   | true =>
    cases q2 with
    | true=>exact (hqq rfl rfl).elim
    | false =>
     go_wp2_with fail
     go_roundw
     case rel=>exact ⟨a+1,by omega,by go_num,Hb4⟩
     case measure=>simp [intOf];omega
  ·obtain rfl:a=s.size:=by omega
   clear HI HPl ha;go_wp2_with fail
   go_loopw [14,100,101,102,103,104,105,106,107,108,109,110,111,112,113,114,115,116,117,118,119,120,121,122,123] (fun t14 _ _ _ _ _ _ _ _ _ _ _ _ _ _ _ _ _ _ _ _ _ _ _ _ wr=>∃ i:Nat,i≤k∧t14=.int .i64 i∧Hid (Below w3.heap.size w3 wr)) (fun t14 _ _ _ _ _ _ _ _ _ _ _ _ _ _ _ _ _ _ _ _ _ _ _ _ _=>ts.length - (intOf t14).toNat)
   case atStart=>exact ⟨0,by omega,by first | rfl | go_num,Hb⟩
   case round =>
    obtain ⟨i,hi,rfl,Hb5⟩:=hrel;have HT5:=zh (Sl.below (by omega) HT.out Hb5.out (zr _));have hit:i < ts.length:=by omega
    obtain ⟨b,off,rfl,d0,d1,d2,d3,d4⟩:=zaF HT5.out hit;have hit':(i:Int) < ts.length:=by omega
    have hne:((i:Int) == ts.length)=false:=by rw [beq_eq_false_iff_ne];omega
    have him:(i:Int)≤1000000:=by omega
    clear HT;by_cases hik:i < k
    ·have hF:=HF.out i hik
     generalize (zaa ts i).line=X at *
     generalize (zaa ts i).col=Y at *
     obtain ⟨q,hq⟩:∃ q,(X != L)=q:=⟨_,rfl⟩;obtain ⟨q2,hq2⟩:∃ q,(Y != C)=q:=⟨_,rfl⟩
     have hqq:q=false→q2=false→False:=by
      intro e1 e2;rw [e1] at hq;rw [e2] at hq2;exact hF ⟨by simpa using hq,by simpa using hq2⟩
     clear hF HF
     cases q with
     | true =>
      go_wp2_with fail
      go_roundw
      case rel=>exact ⟨i+1,by omega,by go_num,Hb5⟩
      case measure=>simp [intOf];omega
     | false =>
      cases q2 with
      | false=>exact (hqq rfl rfl).elim
      | true =>
       go_wp2_with fail
       go_roundw
       case rel=>exact ⟨i+1,by omega,by go_num,Hb5⟩
       case measure=>simp [intOf];omega
    ·obtain rfl:i=k:=by omega
     rw [HhL.out] at d3;rw [HhC.out] at d4;rw [Hkd.out] at d0;have Hbr:=zh (Hb3.out.trans (Hb5.out.mono Hb3.out.size));clear HF;go_wp2_with fail
     exact bodyPost_ret (v:=.bool true) (by simp [results,Tryz.results12,go_sem]) rfl ⟨rfl,Hbr.out⟩
theorem ww_mid (h1:¬ (s.size:Int) > 1500) (h2:¬ (rest.size:Int) > 1500) {ts:List Tok} {k:Nat} (hk:k < ts.length) (hm:ts.length≤1000000) {L C:Int} (hL:(zaa ts k).line=L) (hC:(zaa ts k).col=C) (hkd:(zaa ts k).kind≠4) {c f L2 C2:Int} {J:Nat} (hcd:c=120∨c=121) (hJ:J+(zaa ts k).text.length≤s.size) (hn:0 < (zaa ts k).text.length) (hPJ:(plS s.data.toList J).1=L) (hQJ:(plS s.data.toList J).2=C)
  (HF:Hid (∀ i,i < k→¬ ((zaa ts i).line=L∧(zaa ts i).col=C)))
  (HI:Hid (∀ a,a < J→¬ ((plS s.data.toList a).1=L∧(plS s.data.toList a).2=C)))
  (HP:Hid (∀ W,Below w.heap.size w W→Calls Tryz.prog 31 #[.string s] W (PBad L C c W)))
  (HP2:Hid (∀ W,Below w.heap.size w W→Calls Tryz.prog 31 #[.string ((s.extract 0 (J+(zaa ts k).text.length)++{ data:=#[10] })++rest)] W (PBad L2 C2 f W)))
  (HL2:(f≠0∧∃ a b,Hid (∀ W,Below w.heap.size w W→Calls Tryz.prog 36 #[.string rest] W (PBad a b f W)))∨(f=c∧L2=L∧C2=C∧∃ us,Hid (∀ W,Below w.heap.size w W→Calls Tryz.prog 36 #[.string rest] W fun e w'=>LexE w' e (.ok us)∧Below W.heap.size W w')))
  (HPl:Hid (∀ (a:Nat) (W:World),a≤s.size→Calls Tryz.prog 37 #[.string s,.int .i64 a] W fun e w'=>e=.returned (.tuple #[.int .i64 (plS s.data.toList a).1,.int .i64 (plS s.data.toList a).2])∧Below W.heap.size W w'))
  (HL:Hid (∀ W,Below w.heap.size w W→Calls Tryz.prog 36 #[.string s] W fun e w'=>LexE w' e (.ok ts)∧Below W.heap.size W w')):Calls Tryz.prog 12 #[.string s,.string rest] w (YesE w):=by
 unfold PBad at HP HP2 HL2;unfold LexE at HL HL2;simp only [] at HL HL2;have HhL:=zh hL;have HhC:=zh hC;have Hkd:Hid (((zaa ts k).kind == 4)=false):=zh (by rw [beq_eq_false_iff_ne];exact hkd);obtain ⟨n,hnn⟩:∃ n,(zaa ts k).text.length=n:=⟨_,rfl⟩;rw [hnn] at hJ hn HP2;have Hnn:=zh hnn;have HPJ:=zh hPJ;have HQJ:=zh hQJ;have Hcd:=zh hcd;clear hL hC hkd hnn hPJ hQJ hcd;go_enter Tryz.func12,Tryz.ntmps12
 go_wp2_with fail
 go_at_call 15;refine HA.out.mono ?_;rintro e1 w1 ⟨rfl,hb1⟩;have Hb1:=zh hb1;clear hb1;go_wp2_with fail
 go_at_call 31;refine (HP.out _ Hb1.out).mono ?_;rintro e2 w2 ⟨rfl,hb2⟩;have Hb2:=zh (Hb1.out.trans (hb2.mono Hb1.out.size));clear hb2 HP;go_wp2_with fail
 go_at_call 36;refine (HL.out _ Hb2.out).mono ?_;rintro e3 w3 ⟨⟨r,rfl,hT⟩,hb3⟩;obtain ⟨ta,tc,rfl,-,-⟩:=Sl.form hT;have HT:=zh hT;have Hb3:=zh (Hb2.out.trans (hb3.mono Hb2.out.size));clear hb3 HL hT;have hc9:Hid (c=120∨c=121):=Hcd;rcases hc9.out with rfl | rfl
 all_goals
  clear hc9;go_wp2_with fail
  go_loopw [13,15,16,80,81,82,83,84,85,86,87,88,89,90,91,92,93,94,95,96,97,98,99] (fun t13 _ _ _ _ _ _ _ _ _ _ _ _ _ _ _ _ _ _ _ _ _ _ wr=>∃ a:Nat,a≤J∧t13=.int .i64 a∧Hid (Below w3.heap.size w3 wr)) (fun t13 _ _ _ _ _ _ _ _ _ _ _ _ _ _ _ _ _ _ _ _ _ _ _=>s.size - (intOf t13).toNat)
  case atStart=>exact ⟨0,by omega,by first | rfl | go_num,zh (Below.refl _ _)⟩
  case round =>
   obtain ⟨a,ha,rfl,Hb⟩:=hrel;have hlt:a < s.size:=by omega
   have hlt':(a:Int) < s.size:=by omega
   have HPa:=zh (HPl.out a wr (by omega));by_cases haJ:a < J
   ·have hI:=HI.out a haJ
    generalize (plS s.data.toList a).1=X at *
    generalize (plS s.data.toList a).2=Y at *
    obtain ⟨q,hq⟩:∃ q,(X == L)=q:=⟨_,rfl⟩;obtain ⟨q2,hq2⟩:∃ q,(Y == C)=q:=⟨_,rfl⟩
    have hqq:q=true→q2=true→False:=by
     intro e1 e2;rw [e1] at hq;rw [e2] at hq2;exact hI ⟨by simpa using hq,by simpa using hq2⟩
    go_wp2_with fail
    go_at_call 37;refine HPa.out.mono ?_;rintro e4 w4 ⟨rfl,hb4⟩;have Hb4:=zh (Hb.out.trans (hb4.mono Hb.out.size));clear hb4 hI HI
    cases q with
    | false =>
     go_wp2_with fail
     go_roundw
     case rel=>exact ⟨a+1,by omega,by go_num,Hb4⟩
     case measure=>simp [intOf];omega
    | true =>
     cases q2 with
     | true=>exact (hqq rfl rfl).elim
     | false =>
      go_wp2_with fail
      go_roundw
      case rel=>exact ⟨a+1,by omega,by go_num,Hb4⟩
      case measure=>simp [intOf];omega
   ·obtain rfl:a=J:=by omega
    rw [HPJ.out,HQJ.out] at HPa;clear HPJ HQJ;go_wp2_with fail
    go_at_call 37;refine HPa.out.mono ?_;rintro e4 w4 ⟨rfl,hb4⟩;have Hb4:=zh (Hb.out.trans (hb4.mono Hb.out.size));clear hb4 HPa;clear HI HPl ha;go_wp2_with fail
    go_loopw [14,100,101,102,103,104,105,106,107,108,109,110,111,112,113,114,115,116,117,118,119,120,121,122,123] (fun t14 _ _ _ _ _ _ _ _ _ _ _ _ _ _ _ _ _ _ _ _ _ _ _ _ wr=>∃ i:Nat,i≤k∧t14=.int .i64 i∧Hid (Below w3.heap.size w3 wr)) (fun t14 _ _ _ _ _ _ _ _ _ _ _ _ _ _ _ _ _ _ _ _ _ _ _ _ _=>ts.length - (intOf t14).toNat)
    case atStart=>exact ⟨0,by omega,by first | rfl | go_num,Hb4⟩
    case round =>
     obtain ⟨i,hi,rfl,Hb5⟩:=hrel;have HT5:=zh (Sl.below (by omega) HT.out Hb5.out (zr _));have hit:i < ts.length:=by omega
     obtain ⟨b,off,rfl,d0,d1,d2,d3,d4⟩:=zaF HT5.out hit;have hit':(i:Int) < ts.length:=by omega
     have hne:((i:Int) == ts.length)=false:=by rw [beq_eq_false_iff_ne];omega
     have him:(i:Int)≤1000000:=by omega
     clear HT;by_cases hik:i < k
     ·have hF:=HF.out i hik
      generalize (zaa ts i).line=X at *
      generalize (zaa ts i).col=Y at *
      obtain ⟨q,hq⟩:∃ q,(X != L)=q:=⟨_,rfl⟩;obtain ⟨q2,hq2⟩:∃ q,(Y != C)=q:=⟨_,rfl⟩
      have hqq:q=false→q2=false→False:=by
       intro e1 e2;rw [e1] at hq;rw [e2] at hq2;exact hF ⟨by simpa using hq,by simpa using hq2⟩
      clear hF HF
      cases q with
      | true =>
       go_wp2_with fail
       go_roundw
       case rel=>exact ⟨i+1,by omega,by go_num,Hb5⟩
       case measure=>simp [intOf];omega
      | false =>
       cases q2 with
       | false=>exact (hqq rfl rfl).elim
       | true =>
        go_wp2_with fail
        go_roundw
        case rel=>exact ⟨i+1,by omega,by go_num,Hb5⟩
        case measure=>simp [intOf];omega
     ·obtain rfl:i=k:=by omega
      rw [HhL.out] at d3;rw [HhC.out] at d4;have Hbr:=zh (Hb3.out.trans (Hb5.out.mono Hb3.out.size));have hkd:=Hkd.out;have hbl:(bstr (zaa ts i).text).size=n:=by rw [← Hnn.out,← zaq];simp [bstr]
      generalize (zaa ts i).kind=KD at *
      generalize bstr (zaa ts i).text=TX at *
      clear HF Hkd Hnn;go_wp2_with fail
      go_at_call 31;refine (HP2.out _ Hbr.out).mono ?_;rintro e6 w6 ⟨rfl,hb6⟩;have Hb6:=zh (Hbr.out.trans (hb6.mono Hbr.out.size));clear hb6 HP2;rcases HL2 with ⟨hf,a2,b2,HLr⟩ | ⟨rfl,rfl,rfl,us,HLr⟩
      ·have hf0:(f != 0)=true:=by simpa using hf
       clear hf;go_wp2_with fail
       go_at_call 36;refine (HLr.out _ Hb6.out).mono ?_;rintro e7 w7 ⟨rfl,hb7⟩;have Hb7:=zh (Hb6.out.trans (hb7.mono Hb6.out.size));clear hb7 HLr;go_wp2_with fail
       exact bodyPost_ret (v:=.bool true) (by simp [results,Tryz.results12,go_sem]) rfl ⟨rfl,Hb7.out⟩
      ·go_wp2_with fail
       go_at_call 36;refine (HLr.out _ Hb6.out).mono ?_;rintro e7 w7 ⟨⟨r,rfl,-⟩,hb7⟩;have Hb7:=zh (Hb6.out.trans (hb7.mono Hb6.out.size));clear hb7 HLr;go_wp2_with fail
       exact bodyPost_ret (v:=.bool true) (by simp [results,Tryz.results12,go_sem]) rfl ⟨rfl,Hb7.out⟩
end

theorem parse_bad {s:ByteArray} (hs:s.size≤9223372036854775807) {a b c:Int} (h:zbg s.data.toList=.err a b c) {w:World} (hG:Glob w):Calls Tryz.prog 31 #[.string s] w (PBad a b c w):=by
 have H:=zbP hG s hs;rw [h] at H;exact H.mono fun e w' he=>⟨he.1.1,he.2⟩
theorem lex_line1 {s:List UInt8} {a b c:Int} (hs:s.length≤1500) (h:lexS s=.err a b c):1≤a:=by
 rw [lexS,if_neg (by omega)] at h;obtain ⟨j,-,hp,-⟩:=lexF_err _ s (zr _) 1 1 a b c h;have:=pos_ge (s.take j) 1 1;rw [hp] at this;simp only [] at this;omega
theorem cut_text (s rest:ByteArray) (n:Nat):((s.extract 0 n++{ data:=#[10] })++rest:ByteArray).data.toList=s.data.toList.take n++10 :: rest.data.toList:=by
 rw [zbk,show s.data.toList=(bstr s.data.toList).data.toList by simp [bstr]];rw [show ({ data:=#[10] }:ByteArray)=bstr [10] from rfl,show rest=bstr rest.data.toList by simp [bstr],zax,zax];simp [bstr]
theorem parseWrong_any (s rest:ByteArray) (w:World) (hG:Glob w):Calls Tryz.prog 12 #[.string s,.string rest] w (YesE w):=by
 have hgs:=hG.size;have HA:=zh (zfY hG);by_cases hs:1500 < s.size
 ·exact ww_long HA (.inl hs)
 by_cases hr:1500 < rest.size
 ·exact ww_long HA (.inr ⟨hs,hr⟩)
 have h1:¬ (s.size:Int) > 1500:=by omega
 have h2:¬ (rest.size:Int) > 1500:=by omega
 have hsl:s.data.toList.length≤1500:=by rw [zaq];omega
 have hrl:rest.data.toList.length≤1500:=by rw [zaq];omega
 have hss:s.size≤9223372036854775807:=by omega
 have hrs:rest.size≤9223372036854775807:=by omega
 have HLx:=fun (t:ByteArray) (ht:t.size≤9223372036854775807) W (hb:Below w.heap.size w W)=>zm6 t W ht (hG.below hb hgs)
 cases hlx:lexS s.data.toList with
 | err a b c =>
  have hp:zbg s.data.toList=.err a b c:=by unfold zbg;rw [hlx]
  exact ww_lex HA h1 h2 (lex_line1 hsl hlx) (zd9 hlx) (zh fun W hb=>parse_bad hss hp (hG.below hb hgs)) (zh fun W hb=>(HLx s hss W hb).mono fun e w' he=>by rw [hlx] at he;exact he)
 | ok ts =>
  have hgd:=ziD hlx;have hN:∀ i,i < ts.length→(zaa ts i).kind≠4→i+1 < ts.length:=fun i hi hk=>hgd.next hi hk
  have hm:=ziK hlx;have h0:0 < ts.length:=hgd.pos;have HL:Hid (∀ W,Below w.heap.size w W→Calls Tryz.prog 36 #[.string s] W fun e w'=>LexE w' e (.ok ts)∧Below W.heap.size W w'):=zh fun W hb=>(HLx s hss W hb).mono fun e w' he=>by rw [hlx] at he;exact he
  have hF:lexF s.data.toList 1 1=.ok ts:=by rw [lexS,if_neg (by omega)] at hlx;exact hlx
  cases ha:allS ts (ts.length+1) [] 0 with
  | ok xs j =>
   have hp:zbg s.data.toList=.ok xs:=by unfold zbg;rw [hlx];simp only [];rw [ha]
   refine ww_ok HA h1 h2 (ts:=ts) (zh fun W hb=>?_) HL;have H:=zbP (hG.below hb hgs) s hss;rw [hp] at H;refine H.mono ?_;rintro e w' ⟨⟨v,rfl,hX⟩,hb⟩;have hS:=zeM hX;obtain ⟨a,cap,rfl,-,-⟩:=hS.form
   exact ⟨⟨a,xs.length,cap,rfl⟩,hb⟩
  | err k c =>
   obtain ⟨hk,hdp⟩:=wrong_in hN h0 ha;have hcd:c=120∨c=121:=all_cd ts _ _ 0 k c (by omega) (by omega) ha;have hp:zbg s.data.toList=.err (zaa ts k).line (zaa ts k).col c:=by unfold zbg;rw [hlx];simp only [];rw [ha]
   have hc0:c≠0:=by rcases hcd with rfl | rfl <;> decide
   have HP:Hid (∀ W,Below w.heap.size w W→Calls Tryz.prog 31 #[.string s] W (PBad (zaa ts k).line (zaa ts k).col c W)):=zh fun W hb=>parse_bad hss hp (hG.below hb hgs)
   have HPl:Hid (∀ (a:Nat) (W:World),a≤s.size→Calls Tryz.prog 37 #[.string s,.int .i64 a] W fun e w'=>e=.returned (.tuple #[.int .i64 (plS s.data.toList a).1,.int .i64 (plS s.data.toList a).2])∧Below W.heap.size W w'):=zh fun a W hle=>by
    have:=place_any s a W (by omega);rwa [show placeS2 s.data.toList (a:Int)=plS s.data.toList a by unfold placeS2;rw [if_pos (by rw [zaq];omega)];rfl] at this
   by_cases hkd:(zaa ts k).kind=4
   ·obtain rfl:c=120:=hcd.resolve_right (fun e=>hdp e hkd);exact ww_end HA h1 h2 hk (by omega) rfl rfl hkd (zh fun i hi=>tok_first_at hF hk hi) (zh fun a h=>end_last hF hk hkd (by rw [zaq];exact h)) HP HPl HL
   ·obtain ⟨J,hJ1,hJ2,hJ3,hJ4,hE,hO⟩:=wrong_stays hsl hrl hlx hN ha hc0 hk hkd;rw [zaq] at hJ1
    have HI:Hid (∀ a,a < J→¬ ((plS s.data.toList a).1=(zaa ts k).line∧(plS s.data.toList a).2=(zaa ts k).col)):=zh fun a h e=>by
     rw [hJ3,hJ4] at e;exact absurd (plS_inj (by rw [zaq];omega) (by rw [zaq];omega) (Prod.ext e.1 e.2)) (by omega)
    have hS2:((s.extract 0 (J+(zaa ts k).text.length)++{ data:=#[10] })++rest:ByteArray).size≤9223372036854775807:=by
     rw [← zaq,cut_text,List.length_append,List.length_take,List.length_cons];omega
    cases hlr:lexS rest.data.toList with
    | err a b d =>
     obtain ⟨a',b',hpr⟩:=hE a b d hlr;rw [← cut_text] at hpr
     exact ww_mid HA h1 h2 hk (by omega) rfl rfl hkd hcd hJ1 hJ2 hJ3.symm hJ4.symm (zh fun i hi=>tok_first_at hF hk hi) HI HP (zh fun W hb=>parse_bad hS2 hpr (hG.below hb hgs))
      (.inl ⟨zd9 hlr,a,b,zh fun W hb=>(HLx rest hrs W hb).mono fun e w' he=>by rw [hlr] at he;exact he⟩) HPl HL
    | ok us =>
     have hpr:=hO us hlr;rw [← cut_text] at hpr
     exact ww_mid HA h1 h2 hk (by omega) rfl rfl hkd hcd hJ1 hJ2 hJ3.symm hJ4.symm (zh fun i hi=>tok_first_at hF hk hi) HI HP (zh fun W hb=>parse_bad hS2 hpr (hG.below hb hgs))
      (.inr ⟨rfl,rfl,rfl,us,zh fun W hb=>(HLx rest hrs W hb).mono fun e w' he=>by rw [hlr] at he;exact he⟩) HPl HL
end Go.Proofs.YtoaojdobjinhfaaGreatDoor
