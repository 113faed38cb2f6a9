/- The reference's Expr, walked. -/
import Derived.Test.YtoaojdobjinhfaaGreatDoorPParseC
import Derived.Test.YtoaojdobjinhfaaGreatDoorRParET
set_option linter.unusedSimpArgs false
set_option linter.unusedVariables false
set_option maxRecDepth 100000
set_option maxHeartbeats 1000000
namespace Go.Proofs.YtoaojdobjinhfaaGreatDoor
open Go.RowKit

theorem refExpr_any (s:ByteArray) (w:World) (hs:s.size≤9223372036854775807) :
  Calls Tryz.prog 41 #[.string s] w fun e w'=>ExpE w w' e (zbT s.data.toList)∧Below w.heap.size w w':=by
 obtain ⟨W0,hW0,hb0,hB0⟩:∃ W0,W0=w.alloc (.cells #[.int .u8 0,.int .i64 0,.string { data:=#[] },.slice none 0 0] 29)∧Below w.heap.size w W0∧OwnV W0 w.heap.size 29 zeroE:=⟨_,rfl,(Below.refl _ _).alloc (zr _) _,OwnV.new w _ zeroE⟩;have HL:Hid (Calls Tryz.prog 70 #[.string s] W0 _):=zh (zkB s W0 hs);have Hb0:=zh hb0;have HB0:=zh hB0;have HW0:=zh hW0;have hlt:=hB0.lt;clear hb0 hB0 hW0;obtain ⟨final,hfin⟩:∃ r,zbT s.data.toList=r:=⟨_,rfl⟩
 have HF:Hid (final=match lexS s.data.toList with
  | .err a b c=>.err a b c
  | .ok l=>match zf4 l with
   | .ok x _=>.ok x
   | .err i c=>.err (zaa l i).line (zaa l i).col c):=zh (by rw [← hfin];rfl)
 rw [hfin];clear hfin
 cases hlx:lexS s.data.toList with
 | err a b c =>
  have hc0:=zd9 hlx;have hc1:(c != 0)=true:=by simpa using hc0
  rw [hlx] at HL HF;have Hf:Hid (final=.err a b c):=zh HF.out;have Hc0:=zh hc0;clear hlx hc0 HF;go_enter Tryz.func41,Tryz.ntmps41
  go_upto_region 1 with (fail)
  rw [← HW0.out];go_wp2_with fail
  go_at_call 70;refine HL.out.mono ?_;rintro e1 w1 ⟨he1,hb1⟩;obtain rfl:=he1;have hO:=HB0.out.below hb1 (zr _);have b0:=hO.cell (i:=0) rfl;have b1:=hO.cell (i:=1) rfl;have b2:=hO.cell (i:=2) rfl;have b3:=hO.cell (i:=3) rfl;have bf:=hO.free;have Hb1:=zh (Hb0.out.trans (hb1.mono Hb0.out.size));clear hb1 hO;go_wp2_with fail
  exact bodyPost_ret (v:=.tuple #[.agg #[.int .u8 0,.int .i64 0,.string { data:=#[] },.slice none 0 0],.int .i64 a,.int .i64 b,.int .i64 c]) (by simp [results,Tryz.results41,go_sem,b0,b1,b2,b3]) rfl ⟨by rw [Hf.out];exact ⟨rfl,Hc0.out⟩,(((Hb1.out.setCell (zr _) _).setCell (zr _) _).setCell (zr _) _).setCell (zr _) _⟩
 | ok l =>
  have hG:=ziD hlx;have hlen:=ziK hlx;rw [hlx] at HL HF;have hm:l.length≤1000000:=by omega
  have hl0:0 < l.length:=by have:=hG.pos;omega
  have HC:Hid (∀ v W,Toks W l v→Calls Tryz.prog 72 #[v,.int .i64 (0:Nat),.int .i64 (0:Nat),.int .i64 (1:Nat)] W fun e w'=>zb4 l 0 W w' e (zaA l 0 0 1)∧Below W.heap.size W w'):=zh (fun v W hT=>ziI l v hG (by omega) 0 0 1 W hT hl0 (by omega) (by omega))
  have HR:Hid (final=(match (zaA l 0 0 1).andThen fun x j=>if (zaa l j).kind=4 then PR.ok x j else .err j 120 with
   | .ok x _=>ParX.ok x
   | .err i c=>.err (zaa l i).line (zaa l i).col c)):=zh HF.out
  clear hlx HF
  generalize zaA l 0 0 1=R at *
  go_enter Tryz.func41,Tryz.ntmps41
  go_upto_region 1 with (fail)
  rw [← HW0.out];go_wp2_with fail
  go_at_call 70;refine HL.out.mono ?_;rintro e1 w1 ⟨⟨v1,rfl,hT⟩,hb1⟩;have Hb01:Hid (W0.heap.size≤w1.heap.size):=zh hb1.size;have HB1:=zh (HB0.out.below hb1 (zr _));have Hb1:=zh (Hb0.out.trans (hb1.mono Hb0.out.size));have HT:=zh hT;have HC1:=zh (HC.out v1 w1 hT);obtain ⟨ta,tcap,rfl,_,_⟩:=Sl.form hT;have hlw:=hb1.size;clear hb1 hT HC HL;go_wp2_with fail
  go_at_call 72;refine HC1.out.mono ?_;rintro e2 w2 ⟨he2,hb2⟩;have Hc2:=zh hb2;have Hb2:=zh (Hb1.out.trans (hb2.mono Hb1.out.size));have HT2:=zh (Sl.below (by omega) HT.out hb2 (zr _));clear hb2;have HB2:=zh (HB1.out.below Hc2.out (zr _))
  cases R with
  | err a c =>
   obtain ⟨op,n,nm,ad,m,cp,rfl,hc,hal⟩:=he2;have hc0:(c != 0)=true:=by rcases hc with rfl | rfl <;> rfl
   have hc1:(c == 0)=false:=by rcases hc with rfl | rfl <;> rfl
   have Hc0:Hid (c≠0):=zh (by rcases hc with rfl | rfl <;> decide);have Hf:Hid (final=.err (zaa l a).line (zaa l a).col c):=zh HR.out;have hT2':Toks (w2.alloc (.cells #[.int .u8 op,.int .i64 n,.string nm,.slice ad m cp] 29)) l (.slice ta l.length tcap):=Sl.below (by omega) HT2.out ((Below.refl _ _).alloc (zr _) _) (zr _);have hB3:=HB2.out.alloc (.cells #[.int .u8 op,.int .i64 n,.string nm,.slice ad m cp] 29);have b0:=hB3.cell (i:=0) rfl;have b1:=hB3.cell (i:=1) rfl;have b2:=hB3.cell (i:=2) rfl;have b3:=hB3.cell (i:=3) rfl;have bf:=hB3.free;have hne:=zln hT2' hl0 hB3 (by decide);have HB:=zh (Hb2.out.alloc (by have:=Hb2.out.size;omega) (.cells #[.int .u8 op,.int .i64 n,.string nm,.slice ad m cp] 29));obtain ⟨b',off',rfl,d0,-,-,d3,d4⟩:=zaF hT2' hal;have hne':¬ b'=w.heap.size:=hne b' rfl;have hia:(a:Int) < l.length:=by omega
   generalize (zaa l a).line=LN at *
   generalize (zaa l a).col=CN at *
   clear hT2' hB3 hne hc HT2 HB2 HC1 HR d0;go_wp2_with fail
   go_region_held3 (fun w'=>w'.cell? ⟨b',off'+a * 5+3,none⟩=some (.int .i64 LN)∧w'.cell? ⟨b',off'+a * 5+4,none⟩=some (.int .i64 CN)) (first | assumption | (simp [go_sem,hne',Ne.symm hne',d3,d4];done) | go_keep) (fail)
   go_wp2_with fail
   exact bodyPost_ret (v:=.tuple #[.agg #[.int .u8 0,.int .i64 0,.string { data:=#[] },.slice none 0 0],.int .i64 LN,.int .i64 CN,.int .i64 c]) (by simp [results,Tryz.results41,go_sem,b0,b1,b2,b3]) rfl ⟨by rw [Hf.out];exact ⟨rfl,Hc0.out⟩,((((HB.out.setCell (zr _) _).setCell (zr _) _).setCell (zr _) _).setCell (zr _) _).drew⟩
  | ok x j =>
   obtain ⟨v3,rfl,⟨cs,rfl,hX⟩,hij,hjl⟩:=he2;obtain ⟨op,n,name,args⟩:=x;obtain ⟨aa,cap,rfl⟩:=hX.form1;have hT2':Toks (w2.alloc (.cells #[.int .u8 op,.int .i64 n,.string (bstr name),.slice aa args.length cap] 29)) l (.slice ta l.length tcap):=Sl.below (by omega) HT2.out ((Below.refl _ _).alloc (zr _) _) (zr _);have hB3:=HB2.out.alloc (.cells #[.int .u8 op,.int .i64 n,.string (bstr name),.slice aa args.length cap] 29);have b0:=hB3.cell (i:=0) rfl;have b1:=hB3.cell (i:=1) rfl;have b2:=hB3.cell (i:=2) rfl;have b3:=hB3.cell (i:=3) rfl;have bf:=hB3.free;have hne:=zln hT2' hl0 hB3 (by decide);have HB:=zh (Hb2.out.alloc (by have:=Hb2.out.size;omega) (.cells #[.int .u8 op,.int .i64 n,.string (bstr name),.slice aa args.length cap] 29));obtain ⟨b',off',rfl,d0,-,-,d3,d4⟩:=zaF hT2' hjl;have hne':¬ b'=w.heap.size:=hne b' rfl;have hij':(j:Int) < l.length:=by omega
   have hz:=OwnV.new w2 29 [.int .u8 op,.int .i64 n,.string (bstr name),.slice aa args.length cap];have z0:=hz.cell (i:=0) rfl;have z1:=hz.cell (i:=1) rfl;have z2:=hz.cell (i:=2) rfl;have z3:=hz.cell (i:=3) rfl;by_cases hk4:(zaa l j).kind=4
   ·have Hf:Hid (final=.ok (.mk op n name args)):=zh (by
     rw [HR.out];simp only [PR.andThen]
     rw [if_pos hk4])
    rw [hk4] at d0;have HXF:Hid (ExsC (((((w2.alloc (.cells #[.int .u8 op,.int .i64 n,.string (bstr name),.slice aa args.length cap] 29)).setCell ⟨w.heap.size,0,none⟩ (.int .u8 op)).setCell ⟨w.heap.size,1,none⟩ (.int .i64 n)).setCell ⟨w.heap.size,2,none⟩ (.string (bstr name))).setCell ⟨w.heap.size,3,none⟩ (.slice aa args.length cap)) (fun b=>w.heap.size≤b) [.mk op n name args] [.int .u8 op,.int .i64 n,.string (bstr name),.slice aa args.length cap]):=zh ((hX.only (S:=fun b=>b=w.heap.size) ((((((Turns.refl w.heap.size w2).alloc _).set _ _).set _ _).set _ _).set _ _) (fun b hb e=>by have:w1.heap.size≤b:=hb;have:=Hb01.out;omega)).weak fun b _ hb=>by have:w1.heap.size≤b:=hb;have:=Hb01.out;show w.heap.size≤b;omega);clear hT2' hB3 hne HT2 HB2 HC1 HR d3 d4 hk4 hX hz;go_wp2_with fail
    refine bodyPost_ret (v:=.tuple #[.agg #[.int .u8 op,.int .i64 n,.string (bstr name),.slice aa args.length cap],.int .i64 0,.int .i64 0,.int .i64 0]) (by simp [results,Tryz.results41,go_sem,b0,b1,b2,b3]) rfl ⟨by rw [Hf.out];exact ⟨_,rfl,_,rfl,HXF.out⟩,(((HB.out.setCell (zr _) _).setCell (zr _) _).setCell (zr _) _).setCell (zr _) _⟩
   ·have Hf:Hid (final=.err (zaa l j).line (zaa l j).col 120):=zh (by
     rw [HR.out];simp only [PR.andThen]
     rw [if_neg hk4])
    have hq:((zaa l j).kind != 4)=true:=by simpa using hk4
    have Hc0:Hid ((120:Int)≠0):=zh (by decide)
    generalize (zaa l j).kind=KD at *
    generalize (zaa l j).line=LN at *
    generalize (zaa l j).col=CN at *
    clear hT2' hB3 hne HT2 HB2 HC1 HR hk4 hX hz z0 z1 z2 z3;go_wp2_with fail
    go_region_held3 (fun w'=>w'.cell? ⟨b',off'+j * 5+3,none⟩=some (.int .i64 LN)∧w'.cell? ⟨b',off'+j * 5+4,none⟩=some (.int .i64 CN)) (first | assumption | (simp [go_sem,hne',Ne.symm hne',d3,d4];done) | go_keep) (fail)
    go_wp2_with fail
    exact bodyPost_ret (v:=.tuple #[.agg #[.int .u8 0,.int .i64 0,.string { data:=#[] },.slice none 0 0],.int .i64 LN,.int .i64 CN,.int .i64 120]) (by simp [results,Tryz.results41,go_sem,b0,b1,b2,b3]) rfl ⟨by rw [Hf.out];exact ⟨rfl,Hc0.out⟩,((((HB.out.setCell (zr _) _).setCell (zr _) _).setCell (zr _) _).setCell (zr _) _).drew⟩
end Go.Proofs.YtoaojdobjinhfaaGreatDoor
