/- The program's printer: written, the greater cases. Printed by gen_pwritten.py. -/
/- The program's printer: written for every expression that can be written; ExprText. -/
import Derived.Test.YtoaojdobjinhfaaGreatDoorPrAY
import Derived.Test.YtoaojdobjinhfaaGreatDoorRParAY
import Derived.Deep.DeepCutAuto
import Derived.Test.YtoaojdobjinhfaaGreatDoorBackSY
import Derived.Test.YtoaojdobjinhfaaGreatDoorQFuncY
set_option linter.unusedSimpArgs false
set_option linter.unusedVariables false
namespace Go.Proofs.YtoaojdobjinhfaaGreatDoor
open Go.RowKit

theorem kind_at {N:Nat} (h1:1≤N) (h2:N≤10):kindWordsP[N]? = some (kindWords.getD (N - 1) []):=by
 have:N=1∨N=2∨N=3∨N=4∨N=5∨N=6∨N=7∨N=8∨N=9∨N=10:=by omega
 rcases this with rfl | rfl | rfl | rfl | rfl | rfl | rfl | rfl | rfl | rfl <;> rfl
theorem kinds_cell {w:World} {v:Value} (h:Strs w kindWordsP v) {N:Nat} (h1:1≤N) (h2:N≤10):∃ b off cap,v=.slice (some ⟨b,off,none⟩) 11 cap∧w.cell? ⟨b,off+N,none⟩=some (.string (bstr (kindWords.getD (N - 1) []))):=by
 obtain ⟨a,cap,rfl,-,-,-,hc⟩:=h;obtain ⟨b,off,rfl,hh⟩:=hc (by decide);refine ⟨b,off,cap,rfl,?_⟩;rw [hh N (by show N < 11 * 1;omega),List.getElem?_map,kind_at h1 h2];rfl
set_option maxRecDepth 100000 in
set_option maxHeartbeats 1000000 in
theorem written_comp {w0 w:World} {B:Nat} {x:Ex} {N:Nat} (hn1:1≤N) (hn2:N≤10) (h0:WrC w0 B x) (hz0:∀ k,(writeP x k).length≤1000000000000000) {v:Value} (hL:EsL w B [x] v) (hb0:Below B w0 w) (hB:B≤w.heap.size) (lv:Nat) (hlv:lv≤5) :
  Calls Tryz.prog 63 #[.agg #[.int .u8 3,.int .i64 (N:Int),.string { data:=#[] },v],.int .i64 lv] w (TxtE (kindWords.getD (N - 1) []++[91]++writeP x 1++[93]) w):=by
 obtain ⟨a,cap,rfl,hc1,hc2⟩:=hL.form;have hmf:∀ (fn:Fn) (first cap:Array Value) (w:World),(Instr.makeFunc fn first cap).run Tryz.prog w=.ok (.func fn first cap) w:=fun _ _ _ _=>rfl
 obtain ⟨W0,hW0,hb1,hO0⟩:∃ W0,W0=w.alloc (.cells #[.int .u8 3,.int .i64 (N:Int),.string { data:=#[] },.slice a 1 cap] 29)∧Below w.heap.size w W0∧OwnV W0 w.heap.size 29 [.int .u8 3,.int .i64 (N:Int),.string { data:=#[] },.slice a 1 cap]:=⟨_,rfl,(Below.refl _ _).alloc (Nat.le_refl _) _,OwnV.new _ _ _⟩;have HBi:=Lib.hid (binds_any 3 W0);have hB6:bindS 3=6:=by decide
 rw [hB6,sig_none hB6,show bstr []=({ data:=#[] }:ByteArray) from rfl] at HBi;obtain ⟨TX,hTX⟩:∃ T,(kindWords.getD (N - 1) []++[91]++writeP x 1++[93])=T:=⟨_,rfl⟩;rw [hTX];have HTX:=Lib.hid hTX;clear hTX;have HW0:=Lib.hid hW0;have HO0:=Lib.hid hO0;have Hb1:=Lib.hid hb1;have HL:=Lib.hid (hL.low (hb1.mono hB));have Hb0:=Lib.hid (hb0.trans (hb1.mono hB));have x0:=hO0.cell (i:=0) rfl;clear hW0 hO0 hb1 hL hb0;go_enter Tryz.func63,Tryz.ntmps63
 go_upto_region 1 with (fail)
 rw [← HW0.out];go_wp2_with fail
 go_at_call 97;refine HBi.out.mono ?_;rintro e1 w1 ⟨rfl,hb2⟩;have hs1:=hb2.size;have HO1:=Lib.hid (HO0.out.below hb2 (Nat.le_refl _));have HB1:=Lib.hid (Hb1.out.trans (hb2.mono Hb1.out.size));have hs0:=Hb1.out.size;have HL1:=Lib.hid (HL.out.low (hb2.mono (Nat.le_trans hB hs0)));have Hb0:=Lib.hid (Hb0.out.trans (hb2.mono (Nat.le_trans hB hs0)));have hlt1:=HO1.out.lt;clear hb2 x0 HO0 Hb1 HL HBi;have x0:=HO1.out.cell (i:=0) rfl;have HLv:=Lib.hid (levels_any w1);go_wp2_with fail
 go_at_call 98;refine HLv.out.mono ?_;rintro e2 w2 ⟨rfl,-,hb3⟩;have hs2:=hb3.size;have HO2:=Lib.hid (HO1.out.below hb3 (Nat.le_refl _));have HB2:=Lib.hid (HB1.out.trans (hb3.mono HB1.out.size));have hs10:w.heap.size≤w1.heap.size:=HB1.out.size;have HL2:=Lib.hid (HL1.out.low (hb3.mono (Nat.le_trans hB hs10)));have Hb0:=Lib.hid (Hb0.out.trans (hb3.mono (Nat.le_trans hB hs10)));have hlt2:=HO2.out.lt;have hb23:B≤w2.heap.size:=by omega
 clear hb3 x0 HLv HO1 HL1 HB1;have HA0:Hid (∀ W,Below w2.heap.size w2 W→Calls Tryz.prog 96 #[.int .i64 0,.int .i64 0,.pointer (some ⟨w.heap.size,0,none⟩)] W (TxtE (writeP x 1) W)):=Lib.hid (fun W hb=>written1_any (w0:=w0) (i:=0) (lv:=0) (y:=x) (HO2.out.below hb (Nat.le_refl _)) (HL2.out.low (hb.mono (by omega))) (Hb0.out.trans (hb.mono (by omega))) (by have:=hb.size;omega) (by omega) rfl h0);obtain ⟨T0,hT0⟩:∃ T,writeP x 1=T:=⟨_,rfl⟩;obtain ⟨S0,hS0⟩:∃ S,bstr T0=S:=⟨_,rfl⟩;have hln0:S0.size≤1000000000000000:=by rw [← hS0,pr_len,← hT0];exact hz0 _
 rw [hT0] at HA0;unfold TxtE at HA0;simp only [hS0] at HA0;have HS0:=Lib.hid (show S0=bstr (writeP x 1) from by rw [hT0,hS0]);clear hT0 hS0;have hen:=enters_written1;have x0:=HO2.out.cell (i:=0) rfl;have x1:=HO2.out.cell (i:=1) rfl;obtain ⟨KW,hKW⟩:∃ K,bstr (kindWords.getD (N - 1) [])=K:=⟨_,rfl⟩
 have hkl:KW.size≤100:=by
  rw [← hKW,pr_len];have:N=1∨N=2∨N=3∨N=4∨N=5∨N=6∨N=7∨N=8∨N=9∨N=10:=by omega
  rcases this with rfl | rfl | rfl | rfl | rfl | rfl | rfl | rfl | rfl | rfl <;> decide
 have HKW:=Lib.hid hKW;have hN1:(0:Int)≤(N:Int):=by omega
 have hN2:(N:Int) < 11:=by omega
 have hN3:¬ (N:Int) < 0:=by omega
 clear hKW;go_upto_region 18 with (fail)
 go_region_with (first | (go_at_call 50;refine (pkinds_any _).mono ?_;rintro e3 w3 ⟨v3,rfl,hS3,hb3⟩;obtain ⟨kb,koff,kcap,rfl,kc⟩:=kinds_cell hS3 hn1 hn2;rw [HKW.out] at kc;have hb3':Below w2.heap.size w2 w3:=((Below.refl _ _).drew).trans hb3;have x1:=(HO2.out.below hb3' (Nat.le_refl _)).cell (i:=1) rfl;clear hS3) | (refine (HA0.out _ hb3').mono ?_;rintro e4 w4 ⟨rfl,hb4⟩;have kc:=Below.keep hb4 kc;have hb4':=hb3'.trans (hb4.mono hb3'.size);have x1:=(HO2.out.below hb4' (Nat.le_refl _)).cell (i:=1) rfl))
 all_goals
  have Hb4:=Lib.hid hb4';clear hb4' hb3' hb4 hb3 x0 x1 kc;go_wp2_with fail
  refine bodyPost_ret (v:=.string (((KW++{ data:=#[91] })++S0)++{ data:=#[93] })) (by simp [results,Tryz.results63,go_sem]) rfl ⟨?_,by first | exact HB2.out.trans (Hb4.out.mono HB2.out.size) | exact (HB2.out.trans (Hb4.out.mono HB2.out.size)).drew⟩;rw [← HTX.out,HS0.out,← HKW.out];simp [pr_app,bs_lit]
set_option maxRecDepth 100000 in
set_option maxHeartbeats 1000000 in
theorem written_bin2 {w0 w:World} {B:Nat} {op:Int} {x y:Ex} {m:Nat} (hm:bindS op=m+1) (hm5:m < 5) (hm2:m=2) (hsg:signOf op≠[]) (hsl:(signOf op).length≤2) (h0:WrC w0 B x) (h1:WrC w0 B y) (hz0:∀ k,(writeP x k).length≤1000000000000000) (hz1:∀ k,(writeP y k).length≤1000000000000000) {v:Value} (hL:EsL w B [x,y] v) (hb0:Below B w0 w) (hB:B≤w.heap.size) (lv:Nat) (hlv:lv≤5) :
  Calls Tryz.prog 63 #[.agg #[.int .u8 op,.int .i64 0,.string { data:=#[] },v],.int .i64 lv] w (TxtE (partW (2+1,partW (bindE x,writeE x) (leftB (2+1))++[32]++signOf op++[32]++partW (bindE y,writeE y) (2+2)) (lv+1)) w):=by
 subst hm2;obtain ⟨a,cap,rfl,hc1,hc2⟩:=hL.form;have hmf:∀ (fn:Fn) (first cap:Array Value) (w:World),(Instr.makeFunc fn first cap).run Tryz.prog w=.ok (.func fn first cap) w:=fun _ _ _ _=>rfl
 obtain ⟨W0,hW0,hb1,hO0⟩:∃ W0,W0=w.alloc (.cells #[.int .u8 op,.int .i64 0,.string { data:=#[] },.slice a 2 cap] 29)∧Below w.heap.size w W0∧OwnV W0 w.heap.size 29 [.int .u8 op,.int .i64 0,.string { data:=#[] },.slice a 2 cap]:=⟨_,rfl,(Below.refl _ _).alloc (Nat.le_refl _) _,OwnV.new _ _ _⟩;have HBi:=Lib.hid (binds_any op W0);have hT:signT op=signOf op:=by unfold signT;rw [if_pos (by omega)]
 rw [hm,hT,show ((2+1:Nat):Int) - 1=2 from rfl] at HBi;rw [show partW (bindE x,writeE x) (leftB (2+1))=writeP x (leftB (2+1)) from by cases x;rfl,show partW (bindE y,writeE y) (2+2)=writeP y (2+2) from by cases y;rfl];have hlb:leftB (2+1)=4:=by unfold leftB;rfl
 rw [hlb];obtain ⟨TX,hTX⟩:∃ T,(partW (2+1,writeP x 4++[32]++signOf op++[32]++writeP y (2+2)) (lv+1))=T:=⟨_,rfl⟩;rw [hTX];have HTX:=Lib.hid hTX;clear hTX hlb;obtain ⟨SG,hSG⟩:∃ S,bstr (signOf op)=S:=⟨_,rfl⟩;have hsn:¬ SG.toList=[]:=fun h=>hsg (str_nil.1 (by rw [hSG];exact h))
 have hsn2:SG.toList.isEmpty=false:=by rw [List.isEmpty_eq_false_iff];exact hsn
 have hsn3:(SG.toList != [])=true:=by simpa using hsn
 have hsn4:(SG.toList == [])=false:=by simpa using hsn
 have hsz:SG.size≤2:=by rw [← hSG,pr_len];exact hsl
 rw [hSG] at HBi;have HSG:=Lib.hid hSG;clear hSG hT hsg hsl;have HW0:=Lib.hid hW0;have HO0:=Lib.hid hO0;have Hb1:=Lib.hid hb1;have HL:=Lib.hid (hL.low (hb1.mono hB));have Hb0:=Lib.hid (hb0.trans (hb1.mono hB));have x0:=hO0.cell (i:=0) rfl;clear hW0 hO0 hb1 hL hb0;go_enter Tryz.func63,Tryz.ntmps63
 go_upto_region 1 with (fail)
 rw [← HW0.out];go_wp2_with fail
 go_at_call 97;refine HBi.out.mono ?_;rintro e1 w1 ⟨rfl,hb2⟩;have hs1:=hb2.size;have HO1:=Lib.hid (HO0.out.below hb2 (Nat.le_refl _));have HB1:=Lib.hid (Hb1.out.trans (hb2.mono Hb1.out.size));have hs0:=Hb1.out.size;have HL1:=Lib.hid (HL.out.low (hb2.mono (Nat.le_trans hB hs0)));have Hb0:=Lib.hid (Hb0.out.trans (hb2.mono (Nat.le_trans hB hs0)));have hlt1:=HO1.out.lt;clear hb2 x0 HO0 Hb1 HL HBi;have x0:=HO1.out.cell (i:=0) rfl;have HO2:=HO1;have HL2:=HL1;have HB2:=HB1;have hen:=enters_written1;have hb23:B≤w1.heap.size:=by omega
 clear HO1 HL1 HB1;have HA0:Hid (∀ W,Below w1.heap.size w1 W→Calls Tryz.prog 96 #[.int .i64 0,.int .i64 3,.pointer (some ⟨w.heap.size,0,none⟩)] W (TxtE (writeP x 4) W)):=Lib.hid (fun W hb=>written1_any (w0:=w0) (i:=0) (lv:=3) (y:=x) (HO2.out.below hb (Nat.le_refl _)) (HL2.out.low (hb.mono (by omega))) (Hb0.out.trans (hb.mono (by omega))) (by have:=hb.size;omega) (by omega) rfl h0);obtain ⟨T0,hT0⟩:∃ T,writeP x 4=T:=⟨_,rfl⟩;obtain ⟨S0,hS0⟩:∃ S,bstr T0=S:=⟨_,rfl⟩;have hln0:S0.size≤1000000000000000:=by rw [← hS0,pr_len,← hT0];exact hz0 _
 rw [hT0] at HA0;unfold TxtE at HA0;simp only [hS0] at HA0;have HS0:=Lib.hid (show S0=bstr (writeP x 4) from by rw [hT0,hS0]);clear hT0 hS0;have HA1:Hid (∀ W,Below w1.heap.size w1 W→Calls Tryz.prog 96 #[.int .i64 1,.int .i64 3,.pointer (some ⟨w.heap.size,0,none⟩)] W (TxtE (writeP y (2+2)) W)):=Lib.hid (fun W hb=>written1_any (w0:=w0) (i:=1) (lv:=3) (y:=y) (HO2.out.below hb (Nat.le_refl _)) (HL2.out.low (hb.mono (by omega))) (Hb0.out.trans (hb.mono (by omega))) (by have:=hb.size;omega) (by omega) rfl h1);obtain ⟨T1,hT1⟩:∃ T,writeP y (2+2)=T:=⟨_,rfl⟩;obtain ⟨S1,hS1⟩:∃ S,bstr T1=S:=⟨_,rfl⟩;have hln1:S1.size≤1000000000000000:=by rw [← hS1,pr_len,← hT1];exact hz1 _
 rw [hT1] at HA1;unfold TxtE at HA1;simp only [hS1] at HA1;have HS1:=Lib.hid (show S1=bstr (writeP y (2+2)) from by rw [hT1,hS1]);clear hT1 hS1;go_wp2_with fail
 refine (HA0.out _ (Below.refl _ _)).mono ?_;rintro e3 w3 ⟨rfl,hb3⟩;have Hw3:=Lib.hid hb3;clear hb3 HA0;go_wp2_with fail
 refine (HA1.out _ Hw3.out).mono ?_;rintro e4 w4 ⟨rfl,hb3⟩;have Hw4:=Lib.hid (Hw3.out.trans (hb3.mono Hw3.out.size));clear hb3 HA1;have hw4:=HB2.out.trans (Hw4.out.mono HB2.out.size);have Hw5:=Lib.hid hw4;clear hw4 x0;by_cases hlm:2 < lv
 ·have hli:2 < (lv:Int):=by omega
  go_wp2_with fail
  refine bodyPost_ret (v:=.string (({ data:=#[40] }++((((S0++{ data:=#[32] })++SG)++{ data:=#[32] })++S1))++{ data:=#[41] })) (by simp [results,Tryz.results63,go_sem]) rfl ⟨?_,Hw5.out⟩;rw [← HTX.out,HS0.out,HS1.out,← HSG.out];unfold partW;rw [if_pos (by show 2+1 < lv+1;omega)];simp [pr_app,bs_lit]
 ·have hli:¬ 2 < (lv:Int):=by omega
  go_wp2_with fail
  refine bodyPost_ret (v:=.string ((((S0++{ data:=#[32] })++SG)++{ data:=#[32] })++S1)) (by simp [results,Tryz.results63,go_sem]) rfl ⟨?_,Hw5.out⟩;rw [← HTX.out,HS0.out,HS1.out,← HSG.out];unfold partW;rw [if_neg (by show ¬ 2+1 < lv+1;omega)];simp [pr_app,bs_lit]
set_option maxRecDepth 100000 in
set_option maxHeartbeats 1000000 in
theorem written_binn {w0 w:World} {B:Nat} {op:Int} {x y:Ex} {m:Nat} (hm:bindS op=m+1) (hm5:m < 5) (hm2:m≠2) (hsg:signOf op≠[]) (hsl:(signOf op).length≤2) (h0:WrC w0 B x) (h1:WrC w0 B y) (hz0:∀ k,(writeP x k).length≤1000000000000000) (hz1:∀ k,(writeP y k).length≤1000000000000000) {v:Value} (hL:EsL w B [x,y] v) (hb0:Below B w0 w) (hB:B≤w.heap.size) (lv:Nat) (hlv:lv≤5) :
  Calls Tryz.prog 63 #[.agg #[.int .u8 op,.int .i64 0,.string { data:=#[] },v],.int .i64 lv] w (TxtE (partW (m+1,partW (bindE x,writeE x) (leftB (m+1))++[32]++signOf op++[32]++partW (bindE y,writeE y) (m+2)) (lv+1)) w):=by
 obtain ⟨a,cap,rfl,hc1,hc2⟩:=hL.form;have hmf:∀ (fn:Fn) (first cap:Array Value) (w:World),(Instr.makeFunc fn first cap).run Tryz.prog w=.ok (.func fn first cap) w:=fun _ _ _ _=>rfl
 obtain ⟨W0,hW0,hb1,hO0⟩:∃ W0,W0=w.alloc (.cells #[.int .u8 op,.int .i64 0,.string { data:=#[] },.slice a 2 cap] 29)∧Below w.heap.size w W0∧OwnV W0 w.heap.size 29 [.int .u8 op,.int .i64 0,.string { data:=#[] },.slice a 2 cap]:=⟨_,rfl,(Below.refl _ _).alloc (Nat.le_refl _) _,OwnV.new _ _ _⟩;have HBi:=Lib.hid (binds_any op W0);have hT:signT op=signOf op:=by unfold signT;rw [if_pos (by omega)]
 rw [hm,hT,show ((m+1:Nat):Int) - 1=(m:Int) from by omega] at HBi;rw [show partW (bindE x,writeE x) (leftB (m+1))=writeP x (leftB (m+1)) from by cases x;rfl,show partW (bindE y,writeE y) (m+2)=writeP y (m+2) from by cases y;rfl];have hlb:leftB (m+1)=(m+1):=by unfold leftB;rw [if_neg (by omega)]
 rw [hlb];obtain ⟨TX,hTX⟩:∃ T,(partW (m+1,writeP x (m+1)++[32]++signOf op++[32]++writeP y (m+2)) (lv+1))=T:=⟨_,rfl⟩;rw [hTX];have HTX:=Lib.hid hTX;clear hTX hlb;obtain ⟨SG,hSG⟩:∃ S,bstr (signOf op)=S:=⟨_,rfl⟩;have hsn:¬ SG.toList=[]:=fun h=>hsg (str_nil.1 (by rw [hSG];exact h))
 have hsn2:SG.toList.isEmpty=false:=by rw [List.isEmpty_eq_false_iff];exact hsn
 have hsn3:(SG.toList != [])=true:=by simpa using hsn
 have hsn4:(SG.toList == [])=false:=by simpa using hsn
 have hsz:SG.size≤2:=by rw [← hSG,pr_len];exact hsl
 rw [hSG] at HBi;have HSG:=Lib.hid hSG;clear hSG hT hsg hsl;have HW0:=Lib.hid hW0;have HO0:=Lib.hid hO0;have Hb1:=Lib.hid hb1;have HL:=Lib.hid (hL.low (hb1.mono hB));have Hb0:=Lib.hid (hb0.trans (hb1.mono hB));have x0:=hO0.cell (i:=0) rfl;clear hW0 hO0 hb1 hL hb0;go_enter Tryz.func63,Tryz.ntmps63
 go_upto_region 1 with (fail)
 rw [← HW0.out];go_wp2_with fail
 go_at_call 97;refine HBi.out.mono ?_;rintro e1 w1 ⟨rfl,hb2⟩;have hs1:=hb2.size;have HO1:=Lib.hid (HO0.out.below hb2 (Nat.le_refl _));have HB1:=Lib.hid (Hb1.out.trans (hb2.mono Hb1.out.size));have hs0:=Hb1.out.size;have HL1:=Lib.hid (HL.out.low (hb2.mono (Nat.le_trans hB hs0)));have Hb0:=Lib.hid (Hb0.out.trans (hb2.mono (Nat.le_trans hB hs0)));have hlt1:=HO1.out.lt;clear hb2 x0 HO0 Hb1 HL HBi;have x0:=HO1.out.cell (i:=0) rfl;have HO2:=HO1;have HL2:=HL1;have HB2:=HB1;have hen:=enters_written1;have hb23:B≤w1.heap.size:=by omega
 have hm5i:(m:Int) < 5:=by omega
 have hi1:IntKind.i64.wrap ((m:Int)+1)=(m:Int)+1:=IntWalk.i64_in _ (by omega);clear HO1 HL1 HB1;have HA0:Hid (∀ W,Below w1.heap.size w1 W→Calls Tryz.prog 96 #[.int .i64 0,.int .i64 (m:Int),.pointer (some ⟨w.heap.size,0,none⟩)] W (TxtE (writeP x (m+1)) W)):=Lib.hid (fun W hb=>written1_any (w0:=w0) (i:=0) (lv:=m) (y:=x) (HO2.out.below hb (Nat.le_refl _)) (HL2.out.low (hb.mono (by omega))) (Hb0.out.trans (hb.mono (by omega))) (by have:=hb.size;omega) (by omega) rfl h0);obtain ⟨T0,hT0⟩:∃ T,writeP x (m+1)=T:=⟨_,rfl⟩;obtain ⟨S0,hS0⟩:∃ S,bstr T0=S:=⟨_,rfl⟩;have hln0:S0.size≤1000000000000000:=by rw [← hS0,pr_len,← hT0];exact hz0 _
 rw [hT0] at HA0;unfold TxtE at HA0;simp only [hS0] at HA0;have HS0:=Lib.hid (show S0=bstr (writeP x (m+1)) from by rw [hT0,hS0]);clear hT0 hS0;have HA1:Hid (∀ W,Below w1.heap.size w1 W→Calls Tryz.prog 96 #[.int .i64 1,.int .i64 ((m:Int)+1),.pointer (some ⟨w.heap.size,0,none⟩)] W (TxtE (writeP y (m+2)) W)):=Lib.hid (fun W hb=>written1_any (w0:=w0) (i:=1) (lv:=(m+1)) (y:=y) (HO2.out.below hb (Nat.le_refl _)) (HL2.out.low (hb.mono (by omega))) (Hb0.out.trans (hb.mono (by omega))) (by have:=hb.size;omega) (by omega) rfl h1);obtain ⟨T1,hT1⟩:∃ T,writeP y (m+2)=T:=⟨_,rfl⟩;obtain ⟨S1,hS1⟩:∃ S,bstr T1=S:=⟨_,rfl⟩;have hln1:S1.size≤1000000000000000:=by rw [← hS1,pr_len,← hT1];exact hz1 _
 rw [hT1] at HA1;unfold TxtE at HA1;simp only [hS1] at HA1;have HS1:=Lib.hid (show S1=bstr (writeP y (m+2)) from by rw [hT1,hS1]);clear hT1 hS1;have hm2i:¬ (m:Int)=2:=by omega
 have hm2b:((m:Int) == 2)=false:=by simpa using hm2i
 go_wp2_with fail
 refine (HA0.out _ (Below.refl _ _)).mono ?_;rintro e3 w3 ⟨rfl,hb3⟩;have Hw3:=Lib.hid hb3;clear hb3 HA0;go_wp2_with fail
 refine (HA1.out _ Hw3.out).mono ?_;rintro e4 w4 ⟨rfl,hb3⟩;have Hw4:=Lib.hid (Hw3.out.trans (hb3.mono Hw3.out.size));clear hb3 HA1;have hw4:=HB2.out.trans (Hw4.out.mono HB2.out.size);have Hw5:=Lib.hid hw4;clear hw4 x0;by_cases hlm:m < lv
 ·have hli:(m:Int) < (lv:Int):=by omega
  go_wp2_with fail
  refine bodyPost_ret (v:=.string (({ data:=#[40] }++((((S0++{ data:=#[32] })++SG)++{ data:=#[32] })++S1))++{ data:=#[41] })) (by simp [results,Tryz.results63,go_sem]) rfl ⟨?_,Hw5.out⟩;rw [← HTX.out,HS0.out,HS1.out,← HSG.out];unfold partW;rw [if_pos (by show m+1 < lv+1;omega)];simp [pr_app,bs_lit]
 ·have hli:¬ (m:Int) < (lv:Int):=by omega
  go_wp2_with fail
  refine bodyPost_ret (v:=.string ((((S0++{ data:=#[32] })++SG)++{ data:=#[32] })++S1)) (by simp [results,Tryz.results63,go_sem]) rfl ⟨?_,Hw5.out⟩;rw [← HTX.out,HS0.out,HS1.out,← HSG.out];unfold partW;rw [if_neg (by show ¬ m+1 < lv+1;omega)];simp [pr_app,bs_lit]
end Go.Proofs.YtoaojdobjinhfaaGreatDoor
namespace Go.Proofs.YtoaojdobjinhfaaGreatDoor
open Go.RowKit

theorem part_len (p:Nat × List UInt8) (k:Nat):(partW p k).length≤p.2.length+2:=by
 unfold partW;split
 ·simp only [List.length_append,List.length_cons,List.length_nil];omega
 ·omega
theorem writeP_len (x:Ex) (k:Nat):(writeP x k).length≤(writeE x).length+2:=by
 cases x;exact part_len _ k
theorem kindW_len {n:Int} (h0:1≤n) (h1:n≤10):(kindWords.getD (n - 1).toNat []).length≤6:=by
 have:n=1∨n=2∨n=3∨n=4∨n=5∨n=6∨n=7∨n=8∨n=9∨n=10:=by omega
 rcases this with rfl | rfl | rfl | rfl | rfl | rfl | rfl | rfl | rfl | rfl <;> decide
theorem signOf_len {op:Int} (h0:10≤op) (h1:op≤22):(signOf op).length≤2∧signOf op≠[]:=by
 have:op=10∨op=11∨op=12∨op=13∨op=14∨op=15∨op=16∨op=17∨op=18∨op=19∨op=20∨op=21∨op=22:=by omega
 rcases this with rfl | rfl | rfl | rfl | rfl | rfl | rfl | rfl | rfl | rfl | rfl | rfl | rfl <;> decide
theorem dec_len {n:Int} (h0:0≤n) (h1:n≤9223372036854775807):(Lib.decDigits n.toNat).length≤21:=by
 have:=Lib.itoa_length_le n (by omega) h1;unfold Lib.itoa at this;rwa [if_neg (by omega)] at this
theorem wordS_len {s:List UInt8} (h:wordS s=true):s.length≤24:=by
 cases s with
 | nil=>exact Nat.zero_le _
 | cons b r =>
  simp only [wordS,Bool.and_eq_true,decide_eq_true_eq] at h;exact h.1.1
theorem write_len:∀ {d:Nat} {x:Ex},Shp d x→(writeE x).length+24≤24 * 2 ^ d:=by
 intro d x h;have e:∀ k,2 ^ (k+1)=2 * 2 ^ k:=fun k=>by rw [Nat.pow_succ];omega
 have p:∀ k,1≤2 ^ k:=fun k=>Nat.one_le_two_pow
 induction h with
 | @num d n h0 h1=>rw [write_num,e];have:=dec_len h0 h1;have:=p d;omega
 | @var d s h=>rw [write_var,e];have:=wordS_len (name_parts h).1;have:=p d;omega
 | @comp d n a h0 h1 _ ih=>rw [write_comp,e];simp only [List.length_append,List.length_cons,List.length_nil];have:=kindW_len h0 h1;have:=p d;omega
 | @leaf d op h =>
  have:=p d;rcases h with rfl | rfl
  ·rw [write_tick,e];simp only [List.length_cons,List.length_nil];omega
  ·rw [write_self,e];simp only [List.length_cons,List.length_nil];omega
 | @call d op a ho _ ih =>
  have:=p d;rcases ho with rfl | rfl
  ·rw [write_rand,e];simp only [List.length_append,List.length_cons,List.length_nil];omega
  ·rw [write_abs,e];simp only [List.length_append,List.length_cons,List.length_nil];omega
 | @pre d op a ho _ ih =>
  have:=p d;have:=part_len (bindE a,writeE a) 6;simp only at this;rcases ho with rfl | rfl
  ·rw [write_neg,e];simp only [List.length_append,List.length_cons,List.length_nil];omega
  ·rw [write_not,e];simp only [List.length_append,List.length_cons,List.length_nil];omega
 | @bin d op a b h0 h1 _ _ iha ihb =>
  rw [write_bin h0 h1,e];simp only [List.length_append,List.length_cons,List.length_nil];have:=part_len (bindE a,writeE a) (leftB (bindS op));have:=part_len (bindE b,writeE b) (bindS op+1);have:=(signOf_len h0 h1).1
  simp only at *
  omega
 | @two d op a b ho _ _ iha ihb =>
  have:=p d;rcases ho with rfl | rfl
  ·rw [write_min,e];simp only [List.length_append,List.length_cons,List.length_nil];omega
  ·rw [write_max,e];simp only [List.length_append,List.length_cons,List.length_nil];omega
theorem write_small {d:Nat} {x:Ex} (h:Shp d x) (hd:d≤40) (k:Nat):(writeP x k).length≤1000000000000000:=by
 have h1:=write_len h;have h2:=writeP_len x k;have h3:2 ^ d≤2 ^ 40:=Nat.pow_le_pow_right (by decide) hd;have h4:(2:Nat) ^ 40=1099511627776:=by decide
 omega
theorem writeP_one (x:Ex):writeP x 1=writeE x:=by
 cases x with
 | mk op n name args =>
  show partW (bindS op,_) 1=_;unfold partW;have:=bind_pos (.mk op n name args);rw [if_neg (by show ¬ bindS op < 1;have h:bindE (.mk op n name args)=bindS op:=rfl;omega)]
theorem writeP_six {op n:Int} {name:List UInt8} {args:List Ex} (h:bindS op=6) {k:Nat} (hk:k≤6):writeP (.mk op n name args) k=writeE (.mk op n name args):=by
 show partW (bindS op,_) k=_;unfold partW;rw [if_neg (by show ¬ bindS op < k;omega)]
theorem written_shp {w0:World} {B:Nat} (hG:Glob w0) (hB:glB≤B):∀ {d:Nat} {x:Ex},Shp d x→d≤40→WrC w0 B x:=by
 intro d x h
 induction h with
 | @num d n h0 h1 =>
  intro hd op' n' name' args' v w lv e hb0 hBw hL hlv;cases e;rw [writeP_six rfl (by omega),write_num]
  exact written_num h0 h1 (hG.below hb0 hB) hL hb0 hBw lv hlv
 | @var d s h =>
  intro hd op' n' name' args' v w lv e hb0 hBw hL hlv;cases e;rw [writeP_six rfl (by omega),write_var]
  exact written_var hL hb0 hBw lv hlv
 | @comp d n a h0 h1 hs ih =>
  intro hd op' n' name' args' v w lv e hb0 hBw hL hlv;cases e;rw [writeP_six rfl (by omega),write_comp,← writeP_one];obtain ⟨N,rfl⟩:∃ N:Nat,n=(N:Int):=⟨n.toNat,by omega⟩;rw [show ((N:Int) - 1).toNat=N - 1 from by omega]
  exact written_comp (by omega) (by omega) (ih (by omega)) (write_small hs (by omega)) hL hb0 hBw lv hlv
 | @leaf d op h =>
  intro hd op' n' name' args' v w lv e hb0 hBw hL hlv;cases e;rcases h with rfl | rfl
  ·rw [writeP_six rfl (by omega),write_tick];exact written_tick hL hb0 hBw lv hlv
  ·rw [writeP_six rfl (by omega),write_self];exact written_self hL hb0 hBw lv hlv
 | @call d op a ho hs ih =>
  intro hd op' n' name' args' v w lv e hb0 hBw hL hlv;cases e;rcases ho with rfl | rfl
  ·rw [writeP_six rfl (by omega),write_rand,← writeP_one];exact written_rand (ih (by omega)) (write_small hs (by omega)) hL hb0 hBw lv hlv
  ·rw [writeP_six rfl (by omega),write_abs,← writeP_one];exact written_abs (ih (by omega)) (write_small hs (by omega)) hL hb0 hBw lv hlv
 | @pre d op a ho hs ih =>
  intro hd op' n' name' args' v w lv e hb0 hBw hL hlv;cases e;have hp:partW (bindE a,writeE a) 6=writeP a 6:=by cases a;rfl
  rcases ho with rfl | rfl
  ·rw [writeP_six rfl (by omega),write_neg,hp];exact written_neg (ih (by omega)) (write_small hs (by omega)) hL hb0 hBw lv hlv
  ·rw [writeP_six rfl (by omega),write_not,hp];exact written_not (ih (by omega)) (write_small hs (by omega)) hL hb0 hBw lv hlv
 | @bin d op a b h0 h1 ha hb iha ihb =>
  intro hd op' n' name' args' v w lv e hb0 hBw hL hlv;cases e;obtain ⟨-,-,hb1,hb5⟩:=sign_op h0 h1;obtain ⟨m,hm⟩:∃ m,bindS op=m+1:=⟨bindS op - 1,by omega⟩;obtain ⟨hsl,hsn⟩:=signOf_len h0 h1
  have ht:writeP (.mk op 0 [] [a,b]) (lv+1)=partW (m+1,partW (bindE a,writeE a) (leftB (m+1))++[32]++signOf op++[32]++partW (bindE b,writeE b) (m+2)) (lv+1):=by
   show partW (bindS op,writeE (.mk op 0 [] [a,b])) (lv+1)=_;rw [write_bin h0 h1,hm]
  rw [ht];by_cases hm2:m=2
  ·subst hm2;exact written_bin2 (m:=2) hm (by omega) rfl hsn hsl (iha (by omega)) (ihb (by omega)) (write_small ha (by omega)) (write_small hb (by omega)) hL hb0 hBw lv hlv
  ·exact written_binn hm (by omega) hm2 hsn hsl (iha (by omega)) (ihb (by omega)) (write_small ha (by omega)) (write_small hb (by omega)) hL hb0 hBw lv hlv
 | @two d op a b ho ha hb iha ihb =>
  intro hd op' n' name' args' v w lv e hb0 hBw hL hlv;cases e;rcases ho with rfl | rfl
  ·rw [writeP_six rfl (by omega),write_min,← writeP_one a,← writeP_one b];exact written_min (iha (by omega)) (ihb (by omega)) (write_small ha (by omega)) (write_small hb (by omega)) hL hb0 hBw lv hlv
  ·rw [writeP_six rfl (by omega),write_max,← writeP_one a,← writeP_one b];exact written_max (iha (by omega)) (ihb (by omega)) (write_small ha (by omega)) (write_small hb (by omega)) hL hb0 hBw lv hlv
theorem EsL.mono {w:World} {B B':Nat} {xs:List Ex} {v:Value} (h:EsL w B xs v) (hB:B≤B'):EsL w B' xs v:=by
 obtain ⟨cs,h1,h2,h3⟩:=h;exact ⟨cs,h1,h2.imp id fun k g e=>Nat.lt_of_lt_of_le (k g e) hB,h3.weak fun g _ hg=>Nat.lt_of_lt_of_le hg hB⟩
def exprTextS (x : Ex) : List UInt8 × Int := if fineS 40 x = true then shortW (writeE x) else ([], 2)
def TextE (r : List UInt8 × Int) (w : World) (e : Ending) (w' : World) : Prop := e = .returned (.tuple #[.string (bstr r.1), .int .i64 r.2]) ∧ Below w.heap.size w w'
set_option maxRecDepth 100000 in
set_option maxHeartbeats 1000000 in
theorem exprText_any {w:World} {B:Nat} {op n:Int} {name:List UInt8} {args:List Ex} {v:Value} (hG:Glob w) (hok:okE (.mk op n name args)) (hL:EsL w B args v) (hB:B≤w.heap.size) :
  Calls Tryz.prog 33 #[.agg #[.int .u8 op,.int .i64 n,.string (bstr name),v]] w (TextE (exprTextS (.mk op n name args)) w):=by
 obtain ⟨a,cap,rfl,hc1,hc2⟩:=hL.form;have hLw:=hL.mono hB;obtain ⟨W0,hW0,hb0,hO0⟩:∃ W0,W0=w.alloc (.cells #[.int .u8 op,.int .i64 n,.string (bstr name),.slice a args.length cap] 29)∧Below w.heap.size w W0∧OwnV W0 w.heap.size 29 [.int .u8 op,.int .i64 n,.string (bstr name),.slice a args.length cap]:=⟨_,rfl,(Below.refl _ _).alloc (Nat.le_refl _) _,OwnV.new _ _ _⟩;have HFi:=Lib.hid (pfine_any 40 (by omega) op n name args (.slice a args.length cap) W0 w.heap.size hok (hLw.low hb0) hb0.size)
 have HWr:Hid (fineS 40 (.mk op n name args)=true→∀ W,Below w.heap.size w W→Calls Tryz.prog 63 #[.agg #[.int .u8 op,.int .i64 n,.string (bstr name),.slice a args.length cap],.int .i64 0] W (TxtE (writeE (.mk op n name args)) W)):=Lib.hid (fun hf W hb=>by
  have:=written_shp hG hG.size (shp_fine 40 _ hf hok) (by omega) op n name args (.slice a args.length cap) W 0 rfl (hb.mono (Nat.le_refl _)) hb.size (hLw.low hb) (by omega)
  rwa [writeP_one] at this)
 unfold exprTextS
 generalize hT:writeE (.mk op n name args)=T at *
 generalize fineS 40 (.mk op n name args)=q at *
 have HW0:=Lib.hid hW0;have Hb0:=Lib.hid hb0;have HO0:=Lib.hid hO0;have x0:=hO0.cell (i:=0) rfl;have x1:=hO0.cell (i:=1) rfl;have x2:=hO0.cell (i:=2) rfl;have x3:=hO0.cell (i:=3) rfl;clear hW0 hb0 hO0 hG hok hL hLw hT
 cases q with
 | false =>
  rw [if_neg (by decide)];go_enter Tryz.func33,Tryz.ntmps33
  go_upto_region 1 with (fail)
  rw [← HW0.out];go_wp2_with fail
  go_at_call 62;refine HFi.out.mono ?_;rintro e1 w1 ⟨rfl,hb1⟩;have Hb1:=Lib.hid (Hb0.out.trans (hb1.mono Hb0.out.size));clear hb1;go_wp2_with fail
  exact bodyPost_ret (v:=.tuple #[.string { data:=#[] },.int .i64 2]) (by simp [results,Tryz.results33,go_sem]) rfl ⟨rfl,Hb1.out⟩
 | true =>
  rw [if_pos rfl];have HWr2:=Lib.hid (HWr.out rfl);clear HWr;go_enter Tryz.func33,Tryz.ntmps33
  go_upto_region 1 with (fail)
  rw [← HW0.out];go_wp2_with fail
  go_at_call 62;refine HFi.out.mono ?_;rintro e1 w1 ⟨rfl,hb1⟩;have Hb1:=Lib.hid (Hb0.out.trans (hb1.mono Hb0.out.size));have hO1:=HO0.out.below hb1 (Nat.le_refl _);clear hb1 x0 x1 x2 x3;have x0:=hO1.cell (i:=0) rfl;have x1:=hO1.cell (i:=1) rfl;have x2:=hO1.cell (i:=2) rfl;have x3:=hO1.cell (i:=3) rfl;have HC:=Lib.hid (HWr2.out w1 Hb1.out);clear hO1 HWr2;go_wp2_with fail
  go_at_call 63;refine HC.out.mono ?_;rintro e2 w2 ⟨rfl,hb2⟩;have Hb2:=Lib.hid (Hb1.out.trans (hb2.mono Hb1.out.size));have HSh:=Lib.hid (short_any (bstr T) w2);clear hb2 HC x0 x1 x2 x3;have hsw:(shortW T)=(if 16384 < T.length then ([],3) else (T,0)):=rfl;rw [pr_len] at HSh;by_cases hT:16384 < T.length
  ·rw [if_pos hT] at hsw;rw [if_pos hT,if_pos hT] at HSh;have Hsw:=Lib.hid hsw;clear hsw;go_wp2_with fail
   go_at_call 55;refine HSh.out.mono ?_;rintro e3 w3 ⟨rfl,rfl⟩;go_wp2_with fail
   exact bodyPost_ret (v:=.tuple #[.string { data:=#[] },.int .i64 3]) (by simp [results,Tryz.results33,go_sem]) rfl ⟨by rw [Hsw.out];rfl,Hb2.out⟩
  ·rw [if_neg hT] at hsw;rw [if_neg hT,if_neg hT] at HSh;have Hsw:=Lib.hid hsw;clear hsw;go_wp2_with fail
   go_at_call 55;refine HSh.out.mono ?_;rintro e3 w3 ⟨rfl,rfl⟩;go_wp2_with fail
   exact bodyPost_ret (v:=.tuple #[.string (bstr T),.int .i64 0]) (by simp [results,Tryz.results33,go_sem]) rfl ⟨by rw [Hsw.out],Hb2.out⟩
end Go.Proofs.YtoaojdobjinhfaaGreatDoor
