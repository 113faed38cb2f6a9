/- The program's printer: written, the greater cases. Printed by gen_pwritten.py. -/
import Derived.Test.YtoaojdobjinhfaaGreatDoorPrAC
import Derived.Test.YtoaojdobjinhfaaGreatDoorQFuncC
set_option linter.unusedSimpArgs false
set_option linter.unusedVariables false
set_option maxRecDepth 100000
set_option maxHeartbeats 1000000
namespace Go.Proofs.YtoaojdobjinhfaaGreatDoor
open Go.RowKit

theorem zjG {N:Nat} (h1:1≤N) (h2:N≤10):kindWordsP[N]? = some (kindWords.getD (N - 1) []):=by
 have:N=1∨N=2∨N=3∨N=4∨N=5∨N=6∨N=7∨N=8∨N=9∨N=10:=by omega
 rcases this with rfl | rfl | rfl | rfl | rfl | rfl | rfl | rfl | rfl | rfl <;> rfl
theorem zkq {w:World} {v:Value} (h:Strs w kindWordsP v) {N:Nat} (h1:1≤N) (h2:N≤10):∃ b off cap,v=.slice (some ⟨b,off,none⟩) 11 cap∧w.cell? ⟨b,off+N,none⟩=some (.string (bstr (kindWords.getD (N - 1) []))):=by
 obtain ⟨a,cap,rfl,-,-,-,hc⟩:=h;obtain ⟨b,off,rfl,hh⟩:=hc (by decide);refine ⟨b,off,cap,rfl,?_⟩;rw [hh N (by show N < 11 * 1;omega),List.getElem?_map,zjG h1 h2];rfl
theorem ziv {w0 w:World} {B:Nat} {x:Ex} {N:Nat} (hn1:1≤N) (hn2:N≤10) (h0:WrC w0 B x) (hz0:∀ k,(zak x k).length≤1000000000000000) {v:Value} (hL:EsL w B [x] v) (hb0:Below B w0 w) (hB:B≤w.heap.size) (lv:Nat) (hlv:lv≤5) :
  Calls Tryz.prog 63 #[.agg #[.int .u8 3,.int .i64 (N:Int),.string { data:=#[] },v],.int .i64 lv] w (TxtE (kindWords.getD (N - 1) []++[91]++zak x 1++[93]) w):=by
 obtain ⟨a,cap,rfl,hc1,hc2⟩:=hL.form;have hmf:=zmf Tryz.prog
 obtain ⟨W0,hW0,hb1,hO0⟩:∃ W0,W0=w.alloc (.cells #[.int .u8 3,.int .i64 (N:Int),.string { data:=#[] },.slice a 1 cap] 29)∧Below w.heap.size w W0∧OwnV W0 w.heap.size 29 [.int .u8 3,.int .i64 (N:Int),.string { data:=#[] },.slice a 1 cap]:=⟨_,rfl,(Below.refl _ _).alloc (zr _) _,OwnV.new _ _ _⟩;have HBi:=zh (zbw 3 W0);have hB6:zar 3=6:=by decide
 rw [hB6,zbW hB6,show bstr []=({ data:=#[] }:ByteArray) from rfl] at HBi;obtain ⟨TX,hTX⟩:∃ T,(kindWords.getD (N - 1) []++[91]++zak x 1++[93])=T:=⟨_,rfl⟩;rw [hTX];have HTX:=zh hTX;clear hTX;have HW0:=zh hW0;have HO0:=zh hO0;have Hb1:=zh hb1;have HL:=zh (hL.low (hb1.mono hB));have Hb0:=zh (hb0.trans (hb1.mono hB));have x0:=hO0.cell (i:=0) rfl;clear hW0 hO0 hb1 hL hb0;go_enter Tryz.func63,Tryz.ntmps63
 go_upto_region 1 with (fail)
 rw [← HW0.out];go_wp2_with fail
 go_at_call 97;refine HBi.out.mono ?_;rintro e1 w1 ⟨rfl,hb2⟩;have hs1:=hb2.size;have HO1:=zh (HO0.out.below hb2 (zr _));have HB1:=zh (Hb1.out.trans (hb2.mono Hb1.out.size));have hs0:=Hb1.out.size;have HL1:=zh (HL.out.low (hb2.mono (Nat.le_trans hB hs0)));have Hb0:=zh (Hb0.out.trans (hb2.mono (Nat.le_trans hB hs0)));have hlt1:=HO1.out.lt;clear hb2 x0 HO0 Hb1 HL HBi;have x0:=HO1.out.cell (i:=0) rfl;have HLv:=zh (za7 w1);go_wp2_with fail
 go_at_call 98;refine HLv.out.mono ?_;rintro e2 w2 ⟨rfl,-,hb3⟩;have hs2:=hb3.size;have HO2:=zh (HO1.out.below hb3 (zr _));have HB2:=zh (HB1.out.trans (hb3.mono HB1.out.size));have hs10:w.heap.size≤w1.heap.size:=HB1.out.size;have HL2:=zh (HL1.out.low (hb3.mono (Nat.le_trans hB hs10)));have Hb0:=zh (Hb0.out.trans (hb3.mono (Nat.le_trans hB hs10)));have hlt2:=HO2.out.lt;have hb23:B≤w2.heap.size:=by omega
 clear hb3 x0 HLv HO1 HL1 HB1;have HA0:Hid (∀ W,Below w2.heap.size w2 W→Calls Tryz.prog 96 #[.int .i64 0,.int .i64 0,.pointer (some ⟨w.heap.size,0,none⟩)] W (TxtE (zak x 1) W)):=zh (fun W hb=>za1 (w0:=w0) (i:=0) (lv:=0) (y:=x) (HO2.out.below hb (zr _)) (HL2.out.low (hb.mono (by omega))) (Hb0.out.trans (hb.mono (by omega))) (by have:=hb.size;omega) (by omega) rfl h0);obtain ⟨T0,hT0⟩:∃ T,zak x 1=T:=⟨_,rfl⟩;obtain ⟨S0,hS0⟩:∃ S,bstr T0=S:=⟨_,rfl⟩;have hln0:S0.size≤1000000000000000:=by rw [← hS0,zaC,← hT0];exact hz0 _
 rw [hT0] at HA0;unfold TxtE at HA0;simp only [hS0] at HA0;have HS0:=zh (show S0=bstr (zak x 1) from by rw [hT0,hS0]);clear hT0 hS0;have hen:=zbf;have x0:=HO2.out.cell (i:=0) rfl;have x1:=HO2.out.cell (i:=1) rfl;obtain ⟨KW,hKW⟩:∃ K,bstr (kindWords.getD (N - 1) [])=K:=⟨_,rfl⟩
 have hkl:KW.size≤100:=by
  rw [← hKW,zaC];have:N=1∨N=2∨N=3∨N=4∨N=5∨N=6∨N=7∨N=8∨N=9∨N=10:=by omega
  rcases this with rfl | rfl | rfl | rfl | rfl | rfl | rfl | rfl | rfl | rfl <;> decide
 have HKW:=zh hKW;have hN1:(0:Int)≤(N:Int):=by omega
 have hN2:(N:Int) < 11:=by omega
 have hN3:¬ (N:Int) < 0:=by omega
 clear hKW;go_upto_region 18 with (fail)
 go_region_with (first | (go_at_call 50;refine (zgz _).mono ?_;rintro e3 w3 ⟨v3,rfl,hS3,hb3⟩;obtain ⟨kb,koff,kcap,rfl,kc⟩:=zkq hS3 hn1 hn2;rw [HKW.out] at kc;have hb3':Below w2.heap.size w2 w3:=((Below.refl _ _).drew).trans hb3;have x1:=(HO2.out.below hb3' (zr _)).cell (i:=1) rfl;clear hS3) | (refine (HA0.out _ hb3').mono ?_;rintro e4 w4 ⟨rfl,hb4⟩;have kc:=Below.keep hb4 kc;have hb4':=hb3'.trans (hb4.mono hb3'.size);have x1:=(HO2.out.below hb4' (zr _)).cell (i:=1) rfl))
 all_goals
  have Hb4:=zh hb4';clear hb4' hb3' hb4 hb3 x0 x1 kc;go_wp2_with fail
  refine bodyPost_ret (v:=.string (((KW++{ data:=#[91] })++S0)++{ data:=#[93] })) (by simp [results,Tryz.results63,go_sem]) rfl ⟨?_,by first | exact HB2.out.trans (Hb4.out.mono HB2.out.size) | exact (HB2.out.trans (Hb4.out.mono HB2.out.size)).drew⟩;rw [← HTX.out,HS0.out,← HKW.out];simp [zax,zbV]
theorem ziw {w0 w:World} {B:Nat} {op:Int} {x y:Ex} {m:Nat} (hm:zar op=m+1) (hm5:m < 5) (hm2:m=2) (hsg:zaO op≠[]) (hsl:(zaO op).length≤2) (h0:WrC w0 B x) (h1:WrC w0 B y) (hz0:∀ k,(zak x k).length≤1000000000000000) (hz1:∀ k,(zak y k).length≤1000000000000000) {v:Value} (hL:EsL w B [x,y] v) (hb0:Below B w0 w) (hB:B≤w.heap.size) (lv:Nat) (hlv:lv≤5) :
  Calls Tryz.prog 63 #[.agg #[.int .u8 op,.int .i64 0,.string { data:=#[] },v],.int .i64 lv] w (TxtE (zaN (2+1,zaN (zat x,zab x) (zby (2+1))++[32]++zaO op++[32]++zaN (zat y,zab y) (2+2)) (lv+1)) w):=by
 subst hm2;obtain ⟨a,cap,rfl,hc1,hc2⟩:=hL.form;have hmf:=zmf Tryz.prog
 obtain ⟨W0,hW0,hb1,hO0⟩:∃ W0,W0=w.alloc (.cells #[.int .u8 op,.int .i64 0,.string { data:=#[] },.slice a 2 cap] 29)∧Below w.heap.size w W0∧OwnV W0 w.heap.size 29 [.int .u8 op,.int .i64 0,.string { data:=#[] },.slice a 2 cap]:=⟨_,rfl,(Below.refl _ _).alloc (zr _) _,OwnV.new _ _ _⟩;have HBi:=zh (zbw op W0);have hT:zdk op=zaO op:=by unfold zdk;rw [if_pos (by omega)]
 rw [hm,hT,show ((2+1:Nat):Int) - 1=2 from rfl] at HBi;rw [show zaN (zat x,zab x) (zby (2+1))=zak x (zby (2+1)) from by cases x;rfl,show zaN (zat y,zab y) (2+2)=zak y (2+2) from by cases y;rfl];have hlb:zby (2+1)=4:=by unfold zby;rfl
 rw [hlb];obtain ⟨TX,hTX⟩:∃ T,(zaN (2+1,zak x 4++[32]++zaO op++[32]++zak y (2+2)) (lv+1))=T:=⟨_,rfl⟩;rw [hTX];have HTX:=zh hTX;clear hTX hlb;obtain ⟨SG,hSG⟩:∃ S,bstr (zaO op)=S:=⟨_,rfl⟩;have hsn:¬ SG.toList=[]:=fun h=>hsg (str_nil.1 (by rw [hSG];exact h))
 have hsn2:SG.toList.isEmpty=false:=by rw [List.isEmpty_eq_false_iff];exact hsn
 have hsn3:(SG.toList != [])=true:=by simpa using hsn
 have hsn4:(SG.toList == [])=false:=by simpa using hsn
 have hsz:SG.size≤2:=by rw [← hSG,zaC];exact hsl
 rw [hSG] at HBi;have HSG:=zh hSG;clear hSG hT hsg hsl;have HW0:=zh hW0;have HO0:=zh hO0;have Hb1:=zh hb1;have HL:=zh (hL.low (hb1.mono hB));have Hb0:=zh (hb0.trans (hb1.mono hB));have x0:=hO0.cell (i:=0) rfl;clear hW0 hO0 hb1 hL hb0;go_enter Tryz.func63,Tryz.ntmps63
 go_upto_region 1 with (fail)
 rw [← HW0.out];go_wp2_with fail
 go_at_call 97;refine HBi.out.mono ?_;rintro e1 w1 ⟨rfl,hb2⟩;have hs1:=hb2.size;have HO1:=zh (HO0.out.below hb2 (zr _));have HB1:=zh (Hb1.out.trans (hb2.mono Hb1.out.size));have hs0:=Hb1.out.size;have HL1:=zh (HL.out.low (hb2.mono (Nat.le_trans hB hs0)));have Hb0:=zh (Hb0.out.trans (hb2.mono (Nat.le_trans hB hs0)));have hlt1:=HO1.out.lt;clear hb2 x0 HO0 Hb1 HL HBi;have x0:=HO1.out.cell (i:=0) rfl;have HO2:=HO1;have HL2:=HL1;have HB2:=HB1;have hen:=zbf;have hb23:B≤w1.heap.size:=by omega
 clear HO1 HL1 HB1;have HA0:Hid (∀ W,Below w1.heap.size w1 W→Calls Tryz.prog 96 #[.int .i64 0,.int .i64 3,.pointer (some ⟨w.heap.size,0,none⟩)] W (TxtE (zak x 4) W)):=zh (fun W hb=>za1 (w0:=w0) (i:=0) (lv:=3) (y:=x) (HO2.out.below hb (zr _)) (HL2.out.low (hb.mono (by omega))) (Hb0.out.trans (hb.mono (by omega))) (by have:=hb.size;omega) (by omega) rfl h0);obtain ⟨T0,hT0⟩:∃ T,zak x 4=T:=⟨_,rfl⟩;obtain ⟨S0,hS0⟩:∃ S,bstr T0=S:=⟨_,rfl⟩;have hln0:S0.size≤1000000000000000:=by rw [← hS0,zaC,← hT0];exact hz0 _
 rw [hT0] at HA0;unfold TxtE at HA0;simp only [hS0] at HA0;have HS0:=zh (show S0=bstr (zak x 4) from by rw [hT0,hS0]);clear hT0 hS0;have HA1:Hid (∀ W,Below w1.heap.size w1 W→Calls Tryz.prog 96 #[.int .i64 1,.int .i64 3,.pointer (some ⟨w.heap.size,0,none⟩)] W (TxtE (zak y (2+2)) W)):=zh (fun W hb=>za1 (w0:=w0) (i:=1) (lv:=3) (y:=y) (HO2.out.below hb (zr _)) (HL2.out.low (hb.mono (by omega))) (Hb0.out.trans (hb.mono (by omega))) (by have:=hb.size;omega) (by omega) rfl h1);obtain ⟨T1,hT1⟩:∃ T,zak y (2+2)=T:=⟨_,rfl⟩;obtain ⟨S1,hS1⟩:∃ S,bstr T1=S:=⟨_,rfl⟩;have hln1:S1.size≤1000000000000000:=by rw [← hS1,zaC,← hT1];exact hz1 _
 rw [hT1] at HA1;unfold TxtE at HA1;simp only [hS1] at HA1;have HS1:=zh (show S1=bstr (zak y (2+2)) from by rw [hT1,hS1]);clear hT1 hS1;go_wp2_with fail
 refine (HA0.out _ (Below.refl _ _)).mono ?_;rintro e3 w3 ⟨rfl,hb3⟩;have Hw3:=zh hb3;clear hb3 HA0;go_wp2_with fail
 refine (HA1.out _ Hw3.out).mono ?_;rintro e4 w4 ⟨rfl,hb3⟩;have Hw4:=zh (Hw3.out.trans (hb3.mono Hw3.out.size));clear hb3 HA1;have hw4:=HB2.out.trans (Hw4.out.mono HB2.out.size);have Hw5:=zh hw4;clear hw4 x0;by_cases hlm:2 < lv
 ·have hli:2 < (lv:Int):=by omega
  go_wp2_with fail
  refine bodyPost_ret (v:=.string (({ data:=#[40] }++((((S0++{ data:=#[32] })++SG)++{ data:=#[32] })++S1))++{ data:=#[41] })) (by simp [results,Tryz.results63,go_sem]) rfl ⟨?_,Hw5.out⟩;rw [← HTX.out,HS0.out,HS1.out,← HSG.out];unfold zaN;rw [if_pos (by show 2+1 < lv+1;omega)];simp [zax,zbV]
 ·have hli:¬ 2 < (lv:Int):=by omega
  go_wp2_with fail
  refine bodyPost_ret (v:=.string ((((S0++{ data:=#[32] })++SG)++{ data:=#[32] })++S1)) (by simp [results,Tryz.results63,go_sem]) rfl ⟨?_,Hw5.out⟩;rw [← HTX.out,HS0.out,HS1.out,← HSG.out];unfold zaN;rw [if_neg (by show ¬ 2+1 < lv+1;omega)];simp [zax,zbV]
theorem zix {w0 w:World} {B:Nat} {op:Int} {x y:Ex} {m:Nat} (hm:zar op=m+1) (hm5:m < 5) (hm2:m≠2) (hsg:zaO op≠[]) (hsl:(zaO op).length≤2) (h0:WrC w0 B x) (h1:WrC w0 B y) (hz0:∀ k,(zak x k).length≤1000000000000000) (hz1:∀ k,(zak y k).length≤1000000000000000) {v:Value} (hL:EsL w B [x,y] v) (hb0:Below B w0 w) (hB:B≤w.heap.size) (lv:Nat) (hlv:lv≤5) :
  Calls Tryz.prog 63 #[.agg #[.int .u8 op,.int .i64 0,.string { data:=#[] },v],.int .i64 lv] w (TxtE (zaN (m+1,zaN (zat x,zab x) (zby (m+1))++[32]++zaO op++[32]++zaN (zat y,zab y) (m+2)) (lv+1)) w):=by
 obtain ⟨a,cap,rfl,hc1,hc2⟩:=hL.form;have hmf:=zmf Tryz.prog
 obtain ⟨W0,hW0,hb1,hO0⟩:∃ W0,W0=w.alloc (.cells #[.int .u8 op,.int .i64 0,.string { data:=#[] },.slice a 2 cap] 29)∧Below w.heap.size w W0∧OwnV W0 w.heap.size 29 [.int .u8 op,.int .i64 0,.string { data:=#[] },.slice a 2 cap]:=⟨_,rfl,(Below.refl _ _).alloc (zr _) _,OwnV.new _ _ _⟩;have HBi:=zh (zbw op W0);have hT:zdk op=zaO op:=by unfold zdk;rw [if_pos (by omega)]
 rw [hm,hT,show ((m+1:Nat):Int) - 1=(m:Int) from by omega] at HBi;rw [show zaN (zat x,zab x) (zby (m+1))=zak x (zby (m+1)) from by cases x;rfl,show zaN (zat y,zab y) (m+2)=zak y (m+2) from by cases y;rfl];have hlb:zby (m+1)=(m+1):=by unfold zby;rw [if_neg (by omega)]
 rw [hlb];obtain ⟨TX,hTX⟩:∃ T,(zaN (m+1,zak x (m+1)++[32]++zaO op++[32]++zak y (m+2)) (lv+1))=T:=⟨_,rfl⟩;rw [hTX];have HTX:=zh hTX;clear hTX hlb;obtain ⟨SG,hSG⟩:∃ S,bstr (zaO op)=S:=⟨_,rfl⟩;have hsn:¬ SG.toList=[]:=fun h=>hsg (str_nil.1 (by rw [hSG];exact h))
 have hsn2:SG.toList.isEmpty=false:=by rw [List.isEmpty_eq_false_iff];exact hsn
 have hsn3:(SG.toList != [])=true:=by simpa using hsn
 have hsn4:(SG.toList == [])=false:=by simpa using hsn
 have hsz:SG.size≤2:=by rw [← hSG,zaC];exact hsl
 rw [hSG] at HBi;have HSG:=zh hSG;clear hSG hT hsg hsl;have HW0:=zh hW0;have HO0:=zh hO0;have Hb1:=zh hb1;have HL:=zh (hL.low (hb1.mono hB));have Hb0:=zh (hb0.trans (hb1.mono hB));have x0:=hO0.cell (i:=0) rfl;clear hW0 hO0 hb1 hL hb0;go_enter Tryz.func63,Tryz.ntmps63
 go_upto_region 1 with (fail)
 rw [← HW0.out];go_wp2_with fail
 go_at_call 97;refine HBi.out.mono ?_;rintro e1 w1 ⟨rfl,hb2⟩;have hs1:=hb2.size;have HO1:=zh (HO0.out.below hb2 (zr _));have HB1:=zh (Hb1.out.trans (hb2.mono Hb1.out.size));have hs0:=Hb1.out.size;have HL1:=zh (HL.out.low (hb2.mono (Nat.le_trans hB hs0)));have Hb0:=zh (Hb0.out.trans (hb2.mono (Nat.le_trans hB hs0)));have hlt1:=HO1.out.lt;clear hb2 x0 HO0 Hb1 HL HBi;have x0:=HO1.out.cell (i:=0) rfl;have HO2:=HO1;have HL2:=HL1;have HB2:=HB1;have hen:=zbf;have hb23:B≤w1.heap.size:=by omega
 have hm5i:(m:Int) < 5:=by omega
 have hi1:IntKind.i64.wrap ((m:Int)+1)=(m:Int)+1:=IntWalk.i64_in _ (by omega);clear HO1 HL1 HB1;have HA0:Hid (∀ W,Below w1.heap.size w1 W→Calls Tryz.prog 96 #[.int .i64 0,.int .i64 (m:Int),.pointer (some ⟨w.heap.size,0,none⟩)] W (TxtE (zak x (m+1)) W)):=zh (fun W hb=>za1 (w0:=w0) (i:=0) (lv:=m) (y:=x) (HO2.out.below hb (zr _)) (HL2.out.low (hb.mono (by omega))) (Hb0.out.trans (hb.mono (by omega))) (by have:=hb.size;omega) (by omega) rfl h0);obtain ⟨T0,hT0⟩:∃ T,zak x (m+1)=T:=⟨_,rfl⟩;obtain ⟨S0,hS0⟩:∃ S,bstr T0=S:=⟨_,rfl⟩;have hln0:S0.size≤1000000000000000:=by rw [← hS0,zaC,← hT0];exact hz0 _
 rw [hT0] at HA0;unfold TxtE at HA0;simp only [hS0] at HA0;have HS0:=zh (show S0=bstr (zak x (m+1)) from by rw [hT0,hS0]);clear hT0 hS0;have HA1:Hid (∀ W,Below w1.heap.size w1 W→Calls Tryz.prog 96 #[.int .i64 1,.int .i64 ((m:Int)+1),.pointer (some ⟨w.heap.size,0,none⟩)] W (TxtE (zak y (m+2)) W)):=zh (fun W hb=>za1 (w0:=w0) (i:=1) (lv:=(m+1)) (y:=y) (HO2.out.below hb (zr _)) (HL2.out.low (hb.mono (by omega))) (Hb0.out.trans (hb.mono (by omega))) (by have:=hb.size;omega) (by omega) rfl h1);obtain ⟨T1,hT1⟩:∃ T,zak y (m+2)=T:=⟨_,rfl⟩;obtain ⟨S1,hS1⟩:∃ S,bstr T1=S:=⟨_,rfl⟩;have hln1:S1.size≤1000000000000000:=by rw [← hS1,zaC,← hT1];exact hz1 _
 rw [hT1] at HA1;unfold TxtE at HA1;simp only [hS1] at HA1;have HS1:=zh (show S1=bstr (zak y (m+2)) from by rw [hT1,hS1]);clear hT1 hS1;have hm2i:¬ (m:Int)=2:=by omega
 have hm2b:((m:Int) == 2)=false:=by simpa using hm2i
 go_wp2_with fail
 refine (HA0.out _ (Below.refl _ _)).mono ?_;rintro e3 w3 ⟨rfl,hb3⟩;have Hw3:=zh hb3;clear hb3 HA0;go_wp2_with fail
 refine (HA1.out _ Hw3.out).mono ?_;rintro e4 w4 ⟨rfl,hb3⟩;have Hw4:=zh (Hw3.out.trans (hb3.mono Hw3.out.size));clear hb3 HA1;have hw4:=HB2.out.trans (Hw4.out.mono HB2.out.size);have Hw5:=zh hw4;clear hw4 x0;by_cases hlm:m < lv
 ·have hli:(m:Int) < (lv:Int):=by omega
  go_wp2_with fail
  refine bodyPost_ret (v:=.string (({ data:=#[40] }++((((S0++{ data:=#[32] })++SG)++{ data:=#[32] })++S1))++{ data:=#[41] })) (by simp [results,Tryz.results63,go_sem]) rfl ⟨?_,Hw5.out⟩;rw [← HTX.out,HS0.out,HS1.out,← HSG.out];unfold zaN;rw [if_pos (by show m+1 < lv+1;omega)];simp [zax,zbV]
 ·have hli:¬ (m:Int) < (lv:Int):=by omega
  go_wp2_with fail
  refine bodyPost_ret (v:=.string ((((S0++{ data:=#[32] })++SG)++{ data:=#[32] })++S1)) (by simp [results,Tryz.results63,go_sem]) rfl ⟨?_,Hw5.out⟩;rw [← HTX.out,HS0.out,HS1.out,← HSG.out];unfold zaN;rw [if_neg (by show ¬ m+1 < lv+1;omega)];simp [zax,zbV]
theorem zcL (p:Nat × List UInt8) (k:Nat):(zaN p k).length≤p.2.length+2:=by
 unfold zaN;split
 ·simp only [List.length_append,List.length_cons,List.length_nil];omega
 ·omega
theorem zkr (x:Ex) (k:Nat):(zak x k).length≤(zab x).length+2:=by
 cases x;exact zcL _ k
theorem zd7 {n:Int} (h0:1≤n) (h1:n≤10):(kindWords.getD (n - 1).toNat []).length≤6:=by
 have:n=1∨n=2∨n=3∨n=4∨n=5∨n=6∨n=7∨n=8∨n=9∨n=10:=by omega
 rcases this with rfl | rfl | rfl | rfl | rfl | rfl | rfl | rfl | rfl | rfl <;> decide
theorem zeF {op:Int} (h0:10≤op) (h1:op≤22):(zaO op).length≤2∧zaO op≠[]:=by
 have:op=10∨op=11∨op=12∨op=13∨op=14∨op=15∨op=16∨op=17∨op=18∨op=19∨op=20∨op=21∨op=22:=by omega
 rcases this with rfl | rfl | rfl | rfl | rfl | rfl | rfl | rfl | rfl | rfl | rfl | rfl | rfl <;> decide
theorem zjH {n:Int} (h0:0≤n) (h1:n≤9223372036854775807):(Lib.decDigits n.toNat).length≤21:=by
 have:=Lib.itoa_length_le n (by omega) h1;unfold Lib.itoa at this;rwa [if_neg (by omega)] at this
theorem zcS {s:List UInt8} (h:za4 s=true):s.length≤24:=by
 cases s with
 | nil=>exact Nat.zero_le _
 | cons b r =>
  simp only [za4,Bool.and_eq_true,decide_eq_true_eq] at h;exact h.1.1
theorem zlG:∀ {d:Nat} {x:Ex},Shp d x→(zab x).length+24≤24 * 2 ^ d:=by
 intro d x h;have e:∀ k,2 ^ (k+1)=2 * 2 ^ k:=fun k=>by rw [Nat.pow_succ];omega
 have p:∀ k,1≤2 ^ k:=fun k=>Nat.one_le_two_pow
 induction h with
 | @num d n h0 h1=>rw [zcq,e];have:=zjH h0 h1;have:=p d;omega
 | @var d s h=>rw [zcr,e];have:=zcS (zbG h).1;have:=p d;omega
 | @comp d n a h0 h1 _ ih=>rw [zdu,e];simp only [List.length_append,List.length_cons,List.length_nil];have:=zd7 h0 h1;have:=p d;omega
 | @leaf d op h =>
  have:=p d;rcases h with rfl | rfl
  ·rw [zep,e];simp only [List.length_cons,List.length_nil];omega
  ·rw [zeq,e];simp only [List.length_cons,List.length_nil];omega
 | @call d op a ho _ ih =>
  have:=p d;rcases ho with rfl | rfl
  ·rw [zdv,e];simp only [List.length_append,List.length_cons,List.length_nil];omega
  ·rw [zcN,e];simp only [List.length_append,List.length_cons,List.length_nil];omega
 | @pre d op a ho _ ih =>
  have:=p d;have:=zcL (zat a,zab a) 6;simp only at this;rcases ho with rfl | rfl
  ·rw [zcs,e];simp only [List.length_append,List.length_cons,List.length_nil];omega
  ·rw [zdm,e];simp only [List.length_append,List.length_cons,List.length_nil];omega
 | @bin d op a b h0 h1 _ _ iha ihb =>
  rw [zb0 h0 h1,e];simp only [List.length_append,List.length_cons,List.length_nil];have:=zcL (zat a,zab a) (zby (zar op));have:=zcL (zat b,zab b) (zar op+1);have:=(zeF h0 h1).1
  simp only at *
  omega
 | @two d op a b ho _ _ iha ihb =>
  have:=p d;rcases ho with rfl | rfl
  ·rw [zdT,e];simp only [List.length_append,List.length_cons,List.length_nil];omega
  ·rw [zdU,e];simp only [List.length_append,List.length_cons,List.length_nil];omega
theorem zaE {d:Nat} {x:Ex} (h:Shp d x) (hd:d≤40) (k:Nat):(zak x k).length≤1000000000000000:=by
 have h1:=zlG h;have h2:=zkr x k;have h3:2 ^ d≤2 ^ 40:=Nat.pow_le_pow_right (by decide) hd;have h4:(2:Nat) ^ 40=1099511627776:=by decide
 omega
theorem zaL (x:Ex):zak x 1=zab x:=by
 cases x with
 | mk op n name args =>
  show zaN (zar op,_) 1=_;unfold zaN;have:=zhN (.mk op n name args);rw [if_neg (by show ¬ zar op < 1;have h:zat (.mk op n name args)=zar op:=rfl;omega)]
theorem zbC {op n:Int} {name:List UInt8} {args:List Ex} (h:zar op=6) {k:Nat} (hk:k≤6):zak (.mk op n name args) k=zab (.mk op n name args):=by
 show zaN (zar op,_) k=_;unfold zaN;rw [if_neg (by show ¬ zar op < k;omega)]
theorem zcm {w0:World} {B:Nat} (hG:Glob w0) (hB:glB≤B):∀ {d:Nat} {x:Ex},Shp d x→d≤40→WrC w0 B x:=by
 intro d x h
 induction h with
 | @num d n h0 h1 =>
  intro hd op' n' name' args' v w lv e hb0 hBw hL hlv;cases e;rw [zbC rfl (by omega),zcq]
  exact zja h0 h1 (hG.below hb0 hB) hL hb0 hBw lv hlv
 | @var d s h =>
  intro hd op' n' name' args' v w lv e hb0 hBw hL hlv;cases e;rw [zbC rfl (by omega),zcr]
  exact zi9 hL hb0 hBw lv hlv
 | @comp d n a h0 h1 hs ih =>
  intro hd op' n' name' args' v w lv e hb0 hBw hL hlv;cases e;rw [zbC rfl (by omega),zdu,← zaL];obtain ⟨N,rfl⟩:∃ N:Nat,n=(N:Int):=⟨n.toNat,by omega⟩;rw [show ((N:Int) - 1).toNat=N - 1 from by omega]
  exact ziv (by omega) (by omega) (ih (by omega)) (zaE hs (by omega)) hL hb0 hBw lv hlv
 | @leaf d op h =>
  intro hd op' n' name' args' v w lv e hb0 hBw hL hlv;cases e;rcases h with rfl | rfl
  ·rw [zbC rfl (by omega),zep];exact zis hL hb0 hBw lv hlv
  ·rw [zbC rfl (by omega),zeq];exact zit hL hb0 hBw lv hlv
 | @call d op a ho hs ih =>
  intro hd op' n' name' args' v w lv e hb0 hBw hL hlv;cases e;rcases ho with rfl | rfl
  ·rw [zbC rfl (by omega),zdv,← zaL];exact ziu (ih (by omega)) (zaE hs (by omega)) hL hb0 hBw lv hlv
  ·rw [zbC rfl (by omega),zcN,← zaL];exact zjd (ih (by omega)) (zaE hs (by omega)) hL hb0 hBw lv hlv
 | @pre d op a ho hs ih =>
  intro hd op' n' name' args' v w lv e hb0 hBw hL hlv;cases e;have hp:zaN (zat a,zab a) 6=zak a 6:=by cases a;rfl
  rcases ho with rfl | rfl
  ·rw [zbC rfl (by omega),zcs,hp];exact zjb (ih (by omega)) (zaE hs (by omega)) hL hb0 hBw lv hlv
  ·rw [zbC rfl (by omega),zdm,hp];exact zjc (ih (by omega)) (zaE hs (by omega)) hL hb0 hBw lv hlv
 | @bin d op a b h0 h1 ha hb iha ihb =>
  intro hd op' n' name' args' v w lv e hb0 hBw hL hlv;cases e;obtain ⟨-,-,hb1,hb5⟩:=zdE h0 h1;obtain ⟨m,hm⟩:∃ m,zar op=m+1:=⟨zar op - 1,by omega⟩;obtain ⟨hsl,hsn⟩:=zeF h0 h1
  have ht:zak (.mk op 0 [] [a,b]) (lv+1)=zaN (m+1,zaN (zat a,zab a) (zby (m+1))++[32]++zaO op++[32]++zaN (zat b,zab b) (m+2)) (lv+1):=by
   show zaN (zar op,zab (.mk op 0 [] [a,b])) (lv+1)=_;rw [zb0 h0 h1,hm]
  rw [ht];by_cases hm2:m=2
  ·subst hm2;exact ziw (m:=2) hm (by omega) rfl hsn hsl (iha (by omega)) (ihb (by omega)) (zaE ha (by omega)) (zaE hb (by omega)) hL hb0 hBw lv hlv
  ·exact zix hm (by omega) hm2 hsn hsl (iha (by omega)) (ihb (by omega)) (zaE ha (by omega)) (zaE hb (by omega)) hL hb0 hBw lv hlv
 | @two d op a b ho ha hb iha ihb =>
  intro hd op' n' name' args' v w lv e hb0 hBw hL hlv;cases e;rcases ho with rfl | rfl
  ·rw [zbC rfl (by omega),zdT,← zaL a,← zaL b];exact zje (iha (by omega)) (ihb (by omega)) (zaE ha (by omega)) (zaE hb (by omega)) hL hb0 hBw lv hlv
  ·rw [zbC rfl (by omega),zdU,← zaL a,← zaL b];exact zjf (iha (by omega)) (ihb (by omega)) (zaE ha (by omega)) (zaE hb (by omega)) hL hb0 hBw lv hlv
theorem EsL.mono {w:World} {B B':Nat} {xs:List Ex} {v:Value} (h:EsL w B xs v) (hB:B≤B'):EsL w B' xs v:=by
 obtain ⟨cs,h1,h2,h3⟩:=h;exact ⟨cs,h1,h2.imp id fun k g e=>Nat.lt_of_lt_of_le (k g e) hB,h3.weak fun g _ hg=>Nat.lt_of_lt_of_le hg hB⟩
def zbK (x : Ex) : List UInt8 × Int := if zbd 40 x = true then zdN (zab x) else ([], 2)
def zks (r : List UInt8 × Int) (w : World) (e : Ending) (w' : World) : Prop := e = .returned (.tuple #[.string (bstr r.1), .int .i64 r.2]) ∧ Below w.heap.size w w'
theorem zdO {w:World} {B:Nat} {op n:Int} {name:List UInt8} {args:List Ex} {v:Value} (hG:Glob w) (hok:okE (.mk op n name args)) (hL:EsL w B args v) (hB:B≤w.heap.size) :
  Calls Tryz.prog 33 #[.agg #[.int .u8 op,.int .i64 n,.string (bstr name),v]] w (zks (zbK (.mk op n name args)) w):=by
 obtain ⟨a,cap,rfl,hc1,hc2⟩:=hL.form;have hLw:=hL.mono hB;obtain ⟨W0,hW0,hb0,hO0⟩:∃ W0,W0=w.alloc (.cells #[.int .u8 op,.int .i64 n,.string (bstr name),.slice a args.length cap] 29)∧Below w.heap.size w W0∧OwnV W0 w.heap.size 29 [.int .u8 op,.int .i64 n,.string (bstr name),.slice a args.length cap]:=⟨_,rfl,(Below.refl _ _).alloc (zr _) _,OwnV.new _ _ _⟩;have HFi:=zh (zhh 40 (by omega) op n name args (.slice a args.length cap) W0 w.heap.size hok (hLw.low hb0) hb0.size)
 have HWr:Hid (zbd 40 (.mk op n name args)=true→∀ W,Below w.heap.size w W→Calls Tryz.prog 63 #[.agg #[.int .u8 op,.int .i64 n,.string (bstr name),.slice a args.length cap],.int .i64 0] W (TxtE (zab (.mk op n name args)) W)):=zh (fun hf W hb=>by
  have:=zcm hG hG.size (zfB 40 _ hf hok) (by omega) op n name args (.slice a args.length cap) W 0 rfl (hb.mono (zr _)) hb.size (hLw.low hb) (by omega)
  rwa [zaL] at this)
 unfold zbK
 generalize hT:zab (.mk op n name args)=T at *
 generalize zbd 40 (.mk op n name args)=q at *
 have HW0:=zh hW0;have Hb0:=zh hb0;have HO0:=zh hO0;have x0:=hO0.cell (i:=0) rfl;have x1:=hO0.cell (i:=1) rfl;have x2:=hO0.cell (i:=2) rfl;have x3:=hO0.cell (i:=3) rfl;clear hW0 hb0 hO0 hG hok hL hLw hT
 cases q with
 | false =>
  rw [if_neg (by decide)];go_enter Tryz.func33,Tryz.ntmps33
  go_upto_region 1 with (fail)
  rw [← HW0.out];go_wp2_with fail
  go_at_call 62;refine HFi.out.mono ?_;rintro e1 w1 ⟨rfl,hb1⟩;have Hb1:=zh (Hb0.out.trans (hb1.mono Hb0.out.size));clear hb1;go_wp2_with fail
  exact bodyPost_ret (v:=.tuple #[.string { data:=#[] },.int .i64 2]) (by simp [results,Tryz.results33,go_sem]) rfl ⟨rfl,Hb1.out⟩
 | true =>
  rw [if_pos rfl];have HWr2:=zh (HWr.out rfl);clear HWr;go_enter Tryz.func33,Tryz.ntmps33
  go_upto_region 1 with (fail)
  rw [← HW0.out];go_wp2_with fail
  go_at_call 62;refine HFi.out.mono ?_;rintro e1 w1 ⟨rfl,hb1⟩;have Hb1:=zh (Hb0.out.trans (hb1.mono Hb0.out.size));have hO1:=HO0.out.below hb1 (zr _);clear hb1 x0 x1 x2 x3;have x0:=hO1.cell (i:=0) rfl;have x1:=hO1.cell (i:=1) rfl;have x2:=hO1.cell (i:=2) rfl;have x3:=hO1.cell (i:=3) rfl;have HC:=zh (HWr2.out w1 Hb1.out);clear hO1 HWr2;go_wp2_with fail
  go_at_call 63;refine HC.out.mono ?_;rintro e2 w2 ⟨rfl,hb2⟩;have Hb2:=zh (Hb1.out.trans (hb2.mono Hb1.out.size));have HSh:=zh (zhe (bstr T) w2);clear hb2 HC x0 x1 x2 x3;have hsw:(zdN T)=(if 16384 < T.length then ([],3) else (T,0)):=rfl;rw [zaC] at HSh;by_cases hT:16384 < T.length
  ·rw [if_pos hT] at hsw;rw [if_pos hT,if_pos hT] at HSh;have Hsw:=zh hsw;clear hsw;go_wp2_with fail
   go_at_call 55;refine HSh.out.mono ?_;rintro e3 w3 ⟨rfl,rfl⟩;go_wp2_with fail
   exact bodyPost_ret (v:=.tuple #[.string { data:=#[] },.int .i64 3]) (by simp [results,Tryz.results33,go_sem]) rfl ⟨by rw [Hsw.out];rfl,Hb2.out⟩
  ·rw [if_neg hT] at hsw;rw [if_neg hT,if_neg hT] at HSh;have Hsw:=zh hsw;clear hsw;go_wp2_with fail
   go_at_call 55;refine HSh.out.mono ?_;rintro e3 w3 ⟨rfl,rfl⟩;go_wp2_with fail
   exact bodyPost_ret (v:=.tuple #[.string (bstr T),.int .i64 0]) (by simp [results,Tryz.results33,go_sem]) rfl ⟨by rw [Hsw.out],Hb2.out⟩
end Go.Proofs.YtoaojdobjinhfaaGreatDoor
