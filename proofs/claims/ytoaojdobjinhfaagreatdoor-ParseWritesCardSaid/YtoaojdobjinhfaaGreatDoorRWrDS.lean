/- The reference's printer: write, two arguments and components. Printed by gen_rwrite.py. -/
import Derived.Test.YtoaojdobjinhfaaGreatDoorAwMC
import Derived.Test.YtoaojdobjinhfaaGreatDoorFineRS
import Derived.Test.YtoaojdobjinhfaaGreatDoorRWrAS
import Derived.Test.YtoaojdobjinhfaaGreatDoorTreeOS
set_option linter.unusedSimpArgs false
set_option linter.unusedVariables false
set_option maxRecDepth 100000
set_option maxHeartbeats 4000000
namespace Go.Proofs.YtoaojdobjinhfaaGreatDoor
open Go.RowKit

def rwComp (M : Nat) (KW : ByteArray) (j : Nat) (v : Value) (w : World) : Prop := (j = 0 → ∃ kb koff kcap, v = .slice (some ⟨kb, koff, none⟩) 10 kcap ∧ w.cell? ⟨kb, koff + M, none⟩ = some (.string KW)) ∧ (j = 4 → ∃ kb ko, v = .pointer (some ⟨kb, ko, none⟩) ∧ w.cell? ⟨kb, ko, none⟩ = some (.string KW))
theorem rw_min {w:World} {B:Nat} {y z:Ex} (h0:WrR B y) (h1:WrR B z) (hz0:(zab y).length≤1000000000000000) (hz1:(zab z).length≤1000000000000000) {v:Value} (hL:EsL w B [y,z] v) (hB:B≤w.heap.size) :
  Calls Tryz.prog 77 #[.agg #[.int .u8 23,.int .i64 0,.string (bstr []),v]] w (TxtE ([109,105,110]++[40]++zab y++[44,32]++zab z++[41]) w):=by
 obtain ⟨a,cap,rfl,hc1,hc2⟩:=hL.form;obtain ⟨W0,hW0,hb0,hO0⟩:∃ W0,W0=w.alloc (.cells #[.int .u8 23,.int .i64 0,.string (bstr []),.slice a 2 cap] 29)∧Below w.heap.size w W0∧OwnV W0 w.heap.size 29 [.int .u8 23,.int .i64 0,.string (bstr []),.slice a 2 cap]:=⟨_,rfl,(Below.refl _ _).alloc (zr _) _,OwnV.new _ _ _⟩;have HSt:Hid (∀ W,Calls Tryz.prog 120 #[.agg #[.int .u8 23,.int .i64 0,.string (bstr []),.slice a 2 cap]] W _):=zh (fun W=>strength_any (op:=23) (n:=0) (nm:=(bstr [])) (v:=.slice a 2 cap) (by decide) (by decide) ⟨_,_,_,rfl⟩ W);rw [show zar 23=6 by decide] at HSt;obtain ⟨TX,hTX⟩:∃ X:List UInt8,[109,105,110]++[40]++zab y++[44,32]++zab z++[41]=X:=⟨_,rfl⟩;rw [hTX];have HTX:=zh hTX;clear hTX;have HW0:=zh hW0;have HO0:=zh hO0;have Hb0:=zh hb0;have HL:=zh hL;have x0:=hO0.cell (i:=0) rfl;have x1:=hO0.cell (i:=1) rfl;have x2:=hO0.cell (i:=2) rfl;have x3:=hO0.cell (i:=3) rfl;clear hW0 hO0 hb0 hL;go_enter Tryz.func77,Tryz.ntmps77
 go_upto_region 1 with (fail)
 rw [← HW0.out];go_wp2_with fail
 go_at_call 120;refine (HSt.out _).mono ?_;rintro e1 w1 ⟨rfl,hb1⟩;have HB1:=zh (Hb0.out.trans (hb1.mono Hb0.out.size));have HO1:=zh (HO0.out.below hb1 (zr _));clear hb1 x0 x1 x2 x3;have hsz:B≤w1.heap.size:=Nat.le_trans hB HB1.out.size;have hL1:=HL.out.low (HB1.out.mono hB);obtain ⟨b,off,op0,n0,nm0,as0,aa0,ac0,rfl,hbB,hbw,hy0,c0,c1,c2,c3,hA0⟩:=hL1.at (k:=0) (by simp);cases hy0;obtain ⟨S0,hS0⟩:∃ S,bstr (zab (.mk op0 n0 nm0 as0))=S:=⟨_,rfl⟩;have hln0:S0.size≤1000000000000010:=by rw [← hS0,zaC];exact Nat.le_trans hz0 (by decide)
 have HA0:Hid (∀ W,Below w1.heap.size w1 W→Calls Tryz.prog 77 #[.agg #[.int .u8 op0,.int .i64 n0,.string (bstr nm0),.slice aa0 as0.length ac0]] W fun e w'=>e=.returned (.string S0)∧Below W.heap.size W w'):=zh (fun W hb=>by rw [← hS0];exact h0 op0 n0 nm0 as0 _ W rfl (Nat.le_trans hsz hb.size) (hA0.low (hb.mono hsz)));obtain ⟨b1,off1,op1,n1,nm1,as1,aa1,ac1,he1,-,-,hy1,d0,d1,d2,d3,hA1⟩:=hL1.at (k:=1) (by simp);cases he1;cases hy1;obtain ⟨S1,hS1⟩:∃ S,bstr (zab (.mk op1 n1 nm1 as1))=S:=⟨_,rfl⟩;have hln1:S1.size≤1000000000000010:=by rw [← hS1,zaC];exact Nat.le_trans hz1 (by decide)
 have HA1:Hid (∀ W,Below w1.heap.size w1 W→Calls Tryz.prog 77 #[.agg #[.int .u8 op1,.int .i64 n1,.string (bstr nm1),.slice aa1 as1.length ac1]] W fun e w'=>e=.returned (.string S1)∧Below W.heap.size W w'):=zh (fun W hb=>by rw [← hS1];exact h1 op1 n1 nm1 as1 _ W rfl (Nat.le_trans hsz hb.size) (hA1.low (hb.mono hsz)));simp only [Nat.zero_mul,Nat.add_zero,Nat.one_mul] at c0 c1 c2 c3 d0 d1 d2 d3
 have HT:Hid (bstr TX=((({ data:=#[109,105,110,40] }++S0)++{ data:=#[44,32] })++S1)++{ data:=#[41] }):=zh (by
  rw [← HTX.out,← hS0,← hS1,show ({ data:=#[109,105,110,40] }:ByteArray)=bstr [109,105,110,40] from rfl,show ({ data:=#[44,32] }:ByteArray)=bstr [44,32] from rfl,show ({ data:=#[41] }:ByteArray)=bstr [41] from rfl]
  simp [zax])
 have x0:=HO1.out.cell (i:=0) rfl;have x3:=HO1.out.cell (i:=3) rfl;clear HL HSt hS0 hS1 hL1 hA0 hA1 h0 h1 hz0 hz1;go_wp2_with fail
 refine zac (fun w'=>Below w1.heap.size w1 w') (by kernel_rfl) (by kernel_rfl) ((Below.refl _ _).drew) ?_
 repeat
  try simp only [Act.put,zs1,zs3,zs2]
  apply stepsSeq.cons
  ·intro w' hb1;have Hb1':=zh hb1;have x0':=Below.keep hb1 x0;have x3':=Below.keep hb1 x3;have c0':=Below.keep hb1 c0;have c1':=Below.keep hb1 c1;have c2':=Below.keep hb1 c2;have c3':=Below.keep hb1 c3;have d0':=Below.keep hb1 d0;have d1':=Below.keep hb1 d1;have d2':=Below.keep hb1 d2;have d3':=Below.keep hb1 d3;simp only [Act.put,zs1,zs3,zs2];go_wp2_with ((first | (go_at_call_of 77 (Value.agg #[Value.int IntKind.u8 op0,Value.int IntKind.i64 n0,Value.string (bstr nm0),Value.slice aa0 as0.length ac0]);refine (HA0.out _ Hb1'.out).mono ?_;rintro e2 w2 ⟨rfl,hb2⟩) | (go_at_call_of 77 (Value.agg #[Value.int IntKind.u8 op1,Value.int IntKind.i64 n1,Value.string (bstr nm1),Value.slice aa1 as1.length ac1]);refine (HA1.out _ Hb1'.out).mono ?_;rintro e2 w2 ⟨rfl,hb2⟩)))
   first | exact ⟨rfl,Hb1'.out⟩ | exact ⟨rfl,Hb1'.out.trans (hb2.mono Hb1'.out.size)⟩
 try simp only [Act.put,zs1,zs3,zs2]
 refine stepsSeq.nil ?_;intro w' hb1;have HB2:=zh (HB1.out.trans (hb1.mono HB1.out.size));clear hb1 x0 x3 c0 c1 c2 c3 d0 d1 d2 d3;go_wp2_with fail
 exact bodyPost_ret (v:=.string (((({ data:=#[109,105,110,40] }++S0)++{ data:=#[44,32] })++S1)++{ data:=#[41] })) (by simp [results,Tryz.results77,go_sem]) rfl ⟨by rw [HT.out],HB2.out⟩
theorem rw_max {w:World} {B:Nat} {y z:Ex} (h0:WrR B y) (h1:WrR B z) (hz0:(zab y).length≤1000000000000000) (hz1:(zab z).length≤1000000000000000) {v:Value} (hL:EsL w B [y,z] v) (hB:B≤w.heap.size) :
  Calls Tryz.prog 77 #[.agg #[.int .u8 24,.int .i64 0,.string (bstr []),v]] w (TxtE ([109,97,120]++[40]++zab y++[44,32]++zab z++[41]) w):=by
 obtain ⟨a,cap,rfl,hc1,hc2⟩:=hL.form;obtain ⟨W0,hW0,hb0,hO0⟩:∃ W0,W0=w.alloc (.cells #[.int .u8 24,.int .i64 0,.string (bstr []),.slice a 2 cap] 29)∧Below w.heap.size w W0∧OwnV W0 w.heap.size 29 [.int .u8 24,.int .i64 0,.string (bstr []),.slice a 2 cap]:=⟨_,rfl,(Below.refl _ _).alloc (zr _) _,OwnV.new _ _ _⟩;have HSt:Hid (∀ W,Calls Tryz.prog 120 #[.agg #[.int .u8 24,.int .i64 0,.string (bstr []),.slice a 2 cap]] W _):=zh (fun W=>strength_any (op:=24) (n:=0) (nm:=(bstr [])) (v:=.slice a 2 cap) (by decide) (by decide) ⟨_,_,_,rfl⟩ W);rw [show zar 24=6 by decide] at HSt;obtain ⟨TX,hTX⟩:∃ X:List UInt8,[109,97,120]++[40]++zab y++[44,32]++zab z++[41]=X:=⟨_,rfl⟩;rw [hTX];have HTX:=zh hTX;clear hTX;have HW0:=zh hW0;have HO0:=zh hO0;have Hb0:=zh hb0;have HL:=zh hL;have x0:=hO0.cell (i:=0) rfl;have x1:=hO0.cell (i:=1) rfl;have x2:=hO0.cell (i:=2) rfl;have x3:=hO0.cell (i:=3) rfl;clear hW0 hO0 hb0 hL;go_enter Tryz.func77,Tryz.ntmps77
 go_upto_region 1 with (fail)
 rw [← HW0.out];go_wp2_with fail
 go_at_call 120;refine (HSt.out _).mono ?_;rintro e1 w1 ⟨rfl,hb1⟩;have HB1:=zh (Hb0.out.trans (hb1.mono Hb0.out.size));have HO1:=zh (HO0.out.below hb1 (zr _));clear hb1 x0 x1 x2 x3;have hsz:B≤w1.heap.size:=Nat.le_trans hB HB1.out.size;have hL1:=HL.out.low (HB1.out.mono hB);obtain ⟨b,off,op0,n0,nm0,as0,aa0,ac0,rfl,hbB,hbw,hy0,c0,c1,c2,c3,hA0⟩:=hL1.at (k:=0) (by simp);cases hy0;obtain ⟨S0,hS0⟩:∃ S,bstr (zab (.mk op0 n0 nm0 as0))=S:=⟨_,rfl⟩;have hln0:S0.size≤1000000000000010:=by rw [← hS0,zaC];exact Nat.le_trans hz0 (by decide)
 have HA0:Hid (∀ W,Below w1.heap.size w1 W→Calls Tryz.prog 77 #[.agg #[.int .u8 op0,.int .i64 n0,.string (bstr nm0),.slice aa0 as0.length ac0]] W fun e w'=>e=.returned (.string S0)∧Below W.heap.size W w'):=zh (fun W hb=>by rw [← hS0];exact h0 op0 n0 nm0 as0 _ W rfl (Nat.le_trans hsz hb.size) (hA0.low (hb.mono hsz)));obtain ⟨b1,off1,op1,n1,nm1,as1,aa1,ac1,he1,-,-,hy1,d0,d1,d2,d3,hA1⟩:=hL1.at (k:=1) (by simp);cases he1;cases hy1;obtain ⟨S1,hS1⟩:∃ S,bstr (zab (.mk op1 n1 nm1 as1))=S:=⟨_,rfl⟩;have hln1:S1.size≤1000000000000010:=by rw [← hS1,zaC];exact Nat.le_trans hz1 (by decide)
 have HA1:Hid (∀ W,Below w1.heap.size w1 W→Calls Tryz.prog 77 #[.agg #[.int .u8 op1,.int .i64 n1,.string (bstr nm1),.slice aa1 as1.length ac1]] W fun e w'=>e=.returned (.string S1)∧Below W.heap.size W w'):=zh (fun W hb=>by rw [← hS1];exact h1 op1 n1 nm1 as1 _ W rfl (Nat.le_trans hsz hb.size) (hA1.low (hb.mono hsz)));simp only [Nat.zero_mul,Nat.add_zero,Nat.one_mul] at c0 c1 c2 c3 d0 d1 d2 d3
 have HT:Hid (bstr TX=((({ data:=#[109,97,120,40] }++S0)++{ data:=#[44,32] })++S1)++{ data:=#[41] }):=zh (by
  rw [← HTX.out,← hS0,← hS1,show ({ data:=#[109,97,120,40] }:ByteArray)=bstr [109,97,120,40] from rfl,show ({ data:=#[44,32] }:ByteArray)=bstr [44,32] from rfl,show ({ data:=#[41] }:ByteArray)=bstr [41] from rfl]
  simp [zax])
 have x0:=HO1.out.cell (i:=0) rfl;have x3:=HO1.out.cell (i:=3) rfl;clear HL HSt hS0 hS1 hL1 hA0 hA1 h0 h1 hz0 hz1;go_wp2_with fail
 refine zac (fun w'=>Below w1.heap.size w1 w') (by kernel_rfl) (by kernel_rfl) ((Below.refl _ _).drew) ?_
 repeat
  try simp only [Act.put,zs1,zs3,zs2]
  apply stepsSeq.cons
  ·intro w' hb1;have Hb1':=zh hb1;have x0':=Below.keep hb1 x0;have x3':=Below.keep hb1 x3;have c0':=Below.keep hb1 c0;have c1':=Below.keep hb1 c1;have c2':=Below.keep hb1 c2;have c3':=Below.keep hb1 c3;have d0':=Below.keep hb1 d0;have d1':=Below.keep hb1 d1;have d2':=Below.keep hb1 d2;have d3':=Below.keep hb1 d3;simp only [Act.put,zs1,zs3,zs2];go_wp2_with ((first | (go_at_call_of 77 (Value.agg #[Value.int IntKind.u8 op0,Value.int IntKind.i64 n0,Value.string (bstr nm0),Value.slice aa0 as0.length ac0]);refine (HA0.out _ Hb1'.out).mono ?_;rintro e2 w2 ⟨rfl,hb2⟩) | (go_at_call_of 77 (Value.agg #[Value.int IntKind.u8 op1,Value.int IntKind.i64 n1,Value.string (bstr nm1),Value.slice aa1 as1.length ac1]);refine (HA1.out _ Hb1'.out).mono ?_;rintro e2 w2 ⟨rfl,hb2⟩)))
   first | exact ⟨rfl,Hb1'.out⟩ | exact ⟨rfl,Hb1'.out.trans (hb2.mono Hb1'.out.size)⟩
 try simp only [Act.put,zs1,zs3,zs2]
 refine stepsSeq.nil ?_;intro w' hb1;have HB2:=zh (HB1.out.trans (hb1.mono HB1.out.size));clear hb1 x0 x3 c0 c1 c2 c3 d0 d1 d2 d3;go_wp2_with fail
 exact bodyPost_ret (v:=.string (((({ data:=#[109,97,120,40] }++S0)++{ data:=#[44,32] })++S1)++{ data:=#[41] })) (by simp [results,Tryz.results77,go_sem]) rfl ⟨by rw [HT.out],HB2.out⟩
theorem rw_comp {w:World} {B:Nat} {y:Ex} {M:Nat} (hn2:M < 10) (h0:WrR B y) (hz0:(zab y).length≤1000000000000000) {v:Value} (hL:EsL w B [y] v) (hB:B≤w.heap.size) :
  Calls Tryz.prog 77 #[.agg #[.int .u8 3,.int .i64 ((M:Int)+1),.string (bstr []),v]] w (TxtE (kindWords.getD M []++[91]++zab y++[93]) w):=by
 obtain ⟨a,cap,rfl,hc1,hc2⟩:=hL.form;obtain ⟨W0,hW0,hb0,hO0⟩:∃ W0,W0=w.alloc (.cells #[.int .u8 3,.int .i64 ((M:Int)+1),.string (bstr []),.slice a 1 cap] 29)∧Below w.heap.size w W0∧OwnV W0 w.heap.size 29 [.int .u8 3,.int .i64 ((M:Int)+1),.string (bstr []),.slice a 1 cap]:=⟨_,rfl,(Below.refl _ _).alloc (zr _) _,OwnV.new _ _ _⟩;have HSt:Hid (∀ W,Calls Tryz.prog 120 #[.agg #[.int .u8 3,.int .i64 ((M:Int)+1),.string (bstr []),.slice a 1 cap]] W _):=zh (fun W=>strength_any (op:=3) (n:=((M:Int)+1)) (nm:=(bstr [])) (v:=.slice a 1 cap) (by decide) (by decide) ⟨_,_,_,rfl⟩ W);rw [show zar 3=6 by decide] at HSt;obtain ⟨TX,hTX⟩:∃ X:List UInt8,kindWords.getD M []++[91]++zab y++[93]=X:=⟨_,rfl⟩;rw [hTX];have HTX:=zh hTX;clear hTX;have HW0:=zh hW0;have HO0:=zh hO0;have Hb0:=zh hb0;have HL:=zh hL;have x0:=hO0.cell (i:=0) rfl;have x1:=hO0.cell (i:=1) rfl;have x2:=hO0.cell (i:=2) rfl;have x3:=hO0.cell (i:=3) rfl;clear hW0 hO0 hb0 hL;go_enter Tryz.func77,Tryz.ntmps77
 go_upto_region 1 with (fail)
 rw [← HW0.out];go_wp2_with fail
 go_at_call 120;refine (HSt.out _).mono ?_;rintro e1 w1 ⟨rfl,hb1⟩;have HB1:=zh (Hb0.out.trans (hb1.mono Hb0.out.size));have HO1:=zh (HO0.out.below hb1 (zr _));clear hb1 x0 x1 x2 x3;have hsz:B≤w1.heap.size:=Nat.le_trans hB HB1.out.size;have hL1:=HL.out.low (HB1.out.mono hB);obtain ⟨b,off,op0,n0,nm0,as0,aa0,ac0,rfl,hbB,hbw,hy0,c0,c1,c2,c3,hA0⟩:=hL1.at (k:=0) (by simp);cases hy0;obtain ⟨S0,hS0⟩:∃ S,bstr (zab (.mk op0 n0 nm0 as0))=S:=⟨_,rfl⟩;have hln0:S0.size≤1000000000000010:=by rw [← hS0,zaC];exact Nat.le_trans hz0 (by decide)
 have HA0:Hid (∀ W,Below w1.heap.size w1 W→Calls Tryz.prog 77 #[.agg #[.int .u8 op0,.int .i64 n0,.string (bstr nm0),.slice aa0 as0.length ac0]] W fun e w'=>e=.returned (.string S0)∧Below W.heap.size W w'):=zh (fun W hb=>by rw [← hS0];exact h0 op0 n0 nm0 as0 _ W rfl (Nat.le_trans hsz hb.size) (hA0.low (hb.mono hsz)));simp only [Nat.zero_mul,Nat.add_zero,Nat.one_mul] at c0 c1 c2 c3;obtain ⟨KW,hKW⟩:∃ K,bstr (kindWords.getD M [])=K:=⟨_,rfl⟩
 have hkl:KW.size≤100:=by
  rw [← hKW,zaC];have:=zd7 (n:=(M:Int)+1) (by omega) (by omega);rw [show ((M:Int)+1 - 1).toNat=M by omega] at this;omega
 have HT:Hid (bstr TX=((KW++{ data:=#[91] })++S0)++{ data:=#[93] }):=zh (by
  rw [← HTX.out,← hS0,← hKW,show ({ data:=#[91] }:ByteArray)=bstr [91] from rfl,show ({ data:=#[93] }:ByteArray)=bstr [93] from rfl]
  simp [zax])
 have HKW:=zh hKW;have hN1:(0:Int)≤(M:Int):=by omega
 have hN2:(M:Int) < 10:=by omega
 have hN3:¬ (M:Int) < 0:=by omega
 have hw:IntKind.i64.wrap (M:Int)=M:=by simp [IntKind.wrap,IntKind.bits,IntKind.signed];omega
 have x0:=HO1.out.cell (i:=0) rfl;have x1:=HO1.out.cell (i:=1) rfl;have x3:=HO1.out.cell (i:=3) rfl;clear HL HSt hS0 hL1 hA0 h0 hz0 hKW;go_upto_region 14 with (fail)
 have Hc:Hid (∀ w',Below w1.heap.size w1 w'→(w'.cell? ⟨w.heap.size,1,none⟩=some (.int .i64 ((M:Int)+1))∧w'.cell? ⟨w.heap.size,3,none⟩=some (.slice (some ⟨b,off,none⟩) 1 cap))∧w'.cell? ⟨b,off,none⟩=some (.int .u8 op0)∧w'.cell? ⟨b,off+1,none⟩=some (.int .i64 n0)∧w'.cell? ⟨b,off+2,none⟩=some (.string (bstr nm0))∧w'.cell? ⟨b,off+3,none⟩=some (.slice aa0 as0.length ac0)):=zh (fun w' hb=>⟨⟨Below.keep hb x1,Below.keep hb x3⟩,Below.keep hb c0,Below.keep hb c1,Below.keep hb c2,Below.keep hb c3⟩);refine wp_region_rel [none,some (.pointer (some ⟨w.heap.size,1,none⟩)),some (.int .i64 ((M:Int)+1)),some (.int .i64 (M:Int)),none,some (.string KW),some (.string (KW++{ data:=#[91] })),some (.pointer (some ⟨w.heap.size,3,none⟩)),some (.slice (some ⟨b,off,none⟩) 1 cap),some (.pointer (some ⟨b,off,none⟩)),some (.agg #[.int .u8 op0,.int .i64 n0,.string (bstr nm0),.slice aa0 as0.length ac0]),some (.string S0),some (.string ((KW++{ data:=#[91] })++S0)),some (.string (((KW++{ data:=#[91] })++S0)++{ data:=#[93] })),some (.string (((KW++{ data:=#[91] })++S0)++{ data:=#[93] }))] (rwComp M KW) (by kernel_rfl) (by kernel_rfl) rfl ?hst ?hconst ?hs ?hf
 case hst =>
  rintro j v w w' ⟨h1,h2⟩ hb;refine ⟨fun e=>?_,fun e=>?_⟩
  ·obtain ⟨kb,koff,kcap,e1,e2⟩:=h1 e;exact ⟨kb,koff,kcap,e1,Below.keep hb e2⟩
  ·obtain ⟨kb,ko,e1,e2⟩:=h2 e;exact ⟨kb,ko,e1,Below.keep hb e2⟩
 case hconst =>
  refine fun j v w h=>⟨fun e=>?_,fun e=>?_⟩
  all_goals
   subst e;simp at h
 case hf =>
  intro X w5 hb _;simp only [zfb,fill_nil,tmpl_some,tmpl_none,tmpl_nil,Nat.reduceAdd,Act.put,zs1,zs3,zs2];have Hb5:Hid (Below w.heap.size w w5):=zh (HB1.out.trans ((show Below w1.heap.size w1 w5 from ⟨hb.os,hb.tape,hb.output,hb.size,hb.block⟩).mono HB1.out.size));clear hb x0 x1 x3 c0 c1 c2 c3;go_wp2_with fail
  exact bodyPost_ret (v:=.string (((KW++{ data:=#[91] })++S0)++{ data:=#[93] })) (by simp [results,Tryz.results77,go_sem]) rfl ⟨by rw [HT.out],Hb5.out⟩
 case hs =>
  simp only [zfb,fill_nil,tmpl_some,tmpl_none,tmpl_nil,Nat.reduceAdd,Act.put,zs1,zs3,zs2];refine stepsRel.cons ?_ (stepsRel.cons ?_ (stepsRel.cons ?_ (stepsRel.cons ?_ (stepsRel.cons ?_ (stepsRel.cons ?_ (stepsRel.cons ?_ (stepsRel.cons ?_ (stepsRel.cons ?_ (stepsRel.cons ?_ (stepsRel.cons ?_ (stepsRel.cons ?_ (stepsRel.cons ?_ (stepsRel.cons ?_ (stepsRel.cons ?_ (stepsRel.nil)))))))))))))))
  ·intro X w5 hb hp;have hb':Below w1.heap.size w1 w5:=⟨hb.os,hb.tape,hb.output,hb.size,hb.block⟩;obtain ⟨⟨x1,x3⟩,c0,c1,c2,c3⟩:=Hc.out _ hb';clear hp hb;go_wp2_with fail
   go_at_call 51;refine (zlN _).mono ?_;rintro e3 w3 ⟨v3,rfl,hS3,hb3⟩;obtain ⟨kb,koff,kcap,rfl,kc⟩:=rkinds_cell (N:=M+1) hS3 (by omega) (by omega);rw [show M+1 - 1=M from rfl,HKW.out] at kc;clear hS3;go_wp2_with fail
   exact ⟨⟨_,rfl,fun _=>⟨kb,koff,kcap,rfl,kc⟩,fun e=>by cases e⟩,hb3⟩
  ·intro X w5 hb hp;have hb':Below w1.heap.size w1 w5:=⟨hb.os,hb.tape,hb.output,hb.size,hb.block⟩;obtain ⟨⟨x1,x3⟩,c0,c1,c2,c3⟩:=Hc.out _ hb';clear hp hb;go_wp2_with fail
   exact ⟨⟨_,rfl,rfl⟩,Below.refl _ _⟩
  ·intro X w5 hb hp;have hb':Below w1.heap.size w1 w5:=⟨hb.os,hb.tape,hb.output,hb.size,hb.block⟩;obtain ⟨⟨x1,x3⟩,c0,c1,c2,c3⟩:=Hc.out _ hb';clear hp hb;go_wp2_with fail
   exact ⟨⟨_,rfl,rfl⟩,Below.refl _ _⟩
  ·intro X w5 hb hp;have hb':Below w1.heap.size w1 w5:=⟨hb.os,hb.tape,hb.output,hb.size,hb.block⟩;obtain ⟨⟨x1,x3⟩,c0,c1,c2,c3⟩:=Hc.out _ hb';clear hp hb;go_wp2_with fail
   exact ⟨⟨_,rfl,rfl⟩,Below.refl _ _⟩
  ·intro X w5 hb hp;have hb':Below w1.heap.size w1 w5:=⟨hb.os,hb.tape,hb.output,hb.size,hb.block⟩;obtain ⟨⟨x1,x3⟩,c0,c1,c2,c3⟩:=Hc.out _ hb';obtain ⟨kb,koff,kcap,e,kc⟩:=(hp 0 (by kernel_rfl)).1 rfl;rw [e];clear hp hb e;go_wp2_with fail
   refine ⟨⟨_,rfl,?_⟩,Below.refl _ _⟩;exact (show rwComp M KW 4 _ _ from ⟨fun e=>(by cases e),fun _=>⟨kb,_,rfl,kc⟩⟩)
  ·intro X w5 hb hp;have hb':Below w1.heap.size w1 w5:=⟨hb.os,hb.tape,hb.output,hb.size,hb.block⟩;obtain ⟨⟨x1,x3⟩,c0,c1,c2,c3⟩:=Hc.out _ hb';obtain ⟨kb,ko,e,kc⟩:=(hp 4 (by kernel_rfl)).2 rfl;rw [e];clear hp hb e;go_wp2_with fail
   exact ⟨⟨_,rfl,rfl⟩,Below.refl _ _⟩
  ·intro X w5 hb hp;have hb':Below w1.heap.size w1 w5:=⟨hb.os,hb.tape,hb.output,hb.size,hb.block⟩;obtain ⟨⟨x1,x3⟩,c0,c1,c2,c3⟩:=Hc.out _ hb';clear hp hb;go_wp2_with fail
   exact ⟨⟨_,rfl,rfl⟩,Below.refl _ _⟩
  ·intro X w5 hb hp;have hb':Below w1.heap.size w1 w5:=⟨hb.os,hb.tape,hb.output,hb.size,hb.block⟩;obtain ⟨⟨x1,x3⟩,c0,c1,c2,c3⟩:=Hc.out _ hb';clear hp hb;go_wp2_with fail
   exact ⟨⟨_,rfl,rfl⟩,Below.refl _ _⟩
  ·intro X w5 hb hp;have hb':Below w1.heap.size w1 w5:=⟨hb.os,hb.tape,hb.output,hb.size,hb.block⟩;obtain ⟨⟨x1,x3⟩,c0,c1,c2,c3⟩:=Hc.out _ hb';clear hp hb;go_wp2_with fail
   exact ⟨⟨_,rfl,rfl⟩,Below.refl _ _⟩
  ·intro X w5 hb hp;have hb':Below w1.heap.size w1 w5:=⟨hb.os,hb.tape,hb.output,hb.size,hb.block⟩;obtain ⟨⟨x1,x3⟩,c0,c1,c2,c3⟩:=Hc.out _ hb';clear hp hb;go_wp2_with fail
   exact ⟨⟨_,rfl,rfl⟩,Below.refl _ _⟩
  ·intro X w5 hb hp;have hb':Below w1.heap.size w1 w5:=⟨hb.os,hb.tape,hb.output,hb.size,hb.block⟩;obtain ⟨⟨x1,x3⟩,c0,c1,c2,c3⟩:=Hc.out _ hb';clear hp hb;go_wp2_with fail
   exact ⟨⟨_,rfl,rfl⟩,Below.refl _ _⟩
  ·intro X w5 hb hp;have hb':Below w1.heap.size w1 w5:=⟨hb.os,hb.tape,hb.output,hb.size,hb.block⟩;obtain ⟨⟨x1,x3⟩,c0,c1,c2,c3⟩:=Hc.out _ hb';clear hp hb;go_wp2_with fail
   go_at_call 77;refine (HA0.out _ hb').mono ?_;rintro e4 w4 ⟨rfl,hb4⟩;have Hb4:=zh hb4;clear hb4;go_wp2_with fail
   exact ⟨⟨_,rfl,rfl⟩,Hb4.out⟩
  ·intro X w5 hb hp;have hb':Below w1.heap.size w1 w5:=⟨hb.os,hb.tape,hb.output,hb.size,hb.block⟩;obtain ⟨⟨x1,x3⟩,c0,c1,c2,c3⟩:=Hc.out _ hb';clear hp hb;go_wp2_with fail
   exact ⟨⟨_,rfl,rfl⟩,Below.refl _ _⟩
  ·intro X w5 hb hp;have hb':Below w1.heap.size w1 w5:=⟨hb.os,hb.tape,hb.output,hb.size,hb.block⟩;obtain ⟨⟨x1,x3⟩,c0,c1,c2,c3⟩:=Hc.out _ hb';clear hp hb;go_wp2_with fail
   exact ⟨⟨_,rfl,rfl⟩,Below.refl _ _⟩
  ·intro X w5 hb hp;have hb':Below w1.heap.size w1 w5:=⟨hb.os,hb.tape,hb.output,hb.size,hb.block⟩;obtain ⟨⟨x1,x3⟩,c0,c1,c2,c3⟩:=Hc.out _ hb';clear hp hb;go_wp2_with fail
   exact ⟨⟨_,rfl,rfl⟩,Below.refl _ _⟩
theorem rw_bin3 {w:World} {B:Nat} {op:Int} {y z:Ex} (hm:zar op=3) (hop0:10≤op) (hop1:op≤22) (ho0:1≤opE y∧opE y≤24) (ho1:1≤opE z∧opE z≤24) (h0:WrR B y) (h1:WrR B z) (hz0:(zab y).length≤1000000000000000) (hz1:(zab z).length≤1000000000000000) {v:Value} (hL:EsL w B [y,z] v) (hB:B≤w.heap.size) :
  Calls Tryz.prog 77 #[.agg #[.int .u8 op,.int .i64 0,.string (bstr []),v]] w (TxtE (zak y (4)++[32]++zaO op++[32]++zak z (4)) w):=by
 obtain ⟨a,cap,rfl,hc1,hc2⟩:=hL.form;obtain ⟨W0,hW0,hb0,hO0⟩:∃ W0,W0=w.alloc (.cells #[.int .u8 op,.int .i64 0,.string (bstr []),.slice a 2 cap] 29)∧Below w.heap.size w W0∧OwnV W0 w.heap.size 29 [.int .u8 op,.int .i64 0,.string (bstr []),.slice a 2 cap]:=⟨_,rfl,(Below.refl _ _).alloc (zr _) _,OwnV.new _ _ _⟩;have HSt:Hid (∀ W,Calls Tryz.prog 120 #[.agg #[.int .u8 op,.int .i64 0,.string (bstr []),.slice a 2 cap]] W _):=zh (fun W=>strength_any (op:=op) (n:=0) (nm:=(bstr [])) (v:=.slice a 2 cap) (by omega) (by omega) ⟨_,_,_,rfl⟩ W);rw [hm] at HSt;obtain ⟨TX,hTX⟩:∃ X:List UInt8,zak y (4)++[32]++zaO op++[32]++zak z (4)=X:=⟨_,rfl⟩;rw [hTX];have HTX:=zh hTX;clear hTX;obtain ⟨K,rfl⟩:∃ K:Nat,op=(K:Int)+10:=⟨(op - 10).toNat,by omega⟩;have hK:K < 13:=by omega
 have hK':(K:Int) < 13:=by omega
 have hsl:=zeF hop0 hop1;have hsg:zaO ((K:Int)+10)=signWords.getD K []:=by unfold zaO;rw [show ((K:Int)+10 - 10).toNat=K by omega]
 obtain ⟨SG,hSG⟩:∃ S,bstr (zaO ((K:Int)+10))=S:=⟨_,rfl⟩;have hgl:SG.size≤2:=by rw [← hSG,zaC];exact hsl.1
 have HSg:Hid (bstr (signWords.getD K [])=SG):=zh (by rw [← hsg];exact hSG);have HW0:=zh hW0;have HO0:=zh hO0;have Hb0:=zh hb0;have HL:=zh hL;have x0:=hO0.cell (i:=0) rfl;have x1:=hO0.cell (i:=1) rfl;have x2:=hO0.cell (i:=2) rfl;have x3:=hO0.cell (i:=3) rfl;clear hW0 hO0 hb0 hL;go_enter Tryz.func77,Tryz.ntmps77
 go_upto_region 1 with (fail)
 rw [← HW0.out];go_wp2_with fail
 go_at_call 120;refine (HSt.out _).mono ?_;rintro e1 w1 ⟨rfl,hb1⟩;have HB1:=zh (Hb0.out.trans (hb1.mono Hb0.out.size));have HO1:=zh (HO0.out.below hb1 (zr _));clear hb1 x0 x1 x2 x3;obtain ⟨W2,hW2,hb2,hS2⟩:∃ W2,W2=w1.alloc (.cells #[.string { data:=#[42] },.string { data:=#[47] },.string { data:=#[37] },.string { data:=#[43] },.string { data:=#[45] },.string { data:=#[60] },.string { data:=#[60,61] },.string { data:=#[62] },.string { data:=#[62,61] },.string { data:=#[61,61] },.string { data:=#[33,61] },.string { data:=#[38,38] },.string { data:=#[124,124] }] 9)∧Below w1.heap.size w1 W2∧OwnV W2 w1.heap.size 9 (signWords.map fun s=>Value.string (bstr s)):=⟨_,rfl,(Below.refl _ _).alloc (zr _) _,OwnV.new w1 9 (signWords.map fun s=>Value.string (bstr s))⟩;have HO2:=zh (HO1.out.below hb2 (zr _));have HB2:=zh (HB1.out.trans (hb2.mono HB1.out.size));have HW2:=zh hW2;have HS2:=zh hS2;have x0:=HO1.out.cell (i:=0) rfl;have x1:=HO1.out.cell (i:=1) rfl;have x2:=HO1.out.cell (i:=2) rfl;have x3:=HO1.out.cell (i:=3) rfl;have z0:=HO2.out.cell (i:=0) rfl;have z1:=HO2.out.cell (i:=1) rfl;have z2:=HO2.out.cell (i:=2) rfl;have z3:=HO2.out.cell (i:=3) rfl;clear hW2 hb2 hS2 hsg hsl;go_upto_region 3 with (fail)
 rw [← HW2.out];clear x0 x1 x2 x3;go_wp2_with fail
 go_at_call 120;refine (HSt.out _).mono ?_;rintro e3 w3 ⟨rfl,hb3⟩;have HO3:=zh (HO2.out.below hb3 (zr _));have HB3:=zh (HB2.out.trans (hb3.mono HB2.out.size));have hS3:=HS2.out.below hb3 (zr _)
 have y0:w3.cell? ⟨w1.heap.size,K,none⟩=some (.string SG):=by
  have:=hS3.cell (i:=K) (v:=.string SG) (by
   rw [List.getElem?_map,← HSg.out];have:K=0∨K=1∨K=2∨K=3∨K=4∨K=5∨K=6∨K=7∨K=8∨K=9∨K=10∨K=11∨K=12:=by omega
   rcases this with rfl | rfl | rfl | rfl | rfl | rfl | rfl | rfl | rfl | rfl | rfl | rfl | rfl <;> rfl)
  exact this
 clear hb3 hS3 z0 z1 z2 z3 HO2 HB2 HW2 HS2;have hsz:B≤w3.heap.size:=Nat.le_trans hB HB3.out.size;have hL1:=HL.out.low (HB3.out.mono hB);obtain ⟨b,off,op0,n0,nm0,as0,aa0,ac0,rfl,hbB,hbw,hy0,c0,c1,c2,c3,hA0⟩:=hL1.at (k:=0) (by simp);cases hy0;obtain ⟨S0,hS0⟩:∃ S,bstr (zak (.mk op0 n0 nm0 as0) (4))=S:=⟨_,rfl⟩;have hln0:S0.size≤1000000000000010:=by rw [← hS0,zaC];have:=zkr (.mk op0 n0 nm0 as0) (4);omega
 have HA0:Hid (∀ W,Below w3.heap.size w3 W→Calls Tryz.prog 121 #[.agg #[.int .u8 op0,.int .i64 n0,.string (bstr nm0),.slice aa0 as0.length ac0],.int .i64 (4)] W fun e w'=>e=.returned (.string S0)∧Below W.heap.size W w'):=zh (fun W hb=>by rw [← hS0,show (4:Int)=((4:Nat):Int) by first | rfl | omega];exact rpart_any ho0.1 ho0.2 (by decide) hz0 h0 (Nat.le_trans hsz hb.size) (hA0.low (hb.mono hsz)));obtain ⟨b1,off1,op1,n1,nm1,as1,aa1,ac1,he1,-,-,hy1,d0,d1,d2,d3,hA1⟩:=hL1.at (k:=1) (by simp);cases he1;cases hy1;obtain ⟨S1,hS1⟩:∃ S,bstr (zak (.mk op1 n1 nm1 as1) (4))=S:=⟨_,rfl⟩;have hln1:S1.size≤1000000000000010:=by rw [← hS1,zaC];have:=zkr (.mk op1 n1 nm1 as1) (4);omega
 have HA1:Hid (∀ W,Below w3.heap.size w3 W→Calls Tryz.prog 121 #[.agg #[.int .u8 op1,.int .i64 n1,.string (bstr nm1),.slice aa1 as1.length ac1],.int .i64 (4)] W fun e w'=>e=.returned (.string S1)∧Below W.heap.size W w'):=zh (fun W hb=>by rw [← hS1,show (4:Int)=((4:Nat):Int) by first | rfl | omega];exact rpart_any ho1.1 ho1.2 (by decide) hz1 h1 (Nat.le_trans hsz hb.size) (hA1.low (hb.mono hsz)));simp only [Nat.zero_mul,Nat.add_zero,Nat.one_mul] at c0 c1 c2 c3 d0 d1 d2 d3
 have HT:Hid (bstr TX=(((S0++{ data:=#[32] })++SG)++{ data:=#[32] })++S1):=zh (by
  rw [← HTX.out,← hS0,← hS1,← hSG,show ({ data:=#[32] }:ByteArray)=bstr [32] from rfl]
  simp [zax])
 have x0:=HO3.out.cell (i:=0) rfl;have x3:=HO3.out.cell (i:=3) rfl;clear HL hS0 hS1 hL1 hA0 hA1 h0 h1 hz0 hz1 hSG ho0 ho1 hm HSt HO1 HB1 HW0 HO0;go_wp2_with fail
 refine zac (fun w'=>Below w3.heap.size w3 w') (by kernel_rfl) (by kernel_rfl) ((Below.refl _ _).drew) ?_
 repeat
  try simp only [Act.put,zs1,zs3,zs2]
  apply stepsSeq.cons
  ·intro w' hb1;have Hb1':=zh hb1;have x0':=Below.keep hb1 x0;have x3':=Below.keep hb1 x3;have y0':=Below.keep hb1 y0;have c0':=Below.keep hb1 c0;have c1':=Below.keep hb1 c1;have c2':=Below.keep hb1 c2;have c3':=Below.keep hb1 c3;have d0':=Below.keep hb1 d0;have d1':=Below.keep hb1 d1;have d2':=Below.keep hb1 d2;have d3':=Below.keep hb1 d3;simp only [Act.put,zs1,zs3,zs2];go_wp2_with ((first | (go_at_call_of 121 (Value.agg #[Value.int IntKind.u8 op0,Value.int IntKind.i64 n0,Value.string (bstr nm0),Value.slice aa0 as0.length ac0]);refine (HA0.out _ Hb1'.out).mono ?_;rintro e2 w2 ⟨rfl,hb2⟩) | (go_at_call_of 121 (Value.agg #[Value.int IntKind.u8 op1,Value.int IntKind.i64 n1,Value.string (bstr nm1),Value.slice aa1 as1.length ac1]);refine (HA1.out _ Hb1'.out).mono ?_;rintro e2 w2 ⟨rfl,hb2⟩)))
   first | exact ⟨rfl,Hb1'.out⟩ | exact ⟨rfl,Hb1'.out.trans (hb2.mono Hb1'.out.size)⟩
 try simp only [Act.put,zs1,zs3,zs2]
 refine stepsSeq.nil ?_;intro w' hb1;have HB4:=zh (HB3.out.trans (hb1.mono HB3.out.size));clear hb1 x0 x3 y0 c0 c1 c2 c3 d0 d1 d2 d3;go_wp2_with fail
 exact bodyPost_ret (v:=.string ((((S0++{ data:=#[32] })++SG)++{ data:=#[32] })++S1)) (by simp [results,Tryz.results77,go_sem]) rfl ⟨by rw [HT.out],HB4.out⟩
theorem rw_binn {w:World} {B:Nat} {op:Int} {y z:Ex} {m:Nat} (hm:zar op=m) (hm5:m≤5) (hm3:m≠3) (hop0:10≤op) (hop1:op≤22) (ho0:1≤opE y∧opE y≤24) (ho1:1≤opE z∧opE z≤24) (h0:WrR B y) (h1:WrR B z) (hz0:(zab y).length≤1000000000000000) (hz1:(zab z).length≤1000000000000000) {v:Value} (hL:EsL w B [y,z] v) (hB:B≤w.heap.size) :
  Calls Tryz.prog 77 #[.agg #[.int .u8 op,.int .i64 0,.string (bstr []),v]] w (TxtE (zak y (m)++[32]++zaO op++[32]++zak z (m+1)) w):=by
 obtain ⟨a,cap,rfl,hc1,hc2⟩:=hL.form;obtain ⟨W0,hW0,hb0,hO0⟩:∃ W0,W0=w.alloc (.cells #[.int .u8 op,.int .i64 0,.string (bstr []),.slice a 2 cap] 29)∧Below w.heap.size w W0∧OwnV W0 w.heap.size 29 [.int .u8 op,.int .i64 0,.string (bstr []),.slice a 2 cap]:=⟨_,rfl,(Below.refl _ _).alloc (zr _) _,OwnV.new _ _ _⟩;have HSt:Hid (∀ W,Calls Tryz.prog 120 #[.agg #[.int .u8 op,.int .i64 0,.string (bstr []),.slice a 2 cap]] W _):=zh (fun W=>strength_any (op:=op) (n:=0) (nm:=(bstr [])) (v:=.slice a 2 cap) (by omega) (by omega) ⟨_,_,_,rfl⟩ W);rw [hm] at HSt;obtain ⟨TX,hTX⟩:∃ X:List UInt8,zak y (m)++[32]++zaO op++[32]++zak z (m+1)=X:=⟨_,rfl⟩;rw [hTX];have HTX:=zh hTX;clear hTX;have hm6:(m:Int) < 6:=by omega
 have hm4:((m:Int) == 3)=false:=by rw [beq_eq_false_iff_ne];omega
 obtain ⟨K,rfl⟩:∃ K:Nat,op=(K:Int)+10:=⟨(op - 10).toNat,by omega⟩;have hK:K < 13:=by omega
 have hK':(K:Int) < 13:=by omega
 have hsl:=zeF hop0 hop1;have hsg:zaO ((K:Int)+10)=signWords.getD K []:=by unfold zaO;rw [show ((K:Int)+10 - 10).toNat=K by omega]
 obtain ⟨SG,hSG⟩:∃ S,bstr (zaO ((K:Int)+10))=S:=⟨_,rfl⟩;have hgl:SG.size≤2:=by rw [← hSG,zaC];exact hsl.1
 have HSg:Hid (bstr (signWords.getD K [])=SG):=zh (by rw [← hsg];exact hSG);have HW0:=zh hW0;have HO0:=zh hO0;have Hb0:=zh hb0;have HL:=zh hL;have x0:=hO0.cell (i:=0) rfl;have x1:=hO0.cell (i:=1) rfl;have x2:=hO0.cell (i:=2) rfl;have x3:=hO0.cell (i:=3) rfl;clear hW0 hO0 hb0 hL;go_enter Tryz.func77,Tryz.ntmps77
 go_upto_region 1 with (fail)
 rw [← HW0.out];go_wp2_with fail
 go_at_call 120;refine (HSt.out _).mono ?_;rintro e1 w1 ⟨rfl,hb1⟩;have HB1:=zh (Hb0.out.trans (hb1.mono Hb0.out.size));have HO1:=zh (HO0.out.below hb1 (zr _));clear hb1 x0 x1 x2 x3;obtain ⟨W2,hW2,hb2,hS2⟩:∃ W2,W2=w1.alloc (.cells #[.string { data:=#[42] },.string { data:=#[47] },.string { data:=#[37] },.string { data:=#[43] },.string { data:=#[45] },.string { data:=#[60] },.string { data:=#[60,61] },.string { data:=#[62] },.string { data:=#[62,61] },.string { data:=#[61,61] },.string { data:=#[33,61] },.string { data:=#[38,38] },.string { data:=#[124,124] }] 9)∧Below w1.heap.size w1 W2∧OwnV W2 w1.heap.size 9 (signWords.map fun s=>Value.string (bstr s)):=⟨_,rfl,(Below.refl _ _).alloc (zr _) _,OwnV.new w1 9 (signWords.map fun s=>Value.string (bstr s))⟩;have HO2:=zh (HO1.out.below hb2 (zr _));have HB2:=zh (HB1.out.trans (hb2.mono HB1.out.size));have HW2:=zh hW2;have HS2:=zh hS2;have x0:=HO1.out.cell (i:=0) rfl;have x1:=HO1.out.cell (i:=1) rfl;have x2:=HO1.out.cell (i:=2) rfl;have x3:=HO1.out.cell (i:=3) rfl;have z0:=HO2.out.cell (i:=0) rfl;have z1:=HO2.out.cell (i:=1) rfl;have z2:=HO2.out.cell (i:=2) rfl;have z3:=HO2.out.cell (i:=3) rfl;clear hW2 hb2 hS2 hsg hsl;go_upto_region 3 with (fail)
 rw [← HW2.out];clear x0 x1 x2 x3;go_wp2_with fail
 go_at_call 120;refine (HSt.out _).mono ?_;rintro e3 w3 ⟨rfl,hb3⟩;have HO3:=zh (HO2.out.below hb3 (zr _));have HB3:=zh (HB2.out.trans (hb3.mono HB2.out.size));have hS3:=HS2.out.below hb3 (zr _)
 have y0:w3.cell? ⟨w1.heap.size,K,none⟩=some (.string SG):=by
  have:=hS3.cell (i:=K) (v:=.string SG) (by
   rw [List.getElem?_map,← HSg.out];have:K=0∨K=1∨K=2∨K=3∨K=4∨K=5∨K=6∨K=7∨K=8∨K=9∨K=10∨K=11∨K=12:=by omega
   rcases this with rfl | rfl | rfl | rfl | rfl | rfl | rfl | rfl | rfl | rfl | rfl | rfl | rfl <;> rfl)
  exact this
 clear hb3 hS3 z0 z1 z2 z3 HO2 HB2 HW2 HS2;have hsz:B≤w3.heap.size:=Nat.le_trans hB HB3.out.size;have hL1:=HL.out.low (HB3.out.mono hB);obtain ⟨b,off,op0,n0,nm0,as0,aa0,ac0,rfl,hbB,hbw,hy0,c0,c1,c2,c3,hA0⟩:=hL1.at (k:=0) (by simp);cases hy0;obtain ⟨S0,hS0⟩:∃ S,bstr (zak (.mk op0 n0 nm0 as0) (m))=S:=⟨_,rfl⟩;have hln0:S0.size≤1000000000000010:=by rw [← hS0,zaC];have:=zkr (.mk op0 n0 nm0 as0) (m);omega
 have HA0:Hid (∀ W,Below w3.heap.size w3 W→Calls Tryz.prog 121 #[.agg #[.int .u8 op0,.int .i64 n0,.string (bstr nm0),.slice aa0 as0.length ac0],.int .i64 ((m:Int))] W fun e w'=>e=.returned (.string S0)∧Below W.heap.size W w'):=zh (fun W hb=>by rw [← hS0,show ((m:Int):Int)=((m:Nat):Int) by first | rfl | omega];exact rpart_any ho0.1 ho0.2 (by omega) hz0 h0 (Nat.le_trans hsz hb.size) (hA0.low (hb.mono hsz)));obtain ⟨b1,off1,op1,n1,nm1,as1,aa1,ac1,he1,-,-,hy1,d0,d1,d2,d3,hA1⟩:=hL1.at (k:=1) (by simp);cases he1;cases hy1;obtain ⟨S1,hS1⟩:∃ S,bstr (zak (.mk op1 n1 nm1 as1) (m+1))=S:=⟨_,rfl⟩;have hln1:S1.size≤1000000000000010:=by rw [← hS1,zaC];have:=zkr (.mk op1 n1 nm1 as1) (m+1);omega
 have HA1:Hid (∀ W,Below w3.heap.size w3 W→Calls Tryz.prog 121 #[.agg #[.int .u8 op1,.int .i64 n1,.string (bstr nm1),.slice aa1 as1.length ac1],.int .i64 ((m:Int)+1)] W fun e w'=>e=.returned (.string S1)∧Below W.heap.size W w'):=zh (fun W hb=>by rw [← hS1,show ((m:Int)+1:Int)=((m+1:Nat):Int) by first | rfl | omega];exact rpart_any ho1.1 ho1.2 (by omega) hz1 h1 (Nat.le_trans hsz hb.size) (hA1.low (hb.mono hsz)));simp only [Nat.zero_mul,Nat.add_zero,Nat.one_mul] at c0 c1 c2 c3 d0 d1 d2 d3
 have HT:Hid (bstr TX=(((S0++{ data:=#[32] })++SG)++{ data:=#[32] })++S1):=zh (by
  rw [← HTX.out,← hS0,← hS1,← hSG,show ({ data:=#[32] }:ByteArray)=bstr [32] from rfl]
  simp [zax])
 have x0:=HO3.out.cell (i:=0) rfl;have x3:=HO3.out.cell (i:=3) rfl;clear HL hS0 hS1 hL1 hA0 hA1 h0 h1 hz0 hz1 hSG ho0 ho1 hm HSt HO1 HB1 HW0 HO0;go_wp2_with fail
 refine zac (fun w'=>Below w3.heap.size w3 w') (by kernel_rfl) (by kernel_rfl) ((Below.refl _ _).drew) ?_
 repeat
  try simp only [Act.put,zs1,zs3,zs2]
  apply stepsSeq.cons
  ·intro w' hb1;have Hb1':=zh hb1;have x0':=Below.keep hb1 x0;have x3':=Below.keep hb1 x3;have y0':=Below.keep hb1 y0;have c0':=Below.keep hb1 c0;have c1':=Below.keep hb1 c1;have c2':=Below.keep hb1 c2;have c3':=Below.keep hb1 c3;have d0':=Below.keep hb1 d0;have d1':=Below.keep hb1 d1;have d2':=Below.keep hb1 d2;have d3':=Below.keep hb1 d3;simp only [Act.put,zs1,zs3,zs2];go_wp2_with ((first | (go_at_call_of 121 (Value.agg #[Value.int IntKind.u8 op0,Value.int IntKind.i64 n0,Value.string (bstr nm0),Value.slice aa0 as0.length ac0]);refine (HA0.out _ Hb1'.out).mono ?_;rintro e2 w2 ⟨rfl,hb2⟩) | (go_at_call_of 121 (Value.agg #[Value.int IntKind.u8 op1,Value.int IntKind.i64 n1,Value.string (bstr nm1),Value.slice aa1 as1.length ac1]);refine (HA1.out _ Hb1'.out).mono ?_;rintro e2 w2 ⟨rfl,hb2⟩)))
   first | exact ⟨rfl,Hb1'.out⟩ | exact ⟨rfl,Hb1'.out.trans (hb2.mono Hb1'.out.size)⟩
 try simp only [Act.put,zs1,zs3,zs2]
 refine stepsSeq.nil ?_;intro w' hb1;have HB4:=zh (HB3.out.trans (hb1.mono HB3.out.size));clear hb1 x0 x3 y0 c0 c1 c2 c3 d0 d1 d2 d3;go_wp2_with fail
 exact bodyPost_ret (v:=.string ((((S0++{ data:=#[32] })++SG)++{ data:=#[32] })++S1)) (by simp [results,Tryz.results77,go_sem]) rfl ⟨by rw [HT.out],HB4.out⟩

theorem shp_op {d:Nat} {x:Ex} (h:Shp d x):1≤opE x∧opE x≤24:=by
 cases h with
 | num=>simp only [opE];omega
 | var=>simp only [opE];omega
 | comp=>simp only [opE];omega
 | leaf h=>rcases h with rfl | rfl <;> (simp only [opE];omega)
 | call h=>rcases h with rfl | rfl <;> (simp only [opE];omega)
 | pre h=>rcases h with rfl | rfl <;> (simp only [opE];omega)
 | bin h0 h1=>simp only [opE];omega
 | two h=>rcases h with rfl | rfl <;> (simp only [opE];omega)
theorem rwrite_shp {B:Nat}:∀ {d:Nat} {x:Ex},Shp d x→d≤40→WrR B x:=by
 have hz:∀ {d:Nat} {x:Ex},Shp d x→d≤40→(zab x).length≤1000000000000000:=fun {d x} h hd=>by
  have:=zaE h hd 1;rwa [zaL] at this
 intro d x h
 induction h with
 | @num d n h0 h1 =>
  intro hd op' n' name' args' v w e hBw hL;cases e;obtain ⟨N,rfl⟩:∃ N:Nat,n=(N:Int):=⟨n.toNat,by omega⟩;rw [zcq]
  exact rw_num (by omega) hL hBw
 | @var d s h =>
  intro hd op' n' name' args' v w e hBw hL;cases e;rw [zcr]
  exact rw_var hL hBw
 | @comp d n a h0 h1 hs ih =>
  intro hd op' n' name' args' v w e hBw hL;cases e;obtain ⟨N,rfl⟩:∃ N:Nat,n=(N:Int)+1:=⟨(n - 1).toNat,by omega⟩;rw [zdu,show ((N:Int)+1 - 1).toNat=N from by omega]
  exact rw_comp (by omega) (ih (by omega)) (hz hs (by omega)) hL hBw
 | @leaf d op h =>
  intro hd op' n' name' args' v w e hBw hL;cases e;rcases h with rfl | rfl
  ·rw [zep];exact rw_tick hL hBw
  ·rw [zeq];exact rw_self hL hBw
 | @call d op a ho hs ih =>
  intro hd op' n' name' args' v w e hBw hL;cases e;rcases ho with rfl | rfl
  ·rw [zdv];exact rw_rand (ih (by omega)) (hz hs (by omega)) hL hBw
  ·rw [zcN];exact rw_abs (ih (by omega)) (hz hs (by omega)) hL hBw
 | @pre d op a ho hs ih =>
  intro hd op' n' name' args' v w e hBw hL;cases e;have hp:zaN (zat a,zab a) 6=zak a 6:=by cases a;rfl
  rcases ho with rfl | rfl
  ·rw [zcs,hp];exact rw_neg (shp_op hs) (ih (by omega)) (hz hs (by omega)) hL hBw
  ·rw [zdm,hp];exact rw_not (shp_op hs) (ih (by omega)) (hz hs (by omega)) hL hBw
 | @bin d op a b h0 h1 ha hb iha ihb =>
  intro hd op' n' name' args' v w e hBw hL;cases e;obtain ⟨-,-,hb1,hb5⟩:=zdE h0 h1;have pa:∀ k,zaN (zat a,zab a) k=zak a k:=fun k=>by cases a;rfl
  have pb:∀ k,zaN (zat b,zab b) k=zak b k:=fun k=>by cases b;rfl
  rw [zb0 h0 h1,pa,pb];by_cases hm:zar op=3
  ·rw [hm];exact rw_bin3 hm h0 h1 (shp_op ha) (shp_op hb) (iha (by omega)) (ihb (by omega)) (hz ha (by omega)) (hz hb (by omega)) hL hBw
  ·rw [show zby (zar op)=zar op by unfold zby;rw [if_neg hm]]
   exact rw_binn rfl (by omega) hm h0 h1 (shp_op ha) (shp_op hb) (iha (by omega)) (ihb (by omega)) (hz ha (by omega)) (hz hb (by omega)) hL hBw
 | @two d op a b ho ha hb iha ihb =>
  intro hd op' n' name' args' v w e hBw hL;cases e;rcases ho with rfl | rfl
  ·rw [zdT];exact rw_min (iha (by omega)) (ihb (by omega)) (hz ha (by omega)) (hz hb (by omega)) hL hBw
  ·rw [zdU];exact rw_max (iha (by omega)) (ihb (by omega)) (hz ha (by omega)) (hz hb (by omega)) hL hBw
theorem refExprText_any {w:World} {B:Nat} {op n:Int} {name:List UInt8} {args:List Ex} {v:Value} (hok:okE (.mk op n name args)) (hL:EsL w B args v) (hB:B≤w.heap.size) :
  Calls Tryz.prog 45 #[.agg #[.int .u8 op,.int .i64 n,.string (bstr name),v]] w (zks (zbK (.mk op n name args)) w):=by
 obtain ⟨a,cap,rfl,hc1,hc2⟩:=hL.form;have hLw:=hL.mono hB;obtain ⟨W0,hW0,hb0,hO0⟩:∃ W0,W0=w.alloc (.cells #[.int .u8 op,.int .i64 n,.string (bstr name),.slice a args.length cap] 29)∧Below w.heap.size w W0∧OwnV W0 w.heap.size 29 [.int .u8 op,.int .i64 n,.string (bstr name),.slice a args.length cap]:=⟨_,rfl,(Below.refl _ _).alloc (zr _) _,OwnV.new _ _ _⟩;have HFi:=zh (fine_any 40 (by omega) op n name args (.slice a args.length cap) W0 w.heap.size hok (hLw.low hb0) hb0.size);have HWr:Hid (zbd 40 (.mk op n name args)=true→∀ W,Below w.heap.size w W→Calls Tryz.prog 77 #[.agg #[.int .u8 op,.int .i64 n,.string (bstr name),.slice a args.length cap]] W (TxtE (zab (.mk op n name args)) W)):=zh (fun hf W hb=>rwrite_shp (zfB 40 _ hf hok) (by omega) op n name args (.slice a args.length cap) W rfl hb.size (hLw.low hb));unfold zbK
 generalize hT:zab (.mk op n name args)=T at *
 generalize zbd 40 (.mk op n name args)=q at *
 have HW0:=zh hW0;have Hb0:=zh hb0;have HO0:=zh hO0;have x0:=hO0.cell (i:=0) rfl;have x1:=hO0.cell (i:=1) rfl;have x2:=hO0.cell (i:=2) rfl;have x3:=hO0.cell (i:=3) rfl;clear hW0 hb0 hO0 hok hL hLw hT
 cases q with
 | false =>
  rw [if_neg (by decide)];go_enter Tryz.func45,Tryz.ntmps45
  go_upto_region 1 with (fail)
  rw [← HW0.out];go_wp2_with fail
  go_at_call 76;refine HFi.out.mono ?_;rintro e1 w1 ⟨rfl,hb1⟩;have Hb1:=zh (Hb0.out.trans (hb1.mono Hb0.out.size));clear hb1;go_wp2_with fail
  exact bodyPost_ret (v:=.tuple #[.string { data:=#[] },.int .i64 2]) (by simp [results,Tryz.results45,go_sem]) rfl ⟨rfl,Hb1.out⟩
 | true =>
  rw [if_pos rfl];have HWr2:=zh (HWr.out rfl);clear HWr;go_enter Tryz.func45,Tryz.ntmps45
  go_upto_region 1 with (fail)
  rw [← HW0.out];go_wp2_with fail
  go_at_call 76;refine HFi.out.mono ?_;rintro e1 w1 ⟨rfl,hb1⟩;have Hb1:=zh (Hb0.out.trans (hb1.mono Hb0.out.size));have hO1:=HO0.out.below hb1 (zr _);clear hb1 x0 x1 x2 x3;have x0:=hO1.cell (i:=0) rfl;have x1:=hO1.cell (i:=1) rfl;have x2:=hO1.cell (i:=2) rfl;have x3:=hO1.cell (i:=3) rfl;have HC:=zh (HWr2.out w1 Hb1.out);clear hO1 HWr2;have hsw:(zdN T)=(if 16384 < T.length then ([],3) else (T,0)):=rfl;obtain ⟨S,hS⟩:∃ S,bstr T=S:=⟨_,rfl⟩;have hl:S.size=T.length:=by rw [← hS,zaC]
  unfold TxtE at HC;rw [hS] at HC;have HS:=zh hS;by_cases hT:16384 < T.length
  ·rw [if_pos hT] at hsw;have hT':(S.size:Int) > 16384:=by omega
   have Hsw:=zh hsw;clear hsw hS hl hT;go_wp2_with fail
   go_at_call 77;refine HC.out.mono ?_;rintro e2 w2 ⟨rfl,hb2⟩;have Hb2:=zh (Hb1.out.trans (hb2.mono Hb1.out.size));clear hb2 HC x0 x1 x2 x3;go_wp2_with fail
   exact bodyPost_ret (v:=.tuple #[.string { data:=#[] },.int .i64 3]) (by simp [results,Tryz.results45,go_sem]) rfl ⟨by rw [Hsw.out];rfl,Hb2.out⟩
  ·rw [if_neg hT] at hsw;have hT':¬ (S.size:Int) > 16384:=by omega
   have Hsw:=zh hsw;clear hsw hS hl hT;go_wp2_with fail
   go_at_call 77;refine HC.out.mono ?_;rintro e2 w2 ⟨rfl,hb2⟩;have Hb2:=zh (Hb1.out.trans (hb2.mono Hb1.out.size));clear hb2 HC x0 x1 x2 x3;go_wp2_with fail
   exact bodyPost_ret (v:=.tuple #[.string S,.int .i64 0]) (by simp [results,Tryz.results45,go_sem]) rfl ⟨by rw [Hsw.out,HS.out],Hb2.out⟩

theorem shows_any {op n:Int} {name:List UInt8} {args:List Ex} {v:Value} {w:World} {B:Nat} (hok:okE (.mk op n name args)) (hL:EsL w B args v) (hB:B≤w.heap.size) (hG:Glob w) :
  Calls Tryz.prog 20 #[.agg #[.int .u8 op,.int .i64 n,.string (bstr name),v]] w (YesE w):=by
 have hgs:=hG.size;obtain ⟨a,cap,rfl,hc1,hc2⟩:=hL.form;obtain ⟨W0,hW0,hb0,hO0⟩:∃ W0,W0=w.alloc (.cells #[.int .u8 op,.int .i64 n,.string (bstr name),.slice a args.length cap] 29)∧Below w.heap.size w W0∧OwnV W0 w.heap.size 29 [.int .u8 op,.int .i64 n,.string (bstr name),.slice a args.length cap]:=⟨_,rfl,(Below.refl _ _).alloc (zr _) _,OwnV.new _ _ _⟩;have H1:=zh (zdO (w:=W0) (hG.below hb0 hgs) hok (hL.low (hb0.mono hB)) (Nat.le_trans hB hb0.size));have H2:Hid (∀ W,Below w.heap.size w W→Calls Tryz.prog 45 #[.agg #[.int .u8 op,.int .i64 n,.string (bstr name),.slice a args.length cap]] W (zks (zbK (.mk op n name args)) W)):=zh (fun W hb=>refExprText_any hok (hL.low (hb.mono hB)) (Nat.le_trans hB hb.size));unfold zks at H1 H2
 generalize (zbK (.mk op n name args)).2=C at *
 generalize bstr (zbK (.mk op n name args)).1=S at *
 have HW0:=zh hW0;have Hb0:=zh hb0;have HO0:=zh hO0;have x0:=hO0.cell (i:=0) rfl;have x1:=hO0.cell (i:=1) rfl;have x2:=hO0.cell (i:=2) rfl;have x3:=hO0.cell (i:=3) rfl;clear hW0 hb0 hO0 hG hok hL;go_enter Tryz.func20,Tryz.ntmps20
 go_upto_region 1 with (fail)
 rw [← HW0.out];go_wp2_with fail
 go_at_call 33;refine H1.out.mono ?_;rintro e1 w1 ⟨rfl,hb1⟩;have Hb1:=zh (Hb0.out.trans (hb1.mono Hb0.out.size));have hO1:=HO0.out.below hb1 (zr _);clear hb1 x0 x1 x2 x3;have x0:=hO1.cell (i:=0) rfl;have x1:=hO1.cell (i:=1) rfl;have x2:=hO1.cell (i:=2) rfl;have x3:=hO1.cell (i:=3) rfl;clear hO1;go_wp2_with fail
 go_at_call 45;refine (H2.out _ Hb1.out).mono ?_;rintro e2 w2 ⟨rfl,hb2⟩;have Hb2:=zh (Hb1.out.trans (hb2.mono Hb1.out.size));clear hb2 x0 x1 x2 x3;go_wp2_with fail
 exact bodyPost_ret (v:=.bool true) (by simp [results,Tryz.results20,go_sem]) rfl ⟨rfl,Hb2.out⟩
theorem parseShows_any (op n:Int) (name:List UInt8) (args:List Ex) (v:Value) (w:World) (hok:okE (.mk op n name args)) (hL:EsL w w.heap.size args v) (hG:Glob w) :
  Calls Tryz.prog 6 #[.agg #[.int .u8 op,.int .i64 n,.string (bstr name),v]] w (YesE w):=by
 have hgs:=hG.size;obtain ⟨a,cap,rfl,hc1,hc2⟩:=hL.form;obtain ⟨W0,hW0,hb0,hO0⟩:∃ W0,W0=w.alloc (.cells #[.int .u8 op,.int .i64 n,.string (bstr name),.slice a args.length cap] 29)∧Below w.heap.size w W0∧OwnV W0 w.heap.size 29 [.int .u8 op,.int .i64 n,.string (bstr name),.slice a args.length cap]:=⟨_,rfl,(Below.refl _ _).alloc (zr _) _,OwnV.new _ _ _⟩;have HSz:Hid (Calls Tryz.prog 19 #[.agg #[.int .u8 op,.int .i64 n,.string (bstr name),.slice a args.length cap],.int .i64 400] W0 _):=zh (zl0 (szEs args+1) op n name args _ W0 w.heap.size 400 (by omega) hok (hL.low hb0) hb0.size (by omega));have HSh:Hid (∀ W,Below w.heap.size w W→Calls Tryz.prog 20 #[.agg #[.int .u8 op,.int .i64 n,.string (bstr name),.slice a args.length cap]] W (YesE W)):=zh (fun W hb=>shows_any hok (hL.low hb) hb.size (hG.below hb hgs));have HA:Hid (∀ W,Below w.heap.size w W→Calls Tryz.prog 15 #[] W (YesE W)):=zh (fun W hb=>zfY (hG.below hb hgs));have HW0:=zh hW0;have Hb0:=zh hb0;have HO0:=zh hO0;have x0:=hO0.cell (i:=0) rfl;have x1:=hO0.cell (i:=1) rfl;have x2:=hO0.cell (i:=2) rfl;have x3:=hO0.cell (i:=3) rfl;clear hW0 hb0 hO0 hG hok hL;go_enter Tryz.func6,Tryz.ntmps6
 go_upto_region 1 with (fail)
 rw [← HW0.out];go_wp2_with fail
 go_at_call 19;refine HSz.out.mono ?_;rintro e1 w1 ⟨⟨r,rfl,hr0,hr1,hr2⟩,hb1⟩;have Hb1:=zh (Hb0.out.trans (hb1.mono Hb0.out.size));have hO1:=HO0.out.below hb1 (zr _);clear hb1 x0 x1 x2 x3 hr0 hr1 hr2;have x0:=hO1.cell (i:=0) rfl;have x1:=hO1.cell (i:=1) rfl;have x2:=hO1.cell (i:=2) rfl;have x3:=hO1.cell (i:=3) rfl;clear hO1;by_cases hr:(r:Int) > 400
 ·clear x0 x1 x2 x3;go_wp2_with fail
  go_at_call 15;refine (HA.out _ Hb1.out).mono ?_;rintro e2 w2 ⟨rfl,hb2⟩;have Hb2:=zh (Hb1.out.trans (hb2.mono Hb1.out.size));clear hb2;go_wp2_with fail
  exact bodyPost_ret (v:=.bool true) (by simp [results,Tryz.results6,go_sem]) rfl ⟨rfl,Hb2.out⟩
 ·go_wp2_with fail
  go_at_call 20;refine (HSh.out _ Hb1.out).mono ?_;rintro e2 w2 ⟨rfl,hb2⟩;have Hb2:=zh (Hb1.out.trans (hb2.mono Hb1.out.size));clear hb2 x0 x1 x2 x3;go_wp2_with fail
  go_at_call 15;refine (HA.out _ Hb2.out).mono ?_;rintro e3 w3 ⟨rfl,hb3⟩;have Hb3:=zh (Hb2.out.trans (hb3.mono Hb2.out.size));clear hb3;go_wp2_with fail
  exact bodyPost_ret (v:=.bool true) (by simp [results,Tryz.results6,go_sem]) rfl ⟨rfl,Hb3.out⟩
end Go.Proofs.YtoaojdobjinhfaaGreatDoor
