/- What parse.Expr gives of the four texts of ParseExprBack. -/
import Derived.Test.YtoaojdobjinhfaaGreatDoorAwMC
import Derived.Test.YtoaojdobjinhfaaGreatDoorExprME
import Derived.Test.YtoaojdobjinhfaaGreatDoorTreeZE
set_option linter.unusedSimpArgs false
set_option linter.unusedVariables false
set_option maxRecDepth 100000
set_option maxHeartbeats 4000000
namespace Go.Proofs.YtoaojdobjinhfaaGreatDoor
open Go.RowKit

theorem zeJ {w:World} (hG:Glob w) {t:List UInt8} {op n:Int} {name:List UInt8} {args:List Ex} (hx:zbT t=.ok (.mk op n name args)) (hlen:t.length≤16384) :
  Calls Tryz.prog 34 #[.string (bstr t)] w fun e w'=>(∃ a cap,e=.returned (.tuple #[.agg #[.int .u8 op,.int .i64 n,.string (bstr name),.slice a args.length cap],.int .i64 0,.int .i64 0,.int .i64 0])∧EsL w' w'.heap.size args (.slice a args.length cap))∧Below w.heap.size w w':=by
 have H:=zew hG (bstr t) (by rw [zcQ];omega);rw [show (bstr t).data.toList=t by simp [bstr],hx] at H;refine H.mono ?_;rintro e w' ⟨⟨v,rfl,cs,rfl,hX⟩,hb⟩;obtain ⟨aa,cap,rfl⟩:=hX.form1;exact ⟨⟨aa,cap,rfl,zhH hX⟩,hb⟩
inductive TeC (x : Ex) : ByteArray → Int → Prop where
  | wrong : TeC x { data := #[] } 2
  | long : TeC x { data := #[] } 3
  | good (h : zbd 40 x = true) (hl : (zab x).length ≤ 16384) : TeC x (bstr (zab x)) 0
theorem tec_of (x:Ex):TeC x (bstr (zbK x).1) (zbK x).2:=by
 have hT:zbK x=if zbd 40 x=true then zdN (zab x) else ([],2):=rfl
 have hsw:(zdN (zab x))=(if 16384 < (zab x).length then ([],3) else (zab x,0)):=rfl
 cases h:zbd 40 x with
 | false=>rw [hT,h];exact .wrong
 | true =>
  rw [hT,h,if_pos rfl,hsw];by_cases h2:16384 < (zab x).length
  ·rw [if_pos h2];exact .long
  ·rw [if_neg h2];exact .good h (by omega)
theorem zkX {op n:Int} {name:List UInt8} {args:List Ex} (hf:zbd 40 (.mk op n name args)=true) (hok:okE (.mk op n name args)) (hl:(zab (.mk op n name args)).length≤5000) {S:ByteArray} (hS:S=bstr (zab (.mk op n name args))) {w:World} (hG:Glob w) :
  (∀ W,Below w.heap.size w W→Calls Tryz.prog 34 #[.string S] W fun e w'=>(∃ a cap,e=.returned (.tuple #[.agg #[.int .u8 op,.int .i64 n,.string (bstr name),.slice a args.length cap],.int .i64 0,.int .i64 0,.int .i64 0])∧EsL w' w'.heap.size args (.slice a args.length cap))∧Below W.heap.size W w') ∧
  (∀ W,Below w.heap.size w W→Calls Tryz.prog 34 #[.string (({ data:=#[40,40] }++S)++{ data:=#[41,41] })] W fun e w'=>(∃ a cap,e=.returned (.tuple #[.agg #[.int .u8 op,.int .i64 n,.string (bstr name),.slice a args.length cap],.int .i64 0,.int .i64 0,.int .i64 0])∧EsL w' w'.heap.size args (.slice a args.length cap))∧Below W.heap.size W w') ∧
  (∀ W,Below w.heap.size w W→Calls Tryz.prog 34 #[.string (({ data:=#[97,98,115,40] }++S)++{ data:=#[41] })] W fun e w'=>(∃ a cap,e=.returned (.tuple #[.agg #[.int .u8 9,.int .i64 0,.string { data:=#[] },.slice a 1 cap],.int .i64 0,.int .i64 0,.int .i64 0])∧EsL w' w'.heap.size [.mk op n name args] (.slice a 1 cap))∧Below W.heap.size W w') ∧
  (∀ W,Below w.heap.size w W→Calls Tryz.prog 34 #[.string (((({ data:=#[40] }++S)++{ data:=#[41,32,42,32,40] })++S)++{ data:=#[41] })] W fun e w'=>(∃ a cap,e=.returned (.tuple #[.agg #[.int .u8 10,.int .i64 0,.string { data:=#[] },.slice a 2 cap],.int .i64 0,.int .i64 0,.int .i64 0])∧EsL w' w'.heap.size [.mk op n name args,.mk op n name args] (.slice a 2 cap))∧Below W.heap.size W w'):=by
 have hs:=zfB 40 _ hf hok;subst hS;refine ⟨fun W hb=>?_,fun W hb=>?_,fun W hb=>?_,fun W hb=>?_⟩
 ·exact zeJ (hG.below hb hG.size) (zf5 hs (by omega) (by omega)) (by omega)
 ·have e:(({ data:=#[40,40] }++bstr (zab (.mk op n name args)))++{ data:=#[41,41] }:ByteArray)=bstr ([40]++([40]++(zab (.mk op n name args)++([41]++[41])))):=by
   rw [show ({ data:=#[40,40] }:ByteArray)=bstr [40,40] from rfl,show ({ data:=#[41,41] }:ByteArray)=bstr [41,41] from rfl,zax,zax];first | rfl | (congr 1;simp)
  rw [e];exact zeJ (hG.below hb hG.size) (ziS hs (by omega) (by omega)) (by simp;omega)
 ·have e:(({ data:=#[97,98,115,40] }++bstr (zab (.mk op n name args)))++{ data:=#[41] }:ByteArray)=bstr ([97,98,115]++[40]++zab (.mk op n name args)++[41]):=by
   rw [show ({ data:=#[97,98,115,40] }:ByteArray)=bstr [97,98,115,40] from rfl,show ({ data:=#[41] }:ByteArray)=bstr [41] from rfl,zax,zax];first | rfl | (congr 1;simp)
  rw [e];exact zeJ (hG.below hb hG.size) (zl7 hs (by omega) (by omega)) (by simp;omega)
 ·have e:(((({ data:=#[40] }++bstr (zab (.mk op n name args)))++{ data:=#[41,32,42,32,40] })++bstr (zab (.mk op n name args)))++{ data:=#[41] }:ByteArray)=bstr ([40]++(zab (.mk op n name args)++([41]++([32]++(([42]++[32])++([40]++(zab (.mk op n name args)++[41]))))))):=by
   rw [show ({ data:=#[40] }:ByteArray)=bstr [40] from rfl,show ({ data:=#[41,32,42,32,40] }:ByteArray)=bstr [41,32,42,32,40] from rfl,show ({ data:=#[41] }:ByteArray)=bstr [41] from rfl,zax,zax,zax,zax];first | rfl | (congr 1;simp)
  rw [e];exact zeJ (hG.below hb hG.size) (zl8 hs (by omega) (by omega)) (by simp;omega)

theorem zds {w:World} {B:Nat} {op n:Int} {name:List UInt8} {args:List Ex} {a b:Option Addr} {ca cb:Nat} (hL:EsL w B args (.slice a args.length ca)) (hM:EsL w B args (.slice b args.length cb)) (hB:B≤w.heap.size) :
  Calls Tryz.prog 35 #[.agg #[.int .u8 op,.int .i64 n,.string (bstr name),.slice a args.length ca],.agg #[.int .u8 op,.int .i64 n,.string (bstr name),.slice b args.length cb]] w (YesE w):=
 zeT op n name args _ _ w ⟨a,ca,rfl⟩ ⟨b,cb,rfl⟩ (fun w' hb=>zes (szEs args+1) args _ _ w' B (by omega) (hL.low (hb.mono hB)) (hM.low (hb.mono hB)) (Nat.le_trans hB hb.size))
theorem zl2 (op n:Int) (name:List UInt8) (args:List Ex) (v:Value) (w:World) (hok:okE (.mk op n name args)) (hL:EsL w w.heap.size args v) (hG:Glob w) :
  Calls Tryz.prog 10 #[.agg #[.int .u8 op,.int .i64 n,.string (bstr name),v]] w (YesE w):=by
 have hgs:=hG.size;obtain ⟨a,cap,rfl,hc1,hc2⟩:=hL.form;obtain ⟨W1,hW1,hX1,hb1⟩:∃ W1,W1=w.alloc (.cells #[.int .u8 op,.int .i64 n,.string (bstr name),.slice a args.length cap] 29)∧OwnV W1 w.heap.size 29 [.int .u8 op,.int .i64 n,.string (bstr name),.slice a args.length cap]∧Below w.heap.size w W1:=⟨_,rfl,OwnV.new _ _ _,(Below.refl _ _).alloc (zr _) _⟩;have HL:Hid (∀ W,Below W1.heap.size W1 W→EsL W w.heap.size args (.slice a args.length cap)):=zh (fun W hb=>hL.low (hb1.trans (hb.mono hb1.size)));have HG:Hid (∀ W,Below W1.heap.size W1 W→Glob W):=zh (fun W hb=>hG.below (hb1.trans (hb.mono hb1.size)) hgs);have hG1:=hG.below hb1 hgs;have HA:=zh (zfY hG1);have HX1:=zh hX1;have Hb1:=zh hb1;have hgw:w.heap.size < W1.heap.size:=hX1.lt;have HSz:Hid (∀ W,Below W1.heap.size W1 W→Calls Tryz.prog 19 #[.agg #[.int .u8 op,.int .i64 n,.string (bstr name),.slice a args.length cap],.int .i64 400] W _):=zh (fun W hb=>zl0 (szEs args+1) op n name args _ W w.heap.size 400 (by omega) hok (HL.out W hb) (by have:=hb.size;omega) (by omega));have HT:Hid (∀ W,Below W1.heap.size W1 W→Calls Tryz.prog 33 #[.agg #[.int .u8 op,.int .i64 n,.string (bstr name),.slice a args.length cap]] W _):=zh (fun W hb=>zdO (HG.out W hb) hok (HL.out W hb) (by have:=hb.size;omega));have HC:=zh (tec_of (.mk op n name args));have H4:=zh (fun (S:ByteArray) (hS:S=bstr (zab (.mk op n name args))) (hf:zbd 40 (.mk op n name args)=true) (hl:(zab (.mk op n name args)).length≤5000)=>zkX hf hok hl hS hG1);have HLen:Hid ((bstr (zab (.mk op n name args))).size=(zab (.mk op n name args)).length):=zh (zcQ _);unfold zks at HT
 generalize (zbK (.mk op n name args)).2=C at *
 generalize bstr (zbK (.mk op n name args)).1=S at *
 clear hG hL hok hX1 hG1 hb1;go_enter Tryz.func10,Tryz.ntmps10
 go_wp2_with fail
 rw [← hW1];clear hW1;go_at_call 15;refine HA.out.mono ?_;rintro e2 w2 ⟨rfl,hb2⟩;have Hb2:=zh hb2;have hx:=HX1.out.below hb2 (by omega);have x0:=hx.cell (i:=0) rfl;have x1:=hx.cell (i:=1) rfl;have x2:=hx.cell (i:=2) rfl;have x3:=hx.cell (i:=3) rfl;clear hb2 hx;go_wp2_with fail
 go_at_call 19;refine (HSz.out _ Hb2.out).mono ?_;rintro e3 w3 ⟨⟨r,rfl,hr0,hr1,hr2⟩,hb3⟩;have Hb3:=zh (Hb2.out.trans (hb3.mono Hb2.out.size));have hx:=HX1.out.below Hb3.out (by omega);have x0:=hx.cell (i:=0) rfl;have x1:=hx.cell (i:=1) rfl;have x2:=hx.cell (i:=2) rfl;have x3:=hx.cell (i:=3) rfl;clear hb3 hx;have Hback:Hid (∀ W,Below W1.heap.size W1 W→Below w.heap.size w W):=zh (fun W hb=>Hb1.out.trans (hb.mono Hb1.out.size));by_cases hr:(r:Int) > 400
 ·go_wp2_with fail
  exact bodyPost_ret (v:=.bool true) (by simp [results,Tryz.results10,go_sem]) rfl ⟨rfl,Hback.out _ Hb3.out⟩
 ·clear hr0 hr1 hr2;go_wp2_with fail
  go_at_call 33;refine (HT.out _ Hb3.out).mono ?_;rintro e4 w4 ⟨rfl,hb4⟩;have Hb4:=zh (Hb3.out.trans (hb4.mono Hb3.out.size));clear hb4 HT;obtain hc:=HC.out
  cases hc with
  | wrong =>
   go_wp2_with fail
   exact bodyPost_ret (v:=.bool true) (by simp [results,Tryz.results10,go_sem]) rfl ⟨rfl,Hback.out _ Hb4.out⟩
  | long =>
   go_wp2_with fail
   exact bodyPost_ret (v:=.bool true) (by simp [results,Tryz.results10,go_sem]) rfl ⟨rfl,Hback.out _ Hb4.out⟩
  | good h hl =>
   have H4':=zh (fun hle=>H4.out _ rfl h hle)
   generalize hS:bstr (zab (.mk op n name args))=S at *
   by_cases h5:S.size > 5000
   ·have h5i:(S.size:Int) > 5000:=by omega
    go_wp2_with fail
    exact bodyPost_ret (v:=.bool true) (by simp [results,Tryz.results10,go_sem]) rfl ⟨rfl,Hback.out _ Hb4.out⟩
   have h5i:¬ (S.size:Int) > 5000:=by omega
   obtain ⟨E1,E2,E3,E4⟩:=H4'.out (by have:=HLen.out;omega);have HE1:=zh E1;have HE2:=zh E2;have HE3:=zh E3;have HE4:=zh E4;clear E1 E2 E3 E4 H4 H4' HC HLen hS hl h;go_wp2_with fail
   go_at_call 34;refine (HE1.out _ Hb4.out).mono ?_;rintro e5 w5 ⟨⟨p5,c5,rfl,hL5⟩,hb5⟩;have hs5:=hb5.size;obtain ⟨W5,hW5,hbW5,hO5⟩:∃ W5,W5=w5.alloc (.cells #[.int .u8 op,.int .i64 n,.string (bstr name),.slice p5 args.length c5] 29)∧Below w5.heap.size w5 W5∧OwnV W5 w5.heap.size 29 [.int .u8 op,.int .i64 n,.string (bstr name),.slice p5 args.length c5]:=⟨_,rfl,(Below.refl _ _).alloc (zr _) _,OwnV.new _ _ _⟩;have hsW5:=hbW5.size;have hb5':=hb5.trans (hbW5.mono hs5);have Hb5:=zh (Hb4.out.trans (hb5'.mono Hb4.out.size));have HL5:=zh (hL5.low hbW5);have HO5:=zh hO5;have HW5:=zh hW5;have hlt5:=hO5.lt;clear hL5 hb5 hb5' hW5 hbW5 hO5 HE1;go_upto_region 11 with (fail)
   rw [← HW5.out];go_wp2_with fail
   go_at_call 34;refine (HE2.out _ Hb5.out).mono ?_;rintro e6 w6 ⟨⟨p6,c6,rfl,hL6⟩,hb6⟩;have hs6:=hb6.size;obtain ⟨W6,hW6,hbW6,hO6⟩:∃ W6,W6=w6.alloc (.cells #[.int .u8 op,.int .i64 n,.string (bstr name),.slice p6 args.length c6] 29)∧Below w6.heap.size w6 W6∧OwnV W6 w6.heap.size 29 [.int .u8 op,.int .i64 n,.string (bstr name),.slice p6 args.length c6]:=⟨_,rfl,(Below.refl _ _).alloc (zr _) _,OwnV.new _ _ _⟩;have hsW6:=hbW6.size;have hb6':=hb6.trans (hbW6.mono hs6);have Hb6:=zh (Hb5.out.trans (hb6'.mono Hb5.out.size));have HL6:=zh (hL6.low hbW6);have HO6:=zh hO6;replace HO5:=zh (HO5.out.below hb6' (zr _));replace HL5:=zh (HL5.out.low (hb6'.mono (by omega)));have HW6:=zh hW6;have hlt6:=hO6.lt;clear hL6 hb6 hb6' hW6 hbW6 hO6 HE2;go_upto_region 12 with (fail)
   rw [← HW6.out];go_wp2_with fail
   go_at_call 34;refine (HE3.out _ Hb6.out).mono ?_;rintro e7 w7 ⟨⟨p7,c7,rfl,hL7⟩,hb7⟩;have hs7:=hb7.size;obtain ⟨W7,hW7,hbW7,hO7⟩:∃ W7,W7=w7.alloc (.cells #[.int .u8 9,.int .i64 0,.string { data:=#[] },.slice p7 1 c7] 29)∧Below w7.heap.size w7 W7∧OwnV W7 w7.heap.size 29 [.int .u8 9,.int .i64 0,.string { data:=#[] },.slice p7 1 c7]:=⟨_,rfl,(Below.refl _ _).alloc (zr _) _,OwnV.new _ _ _⟩;have hsW7:=hbW7.size;have hb7':=hb7.trans (hbW7.mono hs7);have Hb7:=zh (Hb6.out.trans (hb7'.mono Hb6.out.size));have HL7:=zh (hL7.low hbW7);have HO7:=zh hO7;replace HO5:=zh (HO5.out.below hb7' (zr _));replace HL5:=zh (HL5.out.low (hb7'.mono (by omega)));replace HO6:=zh (HO6.out.below hb7' (zr _));replace HL6:=zh (HL6.out.low (hb7'.mono (by omega)));have HW7:=zh hW7;have hlt7:=hO7.lt;clear hL7 hb7 hb7' hW7 hbW7 hO7 HE3;go_upto_region 13 with (fail)
   rw [← HW7.out];go_wp2_with fail
   go_at_call 34;refine (HE4.out _ Hb7.out).mono ?_;rintro e8 w8 ⟨⟨p8,c8,rfl,hL8⟩,hb8⟩;have hs8:=hb8.size;obtain ⟨W8,hW8,hbW8,hO8⟩:∃ W8,W8=w8.alloc (.cells #[.int .u8 10,.int .i64 0,.string { data:=#[] },.slice p8 2 c8] 29)∧Below w8.heap.size w8 W8∧OwnV W8 w8.heap.size 29 [.int .u8 10,.int .i64 0,.string { data:=#[] },.slice p8 2 c8]:=⟨_,rfl,(Below.refl _ _).alloc (zr _) _,OwnV.new _ _ _⟩;have hsW8:=hbW8.size;have hb8':=hb8.trans (hbW8.mono hs8);have Hb8:=zh (Hb7.out.trans (hb8'.mono Hb7.out.size));have HL8:=zh (hL8.low hbW8);have HO8:=zh hO8;replace HO5:=zh (HO5.out.below hb8' (zr _));replace HL5:=zh (HL5.out.low (hb8'.mono (by omega)));replace HO6:=zh (HO6.out.below hb8' (zr _));replace HL6:=zh (HL6.out.low (hb8'.mono (by omega)));replace HO7:=zh (HO7.out.below hb8' (zr _));replace HL7:=zh (HL7.out.low (hb8'.mono (by omega)));have HW8:=zh hW8;have hlt8:=hO8.lt;clear hL8 hb8 hb8' hW8 hbW8 hO8 HE4;have u3:=HO7.out.cell (i:=3) rfl;have v3:=HO8.out.cell (i:=3) rfl;go_upto_region 14 with (fail)
   rw [← HW8.out];go_upto_region 16 with (fail)
   have hx:=HX1.out.below Hb8.out (by omega);have x0:=hx.cell (i:=0) rfl;have x1:=hx.cell (i:=1) rfl;have x2:=hx.cell (i:=2) rfl;have x3:=hx.cell (i:=3) rfl;have y0:=HO5.out.cell (i:=0) rfl;have y1:=HO5.out.cell (i:=1) rfl;have y2:=HO5.out.cell (i:=2) rfl;have y3:=HO5.out.cell (i:=3) rfl;have z0:=HO6.out.cell (i:=0) rfl;have z1:=HO6.out.cell (i:=1) rfl;have z2:=HO6.out.cell (i:=2) rfl;have z3:=HO6.out.cell (i:=3) rfl;have u0:=HO7.out.cell (i:=0) rfl;have v0:=HO8.out.cell (i:=0) rfl;obtain ⟨b7,o7,op7,n7,nm7,ar7,aa7,ac7,rfl,-,-,hat7,q0,q1,q2,q3,hE7⟩:=HL7.out.at (k:=0) (by simp);obtain ⟨rfl,rfl,rfl,rfl⟩:op=op7∧n=n7∧name=nm7∧args=ar7:=by simpa using hat7
   obtain ⟨b8,o8,op8,n8,nm8,ar8,aa8,ac8,rfl,-,-,hat8,r0,r1,r2,r3,hE8⟩:=HL8.out.at (k:=0) (by simp);obtain ⟨rfl,rfl,rfl,rfl⟩:op=op8∧n=n8∧name=nm8∧args=ar8:=by simpa using hat8
   obtain ⟨b9,o9,op9,n9,nm9,ar9,ab8,ad8,hp9,-,-,hat9,s0,s1,s2,s3,hE9⟩:=HL8.out.at (k:=1) (by simp);obtain ⟨rfl,rfl,rfl,rfl⟩:op=op9∧n=n9∧name=nm9∧args=ar9:=by simpa using hat9
   obtain ⟨rfl,rfl⟩:b8=b9∧o8=o9:=by simpa using hp9
   have d0:W8.cell? ⟨b7,o7,none⟩=some (.int .u8 op):=by simpa using q0
   have d1:W8.cell? ⟨b7,o7+1,none⟩=some (.int .i64 n):=by simpa using q1
   have d2:W8.cell? ⟨b7,o7+2,none⟩=some (.string (bstr name)):=by simpa using q2
   have d3:W8.cell? ⟨b7,o7+3,none⟩=some (.slice aa7 args.length ac7):=by simpa using q3
   have e00:W8.cell? ⟨b8,o8,none⟩=some (.int .u8 op):=by simpa using r0
   have e10:W8.cell? ⟨b8,o8+1,none⟩=some (.int .i64 n):=by simpa using r1
   have e20:W8.cell? ⟨b8,o8+2,none⟩=some (.string (bstr name)):=by simpa using r2
   have e30:W8.cell? ⟨b8,o8+3,none⟩=some (.slice aa8 args.length ac8):=by simpa using r3
   have f00:W8.cell? ⟨b8,o8+4,none⟩=some (.int .u8 op):=by simpa using s0
   have f10:W8.cell? ⟨b8,o8+5,none⟩=some (.int .i64 n):=by simpa using s1
   have f20:W8.cell? ⟨b8,o8+6,none⟩=some (.string (bstr name)):=by simpa using s2
   have f30:W8.cell? ⟨b8,o8+7,none⟩=some (.slice ab8 args.length ad8):=by simpa using s3
   have hLa:EsL W8 W8.heap.size args (.slice a args.length cap):=(HL.out _ Hb8.out).mono (by have:=Hb8.out.size;omega);have hLa5:EsL W8 W8.heap.size args (.slice p5 args.length c5):=HL5.out.mono (by omega);have hLa6:EsL W8 W8.heap.size args (.slice p6 args.length c6):=HL6.out.mono (by omega);have hLa7:=hE7.mono (B':=W8.heap.size) (by omega);have hLa8:=hE8.mono (B':=W8.heap.size) (by omega);have hLa9:=hE9.mono (B':=W8.heap.size) (by omega);have HS5:=zh (fun W' (hb:Below W8.heap.size W8 W')=>zds (op:=op) (n:=n) (name:=name) (hLa.low hb) (hLa5.low hb) hb.size);have HS6:=zh (fun W' (hb:Below W8.heap.size W8 W')=>zds (op:=op) (n:=n) (name:=name) (hLa.low hb) (hLa6.low hb) hb.size);have HS7:=zh (fun W' (hb:Below W8.heap.size W8 W')=>zds (op:=op) (n:=n) (name:=name) (hLa.low hb) (hLa7.low hb) hb.size);have HS8:=zh (fun W' (hb:Below W8.heap.size W8 W')=>zds (op:=op) (n:=n) (name:=name) (hLa.low hb) (hLa8.low hb) hb.size);have HS9:=zh (fun W' (hb:Below W8.heap.size W8 W')=>zds (op:=op) (n:=n) (name:=name) (hLa.low hb) (hLa9.low hb) hb.size);clear q0 q1 q2 q3 r0 r1 r2 r3 s0 s1 s2 s3 hE7 hE8 hE9 hLa hLa5 hLa6 hLa7 hLa8 hLa9 hat7 hat8 hat9 hp9 HL5 HL6 HL7 HL8 HX1 HO5 HO6 HO7 HO8 hx;have Hx0:=zh x0;have Hx1:=zh x1;have Hx2:=zh x2;have Hx3:=zh x3;have Hy0:=zh y0;have Hy1:=zh y1;have Hy2:=zh y2;have Hy3:=zh y3;have Hz0:=zh z0;have Hz1:=zh z1;have Hz2:=zh z2;have Hz3:=zh z3;have Hu0:=zh u0;have Hu3:=zh u3;have Hv0:=zh v0;have Hv3:=zh v3;have Hd0:=zh d0;have Hd1:=zh d1;have Hd2:=zh d2;have Hd3:=zh d3;have He00:=zh e00;have He10:=zh e10;have He20:=zh e20;have He30:=zh e30;have Hf00:=zh f00;have Hf10:=zh f10;have Hf20:=zh f20;have Hf30:=zh f30;clear x0 x1 x2 x3 y0 y1 y2 y3 z0 z1 z2 z3 u0 u3 v0 v3 d0 d1 d2 d3 e00 e10 e20 e30 f00 f10 f20 f30;refine zac (fun w'=>Below W8.heap.size W8 w') (by kernel_rfl) (by kernel_rfl) ((Below.refl _ _).drew) ?_;try simp only [Act.put,zs1,zs3,zs2]
   apply stepsSeq.cons
   ·intro w' hb1;have Hb1':=zh hb1;have x0':=Below.keep hb1 Hx0.out;have x1':=Below.keep hb1 Hx1.out;have x2':=Below.keep hb1 Hx2.out;have x3':=Below.keep hb1 Hx3.out;clear hb1;go_wp2;exact ⟨rfl,Hb1'.out⟩
   try simp only [Act.put,zs1,zs3,zs2]
   apply stepsSeq.cons
   ·intro w' hb1;have Hb1':=zh hb1;have y0':=Below.keep hb1 Hy0.out;have y1':=Below.keep hb1 Hy1.out;have y2':=Below.keep hb1 Hy2.out;have y3':=Below.keep hb1 Hy3.out;clear hb1;go_wp2;exact ⟨rfl,Hb1'.out⟩
   try simp only [Act.put,zs1,zs3,zs2]
   apply stepsSeq.cons
   ·intro w' hb1;have Hb1':=zh hb1;clear hb1;go_wp2_with fail
    go_at_call 35;refine (HS5.out _ Hb1'.out).mono ?_;rintro e2 w2 ⟨rfl,hb2⟩;have Hb2':=zh (Hb1'.out.trans (hb2.mono Hb1'.out.size));clear hb2;go_wp2;exact ⟨rfl,Hb2'.out⟩
   iterate 1
    try simp only [Act.put,zs1,zs3,zs2]
    apply stepsSeq.cons
    ·intro w' hb1;have Hb1':=zh hb1;clear hb1;go_wp2;exact ⟨rfl,Hb1'.out⟩
   try simp only [Act.put,zs1,zs3,zs2]
   apply stepsSeq.cons
   ·intro w' hb1;have Hb1':=zh hb1;have x0':=Below.keep hb1 Hx0.out;have x1':=Below.keep hb1 Hx1.out;have x2':=Below.keep hb1 Hx2.out;have x3':=Below.keep hb1 Hx3.out;clear hb1;go_wp2;exact ⟨rfl,Hb1'.out⟩
   try simp only [Act.put,zs1,zs3,zs2]
   apply stepsSeq.cons
   ·intro w' hb1;have Hb1':=zh hb1;have z0':=Below.keep hb1 Hz0.out;have z1':=Below.keep hb1 Hz1.out;have z2':=Below.keep hb1 Hz2.out;have z3':=Below.keep hb1 Hz3.out;clear hb1;go_wp2;exact ⟨rfl,Hb1'.out⟩
   try simp only [Act.put,zs1,zs3,zs2]
   apply stepsSeq.cons
   ·intro w' hb1;have Hb1':=zh hb1;clear hb1;go_wp2_with fail
    go_at_call 35;refine (HS6.out _ Hb1'.out).mono ?_;rintro e2 w2 ⟨rfl,hb2⟩;have Hb2':=zh (Hb1'.out.trans (hb2.mono Hb1'.out.size));clear hb2;go_wp2;exact ⟨rfl,Hb2'.out⟩
   iterate 3
    try simp only [Act.put,zs1,zs3,zs2]
    apply stepsSeq.cons
    ·intro w' hb1;have Hb1':=zh hb1;clear hb1;go_wp2;exact ⟨rfl,Hb1'.out⟩
   try simp only [Act.put,zs1,zs3,zs2]
   apply stepsSeq.cons
   ·intro w' hb1;have Hb1':=zh hb1;have u0':=Below.keep hb1 Hu0.out;clear hb1;go_wp2;exact ⟨rfl,Hb1'.out⟩
   iterate 3
    try simp only [Act.put,zs1,zs3,zs2]
    apply stepsSeq.cons
    ·intro w' hb1;have Hb1':=zh hb1;clear hb1;go_wp2;exact ⟨rfl,Hb1'.out⟩
   try simp only [Act.put,zs1,zs3,zs2]
   apply stepsSeq.cons
   ·intro w' hb1;have Hb1':=zh hb1;have x0':=Below.keep hb1 Hx0.out;have x1':=Below.keep hb1 Hx1.out;have x2':=Below.keep hb1 Hx2.out;have x3':=Below.keep hb1 Hx3.out;clear hb1;go_wp2;exact ⟨rfl,Hb1'.out⟩
   iterate 1
    try simp only [Act.put,zs1,zs3,zs2]
    apply stepsSeq.cons
    ·intro w' hb1;have Hb1':=zh hb1;clear hb1;go_wp2;exact ⟨rfl,Hb1'.out⟩
   try simp only [Act.put,zs1,zs3,zs2]
   apply stepsSeq.cons
   ·intro w' hb1;have Hb1':=zh hb1;have u3':=Below.keep hb1 Hu3.out;clear hb1;go_wp2;exact ⟨rfl,Hb1'.out⟩
   iterate 1
    try simp only [Act.put,zs1,zs3,zs2]
    apply stepsSeq.cons
    ·intro w' hb1;have Hb1':=zh hb1;clear hb1;go_wp2;exact ⟨rfl,Hb1'.out⟩
   try simp only [Act.put,zs1,zs3,zs2]
   apply stepsSeq.cons
   ·intro w' hb1;have Hb1':=zh hb1;have d0':=Below.keep hb1 Hd0.out;have d1':=Below.keep hb1 Hd1.out;have d2':=Below.keep hb1 Hd2.out;have d3':=Below.keep hb1 Hd3.out;clear hb1;go_wp2;exact ⟨rfl,Hb1'.out⟩
   try simp only [Act.put,zs1,zs3,zs2]
   apply stepsSeq.cons
   ·intro w' hb1;have Hb1':=zh hb1;clear hb1;go_wp2_with fail
    go_at_call 35;refine (HS7.out _ Hb1'.out).mono ?_;rintro e2 w2 ⟨rfl,hb2⟩;have Hb2':=zh (Hb1'.out.trans (hb2.mono Hb1'.out.size));clear hb2;go_wp2;exact ⟨rfl,Hb2'.out⟩
   iterate 3
    try simp only [Act.put,zs1,zs3,zs2]
    apply stepsSeq.cons
    ·intro w' hb1;have Hb1':=zh hb1;clear hb1;go_wp2;exact ⟨rfl,Hb1'.out⟩
   try simp only [Act.put,zs1,zs3,zs2]
   apply stepsSeq.cons
   ·intro w' hb1;have Hb1':=zh hb1;have v0':=Below.keep hb1 Hv0.out;clear hb1;go_wp2;exact ⟨rfl,Hb1'.out⟩
   iterate 3
    try simp only [Act.put,zs1,zs3,zs2]
    apply stepsSeq.cons
    ·intro w' hb1;have Hb1':=zh hb1;clear hb1;go_wp2;exact ⟨rfl,Hb1'.out⟩
   try simp only [Act.put,zs1,zs3,zs2]
   apply stepsSeq.cons
   ·intro w' hb1;have Hb1':=zh hb1;have x0':=Below.keep hb1 Hx0.out;have x1':=Below.keep hb1 Hx1.out;have x2':=Below.keep hb1 Hx2.out;have x3':=Below.keep hb1 Hx3.out;clear hb1;go_wp2;exact ⟨rfl,Hb1'.out⟩
   iterate 1
    try simp only [Act.put,zs1,zs3,zs2]
    apply stepsSeq.cons
    ·intro w' hb1;have Hb1':=zh hb1;clear hb1;go_wp2;exact ⟨rfl,Hb1'.out⟩
   try simp only [Act.put,zs1,zs3,zs2]
   apply stepsSeq.cons
   ·intro w' hb1;have Hb1':=zh hb1;have v3':=Below.keep hb1 Hv3.out;clear hb1;go_wp2;exact ⟨rfl,Hb1'.out⟩
   iterate 1
    try simp only [Act.put,zs1,zs3,zs2]
    apply stepsSeq.cons
    ·intro w' hb1;have Hb1':=zh hb1;clear hb1;go_wp2;exact ⟨rfl,Hb1'.out⟩
   try simp only [Act.put,zs1,zs3,zs2]
   apply stepsSeq.cons
   ·intro w' hb1;have Hb1':=zh hb1;have e00':=Below.keep hb1 He00.out;have e10':=Below.keep hb1 He10.out;have e20':=Below.keep hb1 He20.out;have e30':=Below.keep hb1 He30.out;clear hb1;go_wp2;exact ⟨rfl,Hb1'.out⟩
   try simp only [Act.put,zs1,zs3,zs2]
   apply stepsSeq.cons
   ·intro w' hb1;have Hb1':=zh hb1;clear hb1;go_wp2_with fail
    go_at_call 35;refine (HS8.out _ Hb1'.out).mono ?_;rintro e2 w2 ⟨rfl,hb2⟩;have Hb2':=zh (Hb1'.out.trans (hb2.mono Hb1'.out.size));clear hb2;go_wp2;exact ⟨rfl,Hb2'.out⟩
   iterate 2
    try simp only [Act.put,zs1,zs3,zs2]
    apply stepsSeq.cons
    ·intro w' hb1;have Hb1':=zh hb1;clear hb1;go_wp2;exact ⟨rfl,Hb1'.out⟩
   try simp only [Act.put,zs1,zs3,zs2]
   apply stepsSeq.cons
   ·intro w' hb1;have Hb1':=zh hb1;have x0':=Below.keep hb1 Hx0.out;have x1':=Below.keep hb1 Hx1.out;have x2':=Below.keep hb1 Hx2.out;have x3':=Below.keep hb1 Hx3.out;clear hb1;go_wp2;exact ⟨rfl,Hb1'.out⟩
   iterate 1
    try simp only [Act.put,zs1,zs3,zs2]
    apply stepsSeq.cons
    ·intro w' hb1;have Hb1':=zh hb1;clear hb1;go_wp2;exact ⟨rfl,Hb1'.out⟩
   try simp only [Act.put,zs1,zs3,zs2]
   apply stepsSeq.cons
   ·intro w' hb1;have Hb1':=zh hb1;have v3':=Below.keep hb1 Hv3.out;clear hb1;go_wp2;exact ⟨rfl,Hb1'.out⟩
   iterate 1
    try simp only [Act.put,zs1,zs3,zs2]
    apply stepsSeq.cons
    ·intro w' hb1;have Hb1':=zh hb1;clear hb1;go_wp2;exact ⟨rfl,Hb1'.out⟩
   try simp only [Act.put,zs1,zs3,zs2]
   apply stepsSeq.cons
   ·intro w' hb1;have Hb1':=zh hb1;have f00':=Below.keep hb1 Hf00.out;have f10':=Below.keep hb1 Hf10.out;have f20':=Below.keep hb1 Hf20.out;have f30':=Below.keep hb1 Hf30.out;clear hb1;go_wp2;exact ⟨rfl,Hb1'.out⟩
   try simp only [Act.put,zs1,zs3,zs2]
   apply stepsSeq.cons
   ·intro w' hb1;have Hb1':=zh hb1;clear hb1;go_wp2_with fail
    go_at_call 35;refine (HS9.out _ Hb1'.out).mono ?_;rintro e2 w2 ⟨rfl,hb2⟩;have Hb2':=zh (Hb1'.out.trans (hb2.mono Hb1'.out.size));clear hb2;go_wp2;exact ⟨rfl,Hb2'.out⟩
   iterate 2
    try simp only [Act.put,zs1,zs3,zs2]
    apply stepsSeq.cons
    ·intro w' hb1;have Hb1':=zh hb1;clear hb1;go_wp2;exact ⟨rfl,Hb1'.out⟩
   try simp only [Act.put,zs1,zs3,zs2]
   refine stepsSeq.nil ?_;intro w' hb1;try simp only [Act.put,zs1,zs3,zs2]
   have Hb9:=zh (Hback.out _ (Hb8.out.trans (hb1.mono Hb8.out.size)));clear hb1;go_wp2_with fail
   exact bodyPost_ret (v:=.bool true) (by simp [results,Tryz.results10,go_sem]) rfl ⟨rfl,Hb9.out⟩
end Go.Proofs.YtoaojdobjinhfaaGreatDoor
