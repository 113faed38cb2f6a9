/- marcheslaw12.reads and ParseExprs, walked. -/
import Derived.Test.YtoaojdobjinhfaaGreatDoorAwMC
import Derived.Test.YtoaojdobjinhfaaGreatDoorRExXX
set_option linter.unusedSimpArgs false
set_option linter.unusedVariables false
set_option maxRecDepth 100000
set_option maxHeartbeats 1000000
namespace Go.Proofs.YtoaojdobjinhfaaGreatDoor
open Go.RowKit

def XAns (op n : Int) (name : List UInt8) (args : List Ex) (a b c : Int) (w : World) (e : Ending) (w' : World) : Prop :=
  (∃ p cap, e = .returned (.tuple #[.agg #[.int .u8 op, .int .i64 n, .string (bstr name), .slice p args.length cap], .int .i64 a, .int .i64 b, .int .i64 c]) ∧ EsL w' w'.heap.size args (.slice p args.length cap)) ∧ Below w.heap.size w w'
theorem xans_of {w w':World} {e:Ending} {x:ParX} {op n:Int} {name:List UInt8} {args:List Ex} {a b c:Int} (h:ExpE w w' e x∧Below w.heap.size w w')
  (hx:x=.ok (.mk op n name args)∧a=0∧b=0∧c=0∨x=.err a b c∧op=0∧n=0∧name=[]∧args=[]):XAns op n name args a b c w e w':=by
 rcases hx with ⟨rfl,rfl,rfl,rfl⟩ | ⟨rfl,rfl,rfl,rfl,rfl⟩
 ·obtain ⟨⟨v,rfl,cs,rfl,hX⟩,hb⟩:=h;obtain ⟨aa,cap,rfl⟩:=hX.form1;exact ⟨⟨aa,cap,rfl,zhH hX⟩,hb⟩
 ·obtain ⟨⟨rfl,-⟩,hb⟩:=h;exact ⟨⟨none,0,rfl,EsL.nil _ _⟩,hb⟩
theorem expr_ans (s:ByteArray) (hs:s.size≤9223372036854775807):∃ (op n:Int) (name:List UInt8) (args:List Ex) (a b c:Int),
  (∀ w:World,Glob w→Calls Tryz.prog 34 #[.string s] w (XAns op n name args a b c w))∧(∀ w:World,Calls Tryz.prog 41 #[.string s] w (XAns op n name args a b c w)):=by
 cases h:zbT s.data.toList with
 | ok x =>
  obtain ⟨op,n,name,args⟩:=x
  exact ⟨op,n,name,args,0,0,0,fun w hG=>(zew hG s hs).mono fun e w' he=>xans_of he (.inl ⟨h,rfl,rfl,rfl⟩),fun w=>(refExpr_any s w hs).mono fun e w' he=>xans_of he (.inl ⟨h,rfl,rfl,rfl⟩)⟩
 | err a b c =>
  exact ⟨0,0,[],[],a,b,c,fun w hG=>(zew hG s hs).mono fun e w' he=>xans_of he (.inr ⟨h,rfl,rfl,rfl,rfl⟩),fun w=>(refExpr_any s w hs).mono fun e w' he=>xans_of he (.inr ⟨h,rfl,rfl,rfl,rfl⟩)⟩
theorem reads_any (s:ByteArray) (hs:s.size≤9223372036854775807) (w:World) (hG:Glob w):Calls Tryz.prog 16 #[.string s] w (YesE w):=by
 obtain ⟨op,n,name,args,a,b,c,h1,h2⟩:=expr_ans s hs;unfold XAns at h1 h2;have H1:=zh (h1 w hG);have H2:=zh h2;have hgs:=hG.size;clear h1 h2 hG hs;go_enter Tryz.func16,Tryz.ntmps16
 go_wp2_with fail
 go_at_call 34;refine H1.out.mono ?_;rintro e1 w1 ⟨⟨p1,c1,rfl,hL1⟩,hb1⟩;have HL1:=zh (EsL.mono (hL1.low ((Below.refl _ _).alloc (zr _) (.cells #[.int .u8 op,.int .i64 n,.string (bstr name),.slice p1 args.length c1] 29))) (Nat.le_of_lt (OwnV.new w1 29 [.int .u8 op,.int .i64 n,.string (bstr name),.slice p1 args.length c1]).lt));have Hb1:=zh (hb1.alloc hb1.size (.cells #[.int .u8 op,.int .i64 n,.string (bstr name),.slice p1 args.length c1] 29));have HO1:=zh (OwnV.new w1 29 [.int .u8 op,.int .i64 n,.string (bstr name),.slice p1 args.length c1]);clear hL1 hb1;go_wp2_with fail
 go_at_call 41;refine (H2.out _).mono ?_;rintro e2 w2 ⟨⟨p2,c2,rfl,hL2⟩,hb2⟩;have Hb2:=zh ((Hb1.out.trans (hb2.mono Hb1.out.size)).alloc (Nat.le_trans Hb1.out.size hb2.size) (.cells #[.int .u8 op,.int .i64 n,.string (bstr name),.slice p2 args.length c2] 29));have hx:=(HO1.out.below hb2 (zr _)).alloc (.cells #[.int .u8 op,.int .i64 n,.string (bstr name),.slice p2 args.length c2] 29);have hy:=OwnV.new w2 29 [.int .u8 op,.int .i64 n,.string (bstr name),.slice p2 args.length c2];have hsz:=hy.lt;have HS:=zh (zeT op n name args _ _ (w2.alloc (.cells #[.int .u8 op,.int .i64 n,.string (bstr name),.slice p2 args.length c2] 29)) ⟨p1,c1,rfl⟩ ⟨p2,c2,rfl⟩ (fun w' hb=>zes (szEs args+1) args _ _ w' w2.heap.size (by omega) ((EsL.mono (HL1.out.low hb2) hb2.size).low (((Below.refl _ _).alloc (zr _) _).trans (hb.mono (Nat.le_of_lt hsz)))) (hL2.low (((Below.refl _ _).alloc (zr _) _).trans (hb.mono (Nat.le_of_lt hsz)))) (Nat.le_trans (Nat.le_of_lt hsz) hb.size)));have x0:=hx.cell (i:=0) rfl;have x1:=hx.cell (i:=1) rfl;have x2:=hx.cell (i:=2) rfl;have x3:=hx.cell (i:=3) rfl;have y0:=hy.cell (i:=0) rfl;have y1:=hy.cell (i:=1) rfl;have y2:=hy.cell (i:=2) rfl;have y3:=hy.cell (i:=3) rfl;clear hL2 hb2 hx hy;go_wp2_with fail
 go_at_call 35;refine HS.out.mono ?_;rintro e3 w3 ⟨rfl,hb3⟩;have Hb3:=zh (Hb2.out.trans (hb3.mono Hb2.out.size));clear hb3;go_wp2_with fail
 exact bodyPost_ret (v:=.bool true) (by simp [results,Tryz.results16,go_sem]) rfl ⟨rfl,Hb3.out⟩
theorem parseExprs_any (s:ByteArray) (w:World) (hG:Glob w):Calls Tryz.prog 4 #[.string s] w (YesE w):=by
 have hgs:=hG.size;have HAw:Hid (∀ W,Below w.heap.size w W→Calls Tryz.prog 15 #[] W (YesE W)):=zh (fun W hb=>zfY (hG.below hb hgs));by_cases h:3000 < s.size
 ·have h1:(s.size:Int) > 3000:=by omega
  have HA:=zh (HAw.out w (Below.refl _ _));clear hG;go_enter Tryz.func4,Tryz.ntmps4
  go_wp2_with fail
  go_at_call 15;refine HA.out.mono ?_;rintro e1 w1 ⟨rfl,hb1⟩;have Hb1:=zh hb1;clear hb1;go_wp2_with fail
  exact bodyPost_ret (v:=.bool true) (by simp [results,Tryz.results4,go_sem]) rfl ⟨rfl,Hb1.out⟩
 ·have h1:¬ (s.size:Int) > 3000:=by omega
  have HP:=zh (reads_any s (by omega) w hG);clear hG;go_enter Tryz.func4,Tryz.ntmps4
  go_wp2_with fail
  go_at_call 16;refine HP.out.mono ?_;rintro e1 w1 ⟨rfl,hb1⟩;have Hb1:=zh hb1;have HA:=zh (HAw.out w1 hb1);clear hb1;go_wp2_with fail
  go_at_call 15;refine HA.out.mono ?_;rintro e2 w2 ⟨rfl,hb2⟩;have Hb2:=zh (Hb1.out.trans (hb2.mono Hb1.out.size));clear hb2;go_wp2_with fail
  exact bodyPost_ret (v:=.bool true) (by simp [results,Tryz.results4,go_sem]) rfl ⟨rfl,Hb2.out⟩
end Go.Proofs.YtoaojdobjinhfaaGreatDoor
