/- marchesref13.expr, walked: but for 'and' and 'or'. -/
import Derived.Test.YtdeneckmoejcfaaRCodeZs
set_option linter.unusedSimpArgs false
set_option linter.unusedVariables false
set_option maxRecDepth 100000
set_option maxHeartbeats 2000000
namespace Go.Proofs.Ytdeneckmoejcfaa
open Go.RowKit

def ExprCR (w w' : World) (e : Ending) : CR znA -> Prop
  | .ok c => ∃ v, e = .returned (.tuple #[v, .int .i64 0]) /\ OwnC w' w.heap.size 47 v c
  | .err k => e = .returned (.tuple #[.slice none 0 0, .int .i64 k])
theorem Strs.below {w w':World} {l:znU} {v:Value} (h:Strs w l v) (hb:Below w.heap.size w w'):Strs w' l v:=Sl.below (by omega) h hb (zr _)
theorem zn2 {op n:Int} {name:List UInt8} {len:Nat} (h:zbN op n name len=true):len=zb9 op/\1<=op/\op<=24:=by
 unfold zbN at h;rw [yC,yC,yQ,yQ] at h;exact ⟨h.2.1,h.1⟩
theorem code_one (ns:znU) (op n:Int) (name:List UInt8) (x:Ex) (h:op≠1/\op≠2/\op≠4/\op≠5):znV ns (.mk op n name [x])=(znV ns x).andThen fun c=>.ok (znB c [if op=3 then ⟨4,n⟩ else if op=6 then ⟨8,0⟩ else ⟨9,op⟩]):=by
 rw [znV,yN h.1,yN h.2.1,yN h.2.2.1,yN h.2.2.2,znG];cases znV ns x <;> rfl
theorem code_two (ns:znU) (op n:Int) (name:List UInt8) (x y:Ex) (h:op≠1/\op≠2/\op≠4/\op≠5):znV ns (.mk op n name [x,y])=(znV ns x).andThen fun a=>(znV ns y).andThen fun b=>.ok (if op=21∨op=22 then zo0 a b op else znB (znB a b) [⟨9,op⟩]):=by
 rw [znV,yN h.1,yN h.2.1,yN h.2.2.1,yN h.2.2.2,znG,znG]
 cases znV ns x with
 | err e=>rfl
 | ok a=>cases znV ns y <;> rfl
theorem jOk_small {c:znA} (h:jOk c) (hl:c.length<=1000000):∀ i ∈ c,zn5 i=true->0<=i.a/\i.a<=1000000:=fun i hi hj=>by have:=h i hi hj;omega
theorem rexpr_c1 (d:Nat) (ih:∀ (op n:Int) (name:List UInt8) (args:List Ex) (v:Value) (w:World) (B:Nat) (ns:znU) (vn:Value),zbd d (.mk op n name args)=true->okE (.mk op n name args)->szE (.mk op n name args)<=100000->EsL w B args v->B<=w.heap.size->Strs w ns vn->ns.length<=1000000->Calls Try.prog 70 #[.agg #[.int .u8 op,.int .i64 n,.string (bstr name),v],vn] w fun e w'=>ExprCR w w' e (znV ns (.mk op n name args))/\Below w.heap.size w w')
  (n:Int) (name:List UInt8) (args:List Ex) (v:Value) (w:World) (B:Nat) (ns:znU) (vn:Value) (hf:zbd (d+1) (.mk 1 n name args)=true) (hok:okE (.mk 1 n name args)) (hsz:szE (.mk 1 n name args)<=100000) (hL:EsL w B args v) (_hB:B<=w.heap.size) (hS:Strs w ns vn) (_hns:ns.length<=1000000) :
  Calls Try.prog 70 #[.agg #[.int .u8 1,.int .i64 n,.string (bstr name),v],vn] w fun e w'=>ExprCR w w' e (znV ns (.mk 1 n name args))/\Below w.heap.size w w':=by
 obtain ⟨a,cap,rfl,hcc1,hcc2⟩:=hL.form;obtain ⟨an,capn,rfl,hcn1,hcn2⟩:=Sl.form hS;have Hih:=zh ih;have HL:=zh hL;have HS:=zh hS;obtain ⟨-,-,-,hoks⟩:=hok;have Hoks:=zh hoks;rw [zbd,yC] at hf;obtain ⟨hh,hall⟩:=hf;have Hall:=zh hall;have hsz2:szEs args<=100000:=by rw [szE] at hsz;omega
 obtain ⟨W1,hW1,hX1,hb1⟩:∃ W1,W1=w.alloc (.cells #[.int .u8 1,.int .i64 n,.string (bstr name),.slice a args.length cap] 65)/\OwnV W1 w.heap.size 65 [.int .u8 1,.int .i64 n,.string (bstr name),.slice a args.length cap]/\Below w.heap.size w W1:=⟨_,rfl,OwnV.new _ _ _,(yR _ _).alloc (zr _) _⟩;have Hb1:=zh hb1;have HX1:=zh hX1;obtain ⟨x0,x1⟩:=yc2 hX1;have HW1:=zh hW1;have hs1:=hb1.size;have HOne:Hid (∀ (op a:Int) (W:World),_):=zh (fun (op a:Int) (W:World)=>one_any op a W);have Hc:Hid (znV ns (.mk 1 n name args)=.ok [⟨1,n⟩]):=zh rfl
 generalize znV ns (.mk 1 n name args)=R at *
 clear ih hL hS hoks hall hb1 hX1 hW1;go_enter Try.func70,Try.ntmps70
 go_upto_region 1 with (fail)
 rw [<- HW1.out];go_wp2_with fail
 refine (HOne.out _ _ _).mono ?_;rintro e2 w2 ⟨⟨v2,rfl,hO2⟩,hb2⟩;have HO2:=zh (znE hO2 hs1);have Hb2:=zh (Hb1.out.trans (hb2.mono hs1));clear hO2 hb2;go_wp2_with fail
 exact yE (v:=.tuple #[v2,.int .i64 0]) (by simp [results,Try.results70,go_sem]) rfl ⟨by rw [Hc.out];exact ⟨_,rfl,HO2.out⟩,Hb2.out⟩
theorem rexpr_c4 (d:Nat) (ih:∀ (op n:Int) (name:List UInt8) (args:List Ex) (v:Value) (w:World) (B:Nat) (ns:znU) (vn:Value),zbd d (.mk op n name args)=true->okE (.mk op n name args)->szE (.mk op n name args)<=100000->EsL w B args v->B<=w.heap.size->Strs w ns vn->ns.length<=1000000->Calls Try.prog 70 #[.agg #[.int .u8 op,.int .i64 n,.string (bstr name),v],vn] w fun e w'=>ExprCR w w' e (znV ns (.mk op n name args))/\Below w.heap.size w w')
  (n:Int) (name:List UInt8) (args:List Ex) (v:Value) (w:World) (B:Nat) (ns:znU) (vn:Value) (hf:zbd (d+1) (.mk 4 n name args)=true) (hok:okE (.mk 4 n name args)) (hsz:szE (.mk 4 n name args)<=100000) (hL:EsL w B args v) (_hB:B<=w.heap.size) (hS:Strs w ns vn) (_hns:ns.length<=1000000) :
  Calls Try.prog 70 #[.agg #[.int .u8 4,.int .i64 n,.string (bstr name),v],vn] w fun e w'=>ExprCR w w' e (znV ns (.mk 4 n name args))/\Below w.heap.size w w':=by
 obtain ⟨a,cap,rfl,hcc1,hcc2⟩:=hL.form;obtain ⟨an,capn,rfl,hcn1,hcn2⟩:=Sl.form hS;have Hih:=zh ih;have HL:=zh hL;have HS:=zh hS;obtain ⟨-,-,-,hoks⟩:=hok;have Hoks:=zh hoks;rw [zbd,yC] at hf;obtain ⟨hh,hall⟩:=hf;have Hall:=zh hall;have hsz2:szEs args<=100000:=by rw [szE] at hsz;omega
 obtain ⟨W1,hW1,hX1,hb1⟩:∃ W1,W1=w.alloc (.cells #[.int .u8 4,.int .i64 n,.string (bstr name),.slice a args.length cap] 65)/\OwnV W1 w.heap.size 65 [.int .u8 4,.int .i64 n,.string (bstr name),.slice a args.length cap]/\Below w.heap.size w W1:=⟨_,rfl,OwnV.new _ _ _,(yR _ _).alloc (zr _) _⟩;have Hb1:=zh hb1;have HX1:=zh hX1;have x0:=hX1.cell (i:=0) rfl;have HW1:=zh hW1;have hs1:=hb1.size;have HOne:Hid (∀ (op a:Int) (W:World),_):=zh (fun (op a:Int) (W:World)=>one_any op a W);have Hc:Hid (znV ns (.mk 4 n name args)=.ok [⟨6,0⟩]):=zh rfl
 generalize znV ns (.mk 4 n name args)=R at *
 clear ih hL hS hoks hall hb1 hX1 hW1;go_enter Try.func70,Try.ntmps70
 go_upto_region 1 with (fail)
 rw [<- HW1.out];go_wp2_with fail
 refine (HOne.out _ _ _).mono ?_;rintro e2 w2 ⟨⟨v2,rfl,hO2⟩,hb2⟩;have HO2:=zh (znE hO2 hs1);have Hb2:=zh (Hb1.out.trans (hb2.mono hs1));clear hO2 hb2;go_wp2_with fail
 exact yE (v:=.tuple #[v2,.int .i64 0]) (by simp [results,Try.results70,go_sem]) rfl ⟨by rw [Hc.out];exact ⟨_,rfl,HO2.out⟩,Hb2.out⟩
theorem rexpr_c5 (d:Nat) (ih:∀ (op n:Int) (name:List UInt8) (args:List Ex) (v:Value) (w:World) (B:Nat) (ns:znU) (vn:Value),zbd d (.mk op n name args)=true->okE (.mk op n name args)->szE (.mk op n name args)<=100000->EsL w B args v->B<=w.heap.size->Strs w ns vn->ns.length<=1000000->Calls Try.prog 70 #[.agg #[.int .u8 op,.int .i64 n,.string (bstr name),v],vn] w fun e w'=>ExprCR w w' e (znV ns (.mk op n name args))/\Below w.heap.size w w')
  (n:Int) (name:List UInt8) (args:List Ex) (v:Value) (w:World) (B:Nat) (ns:znU) (vn:Value) (hf:zbd (d+1) (.mk 5 n name args)=true) (hok:okE (.mk 5 n name args)) (hsz:szE (.mk 5 n name args)<=100000) (hL:EsL w B args v) (_hB:B<=w.heap.size) (hS:Strs w ns vn) (_hns:ns.length<=1000000) :
  Calls Try.prog 70 #[.agg #[.int .u8 5,.int .i64 n,.string (bstr name),v],vn] w fun e w'=>ExprCR w w' e (znV ns (.mk 5 n name args))/\Below w.heap.size w w':=by
 obtain ⟨a,cap,rfl,hcc1,hcc2⟩:=hL.form;obtain ⟨an,capn,rfl,hcn1,hcn2⟩:=Sl.form hS;have Hih:=zh ih;have HL:=zh hL;have HS:=zh hS;obtain ⟨-,-,-,hoks⟩:=hok;have Hoks:=zh hoks;rw [zbd,yC] at hf;obtain ⟨hh,hall⟩:=hf;have Hall:=zh hall;have hsz2:szEs args<=100000:=by rw [szE] at hsz;omega
 obtain ⟨W1,hW1,hX1,hb1⟩:∃ W1,W1=w.alloc (.cells #[.int .u8 5,.int .i64 n,.string (bstr name),.slice a args.length cap] 65)/\OwnV W1 w.heap.size 65 [.int .u8 5,.int .i64 n,.string (bstr name),.slice a args.length cap]/\Below w.heap.size w W1:=⟨_,rfl,OwnV.new _ _ _,(yR _ _).alloc (zr _) _⟩;have Hb1:=zh hb1;have HX1:=zh hX1;have x0:=hX1.cell (i:=0) rfl;have HW1:=zh hW1;have hs1:=hb1.size;have HOne:Hid (∀ (op a:Int) (W:World),_):=zh (fun (op a:Int) (W:World)=>one_any op a W);have Hc:Hid (znV ns (.mk 5 n name args)=.ok [⟨7,0⟩]):=zh rfl
 generalize znV ns (.mk 5 n name args)=R at *
 clear ih hL hS hoks hall hb1 hX1 hW1;go_enter Try.func70,Try.ntmps70
 go_upto_region 1 with (fail)
 rw [<- HW1.out];go_wp2_with fail
 refine (HOne.out _ _ _).mono ?_;rintro e2 w2 ⟨⟨v2,rfl,hO2⟩,hb2⟩;have HO2:=zh (znE hO2 hs1);have Hb2:=zh (Hb1.out.trans (hb2.mono hs1));clear hO2 hb2;go_wp2_with fail
 exact yE (v:=.tuple #[v2,.int .i64 0]) (by simp [results,Try.results70,go_sem]) rfl ⟨by rw [Hc.out];exact ⟨_,rfl,HO2.out⟩,Hb2.out⟩
theorem rexpr_c2 (d:Nat) (ih:∀ (op n:Int) (name:List UInt8) (args:List Ex) (v:Value) (w:World) (B:Nat) (ns:znU) (vn:Value),zbd d (.mk op n name args)=true->okE (.mk op n name args)->szE (.mk op n name args)<=100000->EsL w B args v->B<=w.heap.size->Strs w ns vn->ns.length<=1000000->Calls Try.prog 70 #[.agg #[.int .u8 op,.int .i64 n,.string (bstr name),v],vn] w fun e w'=>ExprCR w w' e (znV ns (.mk op n name args))/\Below w.heap.size w w')
  (n:Int) (name:List UInt8) (args:List Ex) (v:Value) (w:World) (B:Nat) (ns:znU) (vn:Value) (hf:zbd (d+1) (.mk 2 n name args)=true) (hok:okE (.mk 2 n name args)) (hsz:szE (.mk 2 n name args)<=100000) (hL:EsL w B args v) (_hB:B<=w.heap.size) (hS:Strs w ns vn) (hns:ns.length<=1000000) :
  Calls Try.prog 70 #[.agg #[.int .u8 2,.int .i64 n,.string (bstr name),v],vn] w fun e w'=>ExprCR w w' e (znV ns (.mk 2 n name args))/\Below w.heap.size w w':=by
 obtain ⟨a,cap,rfl,hcc1,hcc2⟩:=hL.form;obtain ⟨an,capn,rfl,hcn1,hcn2⟩:=Sl.form hS;have Hih:=zh ih;have HL:=zh hL;have HS:=zh hS;obtain ⟨-,-,-,hoks⟩:=hok;have Hoks:=zh hoks;rw [zbd,yC] at hf;obtain ⟨hh,hall⟩:=hf;have Hall:=zh hall;have hsz2:szEs args<=100000:=by rw [szE] at hsz;omega
 obtain ⟨W1,hW1,hX1,hb1⟩:∃ W1,W1=w.alloc (.cells #[.int .u8 2,.int .i64 n,.string (bstr name),.slice a args.length cap] 65)/\OwnV W1 w.heap.size 65 [.int .u8 2,.int .i64 n,.string (bstr name),.slice a args.length cap]/\Below w.heap.size w W1:=⟨_,rfl,OwnV.new _ _ _,(yR _ _).alloc (zr _) _⟩;have Hb1:=zh hb1;have HX1:=zh hX1;have x0:=hX1.cell (i:=0) rfl;have x2:=hX1.cell (i:=2) rfl;have HW1:=zh hW1;have hs1:=hb1.size;have HOne:Hid (∀ (op a:Int) (W:World),_):=zh (fun (op a:Int) (W:World)=>one_any op a W);have Hc:Hid (znV ns (.mk 2 n name args)=if zai name ns 0=0 then .err 131 else .ok [⟨2,(zai name ns 0:Int) - 1⟩]):=zh rfl
 generalize znV ns (.mk 2 n name args)=R at *
 have HFi:Hid (∀ W:World,Below w.heap.size w W->Calls Try.prog 71 #[.slice an ns.length capn,.string (bstr name)] W _):=zh (fun W hb=>rfind_any ns name _ W (HS.out.below hb) hns)
 generalize zai name ns 0=p at *
 clear ih hL hS hoks hall hb1 hX1 hW1;by_cases hp:p=0
 ·have hp1:(p:Int) - 1 < 0:=by omega
  have Hc2:Hid (R=.err 131):=zh (by rw [Hc.out,yP hp]);clear Hc hp;go_enter Try.func70,Try.ntmps70
  go_upto_region 1 with (fail)
  rw [<- HW1.out];go_wp2_with fail
  refine (HFi.out _ Hb1.out).mono ?_;rintro e2 w2 ⟨rfl,rfl⟩;go_wp2_with fail
  exact yE (v:=.tuple #[.slice none 0 0,.int .i64 131]) (by simp [results,Try.results70,go_sem]) rfl ⟨by rw [Hc2.out];rfl,Hb1.out⟩
 ·have hp1:¬ (p:Int) - 1 < 0:=by omega
  have hp2:0<=(p:Int) - 1:=by omega
  have Hc2:Hid (R=.ok [⟨2,(p:Int) - 1⟩]):=zh (by rw [Hc.out,yN hp]);clear Hc hp;go_enter Try.func70,Try.ntmps70
  go_upto_region 1 with (fail)
  rw [<- HW1.out];go_wp2_with fail
  refine (HFi.out _ Hb1.out).mono ?_;rintro e2 w2 ⟨rfl,rfl⟩;go_wp2_with fail
  refine (HFi.out _ Hb1.out).mono ?_;rintro e2 w2 ⟨rfl,rfl⟩;go_wp2_with fail
  refine (HOne.out _ _ _).mono ?_;rintro e2 w2 ⟨⟨v2,rfl,hO2⟩,hb2⟩;have HO2:=zh (znE hO2 hs1);have Hb2:=zh (Hb1.out.trans (hb2.mono hs1));clear hO2 hb2;go_wp2_with fail
  exact yE (v:=.tuple #[v2,.int .i64 0]) (by simp [results,Try.results70,go_sem]) rfl ⟨by rw [Hc2.out];exact ⟨_,rfl,HO2.out⟩,Hb2.out⟩
theorem rexpr_c3 (d:Nat) (ih:∀ (op n:Int) (name:List UInt8) (args:List Ex) (v:Value) (w:World) (B:Nat) (ns:znU) (vn:Value),zbd d (.mk op n name args)=true->okE (.mk op n name args)->szE (.mk op n name args)<=100000->EsL w B args v->B<=w.heap.size->Strs w ns vn->ns.length<=1000000->Calls Try.prog 70 #[.agg #[.int .u8 op,.int .i64 n,.string (bstr name),v],vn] w fun e w'=>ExprCR w w' e (znV ns (.mk op n name args))/\Below w.heap.size w w')
  (n:Int) (name:List UInt8) (args:List Ex) (v:Value) (w:World) (B:Nat) (ns:znU) (vn:Value) (hf:zbd (d+1) (.mk 3 n name args)=true) (hok:okE (.mk 3 n name args)) (hsz:szE (.mk 3 n name args)<=100000) (hL:EsL w B args v) (hB:B<=w.heap.size) (hS:Strs w ns vn) (hns:ns.length<=1000000) :
  Calls Try.prog 70 #[.agg #[.int .u8 3,.int .i64 n,.string (bstr name),v],vn] w fun e w'=>ExprCR w w' e (znV ns (.mk 3 n name args))/\Below w.heap.size w w':=by
 obtain ⟨a,cap,rfl,hcc1,hcc2⟩:=hL.form;obtain ⟨an,capn,rfl,hcn1,hcn2⟩:=Sl.form hS;have Hih:=zh ih;have HL:=zh hL;have HS:=zh hS;obtain ⟨-,-,-,hoks⟩:=hok;have Hoks:=zh hoks;rw [zbd,yC] at hf;obtain ⟨hh,hall⟩:=hf;have Hall:=zh hall;have hsz2:szEs args<=100000:=by rw [szE] at hsz;omega
 obtain ⟨W1,hW1,hX1,hb1⟩:∃ W1,W1=w.alloc (.cells #[.int .u8 3,.int .i64 n,.string (bstr name),.slice a args.length cap] 65)/\OwnV W1 w.heap.size 65 [.int .u8 3,.int .i64 n,.string (bstr name),.slice a args.length cap]/\Below w.heap.size w W1:=⟨_,rfl,OwnV.new _ _ _,(yR _ _).alloc (zr _) _⟩;have Hb1:=zh hb1;have HX1:=zh hX1;have x0:=hX1.cell (i:=0) rfl;have x3:=hX1.cell (i:=3) rfl;have HW1:=zh hW1;have hs1:=hb1.size;have HOne:Hid (∀ (op a:Int) (W:World),_):=zh (fun (op a:Int) (W:World)=>one_any op a W);have hl:args.length=1:=(zn2 hh).1.trans (by rfl);have h0:0 < args.length:=by omega
 have h0i:(0:Int) < (args.length:Int):=by omega
 have hl1:((args.length:Int) == 1)=true:=by rw [hl];rfl
 obtain ⟨b,off,op1,n1,name1,args1,aa,ac,rfl,hbB,hbw,hat,c0',c1',c2',c3',hL1⟩:=hL.at h0;rw [Nat.zero_mul,Nat.add_zero] at c0' c1' c2' c3';have c0:=Below.keep hb1 c0';have c1:=Below.keep hb1 c1';have c2:=Below.keep hb1 c2';have c3:=Below.keep hb1 c3';have hsz3:szE (.mk op1 n1 name1 args1)<=100000:=yT (zns hat) hsz2
 have Hc:Hid (znV ns (.mk 3 n name args)=(znV ns (.mk op1 n1 name1 args1)).andThen fun c=>.ok (znB c [⟨4,n⟩])):=zh (by
  have e:args=[.mk op1 n1 name1 args1]:=by
   match args,hl,hat with
   | [xa],_,h=>simpa using h
  rw [e,code_one ns _ n name _ (by omega)];rfl)
 have HE1:Hid (∀ W:World,Below w.heap.size w W->Calls Try.prog 70 #[.agg #[.int .u8 op1,.int .i64 n1,.string (bstr name1),.slice aa args1.length ac],.slice an ns.length capn] W _):=zh (fun W hb=>Hih.out op1 n1 name1 args1 _ W B ns _ (by rw [List.all_eq_true] at hall;exact hall _ (List.mem_of_getElem? hat)) (zgR Hoks.out hat) hsz3 (hL1.low (hb.mono hB)) (yT hB hb.size) (HS.out.below hb) hns);have Hk:Hid (∀ k,znV ns (.mk op1 n1 name1 args1)=.err k->k=131):=zh (fun k h=>zpB ns _ k h)
 have Hok:Hid (∀ c,znV ns (.mk op1 n1 name1 args1)=.ok c->jOk c/\c.length<=400000):=zh (fun c h=>by
  obtain ⟨h1,h2⟩:=zsA ns _ c h
  exact ⟨h1,by omega⟩)
 generalize znV ns (.mk op1 n1 name1 args1)=R1 at *
 generalize znV ns (.mk 3 n name args)=R at *
 clear c0' c1' c2' c3';clear ih hL hS hoks hall hb1 hbB hbw hat hL1 hl hX1 hW1;go_enter Try.func70,Try.ntmps70
 go_upto_region 1 with (fail)
 rw [<- HW1.out];go_wp2_with fail
 refine (HE1.out _ Hb1.out).mono ?_;rintro e2 w2 ⟨he2,hb2⟩;have HX2:=zh (HX1.out.below hb2 (zr _));have Hb2:=zh (Hb1.out.trans (hb2.mono hs1));have hs2:w.heap.size<=w2.heap.size:=yT hs1 hb2.size;clear hb2 c0 c1 c2 c3 x0 x3
 cases R1 with
 | err k =>
  obtain rfl:=he2;obtain rfl:k=131:=Hk.out k rfl;have Hc2:Hid (R=.err 131):=zh (by rw [Hc.out];rfl);go_wp2_with fail
  exact yE (v:=.tuple #[.slice none 0 0,.int .i64 131]) (by simp [results,Try.results70,go_sem]) rfl ⟨by rw [Hc2.out];rfl,Hb2.out⟩
 | ok ca =>
  obtain ⟨v2,rfl,hO2⟩:=he2;obtain ⟨hjo,hcl⟩:=Hok.out ca rfl;obtain ⟨va2,vc2,rfl,_,_⟩:=Sl.form hO2.sl;have HO2:=zh hO2;have Hc2:Hid (R=.ok (znB ca [⟨4,n⟩])):=zh Hc.out;have HJn:Hid (∀ (v3:Value) (W:World),Below w2.heap.size w2 W->SlC W [⟨4,n⟩] v3->Calls Try.prog 58 #[.slice va2 ca.length vc2,v3] W _):=zh (fun v3 W hb h3=>join_any ca [⟨4,n⟩] _ v3 W (HO2.out.sl.below hb) h3 (by omega) (by simp) (jOk_small (zo3 rfl) (by simp)));obtain ⟨x0,x1⟩:=yc2 HX2.out;clear Hc hO2 hjo Hok Hk;go_wp2_with fail
  refine (HOne.out _ _ _).mono ?_;rintro e3 w3 ⟨⟨v3,rfl,hO3⟩,hb3⟩;have HJ:=zh (HJn.out v3 w3 hb3 hO3.sl);have Hb3:=zh (Hb2.out.trans (hb3.mono hs2));have hs3:w.heap.size<=w3.heap.size:=yT hs2 hb3.size;clear hO3 hb3;go_wp2_with fail
  refine HJ.out.mono ?_;rintro e4 w4 ⟨⟨v4,rfl,hO4⟩,hb4⟩;have HO4:=zh (znE hO4 hs3);have Hb4:=zh (Hb3.out.trans (hb4.mono hs3));clear hO4 hb4;go_wp2_with fail
  exact yE (v:=.tuple #[v4,.int .i64 0]) (by simp [results,Try.results70,go_sem]) rfl ⟨by rw [Hc2.out];exact ⟨_,rfl,HO4.out⟩,Hb4.out⟩
theorem rexpr_c6 (d:Nat) (ih:∀ (op n:Int) (name:List UInt8) (args:List Ex) (v:Value) (w:World) (B:Nat) (ns:znU) (vn:Value),zbd d (.mk op n name args)=true->okE (.mk op n name args)->szE (.mk op n name args)<=100000->EsL w B args v->B<=w.heap.size->Strs w ns vn->ns.length<=1000000->Calls Try.prog 70 #[.agg #[.int .u8 op,.int .i64 n,.string (bstr name),v],vn] w fun e w'=>ExprCR w w' e (znV ns (.mk op n name args))/\Below w.heap.size w w')
  (n:Int) (name:List UInt8) (args:List Ex) (v:Value) (w:World) (B:Nat) (ns:znU) (vn:Value) (hf:zbd (d+1) (.mk 6 n name args)=true) (hok:okE (.mk 6 n name args)) (hsz:szE (.mk 6 n name args)<=100000) (hL:EsL w B args v) (hB:B<=w.heap.size) (hS:Strs w ns vn) (hns:ns.length<=1000000) :
  Calls Try.prog 70 #[.agg #[.int .u8 6,.int .i64 n,.string (bstr name),v],vn] w fun e w'=>ExprCR w w' e (znV ns (.mk 6 n name args))/\Below w.heap.size w w':=by
 obtain ⟨a,cap,rfl,hcc1,hcc2⟩:=hL.form;obtain ⟨an,capn,rfl,hcn1,hcn2⟩:=Sl.form hS;have Hih:=zh ih;have HL:=zh hL;have HS:=zh hS;obtain ⟨-,-,-,hoks⟩:=hok;have Hoks:=zh hoks;rw [zbd,yC] at hf;obtain ⟨hh,hall⟩:=hf;have Hall:=zh hall;have hsz2:szEs args<=100000:=by rw [szE] at hsz;omega
 obtain ⟨W1,hW1,hX1,hb1⟩:∃ W1,W1=w.alloc (.cells #[.int .u8 6,.int .i64 n,.string (bstr name),.slice a args.length cap] 65)/\OwnV W1 w.heap.size 65 [.int .u8 6,.int .i64 n,.string (bstr name),.slice a args.length cap]/\Below w.heap.size w W1:=⟨_,rfl,OwnV.new _ _ _,(yR _ _).alloc (zr _) _⟩;have Hb1:=zh hb1;have HX1:=zh hX1;have x0:=hX1.cell (i:=0) rfl;have x3:=hX1.cell (i:=3) rfl;have HW1:=zh hW1;have hs1:=hb1.size;have HOne:Hid (∀ (op a:Int) (W:World),_):=zh (fun (op a:Int) (W:World)=>one_any op a W);have hl:args.length=1:=(zn2 hh).1.trans (by rfl);have h0:0 < args.length:=by omega
 have h0i:(0:Int) < (args.length:Int):=by omega
 have hl1:((args.length:Int) == 1)=true:=by rw [hl];rfl
 obtain ⟨b,off,op1,n1,name1,args1,aa,ac,rfl,hbB,hbw,hat,c0',c1',c2',c3',hL1⟩:=hL.at h0;rw [Nat.zero_mul,Nat.add_zero] at c0' c1' c2' c3';have c0:=Below.keep hb1 c0';have c1:=Below.keep hb1 c1';have c2:=Below.keep hb1 c2';have c3:=Below.keep hb1 c3';have hsz3:szE (.mk op1 n1 name1 args1)<=100000:=yT (zns hat) hsz2
 have Hc:Hid (znV ns (.mk 6 n name args)=(znV ns (.mk op1 n1 name1 args1)).andThen fun c=>.ok (znB c [⟨8,0⟩])):=zh (by
  have e:args=[.mk op1 n1 name1 args1]:=by
   match args,hl,hat with
   | [xa],_,h=>simpa using h
  rw [e,code_one ns _ n name _ (by omega)];rfl)
 have HE1:Hid (∀ W:World,Below w.heap.size w W->Calls Try.prog 70 #[.agg #[.int .u8 op1,.int .i64 n1,.string (bstr name1),.slice aa args1.length ac],.slice an ns.length capn] W _):=zh (fun W hb=>Hih.out op1 n1 name1 args1 _ W B ns _ (by rw [List.all_eq_true] at hall;exact hall _ (List.mem_of_getElem? hat)) (zgR Hoks.out hat) hsz3 (hL1.low (hb.mono hB)) (yT hB hb.size) (HS.out.below hb) hns);have Hk:Hid (∀ k,znV ns (.mk op1 n1 name1 args1)=.err k->k=131):=zh (fun k h=>zpB ns _ k h)
 have Hok:Hid (∀ c,znV ns (.mk op1 n1 name1 args1)=.ok c->jOk c/\c.length<=400000):=zh (fun c h=>by
  obtain ⟨h1,h2⟩:=zsA ns _ c h
  exact ⟨h1,by omega⟩)
 generalize znV ns (.mk op1 n1 name1 args1)=R1 at *
 generalize znV ns (.mk 6 n name args)=R at *
 clear c0' c1' c2' c3';clear ih hL hS hoks hall hb1 hbB hbw hat hL1 hl hX1 hW1;go_enter Try.func70,Try.ntmps70
 go_upto_region 1 with (fail)
 rw [<- HW1.out];go_wp2_with fail
 refine (HE1.out _ Hb1.out).mono ?_;rintro e2 w2 ⟨he2,hb2⟩;have HX2:=zh (HX1.out.below hb2 (zr _));have Hb2:=zh (Hb1.out.trans (hb2.mono hs1));have hs2:w.heap.size<=w2.heap.size:=yT hs1 hb2.size;clear hb2 c0 c1 c2 c3 x0 x3
 cases R1 with
 | err k =>
  obtain rfl:=he2;obtain rfl:k=131:=Hk.out k rfl;have Hc2:Hid (R=.err 131):=zh (by rw [Hc.out];rfl);go_wp2_with fail
  exact yE (v:=.tuple #[.slice none 0 0,.int .i64 131]) (by simp [results,Try.results70,go_sem]) rfl ⟨by rw [Hc2.out];rfl,Hb2.out⟩
 | ok ca =>
  obtain ⟨v2,rfl,hO2⟩:=he2;obtain ⟨hjo,hcl⟩:=Hok.out ca rfl;obtain ⟨va2,vc2,rfl,_,_⟩:=Sl.form hO2.sl;have HO2:=zh hO2;have Hc2:Hid (R=.ok (znB ca [⟨8,0⟩])):=zh Hc.out;have HJn:Hid (∀ (v3:Value) (W:World),Below w2.heap.size w2 W->SlC W [⟨8,0⟩] v3->Calls Try.prog 58 #[.slice va2 ca.length vc2,v3] W _):=zh (fun v3 W hb h3=>join_any ca [⟨8,0⟩] _ v3 W (HO2.out.sl.below hb) h3 (by omega) (by simp) (jOk_small (zo3 rfl) (by simp)));have x0:=HX2.out.cell (i:=0) rfl;clear Hc hO2 hjo Hok Hk;go_wp2_with fail
  refine (HOne.out _ _ _).mono ?_;rintro e3 w3 ⟨⟨v3,rfl,hO3⟩,hb3⟩;have HJ:=zh (HJn.out v3 w3 hb3 hO3.sl);have Hb3:=zh (Hb2.out.trans (hb3.mono hs2));have hs3:w.heap.size<=w3.heap.size:=yT hs2 hb3.size;clear hO3 hb3;go_wp2_with fail
  refine HJ.out.mono ?_;rintro e4 w4 ⟨⟨v4,rfl,hO4⟩,hb4⟩;have HO4:=zh (znE hO4 hs3);have Hb4:=zh (Hb3.out.trans (hb4.mono hs3));clear hO4 hb4;go_wp2_with fail
  exact yE (v:=.tuple #[v4,.int .i64 0]) (by simp [results,Try.results70,go_sem]) rfl ⟨by rw [Hc2.out];exact ⟨_,rfl,HO4.out⟩,Hb4.out⟩
theorem rexpr_c7 (d:Nat) (ih:∀ (op n:Int) (name:List UInt8) (args:List Ex) (v:Value) (w:World) (B:Nat) (ns:znU) (vn:Value),zbd d (.mk op n name args)=true->okE (.mk op n name args)->szE (.mk op n name args)<=100000->EsL w B args v->B<=w.heap.size->Strs w ns vn->ns.length<=1000000->Calls Try.prog 70 #[.agg #[.int .u8 op,.int .i64 n,.string (bstr name),v],vn] w fun e w'=>ExprCR w w' e (znV ns (.mk op n name args))/\Below w.heap.size w w')
  (op:Int) (n:Int) (name:List UInt8) (args:List Ex) (v:Value) (w:World) (B:Nat) (ns:znU) (vn:Value) (hf:zbd (d+1) (.mk op n name args)=true) (hok:okE (.mk op n name args)) (hsz:szE (.mk op n name args)<=100000) (hL:EsL w B args v) (hB:B<=w.heap.size) (hS:Strs w ns vn) (hns:ns.length<=1000000) (hc1:7<=op) (hc2:op<=9) :
  Calls Try.prog 70 #[.agg #[.int .u8 op,.int .i64 n,.string (bstr name),v],vn] w fun e w'=>ExprCR w w' e (znV ns (.mk op n name args))/\Below w.heap.size w w':=by
 obtain ⟨a,cap,rfl,hcc1,hcc2⟩:=hL.form;obtain ⟨an,capn,rfl,hcn1,hcn2⟩:=Sl.form hS;have Hih:=zh ih;have HL:=zh hL;have HS:=zh hS;obtain ⟨-,-,-,hoks⟩:=hok;have Hoks:=zh hoks;rw [zbd,yC] at hf;obtain ⟨hh,hall⟩:=hf;have Hall:=zh hall;have hsz2:szEs args<=100000:=by rw [szE] at hsz;omega
 obtain ⟨W1,hW1,hX1,hb1⟩:∃ W1,W1=w.alloc (.cells #[.int .u8 op,.int .i64 n,.string (bstr name),.slice a args.length cap] 65)/\OwnV W1 w.heap.size 65 [.int .u8 op,.int .i64 n,.string (bstr name),.slice a args.length cap]/\Below w.heap.size w W1:=⟨_,rfl,OwnV.new _ _ _,(yR _ _).alloc (zr _) _⟩;have Hb1:=zh hb1;have HX1:=zh hX1;have x0:=hX1.cell (i:=0) rfl;have x3:=hX1.cell (i:=3) rfl;have HW1:=zh hW1;have hs1:=hb1.size;have HOne:Hid (∀ (op a:Int) (W:World),_):=zh (fun (op a:Int) (W:World)=>one_any op a W);have hl:args.length=1:=(zn2 hh).1.trans (by unfold zb9;rw [yP (by omega),yN (by omega)]);have h0:0 < args.length:=by omega
 have h0i:(0:Int) < (args.length:Int):=by omega
 have hl1:((args.length:Int) == 1)=true:=by rw [hl];rfl
 obtain ⟨b,off,op1,n1,name1,args1,aa,ac,rfl,hbB,hbw,hat,c0',c1',c2',c3',hL1⟩:=hL.at h0;rw [Nat.zero_mul,Nat.add_zero] at c0' c1' c2' c3';have c0:=Below.keep hb1 c0';have c1:=Below.keep hb1 c1';have c2:=Below.keep hb1 c2';have c3:=Below.keep hb1 c3';have hsz3:szE (.mk op1 n1 name1 args1)<=100000:=yT (zns hat) hsz2
 have Hc:Hid (znV ns (.mk op n name args)=(znV ns (.mk op1 n1 name1 args1)).andThen fun c=>.ok (znB c [⟨9,op⟩])):=zh (by
  have e:args=[.mk op1 n1 name1 args1]:=by
   match args,hl,hat with
   | [xa],_,h=>simpa using h
  rw [e,code_one ns _ n name _ (by omega)];rw [yN (by omega),yN (by omega)])
 have HE1:Hid (∀ W:World,Below w.heap.size w W->Calls Try.prog 70 #[.agg #[.int .u8 op1,.int .i64 n1,.string (bstr name1),.slice aa args1.length ac],.slice an ns.length capn] W _):=zh (fun W hb=>Hih.out op1 n1 name1 args1 _ W B ns _ (by rw [List.all_eq_true] at hall;exact hall _ (List.mem_of_getElem? hat)) (zgR Hoks.out hat) hsz3 (hL1.low (hb.mono hB)) (yT hB hb.size) (HS.out.below hb) hns);have Hk:Hid (∀ k,znV ns (.mk op1 n1 name1 args1)=.err k->k=131):=zh (fun k h=>zpB ns _ k h)
 have Hok:Hid (∀ c,znV ns (.mk op1 n1 name1 args1)=.ok c->jOk c/\c.length<=400000):=zh (fun c h=>by
  obtain ⟨h1,h2⟩:=zsA ns _ c h
  exact ⟨h1,by omega⟩)
 generalize znV ns (.mk op1 n1 name1 args1)=R1 at *
 generalize znV ns (.mk op n name args)=R at *
 clear c0' c1' c2' c3';clear ih hL hS hoks hall hb1 hbB hbw hat hL1 hl hX1 hW1;have e1:(op == 1)=false:=by rw [beq_eq_false_iff_ne];omega
 have e2:(op == 2)=false:=by rw [beq_eq_false_iff_ne];omega
 have e3:(op == 3)=false:=by rw [beq_eq_false_iff_ne];omega
 have e4:(op == 4)=false:=by rw [beq_eq_false_iff_ne];omega
 have e5:(op == 5)=false:=by rw [beq_eq_false_iff_ne];omega
 have e6:(op == 6)=false:=by rw [beq_eq_false_iff_ne];omega
 have hw:wrap64 op=op:=by unfold wrap64;omega
 clear hc1 hc2;go_enter Try.func70,Try.ntmps70
 go_upto_region 1 with (fail)
 rw [<- HW1.out];go_wp2_with fail
 refine (HE1.out _ Hb1.out).mono ?_;rintro e2 w2 ⟨he2,hb2⟩;have HX2:=zh (HX1.out.below hb2 (zr _));have Hb2:=zh (Hb1.out.trans (hb2.mono hs1));have hs2:w.heap.size<=w2.heap.size:=yT hs1 hb2.size;clear hb2 c0 c1 c2 c3 x0 x3
 cases R1 with
 | err k =>
  obtain rfl:=he2;obtain rfl:k=131:=Hk.out k rfl;have Hc2:Hid (R=.err 131):=zh (by rw [Hc.out];rfl);go_wp2_with fail
  exact yE (v:=.tuple #[.slice none 0 0,.int .i64 131]) (by simp [results,Try.results70,go_sem]) rfl ⟨by rw [Hc2.out];rfl,Hb2.out⟩
 | ok ca =>
  obtain ⟨v2,rfl,hO2⟩:=he2;obtain ⟨hjo,hcl⟩:=Hok.out ca rfl;obtain ⟨va2,vc2,rfl,_,_⟩:=Sl.form hO2.sl;have HO2:=zh hO2;have Hc2:Hid (R=.ok (znB ca [⟨9,op⟩])):=zh Hc.out;have HJn:Hid (∀ (v3:Value) (W:World),Below w2.heap.size w2 W->SlC W [⟨9,op⟩] v3->Calls Try.prog 58 #[.slice va2 ca.length vc2,v3] W _):=zh (fun v3 W hb h3=>join_any ca [⟨9,op⟩] _ v3 W (HO2.out.sl.below hb) h3 (by omega) (by simp) (jOk_small (zo3 rfl) (by simp)));have x0:=HX2.out.cell (i:=0) rfl;have x3:=HX2.out.cell (i:=3) rfl;clear Hc hO2 hjo Hok Hk;go_wp2_with fail
  refine (HOne.out _ _ _).mono ?_;rintro e3 w3 ⟨⟨v3,rfl,hO3⟩,hb3⟩;have HJ:=zh (HJn.out v3 w3 hb3 hO3.sl);have Hb3:=zh (Hb2.out.trans (hb3.mono hs2));have hs3:w.heap.size<=w3.heap.size:=yT hs2 hb3.size;clear hO3 hb3;go_wp2_with fail
  refine HJ.out.mono ?_;rintro e4 w4 ⟨⟨v4,rfl,hO4⟩,hb4⟩;have HO4:=zh (znE hO4 hs3);have Hb4:=zh (Hb3.out.trans (hb4.mono hs3));clear hO4 hb4;go_wp2_with fail
  exact yE (v:=.tuple #[v4,.int .i64 0]) (by simp [results,Try.results70,go_sem]) rfl ⟨by rw [Hc2.out];exact ⟨_,rfl,HO4.out⟩,Hb4.out⟩
end Go.Proofs.Ytdeneckmoejcfaa
