/- marchesref13.expr, walked: two arguments. -/
import Derived.Test.YtdeneckmoejcfaaTransXZs
set_option linter.unusedSimpArgs false
set_option linter.unusedVariables false
set_option maxRecDepth 100000
set_option maxHeartbeats 2000000
namespace Go.Proofs.Ytdeneckmoejcfaa
open Go.RowKit

theorem rexpr_c10 (d:Nat) (ih:∀ (op n:Int) (name:List UInt8) (args:List Ex) (v:Value) (w:World) (B:Nat) (ns:znU) (vn:Value),zbd d (.mk op n name args)=true->okE (.mk op n name args)->szE (.mk op n name args)<=100000->EsL w B args v->B<=w.heap.size->Strs w ns vn->ns.length<=1000000->Calls Try.prog 70 #[.agg #[.int .u8 op,.int .i64 n,.string (bstr name),v],vn] w fun e w'=>ExprCR w w' e (znV ns (.mk op n name args))/\Below w.heap.size w w')
  (op:Int) (n:Int) (name:List UInt8) (args:List Ex) (v:Value) (w:World) (B:Nat) (ns:znU) (vn:Value) (hf:zbd (d+1) (.mk op n name args)=true) (hok:okE (.mk op n name args)) (hsz:szE (.mk op n name args)<=100000) (hL:EsL w B args v) (hB:B<=w.heap.size) (hS:Strs w ns vn) (hns:ns.length<=1000000) (hc1:10<=op) (hc2:op<=24) (hc3:op≠21) (hc4:op≠22) :
  Calls Try.prog 70 #[.agg #[.int .u8 op,.int .i64 n,.string (bstr name),v],vn] w fun e w'=>ExprCR w w' e (znV ns (.mk op n name args))/\Below w.heap.size w w':=by
 obtain ⟨a,cap,rfl,hcc1,hcc2⟩:=hL.form;obtain ⟨an,capn,rfl,hcn1,hcn2⟩:=Sl.form hS;have Hih:=zh ih;have HL:=zh hL;have HS:=zh hS;obtain ⟨-,-,-,hoks⟩:=hok;have Hoks:=zh hoks;rw [zbd,yC] at hf;obtain ⟨hh,hall⟩:=hf;have Hall:=zh hall;have hsz2:szEs args<=100000:=by rw [szE] at hsz;omega
 obtain ⟨W1,hW1,hX1,hb1⟩:∃ W1,W1=w.alloc (.cells #[.int .u8 op,.int .i64 n,.string (bstr name),.slice a args.length cap] 65)/\OwnV W1 w.heap.size 65 [.int .u8 op,.int .i64 n,.string (bstr name),.slice a args.length cap]/\Below w.heap.size w W1:=⟨_,rfl,OwnV.new _ _ _,(yR _ _).alloc (zr _) _⟩;have Hb1:=zh hb1;have HX1:=zh hX1;have x0:=hX1.cell (i:=0) rfl;have x3:=hX1.cell (i:=3) rfl;have HW1:=zh hW1;have hs1:=hb1.size;have HOne:Hid (∀ (op a:Int) (W:World),_):=zh (fun (op a:Int) (W:World)=>one_any op a W);have hl:args.length=2:=(zn2 hh).1.trans (by unfold zb9;rw [yN (by omega)]);have h0:0 < args.length:=by omega
 have h0i:(0:Int) < (args.length:Int):=by omega
 have hl1:((args.length:Int) == 1)=false:=by rw [hl];rfl
 obtain ⟨b,off,op1,n1,name1,args1,aa,ac,rfl,hbB,hbw,hat,c0',c1',c2',c3',hL1⟩:=hL.at h0;rw [Nat.zero_mul,Nat.add_zero] at c0' c1' c2' c3';have c0:=Below.keep hb1 c0';have c1:=Below.keep hb1 c1';have c2:=Below.keep hb1 c2';have c3:=Below.keep hb1 c3';have hsz3:szE (.mk op1 n1 name1 args1)<=100000:=yT (zns hat) hsz2;have h1:1 < args.length:=by omega
 have h1i:(1:Int) < (args.length:Int):=by omega
 obtain ⟨b',off',op2,n2,name2,args2,ab,ac2,he',hbB',hbw',hat',d0',d1',d2',d3',hL2⟩:=hL.at h1;cases he';rw [Nat.one_mul] at d0' d1' d2' d3';have hsz4:szE (.mk op2 n2 name2 args2)<=100000:=yT (zns hat') hsz2;have HD0:=zh d0';have HD1:=zh d1';have HD2:=zh d2';have HD3:=zh d3'
 have Hc:Hid (znV ns (.mk op n name args)=(znV ns (.mk op1 n1 name1 args1)).andThen fun a=>(znV ns (.mk op2 n2 name2 args2)).andThen fun b=>.ok (znB (znB a b) [⟨9,op⟩])):=zh (by
  have e:args=[.mk op1 n1 name1 args1,.mk op2 n2 name2 args2]:=by
   match args,hl,hat,hat' with
   | [xa,xb],_,h,h'=>simpa using And.intro h h'
  rw [e,code_two ns _ n name _ _ (by omega)];simp only [yN (show ¬ (op=21∨op=22) by omega)])
 have HE2:Hid (∀ W:World,Below w.heap.size w W->Calls Try.prog 70 #[.agg #[.int .u8 op2,.int .i64 n2,.string (bstr name2),.slice ab args2.length ac2],.slice an ns.length capn] W _):=zh (fun W hb=>Hih.out op2 n2 name2 args2 _ W B ns _ (by rw [List.all_eq_true] at hall;exact hall _ (List.mem_of_getElem? hat')) (zgR Hoks.out hat') hsz4 (hL2.low (hb.mono hB)) (yT hB hb.size) (HS.out.below hb) hns);have Hk2:Hid (∀ k,znV ns (.mk op2 n2 name2 args2)=.err k->k=131):=zh (fun k h=>zpB ns _ k h)
 have Hok2:Hid (∀ c,znV ns (.mk op2 n2 name2 args2)=.ok c->jOk c/\c.length<=400000):=zh (fun c h=>by
  obtain ⟨h1,h2⟩:=zsA ns _ c h
  exact ⟨h1,by omega⟩)
 generalize znV ns (.mk op2 n2 name2 args2)=R2 at *
 have HE1:Hid (∀ W:World,Below w.heap.size w W->Calls Try.prog 70 #[.agg #[.int .u8 op1,.int .i64 n1,.string (bstr name1),.slice aa args1.length ac],.slice an ns.length capn] W _):=zh (fun W hb=>Hih.out op1 n1 name1 args1 _ W B ns _ (by rw [List.all_eq_true] at hall;exact hall _ (List.mem_of_getElem? hat)) (zgR Hoks.out hat) hsz3 (hL1.low (hb.mono hB)) (yT hB hb.size) (HS.out.below hb) hns);have Hk:Hid (∀ k,znV ns (.mk op1 n1 name1 args1)=.err k->k=131):=zh (fun k h=>zpB ns _ k h)
 have Hok:Hid (∀ c,znV ns (.mk op1 n1 name1 args1)=.ok c->jOk c/\c.length<=400000):=zh (fun c h=>by
  obtain ⟨h1,h2⟩:=zsA ns _ c h
  exact ⟨h1,by omega⟩)
 generalize znV ns (.mk op1 n1 name1 args1)=R1 at *
 generalize znV ns (.mk op n name args)=R at *
 clear c0' c1' c2' c3';clear d0' d1' d2' d3' ih hL hS hoks hall hb1 hbB' hbw' hat' hL2 hbB hbw hat hL1 hl hX1 hW1;have e1:(op == 1)=false:=by rw [beq_eq_false_iff_ne];omega
 have e2:(op == 2)=false:=by rw [beq_eq_false_iff_ne];omega
 have e3:(op == 3)=false:=by rw [beq_eq_false_iff_ne];omega
 have e4:(op == 4)=false:=by rw [beq_eq_false_iff_ne];omega
 have e5:(op == 5)=false:=by rw [beq_eq_false_iff_ne];omega
 have e6:(op == 6)=false:=by rw [beq_eq_false_iff_ne];omega
 have m21:(op != 21)=true:=by rw [bne_iff_ne];exact hc3
 have m22:(op != 22)=true:=by rw [bne_iff_ne];exact hc4
 have hw:IntKind.i64.wrap op=op:=by simp [IntKind.wrap,IntKind.bits];omega
 clear hc1 hc2 hc3 hc4;go_enter Try.func70,Try.ntmps70
 go_upto_region 1 with (fail)
 rw [<- HW1.out];go_wp2_with fail
 refine (HE1.out _ Hb1.out).mono ?_;rintro e2 w2 ⟨he2,hb2⟩;have HX2:=zh (HX1.out.below hb2 (zr _));have Hb2:=zh (Hb1.out.trans (hb2.mono hs1));have hs2:w.heap.size<=w2.heap.size:=yT hs1 hb2.size;clear hb2 c0 c1 c2 c3 x0 x3
 cases R1 with
 | err k =>
  obtain rfl:=he2;obtain rfl:k=131:=Hk.out k rfl;have Hc2:Hid (R=.err 131):=zh (by rw [Hc.out];rfl);go_wp2_with fail
  exact yE (v:=.tuple #[.slice none 0 0,.int .i64 131]) (by simp [results,Try.results70,go_sem]) rfl ⟨by rw [Hc2.out];rfl,Hb2.out⟩
 | ok ca =>
  obtain ⟨v2,rfl,hO2⟩:=he2;obtain ⟨hjo,hcl⟩:=Hok.out ca rfl;have HO2:=zh hO2;have Hjo:=zh hjo;have d0:=Below.keep Hb2.out HD0.out;have d1:=Below.keep Hb2.out HD1.out;have d2:=Below.keep Hb2.out HD2.out;have d3:=Below.keep Hb2.out HD3.out;have x0:=HX2.out.cell (i:=0) rfl;have x3:=HX2.out.cell (i:=3) rfl;clear hO2 hjo Hok;go_wp2_with fail
  refine (HE2.out _ Hb2.out).mono ?_;rintro e3 w3 ⟨he3,hb3⟩;have HX3:=zh (HX2.out.below hb3 (zr _));have HO3a:=zh (HO2.out.below hb3);have Hb3:=zh (Hb2.out.trans (hb3.mono hs2));have hs3:w.heap.size<=w3.heap.size:=yT hs2 hb3.size;clear hb3 d0 d1 d2 d3 x0 x3
  cases R2 with
  | err k =>
   obtain rfl:=he3;obtain rfl:k=131:=Hk2.out k rfl;have Hc2:Hid (R=.err 131):=zh (by rw [Hc.out];rfl);go_wp2_with fail
   exact yE (v:=.tuple #[.slice none 0 0,.int .i64 131]) (by simp [results,Try.results70,go_sem]) rfl ⟨by rw [Hc2.out];rfl,Hb3.out⟩
  | ok cb =>
   obtain ⟨v3,rfl,hO3⟩:=he3;obtain ⟨hjo2,hcl2⟩:=Hok2.out cb rfl;have HO3:=zh hO3;have Hjo2:=zh hjo2;clear hO3 hjo2 Hok2;have Hc2:Hid (R=.ok (znB (znB ca cb) [⟨9,op⟩])):=zh Hc.out;have HJ1:Hid (∀ W:World,Below w3.heap.size w3 W->Calls Try.prog 58 #[v2,v3] W _):=zh (fun W hb=>join_any ca cb v2 v3 W (HO3a.out.sl.below hb) (HO3.out.sl.below hb) (by omega) (by omega) (jOk_small Hjo2.out (by omega)));have HJ2:Hid (∀ (v5 v6:Value) (W:World),SlC W (znB ca cb) v5->SlC W [⟨9,op⟩] v6->Calls Try.prog 58 #[v5,v6] W _):=zh (fun v5 v6 W h5 h6=>join_any (znB ca cb) [⟨9,op⟩] v5 v6 W h5 h6 (by rw [znT];omega) (by simp) (jOk_small (zo3 rfl) (by simp)));have x0:=HX3.out.cell (i:=0) rfl;have hlx:w.heap.size < w3.heap.size:=HX3.out.lt;clear Hc;go_upto_region 25 with (fail)
   go_region_held3 (fun w'=>w'.cell? ⟨w.heap.size,0,none⟩=some (.int .u8 op)) (go_keep) (first | (go_at_call 72;refine (HOne.out _ _ _).mono ?_;rintro e6 w6 ⟨⟨v6,rfl,hO6⟩,hb6⟩;have z6:=Below.keep hb6 z5) | (go_at_call_of 58 v2;refine (HJ1.out _ (by first | exact (yR _ _).drew | exact yR _ _)).mono ?_;rintro e5 w5 ⟨⟨v5,rfl,hO5⟩,hb5⟩;have z5:w5.cell? ⟨w.heap.size,0,none⟩=some (.int .u8 op):=Below.keep hb5 x0) | (go_at_call_of 58 v5;refine (HJ2.out _ _ _ (by exact hO5.sl.below hb6) (by exact hO6.sl)).mono ?_;rintro e7 w7 ⟨⟨v7,rfl,hO7⟩,hb7⟩;have z7:=Below.keep hb7 z6))
   all_goals
    have hb35:Below w3.heap.size w3 w5:=Below.trans (b:=w3.drew) ((yR _ _).drew) hb5;have hs5:w.heap.size<=w5.heap.size:=yT hs3 hb35.size;have hs6:w.heap.size<=w6.heap.size:=yT hs5 hb6.size;have HO7:=zh (znE hO7 hs6);have Hb7:=zh (Hb3.out.trans ((hb35.mono hs3).trans ((hb6.mono hs5).trans (hb7.mono hs6))));clear hb5 hb6 hb7 hb35 hO5 hO6 hO7;go_wp2_with fail
    exact yE (v:=.tuple #[v7,.int .i64 0]) (by simp [results,Try.results70,go_sem]) rfl ⟨by rw [Hc2.out];exact ⟨_,rfl,HO7.out⟩,Hb7.out⟩

theorem jOk_ltail {b:znA} (hb:jOk b) {iop last:Int}:jOk (⟨iop,b.length+3⟩ :: (znF 1 b++[⟨10,0⟩,⟨11,b.length+4⟩,⟨1,last⟩])):=by
 intro i hi hj;simp only [yB,yA,zn8,yL];rcases List.mem_cons.1 hi with rfl | hi
 ·show 0<=(b.length:Int)+3/\(b.length:Int)+3<=_;omega
 ·rcases List.mem_append.1 hi with hi | hi
  ·exact zqh (k:=1) hb (by omega) i hi hj
  ·simp only [List.mem_cons,List.not_mem_nil,or_false] at hi;rcases hi with rfl | rfl | rfl
   ·cases hj
   ·show 0<=(b.length:Int)+4/\(b.length:Int)+4<=_;omega
   ·cases hj
theorem rexpr_c21 (d:Nat) (ih:∀ (op n:Int) (name:List UInt8) (args:List Ex) (v:Value) (w:World) (B:Nat) (ns:znU) (vn:Value),zbd d (.mk op n name args)=true->okE (.mk op n name args)->szE (.mk op n name args)<=100000->EsL w B args v->B<=w.heap.size->Strs w ns vn->ns.length<=1000000->Calls Try.prog 70 #[.agg #[.int .u8 op,.int .i64 n,.string (bstr name),v],vn] w fun e w'=>ExprCR w w' e (znV ns (.mk op n name args))/\Below w.heap.size w w')
  (n:Int) (name:List UInt8) (args:List Ex) (v:Value) (w:World) (B:Nat) (ns:znU) (vn:Value) (hf:zbd (d+1) (.mk 21 n name args)=true) (hok:okE (.mk 21 n name args)) (hsz:szE (.mk 21 n name args)<=100000) (hL:EsL w B args v) (hB:B<=w.heap.size) (hS:Strs w ns vn) (hns:ns.length<=1000000) :
  Calls Try.prog 70 #[.agg #[.int .u8 21,.int .i64 n,.string (bstr name),v],vn] w fun e w'=>ExprCR w w' e (znV ns (.mk 21 n name args))/\Below w.heap.size w w':=by
 obtain ⟨a,cap,rfl,hcc1,hcc2⟩:=hL.form;obtain ⟨an,capn,rfl,hcn1,hcn2⟩:=Sl.form hS;have Hih:=zh ih;have HL:=zh hL;have HS:=zh hS;obtain ⟨-,-,-,hoks⟩:=hok;have Hoks:=zh hoks;rw [zbd,yC] at hf;obtain ⟨hh,hall⟩:=hf;have Hall:=zh hall;have hsz2:szEs args<=100000:=by rw [szE] at hsz;omega
 obtain ⟨W1,hW1,hX1,hb1⟩:∃ W1,W1=w.alloc (.cells #[.int .u8 21,.int .i64 n,.string (bstr name),.slice a args.length cap] 65)/\OwnV W1 w.heap.size 65 [.int .u8 21,.int .i64 n,.string (bstr name),.slice a args.length cap]/\Below w.heap.size w W1:=⟨_,rfl,OwnV.new _ _ _,(yR _ _).alloc (zr _) _⟩;have Hb1:=zh hb1;have HX1:=zh hX1;have x0:=hX1.cell (i:=0) rfl;have x3:=hX1.cell (i:=3) rfl;have HW1:=zh hW1;have hs1:=hb1.size;have HOne:Hid (∀ (op a:Int) (W:World),_):=zh (fun (op a:Int) (W:World)=>one_any op a W);have hl:args.length=2:=(zn2 hh).1.trans (by rfl);have h0:0 < args.length:=by omega
 have h0i:(0:Int) < (args.length:Int):=by omega
 have hl1:((args.length:Int) == 1)=false:=by rw [hl];rfl
 obtain ⟨b,off,op1,n1,name1,args1,aa,ac,rfl,hbB,hbw,hat,c0',c1',c2',c3',hL1⟩:=hL.at h0;rw [Nat.zero_mul,Nat.add_zero] at c0' c1' c2' c3';have c0:=Below.keep hb1 c0';have c1:=Below.keep hb1 c1';have c2:=Below.keep hb1 c2';have c3:=Below.keep hb1 c3';have hsz3:szE (.mk op1 n1 name1 args1)<=100000:=yT (zns hat) hsz2;have h1:1 < args.length:=by omega
 have h1i:(1:Int) < (args.length:Int):=by omega
 obtain ⟨b',off',op2,n2,name2,args2,ab,ac2,he',hbB',hbw',hat',d0',d1',d2',d3',hL2⟩:=hL.at h1;cases he';rw [Nat.one_mul] at d0' d1' d2' d3';have hsz4:szE (.mk op2 n2 name2 args2)<=100000:=yT (zns hat') hsz2;have HD0:=zh d0';have HD1:=zh d1';have HD2:=zh d2';have HD3:=zh d3'
 have Hc:Hid (znV ns (.mk 21 n name args)=(znV ns (.mk op1 n1 name1 args1)).andThen fun a=>(znV ns (.mk op2 n2 name2 args2)).andThen fun b=>.ok (znB a (⟨12,b.length+3⟩ :: (znF 1 b++[⟨10,0⟩,⟨11,b.length+4⟩,⟨1,0⟩])))):=zh (by
  have e:args=[.mk op1 n1 name1 args1,.mk op2 n2 name2 args2]:=by
   match args,hl,hat,hat' with
   | [xa,xb],_,h,h'=>simpa using And.intro h h'
  rw [e,code_two ns _ n name _ _ (by omega)];rfl)
 have HE2:Hid (∀ W:World,Below w.heap.size w W->Calls Try.prog 70 #[.agg #[.int .u8 op2,.int .i64 n2,.string (bstr name2),.slice ab args2.length ac2],.slice an ns.length capn] W _):=zh (fun W hb=>Hih.out op2 n2 name2 args2 _ W B ns _ (by rw [List.all_eq_true] at hall;exact hall _ (List.mem_of_getElem? hat')) (zgR Hoks.out hat') hsz4 (hL2.low (hb.mono hB)) (yT hB hb.size) (HS.out.below hb) hns);have Hk2:Hid (∀ k,znV ns (.mk op2 n2 name2 args2)=.err k->k=131):=zh (fun k h=>zpB ns _ k h)
 have Hok2:Hid (∀ c,znV ns (.mk op2 n2 name2 args2)=.ok c->jOk c/\c.length<=400000):=zh (fun c h=>by
  obtain ⟨h1,h2⟩:=zsA ns _ c h
  exact ⟨h1,by omega⟩)
 generalize znV ns (.mk op2 n2 name2 args2)=R2 at *
 have HE1:Hid (∀ W:World,Below w.heap.size w W->Calls Try.prog 70 #[.agg #[.int .u8 op1,.int .i64 n1,.string (bstr name1),.slice aa args1.length ac],.slice an ns.length capn] W _):=zh (fun W hb=>Hih.out op1 n1 name1 args1 _ W B ns _ (by rw [List.all_eq_true] at hall;exact hall _ (List.mem_of_getElem? hat)) (zgR Hoks.out hat) hsz3 (hL1.low (hb.mono hB)) (yT hB hb.size) (HS.out.below hb) hns);have Hk:Hid (∀ k,znV ns (.mk op1 n1 name1 args1)=.err k->k=131):=zh (fun k h=>zpB ns _ k h)
 have Hok:Hid (∀ c,znV ns (.mk op1 n1 name1 args1)=.ok c->jOk c/\c.length<=400000):=zh (fun c h=>by
  obtain ⟨h1,h2⟩:=zsA ns _ c h
  exact ⟨h1,by omega⟩)
 generalize znV ns (.mk op1 n1 name1 args1)=R1 at *
 generalize znV ns (.mk 21 n name args)=R at *
 clear c0' c1' c2' c3';clear d0' d1' d2' d3' ih hL hS hoks hall hb1 hbB' hbw' hat' hL2 hbB hbw hat hL1 hl hX1 hW1;go_enter Try.func70,Try.ntmps70
 go_upto_region 1 with (fail)
 rw [<- HW1.out];go_wp2_with fail
 refine (HE1.out _ Hb1.out).mono ?_;rintro e2 w2 ⟨he2,hb2⟩;have HX2:=zh (HX1.out.below hb2 (zr _));have Hb2:=zh (Hb1.out.trans (hb2.mono hs1));have hs2:w.heap.size<=w2.heap.size:=yT hs1 hb2.size;clear hb2 c0 c1 c2 c3 x0 x3
 cases R1 with
 | err k =>
  obtain rfl:=he2;obtain rfl:k=131:=Hk.out k rfl;have Hc2:Hid (R=.err 131):=zh (by rw [Hc.out];rfl);go_wp2_with fail
  exact yE (v:=.tuple #[.slice none 0 0,.int .i64 131]) (by simp [results,Try.results70,go_sem]) rfl ⟨by rw [Hc2.out];rfl,Hb2.out⟩
 | ok ca =>
  obtain ⟨v2,rfl,hO2⟩:=he2;obtain ⟨hjo,hcl⟩:=Hok.out ca rfl;have HO2:=zh hO2;have Hjo:=zh hjo;have d0:=Below.keep Hb2.out HD0.out;have d1:=Below.keep Hb2.out HD1.out;have d2:=Below.keep Hb2.out HD2.out;have d3:=Below.keep Hb2.out HD3.out;have x0:=HX2.out.cell (i:=0) rfl;have x3:=HX2.out.cell (i:=3) rfl;clear hO2 hjo Hok;go_wp2_with fail
  refine (HE2.out _ Hb2.out).mono ?_;rintro e3 w3 ⟨he3,hb3⟩;have HX3:=zh (HX2.out.below hb3 (zr _));have HO3a:=zh (HO2.out.below hb3);have Hb3:=zh (Hb2.out.trans (hb3.mono hs2));have hs3:w.heap.size<=w3.heap.size:=yT hs2 hb3.size;clear hb3 d0 d1 d2 d3 x0 x3
  cases R2 with
  | err k =>
   obtain rfl:=he3;obtain rfl:k=131:=Hk2.out k rfl;have Hc2:Hid (R=.err 131):=zh (by rw [Hc.out];rfl);go_wp2_with fail
   exact yE (v:=.tuple #[.slice none 0 0,.int .i64 131]) (by simp [results,Try.results70,go_sem]) rfl ⟨by rw [Hc2.out];rfl,Hb3.out⟩
  | ok cb =>
   obtain ⟨v3,rfl,hO3⟩:=he3;obtain ⟨hjo2,hcl2⟩:=Hok2.out cb rfl;have HO3:=zh hO3;have Hjo2:=zh hjo2;clear hO3 hjo2 Hok2;have Hc2:Hid (R=.ok (znB ca (⟨12,cb.length+3⟩ :: (znF 1 cb++[⟨10,0⟩,⟨11,cb.length+4⟩,⟨1,0⟩])))):=zh Hc.out;have x0:=HX3.out.cell (i:=0) rfl;have hcb:(cb.length:Int)<=400000:=by omega
   have hcb0:(0:Int)<=(cb.length:Int):=by omega
   have hsl3:=HO3.out.sl;obtain ⟨b3,cp3,rfl,hcp3,hcp32⟩:=Sl.form hsl3;have HS3:=zh hsl3;clear Hc hsl3;go_wp2_with fail
   refine (HOne.out _ _ _).mono ?_;rintro e5 w5 ⟨⟨v5,rfl,hO5⟩,hb5⟩
   have hO5':w5.ownsRow w3.heap.size 47 2 v5 (1+0) (znH [⟨12,cb.length+3⟩]++znH (znF 1 (cb.take 0))):=by
    rw [List.take_zero,show znH (znF 1 [])=[] from rfl,List.append_nil];exact hO5
   have Hb5:=zh hb5;have HX5:=zh (HX3.out.below hb5 (zr _));clear hb5 hO5 x0;go_wp2_with fail
   go_loopw [10,11,12,111,112,113,114,115,116,117,118,119,120,121,122,123,124,125,126,127,128,129] (fun t10 t11 _ _ _ _ _ _ _ _ _ _ _ _ _ _ _ _ _ _ _ _ wr=>∃ (k:Nat),k<=cb.length/\t11=.int .i64 k/\wr.ownsRow w3.heap.size 47 2 t10 (1+k) (znH [⟨12,cb.length+3⟩]++znH (znF 1 (cb.take k)))/\Hid (Below w3.heap.size w3 wr)) (fun _ t11 _ _ _ _ _ _ _ _ _ _ _ _ _ _ _ _ _ _ _ _ _=>cb.length - (intOf t11).toNat)
   case atStart=>exact ⟨0,by omega,by first | rfl | go_num,hO5',zh Hb5.out⟩
   case round =>
    obtain ⟨k,hk,rfl,hown,Hb⟩:=hrel;have hszr:=Hb.out.size;by_cases hkl:k < cb.length
    ·have hki:(k:Int) < (cb.length:Int):=by omega
     obtain ⟨bb,off2,rfl,hbw,c0,c1⟩:=(HS3.out.below Hb.out).at hkl;have Hst:=zh (shiftC_take hkl 1);have Hjk:=zh (Hjo2.out cb[k] (List.getElem_mem hkl));have HJ:=zh (jumps_any cb[k].op cb[k].a (wr.alloc (.cells #[.int .u8 cb[k].op,.int .i64 cb[k].a] 47)));have hY1:=OwnV.new wr 47 [.int .u8 cb[k].op,.int .i64 cb[k].a];have HY1:=zh hY1;obtain ⟨iop,x,he⟩:∃ op x,cb[k]=⟨op,x⟩:=⟨_,_,rfl⟩;have Hsh:Hid (znK 1 ⟨iop,x⟩=if zn5 ⟨iop,x⟩=true then ⟨iop,x+1⟩ else ⟨iop,x⟩):=zh rfl;rw [he] at Hst Hjk HJ HY1 c0 c1;obtain ⟨q,hq⟩:∃ q,zn5 ⟨iop,x⟩=q:=⟨_,rfl⟩;rw [hq] at HJ Hsh Hjk;have hltv:∀ g,u10.ownBlock=some g->g < wr.heap.size:=fun g hg=>(hown.lt g hg).2
     clear hY1 he hq;go_wp2_with fail
     refine HJ.out.mono ?_;rintro e6 w6 ⟨rfl,hb6⟩;have HY2:=zh (HY1.out.below hb6 (zr _));have hown2:=zbu (hown.alloc (.cells #[.int .u8 iop,.int .i64 x] 47)) hb6 (zr _);have Hb6:=zh ((Hb.out.alloc hszr (.cells #[.int .u8 iop,.int .i64 x] 47)).trans (hb6.mono (by simp;omega)));have hlt2:wr.heap.size < w6.heap.size:=HY2.out.lt;obtain ⟨y0,y1⟩:=yc2 HY2.out;have yf:=HY2.out.free;clear hb6 c0 c1
     cases q with
     | true =>
      obtain ⟨hj0,hj1⟩:=Hjk.out rfl;have Hst2:Hid (znF 1 (cb.take (k+1))=znF 1 (cb.take k)++[⟨iop,x+1⟩]):=zh (by rw [Hst.out,Hsh.out,yP rfl]);obtain ⟨W7,hW7,hown7,hb7⟩:∃ W7,W7=w6.setCell ⟨wr.heap.size,1,none⟩ (.int .i64 (x+1))/\W7.ownsRow w3.heap.size 47 2 u10 (1+k) (znH [⟨12,cb.length+3⟩]++znH (znF 1 (cb.take k)))/\Below w3.heap.size w3 W7:=⟨_,rfl,zdB hown2 (fun g hg e=>by have:=hltv g hg;omega) _ _,Hb6.out.setCell (by show w3.heap.size<=wr.heap.size;exact hszr) _⟩;have hOx:OwnV W7 wr.heap.size 47 [.int .u8 iop,.int .i64 (x+1)]:=by rw [hW7];exact HY2.out.set 1 _
      have Hb7:=zh hb7;have HW7:=zh hW7;have hs7:=hb7.size;clear hb7 hW7 hown2;go_upto_region 34 with (fail)
      rw [<- HW7.out];obtain ⟨z0,z1⟩:=yc2 hOx;go_wp2_with (at_builtin;refine zbj rfl (.tmp 126) (.tmp 128) 38 rfl hown7 info_rins Try.underlying38 rfl (by decide) rfl 1 1 rfl rfl rfl (by unfold maxLen;omega) (by omega) hs7 ?_;intro v' w8 hown8 hg8 hb8 hat8)
      go_roundw
      case rel=>exact ⟨k+1,by omega,by go_num,by rw [Hst2.out,zrL,<- List.append_assoc];exact hown8,zh (Hb7.out.trans hb8)⟩
      case measure=>simp [intOf];omega
     | false =>
      have Hst2:Hid (znF 1 (cb.take (k+1))=znF 1 (cb.take k)++[⟨iop,x⟩]):=zh (by rw [Hst.out,Hsh.out,yN (by decide)]);have hs7:=Hb6.out.size;go_wp2_with (at_builtin;refine zbj rfl (.tmp 126) (.tmp 128) 38 rfl hown2 info_rins Try.underlying38 rfl (by decide) rfl 1 1 rfl rfl rfl (by unfold maxLen;omega) (by omega) hs7 ?_;intro v' w8 hown8 hg8 hb8 hat8)
      go_roundw
      case rel=>exact ⟨k+1,by omega,by go_num,by rw [Hst2.out,zrL,<- List.append_assoc];exact hown8,zh (Hb6.out.trans hb8)⟩
      case measure=>simp [intOf];omega
    ·have hki:¬ (k:Int) < (cb.length:Int):=by omega
     have hke:k=cb.length:=by omega
     have x0:=(HX3.out.below Hb.out (zr _)).cell (i:=0) rfl;have hk4:(cb.length:Int)+4<=1000000:=by omega
     go_wp2_with (at_builtin;refine zbj rfl (.tmp 130) (.tmp 140) 38 rfl hown info_rins Try.underlying38 rfl (by decide) rfl 3 3 rfl rfl rfl (by unfold maxLen;omega) (by omega) hszr ?_;intro v' w8 hown8 hg8 hb8 hat8)
     have HT:Hid (SlC w8 (⟨12,cb.length+3⟩ :: (znF 1 cb++[⟨10,0⟩,⟨11,cb.length+4⟩,⟨1,0⟩])) v'):=zh (by
      have h:=Sl.of_own hown8;rw [hke,List.take_length] at h;have e:(⟨12,cb.length+3⟩ :: (znF 1 cb++[⟨10,0⟩,⟨11,cb.length+4⟩,⟨1,0⟩]):znA)=[⟨12,cb.length+3⟩]++znF 1 cb++[⟨10,0⟩,⟨11,cb.length+4⟩,⟨1,0⟩]:=by simp
      have l:([⟨12,cb.length+3⟩]++znF 1 cb++[⟨10,0⟩,⟨11,cb.length+4⟩,⟨1,0⟩]:znA).length=1+cb.length+3:=by simp [zn8];omega
      unfold SlC;rw [e,l,zrL,zrL]
      exact h)
     have Hb8:=zh (Hb3.out.trans ((Hb.out.trans hb8).mono hs3));have hb38:=Hb.out.trans hb8;have hs8:w.heap.size<=w8.heap.size:=yT hs3 hb38.size;have HJ:=zh (join_any ca _ v2 v' w8 (HO3a.out.sl.below hb38) HT.out (by omega) (by simp only [yB,yA,zn8,yL];omega) (jOk_small (jOk_ltail Hjo2.out) (by simp only [yB,yA,zn8,yL];omega)));clear hown hown8 hg8 hb8 hat8 hb38 x0;go_wp2_with fail
     refine HJ.out.mono ?_;rintro e9 w9 ⟨⟨v9,rfl,hO9⟩,hb9⟩;have HO9:=zh (znE hO9 hs8);have Hb9:=zh (Hb8.out.trans (hb9.mono hs8));clear hO9 hb9;go_wp2_with fail
     exact yE (v:=.tuple #[v9,.int .i64 0]) (by simp [results,Try.results70,go_sem]) rfl ⟨by rw [Hc2.out];exact ⟨_,rfl,HO9.out⟩,Hb9.out⟩
theorem rexpr_c22 (d:Nat) (ih:∀ (op n:Int) (name:List UInt8) (args:List Ex) (v:Value) (w:World) (B:Nat) (ns:znU) (vn:Value),zbd d (.mk op n name args)=true->okE (.mk op n name args)->szE (.mk op n name args)<=100000->EsL w B args v->B<=w.heap.size->Strs w ns vn->ns.length<=1000000->Calls Try.prog 70 #[.agg #[.int .u8 op,.int .i64 n,.string (bstr name),v],vn] w fun e w'=>ExprCR w w' e (znV ns (.mk op n name args))/\Below w.heap.size w w')
  (n:Int) (name:List UInt8) (args:List Ex) (v:Value) (w:World) (B:Nat) (ns:znU) (vn:Value) (hf:zbd (d+1) (.mk 22 n name args)=true) (hok:okE (.mk 22 n name args)) (hsz:szE (.mk 22 n name args)<=100000) (hL:EsL w B args v) (hB:B<=w.heap.size) (hS:Strs w ns vn) (hns:ns.length<=1000000) :
  Calls Try.prog 70 #[.agg #[.int .u8 22,.int .i64 n,.string (bstr name),v],vn] w fun e w'=>ExprCR w w' e (znV ns (.mk 22 n name args))/\Below w.heap.size w w':=by
 obtain ⟨a,cap,rfl,hcc1,hcc2⟩:=hL.form;obtain ⟨an,capn,rfl,hcn1,hcn2⟩:=Sl.form hS;have Hih:=zh ih;have HL:=zh hL;have HS:=zh hS;obtain ⟨-,-,-,hoks⟩:=hok;have Hoks:=zh hoks;rw [zbd,yC] at hf;obtain ⟨hh,hall⟩:=hf;have Hall:=zh hall;have hsz2:szEs args<=100000:=by rw [szE] at hsz;omega
 obtain ⟨W1,hW1,hX1,hb1⟩:∃ W1,W1=w.alloc (.cells #[.int .u8 22,.int .i64 n,.string (bstr name),.slice a args.length cap] 65)/\OwnV W1 w.heap.size 65 [.int .u8 22,.int .i64 n,.string (bstr name),.slice a args.length cap]/\Below w.heap.size w W1:=⟨_,rfl,OwnV.new _ _ _,(yR _ _).alloc (zr _) _⟩;have Hb1:=zh hb1;have HX1:=zh hX1;have x0:=hX1.cell (i:=0) rfl;have x3:=hX1.cell (i:=3) rfl;have HW1:=zh hW1;have hs1:=hb1.size;have HOne:Hid (∀ (op a:Int) (W:World),_):=zh (fun (op a:Int) (W:World)=>one_any op a W);have hl:args.length=2:=(zn2 hh).1.trans (by rfl);have h0:0 < args.length:=by omega
 have h0i:(0:Int) < (args.length:Int):=by omega
 have hl1:((args.length:Int) == 1)=false:=by rw [hl];rfl
 obtain ⟨b,off,op1,n1,name1,args1,aa,ac,rfl,hbB,hbw,hat,c0',c1',c2',c3',hL1⟩:=hL.at h0;rw [Nat.zero_mul,Nat.add_zero] at c0' c1' c2' c3';have c0:=Below.keep hb1 c0';have c1:=Below.keep hb1 c1';have c2:=Below.keep hb1 c2';have c3:=Below.keep hb1 c3';have hsz3:szE (.mk op1 n1 name1 args1)<=100000:=yT (zns hat) hsz2;have h1:1 < args.length:=by omega
 have h1i:(1:Int) < (args.length:Int):=by omega
 obtain ⟨b',off',op2,n2,name2,args2,ab,ac2,he',hbB',hbw',hat',d0',d1',d2',d3',hL2⟩:=hL.at h1;cases he';rw [Nat.one_mul] at d0' d1' d2' d3';have hsz4:szE (.mk op2 n2 name2 args2)<=100000:=yT (zns hat') hsz2;have HD0:=zh d0';have HD1:=zh d1';have HD2:=zh d2';have HD3:=zh d3'
 have Hc:Hid (znV ns (.mk 22 n name args)=(znV ns (.mk op1 n1 name1 args1)).andThen fun a=>(znV ns (.mk op2 n2 name2 args2)).andThen fun b=>.ok (znB a (⟨13,b.length+3⟩ :: (znF 1 b++[⟨10,0⟩,⟨11,b.length+4⟩,⟨1,1⟩])))):=zh (by
  have e:args=[.mk op1 n1 name1 args1,.mk op2 n2 name2 args2]:=by
   match args,hl,hat,hat' with
   | [xa,xb],_,h,h'=>simpa using And.intro h h'
  rw [e,code_two ns _ n name _ _ (by omega)];rfl)
 have HE2:Hid (∀ W:World,Below w.heap.size w W->Calls Try.prog 70 #[.agg #[.int .u8 op2,.int .i64 n2,.string (bstr name2),.slice ab args2.length ac2],.slice an ns.length capn] W _):=zh (fun W hb=>Hih.out op2 n2 name2 args2 _ W B ns _ (by rw [List.all_eq_true] at hall;exact hall _ (List.mem_of_getElem? hat')) (zgR Hoks.out hat') hsz4 (hL2.low (hb.mono hB)) (yT hB hb.size) (HS.out.below hb) hns);have Hk2:Hid (∀ k,znV ns (.mk op2 n2 name2 args2)=.err k->k=131):=zh (fun k h=>zpB ns _ k h)
 have Hok2:Hid (∀ c,znV ns (.mk op2 n2 name2 args2)=.ok c->jOk c/\c.length<=400000):=zh (fun c h=>by
  obtain ⟨h1,h2⟩:=zsA ns _ c h
  exact ⟨h1,by omega⟩)
 generalize znV ns (.mk op2 n2 name2 args2)=R2 at *
 have HE1:Hid (∀ W:World,Below w.heap.size w W->Calls Try.prog 70 #[.agg #[.int .u8 op1,.int .i64 n1,.string (bstr name1),.slice aa args1.length ac],.slice an ns.length capn] W _):=zh (fun W hb=>Hih.out op1 n1 name1 args1 _ W B ns _ (by rw [List.all_eq_true] at hall;exact hall _ (List.mem_of_getElem? hat)) (zgR Hoks.out hat) hsz3 (hL1.low (hb.mono hB)) (yT hB hb.size) (HS.out.below hb) hns);have Hk:Hid (∀ k,znV ns (.mk op1 n1 name1 args1)=.err k->k=131):=zh (fun k h=>zpB ns _ k h)
 have Hok:Hid (∀ c,znV ns (.mk op1 n1 name1 args1)=.ok c->jOk c/\c.length<=400000):=zh (fun c h=>by
  obtain ⟨h1,h2⟩:=zsA ns _ c h
  exact ⟨h1,by omega⟩)
 generalize znV ns (.mk op1 n1 name1 args1)=R1 at *
 generalize znV ns (.mk 22 n name args)=R at *
 clear c0' c1' c2' c3';clear d0' d1' d2' d3' ih hL hS hoks hall hb1 hbB' hbw' hat' hL2 hbB hbw hat hL1 hl hX1 hW1;go_enter Try.func70,Try.ntmps70
 go_upto_region 1 with (fail)
 rw [<- HW1.out];go_wp2_with fail
 refine (HE1.out _ Hb1.out).mono ?_;rintro e2 w2 ⟨he2,hb2⟩;have HX2:=zh (HX1.out.below hb2 (zr _));have Hb2:=zh (Hb1.out.trans (hb2.mono hs1));have hs2:w.heap.size<=w2.heap.size:=yT hs1 hb2.size;clear hb2 c0 c1 c2 c3 x0 x3
 cases R1 with
 | err k =>
  obtain rfl:=he2;obtain rfl:k=131:=Hk.out k rfl;have Hc2:Hid (R=.err 131):=zh (by rw [Hc.out];rfl);go_wp2_with fail
  exact yE (v:=.tuple #[.slice none 0 0,.int .i64 131]) (by simp [results,Try.results70,go_sem]) rfl ⟨by rw [Hc2.out];rfl,Hb2.out⟩
 | ok ca =>
  obtain ⟨v2,rfl,hO2⟩:=he2;obtain ⟨hjo,hcl⟩:=Hok.out ca rfl;have HO2:=zh hO2;have Hjo:=zh hjo;have d0:=Below.keep Hb2.out HD0.out;have d1:=Below.keep Hb2.out HD1.out;have d2:=Below.keep Hb2.out HD2.out;have d3:=Below.keep Hb2.out HD3.out;have x0:=HX2.out.cell (i:=0) rfl;have x3:=HX2.out.cell (i:=3) rfl;clear hO2 hjo Hok;go_wp2_with fail
  refine (HE2.out _ Hb2.out).mono ?_;rintro e3 w3 ⟨he3,hb3⟩;have HX3:=zh (HX2.out.below hb3 (zr _));have HO3a:=zh (HO2.out.below hb3);have Hb3:=zh (Hb2.out.trans (hb3.mono hs2));have hs3:w.heap.size<=w3.heap.size:=yT hs2 hb3.size;clear hb3 d0 d1 d2 d3 x0 x3
  cases R2 with
  | err k =>
   obtain rfl:=he3;obtain rfl:k=131:=Hk2.out k rfl;have Hc2:Hid (R=.err 131):=zh (by rw [Hc.out];rfl);go_wp2_with fail
   exact yE (v:=.tuple #[.slice none 0 0,.int .i64 131]) (by simp [results,Try.results70,go_sem]) rfl ⟨by rw [Hc2.out];rfl,Hb3.out⟩
  | ok cb =>
   obtain ⟨v3,rfl,hO3⟩:=he3;obtain ⟨hjo2,hcl2⟩:=Hok2.out cb rfl;have HO3:=zh hO3;have Hjo2:=zh hjo2;clear hO3 hjo2 Hok2;have Hc2:Hid (R=.ok (znB ca (⟨13,cb.length+3⟩ :: (znF 1 cb++[⟨10,0⟩,⟨11,cb.length+4⟩,⟨1,1⟩])))):=zh Hc.out;have x0:=HX3.out.cell (i:=0) rfl;have hcb:(cb.length:Int)<=400000:=by omega
   have hcb0:(0:Int)<=(cb.length:Int):=by omega
   have hsl3:=HO3.out.sl;obtain ⟨b3,cp3,rfl,hcp3,hcp32⟩:=Sl.form hsl3;have HS3:=zh hsl3;clear Hc hsl3;go_wp2_with fail
   refine (HOne.out _ _ _).mono ?_;rintro e5 w5 ⟨⟨v5,rfl,hO5⟩,hb5⟩
   have hO5':w5.ownsRow w3.heap.size 47 2 v5 (1+0) (znH [⟨13,cb.length+3⟩]++znH (znF 1 (cb.take 0))):=by
    rw [List.take_zero,show znH (znF 1 [])=[] from rfl,List.append_nil];exact hO5
   have Hb5:=zh hb5;have HX5:=zh (HX3.out.below hb5 (zr _));clear hb5 hO5 x0;go_wp2_with fail
   go_loopw [10,11,12,111,112,113,114,115,116,117,118,119,120,121,122,123,124,125,126,127,128,129] (fun t10 t11 _ _ _ _ _ _ _ _ _ _ _ _ _ _ _ _ _ _ _ _ wr=>∃ (k:Nat),k<=cb.length/\t11=.int .i64 k/\wr.ownsRow w3.heap.size 47 2 t10 (1+k) (znH [⟨13,cb.length+3⟩]++znH (znF 1 (cb.take k)))/\Hid (Below w3.heap.size w3 wr)) (fun _ t11 _ _ _ _ _ _ _ _ _ _ _ _ _ _ _ _ _ _ _ _ _=>cb.length - (intOf t11).toNat)
   case atStart=>exact ⟨0,by omega,by first | rfl | go_num,hO5',zh Hb5.out⟩
   case round =>
    obtain ⟨k,hk,rfl,hown,Hb⟩:=hrel;have hszr:=Hb.out.size;by_cases hkl:k < cb.length
    ·have hki:(k:Int) < (cb.length:Int):=by omega
     obtain ⟨bb,off2,rfl,hbw,c0,c1⟩:=(HS3.out.below Hb.out).at hkl;have Hst:=zh (shiftC_take hkl 1);have Hjk:=zh (Hjo2.out cb[k] (List.getElem_mem hkl));have HJ:=zh (jumps_any cb[k].op cb[k].a (wr.alloc (.cells #[.int .u8 cb[k].op,.int .i64 cb[k].a] 47)));have hY1:=OwnV.new wr 47 [.int .u8 cb[k].op,.int .i64 cb[k].a];have HY1:=zh hY1;obtain ⟨iop,x,he⟩:∃ op x,cb[k]=⟨op,x⟩:=⟨_,_,rfl⟩;have Hsh:Hid (znK 1 ⟨iop,x⟩=if zn5 ⟨iop,x⟩=true then ⟨iop,x+1⟩ else ⟨iop,x⟩):=zh rfl;rw [he] at Hst Hjk HJ HY1 c0 c1;obtain ⟨q,hq⟩:∃ q,zn5 ⟨iop,x⟩=q:=⟨_,rfl⟩;rw [hq] at HJ Hsh Hjk;have hltv:∀ g,u10.ownBlock=some g->g < wr.heap.size:=fun g hg=>(hown.lt g hg).2
     clear hY1 he hq;go_wp2_with fail
     refine HJ.out.mono ?_;rintro e6 w6 ⟨rfl,hb6⟩;have HY2:=zh (HY1.out.below hb6 (zr _));have hown2:=zbu (hown.alloc (.cells #[.int .u8 iop,.int .i64 x] 47)) hb6 (zr _);have Hb6:=zh ((Hb.out.alloc hszr (.cells #[.int .u8 iop,.int .i64 x] 47)).trans (hb6.mono (by simp;omega)));have hlt2:wr.heap.size < w6.heap.size:=HY2.out.lt;obtain ⟨y0,y1⟩:=yc2 HY2.out;have yf:=HY2.out.free;clear hb6 c0 c1
     cases q with
     | true =>
      obtain ⟨hj0,hj1⟩:=Hjk.out rfl;have Hst2:Hid (znF 1 (cb.take (k+1))=znF 1 (cb.take k)++[⟨iop,x+1⟩]):=zh (by rw [Hst.out,Hsh.out,yP rfl]);obtain ⟨W7,hW7,hown7,hb7⟩:∃ W7,W7=w6.setCell ⟨wr.heap.size,1,none⟩ (.int .i64 (x+1))/\W7.ownsRow w3.heap.size 47 2 u10 (1+k) (znH [⟨13,cb.length+3⟩]++znH (znF 1 (cb.take k)))/\Below w3.heap.size w3 W7:=⟨_,rfl,zdB hown2 (fun g hg e=>by have:=hltv g hg;omega) _ _,Hb6.out.setCell (by show w3.heap.size<=wr.heap.size;exact hszr) _⟩;have hOx:OwnV W7 wr.heap.size 47 [.int .u8 iop,.int .i64 (x+1)]:=by rw [hW7];exact HY2.out.set 1 _
      have Hb7:=zh hb7;have HW7:=zh hW7;have hs7:=hb7.size;clear hb7 hW7 hown2;go_upto_region 34 with (fail)
      rw [<- HW7.out];obtain ⟨z0,z1⟩:=yc2 hOx;go_wp2_with (at_builtin;refine zbj rfl (.tmp 126) (.tmp 128) 38 rfl hown7 info_rins Try.underlying38 rfl (by decide) rfl 1 1 rfl rfl rfl (by unfold maxLen;omega) (by omega) hs7 ?_;intro v' w8 hown8 hg8 hb8 hat8)
      go_roundw
      case rel=>exact ⟨k+1,by omega,by go_num,by rw [Hst2.out,zrL,<- List.append_assoc];exact hown8,zh (Hb7.out.trans hb8)⟩
      case measure=>simp [intOf];omega
     | false =>
      have Hst2:Hid (znF 1 (cb.take (k+1))=znF 1 (cb.take k)++[⟨iop,x⟩]):=zh (by rw [Hst.out,Hsh.out,yN (by decide)]);have hs7:=Hb6.out.size;go_wp2_with (at_builtin;refine zbj rfl (.tmp 126) (.tmp 128) 38 rfl hown2 info_rins Try.underlying38 rfl (by decide) rfl 1 1 rfl rfl rfl (by unfold maxLen;omega) (by omega) hs7 ?_;intro v' w8 hown8 hg8 hb8 hat8)
      go_roundw
      case rel=>exact ⟨k+1,by omega,by go_num,by rw [Hst2.out,zrL,<- List.append_assoc];exact hown8,zh (Hb6.out.trans hb8)⟩
      case measure=>simp [intOf];omega
    ·have hki:¬ (k:Int) < (cb.length:Int):=by omega
     have hke:k=cb.length:=by omega
     have x0:=(HX3.out.below Hb.out (zr _)).cell (i:=0) rfl;have hk4:(cb.length:Int)+4<=1000000:=by omega
     go_wp2_with (at_builtin;refine zbj rfl (.tmp 130) (.tmp 140) 38 rfl hown info_rins Try.underlying38 rfl (by decide) rfl 3 3 rfl rfl rfl (by unfold maxLen;omega) (by omega) hszr ?_;intro v' w8 hown8 hg8 hb8 hat8)
     have HT:Hid (SlC w8 (⟨13,cb.length+3⟩ :: (znF 1 cb++[⟨10,0⟩,⟨11,cb.length+4⟩,⟨1,1⟩])) v'):=zh (by
      have h:=Sl.of_own hown8;rw [hke,List.take_length] at h;have e:(⟨13,cb.length+3⟩ :: (znF 1 cb++[⟨10,0⟩,⟨11,cb.length+4⟩,⟨1,1⟩]):znA)=[⟨13,cb.length+3⟩]++znF 1 cb++[⟨10,0⟩,⟨11,cb.length+4⟩,⟨1,1⟩]:=by simp
      have l:([⟨13,cb.length+3⟩]++znF 1 cb++[⟨10,0⟩,⟨11,cb.length+4⟩,⟨1,1⟩]:znA).length=1+cb.length+3:=by simp [zn8];omega
      unfold SlC;rw [e,l,zrL,zrL]
      exact h)
     have Hb8:=zh (Hb3.out.trans ((Hb.out.trans hb8).mono hs3));have hb38:=Hb.out.trans hb8;have hs8:w.heap.size<=w8.heap.size:=yT hs3 hb38.size;have HJ:=zh (join_any ca _ v2 v' w8 (HO3a.out.sl.below hb38) HT.out (by omega) (by simp only [yB,yA,zn8,yL];omega) (jOk_small (jOk_ltail Hjo2.out) (by simp only [yB,yA,zn8,yL];omega)));clear hown hown8 hg8 hb8 hat8 hb38 x0;go_wp2_with fail
     refine HJ.out.mono ?_;rintro e9 w9 ⟨⟨v9,rfl,hO9⟩,hb9⟩;have HO9:=zh (znE hO9 hs8);have Hb9:=zh (Hb8.out.trans (hb9.mono hs8));clear hO9 hb9;go_wp2_with fail
     exact yE (v:=.tuple #[v9,.int .i64 0]) (by simp [results,Try.results70,go_sem]) rfl ⟨by rw [Hc2.out];exact ⟨_,rfl,HO9.out⟩,Hb9.out⟩

theorem fineS_succ {d:Nat} {op n:Int} {name:List UInt8} {args:List Ex} (h:zbd (d+1) (.mk op n name args)=true):1<=op/\op<=24:=by
 rw [zbd,yC] at h;exact (zn2 h.1).2
theorem rexpr_any:∀ (d:Nat) (op n:Int) (name:List UInt8) (args:List Ex) (v:Value) (w:World) (B:Nat) (ns:znU) (vn:Value),zbd d (.mk op n name args)=true->okE (.mk op n name args)->szE (.mk op n name args)<=100000->EsL w B args v->B<=w.heap.size->Strs w ns vn->ns.length<=1000000 ->
  Calls Try.prog 70 #[.agg #[.int .u8 op,.int .i64 n,.string (bstr name),v],vn] w fun e w'=>ExprCR w w' e (znV ns (.mk op n name args))/\Below w.heap.size w w':=by
 intro d
 induction d with
 | zero=>intro op n name args v w B ns vn h;cases h
 | succ d ih =>
  intro op n name args v w B ns vn hf hok hsz hL hB hS hns;have hg:=fineS_succ hf;by_cases h10:10<=op
  ·by_cases h21:op=21
   ·subst h21;exact rexpr_c21 d ih n name args v w B ns vn hf hok hsz hL hB hS hns
   ·by_cases h22:op=22
    ·subst h22;exact rexpr_c22 d ih n name args v w B ns vn hf hok hsz hL hB hS hns
    ·exact rexpr_c10 d ih op n name args v w B ns vn hf hok hsz hL hB hS hns h10 hg.2 h21 h22
  ·by_cases h7:7<=op
   ·exact rexpr_c7 d ih op n name args v w B ns vn hf hok hsz hL hB hS hns h7 (by omega)
   ·have h6:op=1∨op=2∨op=3∨op=4∨op=5∨op=6:=by omega
    rcases h6 with rfl | rfl | rfl | rfl | rfl | rfl
    ·exact rexpr_c1 d ih n name args v w B ns vn hf hok hsz hL hB hS hns
    ·exact rexpr_c2 d ih n name args v w B ns vn hf hok hsz hL hB hS hns
    ·exact rexpr_c3 d ih n name args v w B ns vn hf hok hsz hL hB hS hns
    ·exact rexpr_c4 d ih n name args v w B ns vn hf hok hsz hL hB hS hns
    ·exact rexpr_c5 d ih n name args v w B ns vn hf hok hsz hL hB hS hns
    ·exact rexpr_c6 d ih n name args v w B ns vn hf hok hsz hL hB hS hns
end Go.Proofs.Ytdeneckmoejcfaa
