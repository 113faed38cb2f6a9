/- marchesref13.expr, walked: two arguments. -/
import Derived.Test.YtdeneckmoejcfaaRExprK
import Derived.Test.YtdeneckmoejcfaaRegionK
import Derived.Deep.RegionHeld3
set_option linter.unusedSimpArgs false
set_option linter.unusedVariables false

namespace Go.Proofs.Ytdeneckmoejcfaa
open Go.RowKit

set_option maxRecDepth 100000 in
set_option maxHeartbeats 2000000 in
theorem rexpr_c10 (d:Nat) (ih:∀ (op n:Int) (name:List UInt8) (args:List Ex) (v:Value) (w:World) (B:Nat) (ns:Names) (vn:Value),fineS d (.mk op n name args)=true→okE (.mk op n name args)→szE (.mk op n name args)≤100000→EsL w B args v→B≤w.heap.size→Strs w ns vn→ns.length≤1000000→Calls Try.prog 70 #[.agg #[.int .u8 op,.int .i64 n,.string (bstr name),v],vn] w fun e w'=>ExprCR w w' e (codeE ns (.mk op n name args))∧Below w.heap.size w w')
    (op:Int) (n:Int) (name:List UInt8) (args:List Ex) (v:Value) (w:World) (B:Nat) (ns:Names) (vn:Value) (hf:fineS (d+1) (.mk op n name args)=true) (hok:okE (.mk op n name args)) (hsz:szE (.mk op n name args)≤100000) (hL:EsL w B args v) (hB:B≤w.heap.size) (hS:Strs w ns vn) (hns:ns.length≤1000000) (hc1:10≤op) (hc2:op≤24) (hc3:op≠21) (hc4:op≠22) :
    Calls Try.prog 70 #[.agg #[.int .u8 op,.int .i64 n,.string (bstr name),v],vn] w fun e w'=>ExprCR w w' e (codeE ns (.mk op n name args))∧Below w.heap.size w w':=by
  obtain ⟨a,cap,rfl,hcc1,hcc2⟩:=hL.form
  obtain ⟨an,capn,rfl,hcn1,hcn2⟩:=Sl.form hS
  have Hih:=Lib.hid ih
  have HL:=Lib.hid hL
  have HS:=Lib.hid hS
  obtain ⟨-,-,-,hoks⟩:=hok
  have Hoks:=Lib.hid hoks
  rw [fineS,Bool.and_eq_true] at hf
  obtain ⟨hh,hall⟩:=hf
  have Hall:=Lib.hid hall
  have hsz2:szEs args≤100000:=by rw [szE] at hsz;omega
  obtain ⟨W1,hW1,hX1,hb1⟩:∃ W1,W1=w.alloc (.cells #[.int .u8 op,.int .i64 n,.string (bstr name),.slice a args.length cap] 65)∧OwnV W1 w.heap.size 65 [.int .u8 op,.int .i64 n,.string (bstr name),.slice a args.length cap]∧Below w.heap.size w W1:=⟨_,rfl,OwnV.new _ _ _,(Below.refl _ _).alloc (Nat.le_refl _) _⟩
  have Hb1:=Lib.hid hb1
  have HX1:=Lib.hid hX1
  have x0:=hX1.cell (i:=0) rfl
  have x3:=hX1.cell (i:=3) rfl
  have HW1:=Lib.hid hW1
  have hs1:=hb1.size
  have HOne:Hid (∀ (op a:Int) (W:World),_):=Lib.hid (fun (op a:Int) (W:World)=>one_any op a W)
  have hl:args.length=2:=(headE_len hh).1.trans (by unfold manyS;rw [if_neg (by omega)])
  have h0:0 < args.length:=by omega
  have h0i:(0:Int) < (args.length:Int):=by omega
  have hl1:((args.length:Int) == 1)=false:=by rw [hl];rfl
  obtain ⟨b,off,op1,n1,name1,args1,aa,ac,rfl,hbB,hbw,hat,c0',c1',c2',c3',hL1⟩:=hL.at h0
  rw [Nat.zero_mul,Nat.add_zero] at c0' c1' c2' c3'
  have c0:=Below.keep hb1 c0'
  have c1:=Below.keep hb1 c1'
  have c2:=Below.keep hb1 c2'
  have c3:=Below.keep hb1 c3'
  have hsz3:szE (.mk op1 n1 name1 args1)≤100000:=Nat.le_trans (szEs_le hat) hsz2
  have h1:1 < args.length:=by omega
  have h1i:(1:Int) < (args.length:Int):=by omega
  obtain ⟨b',off',op2,n2,name2,args2,ab,ac2,he',hbB',hbw',hat',d0',d1',d2',d3',hL2⟩:=hL.at h1
  cases he'
  rw [Nat.one_mul] at d0' d1' d2' d3'
  have hsz4:szE (.mk op2 n2 name2 args2)≤100000:=Nat.le_trans (szEs_le hat') hsz2
  have HD0:=Lib.hid d0'
  have HD1:=Lib.hid d1'
  have HD2:=Lib.hid d2'
  have HD3:=Lib.hid d3'
  have Hc:Hid (codeE ns (.mk op n name args)=(codeE ns (.mk op1 n1 name1 args1)).andThen fun a=>(codeE ns (.mk op2 n2 name2 args2)).andThen fun b=>.ok (joinC (joinC a b) [⟨9,op⟩])):=Lib.hid (by
    have e:args=[.mk op1 n1 name1 args1,.mk op2 n2 name2 args2]:=by
      match args,hl,hat,hat' with
      | [xa,xb],_,h,h'=>simpa using And.intro h h'
    rw [e,code_two ns _ n name _ _ (by omega)];simp only [if_neg (show ¬ (op=21∨op=22) by omega)])
  have HE2:Hid (∀ W:World,Below w.heap.size w W→Calls Try.prog 70 #[.agg #[.int .u8 op2,.int .i64 n2,.string (bstr name2),.slice ab args2.length ac2],.slice an ns.length capn] W _):=Lib.hid (fun W hb=>Hih.out op2 n2 name2 args2 _ W B ns _ (by rw [List.all_eq_true] at hall;exact hall _ (List.mem_of_getElem? hat')) (okEs_at Hoks.out hat') hsz4 (hL2.low (hb.mono hB)) (Nat.le_trans hB hb.size) (HS.out.below hb) hns)
  have Hk2:Hid (∀ k,codeE ns (.mk op2 n2 name2 args2)=.err k→k=131):=Lib.hid (fun k h=>codeE_err ns _ k h)
  have Hok2:Hid (∀ c,codeE ns (.mk op2 n2 name2 args2)=.ok c→jOk c∧c.length≤400000):=Lib.hid (fun c h=>by
    obtain ⟨h1,h2⟩:=codeE_ok ns _ c h
    exact ⟨h1,by omega⟩)
  generalize codeE ns (.mk op2 n2 name2 args2)=R2 at *
  have HE1:Hid (∀ W:World,Below w.heap.size w W→Calls Try.prog 70 #[.agg #[.int .u8 op1,.int .i64 n1,.string (bstr name1),.slice aa args1.length ac],.slice an ns.length capn] W _):=Lib.hid (fun W hb=>Hih.out op1 n1 name1 args1 _ W B ns _ (by rw [List.all_eq_true] at hall;exact hall _ (List.mem_of_getElem? hat)) (okEs_at Hoks.out hat) hsz3 (hL1.low (hb.mono hB)) (Nat.le_trans hB hb.size) (HS.out.below hb) hns)
  have Hk:Hid (∀ k,codeE ns (.mk op1 n1 name1 args1)=.err k→k=131):=Lib.hid (fun k h=>codeE_err ns _ k h)
  have Hok:Hid (∀ c,codeE ns (.mk op1 n1 name1 args1)=.ok c→jOk c∧c.length≤400000):=Lib.hid (fun c h=>by
    obtain ⟨h1,h2⟩:=codeE_ok ns _ c h
    exact ⟨h1,by omega⟩)
  generalize codeE ns (.mk op1 n1 name1 args1)=R1 at *
  generalize codeE ns (.mk op n name args)=R at *
  clear c0' c1' c2' c3'
  clear d0' d1' d2' d3' ih hL hS hoks hall hb1 hbB' hbw' hat' hL2 hbB hbw hat hL1 hl hX1 hW1
  have e1:(op == 1)=false:=by rw [beq_eq_false_iff_ne];omega
  have e2:(op == 2)=false:=by rw [beq_eq_false_iff_ne];omega
  have e3:(op == 3)=false:=by rw [beq_eq_false_iff_ne];omega
  have e4:(op == 4)=false:=by rw [beq_eq_false_iff_ne];omega
  have e5:(op == 5)=false:=by rw [beq_eq_false_iff_ne];omega
  have e6:(op == 6)=false:=by rw [beq_eq_false_iff_ne];omega
  have m21:(op != 21)=true:=by rw [bne_iff_ne];exact hc3
  have m22:(op != 22)=true:=by rw [bne_iff_ne];exact hc4
  have hw:IntKind.i64.wrap op=op:=by simp [IntKind.wrap,IntKind.bits];omega
  clear hc1 hc2 hc3 hc4
  go_enter Try.func70,Try.ntmps70
  go_upto_region 1 with (fail)
  rw [← HW1.out]
  go_wp2_with fail
  refine (HE1.out _ Hb1.out).mono ?_
  rintro e2 w2 ⟨he2,hb2⟩
  have HX2:=Lib.hid (HX1.out.below hb2 (Nat.le_refl _))
  have Hb2:=Lib.hid (Hb1.out.trans (hb2.mono hs1))
  have hs2:w.heap.size≤w2.heap.size:=Nat.le_trans hs1 hb2.size
  clear hb2 c0 c1 c2 c3 x0 x3
  cases R1 with
  | err k =>
    obtain rfl:=he2
    obtain rfl:k=131:=Hk.out k rfl
    have Hc2:Hid (R=.err 131):=Lib.hid (by rw [Hc.out];rfl)
    go_wp2_with fail
    exact bodyPost_ret (v:=.tuple #[.slice none 0 0,.int .i64 131]) (by simp [results,Try.results70,go_sem]) rfl ⟨by rw [Hc2.out];rfl,Hb2.out⟩
  | ok ca =>
    obtain ⟨v2,rfl,hO2⟩:=he2
    obtain ⟨hjo,hcl⟩:=Hok.out ca rfl
    have HO2:=Lib.hid hO2
    have Hjo:=Lib.hid hjo
    have d0:=Below.keep Hb2.out HD0.out
    have d1:=Below.keep Hb2.out HD1.out
    have d2:=Below.keep Hb2.out HD2.out
    have d3:=Below.keep Hb2.out HD3.out
    have x0:=HX2.out.cell (i:=0) rfl
    have x3:=HX2.out.cell (i:=3) rfl
    clear hO2 hjo Hok
    go_wp2_with fail
    refine (HE2.out _ Hb2.out).mono ?_
    rintro e3 w3 ⟨he3,hb3⟩
    have HX3:=Lib.hid (HX2.out.below hb3 (Nat.le_refl _))
    have HO3a:=Lib.hid (HO2.out.below hb3)
    have Hb3:=Lib.hid (Hb2.out.trans (hb3.mono hs2))
    have hs3:w.heap.size≤w3.heap.size:=Nat.le_trans hs2 hb3.size
    clear hb3 d0 d1 d2 d3 x0 x3
    cases R2 with
    | err k =>
      obtain rfl:=he3
      obtain rfl:k=131:=Hk2.out k rfl
      have Hc2:Hid (R=.err 131):=Lib.hid (by rw [Hc.out];rfl)
      go_wp2_with fail
      exact bodyPost_ret (v:=.tuple #[.slice none 0 0,.int .i64 131]) (by simp [results,Try.results70,go_sem]) rfl ⟨by rw [Hc2.out];rfl,Hb3.out⟩
    | ok cb =>
      obtain ⟨v3,rfl,hO3⟩:=he3
      obtain ⟨hjo2,hcl2⟩:=Hok2.out cb rfl
      have HO3:=Lib.hid hO3
      have Hjo2:=Lib.hid hjo2
      clear hO3 hjo2 Hok2
      have Hc2:Hid (R=.ok (joinC (joinC ca cb) [⟨9,op⟩])):=Lib.hid Hc.out
      have HJ1:Hid (∀ W:World,Below w3.heap.size w3 W→Calls Try.prog 58 #[v2,v3] W _):=Lib.hid (fun W hb=>join_any ca cb v2 v3 W (HO3a.out.sl.below hb) (HO3.out.sl.below hb) (by omega) (by omega) (jOk_small Hjo2.out (by omega)))
      have HJ2:Hid (∀ (v5 v6:Value) (W:World),SlC W (joinC ca cb) v5→SlC W [⟨9,op⟩] v6→Calls Try.prog 58 #[v5,v6] W _):=Lib.hid (fun v5 v6 W h5 h6=>join_any (joinC ca cb) [⟨9,op⟩] v5 v6 W h5 h6 (by rw [joinC_len];omega) (by simp) (jOk_small (jOk_one rfl) (by simp)))
      have x0:=HX3.out.cell (i:=0) rfl
      have hlx:w.heap.size < w3.heap.size:=HX3.out.lt
      clear Hc
      go_upto_region 25 with (fail)
      go_region_held3 (fun w'=>w'.cell? ⟨w.heap.size,0,none⟩=some (.int .u8 op)) (go_keep) (first | (go_at_call 72;refine (HOne.out _ _ _).mono ?_;rintro e6 w6 ⟨⟨v6,rfl,hO6⟩,hb6⟩;have z6:=Below.keep hb6 z5) | (go_at_call_of 58 v2;refine (HJ1.out _ (by first | exact (Below.refl _ _).drew | exact Below.refl _ _)).mono ?_;rintro e5 w5 ⟨⟨v5,rfl,hO5⟩,hb5⟩;have z5:w5.cell? ⟨w.heap.size,0,none⟩=some (.int .u8 op):=Below.keep hb5 x0) | (go_at_call_of 58 v5;refine (HJ2.out _ _ _ (by exact hO5.sl.below hb6) (by exact hO6.sl)).mono ?_;rintro e7 w7 ⟨⟨v7,rfl,hO7⟩,hb7⟩;have z7:=Below.keep hb7 z6))
      all_goals
        have hb35:Below w3.heap.size w3 w5:=Below.trans (b:=w3.drew) ((Below.refl _ _).drew) hb5
        have hs5:w.heap.size≤w5.heap.size:=Nat.le_trans hs3 hb35.size
        have hs6:w.heap.size≤w6.heap.size:=Nat.le_trans hs5 hb6.size
        have HO7:=Lib.hid (own_mono' hO7 hs6)
        have Hb7:=Lib.hid (Hb3.out.trans ((hb35.mono hs3).trans ((hb6.mono hs5).trans (hb7.mono hs6))))
        clear hb5 hb6 hb7 hb35 hO5 hO6 hO7
        go_wp2_with fail
        exact bodyPost_ret (v:=.tuple #[v7,.int .i64 0]) (by simp [results,Try.results70,go_sem]) rfl ⟨by rw [Hc2.out];exact ⟨_,rfl,HO7.out⟩,Hb7.out⟩
end Go.Proofs.Ytdeneckmoejcfaa
