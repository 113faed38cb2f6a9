/- The reference's printer: strength, part and decimal, walked. -/
import Derived.Test.YtoaojdobjinhfaaGreatDoorPrCC
import Derived.Test.YtoaojdobjinhfaaGreatDoorRegionS
import Derived.Lib.SlBytesRow
set_option linter.unusedSimpArgs false
set_option linter.unusedVariables false
set_option maxRecDepth 100000
set_option maxHeartbeats 1000000
namespace Go.Proofs.YtoaojdobjinhfaaGreatDoor
open Go.RowKit

def WrR (B : Nat) (x : Ex) : Prop := ∀ (op n : Int) (name : List UInt8) (args : List Ex) (v : Value) (w : World), x = .mk op n name args → B ≤ w.heap.size → EsL w B args v → Calls Tryz.prog 77 #[.agg #[.int .u8 op, .int .i64 n, .string (bstr name), v]] w (TxtE (zab x) w)
theorem bind_class {op:Int} (h0:1≤op) (h1:op≤24):((op < 10∨22 < op)∧zar op=6)∨(10≤op∧op≤12∧zar op=5)∨((op=13∨op=14)∧zar op=4)∨(15≤op∧op≤20∧zar op=3)∨(op=21∧zar op=2)∨(op=22∧zar op=1):=by
 have:op=1∨op=2∨op=3∨op=4∨op=5∨op=6∨op=7∨op=8∨op=9∨op=10∨op=11∨op=12∨op=13∨op=14∨op=15∨op=16∨op=17∨op=18∨op=19∨op=20∨op=21∨op=22∨op=23∨op=24:=by omega
 rcases this with rfl | rfl | rfl | rfl | rfl | rfl | rfl | rfl | rfl | rfl | rfl | rfl | rfl | rfl | rfl | rfl | rfl | rfl | rfl | rfl | rfl | rfl | rfl | rfl <;> decide
theorem strength_any {op n:Int} {nm:ByteArray} {v:Value} (h0:1≤op) (h1:op≤24) (hv:∃ a m cap,v=.slice a m cap) (w:World) :
  Calls Tryz.prog 120 #[.agg #[.int .u8 op,.int .i64 n,.string nm,v]] w fun e w'=>e=.returned (.int .i64 (zar op:Nat))∧Below w.heap.size w w':=by
 obtain ⟨a,m,cap,rfl⟩:=hv;have hop:∃ k:Nat,op=k:=⟨op.toNat,by omega⟩;rcases bind_class h0 h1 with ⟨h,hb⟩ | ⟨h,h',hb⟩ | ⟨h,hb⟩ | ⟨h,h',hb⟩ | ⟨rfl,hb⟩ | ⟨rfl,hb⟩
 all_goals
  rw [hb];clear hb hop
 ·have e13:(op == 13)=false:=by rw [beq_eq_false_iff_ne];omega
  have e14:(op == 14)=false:=by rw [beq_eq_false_iff_ne];omega
  have e21:(op == 21)=false:=by rw [beq_eq_false_iff_ne];omega
  have e22:(op == 22)=false:=by rw [beq_eq_false_iff_ne];omega
  rcases h with h | h
  ·go_enter Tryz.func120,Tryz.ntmps120
   go_wp2;go_ret;exact ⟨rfl,(Below.refl _ _).alloc (zr _) _⟩
  ·go_enter Tryz.func120,Tryz.ntmps120
   go_wp2;go_ret;exact ⟨rfl,(Below.refl _ _).alloc (zr _) _⟩
 ·go_enter Tryz.func120,Tryz.ntmps120
  go_wp2;go_ret;exact ⟨rfl,(Below.refl _ _).alloc (zr _) _⟩
 ·rcases h with rfl | rfl
  ·go_enter Tryz.func120,Tryz.ntmps120
   go_wp2;go_ret;exact ⟨rfl,(Below.refl _ _).alloc (zr _) _⟩
  ·go_enter Tryz.func120,Tryz.ntmps120
   go_wp2;go_ret;exact ⟨rfl,(Below.refl _ _).alloc (zr _) _⟩
 ·have e13:(op == 13)=false:=by rw [beq_eq_false_iff_ne];omega
  have e14:(op == 14)=false:=by rw [beq_eq_false_iff_ne];omega
  go_enter Tryz.func120,Tryz.ntmps120
  go_wp2;go_ret;exact ⟨rfl,(Below.refl _ _).alloc (zr _) _⟩
 ·go_enter Tryz.func120,Tryz.ntmps120
  go_wp2;go_ret;exact ⟨rfl,(Below.refl _ _).alloc (zr _) _⟩
 ·go_enter Tryz.func120,Tryz.ntmps120
  go_wp2;go_ret;exact ⟨rfl,(Below.refl _ _).alloc (zr _) _⟩
theorem rpart_any {B:Nat} {op n:Int} {name:List UInt8} {args:List Ex} {v:Value} {w:World} {least:Nat} (h0:1≤op) (h1:op≤24) (hl:least≤6) (hz:(zab (.mk op n name args)).length≤1000000000000000) (hW:WrR B (.mk op n name args)) (hB:B≤w.heap.size) (hL:EsL w B args v) :
  Calls Tryz.prog 121 #[.agg #[.int .u8 op,.int .i64 n,.string (bstr name),v],.int .i64 least] w (TxtE (zak (.mk op n name args) least) w):=by
 obtain ⟨a,cap,rfl,hc1,hc2⟩:=hL.form;obtain ⟨W0,hW0,hb0,hO0⟩:∃ W0,W0=w.alloc (.cells #[.int .u8 op,.int .i64 n,.string (bstr name),.slice a args.length cap] 29)∧Below w.heap.size w W0∧OwnV W0 w.heap.size 29 [.int .u8 op,.int .i64 n,.string (bstr name),.slice a args.length cap]:=⟨_,rfl,(Below.refl _ _).alloc (zr _) _,OwnV.new _ _ _⟩;have HSt:=zh (strength_any (n:=n) (nm:=bstr name) (v:=.slice a args.length cap) h0 h1 ⟨_,_,_,rfl⟩ W0);have HC:Hid (∀ W,Below w.heap.size w W→Calls Tryz.prog 77 #[.agg #[.int .u8 op,.int .i64 n,.string (bstr name),.slice a args.length cap]] W (TxtE (zab (.mk op n name args)) W)):=zh (fun W hb=>hW op n name args _ W rfl (Nat.le_trans hB hb.size) (hL.low (hb.mono hB)));have hp:zak (.mk op n name args) least=if zar op < least then [40]++zab (.mk op n name args)++[41] else zab (.mk op n name args):=rfl
 have hbs:zar op≤6:=by rcases bind_class h0 h1 with ⟨_,h⟩ | ⟨_,_,h⟩ | ⟨_,h⟩ | ⟨_,_,h⟩ | ⟨_,h⟩ | ⟨_,h⟩ <;> omega
 obtain ⟨R,hR⟩:∃ R,zak (.mk op n name args) least=R:=⟨_,rfl⟩;rw [hR] at hp ⊢
 generalize zab (.mk op n name args)=T at *
 generalize zar op=m at *
 have HR:=zh hp;have HW0:=zh hW0;have HO0:=zh hO0;have Hb0:=zh hb0;have x0:=hO0.cell (i:=0) rfl;have x1:=hO0.cell (i:=1) rfl;have x2:=hO0.cell (i:=2) rfl;have x3:=hO0.cell (i:=3) rfl;have hT:(bstr T).size≤1000000000000000:=by rw [zaC];exact hz
 unfold TxtE at HC;clear hW0 hO0 hb0 hp hR hW hL hz h0 h1;go_enter Tryz.func121,Tryz.ntmps121
 go_upto_region 1 with (fail)
 rw [← HW0.out];go_wp2_with fail
 go_at_call 120;refine HSt.out.mono ?_;rintro e1 w1 ⟨rfl,hb1⟩;have HB1:=zh (Hb0.out.trans (hb1.mono Hb0.out.size));have HO1:=HO0.out.below hb1 (zr _);replace x0:=HO1.cell (i:=0) rfl;replace x1:=HO1.cell (i:=1) rfl;replace x2:=HO1.cell (i:=2) rfl;replace x3:=HO1.cell (i:=3) rfl;clear hb1 HO1 HO0;by_cases hm:m < least
 ·have hm':(m:Int) < least:=by omega
  have ht:bstr R=({ data:=#[40] }++bstr T)++{ data:=#[41] }:=by rw [HR.out,if_pos hm,show ({ data:=#[40] }:ByteArray)=bstr [40] from rfl,show ({ data:=#[41] }:ByteArray)=bstr [41] from rfl,zax,zax]
  have Ht:=zh ht
  generalize bstr T=S at *
  clear ht;go_wp2_with fail
  go_at_call 77;refine (HC.out _ HB1.out).mono ?_;rintro e2 w2 ⟨rfl,hb2⟩;have HB2:=zh (HB1.out.trans (hb2.mono HB1.out.size));clear hb2 x0 x1 x2 x3;go_wp2_with fail
  exact bodyPost_ret (v:=.string (({ data:=#[40] }++S)++{ data:=#[41] })) (by simp [results,Tryz.results121,go_sem]) rfl ⟨by rw [Ht.out],HB2.out⟩
 ·have hm':¬ (m:Int) < least:=by omega
  have Ht:Hid (bstr R=bstr T):=zh (by rw [HR.out,if_neg hm])
  generalize bstr T=S at *
  go_wp2_with fail
  go_at_call 77;refine (HC.out _ HB1.out).mono ?_;rintro e2 w2 ⟨rfl,hb2⟩;have HB2:=zh (HB1.out.trans (hb2.mono HB1.out.size));clear hb2 x0 x1 x2 x3;go_wp2_with fail
  exact bodyPost_ret (v:=.string S) (by simp [results,Tryz.results121,go_sem]) rfl ⟨by rw [Ht.out],HB2.out⟩

theorem rdc_one (w:World) (x:UInt8) (c:Int) (hc:c=(x.toNat:Int)) :
  (convert 63 9 (.slice (some ⟨w.heap.size,0,none⟩) 1 1)).run Tryz.prog (w.alloc (.cells #[.int .u8 c] 5))=.ok (.string (bstr [x])) (w.alloc (.cells #[.int .u8 c] 5)):=by
 subst hc
 have:=Lib.run_convert_whole (P:=Tryz.prog) (w.alloc (.cells #[.int .u8 x.toNat] 5)) 63 5 9 Tryz.underlying63 Tryz.underlying5 Tryz.underlying9 w.heap.size 0 (bstr [x]) (fun i hi=>by
  have h1:(bstr [x]).size=1:=rfl;have h0:i=0:=by omega
  subst h0;rw [Nat.add_zero,World.cell?_alloc_new]
  rfl) 1
 exact this
theorem rdc_at (w:World) (g:Nat) (x:UInt8) (c:Int) (hc:c=(x.toNat:Int)) (h:w.cell? ⟨g,0,none⟩=some (.int .u8 c)) :
  (convert 63 9 (.slice (some ⟨g,0,none⟩) 1 1)).run Tryz.prog w=.ok (.string (bstr [x])) w:=by
 subst hc
 have:=Lib.run_convert_whole (P:=Tryz.prog) w 63 5 9 Tryz.underlying63 Tryz.underlying5 Tryz.underlying9 g 0 (bstr [x]) (fun i hi=>by
  have h1:(bstr [x]).size=1:=rfl;have h0:i=0:=by omega
  subst h0
  exact h) 1
 exact this
def rdcDigit (c : Int) (j : Nat) (v : Value) (w : World) : Prop := j = 7 → ∃ g, v = .slice (some ⟨g, 0, none⟩) 1 1 ∧ w.cell? ⟨g, 0, none⟩ = some (.int .u8 c)
theorem rdc_small (n:Nat) (w:World) (h10:n < 10):Calls Tryz.prog 122 #[.int .i64 n] w fun e w'=>e=.returned (.string (bstr (Lib.decDigits n)))∧Below w.heap.size w w':=by
 rw [show bstr (Lib.decDigits n)=bstr [UInt8.ofNat (48+n)] from by rw [Lib.decDigits,dif_pos h10]];have kc:=rdc_one w (UInt8.ofNat (48+n)) (48+n) (by rw [zf7 n h10];omega)
 generalize bstr [UInt8.ofNat (48+n)]=S at *
 have hw:IntKind.u8.wrap (48+(n:Int))=48+n:=by simp [IntKind.wrap,IntKind.bits,IntKind.signed];omega
 go_enter Tryz.func122,Tryz.ntmps122
 go_wp2_with fail
 go_ret;exact ⟨rfl,(Below.refl _ _).alloc (zr _) _⟩
theorem rdc_calls:∀ (m n:Nat) (w:World),n≤m→n≤9223372036854775807→Calls Tryz.prog 122 #[.int .i64 n] w fun e w'=>e=.returned (.string (bstr (Lib.decDigits n)))∧Below w.heap.size w w':=by
 intro m
 induction m with
 | zero=>intro n w hn _;exact rdc_small n w (by omega)
 | succ m ih =>
  intro n w hn hmax;by_cases h10:n < 10
  ·exact rdc_small n w h10
  ·have hc:Hid (∀ w:World,_):=zh (fun w:World=>ih (n / 10) w (by omega) (by omega));have hdiv:(n:Int).tdiv 10=((n / 10:Nat):Int):=by rw [Int.tdiv_eq_ediv_of_nonneg (by omega)];omega
   have hmod:(n:Int).tmod 10=((n % 10:Nat):Int):=by rw [Int.tmod_eq_emod_of_nonneg (by omega)];omega
   have kc:Hid (∀ (w:World) (g:Nat),_):=zh (fun (w:World) (g:Nat)=>rdc_at w g (UInt8.ofNat (48+n % 10)) (48+((n % 10:Nat):Int)) (by rw [zf7 _ (Nat.mod_lt _ (by omega))];omega));have hfin:bstr (Lib.decDigits n)=bstr (Lib.decDigits (n / 10))++bstr [UInt8.ofNat (48+n % 10)]:=by rw [Lib.decDigits,dif_neg h10,zax]
   have Hfin:=zh hfin;clear hfin
   have hS:¬ 9223372036854775807 < (bstr (Lib.decDigits (n / 10))).size+(bstr [UInt8.ofNat (48+n % 10)]).size:=by
    rw [← zaq,← zaq,zdn,zdn,Lib.decDigits_length];have:=Lib.nDigits_le20 (n / 10) (by omega);simp only [List.length_cons,List.length_nil];omega
   generalize bstr [UInt8.ofNat (48+n % 10)]=S2 at *
   generalize bstr (Lib.decDigits (n / 10))=S1 at *
   have hlt:n % 10 < 10:=Nat.mod_lt _ (by omega);have hd:n / 10≤9223372036854775807:=by omega
   generalize n / 10=d at *
   generalize n % 10=r at *
   have hw:IntKind.u8.wrap (48+(r:Int))=48+r:=by simp [IntKind.wrap,IntKind.bits,IntKind.signed];omega
   have hwd:IntKind.i64.wrap (d:Int)=d:=by simp [IntKind.wrap,IntKind.bits,IntKind.signed];omega
   have hwr:IntKind.i64.wrap (r:Int)=r:=by simp [IntKind.wrap,IntKind.bits,IntKind.signed];omega
   have hws:IntKind.i64.wrap (48+(r:Int))=48+r:=by simp [IntKind.wrap,IntKind.bits,IntKind.signed];omega
   go_enter Tryz.func122,Tryz.ntmps122
   go_wp2_with fail
   refine wp_region_rel [some (.int .i64 n),some (.int .i64 d),some (.string S1),some (.int .i64 n),some (.int .i64 r),some (.int .i64 (48+r)),some (.int .u8 (48+r)),none,some (.string S2),some (.string (S1++S2)),some (.string (S1++S2))] (rdcDigit (48+r)) (by kernel_rfl) (by kernel_rfl) rfl ?hst ?hconst ?hs ?hf
   case hst =>
    intro j v w w' h hb hj;obtain ⟨g,h1,h2⟩:=h hj;exact ⟨g,h1,Below.keep hb h2⟩
   case hconst =>
    intro j v w h hj;subst hj;simp at h
   case hf =>
    intro X w5 hb _;simp only [zfb,fill_nil,tmpl_some,tmpl_none,tmpl_nil,Nat.reduceAdd,Act.put,zs1,zs3,zs2];have Hb5:Hid (Below w.heap.size w w5):=zh ⟨hb.os,hb.tape,hb.output,hb.size,hb.block⟩;clear hb;go_wp2_with fail
    go_ret;exact ⟨by rw [Hfin.out];rfl,Hb5.out⟩
   case hs =>
    simp only [zfb,fill_nil,tmpl_some,tmpl_none,tmpl_nil,Nat.reduceAdd,Act.put,zs1,zs3,zs2];refine stepsRel.cons ?_ (stepsRel.cons ?_ (stepsRel.cons ?_ (stepsRel.cons ?_ (stepsRel.cons ?_ (stepsRel.cons ?_ (stepsRel.cons ?_ (stepsRel.cons ?_ (stepsRel.cons ?_ (stepsRel.cons ?_ (stepsRel.cons ?_ stepsRel.nil))))))))))
    ·intro X w5 hb hp;clear hp;go_wp2_with fail
     exact ⟨⟨_,rfl,rfl⟩,Below.refl _ _⟩
    ·intro X w5 hb hp;clear hp;go_wp2_with fail
     exact ⟨⟨_,rfl,rfl⟩,Below.refl _ _⟩
    ·intro X w5 hb hp;clear hp;go_wp2_with fail
     go_at_call 122;refine (hc.out _).mono ?_;rintro e1 w1 ⟨rfl,hb1⟩;have Hb1:=zh hb1;clear hb1;go_wp2_with fail
     exact ⟨⟨_,rfl,rfl⟩,Hb1.out⟩
    ·intro X w5 hb hp;clear hp;go_wp2_with fail
     exact ⟨⟨_,rfl,rfl⟩,Below.refl _ _⟩
    ·intro X w5 hb hp;clear hp;go_wp2_with fail
     exact ⟨⟨_,rfl,rfl⟩,Below.refl _ _⟩
    ·intro X w5 hb hp;clear hp;go_wp2_with fail
     exact ⟨⟨_,rfl,rfl⟩,Below.refl _ _⟩
    ·intro X w5 hb hp;clear hp;go_wp2_with fail
     exact ⟨⟨_,rfl,rfl⟩,Below.refl _ _⟩
    ·intro X w5 hb hp;clear hp;go_wp2_with fail
     refine ⟨⟨_,rfl,?_⟩,(Below.refl _ _).alloc (zr _) _⟩;intro _;exact ⟨_,rfl,by rw [World.cell?_alloc_new];rfl⟩
    ·intro X w5 hb hp;obtain ⟨g,e,hg⟩:=hp 7 (by kernel_rfl) rfl;rw [e];have k1:=kc.out w5 g hg;go_wp2_with fail
     exact ⟨⟨_,rfl,rfl⟩,Below.refl _ _⟩
    ·intro X w5 hb hp;clear hp;go_wp2_with fail
     exact ⟨⟨_,rfl,rfl⟩,Below.refl _ _⟩
    ·intro X w5 hb hp;clear hp;go_wp2_with fail
     exact ⟨⟨_,rfl,rfl⟩,Below.refl _ _⟩
theorem decimal_any (n:Nat) (w:World) (hn:n≤9223372036854775807):Calls Tryz.prog 122 #[.int .i64 n] w (TxtE (Lib.decDigits n) w):=rdc_calls n n w (zr _) hn

theorem rkinds_cell {w:World} {v:Value} (h:Strs w kindWords v) {N:Nat} (h1:1≤N) (h2:N≤10):∃ b off cap,v=.slice (some ⟨b,off,none⟩) 10 cap∧w.cell? ⟨b,off+(N - 1),none⟩=some (.string (bstr (kindWords.getD (N - 1) []))):=by
 obtain ⟨a,cap,rfl,-,-,-,hc⟩:=h;obtain ⟨b,off,rfl,hh⟩:=hc (by decide);refine ⟨b,off,cap,rfl,?_⟩;rw [hh (N - 1) (by show N - 1 < 10 * 1;omega),List.getElem?_map];have:N=1∨N=2∨N=3∨N=4∨N=5∨N=6∨N=7∨N=8∨N=9∨N=10:=by omega
 rcases this with rfl | rfl | rfl | rfl | rfl | rfl | rfl | rfl | rfl | rfl <;> rfl
theorem rw_tick {w:World} {B:Nat}  {v:Value} (hL:EsL w B [] v) (hB:B≤w.heap.size) :
  Calls Tryz.prog 77 #[.agg #[.int .u8 4,.int .i64 0,.string (bstr []),v]] w (TxtE ([116,105,99,107]) w):=by
 obtain ⟨a,cap,rfl,hc1,hc2⟩:=hL.form;obtain ⟨W0,hW0,hb0,hO0⟩:∃ W0,W0=w.alloc (.cells #[.int .u8 4,.int .i64 0,.string (bstr []),.slice a 0 cap] 29)∧Below w.heap.size w W0∧OwnV W0 w.heap.size 29 [.int .u8 4,.int .i64 0,.string (bstr []),.slice a 0 cap]:=⟨_,rfl,(Below.refl _ _).alloc (zr _) _,OwnV.new _ _ _⟩;have HSt:Hid (∀ W,Calls Tryz.prog 120 #[.agg #[.int .u8 4,.int .i64 0,.string (bstr []),.slice a 0 cap]] W _):=zh (fun W=>strength_any (op:=4) (n:=0) (nm:=(bstr [])) (v:=.slice a 0 cap) (by decide) (by decide) ⟨_,_,_,rfl⟩ W);rw [show zar 4=6 by decide] at HSt;obtain ⟨TX,hTX⟩:∃ X:List UInt8,[116,105,99,107]=X:=⟨_,rfl⟩;rw [hTX];have HTX:=zh hTX;clear hTX;have HW0:=zh hW0;have HO0:=zh hO0;have Hb0:=zh hb0;have HL:=zh hL;have x0:=hO0.cell (i:=0) rfl;have x1:=hO0.cell (i:=1) rfl;have x2:=hO0.cell (i:=2) rfl;have x3:=hO0.cell (i:=3) rfl;clear hW0 hO0 hb0 hL;go_enter Tryz.func77,Tryz.ntmps77
 go_upto_region 1 with (fail)
 rw [← HW0.out];go_wp2_with fail
 go_at_call 120;refine (HSt.out _).mono ?_;rintro e1 w1 ⟨rfl,hb1⟩;have HB1:=zh (Hb0.out.trans (hb1.mono Hb0.out.size));have HO1:=zh (HO0.out.below hb1 (zr _));clear hb1 x0 x1 x2 x3;have x0:=HO1.out.cell (i:=0) rfl;clear HL HSt;have HT:Hid (bstr TX={ data:=#[116,105,99,107] }):=zh (by rw [← HTX.out];rfl);go_wp2_with fail
 exact bodyPost_ret (v:=.string ({ data:=#[116,105,99,107] })) (by simp [results,Tryz.results77,go_sem]) rfl ⟨by rw [HT.out],HB1.out⟩
theorem rw_self {w:World} {B:Nat}  {v:Value} (hL:EsL w B [] v) (hB:B≤w.heap.size) :
  Calls Tryz.prog 77 #[.agg #[.int .u8 5,.int .i64 0,.string (bstr []),v]] w (TxtE ([115,101,108,102]) w):=by
 obtain ⟨a,cap,rfl,hc1,hc2⟩:=hL.form;obtain ⟨W0,hW0,hb0,hO0⟩:∃ W0,W0=w.alloc (.cells #[.int .u8 5,.int .i64 0,.string (bstr []),.slice a 0 cap] 29)∧Below w.heap.size w W0∧OwnV W0 w.heap.size 29 [.int .u8 5,.int .i64 0,.string (bstr []),.slice a 0 cap]:=⟨_,rfl,(Below.refl _ _).alloc (zr _) _,OwnV.new _ _ _⟩;have HSt:Hid (∀ W,Calls Tryz.prog 120 #[.agg #[.int .u8 5,.int .i64 0,.string (bstr []),.slice a 0 cap]] W _):=zh (fun W=>strength_any (op:=5) (n:=0) (nm:=(bstr [])) (v:=.slice a 0 cap) (by decide) (by decide) ⟨_,_,_,rfl⟩ W);rw [show zar 5=6 by decide] at HSt;obtain ⟨TX,hTX⟩:∃ X:List UInt8,[115,101,108,102]=X:=⟨_,rfl⟩;rw [hTX];have HTX:=zh hTX;clear hTX;have HW0:=zh hW0;have HO0:=zh hO0;have Hb0:=zh hb0;have HL:=zh hL;have x0:=hO0.cell (i:=0) rfl;have x1:=hO0.cell (i:=1) rfl;have x2:=hO0.cell (i:=2) rfl;have x3:=hO0.cell (i:=3) rfl;clear hW0 hO0 hb0 hL;go_enter Tryz.func77,Tryz.ntmps77
 go_upto_region 1 with (fail)
 rw [← HW0.out];go_wp2_with fail
 go_at_call 120;refine (HSt.out _).mono ?_;rintro e1 w1 ⟨rfl,hb1⟩;have HB1:=zh (Hb0.out.trans (hb1.mono Hb0.out.size));have HO1:=zh (HO0.out.below hb1 (zr _));clear hb1 x0 x1 x2 x3;have x0:=HO1.out.cell (i:=0) rfl;clear HL HSt;have HT:Hid (bstr TX={ data:=#[115,101,108,102] }):=zh (by rw [← HTX.out];rfl);go_wp2_with fail
 exact bodyPost_ret (v:=.string ({ data:=#[115,101,108,102] })) (by simp [results,Tryz.results77,go_sem]) rfl ⟨by rw [HT.out],HB1.out⟩
theorem rw_var {w:World} {B:Nat} {name:List UInt8} {v:Value} (hL:EsL w B [] v) (hB:B≤w.heap.size) :
  Calls Tryz.prog 77 #[.agg #[.int .u8 2,.int .i64 0,.string (bstr name),v]] w (TxtE (name) w):=by
 obtain ⟨a,cap,rfl,hc1,hc2⟩:=hL.form;obtain ⟨W0,hW0,hb0,hO0⟩:∃ W0,W0=w.alloc (.cells #[.int .u8 2,.int .i64 0,.string (bstr name),.slice a 0 cap] 29)∧Below w.heap.size w W0∧OwnV W0 w.heap.size 29 [.int .u8 2,.int .i64 0,.string (bstr name),.slice a 0 cap]:=⟨_,rfl,(Below.refl _ _).alloc (zr _) _,OwnV.new _ _ _⟩;have HSt:Hid (∀ W,Calls Tryz.prog 120 #[.agg #[.int .u8 2,.int .i64 0,.string (bstr name),.slice a 0 cap]] W _):=zh (fun W=>strength_any (op:=2) (n:=0) (nm:=(bstr name)) (v:=.slice a 0 cap) (by decide) (by decide) ⟨_,_,_,rfl⟩ W);rw [show zar 2=6 by decide] at HSt;have HW0:=zh hW0;have HO0:=zh hO0;have Hb0:=zh hb0;have HL:=zh hL;have x0:=hO0.cell (i:=0) rfl;have x1:=hO0.cell (i:=1) rfl;have x2:=hO0.cell (i:=2) rfl;have x3:=hO0.cell (i:=3) rfl;clear hW0 hO0 hb0 hL;go_enter Tryz.func77,Tryz.ntmps77
 go_upto_region 1 with (fail)
 rw [← HW0.out];go_wp2_with fail
 go_at_call 120;refine (HSt.out _).mono ?_;rintro e1 w1 ⟨rfl,hb1⟩;have HB1:=zh (Hb0.out.trans (hb1.mono Hb0.out.size));have HO1:=zh (HO0.out.below hb1 (zr _));clear hb1 x0 x1 x2 x3;have x0:=HO1.out.cell (i:=0) rfl;have x2:=HO1.out.cell (i:=2) rfl;clear HL HSt;go_wp2_with fail
 exact bodyPost_ret (v:=.string (bstr name)) (by simp [results,Tryz.results77,go_sem]) rfl ⟨rfl,HB1.out⟩
theorem rw_num {w:World} {B:Nat} {N:Nat} (hN:N≤9223372036854775807) {v:Value} (hL:EsL w B [] v) (hB:B≤w.heap.size) :
  Calls Tryz.prog 77 #[.agg #[.int .u8 1,.int .i64 (N:Nat),.string (bstr []),v]] w (TxtE (Lib.decDigits N) w):=by
 obtain ⟨a,cap,rfl,hc1,hc2⟩:=hL.form;obtain ⟨W0,hW0,hb0,hO0⟩:∃ W0,W0=w.alloc (.cells #[.int .u8 1,.int .i64 (N:Nat),.string (bstr []),.slice a 0 cap] 29)∧Below w.heap.size w W0∧OwnV W0 w.heap.size 29 [.int .u8 1,.int .i64 (N:Nat),.string (bstr []),.slice a 0 cap]:=⟨_,rfl,(Below.refl _ _).alloc (zr _) _,OwnV.new _ _ _⟩;have HSt:Hid (∀ W,Calls Tryz.prog 120 #[.agg #[.int .u8 1,.int .i64 (N:Nat),.string (bstr []),.slice a 0 cap]] W _):=zh (fun W=>strength_any (op:=1) (n:=(N:Nat)) (nm:=(bstr [])) (v:=.slice a 0 cap) (by decide) (by decide) ⟨_,_,_,rfl⟩ W);rw [show zar 1=6 by decide] at HSt;obtain ⟨TX,hTX⟩:∃ X:List UInt8,Lib.decDigits N=X:=⟨_,rfl⟩;rw [hTX];have HTX:=zh hTX;clear hTX;have HW0:=zh hW0;have HO0:=zh hO0;have Hb0:=zh hb0;have HL:=zh hL;have x0:=hO0.cell (i:=0) rfl;have x1:=hO0.cell (i:=1) rfl;have x2:=hO0.cell (i:=2) rfl;have x3:=hO0.cell (i:=3) rfl;clear hW0 hO0 hb0 hL;go_enter Tryz.func77,Tryz.ntmps77
 go_upto_region 1 with (fail)
 rw [← HW0.out];go_wp2_with fail
 go_at_call 120;refine (HSt.out _).mono ?_;rintro e1 w1 ⟨rfl,hb1⟩;have HB1:=zh (Hb0.out.trans (hb1.mono Hb0.out.size));have HO1:=zh (HO0.out.below hb1 (zr _));clear hb1 x0 x1 x2 x3;have HD:=zh (decimal_any N w1 hN);unfold TxtE at HD;rw [HTX.out] at HD;have x0:=HO1.out.cell (i:=0) rfl;have x1:=HO1.out.cell (i:=1) rfl;clear HL HSt hN;go_wp2_with fail
 go_at_call 122;refine HD.out.mono ?_;rintro e2 w2 ⟨rfl,hb2⟩;have HB2:=zh (HB1.out.trans (hb2.mono HB1.out.size));clear hb2 x0 x1;go_wp2_with fail
 exact bodyPost_ret (v:=.string (bstr TX)) (by simp [results,Tryz.results77,go_sem]) rfl ⟨rfl,HB2.out⟩
theorem rw_rand {w:World} {B:Nat} {y:Ex} (h0:WrR B y) (hz0:(zab y).length≤1000000000000000) {v:Value} (hL:EsL w B [y] v) (hB:B≤w.heap.size) :
  Calls Tryz.prog 77 #[.agg #[.int .u8 6,.int .i64 0,.string (bstr []),v]] w (TxtE ([114,97,110,100]++[40]++zab y++[41]) w):=by
 obtain ⟨a,cap,rfl,hc1,hc2⟩:=hL.form;obtain ⟨W0,hW0,hb0,hO0⟩:∃ W0,W0=w.alloc (.cells #[.int .u8 6,.int .i64 0,.string (bstr []),.slice a 1 cap] 29)∧Below w.heap.size w W0∧OwnV W0 w.heap.size 29 [.int .u8 6,.int .i64 0,.string (bstr []),.slice a 1 cap]:=⟨_,rfl,(Below.refl _ _).alloc (zr _) _,OwnV.new _ _ _⟩;have HSt:Hid (∀ W,Calls Tryz.prog 120 #[.agg #[.int .u8 6,.int .i64 0,.string (bstr []),.slice a 1 cap]] W _):=zh (fun W=>strength_any (op:=6) (n:=0) (nm:=(bstr [])) (v:=.slice a 1 cap) (by decide) (by decide) ⟨_,_,_,rfl⟩ W);rw [show zar 6=6 by decide] at HSt;obtain ⟨TX,hTX⟩:∃ X:List UInt8,[114,97,110,100]++[40]++zab y++[41]=X:=⟨_,rfl⟩;rw [hTX];have HTX:=zh hTX;clear hTX;have HW0:=zh hW0;have HO0:=zh hO0;have Hb0:=zh hb0;have HL:=zh hL;have x0:=hO0.cell (i:=0) rfl;have x1:=hO0.cell (i:=1) rfl;have x2:=hO0.cell (i:=2) rfl;have x3:=hO0.cell (i:=3) rfl;clear hW0 hO0 hb0 hL;go_enter Tryz.func77,Tryz.ntmps77
 go_upto_region 1 with (fail)
 rw [← HW0.out];go_wp2_with fail
 go_at_call 120;refine (HSt.out _).mono ?_;rintro e1 w1 ⟨rfl,hb1⟩;have HB1:=zh (Hb0.out.trans (hb1.mono Hb0.out.size));have HO1:=zh (HO0.out.below hb1 (zr _));clear hb1 x0 x1 x2 x3;have hsz:B≤w1.heap.size:=Nat.le_trans hB HB1.out.size;have hL1:=HL.out.low (HB1.out.mono hB);obtain ⟨b,off,op0,n0,nm0,as0,aa0,ac0,rfl,hbB,hbw,hy0,c0,c1,c2,c3,hA0⟩:=hL1.at (k:=0) (by simp);cases hy0;obtain ⟨S0,hS0⟩:∃ S,bstr (zab (.mk op0 n0 nm0 as0))=S:=⟨_,rfl⟩;have hln0:S0.size≤1000000000000010:=by rw [← hS0,zaC];exact Nat.le_trans hz0 (by decide)
 have HA0:Hid (∀ W,Below w1.heap.size w1 W→Calls Tryz.prog 77 #[.agg #[.int .u8 op0,.int .i64 n0,.string (bstr nm0),.slice aa0 as0.length ac0]] W fun e w'=>e=.returned (.string S0)∧Below W.heap.size W w'):=zh (fun W hb=>by rw [← hS0];exact h0 op0 n0 nm0 as0 _ W rfl (Nat.le_trans hsz hb.size) (hA0.low (hb.mono hsz)));simp only [Nat.zero_mul,Nat.add_zero,Nat.one_mul] at c0 c1 c2 c3
 have HT:Hid (bstr TX=({ data:=#[114,97,110,100,40] }++S0)++{ data:=#[41] }):=zh (by
  rw [← HTX.out,← hS0,show ({ data:=#[114,97,110,100,40] }:ByteArray)=bstr [114,97,110,100,40] from rfl,show ({ data:=#[41] }:ByteArray)=bstr [41] from rfl]
  simp [zax])
 have x0:=HO1.out.cell (i:=0) rfl;have x3:=HO1.out.cell (i:=3) rfl;clear HL HSt hS0 hL1 hA0 h0 hz0;go_wp2_with fail
 go_at_call 77;refine (HA0.out _ (Below.refl _ _)).mono ?_;rintro e2 w2 ⟨rfl,hb2⟩;have HB2:=zh (HB1.out.trans (hb2.mono HB1.out.size));clear hb2 x0 x3 c0 c1 c2 c3;go_wp2_with fail
 exact bodyPost_ret (v:=.string (({ data:=#[114,97,110,100,40] }++S0)++{ data:=#[41] })) (by simp [results,Tryz.results77,go_sem]) rfl ⟨by rw [HT.out],HB2.out⟩
theorem rw_abs {w:World} {B:Nat} {y:Ex} (h0:WrR B y) (hz0:(zab y).length≤1000000000000000) {v:Value} (hL:EsL w B [y] v) (hB:B≤w.heap.size) :
  Calls Tryz.prog 77 #[.agg #[.int .u8 9,.int .i64 0,.string (bstr []),v]] w (TxtE ([97,98,115]++[40]++zab y++[41]) w):=by
 obtain ⟨a,cap,rfl,hc1,hc2⟩:=hL.form;obtain ⟨W0,hW0,hb0,hO0⟩:∃ W0,W0=w.alloc (.cells #[.int .u8 9,.int .i64 0,.string (bstr []),.slice a 1 cap] 29)∧Below w.heap.size w W0∧OwnV W0 w.heap.size 29 [.int .u8 9,.int .i64 0,.string (bstr []),.slice a 1 cap]:=⟨_,rfl,(Below.refl _ _).alloc (zr _) _,OwnV.new _ _ _⟩;have HSt:Hid (∀ W,Calls Tryz.prog 120 #[.agg #[.int .u8 9,.int .i64 0,.string (bstr []),.slice a 1 cap]] W _):=zh (fun W=>strength_any (op:=9) (n:=0) (nm:=(bstr [])) (v:=.slice a 1 cap) (by decide) (by decide) ⟨_,_,_,rfl⟩ W);rw [show zar 9=6 by decide] at HSt;obtain ⟨TX,hTX⟩:∃ X:List UInt8,[97,98,115]++[40]++zab y++[41]=X:=⟨_,rfl⟩;rw [hTX];have HTX:=zh hTX;clear hTX;have HW0:=zh hW0;have HO0:=zh hO0;have Hb0:=zh hb0;have HL:=zh hL;have x0:=hO0.cell (i:=0) rfl;have x1:=hO0.cell (i:=1) rfl;have x2:=hO0.cell (i:=2) rfl;have x3:=hO0.cell (i:=3) rfl;clear hW0 hO0 hb0 hL;go_enter Tryz.func77,Tryz.ntmps77
 go_upto_region 1 with (fail)
 rw [← HW0.out];go_wp2_with fail
 go_at_call 120;refine (HSt.out _).mono ?_;rintro e1 w1 ⟨rfl,hb1⟩;have HB1:=zh (Hb0.out.trans (hb1.mono Hb0.out.size));have HO1:=zh (HO0.out.below hb1 (zr _));clear hb1 x0 x1 x2 x3;have hsz:B≤w1.heap.size:=Nat.le_trans hB HB1.out.size;have hL1:=HL.out.low (HB1.out.mono hB);obtain ⟨b,off,op0,n0,nm0,as0,aa0,ac0,rfl,hbB,hbw,hy0,c0,c1,c2,c3,hA0⟩:=hL1.at (k:=0) (by simp);cases hy0;obtain ⟨S0,hS0⟩:∃ S,bstr (zab (.mk op0 n0 nm0 as0))=S:=⟨_,rfl⟩;have hln0:S0.size≤1000000000000010:=by rw [← hS0,zaC];exact Nat.le_trans hz0 (by decide)
 have HA0:Hid (∀ W,Below w1.heap.size w1 W→Calls Tryz.prog 77 #[.agg #[.int .u8 op0,.int .i64 n0,.string (bstr nm0),.slice aa0 as0.length ac0]] W fun e w'=>e=.returned (.string S0)∧Below W.heap.size W w'):=zh (fun W hb=>by rw [← hS0];exact h0 op0 n0 nm0 as0 _ W rfl (Nat.le_trans hsz hb.size) (hA0.low (hb.mono hsz)));simp only [Nat.zero_mul,Nat.add_zero,Nat.one_mul] at c0 c1 c2 c3
 have HT:Hid (bstr TX=({ data:=#[97,98,115,40] }++S0)++{ data:=#[41] }):=zh (by
  rw [← HTX.out,← hS0,show ({ data:=#[97,98,115,40] }:ByteArray)=bstr [97,98,115,40] from rfl,show ({ data:=#[41] }:ByteArray)=bstr [41] from rfl]
  simp [zax])
 have x0:=HO1.out.cell (i:=0) rfl;have x3:=HO1.out.cell (i:=3) rfl;clear HL HSt hS0 hL1 hA0 h0 hz0;go_wp2_with fail
 go_at_call 77;refine (HA0.out _ (Below.refl _ _)).mono ?_;rintro e2 w2 ⟨rfl,hb2⟩;have HB2:=zh (HB1.out.trans (hb2.mono HB1.out.size));clear hb2 x0 x3 c0 c1 c2 c3;go_wp2_with fail
 exact bodyPost_ret (v:=.string (({ data:=#[97,98,115,40] }++S0)++{ data:=#[41] })) (by simp [results,Tryz.results77,go_sem]) rfl ⟨by rw [HT.out],HB2.out⟩
theorem rw_neg {w:World} {B:Nat} {y:Ex} (ho0:1≤opE y∧opE y≤24) (h0:WrR B y) (hz0:(zab y).length≤1000000000000000) {v:Value} (hL:EsL w B [y] v) (hB:B≤w.heap.size) :
  Calls Tryz.prog 77 #[.agg #[.int .u8 7,.int .i64 0,.string (bstr []),v]] w (TxtE ([45]++zak y 6) w):=by
 obtain ⟨a,cap,rfl,hc1,hc2⟩:=hL.form;obtain ⟨W0,hW0,hb0,hO0⟩:∃ W0,W0=w.alloc (.cells #[.int .u8 7,.int .i64 0,.string (bstr []),.slice a 1 cap] 29)∧Below w.heap.size w W0∧OwnV W0 w.heap.size 29 [.int .u8 7,.int .i64 0,.string (bstr []),.slice a 1 cap]:=⟨_,rfl,(Below.refl _ _).alloc (zr _) _,OwnV.new _ _ _⟩;have HSt:Hid (∀ W,Calls Tryz.prog 120 #[.agg #[.int .u8 7,.int .i64 0,.string (bstr []),.slice a 1 cap]] W _):=zh (fun W=>strength_any (op:=7) (n:=0) (nm:=(bstr [])) (v:=.slice a 1 cap) (by decide) (by decide) ⟨_,_,_,rfl⟩ W);rw [show zar 7=6 by decide] at HSt;obtain ⟨TX,hTX⟩:∃ X:List UInt8,[45]++zak y 6=X:=⟨_,rfl⟩;rw [hTX];have HTX:=zh hTX;clear hTX;have HW0:=zh hW0;have HO0:=zh hO0;have Hb0:=zh hb0;have HL:=zh hL;have x0:=hO0.cell (i:=0) rfl;have x1:=hO0.cell (i:=1) rfl;have x2:=hO0.cell (i:=2) rfl;have x3:=hO0.cell (i:=3) rfl;clear hW0 hO0 hb0 hL;go_enter Tryz.func77,Tryz.ntmps77
 go_upto_region 1 with (fail)
 rw [← HW0.out];go_wp2_with fail
 go_at_call 120;refine (HSt.out _).mono ?_;rintro e1 w1 ⟨rfl,hb1⟩;have HB1:=zh (Hb0.out.trans (hb1.mono Hb0.out.size));have HO1:=zh (HO0.out.below hb1 (zr _));clear hb1 x0 x1 x2 x3;have hsz:B≤w1.heap.size:=Nat.le_trans hB HB1.out.size;have hL1:=HL.out.low (HB1.out.mono hB);obtain ⟨b,off,op0,n0,nm0,as0,aa0,ac0,rfl,hbB,hbw,hy0,c0,c1,c2,c3,hA0⟩:=hL1.at (k:=0) (by simp);cases hy0;obtain ⟨S0,hS0⟩:∃ S,bstr (zak (.mk op0 n0 nm0 as0) (6))=S:=⟨_,rfl⟩;have hln0:S0.size≤1000000000000010:=by rw [← hS0,zaC];have:=zkr (.mk op0 n0 nm0 as0) (6);omega
 have HA0:Hid (∀ W,Below w1.heap.size w1 W→Calls Tryz.prog 121 #[.agg #[.int .u8 op0,.int .i64 n0,.string (bstr nm0),.slice aa0 as0.length ac0],.int .i64 (6:Nat)] W fun e w'=>e=.returned (.string S0)∧Below W.heap.size W w'):=zh (fun W hb=>by rw [← hS0];exact rpart_any ho0.1 ho0.2 (by decide) hz0 h0 (Nat.le_trans hsz hb.size) (hA0.low (hb.mono hsz)));simp only [Nat.zero_mul,Nat.add_zero,Nat.one_mul] at c0 c1 c2 c3
 have HT:Hid (bstr TX={ data:=#[45] }++S0):=zh (by
  rw [← HTX.out,← hS0,show ({ data:=#[45] }:ByteArray)=bstr [45] from rfl]
  simp [zax])
 have x0:=HO1.out.cell (i:=0) rfl;have x3:=HO1.out.cell (i:=3) rfl;clear HL HSt hS0 hL1 hA0 h0 hz0 ho0;go_wp2_with fail
 go_at_call 121;refine (HA0.out _ (Below.refl _ _)).mono ?_;rintro e2 w2 ⟨rfl,hb2⟩;have HB2:=zh (HB1.out.trans (hb2.mono HB1.out.size));clear hb2 x0 x3 c0 c1 c2 c3;go_wp2_with fail
 exact bodyPost_ret (v:=.string ({ data:=#[45] }++S0)) (by simp [results,Tryz.results77,go_sem]) rfl ⟨by rw [HT.out],HB2.out⟩
theorem rw_not {w:World} {B:Nat} {y:Ex} (ho0:1≤opE y∧opE y≤24) (h0:WrR B y) (hz0:(zab y).length≤1000000000000000) {v:Value} (hL:EsL w B [y] v) (hB:B≤w.heap.size) :
  Calls Tryz.prog 77 #[.agg #[.int .u8 8,.int .i64 0,.string (bstr []),v]] w (TxtE ([33]++zak y 6) w):=by
 obtain ⟨a,cap,rfl,hc1,hc2⟩:=hL.form;obtain ⟨W0,hW0,hb0,hO0⟩:∃ W0,W0=w.alloc (.cells #[.int .u8 8,.int .i64 0,.string (bstr []),.slice a 1 cap] 29)∧Below w.heap.size w W0∧OwnV W0 w.heap.size 29 [.int .u8 8,.int .i64 0,.string (bstr []),.slice a 1 cap]:=⟨_,rfl,(Below.refl _ _).alloc (zr _) _,OwnV.new _ _ _⟩;have HSt:Hid (∀ W,Calls Tryz.prog 120 #[.agg #[.int .u8 8,.int .i64 0,.string (bstr []),.slice a 1 cap]] W _):=zh (fun W=>strength_any (op:=8) (n:=0) (nm:=(bstr [])) (v:=.slice a 1 cap) (by decide) (by decide) ⟨_,_,_,rfl⟩ W);rw [show zar 8=6 by decide] at HSt;obtain ⟨TX,hTX⟩:∃ X:List UInt8,[33]++zak y 6=X:=⟨_,rfl⟩;rw [hTX];have HTX:=zh hTX;clear hTX;have HW0:=zh hW0;have HO0:=zh hO0;have Hb0:=zh hb0;have HL:=zh hL;have x0:=hO0.cell (i:=0) rfl;have x1:=hO0.cell (i:=1) rfl;have x2:=hO0.cell (i:=2) rfl;have x3:=hO0.cell (i:=3) rfl;clear hW0 hO0 hb0 hL;go_enter Tryz.func77,Tryz.ntmps77
 go_upto_region 1 with (fail)
 rw [← HW0.out];go_wp2_with fail
 go_at_call 120;refine (HSt.out _).mono ?_;rintro e1 w1 ⟨rfl,hb1⟩;have HB1:=zh (Hb0.out.trans (hb1.mono Hb0.out.size));have HO1:=zh (HO0.out.below hb1 (zr _));clear hb1 x0 x1 x2 x3;have hsz:B≤w1.heap.size:=Nat.le_trans hB HB1.out.size;have hL1:=HL.out.low (HB1.out.mono hB);obtain ⟨b,off,op0,n0,nm0,as0,aa0,ac0,rfl,hbB,hbw,hy0,c0,c1,c2,c3,hA0⟩:=hL1.at (k:=0) (by simp);cases hy0;obtain ⟨S0,hS0⟩:∃ S,bstr (zak (.mk op0 n0 nm0 as0) (6))=S:=⟨_,rfl⟩;have hln0:S0.size≤1000000000000010:=by rw [← hS0,zaC];have:=zkr (.mk op0 n0 nm0 as0) (6);omega
 have HA0:Hid (∀ W,Below w1.heap.size w1 W→Calls Tryz.prog 121 #[.agg #[.int .u8 op0,.int .i64 n0,.string (bstr nm0),.slice aa0 as0.length ac0],.int .i64 (6:Nat)] W fun e w'=>e=.returned (.string S0)∧Below W.heap.size W w'):=zh (fun W hb=>by rw [← hS0];exact rpart_any ho0.1 ho0.2 (by decide) hz0 h0 (Nat.le_trans hsz hb.size) (hA0.low (hb.mono hsz)));simp only [Nat.zero_mul,Nat.add_zero,Nat.one_mul] at c0 c1 c2 c3
 have HT:Hid (bstr TX={ data:=#[33] }++S0):=zh (by
  rw [← HTX.out,← hS0,show ({ data:=#[33] }:ByteArray)=bstr [33] from rfl]
  simp [zax])
 have x0:=HO1.out.cell (i:=0) rfl;have x3:=HO1.out.cell (i:=3) rfl;clear HL HSt hS0 hL1 hA0 h0 hz0 ho0;go_wp2_with fail
 go_at_call 121;refine (HA0.out _ (Below.refl _ _)).mono ?_;rintro e2 w2 ⟨rfl,hb2⟩;have HB2:=zh (HB1.out.trans (hb2.mono HB1.out.size));clear hb2 x0 x3 c0 c1 c2 c3;go_wp2_with fail
 exact bodyPost_ret (v:=.string ({ data:=#[33] }++S0)) (by simp [results,Tryz.results77,go_sem]) rfl ⟨by rw [HT.out],HB2.out⟩
end Go.Proofs.YtoaojdobjinhfaaGreatDoor
