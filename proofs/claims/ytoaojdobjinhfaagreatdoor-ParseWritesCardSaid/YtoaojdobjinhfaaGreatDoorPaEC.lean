/- The program's parser: what unary hands to opened, walked. -/
import Derived.Test.YtoaojdobjinhfaaGreatDoorPaAC
import Derived.Test.YtoaojdobjinhfaaGreatDoorParOkC
import Derived.Test.YtoaojdobjinhfaaGreatDoorRParIC
import Derived.Test.YtoaojdobjinhfaaGreatDoorRegion7C
import Derived.Deep.RegionWith
import Derived.LoopN
import Derived.Shelf.Abstract
import Derived.KernelRfl
set_option linter.unusedSimpArgs false
set_option linter.unusedVariables false
set_option maxRecDepth 100000
set_option maxHeartbeats 2000000
namespace Go.Proofs.YtoaojdobjinhfaaGreatDoor
open Go.RowKit

def ExN (m : Nat) (W : World) (x : Ex) (u : Value) : Prop := ExV W (fun b => m ≤ b) x u
def ExBox (m gx : Nat) (W : World) (x : Ex) : Prop := ∃ cs, OwnV W gx 29 cs ∧ ExsC W (fun b => m ≤ b ∧ b ≠ gx) [x] cs
theorem Turns.alloc {p:Nat} {a b:World} (h:Turns p a b) (x:Obj):Turns p a (b.alloc x):=Only.alloc h x
theorem Turns.grown {p:Nat} {w w':World} (h:Turns p w w'):w.grownBy w' (some p):=⟨h.os,h.tape,h.output,h.size,fun k hk hne=>h.block k hk (fun e=>hne (by rw [e]))⟩
theorem ExN.turns {m p:Nat} {W W':World} {x:Ex} {u:Value} (h:ExN m W x u) (ht:Turns p W W') (hp:p < m):ExN m W' x u:=by
 obtain ⟨cs,e,hX⟩:=h;exact ⟨cs,e,hX.grown ht.grown (fun g e h=>by cases e;omega)⟩
theorem ExBox.turns {m gx p:Nat} {W W':World} {x:Ex} (h:ExBox m gx W x) (ht:Turns p W W') (hp:p < m) (hg:gx≠p):ExBox m gx W' x:=by
 obtain ⟨cs,hO,hX⟩:=h;exact ⟨cs,ht.own hO hg,hX.grown ht.grown (fun g e h=>by cases e;omega)⟩
theorem PSt.drew {w:World} {p:Nat} {v:Value} {l:List Tok} {i o:Nat} (h:PSt w p v l i o):PSt w.drew p v l i o:=h.below (Below.refl _ _).drew
theorem ExsC.form1 {w:World} {P:Nat→Prop} {op n:Int} {name:List UInt8} {args:List Ex} {cs:List Value} (h:ExsC w P [.mk op n name args] cs):∃ aa cap,cs=[.int .u8 op,.int .i64 n,.string (bstr name),.slice aa args.length cap]:=by
 obtain ⟨op',n',name',args',aa,cap,e,rfl⟩:=h.one;cases e;exact ⟨aa,cap,rfl⟩
theorem zjD {w4:World} {m gx:Nat} {op:Int} {xs:List Ex} {cs:List Value} {c0 c1 c2 c3:Value} (hO:OwnV w4 gx 29 [c0,c1,c2,c3]) (hX:ExsC w4 (fun b=>m≤b∧b≠gx) xs cs) (hm:m≤w4.heap.size) (hl:xs.length≤1000) :
  ExBox m gx (((((w4.alloc (.cells cs.toArray 29)).setCell ⟨gx,0,none⟩ (.int .u8 op)).setCell ⟨gx,1,none⟩ (.int .i64 0)).setCell ⟨gx,2,none⟩ (.string { data:=#[] })).setCell ⟨gx,3,none⟩ (.slice (some ⟨w4.heap.size,0,none⟩) xs.length xs.length)) (.mk op 0 [] xs):=by
 have hlt:=hO.lt;have hb:Below w4.heap.size w4 (w4.alloc (.cells cs.toArray 29)):=(Below.refl _ _).alloc (zr _) _;obtain ⟨W6,hW6,hX6,hg6⟩:=set4 (hO.alloc (.cells cs.toArray 29)) (.int .u8 op) (.int .i64 0) (.string { data:=#[] }) (.slice (some ⟨w4.heap.size,0,none⟩) xs.length xs.length);rw [← hW6];exact ⟨_,hX6,zjJ hb (OwnV.new _ _ _) hX hm (by omega) hl hg6⟩
theorem ExBox.drew {m gx:Nat} {W:World} {x:Ex} (h:ExBox m gx W x):ExBox m gx W.drew x:=by
 obtain ⟨cs,hO,hX⟩:=h;exact ⟨cs,hO,hX.under (B:=W.heap.size) (Below.refl _ _).drew (zr _)⟩
theorem zj6 {w:World} {p gs bp gx m:Nat} {v:Value} {l:List Tok} {o:Nat} {s:ByteArray} {op:Int} {c0 c1 c2 c3:Value} (hgs:OwnV w gs 155 [.string s,.int .u8 op]) (hbp:OwnV w bp 72 [.pointer (some ⟨p,0,none⟩)]) (hgx:OwnV w gx 29 [c0,c1,c2,c3])
  (hp:p < m) (hm:m≤w.heap.size) (h1:gs≠p) (h2:bp≠p) (h3:gx≠p) (h4:gs≠gx) (h5:bp≠gx) (h6:∀ b,v.ownBlock=some b→b≠gx) (R:PR Ex)
  (hU:∀ W,Below w.heap.size w W→Calls Tryz.prog 134 #[.pointer (some ⟨p,0,none⟩)] W (RdE l p v o W (ExN W.heap.size) R)) :
  Calls Tryz.prog 158 #[.pointer (some ⟨gs,0,none⟩),.pointer (some ⟨bp,0,none⟩),.pointer (some ⟨gx,0,none⟩)] w (OpE l p v o (fun b=>b=p∨b=gx) w (ExBox m gx) (R.map fun x=>.mk op 0 [] [x])):=by
 have x1:=hgs.cell (i:=1) rfl;have y0:=hbp.cell (i:=0) rfl;have HU:=zh hU;clear hU
 cases R with
 | err a c =>
  go_enter Tryz.func158,Tryz.ntmps158
  go_wp2_with fail
  refine zeL [0,0,0,1,2,2,2] (fun w'=>Below w.heap.size w w') (by kernel_rfl) (by kernel_rfl) ((Below.refl _ _).drew) ?_;try simp only [Act.put,zs1,zs3,zs2]
  apply stepsDie.val
  ·intro w' hb1;have Hb1':=zh hb1;have x1':=Below.keep hb1 x1;have y0':=Below.keep hb1 y0;try simp only [Act.put,zs1,zs3,zs2]
   go_wp2;first | exact ⟨rfl,Hb1'.out⟩ | exact ⟨rfl,Hb1'.out.alloc Hb1'.out.size _⟩
  try simp only [Act.put,zs1,zs3,zs2]
  apply stepsDie.val
  ·intro w' hb1;have Hb1':=zh hb1;have x1':=Below.keep hb1 x1;have y0':=Below.keep hb1 y0;try simp only [Act.put,zs1,zs3,zs2]
   go_wp2;first | exact ⟨rfl,Hb1'.out⟩ | exact ⟨rfl,Hb1'.out.alloc Hb1'.out.size _⟩
  try simp only [Act.put,zs1,zs3,zs2]
  apply stepsDie.val
  ·intro w' hb1;have Hb1':=zh hb1;have x1':=Below.keep hb1 x1;have y0':=Below.keep hb1 y0;try simp only [Act.put,zs1,zs3,zs2]
   go_wp2;first | exact ⟨rfl,Hb1'.out⟩ | exact ⟨rfl,Hb1'.out.alloc Hb1'.out.size _⟩
  try simp only [Act.put,zs1,zs3,zs2]
  apply stepsDie.die
  ·intro w' hb1;have Hb1':=zh hb1;have x1':=Below.keep hb1 x1;have y0':=Below.keep hb1 y0;try simp only [Act.put,zs1,zs3,zs2]
   go_wp2_with fail
   (go_at_call 134;refine (HU.out _ Hb1'.out).mono ?_;rintro e4 w4 ⟨he4,hT4⟩;unfold Bad at he4;subst he4;exact fun a ha=>⟨ha,rfl,((Turns.below Hb1'.out).trans hT4).mono (fun _ _ e=>.inl e)⟩)
  apply stepsDie.skip;apply stepsDie.skip;apply stepsDie.skip
  exact stepsDie.done
 | ok x j =>
  obtain ⟨op2,n2,name2,args2⟩:=x;have HG:=zh hgx;have HS:=zh hgs;have HR:=zh hbp;clear hgx hgs hbp;go_enter Tryz.func158,Tryz.ntmps158
  go_wp2_with fail
  go_region_with ((go_at_call 134;refine (HU.out _ (Below.refl _ _).drew).mono ?_;rintro e4 w4 ⟨u4,rfl,⟨cs4,rfl,hX4⟩,hP4,hT4⟩;obtain ⟨aa,acap,rfl⟩:=hX4.form1;have hT:=(Turns.below (p:=p) (Below.refl w.heap.size w).drew).trans hT4;have hO4:=hT.own HG.out h3;have x1:=(hT.own HS.out h1).cell (i:=1) rfl;have y0:=(hT.own HR.out h2).cell (i:=0) rfl;have hOa:=hO4.alloc (.cells #[.int .u8 op2,.int .i64 n2,.string (bstr name2),.slice aa args2.length acap] 29);have z0:=hOa.cell (i:=0) rfl;have z1:=hOa.cell (i:=1) rfl;have z2:=hOa.cell (i:=2) rfl;have z3:=hOa.cell (i:=3) rfl;have zf:=hOa.free;have l1:=(hT.own HS.out h1).lt))
  all_goals
   go_wp2_with fail
   have hsz:w.heap.size≤w4.heap.size:=hT.size;have hXw:ExsC w4 (fun b=>m≤b∧b≠gx) [.mk op2 n2 name2 args2] [.int .u8 op2,.int .i64 n2,.string (bstr name2),.slice aa args2.length acap]:=hX4.weak fun g _ h=>⟨Nat.le_trans hm h,fun e=>by have:=HG.out.lt;have h':w.heap.size≤g:=h;omega⟩
   refine bodyPost_ret (results_none rfl _ _ _) rfl ⟨rfl,?_,?_,?_⟩
   ·have hB:=zjD (op:=op) hO4 hXw (by omega) (by simp);exact hB
   ·exact hP4.only (S:=fun b=>b=gx) ((((((Turns.refl gx w4).alloc _).set _ _).set _ _).set _ _).set _ _) (fun e=>h3 e.symm) (fun b hb=>h6 b hb)
   ·exact ((((Only.alloc (hT.mono (fun _ _ e=>.inl e)) _).setCell (.inr (.inr rfl)) _).setCell (.inr (.inr rfl)) _).setCell (.inr (.inr rfl)) _).setCell (.inr (.inr rfl)) _
theorem zhp (caps:Array Value) (W:World):(callFunc 158 caps).run Tryz.prog W=.ok (.enter 158 caps) W:=(enters_of (P:=Tryz.prog) Tryz.func158 (by kernel_rfl) rfl) caps W
theorem zg6 {W:World} {p bs b0 gx m:Nat} {v:Value} {l:List Tok} {i o:Nat} (h:PSt W p v l i o) (hE:PEnv l) (ho:o≤300) (s:List UInt8) (op:Int) (hbs:OwnV W bs 155 [.string (bstr s),.int .u8 op]) (hb0:OwnV W b0 72 [.pointer (some ⟨p,0,none⟩)]) {c0 c1 c2 c3:Value} (hgx:OwnV W gx 29 [c0,c1,c2,c3])
  (hp:p < m) (hv:∀ b,v.ownBlock=some b→b < m) (m1:m≤bs) (m2:m≤b0) (m3:m≤gx) (n1:bs≠gx) (n2:b0≠gx) (R:PR Ex)
  (hU:isS l i s=true→o < 200→∀ W',PSt W' p v l (i+1) (o+1)→Calls Tryz.prog 134 #[.pointer (some ⟨p,0,none⟩)] W' (RdE l p v (o+1) W' (ExN W'.heap.size) R)) :
  Calls Tryz.prog 151 #[.pointer (some ⟨p,0,none⟩),.string (bstr s),.func (.func 158) #[] #[.pointer (some ⟨bs,0,none⟩),.pointer (some ⟨b0,0,none⟩),.pointer (some ⟨gx,0,none⟩)]] W
   (OpE l p v o (fun b=>b=p∨b=gx) W (ExBox m gx) ((zay l i s o).andThen fun _ _=>R.map fun x=>.mk op 0 [] [x])):=by
 refine zdz h hE ho s _ _ (fun b=>b=p∨b=gx) (.inl rfl) (ExBox m gx) (fun W W' x hx ht=>hx.turns ht hp (by omega)) _ (zhp _) ?_;intro hi ho2 W' ht hP;have hsz:=ht.size;have hlt:=hgx.lt;exact zj6 (ht.own hbs (by omega)) (ht.own hb0 (by omega)) (ht.own hgx (by omega)) hp (by omega) (by omega) (by omega) (by omega) n1 n2 (fun b hb=>by have:=hv b hb;omega) R (fun W'' hb=>hU hi ho2 W'' (hP.below hb))
theorem zao {w:World} {p:Nat} {v:Value} {l:List Tok} {i o:Nat} (h:PSt w p v l i o):∀ b,v.ownBlock=some b→b < w.heap.size:=by
 intro b hb;obtain ⟨a,cap,rfl,-,-⟩:=Sl.form h.toks;obtain ⟨b',off,rfl,c0,-⟩:=zaF h.toks h.here;cases hb;have:=World.block_lt_of_cell? w _ c0;exact this
theorem zj7 {l:List Tok} {p:Nat} {v:Value} (hE:PEnv l) (E:Nat→Nat→Nat→PR Ex):∀ (f i o:Nat) (w:World),l.length - i < f→o≤300→PSt w p v l i o →
  (∀ j o' W,i≤j→o'≤300→PSt W p v l j o'→Calls Tryz.prog 159 #[.pointer (some ⟨p,0,none⟩)] W (RdE l p v o' W (ExN W.heap.size) (zah l E j o'))) →
  Calls Tryz.prog 134 #[.pointer (some ⟨p,0,none⟩)] w (RdE l p v o w (ExN w.heap.size) (zas l E f i o)):=by
 intro f
 induction f with
 | zero=>intro i o w h;omega
 | succ f ih =>
 intro i o w hf ho h hO;have hp:=h.lt;have hv:=zao h;have hih:∀ W',PSt W' p v l (i+1) (o+1)→o < 200→Calls Tryz.prog 134 #[.pointer (some ⟨p,0,none⟩)] W' (RdE l p v (o+1) W' (ExN W'.heap.size) (zas l E f (i+1) (o+1))):=fun W' hP ho2=>ih (i+1) (o+1) W' (by have:=hP.here;omega) (by omega) hP (fun j o' W hj h1 h2=>hO j o' W (by omega) h1 h2)
 have HIH:=zh hih;obtain ⟨q1,hq1⟩:∃ q,isS l i [45]=q:=⟨_,rfl⟩;obtain ⟨q2,hq2⟩:∃ q,isS l i [33]=q:=⟨_,rfl⟩
 have hno:q1=true→q2=false:=by
  intro h1
  cases h2:q2 with
  | false=>rfl
  | true =>
   rw [h1] at hq1;rw [h2] at hq2;have e1:=(zcT hq1).2;rw [(zcT hq2).2] at e1;cases e1
 have HI1:Hid (∀ w',Below w.heap.size w w'→Calls Tryz.prog 154 #[.pointer (some ⟨p,0,none⟩),.string { data:=#[45] }] w' fun e w''=>e=.returned (.bool q1)∧Below w'.heap.size w' w''):=zh (fun (w':World) (hb:Below w.heap.size w w')=>by have:=zbo (h.below hb) hE [45];rw [hq1] at this;exact this);have HI2:Hid (∀ w',Below w.heap.size w w'→Calls Tryz.prog 154 #[.pointer (some ⟨p,0,none⟩),.string { data:=#[33] }] w' fun e w''=>e=.returned (.bool q2)∧Below w'.heap.size w' w''):=zh (fun (w':World) (hb:Below w.heap.size w w')=>by have:=zbo (h.below hb) hE [33];rw [hq2] at this;exact this);have H:=zh h;obtain ⟨W0,hW0,hb0,hA0,hB0,hs0⟩:=opened w [.pointer (some ⟨p,0,none⟩)] zeroE 72 29;obtain ⟨W1,hW1,hb1,hC1⟩:∃ W1,W1=W0.alloc (.cells #[.string { data:=#[45] },.int .u8 7,.string { data:=#[33] },.int .u8 8] 155)∧Below w.heap.size w W1∧OwnV W1 W0.heap.size 155 [.string { data:=#[45] },.int .u8 7,.string { data:=#[33] },.int .u8 8]:=⟨_,rfl,hb0.alloc hb0.size _,OwnV.new _ _ _⟩;have hA1:OwnV W1 w.heap.size 72 [.pointer (some ⟨p,0,none⟩)]:=by rw [hW1];exact hA0.alloc _
 have hB1:OwnV W1 (w.heap.size+1) 29 zeroE:=by rw [hW1];exact hB0.alloc _
 have hlt1:W0.heap.size < W1.heap.size:=hC1.lt;obtain ⟨W2,hW2,hb2,hD2⟩:∃ W2,W2=W1.alloc (.cells #[.string { data:=#[45] },.int .u8 7] 155)∧Below w.heap.size w W2∧OwnV W2 W1.heap.size 155 [.string { data:=#[45] },.int .u8 7]:=⟨_,rfl,hb1.alloc hb1.size _,OwnV.new _ _ _⟩;have hb12:Below W1.heap.size W1 W2:=by rw [hW2];exact (Below.refl _ _).alloc (zr _) _
 have hA2:=hA1.below hb12 (zr _);have hB2:=hB1.below hb12 (zr _);have hC2:=hC1.below hb12 (zr _);have HA2:=zh hA2;have HB2:=zh hB2;have HC2:=zh hC2;have HD2:=zh hD2;have c10:=hC1.cell (i:=0) rfl;have c11:=hC1.cell (i:=1) rfl;have a20:=hA2.cell (i:=0) rfl;have d20:=hD2.cell (i:=0) rfl;have HW0:=zh hW0;have HW1:=zh hW1;have HW2:=zh hW2;have Hb2:=zh hb2;have Hs0:=zh hs0;have Hlt1:=zh hlt1;simp only [zeroE] at HW0;clear hW0 hb0 hA0 hB0 hs0 hW1 hb1 hC1 hA1 hB1 hlt1 hW2 hb2 hD2 hb12 hA2 hB2 hC2 h hih ih;have hmf:=zmf Tryz.prog
 obtain ⟨final,hfin⟩:∃ r,zas l E (f+1) i o=r:=⟨_,rfl⟩;rw [hfin];rw [zas,hq1,hq2] at hfin;have HF:=zh hfin;clear hfin;go_enter Tryz.func134,Tryz.ntmps134
 go_upto_region 1 with (fail)
 rw [← HW0.out];go_wp2_with fail
 rw [← HW1.out];refine wp_loop_rounds 3 ?_;rw [rounds_succ];go_upto_region 4 with (fail)
 rw [← HW2.out];go_wp2_with fail
 go_at_call 154;refine (HI1.out _ Hb2.out).mono ?_;rintro e3 w3 ⟨rfl,hb3⟩;have HAw3:=zh (HA2.out.below hb3 (zr _));have HBw3:=zh (HB2.out.below hb3 (zr _));have HCw3:=zh (HC2.out.below hb3 (zr _));have HDw3:=zh (HD2.out.below hb3 (zr _));have Hbw3:=zh (Hb2.out.trans (hb3.mono Hb2.out.size));have Hw3:=zh (H.out.below Hbw3.out);clear hb3 HA2 HB2 HD2 a20 d20 c10 c11 Hb2;have a30:=HAw3.out.cell (i:=0) rfl;have d30:=HDw3.out.cell (i:=0) rfl
 cases hq:q1 with
 | true =>
  have hn2:=hno hq;rw [hq] at HF hq1;rw [hn2] at HF;clear hq hno hn2
  have HRR:Hid ((zay l i [45] o).andThen (fun _ _=>(zas l E f (i+1) (o+1)).map fun x=>.mk 7 0 [] [x])=final):=zh (by
   rw [← HF.out,zay,hq1,if_neg (by decide)];by_cases h2:200≤o
   ·rw [if_pos h2];simp [PR.andThen,h2]
   ·rw [if_neg h2];simp [PR.andThen,h2])
  have HOp:=zh (zg6 (W:=w3) (gx:=w.heap.size+1) (m:=w.heap.size) Hw3.out hE ho [45] 7 HDw3.out HAw3.out HBw3.out (H.out.lt) (zao H.out) (by have:=Hs0.out;have:=Hlt1.out; omega) (zr _) (by omega) (by have:=Hs0.out;have:=Hlt1.out; omega) (by omega) (zas l E f (i+1) (o+1)) (fun _ h2 W' hP=>HIH.out W' hP h2));rw [HRR.out] at HOp;go_wp2_with fail
  go_at_call 151;refine HOp.out.mono ?_;intro e5 w5 he5;clear HRR HOp HF HIH HI1 HI2 HC2
  cases final with
  | err a c =>
   obtain ⟨he5,hS5⟩:=he5;unfold Bad at he5;subst he5;have HS5:=zh hS5;clear hS5;go_wp2_with fail
   exact ⟨rfl,rfl,(Turns.below Hbw3.out).transNew HS5.out (fun k hk=>by rcases hk with rfl | rfl;exact .inl rfl;exact .inr (by omega))⟩
  | ok x j =>
   obtain ⟨rfl,⟨cs5,hO5,hX5⟩,hP5,hS5⟩:=he5;obtain ⟨op5,n5,name5,args5⟩:=x;obtain ⟨aa,acap,rfl⟩:=hX5.form1;have y0:=hO5.cell (i:=0) rfl;have y1:=hO5.cell (i:=1) rfl;have y2:=hO5.cell (i:=2) rfl;have y3:=hO5.cell (i:=3) rfl;have yf:=hO5.free;have HX5:=zh hX5;have HP5:=zh hP5;have HS5:=zh hS5;clear hX5 hP5 hS5 hO5;go_wp2_with fail
   refine bodyPost_ret (v:=.agg #[.int .u8 op5,.int .i64 n5,.string (bstr name5),.slice aa args5.length acap]) (by simp [results,Tryz.results134,go_sem,y0,y1,y2,y3]) rfl ⟨_,rfl,⟨_,rfl,?_⟩,?_,?_⟩
   ·have hP:¬ (w.heap.size≤w.heap.size+1∧w.heap.size+1≠w.heap.size+1):=by omega
    exact ((((HX5.out.set hP).set hP).set hP).set hP).weak fun g _ h=>h.1
   ·have hlt:=H.out.lt;have hv':=zao H.out;exact HP5.out.only (S:=fun b=>b=w.heap.size+1) (((((Turns.refl (w.heap.size+1) w5).set _ _).set _ _).set _ _).set _ _) (by omega) (fun b hb=>by have:=hv' b hb;omega)
   ·exact (((((Turns.below Hbw3.out).transNew HS5.out (fun k hk=>by rcases hk with rfl | rfl;exact .inl rfl;exact .inr (by omega))).setNew (by omega) _).setNew (by omega) _).setNew (by omega) _).setNew (by omega) _
 | false =>
  rw [hq] at HF hq1;clear hq hno;have c32:=HCw3.out.cell (i:=2) rfl;have c33:=HCw3.out.cell (i:=3) rfl;obtain ⟨W4,hW4,hb4,hD4⟩:∃ W4,W4=w3.alloc (.cells #[.string { data:=#[33] },.int .u8 8] 155)∧Below w3.heap.size w3 W4∧OwnV W4 w3.heap.size 155 [.string { data:=#[33] },.int .u8 8]:=⟨_,rfl,(Below.refl _ _).alloc (zr _) _,OwnV.new _ _ _⟩;have HA4:=zh (HAw3.out.below hb4 (zr _));have HB4:=zh (HBw3.out.below hb4 (zr _));have HC4:=zh (HCw3.out.below hb4 (zr _));have HD4:=zh hD4;have Hb4:=zh (Hbw3.out.trans (hb4.mono Hbw3.out.size));have Hlt3:Hid (W1.heap.size < w3.heap.size):=zh HDw3.out.lt;have HW4:=zh hW4;clear hW4 hb4 hD4;go_wp2_with fail
  rw [rounds_succ];go_upto_region 4 with (fail)
  rw [← HW4.out];clear c32 c33 a30 d30;have a40:=HA4.out.cell (i:=0) rfl;have d40:=HD4.out.cell (i:=0) rfl;go_wp2_with fail
  go_at_call 154;refine (HI2.out _ Hb4.out).mono ?_;rintro e5 w5 ⟨rfl,hb5⟩;have HAw5:=zh (HA4.out.below hb5 (zr _));have HBw5:=zh (HB4.out.below hb5 (zr _));have HCw5:=zh (HC4.out.below hb5 (zr _));have HDw5:=zh (HD4.out.below hb5 (zr _));have Hbw5:=zh (Hb4.out.trans (hb5.mono Hb4.out.size));have Hw5:=zh (H.out.below Hbw5.out);clear hb5 HA4 HB4 HC4 HD4 a40 d40 Hb4 HAw3 HBw3 HCw3 HDw3 Hbw3 Hw3;have a50:=HAw5.out.cell (i:=0) rfl;have d50:=HDw5.out.cell (i:=0) rfl
  cases hq:q2 with
  | true =>
   rw [hq] at HF hq2;clear hq
   have HRR:Hid ((zay l i [33] o).andThen (fun _ _=>(zas l E f (i+1) (o+1)).map fun x=>.mk 8 0 [] [x])=final):=zh (by
    rw [← HF.out,zay,hq2,if_neg (by decide)];by_cases h2:200≤o
    ·rw [if_pos h2];simp [PR.andThen,h2]
    ·rw [if_neg h2];simp [PR.andThen,h2])
   have HOp:=zh (zg6 (W:=w5) (gx:=w.heap.size+1) (m:=w.heap.size) Hw5.out hE ho [33] 8 HDw5.out HAw5.out HBw5.out (H.out.lt) (zao H.out) (by have:=Hs0.out;have:=Hlt1.out;have:=Hlt3.out;omega) (zr _) (by omega) (by have:=Hs0.out;have:=Hlt1.out;have:=Hlt3.out;omega) (by omega) (zas l E f (i+1) (o+1)) (fun _ h2 W' hP=>HIH.out W' hP h2));rw [HRR.out] at HOp;go_wp2_with fail
   go_at_call 151;refine HOp.out.mono ?_;intro e6 w6 he6;clear HRR HOp HF HIH HI1 HI2 HC2
   cases final with
   | err a c =>
    obtain ⟨he6,hS6⟩:=he6;unfold Bad at he6;subst he6;have HS6:=zh hS6;clear hS6;go_wp2_with fail
    exact ⟨rfl,rfl,(Turns.below Hbw5.out).transNew HS6.out (fun k hk=>by rcases hk with rfl | rfl;exact .inl rfl;exact .inr (by omega))⟩
   | ok x j =>
    obtain ⟨rfl,⟨cs6,hO6,hX6⟩,hP6,hS6⟩:=he6;obtain ⟨op6,n6,name6,args6⟩:=x;obtain ⟨aa,acap,rfl⟩:=hX6.form1;have y0:=hO6.cell (i:=0) rfl;have y1:=hO6.cell (i:=1) rfl;have y2:=hO6.cell (i:=2) rfl;have y3:=hO6.cell (i:=3) rfl;have yf:=hO6.free;have HX6:=zh hX6;have HP6:=zh hP6;have HS6:=zh hS6;clear hX6 hP6 hS6 hO6;go_wp2_with fail
    refine bodyPost_ret (v:=.agg #[.int .u8 op6,.int .i64 n6,.string (bstr name6),.slice aa args6.length acap]) (by simp [results,Tryz.results134,go_sem,y0,y1,y2,y3]) rfl ⟨_,rfl,⟨_,rfl,?_⟩,?_,?_⟩
    ·have hP:¬ (w.heap.size≤w.heap.size+1∧w.heap.size+1≠w.heap.size+1):=by omega
     exact ((((HX6.out.set hP).set hP).set hP).set hP).weak fun g _ h=>h.1
    ·have hlt:=H.out.lt;have hv':=zao H.out;exact HP6.out.only (S:=fun b=>b=w.heap.size+1) (((((Turns.refl (w.heap.size+1) w6).set _ _).set _ _).set _ _).set _ _) (by omega) (fun b hb=>by have:=hv' b hb;omega)
    ·exact (((((Turns.below Hbw5.out).transNew HS6.out (fun k hk=>by rcases hk with rfl | rfl;exact .inl rfl;exact .inr (by omega))).setNew (by omega) _).setNew (by omega) _).setNew (by omega) _).setNew (by omega) _
  | false =>
   rw [hq] at HF hq2;clear hq;have HFF:Hid (zah l E i o=final):=zh HF.out;have HO:=zh (hO i o w5 (zr _) ho Hw5.out);rw [HFF.out] at HO;have b50:=HBw5.out.cell (i:=0) rfl;have b51:=HBw5.out.cell (i:=1) rfl;have b52:=HBw5.out.cell (i:=2) rfl;have b53:=HBw5.out.cell (i:=3) rfl;have bf:=HBw5.out.free;go_wp2_with fail
   rw [rounds_succ];go_wp2_with fail
   go_at_call 159;refine HO.out.mono ?_;intro e6 w6 he6;clear HFF HF HO HIH HI1 HI2 HC2
   cases final with
   | err a c =>
    obtain ⟨he6,hS6⟩:=he6;unfold Bad at he6;subst he6;have HS6:=zh hS6;clear hS6;go_wp2_with fail
    exact ⟨rfl,rfl,(Turns.below Hbw5.out).trans HS6.out⟩
   | ok x j =>
    obtain ⟨u,rfl,⟨cs6,rfl,hX6⟩,hP6,hS6⟩:=he6;obtain ⟨op6,n6,name6,args6⟩:=x;obtain ⟨aa,acap,rfl⟩:=hX6.form1;have hlt:=H.out.lt;have hO6:=hS6.own HBw5.out (by omega);have y0:=hO6.cell (i:=0) rfl;have y1:=hO6.cell (i:=1) rfl;have y2:=hO6.cell (i:=2) rfl;have y3:=hO6.cell (i:=3) rfl;have yf:=hO6.free;have HX6:=zh hX6;have HP6:=zh hP6;have HS6:=zh hS6;have Hsz:=zh Hbw5.out.size;have Hlt5:=zh HBw5.out.lt;clear hX6 hP6 hS6 hO6 b50 b51 b52 b53 bf;go_wp2_with fail
    refine bodyPost_ret (v:=.agg #[.int .u8 op6,.int .i64 n6,.string (bstr name6),.slice aa args6.length acap]) (by simp [results,Tryz.results134,go_sem,y0,y1,y2,y3]) rfl ⟨_,rfl,⟨_,rfl,?_⟩,?_,?_⟩
    ·have hP:¬ (w5.heap.size≤w.heap.size+1):=by have:=Hlt5.out;omega
     exact ((((HX6.out.set hP).set hP).set hP).set hP).weak fun g _ h=>Nat.le_trans Hsz.out h
    ·have hv':=zao H.out;exact HP6.out.only (S:=fun b=>b=w.heap.size+1) (((((Turns.refl (w.heap.size+1) w6).set _ _).set _ _).set _ _).set _ _) (by omega) (fun b hb=>by have:=hv' b hb;omega)
    ·exact (((((Turns.below Hbw5.out).trans HS6.out).setNew (by omega) _).setNew (by omega) _).setNew (by omega) _).setNew (by omega) _
end Go.Proofs.YtoaojdobjinhfaaGreatDoor
