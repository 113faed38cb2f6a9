/- The program's parser: what unary hands to opened, walked. -/
import Derived.Test.YtoaojdobjinhfaaGreatDoorPaAPz
import Derived.Test.YtoaojdobjinhfaaGreatDoorParOkPz
import Derived.Test.YtoaojdobjinhfaaGreatDoorRParIPz
import Derived.Deep.RegionWith
import Derived.LoopN
import Derived.Shelf.Abstract
import Derived.KernelRfl
import Derived.Deep.LoopGhost
set_option linter.unusedSimpArgs false
set_option linter.unusedVariables false
set_option maxRecDepth 100000
set_option maxHeartbeats 4000000
namespace Go.Proofs.YtoaojdobjinhfaaGreatDoor
open Go.RowKit

def ExN (m : Nat) (W : World) (x : Ex) (u : Value) : Prop := ExV W (fun b => m <= b) x u
def ExBox (m gx : Nat) (W : World) (x : Ex) : Prop := ∃ cs, OwnV W gx 29 cs /\ ExsC W (fun b => m <= b /\ b ≠ gx) [x] cs
theorem Turns.alloc{p:Nat}{a b:World}(h:Turns p a b)(x:Obj):Turns p a (b.alloc x):=Only.alloc h x
theorem Turns.grown{p:Nat}{w w':World}(h:Turns p w w'):w.grownBy w' (some p):=⟨h.os,h.tape,h.output,h.size,fun k hk hne=>h.block k hk (fun e=>hne (by rw[e]))⟩
theorem ExN.turns{m p:Nat}{W d:World}{x:Ex}{u:Value}(h:ExN m W x u)(ht:Turns p W d)(hp:p<m):ExN m d x u:=by
 obtain⟨cs,e,f⟩:=h;exact⟨cs,e,f.grown ht.grown (fun g e h=>by cases e;omega)⟩
theorem ExBox.turns{m gx p:Nat}{W d:World}{x:Ex}(h:ExBox m gx W x)(ht:Turns p W d)(hp:p<m)(i:gx≠p):ExBox m gx d x:=by
 obtain⟨cs,f,j⟩:=h;exact⟨cs,ht.own f i,j.grown ht.grown (fun g e h=>by cases e;omega)⟩
theorem PSt.drew{w:World}{p:Nat}{v:Value}{l:List Tok}{i o:Nat}(h:PSt w p v l i o):PSt w.drew p v l i o:=h.below (yR _ _).drew
theorem ExsC.form1{w:World}{P:Nat->Prop}{op n:Int}{name:List UInt8}{args:List Ex}{cs:List Value}(h:ExsC w P [.mk op n name args] cs):∃f cap,cs=[.int .u8 op,.int .i64 n,.string (bstr name),.slice f args.length cap]:=by
 obtain⟨i,j,d,g,f,cap,e,rfl⟩:=h.one;cases e;exact⟨f,cap,rfl⟩
theorem zjD{d:World}{m gx:Nat}{op:Int}{xs:List Ex}{cs:List Value}{v w y l:Value}(j:OwnV d gx 29 [v,w,y,l])(q:ExsC d (fun b=>m<=b/\b≠gx) xs cs)(u:m<=d.heap.size)(B:xs.length<=1000) :
  ExBox m gx (((((d.alloc (.cells cs.toArray 29)).setCell ⟨gx,0,none⟩ (.int .u8 op)).setCell ⟨gx,1,none⟩ (.int .i64 0)).setCell ⟨gx,2,none⟩ (.string { data:=#[] })).setCell ⟨gx,3,none⟩ (.slice (some ⟨d.heap.size,0,none⟩) xs.length xs.length)) (.mk op 0 [] xs):=by
 have z:=j.lt;have A:Below d.heap.size d (d.alloc (.cells cs.toArray 29)):=(yR _ _).alloc (zr _) _;obtain⟨C,f,i,g⟩:=set4 (j.alloc (.cells cs.toArray 29)) (.int .u8 op) (.int .i64 0) (.string { data:=#[] }) (.slice (some ⟨d.heap.size,0,none⟩) xs.length xs.length);rw[<-f];exact⟨_,i,zjJ A (OwnV.new _ _ _) q u (by omega) B g⟩
theorem ExBox.drew{m gx:Nat}{W:World}{x:Ex}(h:ExBox m gx W x):ExBox m gx W.drew x:=by
 obtain⟨cs,d,f⟩:=h;exact⟨cs,d,f.under (B:=W.heap.size) (yR _ _).drew (zr _)⟩
theorem zj6{w:World}{p P N gx m:Nat}{v:Value}{l:List Tok}{o:Nat}{s:ByteArray}{op:Int}{c0 c1 c2 c3:Value}(A:OwnV w P 155 [.string s,.int .u8 op])(z:OwnV w N 72 [.pointer (some ⟨p,0,none⟩)])(J:OwnV w gx 29 [c0,c1,c2,c3])
  (hp:p<m) (hm:m<=w.heap.size) (Y:P≠p) (h2:N≠p) (h3:gx≠p) (h4:P≠gx) (h5:N≠gx) (h6:∀b,v.ownBlock=some b->b≠gx) (R:PR Ex)
  (Z:∀W,Below w.heap.size w W->Calls Tryz.prog 134 #[.pointer (some ⟨p,0,none⟩)] W (RdE l p v o W (ExN W.heap.size) R)) :
  Calls Tryz.prog 158 #[.pointer (some ⟨P,0,none⟩),.pointer (some ⟨N,0,none⟩),.pointer (some ⟨gx,0,none⟩)] w (OpE l p v o (fun b=>b=p∨b=gx) w (ExBox m gx) (R.map fun x=>.mk op 0 [] [x])):=by
 have L:=A.cell (i:=1) rfl;have K:=z.cell (i:=0) rfl;have HU:=zh Z;clear Z
 cases R with
 | err a c =>
  go_enter Tryz.func158,Tryz.ntmps158
  go_wp2_with fail
  refine zdi [0,0,0,5,2,2,2] (fun _ w'=>Below w.heap.size w w') (by kernel_rfl) (by kernel_rfl) ((yR _ _).drew) ?_;try simp only[Act.put,zs1,zs3,zs2]
  apply stepsDie2.val
  ·intro U w' f;have d:=zh f;have B:=Below.keep f L;have E:=Below.keep f K;try simp only[Act.put,zs1,zs3,zs2]
   go_wp2;first|exact⟨rfl,d.out⟩|exact⟨rfl,d.out.alloc d.out.size _⟩
  try simp only[Act.put,zs1,zs3,zs2]
  apply stepsDie2.val
  ·intro U w' f;have d:=zh f;have B:=Below.keep f L;have E:=Below.keep f K;try simp only[Act.put,zs1,zs3,zs2]
   go_wp2;first|exact⟨rfl,d.out⟩|exact⟨rfl,d.out.alloc d.out.size _⟩
  try simp only[Act.put,zs1,zs3,zs2]
  apply stepsDie2.val
  ·intro U w' f;have d:=zh f;have B:=Below.keep f L;have E:=Below.keep f K;try simp only[Act.put,zs1,zs3,zs2]
   go_wp2;first|exact⟨rfl,d.out⟩|exact⟨rfl,d.out.alloc d.out.size _⟩
  try simp only[Act.put,zs1,zs3,zs2]
  apply stepsDie2.dies
  ·intro U w' f;have d:=zh f;have B:=Below.keep f L;have E:=Below.keep f K;try simp only[Act.put,zs1,zs3,zs2]
   go_wp2_with fail
   (go_at_call 134;refine(HU.out _ d.out).mono ?_;rintro e4 O⟨G,C⟩;unfold Bad at G;subst G;exact fun a ha=>⟨ha,rfl,((Turns.below d.out).trans C).mono (fun _ _ e=>.inl e)⟩)
  apply stepsDie2.skip;apply stepsDie2.skip;apply stepsDie2.skip
  exact stepsDie2.done
 | ok x j =>
  obtain⟨D,n2,u,q⟩:=x;have X:=zh J;have V:=zh A;have HR:=zh z;clear J A z;go_enter Tryz.func158,Tryz.ntmps158
  go_wp2_with fail
  go_region_with ((go_at_call 134;refine(HU.out _ (yR _ _).drew).mono ?_;rintro e4 O⟨u4,rfl,⟨ac,rfl,H⟩,Q,C⟩;obtain⟨aa,y,rfl⟩:=H.form1;have F:=(Turns.below (p:=p) (yR w.heap.size w).drew).trans C;have I:=F.own X.out h3;have L:=(F.own V.out Y).cell (i:=1) rfl;have K:=(F.own HR.out h2).cell (i:=0) rfl;have M:=I.alloc (.cells #[.int .u8 D,.int .i64 n2,.string (bstr u),.slice aa q.length y] 29);obtain⟨z0,z1,z2,z3⟩:=yc4 M;have zf:=M.free;have l1:=(F.own V.out Y).lt))
  all_goals
   go_wp2_with fail
   have ab:w.heap.size<=O.heap.size:=F.size;have T:ExsC O (fun b=>m<=b/\b≠gx) [.mk D n2 u q] [.int .u8 D,.int .i64 n2,.string (bstr u),.slice aa q.length y]:=H.weak fun g _ h=>⟨yT hm h,fun e=>by have:=X.out.lt;have h':w.heap.size<=g:=h;omega⟩
   refine yE (results_none rfl _ _ _) rfl ⟨rfl,?_,?_,?_⟩
   ·have hB:=zjD (op:=op) I T (by omega) (by simp);exact hB
   ·exact Q.only (S:=fun b=>b=gx) ((((((Turns.refl gx O).alloc _).set _ _).set _ _).set _ _).set _ _) (fun e=>h3 e.symm) (fun b hb=>h6 b hb)
   ·exact((((Only.alloc (F.mono (fun _ _ e=>.inl e)) _).setCell (.inr (.inr rfl)) _).setCell (.inr (.inr rfl)) _).setCell (.inr (.inr rfl)) _).setCell (.inr (.inr rfl)) _
theorem zhp(d:Array Value)(W:World):(callFunc 158 d).run Tryz.prog W=.ok (.enter 158 d) W:=(enters_of (P:=Tryz.prog) Tryz.func158 (by kernel_rfl) rfl) d W
theorem zg6{W:World}{p f g gx m:Nat}{v:Value}{l:List Tok}{i o:Nat}(h:PSt W p v l i o)(C:PEnv l)(A:o<=300)(s:List UInt8)(op:Int)(q:OwnV W f 155 [.string (bstr s),.int .u8 op])(j:OwnV W g 72 [.pointer (some ⟨p,0,none⟩)]){D E G z:Value}(d:OwnV W gx 29 [D,E,G,z])
  (hp:p<m) (y:∀b,v.ownBlock=some b->b<m) (m1:m<=f) (m2:m<=g) (I:m<=gx) (n1:f≠gx) (n2:g≠gx) (R:PR Ex)
  (B:isS l i s=true->o<200->∀W',PSt W' p v l (i+1) (o+1)->Calls Tryz.prog 134 #[.pointer (some ⟨p,0,none⟩)] W' (RdE l p v (o+1) W' (ExN W'.heap.size) R)) :
  Calls Tryz.prog 151 #[.pointer (some ⟨p,0,none⟩),.string (bstr s),.func (.func 158) #[] #[.pointer (some ⟨f,0,none⟩),.pointer (some ⟨g,0,none⟩),.pointer (some ⟨gx,0,none⟩)]] W
   (OpE l p v o (fun b=>b=p∨b=gx) W (ExBox m gx) ((zay l i s o).andThen fun _ _=>R.map fun x=>.mk op 0 [] [x])):=by
 refine zdz h C A s _ _ (fun b=>b=p∨b=gx) (.inl rfl) (ExBox m gx) (fun W W' x hx ht=>hx.turns ht hp (by omega)) _ (zhp _) ?_;intro hi u W' ht F;have w:=ht.size;have H:=d.lt;exact zj6 (ht.own q (by omega)) (ht.own j (by omega)) (ht.own d (by omega)) hp (by omega) (by omega) (by omega) (by omega) n1 n2 (fun b hb=>by have:=y b hb;omega) R (fun W'' hb=>B hi u W'' (F.below hb))
theorem zao{w:World}{p:Nat}{v:Value}{l:List Tok}{i o:Nat}(h:PSt w p v l i o):∀b,v.ownBlock=some b->b<w.heap.size:=by
 intro b d;obtain⟨a,cap,rfl,-,-⟩:=Sl.form h.toks;obtain⟨j,f,rfl,g,-⟩:=zaF h.toks h.here;cases d;have:=World.block_lt_of_cell? w _ g;exact this
theorem zj7{l:List Tok}{p:Nat}{v:Value}(hE:PEnv l)(E:Nat->Nat->Nat->PR Ex):∀(f i o:Nat) (w:World),l.length-i<f->o<=300->PSt w p v l i o ->
  (∀j o' W,i<=j->o'<=300->PSt W p v l j o'->Calls Tryz.prog 159 #[.pointer (some ⟨p,0,none⟩)] W (RdE l p v o' W (ExN W.heap.size) (zah l E j o'))) ->
  Calls Tryz.prog 134 #[.pointer (some ⟨p,0,none⟩)] w (RdE l p v o w (ExN w.heap.size) (zas l E f i o)):=by
 intro f
 induction f with
 | zero=>intro i o w h;omega
 | succ f ih =>
 intro i o w hf ho h hO;have hp:=h.lt;have hv:=zao h;have a7:∀W',PSt W' p v l (i+1) (o+1)->o<200->Calls Tryz.prog 134 #[.pointer (some ⟨p,0,none⟩)] W' (RdE l p v (o+1) W' (ExN W'.heap.size) (zas l E f (i+1) (o+1))):=fun W' hP ho2=>ih (i+1) (o+1) W' (by have:=hP.here;omega) (by omega) hP (fun j o' W hj h1 h2=>hO j o' W (by omega) h1 h2)
 have ad:=zh a7;obtain⟨q1,N⟩:∃q,isS l i [45]=q:=⟨_,rfl⟩;obtain⟨q2,J⟩:∃q,isS l i [33]=q:=⟨_,rfl⟩
 have aF:q1=true->q2=false:=by
  intro h1
  cases h2:q2 with
  | false=>rfl
  | true =>
   rw[h1] at N;rw[h2] at J;have e1:=(zcT N).2;rw[(zcT J).2] at e1;cases e1
 have ao:Hid (∀w',Below w.heap.size w w'->Calls Tryz.prog 154 #[.pointer (some ⟨p,0,none⟩),.string { data:=#[45] }] w' fun e w''=>e=.returned (.bool q1)/\Below w'.heap.size w' w''):=zh (fun(w':World) (hb:Below w.heap.size w w')=>by have:=zbo (h.below hb) hE [45];rw[N] at this;exact this);have aq:Hid (∀w',Below w.heap.size w w'->Calls Tryz.prog 154 #[.pointer (some ⟨p,0,none⟩),.string { data:=#[33] }] w' fun e w''=>e=.returned (.bool q2)/\Below w'.heap.size w' w''):=zh (fun(w':World) (hb:Below w.heap.size w w')=>by have:=zbo (h.below hb) hE [33];rw[J] at this;exact this);have H:=zh h;obtain⟨W0,a2,aA,aW,bb,a3⟩:=opened w [.pointer (some ⟨p,0,none⟩)] zeroE 72 29;obtain⟨Y,ar,aD,ap⟩:∃Y,Y=W0.alloc (.cells #[.string { data:=#[45] },.int .u8 7,.string { data:=#[33] },.int .u8 8] 155)/\Below w.heap.size w Y/\OwnV Y W0.heap.size 155 [.string { data:=#[45] },.int .u8 7,.string { data:=#[33] },.int .u8 8]:=⟨_,rfl,aA.alloc aA.size _,OwnV.new _ _ _⟩;have aZ:OwnV Y w.heap.size 72 [.pointer (some ⟨p,0,none⟩)]:=by rw[ar];exact aW.alloc _
 have a1:OwnV Y (w.heap.size+1) 29 zeroE:=by rw[ar];exact bb.alloc _
 have aw:W0.heap.size<Y.heap.size:=ap.lt;obtain⟨W2,aE,aY,aO⟩:∃W2,W2=Y.alloc (.cells #[.string { data:=#[45] },.int .u8 7] 155)/\Below w.heap.size w W2/\OwnV W2 Y.heap.size 155 [.string { data:=#[45] },.int .u8 7]:=⟨_,rfl,aD.alloc aD.size _,OwnV.new _ _ _⟩;have P:Below Y.heap.size Y W2:=by rw[aE];exact(yR _ _).alloc (zr _) _
 have aJ:=aZ.below P (zr _);have aP:=a1.below P (zr _);have aU:=ap.below P (zr _);have a5:=zh aJ;have a0:=zh aP;have am:=zh aU;have aT:=zh aO;obtain⟨bh,bE⟩:=yc2 ap;have bn:=aJ.cell (i:=0) rfl;have bC:=aO.cell (i:=0) rfl;have bc:=zh a2;have bD:=zh ar;have bp:=zh aE;have aj:=zh aY;have ak:=zh a3;have U:=zh aw;simp only[zeroE] at bc;clear a2 aA aW bb a3 ar aD ap aZ a1 aw aE aY aO P aJ aP aU h a7 ih;have bJ:=zmf Tryz.prog
 obtain⟨d,T⟩:∃r,zas l E (f+1) i o=r:=⟨_,rfl⟩;rw[T];rw[zas,N,J] at T;have Z:=zh T;clear T;go_enter Tryz.func134,Tryz.ntmps134
 go_upto_region 1 with(fail)
 rw[<-bc.out];go_wp2_with fail
 rw[<-bD.out];refine wp_loop_rounds 3 ?_;rw[rounds_succ];go_upto_region 4 with(fail)
 rw[<-bp.out];go_wp2_with fail
 go_at_call 154;refine(ao.out _ aj.out).mono ?_;rintro e3 w3⟨rfl,X⟩;have O:=zh (a5.out.below X (zr _));have af:=zh (a0.out.below X (zr _));have R:=zh (am.out.below X (zr _));have Q:=zh (aT.out.below X (zr _));have A:=zh (aj.out.trans (X.mono aj.out.size));have a6:=zh (H.out.below A.out);clear X a5 a0 aT bn bC bh bE aj;have bt:=O.out.cell (i:=0) rfl;have bi:=Q.out.cell (i:=0) rfl
 cases hq:q1 with
 | true =>
  have aS:=aF hq;rw[hq] at Z N;rw[aS] at Z;clear hq aF aS
  have ae:Hid ((zay l i [45] o).andThen (fun _ _=>(zas l E f (i+1) (o+1)).map fun x=>.mk 7 0 [] [x])=d):=zh (by
   rw[<-Z.out,zay,N,yN (by decide)];by_cases h2:200<=o
   ·rw[yP h2];simp[PR.andThen,h2]
   ·rw[yN h2];simp[PR.andThen,h2])
  have F:=zh (zg6 (W:=w3) (gx:=w.heap.size+1) (m:=w.heap.size) a6.out hE ho [45] 7 Q.out O.out af.out (H.out.lt) (zao H.out) (by have:=ak.out;have:=U.out; omega) (zr _) (by omega) (by have:=ak.out;have:=U.out; omega) (by omega) (zas l E f (i+1) (o+1)) (fun _ h2 W' hP=>ad.out W' hP h2));rw[ae.out] at F;go_wp2_with fail
  go_at_call 151;refine F.out.mono ?_;intro e5 w5 ag;clear ae F Z ad ao aq am
  cases d with
  | err a c =>
   obtain⟨ag,ah⟩:=ag;unfold Bad at ag;subst ag;have aM:=zh ah;clear ah;go_wp2_with fail
   exact⟨rfl,rfl,(Turns.below A.out).transNew aM.out (fun k hk=>by rcases hk with rfl|rfl;exact .inl rfl;exact .inr (by omega))⟩
  | ok x j =>
   obtain⟨rfl,⟨bH,aK,aC⟩,a9,ah⟩:=ag;obtain⟨bw,n5,aI,ay⟩:=x;obtain⟨aa,D,rfl⟩:=aC.form1;obtain⟨y0,y1,y2,y3⟩:=yc4 aK;have yf:=aK.free;have bx:=zh aC;have bz:=zh a9;have aM:=zh ah;clear aC a9 ah aK;go_wp2_with fail
   refine yE (v:=.agg #[.int .u8 bw,.int .i64 n5,.string (bstr aI),.slice aa ay.length D]) (by simp[results,Tryz.results134,go_sem,y0,y1,y2,y3]) rfl ⟨_,rfl,⟨_,rfl,?_⟩,?_,?_⟩
   ·have hP:¬(w.heap.size<=w.heap.size+1/\w.heap.size+1≠w.heap.size+1):=by omega
    exact((((bx.out.set hP).set hP).set hP).set hP).weak fun g _ h=>h.1
   ·have ba:=H.out.lt;have ac:=zao H.out;exact bz.out.only (S:=fun b=>b=w.heap.size+1) (((((Turns.refl (w.heap.size+1) w5).set _ _).set _ _).set _ _).set _ _) (by omega) (fun b hb=>by have:=ac b hb;omega)
   ·exact(((((Turns.below A.out).transNew aM.out (fun k hk=>by rcases hk with rfl|rfl;exact .inl rfl;exact .inr (by omega))).setNew (by omega) _).setNew (by omega) _).setNew (by omega) _).setNew (by omega) _
 | false =>
  rw[hq] at Z N;clear hq aF;have bu:=R.out.cell (i:=2) rfl;have bA:=R.out.cell (i:=3) rfl;obtain⟨W4,a4,ai,bd⟩:∃W4,W4=w3.alloc (.cells #[.string { data:=#[33] },.int .u8 8] 155)/\Below w3.heap.size w3 W4/\OwnV W4 w3.heap.size 155 [.string { data:=#[33] },.int .u8 8]:=⟨_,rfl,(yR _ _).alloc (zr _) _,OwnV.new _ _ _⟩;have aN:=zh (O.out.below ai (zr _));have aV:=zh (af.out.below ai (zr _));have aQ:=zh (R.out.below ai (zr _));have aG:=zh bd;have an:=zh (A.out.trans (ai.mono A.out.size));have av:Hid (Y.heap.size<w3.heap.size):=zh Q.out.lt;have br:=zh a4;clear a4 ai bd;go_wp2_with fail
  rw[rounds_succ];go_upto_region 4 with(fail)
  rw[<-br.out];clear bu bA bt bi;have be:=aN.out.cell (i:=0) rfl;have bv:=aG.out.cell (i:=0) rfl;go_wp2_with fail
  go_at_call 154;refine(aq.out _ an.out).mono ?_;rintro e5 w5⟨rfl,V⟩;have ax:=zh (aN.out.below V (zr _));have C:=zh (aV.out.below V (zr _));have bF:=zh (aQ.out.below V (zr _));have au:=zh (aG.out.below V (zr _));have B:=zh (an.out.trans (V.mono an.out.size));have aR:=zh (H.out.below B.out);clear V aN aV aQ aG be bv an O af R Q A a6;have bK:=ax.out.cell (i:=0) rfl;have bG:=au.out.cell (i:=0) rfl
  cases hq:q2 with
  | true =>
   rw[hq] at Z J;clear hq
   have ae:Hid ((zay l i [33] o).andThen (fun _ _=>(zas l E f (i+1) (o+1)).map fun x=>.mk 8 0 [] [x])=d):=zh (by
    rw[<-Z.out,zay,J,yN (by decide)];by_cases h2:200<=o
    ·rw[yP h2];simp[PR.andThen,h2]
    ·rw[yN h2];simp[PR.andThen,h2])
   have F:=zh (zg6 (W:=w5) (gx:=w.heap.size+1) (m:=w.heap.size) aR.out hE ho [33] 8 au.out ax.out C.out (H.out.lt) (zao H.out) (by have:=ak.out;have:=U.out;have:=av.out;omega) (zr _) (by omega) (by have:=ak.out;have:=U.out;have:=av.out;omega) (by omega) (zas l E f (i+1) (o+1)) (fun _ h2 W' hP=>ad.out W' hP h2));rw[ae.out] at F;go_wp2_with fail
   go_at_call 151;refine F.out.mono ?_;intro e6 w6 z;clear ae F Z ad ao aq am
   cases d with
   | err a c =>
    obtain⟨z,y⟩:=z;unfold Bad at z;subst z;have I:=zh y;clear y;go_wp2_with fail
    exact⟨rfl,rfl,(Turns.below B.out).transNew I.out (fun k hk=>by rcases hk with rfl|rfl;exact .inl rfl;exact .inr (by omega))⟩
   | ok x j =>
    obtain⟨rfl,⟨bg,M,G⟩,ab,y⟩:=z;obtain⟨az,n6,L,K⟩:=x;obtain⟨aa,D,rfl⟩:=G.form1;obtain⟨y0,y1,y2,y3⟩:=yc4 M;have yf:=M.free;have aH:=zh G;have aL:=zh ab;have I:=zh y;clear G ab y M;go_wp2_with fail
    refine yE (v:=.agg #[.int .u8 az,.int .i64 n6,.string (bstr L),.slice aa K.length D]) (by simp[results,Tryz.results134,go_sem,y0,y1,y2,y3]) rfl ⟨_,rfl,⟨_,rfl,?_⟩,?_,?_⟩
    ·have hP:¬(w.heap.size<=w.heap.size+1/\w.heap.size+1≠w.heap.size+1):=by omega
     exact((((aH.out.set hP).set hP).set hP).set hP).weak fun g _ h=>h.1
    ·have ba:=H.out.lt;have ac:=zao H.out;exact aL.out.only (S:=fun b=>b=w.heap.size+1) (((((Turns.refl (w.heap.size+1) w6).set _ _).set _ _).set _ _).set _ _) (by omega) (fun b hb=>by have:=ac b hb;omega)
    ·exact(((((Turns.below B.out).transNew I.out (fun k hk=>by rcases hk with rfl|rfl;exact .inl rfl;exact .inr (by omega))).setNew (by omega) _).setNew (by omega) _).setNew (by omega) _).setNew (by omega) _
  | false =>
   rw[hq] at Z J;clear hq;have aX:Hid (zah l E i o=d):=zh Z.out;have HO:=zh (hO i o w5 (zr _) ho aR.out);rw[aX.out] at HO;obtain⟨bm,bo,bj,bq⟩:=yc4 C.out;have bf:=C.out.free;go_wp2_with fail
   rw[rounds_succ];go_wp2_with fail
   go_at_call 159;refine HO.out.mono ?_;intro e6 w6 z;clear aX Z HO ad ao aq am
   cases d with
   | err a c =>
    obtain⟨z,y⟩:=z;unfold Bad at z;subst z;have I:=zh y;clear y;go_wp2_with fail
    exact⟨rfl,rfl,(Turns.below B.out).trans I.out⟩
   | ok x j =>
    obtain⟨u,rfl,⟨bg,rfl,G⟩,ab,y⟩:=z;obtain⟨az,n6,L,K⟩:=x;obtain⟨aa,D,rfl⟩:=G.form1;have ba:=H.out.lt;have M:=y.own C.out (by omega);obtain⟨y0,y1,y2,y3⟩:=yc4 M;have yf:=M.free;have aH:=zh G;have aL:=zh ab;have I:=zh y;have bs:=zh B.out.size;have a8:=zh C.out.lt;clear G ab y M bm bo bj bq bf;go_wp2_with fail
    refine yE (v:=.agg #[.int .u8 az,.int .i64 n6,.string (bstr L),.slice aa K.length D]) (by simp[results,Tryz.results134,go_sem,y0,y1,y2,y3]) rfl ⟨_,rfl,⟨_,rfl,?_⟩,?_,?_⟩
    ·have hP:¬(w5.heap.size<=w.heap.size+1):=by have:=a8.out;omega
     exact((((aH.out.set hP).set hP).set hP).set hP).weak fun g _ h=>yT bs.out h
    ·have ac:=zao H.out;exact aL.out.only (S:=fun b=>b=w.heap.size+1) (((((Turns.refl (w.heap.size+1) w6).set _ _).set _ _).set _ _).set _ _) (by omega) (fun b hb=>by have:=ac b hb;omega)
    ·exact(((((Turns.below B.out).trans I.out).setNew (by omega) _).setNew (by omega) _).setNew (by omega) _).setNew (by omega) _

theorem zls(n:Nat)(d:n<5):∀x∈lvl n,x.1∈signWords/\strongs.getD (zai x.1 signWords 0) 0=n+1/\(9+(zai x.1 signWords 0:Int))=x.2:=by
 have:n=0∨n=1∨n=2∨n=3∨n=4:=by omega
 rcases this with rfl|rfl|rfl|rfl|rfl <;> decide
theorem zm8(n:Nat)(d:n<5):∀k:Fin 13,strongs.getD (k.val+1) 0=n+1->∃x∈lvl n,x.1=signWords.getD k.val []:=by
 have:n=0∨n=1∨n=2∨n=3∨n=4:=by omega
 rcases this with rfl|rfl|rfl|rfl|rfl <;> decide
theorem zlt{s:List UInt8}:∀{l:List (List UInt8)} {b k:Nat},zai s l b=b+k+1->l.getD k []=s/\k<l.length:=by
 intro l
 induction l with
 | nil=>intro b k h;rw[zai] at h;omega
 | cons x r ih =>
  intro b k h;rw[zai] at h;split at h
  ·rename_i hx
   obtain rfl:k=0:=by omega
   exact⟨hx,by simp⟩
  ·cases k with
   | zero =>
    exfalso
    have:∀(l:List (List UInt8)) (b:Nat),zai s l b=0∨b+1<=zai s l b:=by
     intro l
     induction l with
     | nil=>intro b;exact .inl rfl
     | cons y t ihl =>
      intro b;rw[zai];split
      ·exact .inr (zr _)
      ·rcases ihl (b+1) with h|h
       ·exact .inl h
       ·exact .inr (by omega)
    have:=this r (b+1)
    omega
   | succ k =>
    obtain⟨d,f⟩:=ih (b:=b+1) (k:=k) (by omega);exact⟨d,by rw[yB];omega⟩
theorem sg_yes{l:List Tok}(v:PEnv l){n j:Nat}(f:n<5){x:List UInt8 × Int}(w:x∈lvl n)(h:isS l j x.1=true):zaj l j=n+1/\(9+(za3 l j:Int))=x.2:=by
 obtain⟨m,i,q⟩:=zls n f x w;obtain⟨g,d⟩:=zcT h;have u:=v.signs j g (by rw[d];exact m);have e:za3 l j=zai x.1 signWords 0:=by unfold za3;rw[yP u,d]
 exact⟨by unfold zaj;rw[e,i],by rw[e,q]⟩
theorem sg_no{l:List Tok}{n j:Nat}(q:n<5)(h:∀x∈lvl n,isS l j x.1=false):zaj l j≠n+1:=by
 intro g;unfold zaj at g;have u:za3 l j≠0:=by intro e;rw[e] at g;have:strongs.getD 0 0=0:=rfl;omega
 obtain⟨k,f⟩:∃k,za3 l j=k+1:=⟨za3 l j-1,by omega⟩
 have d:(zaa l j).kind=3:=by
  unfold za3 at f;split at f
  ·assumption
  ·omega
 have hp:zai (zaa l j).text signWords 0=0+k+1:=by
  unfold za3 at f;rw[yP d] at f;omega
 obtain⟨g1,g2⟩:=zlt hp;rw[f] at g;obtain⟨x,m,e⟩:=zm8 n q ⟨k,g2⟩ g;have:=h x m;rw[e] at this;show False;unfold isS at this;rw[d] at this;simp only[ne_eq] at this;have i:(zaa l j).text=signWords.getD k []:=g1.symm;rw[i] at this;simp at this
theorem zlu {w:World} {p:Nat} {v:Value} {l:List Tok} {i o n gs:Nat} (h:PSt w p v l i o) (hE:PEnv l) (hn:n < 5) (J:Bool) (ae:J=true ↔ n=2) (hg:OwnV w gs 155 (sgC (lvl n))) (aH:gs≠p) (k:Nat) (N:Array Value) (D:Nat->Nat->PR Ex)
  (hk:∀W,(callFunc k N).run Tryz.prog W=.ok (.enter k N) W) (aA:∀j x m,D j o=.ok x m->j<m)
  (hD:∀j W,i<=j->Turns p w W->PSt W p v l j o->Calls Tryz.prog k N W (RdE l p v o W (ExN W.heap.size) (D j o))) :
  Calls Tryz.prog 135 #[.pointer (some ⟨p,0,none⟩),.bool J,.func (.func k) #[] N,.slice (some ⟨gs,0,none⟩) (lvl n).length (lvl n).length] w
   (RdE l p v o w (ExN w.heap.size) ((D i o).andThen fun x j=>zbl l D (n+1) (l.length+1-j) x j o)):=by
 have hlt:=h.lt;have hv:=zao h;have bO:Hid (J=true∨J=false):=zh (by cases J <;> simp);have H:=zh h;have HD:=zh hD;have HG:=zh hg
 have cb:(lvl n).length<=6:=by
  have:n=0∨n=1∨n=2∨n=3∨n=4:=by omega
  rcases this with rfl|rfl|rfl|rfl|rfl <;> decide
 obtain⟨W0,bb,ao,a7,bF,be⟩:=opened w [.pointer (some ⟨p,0,none⟩)] zeroE 72 29;have ay:=zh bb;have bE:=zh ao;have br:=zh a7;have a1:=zh bF;have a6:=zh be;simp only[zeroE] at ay;have HC:=zh (hD i W0 (zr _) (Turns.below ao) (h.below ao));obtain⟨z,L⟩:∃r,((D i o).andThen fun x j=>zbl l D (n+1) (l.length+1-j) x j o)=r:=⟨_,rfl⟩;rw[L];have b5:=zmf Tryz.prog
 clear h hD hg bb ao a7 bF be
 cases hDi:D i o with
 | err a c =>
  rw[hDi] at L HC;subst L;go_enter Tryz.func135,Tryz.ntmps135
  go_upto_region 1 with(fail)
  rw[<-ay.out];go_wp2_with fail
  refine HC.out.mono ?_;rintro e4 M⟨ac,A⟩;unfold Bad at ac;subst ac;have ax:=zh A;clear A;go_wp2_with fail
  exact⟨rfl,rfl,(Turns.below bE.out).trans ax.out⟩
 | ok x0 j0 =>
  have b7:=aA i x0 j0 hDi;rw[hDi] at L HC;have bq:Hid (zbl l D (n+1) (l.length+1-j0) x0 j0 o=z):=zh L;clear L hDi;obtain⟨ad,n0,G,B⟩:=x0;go_enter Tryz.func135,Tryz.ntmps135
  go_upto_region 1 with(fail)
  rw[<-ay.out];go_wp2_with fail
  refine HC.out.mono ?_;rintro e4 M⟨u4,rfl,⟨bP,rfl,P⟩,af,A⟩;obtain⟨ap,am,rfl⟩:=P.form1;have bC:=zh (A.own br.out (by omega));have a3:=zh (A.own a1.out (by omega));have bo:=zh P;have bA:=zh af;have ax:=zh ((Turns.below bE.out).trans A);have bQ:w.heap.size+2<=M.heap.size:=by have:=a6.out;have:=A.size;omega
  have aW:W0.heap.size<=M.heap.size:=A.size;obtain⟨C,aP⟩:∃C,C=M.heap.size:=⟨_,rfl⟩;obtain⟨W5,a9,ab,bt⟩:∃W5,W5=M.alloc (.cells #[.int .u8 ad,.int .i64 n0,.string (bstr G),.slice ap B.length am] 29)/\Below M.heap.size M W5/\OwnV W5 C 29 [.int .u8 ad,.int .i64 n0,.string (bstr G),.slice ap B.length am]:=⟨_,rfl,(yR _ _).alloc (zr _) _,by rw[aP];exact OwnV.new _ _ _⟩;have aS:=zh a9;have bH:=zh (bC.out.below ab (zr _));have a4:=zh (a3.out.below ab (zr _));have ba:=zh bt;have aM:=zh (bA.out.below ab);have bJ:=zh (ax.out.trans (Turns.below ab));have bw:Hid (ExsC W5 (fun b=>w.heap.size+2<=b/\b≠C) [.mk ad n0 G B] [.int .u8 ad,.int .i64 n0,.string (bstr G),.slice ap B.length am]):=zh ((bo.out.weak fun b hlt h=>⟨yT a6.out h,by omega⟩).under ab (zr _));have bV:=aM.out.here;have bR:=zh aP;have bT:w.heap.size+2<=C:=by omega
  clear A P af ab bt a9 aP bC a3 bo bA ax br a1 HC;go_wp2_with fail
  rw[<-aS.out,<-bR.out];go_loopg [10,13,14,15,16,17,18,19,20,21,22,23,24,25,26,27,28,29,30,31,32,33,34,35,36,37] (l.length-j0) (fun g _ _ _ _ _ _ _ _ _ _ _ _ _ _ _ _ _ _ _ _ _ _ _ _ _ _ wr=>∃(j F:Nat) (op m:Int) (name:List UInt8) (args:List Ex) (aa:Option Addr) (cp:Nat),g=l.length-j/\i<=j/\l.length-j<F/\Hid (PSt wr p v l j o)/\Hid (OwnV wr w.heap.size 72 [.pointer (some ⟨p,0,none⟩)])/\Hid (OwnV wr (w.heap.size+1) 29 zeroE)/\Hid (OwnV wr C 29 [.int .u8 op,.int .i64 m,.string (bstr name),.slice aa args.length cp])/\Hid (ExsC wr (fun b=>w.heap.size+2<=b/\b≠C) [.mk op m name args] [.int .u8 op,.int .i64 m,.string (bstr name),.slice aa args.length cp])/\Hid (zbl l D (n+1) F (.mk op m name args) j o=z)/\Hid (Turns p w wr))
  case atStart=>exact⟨j0,l.length+1-j0,ad,n0,G,B,ap,am,rfl,by omega,by omega,aM,bH,a4,ba,bw,bq,bJ⟩
  case round =>
   clear ay aS ba bH a4 aM bw bJ bq bQ aW;obtain⟨j,F,op,m,name,args,aa,cp,rfl,b6,hF,HP,HA,HB,HO,HX,Hf,HT⟩:=hrel;have bM:=HP.out.here;obtain⟨F,rfl⟩:∃F',F=F'+1:=⟨F-1,by omega⟩;have a0:=HA.out.cell (i:=0) rfl;have HI:=zh (ziY HP.out hE HA.out (lvl n) gs (HT.out.own HG.out aH) (by omega));go_wp2_with fail
   go_at_call 160;refine HI.out.mono ?_;rintro e3 w3⟨⟨r,rfl,hr⟩,V⟩;have ai:=zh (HP.out.below V);have aL:=zh (HA.out.below V (zr _));have aq:=zh (HB.out.below V (zr _));have az:=zh (HO.out.below V (zr _));have aO:=zh (HX.out.under V (zr _));have aE:=zh (HT.out.trans (Turns.below V));clear V HP HA HB HO HX HT HI a0;obtain⟨X,Y,o2,o3⟩:=yc4 az.out;have of:=az.out.free;rcases hr with⟨k',x,rfl,av,aG⟩|⟨rfl,bh⟩
   ·have aT:x∈lvl n:=List.mem_of_getElem? av;obtain⟨bi,aX⟩:=sg_yes hE hn aT aG;have bK:=hE.good.is_next bM aG;have aC:k'<(lvl n).length:=(List.getElem?_eq_some_iff.1 av).1;have b4:¬(k':Int)<0:=by omega
    have b9:(k':Int)<((lvl n).length:Int):=by omega
    have ca:(0:Int)<=(k':Int):=by omega
    have aY:(lvl n)[k']=x:=by have:=(List.getElem?_eq_some_iff.1 av).2;exact this
    have Z:Hid ((D (j+1) o).andThen (fun y m'=>if n+1=3 then .ok (.mk x.2 0 [] [.mk op m name args,y]) m' else zbl l D (n+1) F (.mk x.2 0 [] [.mk op m name args,y]) m' o)=z):=zh (by
     rw[<-Hf.out,zbl,yN (by rw[bi];simp),aX])
    clear Hf av aG aT bi aX;have a0:=aL.out.cell (i:=0) rfl;have p1:=ai.out.blk.cell (i:=1) rfl;have pf:=ai.out.blk.free;have b8:(j:Int)<=16385:=by have:=hE.small;omega
    obtain⟨W6,bg,a8,K⟩:∃W6,W6=w3.setCell ⟨p,1,none⟩ (.int .i64 ((j:Int)+1))/\PSt W6 p v l (j+1) o/\Turns p w3 W6:=⟨_,rfl,ai.out.step bK,(Turns.refl _ _).set _ _⟩;have bG:=zh bg;have bv:=zh a8;have bs:=zh (K.own aL.out (by omega));have bd:=zh (K.own aq.out (by omega));have ah:=zh (K.own az.out (by omega));have bn:=zh (aO.out.grown K.grown (fun b e h=>by cases e;omega));have aj:=zh (aE.out.trans K);have au:=zh (aj.out.own HG.out aH);clear bg a8 K ai aL aq az aO aE X Y o2 o3 of;go_upto_region 6 with(fail)
    rw[<-bG.out];clear a0 p1 pf bG;obtain⟨c0,c1⟩:=zgm au.out aC;rw[aY] at c0 c1;obtain⟨X,Y,o2,o3⟩:=yc4 ah.out;have of:=ah.out.free;have HC:Hid (∀W,Below W6.heap.size W6 W->Calls Tryz.prog k N W (RdE l p v o W (ExN W.heap.size) (D (j+1) o))):=zh (fun W hb=>HD.out (j+1) W (by omega) (aj.out.trans (Turns.below hb)) (bv.out.below hb))
    cases hDj:D (j+1) o with
    | err a c =>
     have ar:Hid (.err a c=z):=zh (by rw[<-Z.out,hDj];rfl);rw[hDj] at HC;clear Z hDj;refine zdi [0,0,0,0,0,0,0,5,2,2,2] (fun _ w'=>Below W6.heap.size W6 w') (by kernel_rfl) (by kernel_rfl) ((yR _ _).drew) ?_;try simp only[Act.put,zs1,zs3,zs2]
     apply stepsDie2.val
     ·intro b1 w' d;have f:=zh d;have U:=Below.keep d c1;have Q:=Below.keep d X;have T:=Below.keep d Y;have R:=Below.keep d o2;have O:=Below.keep d o3;try simp only[Act.put,zs1,zs3,zs2]
      go_wp2;first|exact⟨rfl,f.out⟩|exact⟨rfl,f.out.alloc f.out.size _⟩
     try simp only[Act.put,zs1,zs3,zs2]
     apply stepsDie2.val
     ·intro b1 w' d;have f:=zh d;have U:=Below.keep d c1;have Q:=Below.keep d X;have T:=Below.keep d Y;have R:=Below.keep d o2;have O:=Below.keep d o3;try simp only[Act.put,zs1,zs3,zs2]
      go_wp2;first|exact⟨rfl,f.out⟩|exact⟨rfl,f.out.alloc f.out.size _⟩
     try simp only[Act.put,zs1,zs3,zs2]
     apply stepsDie2.val
     ·intro b1 w' d;have f:=zh d;have U:=Below.keep d c1;have Q:=Below.keep d X;have T:=Below.keep d Y;have R:=Below.keep d o2;have O:=Below.keep d o3;try simp only[Act.put,zs1,zs3,zs2]
      go_wp2;first|exact⟨rfl,f.out⟩|exact⟨rfl,f.out.alloc f.out.size _⟩
     try simp only[Act.put,zs1,zs3,zs2]
     apply stepsDie2.val
     ·intro b1 w' d;have f:=zh d;have U:=Below.keep d c1;have Q:=Below.keep d X;have T:=Below.keep d Y;have R:=Below.keep d o2;have O:=Below.keep d o3;try simp only[Act.put,zs1,zs3,zs2]
      go_wp2;first|exact⟨rfl,f.out⟩|exact⟨rfl,f.out.alloc f.out.size _⟩
     try simp only[Act.put,zs1,zs3,zs2]
     apply stepsDie2.val
     ·intro b1 w' d;have f:=zh d;have U:=Below.keep d c1;have Q:=Below.keep d X;have T:=Below.keep d Y;have R:=Below.keep d o2;have O:=Below.keep d o3;try simp only[Act.put,zs1,zs3,zs2]
      go_wp2;first|exact⟨rfl,f.out⟩|exact⟨rfl,f.out.alloc f.out.size _⟩
     try simp only[Act.put,zs1,zs3,zs2]
     apply stepsDie2.val
     ·intro b1 w' d;have f:=zh d;have U:=Below.keep d c1;have Q:=Below.keep d X;have T:=Below.keep d Y;have R:=Below.keep d o2;have O:=Below.keep d o3;try simp only[Act.put,zs1,zs3,zs2]
      go_wp2;first|exact⟨rfl,f.out⟩|exact⟨rfl,f.out.alloc f.out.size _⟩
     try simp only[Act.put,zs1,zs3,zs2]
     apply stepsDie2.val
     ·intro b1 w' d;have f:=zh d;have U:=Below.keep d c1;have Q:=Below.keep d X;have T:=Below.keep d Y;have R:=Below.keep d o2;have O:=Below.keep d o3;try simp only[Act.put,zs1,zs3,zs2]
      go_wp2;first|exact⟨rfl,f.out⟩|exact⟨rfl,f.out.alloc f.out.size _⟩
     try simp only[Act.put,zs1,zs3,zs2]
     apply stepsDie2.dies
     ·intro b1 w' d;have f:=zh d;have U:=Below.keep d c1;have Q:=Below.keep d X;have T:=Below.keep d Y;have R:=Below.keep d o2;have O:=Below.keep d o3;try simp only[Act.put,zs1,zs3,zs2]
      go_wp2_with fail
      (refine(HC.out _ f.out).mono ?_;rintro e4 M⟨ac,A⟩;unfold Bad at ac;subst ac;exact fun a ha=>⟨ha,by rw[<-ar.out];exact⟨rfl,aj.out.trans ((Turns.below f.out).trans A)⟩⟩)
     apply stepsDie2.skip;apply stepsDie2.skip;apply stepsDie2.skip
     exact stepsDie2.done
    | ok y j2 =>
     have bX:=aA (j+1) y j2 hDj;obtain⟨I,n2,q,u⟩:=y;have ar:Hid ((if n+1=3 then .ok (.mk x.2 0 [] [.mk op m name args,.mk I n2 q u]) j2 else zbl l D (n+1) F (.mk x.2 0 [] [.mk op m name args,.mk I n2 q u]) j2 o)=z):=zh (by rw[<-Z.out,hDj];rfl);rw[hDj] at HC;clear Z hDj HD;have bW:=au.out.lt;go_region_with ((refine(HC.out _ (yR _ _).drew).mono ?_;rintro e4 M⟨u4,rfl,⟨bP,rfl,P⟩,af,A⟩;obtain⟨an,aw,rfl⟩:=P.form1;have hT:=(Turns.below (p:=p) (yR W6.heap.size W6).drew).trans A;have ag:=hT.own ah.out (by omega);obtain⟨X,Y,o2,o3⟩:=yc4 ag;have of:=ag.free;have aJ:=hT.own au.out aH;have c1:=(zgm aJ aC).2;rw[aY] at c1;have aQ:=ag.alloc (.cells #[.int .u8 op,.int .i64 m,.string (bstr name),.slice aa args.length cp,.int .u8 I,.int .i64 n2,.string (bstr q),.slice an u.length aw] 29);obtain⟨z0,z1,z2,z3⟩:=yc4 aQ;have zf:=aQ.free;have l1:=aJ.lt))
     all_goals
      have bY:W6.heap.size<=M.heap.size:=hT.size;have bU:C<W6.heap.size:=ah.out.lt;have bp:ExsC M (fun b=>w.heap.size+2<=b/\b≠C) [.mk op m name args,.mk I n2 q u] [.int .u8 op,.int .i64 m,.string (bstr name),.slice aa args.length cp,.int .u8 I,.int .i64 n2,.string (bstr q),.slice an u.length aw]:=(bn.out.grown (Turns.grown (p:=p) hT) (fun b e h=>by cases e;omega)).append (P.weak fun b _ h=>by have h':W6.heap.size<=b:=h;exact⟨by omega,by omega⟩);have aI:=zjD (op:=x.2) ag bp (by omega) (by simp)
      obtain⟨W7,bm,aI,a2,aV,bD,bz⟩:∃W7,W7=((((M.alloc (.cells #[.int .u8 op,.int .i64 m,.string (bstr name),.slice aa args.length cp,.int .u8 I,.int .i64 n2,.string (bstr q),.slice an u.length aw] 29)).setCell ⟨C,0,none⟩ (.int .u8 x.2)).setCell ⟨C,1,none⟩ (.int .i64 0)).setCell ⟨C,2,none⟩ (.string { data:=#[] })).setCell ⟨C,3,none⟩ (.slice (some ⟨M.heap.size,0,none⟩) 2 2)/\ExBox (w.heap.size+2) C W7 (.mk x.2 0 [] [.mk op m name args,.mk I n2 q u])/\PSt W7 p v l j2 o/\Turns p w W7/\OwnV W7 w.heap.size 72 [.pointer (some ⟨p,0,none⟩)]/\OwnV W7 (w.heap.size+1) 29 zeroE:=by
       have ak:Turns C M (((((M.alloc (.cells #[.int .u8 op,.int .i64 m,.string (bstr name),.slice aa args.length cp,.int .u8 I,.int .i64 n2,.string (bstr q),.slice an u.length aw] 29)).setCell ⟨C,0,none⟩ (.int .u8 x.2)).setCell ⟨C,1,none⟩ (.int .i64 0)).setCell ⟨C,2,none⟩ (.string { data:=#[] })).setCell ⟨C,3,none⟩ (.slice (some ⟨M.heap.size,0,none⟩) 2 2)):=(((((Turns.refl C M).alloc _).set _ _).set _ _).set _ _).set _ _;exact⟨_,rfl,aI,af.only (S:=fun b=>b=C) ak (by omega) (fun b hb=>by have:=hv b hb;omega),(aj.out.trans hT).transNew ak (fun b hb=>.inr (by omega)),ak.own (hT.own bs.out (by omega)) (by omega),ak.own (hT.own bd.out (by omega)) (by omega)⟩
      obtain⟨bZ,a5,aN⟩:=aI;obtain⟨aR,bu,rfl⟩:=aN.form1;have bc:=zh bm;have aF:=zh a2;have aU:=zh aV;have bN:=zh bD;have aD:=zh bz;have bj:=zh a5;have aZ:=zh aN;clear bm a2 aV bD bz a5 aN bp hT ag aQ aJ P af A HC au bv bs bd ah bn aj;go_upto_region 7 with(fail)
      rw[<-bc.out];clear X Y o2 o3 of z0 z1 z2 z3 zf c0 c1 bc;go_upto_if 36 with(fail)
      rcases bO.out with E|E
      ·have bL:=ae.1 E;refine wp_cond_true (by show Value.bool J=_;rw[E]) ?_;clear E;have aK:Hid (z=.ok (.mk x.2 0 [] [.mk op m name args,.mk I n2 q u]) j2):=zh (by rw[<-ar.out,yP (by omega)]);obtain⟨X,Y,o2,o3⟩:=yc4 bj.out;obtain⟨b0,b1,b2,b3⟩:=yc4 aD.out;have bf:=aD.out.free;go_wp2_with fail
       rw[aK.out];refine yE (v:=.agg #[.int .u8 x.2,.int .i64 0,.string (bstr []),.slice aR 2 bu]) (by simp[results,Tryz.results135,go_sem,b0,b1,b2,b3]) rfl ⟨_,rfl,⟨_,rfl,?_⟩,?_,?_⟩
       ·have hP:¬(w.heap.size+2<=w.heap.size+1/\w.heap.size+1≠C):=by omega
        exact((((aZ.out.set hP).set hP).set hP).set hP).weak fun b _ h=>by omega
       ·exact aF.out.only (S:=fun b=>b=w.heap.size+1) (((((Turns.refl (w.heap.size+1) _).set _ _).set _ _).set _ _).set _ _) (by omega) (fun b hb=>by have:=hv b hb;omega)
       ·exact(((aU.out.setNew (by omega) _).setNew (by omega) _).setNew (by omega) _).setNew (by omega) _
      ·have bL:n≠2:=fun e=>by have:=ae.2 e;rw[E] at this;cases this
       refine wp_cond_false (by show Value.bool J=_;rw[E]) ?_;clear E;have aK:Hid (zbl l D (n+1) F (.mk x.2 0 [] [.mk op m name args,.mk I n2 q u]) j2 o=z):=zh (by rw[<-ar.out,yN (by omega)]);have bS:=aF.out.here;go_wp2_with fail
       go_roundg (l.length-j2)
       case measure=>omega
       case rel=>exact⟨j2,F,x.2,0,[],[.mk op m name args,.mk I n2 q u],aR,bu,rfl,by omega,by omega,aF,bN,aD,bj,aZ,aK,aU⟩
   ·have Z:Hid (z=.ok (.mk op m name args) j):=zh (by rw[<-Hf.out,zbl,yP (sg_no hn bh)]);clear Hf bh;obtain⟨b0,b1,b2,b3⟩:=yc4 aq.out;have bf:=aq.out.free;go_wp2_with fail
    rw[Z.out];refine yE (v:=.agg #[.int .u8 op,.int .i64 m,.string (bstr name),.slice aa args.length cp]) (by simp[results,Tryz.results135,go_sem,b0,b1,b2,b3]) rfl ⟨_,rfl,⟨_,rfl,?_⟩,?_,?_⟩
    ·have hP:¬(w.heap.size+2<=w.heap.size+1/\w.heap.size+1≠C):=by omega
     exact((((aO.out.set hP).set hP).set hP).set hP).weak fun b _ h=>by omega
    ·exact ai.out.only (S:=fun b=>b=w.heap.size+1) (((((Turns.refl (w.heap.size+1) _).set _ _).set _ _).set _ _).set _ _) (by omega) (fun b hb=>by have:=hv b hb;omega)
    ·exact(((aE.out.setNew (by omega) _).setNew (by omega) _).setNew (by omega) _).setNew (by omega) _
end Go.Proofs.YtoaojdobjinhfaaGreatDoor
