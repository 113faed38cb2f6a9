/- The program's parser: branch, walked (statement by a contract). Printed by gen_pbranch.py. -/
import Derived.Test.YtdhikpkecmaplaaGreatDoorPaMMk
import Derived.Test.YtdhikpkecmaplaaGreatDoorPaSMk
set_option linter.unusedSimpArgs false
set_option linter.unusedVariables false
set_option maxRecDepth 100000
set_option maxHeartbeats 2000000
namespace Go.Proofs.YtdhikpkecmaplaaGreatDoor
open Go.RowKit

theorem zim {w:World} {P:Nat->Prop} {op n:Int} {name:List UInt8} {es:List Ex} {body els:List St} {v0 v1 v2 ve vb vl vl':Value} {cl:List Value} (hX:StsC w P [.mk op n name es body []] [v0,v1,v2,ve,vb,vl]) (h1:Sl w 6 els.length cl vl') (h2:els.length=0∨∀ g,vl'.ownBlock=some g->P g) (h3:StsC w P els cl) :
  StsC w P [.mk op n name es body els] [v0,v1,v2,ve,vb,vl']:=by
 cases hX with
 | cons a1 a2 a3 b1 b2 b3 l1 l2 l3 h4=>exact .cons a1 a2 a3 b1 b2 b3 h1 h2 h3 h4
theorem zin {w:World} {P:Nat->Prop} {op n:Int} {name:List UInt8} {es:List Ex} {body:List St} {v0 v1 v2 ve vb vl vb':Value} {cb:List Value} (hX:StsC w P [.mk op n name es [] []] [v0,v1,v2,ve,vb,vl]) (h1:Sl w 6 body.length cb vb') (h2:body.length=0∨∀ g,vb'.ownBlock=some g->P g) (h3:StsC w P body cb) :
  StsC w P [.mk op n name es body []] [v0,v1,v2,ve,vb',vl]:=by
 cases hX with
 | cons a1 a2 a3 b1 b2 b3 l1 l2 l3 h4=>exact .cons a1 a2 a3 h1 h2 h3 l1 l2 l3 h4
theorem zi0 {w:World} {p bp gx m:Nat} {v:Value} {l:List Tok} {i o:Nat} {es:List Ex} {body:List St} {ve vb:Value} (h:PSt w p v l i o) (hE:PEnv l)
  (hp:OwnV w bp 122 [.pointer (some ⟨p,0,none⟩)]) (hg:OwnV w gx 184 [.int .u8 4,.int .i64 0,.string { data:=#[] },ve,vb,.slice none 0 0])
  (hXs:StsC w (fun b=>m<=b/\b≠gx) [.mk 4 0 [] es body []] [.int .u8 4,.int .i64 0,.string { data:=#[] },ve,vb,.slice none 0 0])
  (n2:bp≠p) (n3:gx≠p) (n7:bp≠gx) (hvl:∀ b,v.ownBlock=some b->b≠gx) (hpm:p < m) (hm:m<=w.heap.size) (RB:PR St) (RK:PR (List St)) (RR:PR St) (hR1:isS l i [105,102]=true->RB.map (fun y=>.mk 4 0 [] es body [y])=RR) (hR2:isS l i [105,102]=false->RK.map (fun r=>.mk 4 0 [] es body r)=RR)
  (hB:isS l i [105,102]=true->∀ W,PSt W p v l i o->Calls Tryz.prog 133 #[.pointer (some ⟨p,0,none⟩)] W (RdE l p v o W (StN W.heap.size) RB))
  (hK:∀ W,PSt W p v l i o->Calls Tryz.prog 134 #[.pointer (some ⟨p,0,none⟩)] W (RdE l p v o W (TsV W.heap.size) RK)) :
  Calls Tryz.prog 174 #[.pointer (some ⟨bp,0,none⟩),.pointer (some ⟨gx,0,none⟩)] w (OpE l p v o (fun b=>b=p∨b=gx) w (StBox m gx) RR):=by
 have HI:=zh (zbo h hE [105,102]);have HB:=zh hB;have HK:=zh hK;have H:=zh h;have Hp:=zh hp;have Hg:=zh hg;have HXs:=zh hXs;have HR1:=zh hR1;have HR2:=zh hR2;have p0:=hp.cell (i:=0) rfl;have hglt:=hg.lt;clear h hp hg hXs hB hK hE hR1 hR2
 generalize isS l i [105,102]=q at *
 go_enter Tryz.func174,Tryz.ntmps174
 go_wp2_with fail
 go_at_call 173;refine HI.out.mono ?_;rintro e1 w1 ⟨rfl,hb1⟩;have H1:=zh (H.out.below hb1);have Hp1:=zh (Hp.out.below hb1 (zr _));have Hg1:=zh (Hg.out.below hb1 (zr _));have HX1:=zh (HXs.out.under hb1 (zr _));have Hb1:=zh hb1;have hs1:=hb1.size;have p0:=Hp1.out.cell (i:=0) rfl;clear hb1 HI H Hp Hg HXs
 cases q with
 | true =>
  have HC:=zh (HB.out rfl _ H1.out);have Hf:=zh (HR1.out rfl);clear HB HK HR1 HR2;go_wp2_with fail
  go_at_call 133;refine HC.out.mono ?_;intro e2 w2 he2;clear HC
  cases RB with
  | err a c =>
   obtain ⟨he2,hT2⟩:=he2;unfold Bad at he2;subst he2;have HT2:=zh hT2;clear hT2;have Hf1:Hid (.err a c=RR):=Hf;go_wp2_with fail
   refine ⟨rfl,?_⟩;rw [<- Hf1.out]
   exact ⟨rfl,(Only.of_below Hb1.out).trans (HT2.out.mono fun _ _ e=>.inl e)⟩
  | ok y j =>
   have Hf1:Hid (.ok (.mk 4 0 [] es body [y]) j=RR):=Hf;obtain ⟨u2,rfl,⟨cs2,rfl,hX2⟩,hP2,hT2⟩:=he2;obtain ⟨op2,n2',name2,es2,bo2,el2⟩:=y;obtain ⟨ae,pe,ab,pb,al,pl,rfl⟩:=hX2.form1;obtain ⟨W3,hW3,hb3,hO3⟩:∃ W3,W3=w2.alloc (.cells #[.int .u8 op2,.int .i64 n2',.string (bstr name2),.slice ae es2.length pe,.slice ab bo2.length pb,.slice al el2.length pl] 184)/\Below w2.heap.size w2 W3/\OwnV W3 w2.heap.size 184 [.int .u8 op2,.int .i64 n2',.string (bstr name2),.slice ae es2.length pe,.slice ab bo2.length pb,.slice al el2.length pl]:=⟨_,rfl,(yR _ _).alloc (zr _) _,OwnV.new _ _ _⟩;have hs2:=hT2.size;have hg3:=(hT2.own Hg1.out n3).below hb3 (zr _);have hg3a:=(hT2.own Hg1.out n3).alloc (.cells #[.int .u8 op2,.int .i64 n2',.string (bstr name2),.slice ae es2.length pe,.slice ab bo2.length pb,.slice al el2.length pl] 184);have x5:=hg3a.cell (i:=5) rfl;have xf:=hg3a.free;have HXe:=zh (zim ((HX1.out.only hT2 (fun b hb e=>by have:=hb.1;omega)).under hb3 (zr _)) (els:=[.mk op2 n2' name2 es2 bo2 el2]) (zcw hO3 (n:=1) rfl (zr _) (by decide)) (.inr fun g e=>by have e2:w2.heap.size=g:=Option.some.inj e;exact ⟨by omega,by omega⟩) ((hX2.under hb3 (zr _)).weak fun b _ hb=>⟨by omega,by omega⟩));have HW3:=zh hW3;have Hg3:=zh hg3;have HP3:=zh (hP2.below hb3);have HT3:Hid (Only (fun b=>b=p∨b=gx) w W3):=zh (((Only.of_below Hb1.out).trans (hT2.mono fun _ _ e=>.inl e)).trans (Only.of_below hb3));clear hW3 hb3 hO3 hX2 hP2 hT2 hg3 hg3a HX1 Hg1 Hb1;have Hs:=zh (show m<=w1.heap.size/\w1.heap.size<=w2.heap.size from ⟨by omega,hs2⟩);clear hs1 hs2 hm hglt;go_wp2_with fail
   rw [<- HW3.out];rw [<- Hf1.out];refine yE (results_none rfl _ _ _) rfl ⟨rfl,⟨_,Hg3.out.set 5 _,?_⟩,?_,HT3.out.setCell (.inr (.inr rfl)) _⟩
   ·exact HXe.out.only (S:=fun b=>b=gx) ((Turns.refl gx _).set _ _) (fun b hb e=>hb.2 e)
   ·exact HP3.out.only (S:=fun b=>b=gx) ((Turns.refl gx _).set _ _) (fun e=>n3 e.symm) (fun b hb e=>hvl b hb e)
 | false =>
  have HC:=zh (HK.out _ H1.out);have Hf:=zh (HR2.out rfl);clear HB HK HR1 HR2;go_wp2_with fail
  go_at_call 134;refine HC.out.mono ?_;intro e2 w2 he2;clear HC
  cases RK with
  | err a c =>
   obtain ⟨he2,hT2⟩:=he2;unfold Bad at he2;subst he2;have HT2:=zh hT2;clear hT2;have Hf1:Hid (.err a c=RR):=Hf;go_wp2_with fail
   refine ⟨rfl,?_⟩;rw [<- Hf1.out]
   exact ⟨rfl,(Only.of_below Hb1.out).trans (HT2.out.mono fun _ _ e=>.inl e)⟩
  | ok ys j =>
   have Hf1:Hid (.ok (.mk 4 0 [] es body ys) j=RR):=Hf;obtain ⟨u2,rfl,⟨cs2,hR2,hX2⟩,hP2,hT2⟩:=he2;have hs2:=hT2.size;have hg3:=hT2.own Hg1.out n3;have x5:=hg3.cell (i:=5) rfl;have xf:=hg3.free;have HXe:=zh (zim (HX1.out.only hT2 (fun b hb e=>by have:=hb.1;omega)) (els:=ys) (Sl.of_own hR2) (.inr fun g e=>⟨by have:=(hR2.lt g e).1;omega,by have:=(hR2.lt g e).1;omega⟩) (hX2.weak fun b _ hb=>⟨by have:=hb.1;omega,by have:=hb.1;omega⟩));obtain ⟨ua,cap,rfl,-,-⟩:=Sl.form (Sl.of_own hR2);have Hg3:=zh hg3;have HP3:=zh hP2;have HT3:Hid (Only (fun b=>b=p∨b=gx) w w2):=zh ((Only.of_below Hb1.out).trans (hT2.mono fun _ _ e=>.inl e));clear hX2 hP2 hT2 hg3 HX1 Hg1 Hb1 hR2 hs1 hs2 hm hglt;go_wp2_with fail
   rw [<- Hf1.out];refine yE (results_none rfl _ _ _) rfl ⟨rfl,⟨_,Hg3.out.set 5 _,?_⟩,?_,HT3.out.setCell (.inr (.inr rfl)) _⟩
   ·exact HXe.out.only (S:=fun b=>b=gx) ((Turns.refl gx _).set _ _) (fun b hb e=>hb.2 e)
   ·exact HP3.out.only (S:=fun b=>b=gx) ((Turns.refl gx _).set _ _) (fun e=>n3 e.symm) (fun b hb e=>hvl b hb e)
theorem zgN (caps:Array Value) (W:World):(callFunc 174 caps).run Tryz.prog W=.ok (.enter 174 caps) W:=(enters_of (P:=Tryz.prog) Tryz.func174 (by kernel_rfl) rfl) caps W
def zgq (l : List Tok) (S : Nat -> Nat -> PR St) (f k o : Nat) (x : List Ex) (body : List St) : PR St := if isS l k [105, 102] = true then (zau l S f k o).map (fun y => .mk 4 0 [] x body [y]) else (zaB l S k o).map (fun r => .mk 4 0 [] x body r)
def zd4 (l : List Tok) (S : Nat -> Nat -> PR St) (f k o : Nat) (x : List Ex) (body : List St) : PR St := if isS l k [101, 108, 115, 101] = false then .ok (.mk 4 0 [] x body []) k else (zay l k [101, 108, 115, 101] o).andThen fun _ _ => zgq l S f (k + 1) (o + 1) x body
theorem zi1 (l:List Tok) (S:Nat->Nat->PR St) (f i o:Nat) (h:isS l i [105,102]=true):zau l S (f+1) i o=(zad l (zaA l) (i+1) o [40] [41] 1).andThen fun x j=>(zaB l S j o).andThen fun body k=>zd4 l S f k o x body:=by
 have hw:isS l i [119,104,105,108,101]=false:=by
  obtain ⟨h1,h2⟩:=zcT h;unfold isS;rw [h2];simp
 rw [zau];congr 1
 funext x j
 congr 1
 funext body k
 rw [hw,yN (by decide)];unfold zd4;by_cases hk:isS l k [101,108,115,101]=false
 ·rw [yP hk,yP hk]
 ·rw [yN hk,yN hk];unfold zay;rw [yN hk];by_cases ho:200<=o
  ·rw [yP ho,yP ho];rfl
  ·rw [yN ho,yN ho];rfl
theorem zi2 {l:List Tok} {p:Nat} {v:Value} (hE:PEnv l) (S:Nat->Nat->PR St) (hmon:SMon S):∀ (f i o:Nat) (w:World),l.length - i < f->o<=300->PSt w p v l i o->isS l i [105,102]=true ->
  (∀ i' o' W,i < i'->o'<=300->PSt W p v l i' o'->Calls Tryz.prog 107 #[.pointer (some ⟨p,0,none⟩)] W (RdE l p v o' W (StN W.heap.size) (S i' o'))) ->
  Calls Tryz.prog 133 #[.pointer (some ⟨p,0,none⟩)] w (RdE l p v o w (StN w.heap.size) (zau l S f i o)):=by
 intro f
 induction f with
 | zero=>intro i o w h;omega
 | succ f ih =>
 intro i o w hf ho h hif hX;rw [zi1 l S f i o hif];have hlt:=h.lt;have hv:=zao h;have hmf:=zmf Tryz.prog
 obtain ⟨W0,hW0,hb0,hA0,hB0,hs0⟩:=opened w [.pointer (some ⟨p,0,none⟩)] zeroT 122 184;have HN:=zh (zcv (h.below hb0) hE [105,102]);rw [show za0 l i [105,102]=.ok () (i+1) from by unfold za0;rw [yN (by rw [hif];decide)]] at HN;have HWi:Hid (∀ W gp,PSt W p v l (i+1) o->OwnV W gp 225 (List.replicate 1 (zbs p))->gp≠p->Calls Tryz.prog 129 #[.pointer (some ⟨p,0,none⟩),.string { data:=#[40] },.string { data:=#[41] },.slice (some ⟨gp,0,none⟩) 1 1] W (RdE l p v o W (XsV W.heap.size) (zad l (zaA l) (i+1) o [40] [41] 1))):=zh (fun W gp hP hg hn=>zei (start:=[40]) (stop:=[41]) hP hE ho (by simp [zeB]) hg hn);have hmi:∀ xs j,zad l (zaA l) (i+1) o [40] [41] 1=.ok xs j->i+1 < j:=fun xs j e=>zb2 (zb3 l) e
 have HBl:Hid (∀ j o' W,i < j->o'<=300->PSt W p v l j o'->Calls Tryz.prog 134 #[.pointer (some ⟨p,0,none⟩)] W (RdE l p v o' W (TsV W.heap.size) (zaB l S j o'))):=zh (fun j o' W hj ho' hP=>zgp hP hE ho' S (fun i' W' hi' ho2 hP'=>hX i' (o'+1) W' (by omega) (by omega) hP') hmon);have HBr:Hid (∀ j o' W,i < j->o'<=300->PSt W p v l j o'->isS l j [105,102]=true->Calls Tryz.prog 133 #[.pointer (some ⟨p,0,none⟩)] W (RdE l p v o' W (StN W.heap.size) (zau l S f j o'))):=zh (fun j o' W hj ho' hP hq=>ih j o' W (by have:=hP.here;omega) ho' hP hq (fun i' o2 W' hi' ho2 hP'=>hX i' o2 W' (by omega) ho2 hP'));have hmb:∀ j ys k,zaB l S j o=.ok ys k->j < k:=fun j ys k e=>zd3 hmon e
 have HIs:Hid (∀ k W s,PSt W p v l k o->Calls Tryz.prog 173 #[.pointer (some ⟨p,0,none⟩),.string (bstr s)] W fun e w'=>e=.returned (.bool (isS l k s))/\Below W.heap.size W w'):=zh (fun k W s hP=>zbo hP hE s);obtain ⟨final,hfin⟩:∃ r,((zad l (zaA l) (i+1) o [40] [41] 1).andThen fun x j=>(zaB l S j o).andThen fun body k=>zd4 l S f k o x body)=r:=⟨_,rfl⟩;rw [hfin];have Hf:=zh hfin;have HW0:=zh hW0;have Hb0:=zh hb0;have HA0:=zh hA0;have HB0:=zh hB0;have a0:=hA0.cell (i:=0) rfl;have hi2:i < l.length:=h.here;simp only [zeroT] at HW0;clear hW0 hb0 hA0 hB0 h hX ih hfin hif hmon;go_enter Tryz.func133,Tryz.ntmps133
 go_upto_region 1 with (fail)
 rw [<- HW0.out];go_wp2_with fail
 go_at_call 135;refine HN.out.mono ?_;rintro e1 w1 ⟨u1,rfl,rfl,hP1,hT1⟩;clear HN;have hs1:=hT1.size;have hA1:=hT1.own HA0.out (by omega);have hB1:=hT1.own HB0.out (by omega);have a1:=hA1.cell (i:=0) rfl;obtain ⟨W2,hW2,hb2,hG2⟩:∃ W2,W2=w1.alloc (.cells #[.func (.func 130) #[.pointer (some ⟨p,0,none⟩)] #[]] 225)/\Below w1.heap.size w1 W2/\OwnV W2 w1.heap.size 225 (List.replicate 1 (zbs p)):=⟨_,rfl,(yR _ _).alloc (zr _) _,OwnV.new _ _ _⟩;have hp1:p < w1.heap.size:=by omega
 have HC:=zh (HWi.out W2 w1.heap.size (hP1.below hb2) hG2 (by omega));have HA2:=zh (hA1.below hb2 (zr _));have HB2:=zh (hB1.below hb2 (zr _));have HT2:Hid (Turns p w W2):=zh (((Turns.below Hb0.out).trans hT1).trans (Turns.below hb2));have HW2:=zh hW2;have hs2:w1.heap.size < W2.heap.size:=hG2.lt;have Hf0:Hid ((zad l (zaA l) (i+1) o [40] [41] 1).andThen (fun x j=>(zaB l S j o).andThen fun body k=>zd4 l S f k o x body)=final):=Hf
 generalize zad l (zaA l) (i+1) o [40] [41] 1=R at *
 clear hW2 hb2 hG2 hP1 hT1 hA1 hB1 HWi a0 Hf;go_wp2_with fail
 rw [<- HW2.out];go_at_call 129;refine HC.out.mono ?_;intro e3 w3 he3;clear HC a1
 cases R with
 | err a c =>
  obtain ⟨he3,hT3⟩:=he3;unfold Bad at he3;subst he3;have HT3:=zh hT3;clear hT3;have Hf1:Hid (.err a c=final):=Hf0;go_wp2_with fail
  refine ⟨rfl,?_⟩;rw [<- Hf1.out]
  exact ⟨rfl,HT2.out.trans HT3.out⟩
 | ok xs j =>
 have hj:=hmi xs j rfl;have Hf1:Hid ((zaB l S j o).andThen (fun body k=>zd4 l S f k o xs body)=final):=Hf0;obtain ⟨u3,rfl,⟨cs3,hR3,hX3⟩,hP3,hT3⟩:=he3;have hs3:=hT3.size
 have hX3':StsC w3 (fun b=>w.heap.size+2<=b/\b≠w3.heap.size) [.mk 4 0 [] xs [] []] [.int .u8 4,.int .i64 0,.string { data:=#[] },u3,.slice none 0 0,.slice none 0 0]:=
  .cons (name:=[]) (Sl.of_own hR3) (.inr fun g e=>⟨by have:=(hR3.lt g e).1;omega,by have:=(hR3.lt g e).2;omega⟩) (hX3.weak fun b hlt hb=>⟨by have:=hb.1;omega,by omega⟩) (Sl.nil _ 6) (.inl rfl) .nil (Sl.nil _ 6) (.inl rfl) .nil .nil
 obtain ⟨ua,cap,rfl,-,-⟩:=Sl.form (Sl.of_own hR3);have hA3:=hT3.own HA2.out (by omega);have hB3:=hT3.own HB2.out (by omega);obtain ⟨W4,hW4,hb4,hO4⟩:∃ W4,W4=w3.alloc (.cells #[.int .u8 4,.int .i64 0,.string { data:=#[] },.slice ua xs.length cap,.slice none 0 0,.slice none 0 0] 184)/\Below w3.heap.size w3 W4/\OwnV W4 w3.heap.size 184 [.int .u8 4,.int .i64 0,.string { data:=#[] },.slice ua xs.length cap,.slice none 0 0,.slice none 0 0]:=⟨_,rfl,(yR _ _).alloc (zr _) _,OwnV.new _ _ _⟩;have HC:=zh (HBl.out j o W4 (by omega) ho (hP3.below hb4));have HA4:=zh (hA3.below hb4 (zr _));have HB4:=zh (hB3.below hb4 (zr _));have HX4:=zh (hX3'.under hb4 (zr _));have HT4:Hid (Turns p w W4):=zh ((HT2.out.trans hT3).trans (Turns.below hb4));have HW4:=zh hW4;have HO4:=zh hO4;have hs4:w3.heap.size < W4.heap.size:=hO4.lt;have a4:=HA4.out.cell (i:=0) rfl;have hmb2:=hmb j
 generalize zaB l S j o=R2 at *
 clear hR3 hX3 hX3' hP3 hT3 hA3 hB3 hW4 hb4 hO4 Hf0 HT2;go_upto_region 3 with (fail)
 rw [<- HW4.out];go_wp2_with fail
 go_at_call 134;refine HC.out.mono ?_;intro e5 w5 he5;clear HC a4
 cases R2 with
 | err a c =>
  obtain ⟨he5,hT5⟩:=he5;unfold Bad at he5;subst he5;have HT5:=zh hT5;clear hT5;have Hf2:Hid (.err a c=final):=Hf1;go_wp2_with fail
  refine ⟨rfl,?_⟩;rw [<- Hf2.out]
  exact ⟨rfl,HT4.out.trans HT5.out⟩
 | ok body k =>
 have hk:=hmb2 body k rfl;have Hf2:Hid (zd4 l S f k o xs body=final):=Hf1;obtain ⟨u5,rfl,⟨cs5,hR5,hX5⟩,hP5,hT5⟩:=he5;have hs5:=hT5.size;have hO5:=hT5.own HO4.out (by omega);have hX5':=zin (HX4.out.only hT5 (fun b hb e=>by have:=hb.1;omega)) (body:=body) (Sl.of_own hR5) (.inr fun g e=>⟨by have:=(hR5.lt g e).1;omega,by have:=(hR5.lt g e).1;omega⟩) (hX5.weak fun b hlt hb=>⟨by have:=hb.1;omega,by have:=hb.1;omega⟩);obtain ⟨ub,capb,rfl,-,-⟩:=Sl.form (Sl.of_own hR5);have hA5:=hT5.own HA4.out (by omega);have hB5:=hT5.own HB4.out (by omega);have y4:=hO5.cell (i:=4) rfl;have yf:=hO5.free;obtain ⟨W6,hW6,hT6⟩:∃ W6,W6=w5.setCell ⟨w3.heap.size,4,none⟩ (.slice ub body.length capb)/\Only (fun b=>b=w3.heap.size) w5 W6:=⟨_,rfl,(Turns.refl _ _).set _ _⟩;have HO6:Hid (OwnV W6 w3.heap.size 184 [.int .u8 4,.int .i64 0,.string { data:=#[] },.slice ua xs.length cap,.slice ub body.length capb,.slice none 0 0]):=zh (by rw [hW6];exact hO5.set 4 _);have hP6:=hP5.only hT6 (by omega) (fun b hb e=>by have:=hv b hb;omega);have HP6:=zh hP6;have HA6:=zh (hT6.own hA5 (by omega));have HB6:=zh (hT6.own hB5 (by omega));have HX6:=zh (hX5'.only hT6 (fun b hb e=>hb.2 e));have hs6:=hT6.size;have HT6:Hid (Only (fun b=>b=p) w W6):=zh ((HT4.out.trans hT5).transNew hT6 (fun b e=>.inr (by omega)));have HW6:=zh hW6;have HI:=zh (HIs.out k W6 [101,108,115,101] hP6);have a6:=HA6.out.cell (i:=0) rfl;have hq:isS l k [101,108,115,101]=isS l k [101,108,115,101]:=rfl;clear hR5 hX5 hX5' hP5 hT5 hA5 hB5 hW6 hT6 hO5 hP6 HIs HX4 HO4 HA4 HB4 HT4 hq;have Hs:=zh (show p < w.heap.size/\w.heap.size+2<=W0.heap.size/\W0.heap.size<=w1.heap.size/\w1.heap.size < W2.heap.size/\W2.heap.size<=w3.heap.size/\w3.heap.size < W4.heap.size/\W4.heap.size<=w5.heap.size/\w5.heap.size<=W6.heap.size from ⟨hlt,hs0,hs1,hs2,hs3,hs4,hs5,hs6⟩);clear hs0 hs1 hs2 hs3 hs4 hs5 hs6;go_upto_region 4 with (fail)
 rw [<- HW6.out];clear y4 yf;go_wp2_with fail
 go_at_call 173;refine HI.out.mono ?_;rintro e7 w7 ⟨rfl,hb7⟩;have HO7:=zh (HO6.out.below hb7 (zr _));have HA7:=zh (HA6.out.below hb7 (zr _));have HB7:=zh (HB6.out.below hb7 (zr _));have HP7:=zh (HP6.out.below hb7);have HX7:=zh (HX6.out.under hb7 (zr _));have HT7:=zh (HT6.out.trans (Only.of_below hb7));have hs7:=hb7.size;clear HI hb7 HO6 HA6 HB6 HP6 HX6 HT6 a6
 cases hq:isS l k [101,108,115,101] with
 | false =>
  have Hf3:Hid (.ok (.mk 4 0 [] xs body []) k=final):=zh (by rw [<- Hf2.out,zd4,yP hq]);clear Hf2 hq;obtain ⟨x0,x1,x2,x3,x4,x5⟩:=yc6 HO7.out;obtain ⟨b0,b1,b2,b3,b4,b5⟩:=yc6 HB7.out;have bf:=HB7.out.free;go_wp2_with fail
  rw [<- Hf3.out];refine yE (v:=.agg #[.int .u8 4,.int .i64 0,.string { data:=#[] },.slice ua xs.length cap,.slice ub body.length capb,.slice none 0 0]) (by simp [results,Tryz.results133,go_sem,b0,b1,b2,b3,b4,b5]) rfl ⟨_,rfl,⟨_,rfl,?_⟩,?_,?_⟩
  ·exact (HX7.out.only (S:=fun b=>b=w.heap.size+1) (((((((Turns.refl (w.heap.size+1) w7).set _ _).set _ _).set _ _).set _ _).set _ _).set _ _) (fun b hb e=>by have:=hb.1;omega)).weak fun b _ hb=>by have:=hb.1;omega
  ·exact HP7.out.only (S:=fun b=>b=w.heap.size+1) (((((((Turns.refl (w.heap.size+1) w7).set _ _).set _ _).set _ _).set _ _).set _ _).set _ _) (by omega) (fun b hb e=>by have:=hv b hb;omega)
  ·exact (((((HT7.out.setNew (by omega) _).setNew (by omega) _).setNew (by omega) _).setNew (by omega) _).setNew (by omega) _).setNew (by omega) _
 | true =>
  have HX8:=HX7
  have HOp:=zh (zdz (S:=fun b=>b=p∨b=w3.heap.size) HP7.out hE ho [101,108,115,101] 174 #[.pointer (some ⟨w.heap.size,0,none⟩),.pointer (some ⟨w3.heap.size,0,none⟩)] (.inl rfl) (StBox (w.heap.size+2) w3.heap.size) (fun W W' x hx ht=>hx.turns ht (by omega) (by have:=Hs.out;omega)) (zgq l S f (k+1) (o+1) xs body) (zgN _)
   (fun his ho2 W hT hP=>by
    have hWs:=hT.size;have hs:=Hs.out
    exact zi0 hP hE (hT.own HA7.out (by omega)) (hT.own HO7.out (by omega)) (HX7.out.only hT (fun b hb e=>by have:=hb.1;omega)) (by omega) (by omega) (by omega) (fun b e=>by have:=hv b e;omega) (by omega) (by omega) _ _ _ (fun hq=>by rw [zgq,yP hq]) (fun hq=>by rw [zgq,yN (by rw [hq];decide)]) (fun hq W' hP'=>HBr.out (k+1) (o+1) W' (by omega) (by omega) hP' hq) (fun W' hP'=>HBl.out (k+1) (o+1) W' (by omega) (by omega) hP')))
  have Hf3:Hid ((zay l k [101,108,115,101] o).andThen (fun _ _=>zgq l S f (k+1) (o+1) xs body)=final):=zh (by rw [<- Hf2.out,zd4,yN (by rw [hq];decide)]);rw [Hf3.out] at HOp;have a7:=HA7.out.cell (i:=0) rfl;clear Hf2 hq Hf3 HX8 HBl HBr;go_wp2_with fail
  go_at_call 168;refine HOp.out.mono ?_;intro e8 w8 he8;clear HOp a7
  cases final with
  | err a c =>
   obtain ⟨he8,hT8⟩:=he8;unfold Bad at he8;subst he8;have HT8:=zh hT8;clear hT8;go_wp2_with fail
   exact ⟨rfl,rfl,HT7.out.transNew HT8.out (fun b e=>by
    rcases e with e | e
    ·exact .inl e
    ·exact .inr (by have:=Hs.out;omega))⟩
  | ok x m =>
   obtain ⟨rfl,⟨cs8,hO8,hX8⟩,hP8,hT8⟩:=he8;obtain ⟨op,n,name,es8,bo8,el8⟩:=x;obtain ⟨ae,pe,ab,pb,al,pl,rfl⟩:=hX8.form1;have hB8:=hT8.own HB7.out (by have:=Hs.out;omega);obtain ⟨x0,x1,x2,x3,x4,x5⟩:=yc6 hO8;obtain ⟨b0,b1,b2,b3,b4,b5⟩:=yc6 hB8;have bf:=hB8.free;have HX8:=zh hX8;have HP8:=zh hP8
   have HT8:Hid (Turns p w w8):=zh (HT7.out.transNew hT8 (fun b e=>by
    rcases e with e | e
    ·exact .inl e
    ·exact .inr (by have:=Hs.out;omega)))
   clear hO8 hX8 hP8 hT8 hB8 HO7 HA7 HB7 HP7 HX7 HT7;go_wp2_with fail
   refine yE (v:=.agg #[.int .u8 op,.int .i64 n,.string (bstr name),.slice ae es8.length pe,.slice ab bo8.length pb,.slice al el8.length pl]) (by simp [results,Tryz.results133,go_sem,b0,b1,b2,b3,b4,b5]) rfl ⟨_,rfl,⟨_,rfl,?_⟩,?_,?_⟩
   ·exact (HX8.out.only (S:=fun b=>b=w.heap.size+1) (((((((Turns.refl (w.heap.size+1) w8).set _ _).set _ _).set _ _).set _ _).set _ _).set _ _) (fun b hb e=>by have:=hb.1;omega)).weak fun b _ hb=>by have:=hb.1;omega
   ·exact HP8.out.only (S:=fun b=>b=w.heap.size+1) (((((((Turns.refl (w.heap.size+1) w8).set _ _).set _ _).set _ _).set _ _).set _ _).set _ _) (by omega) (fun b hb e=>by have:=hv b hb;omega)
   ·exact (((((HT8.out.setNew (by omega) _).setNew (by omega) _).setNew (by omega) _).setNew (by omega) _).setNew (by omega) _).setNew (by omega) _
end Go.Proofs.YtdhikpkecmaplaaGreatDoor
