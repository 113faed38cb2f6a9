/- The program's parser: branch, walked (statement by a contract). Printed by gen_pbranch.py. -/
import Derived.Test.YtoaojdobjinhfaaGreatDoorPaMPz
import Derived.Test.YtoaojdobjinhfaaGreatDoorPaSPz
set_option linter.unusedSimpArgs false
set_option linter.unusedVariables false
set_option maxRecDepth 100000
set_option maxHeartbeats 2000000
namespace Go.Proofs.YtoaojdobjinhfaaGreatDoor
open Go.RowKit

theorem zim{w:World}{P:Nat->Prop}{op n:Int}{name:List UInt8}{es:List Ex}{body els:List St}{v0 v1 v2 i vb u d:Value}{f:List Value}(m:StsC w P [.mk op n name es body []] [v0,v1,v2,i,vb,u])(l:Sl w 6 els.length f d)(j:els.length=0∨∀g,d.ownBlock=some g->P g)(q:StsC w P els f) :
  StsC w P [.mk op n name es body els] [v0,v1,v2,i,vb,d]:=by
 cases m with
 | cons a1 a2 a3 b1 b2 b3 l1 l2 l3 h4=>exact .cons a1 a2 a3 b1 b2 b3 l j q h4
theorem zin{w:World}{P:Nat->Prop}{op n:Int}{name:List UInt8}{es:List Ex}{body:List St}{v0 v1 v2 i vb j d:Value}{f:List Value}(u:StsC w P [.mk op n name es [] []] [v0,v1,v2,i,vb,j])(q:Sl w 6 body.length f d)(l:body.length=0∨∀g,d.ownBlock=some g->P g)(m:StsC w P body f) :
  StsC w P [.mk op n name es body []] [v0,v1,v2,i,d,j]:=by
 cases u with
 | cons a1 a2 a3 b1 b2 b3 l1 l2 l3 h4=>exact .cons a1 a2 a3 q l m l1 l2 l3 h4
theorem zi0{w:World}{p bp gx m:Nat}{v:Value}{l:List Tok}{i o:Nat}{es:List Ex}{body:List St}{ve vb:Value}(h:PSt w p v l i o)(hE:PEnv l)
  (hp:OwnV w bp 72 [.pointer (some ⟨p,0,none⟩)]) (hg:OwnV w gx 56 [.int .u8 4,.int .i64 0,.string { data:=#[] },ve,vb,.slice none 0 0])
  (af:StsC w (fun b=>m<=b/\b≠gx) [.mk 4 0 [] es body []] [.int .u8 4,.int .i64 0,.string { data:=#[] },ve,vb,.slice none 0 0])
  (n2:bp≠p) (n3:gx≠p) (n7:bp≠gx) (ag:∀b,v.ownBlock=some b->b≠gx) (ao:p<m) (hm:m<=w.heap.size) (RB:PR St) (RK:PR (List St)) (RR:PR St) (ac:isS l i [105,102]=true->RB.map (fun y=>.mk 4 0 [] es body [y])=RR) (z:isS l i [105,102]=false->RK.map (fun r=>.mk 4 0 [] es body r)=RR)
  (hB:isS l i [105,102]=true->∀W,PSt W p v l i o->Calls Tryz.prog 129 #[.pointer (some ⟨p,0,none⟩)] W (RdE l p v o W (StN W.heap.size) RB))
  (hK:∀W,PSt W p v l i o->Calls Tryz.prog 130 #[.pointer (some ⟨p,0,none⟩)] W (RdE l p v o W (TsV W.heap.size) RK)) :
  Calls Tryz.prog 155 #[.pointer (some ⟨bp,0,none⟩),.pointer (some ⟨gx,0,none⟩)] w (OpE l p v o (fun b=>b=p∨b=gx) w (StBox m gx) RR):=by
 have HI:=zh (zbo h hE [105,102]);have HB:=zh hB;have HK:=zh hK;have H:=zh h;have Hp:=zh hp;have Hg:=zh hg;have ai:=zh af;have aa:=zh ac;have U:=zh z;have p0:=hp.cell (i:=0) rfl;have R:=hg.lt;clear h hp hg af hB hK hE ac z
 generalize isS l i [105,102]=q at *
 go_enter Tryz.func155,Tryz.ntmps155
 go_wp2_with fail
 go_at_call 154;refine HI.out.mono ?_;rintro e1 w1⟨rfl,B⟩;have H1:=zh (H.out.below B);have an:=zh (Hp.out.below B (zr _));have I:=zh (Hg.out.below B (zr _));have P:=zh (ai.out.under B (zr _));have D:=zh B;have aj:=B.size;have p0:=an.out.cell (i:=0) rfl;clear B HI H Hp Hg ai
 cases q with
 | true =>
  have HC:=zh (HB.out rfl _ H1.out);have Hf:=zh (aa.out rfl);clear HB HK aa U;go_wp2_with fail
  go_at_call 129;refine HC.out.mono ?_;intro e2 w2 f;clear HC
  cases RB with
  | err a c =>
   obtain⟨f,d⟩:=f;unfold Bad at f;subst f;have Y:=zh d;clear d;have A:Hid (.err a c=RR):=Hf;go_wp2_with fail
   refine⟨rfl,?_⟩;rw[<-A.out]
   exact⟨rfl,(Only.of_below D.out).trans (Y.out.mono fun _ _ e=>.inl e)⟩
  | ok y j =>
   have A:Hid (.ok (.mk 4 0 [] es body [y]) j=RR):=Hf;obtain⟨u2,rfl,⟨ak,rfl,F⟩,J,d⟩:=f;obtain⟨N,K,u,Q,M,O⟩:=y;obtain⟨ae,pe,ab,pb,al,pl,rfl⟩:=F.form1;obtain⟨W3,ah,E,ad⟩:∃W3,W3=w2.alloc (.cells #[.int .u8 N,.int .i64 K,.string (bstr u),.slice ae Q.length pe,.slice ab M.length pb,.slice al O.length pl] 56)/\Below w2.heap.size w2 W3/\OwnV W3 w2.heap.size 56 [.int .u8 N,.int .i64 K,.string (bstr u),.slice ae Q.length pe,.slice ab M.length pb,.slice al O.length pl]:=⟨_,rfl,(yR _ _).alloc (zr _) _,OwnV.new _ _ _⟩;have L:=d.size;have C:=(d.own I.out n3).below E (zr _);have G:=(d.own I.out n3).alloc (.cells #[.int .u8 N,.int .i64 K,.string (bstr u),.slice ae Q.length pe,.slice ab M.length pb,.slice al O.length pl] 56);have x5:=G.cell (i:=5) rfl;have xf:=G.free;have X:=zh (zim ((P.out.only d (fun b hb e=>by have:=hb.1;omega)).under E (zr _)) (els:=[.mk N K u Q M O]) (zcw ad (n:=1) rfl (zr _) (by decide)) (.inr fun g e=>by have e2:w2.heap.size=g:=Option.some.inj e;exact⟨by omega,by omega⟩) ((F.under E (zr _)).weak fun b _ hb=>⟨by omega,by omega⟩));have am:=zh ah;have V:=zh C;have Z:=zh (J.below E);have T:Hid (Only (fun b=>b=p∨b=gx) w W3):=zh (((Only.of_below D.out).trans (d.mono fun _ _ e=>.inl e)).trans (Only.of_below E));clear ah E ad F J d C G P I D;have Hs:=zh (show m<=w1.heap.size/\w1.heap.size<=w2.heap.size from⟨by omega,L⟩);clear aj L hm R;go_wp2_with fail
   rw[<-am.out];rw[<-A.out];refine yE (results_none rfl _ _ _) rfl ⟨rfl,⟨_,V.out.set 5 _,?_⟩,?_,T.out.setCell (.inr (.inr rfl)) _⟩
   ·exact X.out.only (S:=fun b=>b=gx) ((Turns.refl gx _).set _ _) (fun b hb e=>hb.2 e)
   ·exact Z.out.only (S:=fun b=>b=gx) ((Turns.refl gx _).set _ _) (fun e=>n3 e.symm) (fun b hb e=>ag b hb e)
 | false =>
  have HC:=zh (HK.out _ H1.out);have Hf:=zh (U.out rfl);clear HB HK aa U;go_wp2_with fail
  go_at_call 130;refine HC.out.mono ?_;intro e2 w2 f;clear HC
  cases RK with
  | err a c =>
   obtain⟨f,d⟩:=f;unfold Bad at f;subst f;have Y:=zh d;clear d;have A:Hid (.err a c=RR):=Hf;go_wp2_with fail
   refine⟨rfl,?_⟩;rw[<-A.out]
   exact⟨rfl,(Only.of_below D.out).trans (Y.out.mono fun _ _ e=>.inl e)⟩
  | ok ys j =>
   have A:Hid (.ok (.mk 4 0 [] es body ys) j=RR):=Hf;obtain⟨u2,rfl,⟨ak,z,F⟩,J,d⟩:=f;have L:=d.size;have C:=d.own I.out n3;have x5:=C.cell (i:=5) rfl;have xf:=C.free;have X:=zh (zim (P.out.only d (fun b hb e=>by have:=hb.1;omega)) (els:=ys) (Sl.of_own z) (.inr fun g e=>⟨by have:=(z.lt g e).1;omega,by have:=(z.lt g e).1;omega⟩) (F.weak fun b _ hb=>⟨by have:=hb.1;omega,by have:=hb.1;omega⟩));obtain⟨ua,cap,rfl,-,-⟩:=Sl.form (Sl.of_own z);have V:=zh C;have Z:=zh J;have T:Hid (Only (fun b=>b=p∨b=gx) w w2):=zh ((Only.of_below D.out).trans (d.mono fun _ _ e=>.inl e));clear F J d C P I D z aj L hm R;go_wp2_with fail
   rw[<-A.out];refine yE (results_none rfl _ _ _) rfl ⟨rfl,⟨_,V.out.set 5 _,?_⟩,?_,T.out.setCell (.inr (.inr rfl)) _⟩
   ·exact X.out.only (S:=fun b=>b=gx) ((Turns.refl gx _).set _ _) (fun b hb e=>hb.2 e)
   ·exact Z.out.only (S:=fun b=>b=gx) ((Turns.refl gx _).set _ _) (fun e=>n3 e.symm) (fun b hb e=>ag b hb e)
theorem zgN(d:Array Value)(W:World):(callFunc 155 d).run Tryz.prog W=.ok (.enter 155 d) W:=(enters_of (P:=Tryz.prog) Tryz.func155 (by kernel_rfl) rfl) d W
def zgq (l : List Tok) (S : Nat -> Nat -> PR St) (f k o : Nat) (x : List Ex) (body : List St) : PR St := if isS l k [105, 102] = true then (zau l S f k o).map (fun y => .mk 4 0 [] x body [y]) else (zaB l S k o).map (fun r => .mk 4 0 [] x body r)
def zd4 (l : List Tok) (S : Nat -> Nat -> PR St) (f k o : Nat) (x : List Ex) (body : List St) : PR St := if isS l k [101, 108, 115, 101] = false then .ok (.mk 4 0 [] x body []) k else (zay l k [101, 108, 115, 101] o).andThen fun _ _ => zgq l S f (k + 1) (o + 1) x body
theorem zi1(l:List Tok)(S:Nat->Nat->PR St)(f i o:Nat)(h:isS l i [105,102]=true):zau l S (f+1) i o=(zad l (zaA l) (i+1) o [40] [41] 1).andThen fun x j=>(zaB l S j o).andThen fun body k=>zd4 l S f k o x body:=by
 have q:isS l i [119,104,105,108,101]=false:=by
  obtain⟨u,m⟩:=zcT h;unfold isS;rw[m];simp
 rw[zau];congr 1
 funext x j
 congr 1
 funext body k
 rw[q,yN (by decide)];unfold zd4;by_cases d:isS l k [101,108,115,101]=false
 ·rw[yP d,yP d]
 ·rw[yN d,yN d];unfold zay;rw[yN d];by_cases g:200<=o
  ·rw[yP g,yP g];rfl
  ·rw[yN g,yN g];rfl
theorem zi2{l:List Tok}{p:Nat}{v:Value}(hE:PEnv l)(S:Nat->Nat->PR St)(L:SMon S):∀(f i o:Nat) (w:World),l.length-i<f->o<=300->PSt w p v l i o->isS l i [105,102]=true ->
  (∀i' o' W,i<i'->o'<=300->PSt W p v l i' o'->Calls Tryz.prog 91 #[.pointer (some ⟨p,0,none⟩)] W (RdE l p v o' W (StN W.heap.size) (S i' o'))) ->
  Calls Tryz.prog 129 #[.pointer (some ⟨p,0,none⟩)] w (RdE l p v o w (StN w.heap.size) (zau l S f i o)):=by
 intro f
 induction f with
 | zero=>intro i o w h;omega
 | succ f ih =>
 intro i o w hf ho h ay hX;rw[zi1 l S f i o ay];have hlt:=h.lt;have hv:=zao h;have bF:=zmf Tryz.prog
 obtain⟨W0,aO,am,ag,be,aS⟩:=opened w [.pointer (some ⟨p,0,none⟩)] zeroT 72 56;have HN:=zh (zcv (h.below am) hE [105,102]);rw[show za0 l i [105,102]=.ok () (i+1) from by unfold za0;rw[yN (by rw[ay];decide)]] at HN;have aV:Hid (∀W gp,PSt W p v l (i+1) o->OwnV W gp 54 (List.replicate 1 (zbs p))->gp≠p->Calls Tryz.prog 126 #[.pointer (some ⟨p,0,none⟩),.string { data:=#[40] },.string { data:=#[41] },.slice (some ⟨gp,0,none⟩) 1 1] W (RdE l p v o W (XsV W.heap.size) (zad l (zaA l) (i+1) o [40] [41] 1))):=zh (fun W gp hP hg hn=>zei (start:=[40]) (stop:=[41]) hP hE ho (by simp[zeB]) hg hn);have bs:∀xs j,zad l (zaA l) (i+1) o [40] [41] 1=.ok xs j->i+1<j:=fun xs j e=>zb2 (zb3 l) e
 have ax:Hid (∀j o' W,i<j->o'<=300->PSt W p v l j o'->Calls Tryz.prog 130 #[.pointer (some ⟨p,0,none⟩)] W (RdE l p v o' W (TsV W.heap.size) (zaB l S j o'))):=zh (fun j o' W hj ho' hP=>zgp hP hE ho' S (fun i' W' hi' ho2 hP'=>hX i' (o'+1) W' (by omega) (by omega) hP') L);have aJ:Hid (∀j o' W,i<j->o'<=300->PSt W p v l j o'->isS l j [105,102]=true->Calls Tryz.prog 129 #[.pointer (some ⟨p,0,none⟩)] W (RdE l p v o' W (StN W.heap.size) (zau l S f j o'))):=zh (fun j o' W hj ho' hP hq=>ih j o' W (by have:=hP.here;omega) ho' hP hq (fun i' o2 W' hi' ho2 hP'=>hX i' o2 W' (by omega) ho2 hP'));have bz:∀j ys k,zaB l S j o=.ok ys k->j<k:=fun j ys k e=>zd3 L e
 have bi:Hid (∀k W s,PSt W p v l k o->Calls Tryz.prog 154 #[.pointer (some ⟨p,0,none⟩),.string (bstr s)] W fun e w'=>e=.returned (.bool (isS l k s))/\Below W.heap.size W w'):=zh (fun k W s hP=>zbo hP hE s);obtain⟨d,N⟩:∃r,((zad l (zaA l) (i+1) o [40] [41] 1).andThen fun x j=>(zaB l S j o).andThen fun body k=>zd4 l S f k o x body)=r:=⟨_,rfl⟩;rw[N];have Hf:=zh N;have bg:=zh aO;have bw:=zh am;have bu:=zh ag;have bo:=zh be;have a0:=ag.cell (i:=0) rfl;have bJ:i<l.length:=h.here;simp only[zeroT] at bg;clear aO am ag be h hX ih N ay L;go_enter Tryz.func129,Tryz.ntmps129
 go_upto_region 1 with(fail)
 rw[<-bg.out];go_wp2_with fail
 go_at_call 131;refine HN.out.mono ?_;rintro e1 U⟨u1,rfl,rfl,aD,F⟩;clear HN;have a8:=F.size;have an:=F.own bu.out (by omega);have aM:=F.own bo.out (by omega);have a1:=an.cell (i:=0) rfl;obtain⟨Y,aR,I,ac⟩:∃Y,Y=U.alloc (.cells #[.func (.func 65) #[.pointer (some ⟨p,0,none⟩)] #[]] 54)/\Below U.heap.size U Y/\OwnV Y U.heap.size 54 (List.replicate 1 (zbs p)):=⟨_,rfl,(yR _ _).alloc (zr _) _,OwnV.new _ _ _⟩;have bK:p<U.heap.size:=by omega
 have HC:=zh (aV.out Y U.heap.size (aD.below I) ac (by omega));have bt:=zh (an.below I (zr _));have bp:=zh (aM.below I (zr _));have ai:Hid (Turns p w Y):=zh (((Turns.below bw.out).trans F).trans (Turns.below I));have bq:=zh aR;have aG:U.heap.size<Y.heap.size:=ac.lt;have av:Hid ((zad l (zaA l) (i+1) o [40] [41] 1).andThen (fun x j=>(zaB l S j o).andThen fun body k=>zd4 l S f k o x body)=d):=Hf
 generalize zad l (zaA l) (i+1) o [40] [41] 1=R at *
 clear aR I ac aD F an aM aV a0 Hf;go_wp2_with fail
 rw[<-bq.out];go_at_call 126;refine HC.out.mono ?_;intro e3 A K;clear HC a1
 cases R with
 | err a c =>
  obtain⟨K,y⟩:=K;unfold Bad at K;subst K;have bm:=zh y;clear y;have T:Hid (.err a c=d):=av;go_wp2_with fail
  refine⟨rfl,?_⟩;rw[<-T.out]
  exact⟨rfl,ai.out.trans bm.out⟩
 | ok xs j =>
 have hj:=bs xs j rfl;have T:Hid ((zaB l S j o).andThen (fun body k=>zd4 l S f k o xs body)=d):=av;obtain⟨u3,rfl,⟨bD,E,aP⟩,aK,y⟩:=K;have bd:=y.size
 have Z:StsC A (fun b=>w.heap.size+2<=b/\b≠A.heap.size) [.mk 4 0 [] xs [] []] [.int .u8 4,.int .i64 0,.string { data:=#[] },u3,.slice none 0 0,.slice none 0 0]:=
  .cons (name:=[]) (Sl.of_own E) (.inr fun g e=>⟨by have:=(E.lt g e).1;omega,by have:=(E.lt g e).2;omega⟩) (aP.weak fun b hlt hb=>⟨by have:=hb.1;omega,by omega⟩) (Sl.nil _ 6) (.inl rfl) .nil (Sl.nil _ 6) (.inl rfl) .nil .nil
 obtain⟨ua,cap,rfl,-,-⟩:=Sl.form (Sl.of_own E);have aN:=y.own bt.out (by omega);have aI:=y.own bp.out (by omega);obtain⟨W4,aX,D,aj⟩:∃W4,W4=A.alloc (.cells #[.int .u8 4,.int .i64 0,.string { data:=#[] },.slice ua xs.length cap,.slice none 0 0,.slice none 0 0] 56)/\Below A.heap.size A W4/\OwnV W4 A.heap.size 56 [.int .u8 4,.int .i64 0,.string { data:=#[] },.slice ua xs.length cap,.slice none 0 0,.slice none 0 0]:=⟨_,rfl,(yR _ _).alloc (zr _) _,OwnV.new _ _ _⟩;have HC:=zh (ax.out j o W4 (by omega) ho (aK.below D));have az:=zh (aN.below D (zr _));have aH:=zh (aI.below D (zr _));have aZ:=zh (Z.under D (zr _));have aA:Hid (Turns p w W4):=zh ((ai.out.trans y).trans (Turns.below D));have br:=zh aX;have aE:=zh aj;have bb:A.heap.size<W4.heap.size:=aj.lt;have a4:=az.out.cell (i:=0) rfl;have aF:=bz j
 generalize zaB l S j o=R2 at *
 clear E aP Z aK y aN aI aX D aj av ai;go_upto_region 3 with(fail)
 rw[<-br.out];go_wp2_with fail
 go_at_call 130;refine HC.out.mono ?_;intro e5 w5 M;clear HC a4
 cases R2 with
 | err a c =>
  obtain⟨M,q⟩:=M;unfold Bad at M;subst M;have bC:=zh q;clear q;have B:Hid (.err a c=d):=T;go_wp2_with fail
  refine⟨rfl,?_⟩;rw[<-B.out]
  exact⟨rfl,aA.out.trans bC.out⟩
 | ok body k =>
 have hk:=aF body k rfl;have B:Hid (zd4 l S f k o xs body=d):=T;obtain⟨u5,rfl,⟨bE,G,aL⟩,a9,q⟩:=M;have a3:=q.size;have V:=q.own aE.out (by omega);have aa:=zin (aZ.out.only q (fun b hb e=>by have:=hb.1;omega)) (body:=body) (Sl.of_own G) (.inr fun g e=>⟨by have:=(G.lt g e).1;omega,by have:=(G.lt g e).1;omega⟩) (aL.weak fun b hlt hb=>⟨by have:=hb.1;omega,by have:=hb.1;omega⟩);obtain⟨ub,H,rfl,-,-⟩:=Sl.form (Sl.of_own G);have aU:=q.own az.out (by omega);have bh:=q.own aH.out (by omega);have y4:=V.cell (i:=4) rfl;have yf:=V.free;obtain⟨W6,aq,z⟩:∃W6,W6=w5.setCell ⟨A.heap.size,4,none⟩ (.slice ub body.length H)/\Only (fun b=>b=A.heap.size) w5 W6:=⟨_,rfl,(Turns.refl _ _).set _ _⟩;have a2:Hid (OwnV W6 A.heap.size 56 [.int .u8 4,.int .i64 0,.string { data:=#[] },.slice ua xs.length cap,.slice ub body.length H,.slice none 0 0]):=zh (by rw[aq];exact V.set 4 _);have ah:=a9.only z (by omega) (fun b hb e=>by have:=hv b hb;omega);have a5:=zh ah;have aw:=zh (z.own aU (by omega));have aQ:=zh (z.own bh (by omega));have aY:=zh (aa.only z (fun b hb e=>hb.2 e));have aT:=z.size;have bc:Hid (Only (fun b=>b=p) w W6):=zh ((aA.out.trans q).transNew z (fun b e=>.inr (by omega)));have bx:=zh aq;have HI:=zh (bi.out k W6 [101,108,115,101] ah);have a6:=aw.out.cell (i:=0) rfl;have hq:isS l k [101,108,115,101]=isS l k [101,108,115,101]:=rfl;clear G aL aa a9 q aU bh aq z V ah bi aZ aE az aH aA hq;have Hs:=zh (show p<w.heap.size/\w.heap.size+2<=W0.heap.size/\W0.heap.size<=U.heap.size/\U.heap.size<Y.heap.size/\Y.heap.size<=A.heap.size/\A.heap.size<W4.heap.size/\W4.heap.size<=w5.heap.size/\w5.heap.size<=W6.heap.size from⟨hlt,aS,a8,aG,bd,bb,a3,aT⟩);clear aS a8 aG bd bb a3 aT;go_upto_region 4 with(fail)
 rw[<-bx.out];clear y4 yf;go_wp2_with fail
 go_at_call 154;refine HI.out.mono ?_;rintro e7 w7⟨rfl,u⟩;have ar:=zh (a2.out.below u (zr _));have ap:=zh (aw.out.below u (zr _));have O:=zh (aQ.out.below u (zr _));have af:=zh (a5.out.below u);have Q:=zh (aY.out.under u (zr _));have P:=zh (bc.out.trans (Only.of_below u));have bH:=u.size;clear HI u a2 aw aQ a5 aY bc a6
 cases hq:isS l k [101,108,115,101] with
 | false =>
  have X:Hid (.ok (.mk 4 0 [] xs body []) k=d):=zh (by rw[<-B.out,zd4,yP hq]);clear B hq;obtain⟨x0,x1,x2,x3,x4,x5⟩:=yc6 ar.out;obtain⟨b0,b1,b2,b3,b4,b5⟩:=yc6 O.out;have bf:=O.out.free;go_wp2_with fail
  rw[<-X.out];refine yE (v:=.agg #[.int .u8 4,.int .i64 0,.string { data:=#[] },.slice ua xs.length cap,.slice ub body.length H,.slice none 0 0]) (by simp[results,Tryz.results129,go_sem,b0,b1,b2,b3,b4,b5]) rfl ⟨_,rfl,⟨_,rfl,?_⟩,?_,?_⟩
  ·exact(Q.out.only (S:=fun b=>b=w.heap.size+1) (((((((Turns.refl (w.heap.size+1) w7).set _ _).set _ _).set _ _).set _ _).set _ _).set _ _) (fun b hb e=>by have:=hb.1;omega)).weak fun b _ hb=>by have:=hb.1;omega
  ·exact af.out.only (S:=fun b=>b=w.heap.size+1) (((((((Turns.refl (w.heap.size+1) w7).set _ _).set _ _).set _ _).set _ _).set _ _).set _ _) (by omega) (fun b hb e=>by have:=hv b hb;omega)
  ·exact(((((P.out.setNew (by omega) _).setNew (by omega) _).setNew (by omega) _).setNew (by omega) _).setNew (by omega) _).setNew (by omega) _
 | true =>
  have ao:=Q
  have ak:=zh (zdz (S:=fun b=>b=p∨b=A.heap.size) af.out hE ho [101,108,115,101] 155 #[.pointer (some ⟨w.heap.size,0,none⟩),.pointer (some ⟨A.heap.size,0,none⟩)] (.inl rfl) (StBox (w.heap.size+2) A.heap.size) (fun W W' x hx ht=>hx.turns ht (by omega) (by have:=Hs.out;omega)) (zgq l S f (k+1) (o+1) xs body) (zgN _)
   (fun his ho2 W hT hP=>by
    have bG:=hT.size;have hs:=Hs.out
    exact zi0 hP hE (hT.own ap.out (by omega)) (hT.own ar.out (by omega)) (Q.out.only hT (fun b hb e=>by have:=hb.1;omega)) (by omega) (by omega) (by omega) (fun b e=>by have:=hv b e;omega) (by omega) (by omega) _ _ _ (fun hq=>by rw[zgq,yP hq]) (fun hq=>by rw[zgq,yN (by rw[hq];decide)]) (fun hq W' hP'=>aJ.out (k+1) (o+1) W' (by omega) (by omega) hP' hq) (fun W' hP'=>ax.out (k+1) (o+1) W' (by omega) (by omega) hP')))
  have X:Hid ((zay l k [101,108,115,101] o).andThen (fun _ _=>zgq l S f (k+1) (o+1) xs body)=d):=zh (by rw[<-B.out,zd4,yN (by rw[hq];decide)]);rw[X.out] at ak;have a7:=ap.out.cell (i:=0) rfl;clear B hq X ao ax aJ;go_wp2_with fail
  go_at_call 151;refine ak.out.mono ?_;intro e8 w8 J;clear ak a7
  cases d with
  | err a c =>
   obtain⟨J,C⟩:=J;unfold Bad at J;subst J;have au:=zh C;clear C;go_wp2_with fail
   exact⟨rfl,rfl,P.out.transNew au.out (fun b e=>by
    rcases e with e|e
    ·exact .inl e
    ·exact .inr (by have:=Hs.out;omega))⟩
  | ok x m =>
   obtain⟨rfl,⟨bL,ba,aC⟩,aW,C⟩:=J;obtain⟨op,n,name,bj,bn,bv⟩:=x;obtain⟨ae,pe,ab,pb,al,pl,rfl⟩:=aC.form1;have ad:=C.own O.out (by have:=Hs.out;omega);obtain⟨x0,x1,x2,x3,x4,x5⟩:=yc6 ba;obtain⟨b0,b1,b2,b3,b4,b5⟩:=yc6 ad;have bf:=ad.free;have ao:=zh aC;have bA:=zh aW
   have au:Hid (Turns p w w8):=zh (P.out.transNew C (fun b e=>by
    rcases e with e|e
    ·exact .inl e
    ·exact .inr (by have:=Hs.out;omega)))
   clear ba aC aW C ad ar ap O af Q P;go_wp2_with fail
   refine yE (v:=.agg #[.int .u8 op,.int .i64 n,.string (bstr name),.slice ae bj.length pe,.slice ab bn.length pb,.slice al bv.length pl]) (by simp[results,Tryz.results129,go_sem,b0,b1,b2,b3,b4,b5]) rfl ⟨_,rfl,⟨_,rfl,?_⟩,?_,?_⟩
   ·exact(ao.out.only (S:=fun b=>b=w.heap.size+1) (((((((Turns.refl (w.heap.size+1) w8).set _ _).set _ _).set _ _).set _ _).set _ _).set _ _) (fun b hb e=>by have:=hb.1;omega)).weak fun b _ hb=>by have:=hb.1;omega
   ·exact bA.out.only (S:=fun b=>b=w.heap.size+1) (((((((Turns.refl (w.heap.size+1) w8).set _ _).set _ _).set _ _).set _ _).set _ _).set _ _) (by omega) (fun b hb e=>by have:=hv b hb;omega)
   ·exact(((((au.out.setNew (by omega) _).setNew (by omega) _).setNew (by omega) _).setNew (by omega) _).setNew (by omega) _).setNew (by omega) _
end Go.Proofs.YtoaojdobjinhfaaGreatDoor
