/- The program's parser: operand, walked. -/
import Derived.Test.YtoaojdobjinhfaaGreatDoorPaKPz
set_option linter.unusedSimpArgs false
set_option linter.unusedVariables false
set_option maxRecDepth 100000
set_option maxHeartbeats 8000000
namespace Go.Proofs.YtoaojdobjinhfaaGreatDoor
open Go.RowKit

theorem operand_ret{tmps:Array Value}{w:World}{g:Nat}{a b c d:Value}(h:tmps[2]?.getD undef=.pointer (some ⟨g,0,none⟩))(H:OwnV w g 29 [a,b,c,d]) :
  (results Tryz.f159 tmps).run Tryz.prog w=.ok (.agg #[a,b,c,d]) w:=by
 obtain⟨i,l,b2,j⟩:=yc4 H;simp[results,Tryz.results159,go_sem,h,i,l,b2,j]
theorem word_cases(s:List UInt8):s=[116,105,99,107]∨s=[115,101,108,102]∨s=[114,97,110,100]∨s=[97,98,115]∨s=[109,105,110]∨s=[109,97,120]∨(s≠[116,105,99,107]/\s≠[115,101,108,102]/\s≠[114,97,110,100]/\s≠[97,98,115]/\s≠[109,105,110]/\s≠[109,97,120]):=by
 by_cases g:s=[116,105,99,107]
 ·exact .inl g
 by_cases d:s=[115,101,108,102]
 ·exact .inr (.inl d)
 by_cases i:s=[114,97,110,100]
 ·exact .inr (.inr (.inl i))
 by_cases j:s=[97,98,115]
 ·exact .inr (.inr (.inr (.inl j)))
 by_cases l:s=[109,105,110]
 ·exact .inr (.inr (.inr (.inr (.inl l))))
 by_cases f:s=[109,97,120]
 ·exact .inr (.inr (.inr (.inr (.inr (.inl f)))))
 exact .inr (.inr (.inr (.inr (.inr (.inr ⟨g,d,i,j,l,f⟩)))))
theorem ite_beq{α:Type}{a b:Int}{x y:α}:(if a=b then x else y)=if(a==b)=true then x else y:=by
 by_cases h:a=b
 ·rw[yP h,yP (by rw[beq_iff_eq];exact h)]
 ·rw[yN h,yN (by rw[beq_iff_eq];exact h)]
theorem word_facts{s t:List UInt8}(h:s=t)(f g d l j i:Bool)(m:decide (t=[116,105,99,107])=f/\decide (t=[115,101,108,102])=g/\decide (t=[114,97,110,100])=d/\decide (t=[97,98,115])=l/\decide (t=[109,105,110])=j/\decide (t=[109,97,120])=i) :
  ((bstr s).toList==[116,105,99,107])=f/\((bstr s).toList==[115,101,108,102])=g/\((bstr s).toList==[114,97,110,100])=d/\((bstr s).toList==[97,98,115])=l/\((bstr s).toList==[109,105,110])=j/\((bstr s).toList==[109,97,120])=i:=by
 subst h;simp only[zal];exact m
theorem no_call{s:List UInt8}(i:s≠[114,97,110,100])(g:s≠[97,98,115])(d:s≠[109,105,110])(f:s≠[109,97,120]):¬0<zai s callWords 0:=by
 simp only[callWords,zai];rw[yN i.symm,yN g.symm,yN d.symm,yN f.symm];decide
theorem name_of{l:List Tok}{i:Nat}{s:List UInt8}(g:(zaa l i).text=s)(f:(zaa l i).kind=1):(if zaP s=false then(.err i 120:PR Ex) else .ok (.mk 2 0 s []) (i+1))=(zcc l i).map (fun s=>.mk 2 0 s []):=by
 subst g;unfold zcc;by_cases d:zaP (zaa l i).text=false
 ·rw[yP d,yP (.inr d)];rfl
 ·rw[yN d,yN (by rw[f];simpa using d)];rfl
theorem zih{w:World}{p:Nat}{v:Value}{l:List Tok}{i o:Nat}(h:PSt w p v l i o)(hE:PEnv l)(E:Nat->Nat->Nat->PR Ex)(hX:∀M o' W,i<M->o'<=300->PSt W p v l M o'->Calls Tryz.prog 65 #[.pointer (some ⟨p,0,none⟩)] W (RdE l p v o' W (ExN W.heap.size) (E M o' 1)))(ax:∀M o' x m,E M o' 1=.ok x m->M<m)(ho:o<=300) :
  Calls Tryz.prog 159 #[.pointer (some ⟨p,0,none⟩)] w (RdE l p v o w (ExN w.heap.size) (zah l E i o)):=by
 have bH:=h.lt;have hv:=zao h;have bE:(i:Int)<=16385:=by have:=h.here;have:=hE.small;omega
 have bz:=zmf Tryz.prog
 obtain⟨W0,aS,an,a3⟩:∃W0,W0=w.alloc (.cells #[.int .u8 0,.int .i64 0,.string { data:=#[] },.slice none 0 0] 29)/\Below w.heap.size w W0/\OwnV W0 w.heap.size 29 zeroE:=⟨_,rfl,(yR _ _).alloc (zr _) _,OwnV.new _ _ _⟩;have HN:=zh (zaQ (h.below an) hE);have H0:=zh (h.below an);have bp:=zh aS;have a2:=zh an;have aM:=zh a3;obtain⟨R,O⟩:∃R,zah l E i o=R:=⟨_,rfl⟩;obtain⟨qp,hp⟩:∃q,isS l i [40]=q:=⟨_,rfl⟩;have HR:Hid (zah l E i o=_):=zh (by unfold zah;rfl);rw[O,hp] at HR;rw[O];have HI:Hid (∀w',Below w.heap.size w w'->Calls Tryz.prog 154 #[.pointer (some ⟨p,0,none⟩),.string { data:=#[40] }] w' fun e w''=>e=.returned (.bool qp)/\Below w'.heap.size w' w''):=zh (fun(w':World) (J:Below w.heap.size w w')=>by have:=zbo (h.below J) hE [40];rw[hp] at this;exact this);have HF:Hid (∀w',Below w.heap.size w w'->_):=zh (fun(w':World) (J:Below w.heap.size w w')=>zcl (h.below J) hE 120);have aP:Hid (∀w',Below w.heap.size w w'->_):=zh (fun(w':World) (J:Below w.heap.size w w')=>zfL (h.below J) hE);have HK:Hid (∀w:World,_):=zh (fun w:World=>za5 (zaa l i).text w);have a4:Hid ((zaa l i).kind≠4->i+1<l.length):=zh (hE.good.next h.here);have a9:Hid (∀s,(zaa l i).text=s->(zaa l i).kind=1->_):=zh (fun s hs hk=>name_of hs hk);have aH:Hid (∀(W:World) (gp many M:Nat) (start stop:List UInt8),PSt W p v l M o->OwnV W gp 54 (List.replicate many (zbs p))->gp≠p->many<=2->0<many->i<=M->Calls Tryz.prog 126 #[.pointer (some ⟨p,0,none⟩),.string (bstr start),.string (bstr stop),.slice (some ⟨gp,0,none⟩) many many] W (RdE l p v o W (XsV W.heap.size) (zad l E M o start stop many))):=zh (fun W gp many M start stop J hg hn h1 h2 h3=>zce J hE ho E hg hn h1 h2 (fun M W' hi' ho2 hP'=>hX M (o+1) W' (by omega) (by omega) hP') (fun M x m=>ax M (o+1) x m));have bg:Hid (∀W,Below w.heap.size w W->PSt W p v l i o):=zh (fun W=>h.below);clear aS an a3 h hE O hp hX ax
 generalize zaa l i=T at *
 go_enter Tryz.func159,Tryz.ntmps159
 go_upto_region 1 with(fail)
 rw[<-bp.out];go_wp2_with fail
 go_at_call 89;refine HN.out.mono ?_;rintro e1 w1⟨rfl,ad⟩;obtain⟨W2,aU,ao,ap⟩:∃W2,W2=w1.alloc (.cells #[.int .u8 T.kind,.string (bstr T.text),.int .i64 T.n,.int .i64 T.line,.int .i64 T.col] 51)/\Below w1.heap.size w1 W2/\OwnV W2 w1.heap.size 51 [.int .u8 T.kind,.string (bstr T.text),.int .i64 T.n,.int .i64 T.line,.int .i64 T.col]:=⟨_,rfl,(yR _ _).alloc (zr _) _,OwnV.new _ _ _⟩;have bn:=ad.size;have H2:=(H0.out.below ad).below ao;have aJ:=(aM.out.below ad (zr _)).below ao (zr _);have ay:=ad.trans (ao.mono bn);have bb:=zh aU;have ac:=zh H2;have aE:=zh aJ;have aG:=zh ap;have bt:=aM.out.lt;have ak:=zh (a2.out.trans (ay.mono a2.out.size));have k0:=ap.cell (i:=0) rfl;have bv:w1.heap.size<W2.heap.size:=ap.lt;have bG:p<W0.heap.size:=H0.out.lt;obtain⟨q2,aD⟩:∃q,(T.kind==2)=q:=⟨_,rfl⟩;have H:Hid (R=if q2=true then .ok (.mk 1 T.n [] []) (i+1) else _):=zh (by rw[HR.out,<-aD];exact ite_beq);clear aU ad ao H2 aJ ap ay HN HR;go_upto_region 2 with(fail)
 rw[<-bb.out]
 cases q2 with
 | true =>
  obtain⟨W3,aZ,aR,ar⟩:∃W3,W3=W2.setCell ⟨p,1,none⟩ (.int .i64 ((i:Int)+1))/\PSt W3 p v l (i+1) o/\Turns p W2 W3:=⟨_,rfl,ac.out.step (a4.out (by rw[beq_iff_eq] at aD;rw[aD];decide)),(Turns.refl _ _).set _ _⟩;have x1:=ac.out.blk.cell (i:=1) rfl;have xf:=ac.out.blk.free;have av:=ar.own aG.out (by omega);have am:=ar.own aE.out (by omega);have af:=zh am;have a8:=zh aZ;have bh:=zh aR;have a5:=zh ((Turns.below ak.out).trans ar);have t2:=av.cell (i:=2) rfl;obtain⟨b0,b1,b2,b3⟩:=yc4 am;have bf:=am.free;clear aZ aR ar av am;go_upto_region 4 with(fail)
  rw[<-a8.out];clear k0 x1 xf;go_wp2_with fail
  exact yE (operand_ret rfl ((((af.out.set 0 _).set 1 _).set 2 _).set 3 _)) rfl (by rw[H.out,yP (by trivial)];exact⟨_,rfl,zcx,bh.out.only (S:=fun b=>b=w.heap.size) (((((Turns.refl w.heap.size W3).set _ _).set _ _).set _ _).set _ _) (by omega) (fun b J=>by have:=hv b J;omega),
   (((a5.out.setNew (zr _) _).setNew (zr _) _).setNew (zr _) _).setNew (zr _) _⟩)
 | false =>
 rw[yN (by decide)] at H;go_wp2_with fail
 go_at_call 154;refine(HI.out _ ak.out).mono ?_;rintro e3 w3⟨rfl,ah⟩;have aL:=zh (ac.out.below ah);have U:=zh (aG.out.below ah (zr _));have af:=zh (aE.out.below ah (zr _));have Q:=zh (ak.out.trans (ah.mono ak.out.size));have bq:w1.heap.size<w3.heap.size:=U.out.lt;have k0:=U.out.cell (i:=0) rfl;clear ah ac aG aE HI
 cases qp with
 | true =>
  obtain⟨W4,aX,B,aT⟩:∃W4,W4=w3.alloc (.cells #[.func (.func 65) #[.pointer (some ⟨p,0,none⟩)] #[]] 54)/\Below w3.heap.size w3 W4/\OwnV W4 w3.heap.size 54 (List.replicate 1 (zbs p)):=⟨_,rfl,(yR _ _).alloc (zr _) _,OwnV.new _ _ _⟩;have D:=zh (Q.out.trans (B.mono Q.out.size));have Y:=zh (af.out.below B (zr _));have bJ:=af.out.lt;have bu:=aL.out.lt;have HC:=zh (aH.out W4 _ 1 i [40] [41] (bg.out W4 D.out) aT (by omega) (by decide) (by decide) (zr _));have aV:=zh aX;have bo:w.heap.size<W4.heap.size:=Y.out.lt;have a0:∀xs j,zad l E i o [40] [41] 1=.ok xs j->xs.length=1:=fun xs j e=>zdC e
  have z:Hid (R=_):=zh (H.out.trans (yP rfl));clear aX B aT aH H
  generalize zad l E i o [40] [41] 1=R1 at *
  go_wp2_with (rw[<-aV.out])
  go_at_call 126;try rw[<-aV.out]
  refine HC.out.mono ?_;intro e5 w5 C;clear HC
  cases R1 with
  | err a c =>
   obtain⟨C,y⟩:=C;unfold Bad at C;subst C;have G:=zh y;clear y;go_wp2_with fail
   refine⟨rfl,?_⟩;rw[z.out]
   exact⟨rfl,(Turns.below D.out).trans G.out⟩
  | ok xs j =>
   have a6:=a0 xs j rfl
   obtain⟨x,rfl⟩:∃x,xs=[x]:=by
    match xs,a6 with
    | [x],_=>exact⟨x,rfl⟩
   obtain⟨u,rfl,⟨cs,O,aF⟩,I,y⟩:=C;obtain⟨op,n,name,args⟩:=x;obtain⟨aa,cp,rfl⟩:=aF.form1;obtain⟨g,cap,rfl,bC⟩:=zcd (k:=0) O;have c0:w5.cell? ⟨g,0,none⟩=some (.int .u8 op):=O.cellAt 0 (by decide);have c1:w5.cell? ⟨g,1,none⟩=some (.int .i64 n):=O.cellAt 1 (by decide);have c2:w5.cell? ⟨g,2,none⟩=some (.string (bstr name)):=O.cellAt 2 (by decide);have c3:w5.cell? ⟨g,3,none⟩=some (.slice aa args.length cp):=O.cellAt 3 (by decide);have d:=zh (y.own Y.out (by omega));obtain⟨b0,b1,b2,b3⟩:=yc4 d.out;have bf:=d.out.free;have bm:=zh aF;have Z:=zh I;have G:=zh ((Turns.below D.out).trans y);clear aF I y O k0;go_wp2_with fail
   have hP:¬(W4.heap.size<=w.heap.size/\(Value.slice (some ⟨g,0,none⟩) (0+1) cap).ownBlock≠some w.heap.size):=by omega
   exact yE (operand_ret rfl ((((d.out.set 0 _).set 1 _).set 2 _).set 3 _)) rfl (by rw[z.out];exact⟨_,rfl,⟨_,rfl,((((bm.out.set hP).set hP).set hP).set hP).weak fun b _ h=>by have:=h.1;omega⟩,
    Z.out.only (S:=fun b=>b=w.heap.size) (((((Turns.refl w.heap.size w5).set _ _).set _ _).set _ _).set _ _) (by omega) (fun b J=>by have:=hv b J;omega),
    (((G.out.setNew (zr _) _).setNew (zr _) _).setNew (zr _) _).setNew (zr _) _⟩)
 | false =>
 rw[yN (by decide)] at H;by_cases L:T.kind=1
 ·have be:(T.kind != 1)=false:=by simp[L]
  have bi:=zh L;have ba:=a4.out (by rw[L];decide);have N:Hid (R=_):=zh (H.out.trans (yN (fun h=>h L)));have k1:=U.out.cell (i:=1) rfl;have aW:=zdg T.text;obtain⟨K,hK⟩:∃K,zap T.text=K:=⟨_,rfl⟩;rw[hK] at N HK aW;have bj:Hid (∀s,T.text=s->zap s=K):=zh (fun s h=>by rw[<-h,hK]);clear L H hK;have bs:(K:Int)<=10:=by omega
  go_wp2_with fail
  go_at_call 23;refine(HK.out _).mono ?_;rintro e4 w4⟨rfl,B⟩;have aj:=zh (aL.out.below B);have Y:=zh (af.out.below B (zr _));have aw:=zh (U.out.below B (zr _));have D:=zh (Q.out.trans (B.mono Q.out.size));have k1:=aw.out.cell (i:=1) rfl;have x1:=aj.out.blk.cell (i:=1) rfl;have xf:=aj.out.blk.free;have bo:=Y.out.lt;have bx:=aj.out.lt;obtain⟨W5,aQ,I,y⟩:∃W5,W5=w4.setCell ⟨p,1,none⟩ (.int .i64 ((i:Int)+1))/\PSt W5 p v l (i+1) o/\Turns p w4 W5:=⟨_,rfl,aj.out.step ba,(Turns.refl _ _).set _ _⟩;have ai:=y.own Y.out (by omega);have az:=y.own aw.out (by omega);have aO:=zh ai;have V:=zh aQ;have Z:=zh I;have G:=zh ((Turns.below D.out).trans y);have bD:=ai.lt;have bw:=I.lt;obtain⟨b0,b1,b2,b3⟩:=yc4 ai;have bf:=ai.free;have bF:=az.cell (i:=1) rfl
  have f:Hid (∀(m:Nat) (start stop:List UInt8),m<=2->0<m->∃F,Hid (F=W5.alloc (.cells (List.replicate m (.func (.func 65) #[.pointer (some ⟨p,0,none⟩)] #[])).toArray 54))/\Hid (Calls Tryz.prog 126 #[.pointer (some ⟨p,0,none⟩),.string (bstr start),.string (bstr stop),.slice (some ⟨W5.heap.size,0,none⟩) m m] F (RdE l p v o F (XsV F.heap.size) (zad l E (i+1) o start stop m)))/\Hid (OwnV F w.heap.size 29 zeroE)/\Hid (Turns p w F)/\w.heap.size<F.heap.size):=zh (fun m start stop h2 h0=>by
   obtain⟨F,bc,aI,bd⟩:∃F,F=W5.alloc (.cells (List.replicate m (.func (.func 65) #[.pointer (some ⟨p,0,none⟩)] #[])).toArray 54)/\Below W5.heap.size W5 F/\OwnV F W5.heap.size 54 (List.replicate m (zbs p)):=⟨_,rfl,(yR _ _).alloc (zr _) _,OwnV.new _ _ _⟩;have aY:=aO.out.below aI (zr _)
   exact⟨F,zh bc,zh (aH.out F _ m (i+1) start stop (Z.out.below aI) bd (by omega) h2 h0 (by omega)),zh aY,zh (G.out.trans (Turns.below aI)),aY.lt⟩)
  clear aQ I y ai az B;by_cases au:0<K
  focus
   have br:(K:Int)>0:=by omega
   have bA:(0:Int)<(K:Int):=by omega
   have z:Hid (R=(zad l E (i+1) o [91] [93] 1).map (.mk 3 K [])):=zh (N.out.trans (yP au));clear N bj au;obtain⟨F,A,HC,ae,ab,aq⟩:=f.out 1 [91] [93] (by decide) (by decide);simp only[List.replicate_succ,List.replicate_zero] at A;clear f;go_upto_region 12 with(fail)
   rw[<-V.out];clear x1 xf k0 k1;go_wp2_with fail
   rw[<-A.out];go_at_call 126
   generalize zad l E (i+1) o [91] [93] 1=R1 at *
  rotate_left
  obtain rfl:K=0:=by omega
  have d:Hid (R=_):=zh (N.out.trans (yN au));clear N au;rcases word_cases T.text with hS|hS|hS|hS|hS|hS|⟨n1,n2,n3,n4,n5,n6⟩
  focus
   obtain⟨e1,e2,e3,e4,e5,e6⟩:=word_facts hS true false false false false false (by decide);have z:Hid (R=.ok (.mk 4 0 [] []) (i+1)):=zh (by rw[d.out,hS];rfl);clear d hS
  rotate_left
  focus
   obtain⟨e1,e2,e3,e4,e5,e6⟩:=word_facts hS false true false false false false (by decide);have z:Hid (R=.ok (.mk 5 0 [] []) (i+1)):=zh (by rw[d.out,hS];rfl);clear d hS
  rotate_left
  focus
   obtain⟨e1,e2,e3,e4,e5,e6⟩:=word_facts hS false false true false false false (by decide);have z:Hid (R=(zad l E (i+1) o [40] [41] 1).map (.mk 6 0 [])):=zh (by rw[d.out,hS];rfl);clear d hS;obtain⟨F,A,HC,ae,ab,aq⟩:=f.out 1 [40] [41] (by decide) (by decide);simp only[List.replicate_succ,List.replicate_zero] at A;clear f;go_upto_region 24 with(fail)
   rw[<-V.out];clear x1 xf k0 k1;go_wp2_with fail
   rw[<-A.out];go_at_call 126
   generalize zad l E (i+1) o [40] [41] 1=R1 at *
  rotate_left
  focus
   obtain⟨e1,e2,e3,e4,e5,e6⟩:=word_facts hS false false false true false false (by decide);have z:Hid (R=(zad l E (i+1) o [40] [41] 1).map (.mk 9 0 [])):=zh (by rw[d.out,hS];rfl);clear d hS;obtain⟨F,A,HC,ae,ab,aq⟩:=f.out 1 [40] [41] (by decide) (by decide);simp only[List.replicate_succ,List.replicate_zero] at A;clear f;go_upto_region 24 with(fail)
   rw[<-V.out];clear x1 xf k0 k1;go_wp2_with fail
   rw[<-A.out];go_at_call 126
   generalize zad l E (i+1) o [40] [41] 1=R1 at *
  rotate_left
  focus
   obtain⟨e1,e2,e3,e4,e5,e6⟩:=word_facts hS false false false false true false (by decide);have z:Hid (R=(zad l E (i+1) o [40] [41] 2).map (.mk 23 0 [])):=zh (by rw[d.out,hS];rfl);clear d hS;obtain⟨F,A,HC,ae,ab,aq⟩:=f.out 2 [40] [41] (by decide) (by decide);simp only[List.replicate_succ,List.replicate_zero] at A;clear f;go_upto_region 31 with(fail)
   rw[<-V.out];clear x1 xf k0 k1;go_wp2_with fail
   rw[<-A.out];go_at_call 126
   generalize zad l E (i+1) o [40] [41] 2=R1 at *
  rotate_left
  focus
   obtain⟨e1,e2,e3,e4,e5,e6⟩:=word_facts hS false false false false false true (by decide);have z:Hid (R=(zad l E (i+1) o [40] [41] 2).map (.mk 24 0 [])):=zh (by rw[d.out,hS];rfl);clear d hS;obtain⟨F,A,HC,ae,ab,aq⟩:=f.out 2 [40] [41] (by decide) (by decide);simp only[List.replicate_succ,List.replicate_zero] at A;clear f;go_upto_region 31 with(fail)
   rw[<-V.out];clear x1 xf k0 k1;go_wp2_with fail
   rw[<-A.out];go_at_call 126
   generalize zad l E (i+1) o [40] [41] 2=R1 at *
  rotate_left
  ·have e1:=(zal T.text _).trans (decide_eq_false n1);have e2:=(zal T.text _).trans (decide_eq_false n2);have e3:=(zal T.text _).trans (decide_eq_false n3);have e4:=(zal T.text _).trans (decide_eq_false n4);have e5:=(zal T.text _).trans (decide_eq_false n5);have e6:=(zal T.text _).trans (decide_eq_false n6);have z:Hid (R=_):=zh (d.out.trans ((yN (no_call n3 n4 n5 n6)).trans ((yN n1).trans ((yN n2).trans (a9.out T.text rfl bi.out)))));clear d n1 n2 n3 n4 n5 n6 f
   generalize zcc l i=R1 at *
   go_wp2_with fail
   go_at_call 128;refine(aP.out _ D.out).mono ?_;intro e5 w5 C;clear aP
   cases R1 with
   | err a c =>
    obtain⟨C,y⟩:=C;unfold Bad at C;subst C;have G:=zh y;clear y;go_wp2_with fail
    refine⟨rfl,?_⟩;rw[z.out]
    exact⟨rfl,(Turns.below D.out).trans G.out⟩
   | ok s j =>
    obtain⟨u,rfl,hs,I,y⟩:=C;unfold StrV at hs;subst hs;have d:=zh (y.own Y.out (by omega));obtain⟨b0,b1,b2,b3⟩:=yc4 d.out;have bf:=d.out.free;have Z:=zh I;have G:=zh ((Turns.below D.out).trans y);clear I y k0 k1;go_wp2_with fail
    exact yE (operand_ret rfl ((((d.out.set 0 _).set 1 _).set 2 _).set 3 _)) rfl (by rw[z.out];exact⟨_,rfl,zcx,Z.out.only (S:=fun b=>b=w.heap.size) (((((Turns.refl w.heap.size w5).set _ _).set _ _).set _ _).set _ _) (by omega) (fun b J=>by have:=hv b J;omega),
     (((G.out.setNew (zr _) _).setNew (zr _) _).setNew (zr _) _).setNew (zr _) _⟩)
  rotate_left
  iterate 2
   focus
    clear f;go_upto_region 17 with(fail)
    rw[<-V.out];clear x1 xf k0 k1;go_wp2_with fail
    exact yE (operand_ret rfl ((((aO.out.set 0 _).set 1 _).set 2 _).set 3 _)) rfl (by rw[z.out];exact⟨_,rfl,zcx,Z.out.only (S:=fun b=>b=w.heap.size) (((((Turns.refl w.heap.size W5).set _ _).set _ _).set _ _).set _ _) (by omega) (fun b J=>by have:=hv b J;omega),
     (((G.out.setNew (zr _) _).setNew (zr _) _).setNew (zr _) _).setNew (zr _) _⟩)
  all_goals
   refine HC.out.mono ?_;intro e7 w7 ag;clear HC bf
   cases R1 with
   | err a c =>
    obtain⟨ag,X⟩:=ag;unfold Bad at ag;subst ag;have aC:=zh X;clear X;go_wp2_with fail
    refine⟨rfl,?_⟩;rw[z.out]
    exact⟨rfl,ab.out.trans aC.out⟩
   | ok xs j =>
    obtain⟨u,rfl,⟨cs,O,a1⟩,aN,X⟩:=ag;obtain⟨ua,cap,rfl,-,-⟩:=Sl.form (Sl.of_own O);have d:=zh (X.own ae.out (by omega));obtain⟨b0,b1,b2,b3⟩:=yc4 d.out;have bf:=d.out.free;have aA:=fun op K=>ExsC.cons (P:=fun b=>F.heap.size<=b) (op:=op) (n:=K) (name:=[]) (Sl.of_own O) (.inr fun g hg=>(O.lt g hg).1) (a1.weak fun b _ h=>h.1) .nil
    have aA:=zh aA;have a7:=zh aN;have aC:=zh (ab.out.trans X);clear a1 aN X O;go_wp2_with fail
    have hP:¬(F.heap.size<=w.heap.size):=by omega
    exact yE (operand_ret rfl ((((d.out.set 0 _).set 1 _).set 2 _).set 3 _)) rfl (by rw[z.out];exact⟨_,rfl,⟨_,rfl,(((((aA.out _ _).set hP).set hP).set hP).set hP).weak fun b _ h=>by omega⟩,
     a7.out.only (S:=fun b=>b=w.heap.size) (((((Turns.refl w.heap.size w7).set _ _).set _ _).set _ _).set _ _) (by omega) (fun b J=>by have:=hv b J;omega),
     (((aC.out.setNew (zr _) _).setNew (zr _) _).setNew (zr _) _).setNew (zr _) _⟩)
 ·have be:(T.kind != 1)=true:=by simpa using L
  have N:Hid (R=_):=zh (H.out.trans (yP L));clear L H;go_wp2_with fail
  go_at_call 90;refine(HF.out _ Q.out).mono ?_;rintro e4 w4⟨aK,B⟩;unfold Bad at aK;subst aK;have D:=zh (Q.out.trans (B.mono Q.out.size));clear B;go_wp2_with fail
  refine⟨rfl,?_⟩;rw[N.out];exact⟨rfl,Turns.below D.out⟩
theorem zlw{l:List Tok}{D:Nat->Nat->PR Ex}{s:Nat}(g:∀j o x m,D j o=.ok x m->j<m):∀(f:Nat) (x:Ex) (i o:Nat) (y:Ex) (j:Nat),zbl l D s f x i o=.ok y j->i<=j:=by
 intro f
 induction f with
 | zero=>intro x i o y j h;cases h
 | succ f ih =>
  intro x i o y j h;rw[zbl] at h;split at h
  ·cases h;exact zr _
  ·obtain⟨z,m,q,d⟩:=PR.bind_ok h;have:=g _ _ _ _ q;split at d
   ·cases d;omega
   ·have:=ih _ _ _ _ _ d;omega
theorem zg9{l:List Tok}{E:Nat->Nat->PR Ex}(g:∀i o x j,E i o=.ok x j->i<j):∀(d i o:Nat) (x:Ex) (j:Nat),zbp l E d i o=.ok x j->i<j:=by
 intro d
 induction d with
 | zero=>intro i o x j h;exact zd5 (fun i o q x j h=>g i o x j h) _ _ _ _ _ h
 | succ d ih =>
  intro i o x j h;rw[zbp] at h;obtain⟨z,m,u,f⟩:=PR.bind_ok h;have:=ih _ _ _ _ u;have:=zlw (fun j o x m=>ih j o x m) _ _ _ _ _ _ f;omega
theorem zeZ(l:List Tok):∀(f i o:Nat) (x:Ex) (j:Nat),zbI l f i o=.ok x j->i<j:=by
 intro f
 induction f with
 | zero=>intro i o x j h;cases h
 | succ f ih=>intro i o x j h;exact zg9 ih _ _ _ _ _ h
theorem ze0{l:List Tok}{p:Nat}{v:Value}(q:PEnv l):∀(n i o g:Nat) (w:World),l.length+1-i<=n->l.length+1-i<=g->o<=300->PSt w p v l i o ->
  Calls Tryz.prog 65 #[.pointer (some ⟨p,0,none⟩)] w (RdE l p v o w (ExN w.heap.size) (zbI l g i o)):=by
 intro n
 induction n with
 | zero=>intro i o g w G _ _ h;have:=h.here;omega
 | succ n ih =>
  intro i o g w G z C h;rw[zeC l g i o z]
  have u:∀j o' W,i<=j->o'<=300->PSt W p v l j o'->Calls Tryz.prog 159 #[.pointer (some ⟨p,0,none⟩)] W (RdE l p v o' W (ExN W.heap.size) (zah l (fun i o _=>zbI l (g-1) i o) j o')):=
   fun j o' W hj ho' hP=>zih hP q _ (fun i' o2 W' hi' ho2 hP'=>ih i' o2 (g-1) W' (by omega) (by omega) ho2 hP') (fun i' o2 x m=>zeZ l (g-1) i' o2 x m) ho'
  have f:∀d j o' x m,zbp l (zbI l (g-1)) d j o'=.ok x m->j<m:=fun d j o' x m=>zg9 (zeZ l (g-1)) d j o' x m
  have F:LevC l p v i 5 (zbp l (zbI l (g-1)) 0):=zj9 _ (fun j o' W hj ho' hP=>by
   have H:=hP.here;have:=zj7 q (fun i o _=>zbI l (g-1) i o) (l.length+1-j) j o' W (by omega) ho' hP (fun j2 o2 W2 hj2 ho2 hP2=>u j2 o2 W2 (by omega) ho2 hP2)
   exact this)
  have E:LevC l p v i 4 (zbp l (zbI l (g-1)) 1):=zc2 q (by omega) _ (f 0) F;have B:LevC l p v i 3 (zbp l (zbI l (g-1)) 2):=zc2 q (by omega) _ (f 1) E;have y:LevC l p v i 2 (zbp l (zbI l (g-1)) 3):=zc2 q (by omega) _ (f 2) B;have A:LevC l p v i 1 (zbp l (zbI l (g-1)) 4):=zc2 q (by omega) _ (f 3) y;have D:LevC l p v i 0 (zbp l (zbI l (g-1)) 5):=zc2 q (by omega) _ (f 4) A;exact zm9 h C _ D
theorem zka{w:World}{p:Nat}{v:Value}{l:List Tok}{i o:Nat}(h:PSt w p v l i o)(hE:PEnv l)(ho:o<=300) :
  Calls Tryz.prog 127 #[.pointer (some ⟨p,0,none⟩)] w (RdE l p v o w (ExN w.heap.size) ((za0 l i [61]).andThen fun _ k=>(zbv l k o).andThen fun x j=>(za0 l j [59]).andThen fun _ m=>.ok x m)):=by
 obtain⟨d,F⟩:∃r,((za0 l i [61]).andThen fun _ k=>(zbv l k o).andThen fun x j=>(za0 l j [59]).andThen fun _ m=>.ok x m)=r:=⟨_,rfl⟩;rw[F];have Hf:=zh F;clear F;have ap:=h.lt;have hv:=zao h;obtain⟨W0,ac,K,Y⟩:∃W0,W0=w.alloc (.cells #[.int .u8 0,.int .i64 0,.string { data:=#[] },.slice none 0 0] 29)/\Below w.heap.size w W0/\OwnV W0 w.heap.size 29 zeroE:=⟨_,rfl,(yR _ _).alloc (zr _) _,OwnV.new _ _ _⟩;have HN:=zh (zcv (h.below K) hE [61]);have HX:Hid (∀k W,PSt W p v l k o->Calls Tryz.prog 65 #[.pointer (some ⟨p,0,none⟩)] W (RdE l p v o W (ExN W.heap.size) (zbv l k o))):=zh (fun k W hP=>ze0 hE (l.length+1-k) k o _ W (zr _) (zr _) ho hP);have Z:Hid (∀k W,PSt W p v l k o->Calls Tryz.prog 131 #[.pointer (some ⟨p,0,none⟩),.string { data:=#[59] }] W (RdE l p v o W zgl (za0 l k [59]))):=zh (fun k W hP=>zcv hP hE [59]);have am:=zh ac;have R:=zh K;have ak:=zh Y;clear ac K Y h hE
 generalize za0 l i [61]=R0 at *
 go_enter Tryz.func127,Tryz.ntmps127
 go_upto_region 1 with(fail)
 rw[<-am.out];go_wp2_with fail
 go_at_call 131;refine HN.out.mono ?_;intro e1 w1 D;clear HN
 cases R0 with
 | err a c =>
  obtain⟨D,z⟩:=D;unfold Bad at D;subst D;have G:=zh z;clear z;go_wp2_with fail
  have q:Hid (.err a c=d):=Hf;refine⟨rfl,?_⟩;rw[<-q.out]
  exact⟨rfl,(Turns.below R.out).trans G.out⟩
 | ok y k =>
  obtain⟨u1,rfl,rfl,ae,z⟩:=D;have ab:=zh (z.own ak.out (by omega));have G:=zh ((Turns.below R.out).trans z);have I:=zh (HX.out k w1 ae);have ar:=ab.out.lt;have q:Hid ((zbv l k o).andThen (fun x j=>(za0 l j [59]).andThen fun _ m=>.ok x m)=d):=Hf;generalize zbv l k o=R1 at I q;clear z HX Hf;go_wp2_with fail
  go_at_call 65;refine I.out.mono ?_;intro e2 w2 E;clear I
  cases R1 with
  | err a c =>
   obtain⟨E,g⟩:=E;unfold Bad at E;subst E;have ai:=zh g;clear g;have B:Hid (.err a c=d):=q;go_wp2_with fail
   refine⟨rfl,?_⟩;rw[<-B.out]
   exact⟨rfl,G.out.trans ai.out⟩
  | ok x j =>
   obtain⟨u,rfl,⟨cs,rfl,N⟩,U,g⟩:=E;obtain⟨op,n,name,args⟩:=x;obtain⟨aa,cp,rfl⟩:=N.form1;have V:=g.own ab.out (by omega);obtain⟨X,T,C,H⟩:∃X,X=w2.alloc (.cells #[.int .u8 op,.int .i64 n,.string (bstr name),.slice aa args.length cp] 29)/\Below w2.heap.size w2 X/\OwnV X w2.heap.size 29 [.int .u8 op,.int .i64 n,.string (bstr name),.slice aa args.length cp]:=⟨_,rfl,(yR _ _).alloc (zr _) _,OwnV.new _ _ _⟩;have ag:=zh T;have aj:=zh (N.under C (zr _));have af:=zh (V.below C (zr _));have an:=zh H;have O:=zh ((G.out.trans g).trans (Turns.below C));have I:=zh (Z.out j X (U.below C));have ao:=g.size;have aq:=H.lt;have B:Hid ((za0 l j [59]).andThen (fun _ m=>.ok (.mk op n name args) m)=d):=q;generalize za0 l j [59]=R2 at I B;clear T C H N U g V Z q;go_upto_region 3 with(fail)
   rw[<-ag.out];go_wp2_with fail
   go_at_call 131;refine I.out.mono ?_;intro e4 w4 A;clear I
   cases R2 with
   | err a c =>
    obtain⟨A,f⟩:=A;unfold Bad at A;subst A;have J:=zh f;clear f;have L:Hid (.err a c=d):=B;go_wp2_with fail
    refine⟨rfl,?_⟩;rw[<-L.out]
    exact⟨rfl,O.out.trans J.out⟩
   | ok y m =>
    obtain⟨u4,rfl,rfl,P,f⟩:=A;have L:Hid (.ok (.mk op n name args) m=d):=B;have Q:=f.own an.out (by omega);have M:=f.own af.out (by omega);obtain⟨o0,o1,o2,o3⟩:=yc4 Q;obtain⟨b0,b1,b2,b3⟩:=yc4 M;have bf:=M.free;have ah:=zh (aj.out.grown (Turns.grown (p:=p) f) (fun b e h=>by cases e;omega));have ad:=zh P;have J:=zh (O.out.trans f);clear P f Q M;go_wp2_with fail
    rw[<-L.out];refine yE (v:=.agg #[.int .u8 op,.int .i64 n,.string (bstr name),.slice aa args.length cp]) (by simp[results,Tryz.results127,go_sem,b0,b1,b2,b3]) rfl ⟨_,rfl,⟨_,rfl,?_⟩,?_,?_⟩
    ·have hP:¬(w1.heap.size<=w.heap.size):=by omega
     exact((((ah.out.set hP).set hP).set hP).set hP).weak fun b _ h=>by omega
    ·exact ad.out.only (S:=fun b=>b=w.heap.size) (((((Turns.refl w.heap.size w4).set _ _).set _ _).set _ _).set _ _) (by omega) (fun b hb=>by have:=hv b hb;omega)
    ·exact(((J.out.setNew (zr _) _).setNew (zr _) _).setNew (zr _) _).setNew (zr _) _
theorem zkb(l:List Tok)(i o:Nat):((za0 l i [61]).andThen fun _ k=>(zbv l k o).andThen fun x j=>(za0 l j [59]).andThen fun _ m=>.ok x m)=zaz l i o:=by
 rw[<-valueP];unfold za0;by_cases h:isS l i [61]=false
 ·rw[yP h,yP h];rfl
 ·rw[yN h,yN h];show(zbv l (i+1) o).andThen _=_;congr 1
  funext x j
  by_cases d:isS l j [59]=false
  ·rw[yP d,yP d];rfl
  ·rw[yN d,yN d];rfl
theorem zeh{w:World}{p:Nat}{v:Value}{l:List Tok}{i o:Nat}(h:PSt w p v l i o)(d:PEnv l)(f:o<=300) :
  Calls Tryz.prog 127 #[.pointer (some ⟨p,0,none⟩)] w (RdE l p v o w (ExN w.heap.size) (zaz l i o)):=by
 have:=zka h d f;rw[zkb] at this;exact this
theorem zei{w:World}{p d:Nat}{v:Value}{l:List Tok}{i o:Nat}{start stop:List UInt8}(h:PSt w p v l i o)(f:PEnv l)(q:o<=300)(j:zeB stop)
  (g:OwnV w d 54 (List.replicate 1 (zbs p))) (n5:d≠p) :
  Calls Tryz.prog 126 #[.pointer (some ⟨p,0,none⟩),.string (bstr start),.string (bstr stop),.slice (some ⟨d,0,none⟩) 1 1] w (RdE l p v o w (XsV w.heap.size) (zad l (zaA l) i o start stop 1)):=by
 have:=zce (start:=start) (stop:=stop) h f q (fun i o _=>zbv l i o) g n5 (by decide) (by decide) (fun i' W hi ho2 hP=>ze0 f (l.length+1-i') i' (o+1) _ W (zr _) (zr _) (by omega) hP) (fun i' x m=>zeZ l _ i' (o+1) x m);rw[znh l i o start stop 1 j] at this;exact this
end Go.Proofs.YtoaojdobjinhfaaGreatDoor
