/- The program's parser: statement, walked: all cases. -/
import Derived.Test.YtoaojdobjinhfaaGreatDoorPaUPz
set_option linter.unusedSimpArgs false
set_option linter.unusedVariables false
set_option maxRecDepth 100000
set_option maxHeartbeats 8000000
namespace Go.Proofs.YtoaojdobjinhfaaGreatDoor
open Go.RowKit

theorem stmt_ret{tmps:Array Value}{w:World}{g:Nat}{a b c d e f:Value}(h:tmps[2]?.getD undef=.pointer (some ⟨g,0,none⟩))(H:OwnV w g 56 [a,b,c,d,e,f]) :
  (results Tryz.f91 tmps).run Tryz.prog w=.ok (.agg #[a,b,c,d,e,f]) w:=by
 obtain⟨j,m,b2,q,i,l⟩:=yc6 H;simp[results,Tryz.results91,go_sem,h,j,m,b2,q,i,l]
section
variable {W : World} {g p i o : Nat} {a b c d e f : Value}
theorem six_own{y:TypeId}{m q i l j z5:Value}(H:OwnV W g y [m,q,i,l,j,z5]):OwnV ((((((W.setCell ⟨g,0,none⟩ a).setCell ⟨g,1,none⟩ b).setCell ⟨g,2,none⟩ c).setCell ⟨g,3,none⟩ d).setCell ⟨g,4,none⟩ e).setCell ⟨g,5,none⟩ f) g y [a,b,c,d,e,f]:=(((((H.set 0 _).set 1 _).set 2 _).set 3 _).set 4 _).set 5 _
theorem six_on:Only (fun b=>b=g) W ((((((W.setCell ⟨g,0,none⟩ a).setCell ⟨g,1,none⟩ b).setCell ⟨g,2,none⟩ c).setCell ⟨g,3,none⟩ d).setCell ⟨g,4,none⟩ e).setCell ⟨g,5,none⟩ f):=(((((Turns.refl g W).set _ _).set _ _).set _ _).set _ _).set _ _ |>.set _ _
theorem six_st{v:Value}{l:List Tok}(h:PSt W p v l i o)(hp:p≠g)(j:∀b,v.ownBlock=some b->b≠g):PSt ((((((W.setCell ⟨g,0,none⟩ a).setCell ⟨g,1,none⟩ b).setCell ⟨g,2,none⟩ c).setCell ⟨g,3,none⟩ d).setCell ⟨g,4,none⟩ e).setCell ⟨g,5,none⟩ f) p v l i o:=h.only six_on hp j
theorem six_turns{w:World}(h:Turns p w W)(i:w.heap.size<=g):Turns p w ((((((W.setCell ⟨g,0,none⟩ a).setCell ⟨g,1,none⟩ b).setCell ⟨g,2,none⟩ c).setCell ⟨g,3,none⟩ d).setCell ⟨g,4,none⟩ e).setCell ⟨g,5,none⟩ f):=h.transNew six_on (fun b e=>.inr (by omega))
end
theorem stmt_words{s t:List UInt8}(h:s=t)(i f g d j:Bool)(l:decide (t=[108,101,116])=i/\decide (t=[105,102])=f/\decide (t=[119,104,105,108,101])=g/\decide (t=[115,116,111,112])=d/\decide (t=[102,97,105,108])=j) :
  ((bstr s).toList==[108,101,116])=i/\((bstr s).toList==[105,102])=f/\((bstr s).toList==[119,104,105,108,101])=g/\((bstr s).toList==[115,116,111,112])=d/\((bstr s).toList==[102,97,105,108])=j:=by
 subst h;simp only[zal];exact l
theorem stmt_cases(s:List UInt8):s=[108,101,116]∨s=[105,102]∨s=[119,104,105,108,101]∨s=[115,116,111,112]∨s=[102,97,105,108]∨(s≠[108,101,116]/\s≠[105,102]/\s≠[119,104,105,108,101]/\s≠[115,116,111,112]/\s≠[102,97,105,108]):=by
 by_cases i:s=[108,101,116]
 ·exact .inl i
 by_cases f:s=[105,102]
 ·exact .inr (.inl f)
 by_cases d:s=[119,104,105,108,101]
 ·exact .inr (.inr (.inl d))
 by_cases g:s=[115,116,111,112]
 ·exact .inr (.inr (.inr (.inl g)))
 by_cases j:s=[102,97,105,108]
 ·exact .inr (.inr (.inr (.inr (.inl j))))
 exact .inr (.inr (.inr (.inr (.inr ⟨i,f,d,g,j⟩))))
theorem stop_spec{l:List Tok}{i:Nat}{op:Int}:(if isS l (i+1) [59]=false then(.err (i+1) 120:PR St) else .ok (.mk op 0 [] [] [] []) (i+2))=(za0 l (i+1) [59]).andThen fun _ j=>.ok (.mk op 0 [] [] [] []) j:=by
 unfold za0;split <;> rfl
theorem let_spec{l:List Tok}{i o:Nat}:(if(zaa l (i+1)).kind≠1∨zaP (zaa l (i+1)).text=false then(.err (i+1) 120:PR St) else(zaz l (i+2) o).map fun x=>.mk 1 0 (zaa l (i+1)).text [x] [] [])=(zcc l (i+1)).andThen fun s k=>(zaz l k o).map fun x=>.mk 1 0 s [x] [] []:=by
 unfold zcc;split <;> rfl
theorem set_spec{l:List Tok}{i o:Nat}{s:List UInt8}(g:(zaa l i).text=s)(f:(zaa l i).kind=1):(if zaP s=false then(.err i 120:PR St) else(zaz l (i+1) o).map fun x=>.mk 2 0 s [x] [] [])=(zcc l i).andThen fun s k=>(zaz l k o).map fun x=>.mk 2 0 s [x] [] []:=by
 subst g;unfold zcc;by_cases d:zaP (zaa l i).text=false
 ·rw[yP d,yP (.inr d)];rfl
 ·rw[yN d,yN (by rw[f];simpa using d)];rfl
theorem while_spec{l:List Tok}{i o:Nat}{S:Nat->Nat->PR St}(hi:i<l.length)(q:(zaa l i).text=[119,104,105,108,101])(d:(zaa l i).kind=1):zau l S (l.length+1-i) i o=(zad l (zaA l) (i+1) o [40] [41] 1).andThen fun x j=>(zaB l S j o).andThen fun body k=>.ok (.mk 5 0 [] x body []) k:=by
 have f:isS l i [119,104,105,108,101]=true:=by unfold isS;rw[d,q];decide
 obtain⟨g,m⟩:∃g,l.length+1-i=g+1:=⟨l.length-i,by omega⟩;rw[m,zau,f];rfl
theorem pstmt_step{w:World}{p:Nat}{v:Value}{l:List Tok}{i o:Nat}(h:PSt w p v l i o)(hE:PEnv l)(ho:o<=300)(f:Nat)
  (bh:isS l i [105,102]=true->∀W,PSt W p v l i o->Calls Tryz.prog 129 #[.pointer (some ⟨p,0,none⟩)] W (RdE l p v o W (StN W.heap.size) (zau l (zan l f) (l.length+1-i) i o)))
  (bi:∀j W,i<j->PSt W p v l j o->Calls Tryz.prog 130 #[.pointer (some ⟨p,0,none⟩)] W (RdE l p v o W (TsV W.heap.size) (zaB l (zan l f) j o))) :
  Calls Tryz.prog 91 #[.pointer (some ⟨p,0,none⟩)] w (RdE l p v o w (StN w.heap.size) (zan l (f+1) i o)):=by
 have hlt:=h.lt;have hv:=zao h;have cA:(i:Int)<=16385:=by have:=h.here;have:=hE.small;omega
 have cw:=zmf Tryz.prog
 obtain⟨W0,bw,aJ,bQ⟩:∃W0,W0=w.alloc (.cells #[.int .u8 0,.int .i64 0,.string { data:=#[] },.slice none 0 0,.slice none 0 0,.slice none 0 0] 56)/\Below w.heap.size w W0/\OwnV W0 w.heap.size 56 zeroT:=⟨_,rfl,(yR _ _).alloc (zr _) _,OwnV.new _ _ _⟩;have HN:=zh (zaQ (h.below aJ) hE);have H0:=zh (h.below aJ);have ci:=zh bw;have bO:=zh aJ;have bg:=zh bQ;obtain⟨u,hR⟩:∃R,zan l (f+1) i o=R:=⟨_,rfl⟩;have HR:Hid (zan l (f+1) i o=_):=zh (by rw[zan]);rw[hR] at HR ⊢;have HF:Hid (∀w',Below w.heap.size w w'->_):=zh (fun(w':World) (E:Below w.heap.size w w')=>zcl (h.below E) hE 120);have HK:Hid (∀w:World,_):=zh (fun w:World=>za5 (zaa l i).text w);have cj:Hid ((zaa l i).kind≠4->i+1<l.length):=zh (hE.good.next h.here);have bn:Hid (∀W,PSt W p v l (i+1) o->Calls Tryz.prog 131 #[.pointer (some ⟨p,0,none⟩),.string { data:=#[59] }] W (RdE l p v o W zgl (za0 l (i+1) [59]))):=zh (fun W hP=>zcv hP hE [59]);have aX:Hid (∀W j,PSt W p v l j o->_):=zh (fun W j hP=>zfL hP hE);have HV:Hid (∀k W,PSt W p v l k o->Calls Tryz.prog 127 #[.pointer (some ⟨p,0,none⟩)] W (RdE l p v o W (ExN W.heap.size) (zaz l k o))):=zh (fun k W hP=>zeh hP hE ho);have an:Hid ((zaa l i).kind=1->(zaa l i).text=[105,102]->_):=zh (fun hk hs=>bh (by unfold isS;rw[hk,hs];decide));have bM:=zh bi;have b6:Hid ((zaa l i).text=[119,104,105,108,101]->(zaa l i).kind=1->_):=zh (fun hs hk=>while_spec (S:=zan l f) (o:=o) h.here hs hk);have cd:Hid (∀s,(zaa l i).text=s->(zaa l i).kind=1->_):=zh (fun s hs hk=>set_spec (o:=o) hs hk);have bq:Hid (∀(W:World) (gp:Nat) (start stop:List UInt8),zeB stop->PSt W p v l (i+1) o->OwnV W gp 54 (List.replicate 1 (zbs p))->gp≠p->Calls Tryz.prog 126 #[.pointer (some ⟨p,0,none⟩),.string (bstr start),.string (bstr stop),.slice (some ⟨gp,0,none⟩) 1 1] W (RdE l p v o W (XsV W.heap.size) (zad l (zaA l) (i+1) o start stop 1))):=zh (fun W gp start stop hs hP hg hn=>zei hP hE ho hs hg hn);clear bw aJ bQ h hE hR bh bi
 generalize zaa l i=T at *
 go_enter Tryz.func91,Tryz.ntmps91
 go_upto_region 1 with(fail)
 rw[<-ci.out];go_wp2_with fail
 go_at_call 89;refine HN.out.mono ?_;rintro e1 w1⟨rfl,ay⟩;obtain⟨W2,bx,aK,aL⟩:∃W2,W2=w1.alloc (.cells #[.int .u8 T.kind,.string (bstr T.text),.int .i64 T.n,.int .i64 T.line,.int .i64 T.col] 51)/\Below w1.heap.size w1 W2/\OwnV W2 w1.heap.size 51 [.int .u8 T.kind,.string (bstr T.text),.int .i64 T.n,.int .i64 T.line,.int .i64 T.col]:=⟨_,rfl,(yR _ _).alloc (zr _) _,OwnV.new _ _ _⟩;have ch:=ay.size;have H2:=(H0.out.below ay).below aK;have bc:=(bg.out.below ay (zr _)).below aK (zr _);have aT:=ay.trans (aK.mono ch);have cb:=zh bx;have bU:=zh H2;have b7:=zh bc;have ca:=zh aL;have cq:=bg.out.lt;have au:=zh (bO.out.trans (aT.mono bO.out.size));obtain⟨k0,k1⟩:=yc2 aL;have ct:w1.heap.size<W2.heap.size:=aL.lt;have cC:p<W0.heap.size:=H0.out.lt;clear bx ay aK H2 bc aL aT HN;go_upto_region 2 with(fail)
 rw[<-cb.out];by_cases hk:T.kind=1
 ·have cg:(T.kind != 1)=false:=by simp[hk]
  have a4:=zh hk;have b8:=cj.out (by rw[hk];decide);have av:Hid (u=_):=zh (HR.out.trans (yN (fun e=>e hk)));have bD:=zdg T.text;obtain⟨K,hK⟩:∃K,zap T.text=K:=⟨_,rfl⟩;rw[hK] at av HK bD;clear hk HR hK;have co:(K:Int)<=10:=by omega
  go_wp2_with fail
  go_at_call 23;refine(HK.out _).mono ?_;rintro e4 w4⟨rfl,ag⟩;have ak:=zh (bU.out.below ag);have aI:=zh (b7.out.below ag (zr _));have aQ:=zh (ca.out.below ag (zr _));have ap:=zh (au.out.trans (ag.mono au.out.size));have k1:=aQ.out.cell (i:=1) rfl;have x1:=ak.out.blk.cell (i:=1) rfl;have xf:=ak.out.blk.free;have cB:=aI.out.lt;have cu:=ak.out.lt;obtain⟨W5,bt,a6,aN⟩:∃W5,W5=w4.setCell ⟨p,1,none⟩ (.int .i64 ((i:Int)+1))/\PSt W5 p v l (i+1) o/\Turns p w4 W5:=⟨_,rfl,ak.out.step b8,(Turns.refl _ _).set _ _⟩;have a9:=aN.own aI.out (by omega);have aU:=aN.own aQ.out (by omega);have aj:=zh bt;have aF:=zh a6;have af:=zh ((Turns.below ap.out).trans aN);have am:=zh a9;have aG:=zh aU;have bF:=a9.lt;have bj:=a6.lt;clear bt a6 aN a9 aU ag
  have G:Hid (∀start stop:List UInt8,zeB stop->∃L,Hid (L=W5.alloc (.cells #[.func (.func 65) #[.pointer (some ⟨p,0,none⟩)] #[]] 54))/\Hid (Calls Tryz.prog 126 #[.pointer (some ⟨p,0,none⟩),.string (bstr start),.string (bstr stop),.slice (some ⟨W5.heap.size,0,none⟩) 1 1] L (RdE l p v o L (XsV L.heap.size) (zad l (zaA l) (i+1) o start stop 1)))/\Hid (OwnV L w.heap.size 56 zeroT)/\Hid (Turns p w L)/\W5.heap.size<L.heap.size):=zh (fun start stop hst=>by
   obtain⟨L,cc,a1,bA⟩:∃L,L=W5.alloc (.cells #[.func (.func 65) #[.pointer (some ⟨p,0,none⟩)] #[]] 54)/\Below W5.heap.size W5 L/\OwnV L W5.heap.size 54 (List.replicate 1 (zbs p)):=⟨_,rfl,(yR _ _).alloc (zr _) _,OwnV.new _ _ _⟩
   exact⟨L,zh cc,zh (bq.out L _ start stop hst (aF.out.below a1) bA (by omega)),zh (am.out.below a1 (zr _)),zh (af.out.trans (Turns.below a1)),bA.lt⟩)
  clear bq;by_cases aM:0<K
  ·have cm:(K:Int)>0:=by omega
   have cz:(0:Int)<(K:Int):=by omega
   have d:Hid (u=_):=zh (av.out.trans (yP aM));have bm:∀xs j,zad l (zaA l) (i+1) o [91] [93] 1=.ok xs j->xs.length=1:=fun xs j e=>zdC e
   clear av aM;obtain⟨L,a8,HC,J,B,aC⟩:=G.out [91] [93] (by simp[zeB]);clear G;go_upto_region 7 with(fail)
   rw[<-aj.out];clear x1 xf k0 k1;go_wp2_with fail
   rw[<-a8.out];go_at_call 126;refine HC.out.mono ?_;intro e7 O D;clear HC
   generalize zad l (zaA l) (i+1) o [91] [93] 1=R at *
   cases R with
   | err a c =>
    obtain⟨D,q⟩:=D;unfold Bad at D;subst D;have Y:=zh q;clear q;go_wp2_with fail
    refine⟨rfl,?_⟩;rw[d.out]
    exact⟨rfl,B.out.trans Y.out⟩
   | ok xs j =>
    simp only[PR.andThen] at d;have cs:xs.length<=1:=Nat.le_of_eq (bm xs j rfl);clear bm;obtain⟨u7,rfl,⟨be,U,V⟩,Z,q⟩:=D;have aE:=q.size;obtain⟨ua,cap,rfl,-,-⟩:=Sl.form (Sl.of_own U);have HC:=zh (HV.out j O Z);have bT:=zh (q.own J.out (by omega));have a3:=zh U;have bY:=zh V;have Y:Hid (Turns p w O):=zh (B.out.trans q)
    generalize zaz l j o=R2 at *
    clear U V Z q HV;go_wp2_with fail
    go_at_call 127;refine HC.out.mono ?_;intro e8 w8 aA;clear HC
    cases R2 with
    | err a c =>
     obtain⟨aA,ad⟩:=aA;unfold Bad at aA;subst aA;have Q:=zh ad;clear ad;go_wp2_with fail
     refine⟨rfl,?_⟩;rw[d.out]
     exact⟨rfl,Y.out.trans Q.out⟩
    | ok y k =>
     obtain⟨u8,rfl,⟨cD,rfl,ba⟩,bC,ad⟩:=aA;obtain⟨op,n,name,args⟩:=y;obtain⟨aa,cp,rfl⟩:=ba.form1;have bs:=ad.size;have ah:=ad.row a3.out (fun g hg e=>by have:=(a3.out.lt g hg).1;omega);have bJ:=zh ah;have aW:=zh (ad.own bT.out (by omega));have bb:=zh bC;have aY:=zh ba;have Q:=zh ad;clear ba bC ad;have cv:IntKind.i64.wrap (K:Int)=K:=by simp[IntKind.wrap,IntKind.bits];omega
     have Hn:=zh (show p<w.heap.size/\w.heap.size<L.heap.size/\L.heap.size<=O.heap.size/\O.heap.size<=w8.heap.size from⟨hlt,by omega,aE,bs⟩);go_wp2_with (at_builtin;apply zbj (s:=.tmp 35) (x:=.tmp 38) (t:=27) (hown:=ah) (hi:=zbx) (ht:=Tryz.underlying27) (m:=1) (c:=1);(rfl);(decide);rfl;rfl;rfl;rfl;(unfold maxLen;omega);omega;omega;rotate_left;rfl;rfl;(intro v9 w9 aw a0 cx bS;obtain⟨g9,br,rfl,bN⟩:=zcd aw;have I:OwnV w9 w.heap.size 56 zeroT:=OwnV.grown aW.out a0 (fun e=>by have:=(bJ.out.lt _ e.symm).1;have:=Hn.out;omega);have bW:=zh I;obtain⟨b0,b1,b2,b3,b4,b5⟩:=yc6 I;have bf:=I.free))
     have bV:=zjE (p:=p) (X:=w8) a3.out bY.out Q.out (by omega) aY.out aE (yR _ _) a0 bS;have F:Only (fun b=>(Value.slice ua xs.length cap).ownBlock=some b) w8 w9:=Only.of_grown a0 (fun g e=>e);have az:∀g,(Value.slice ua xs.length cap).ownBlock=some g->L.heap.size<=g:=fun g e=>(bJ.out.lt g e).1
     have bR:Hid (StsC w9 (fun b=>L.heap.size<=b) [.mk 3 K [] (xs++[.mk op n name args]) [] []] [.int .u8 3,.int .i64 K,.string { data:=#[] },.slice (some ⟨g9,0,none⟩) (xs++[Ex.mk op n name args]).length br,.slice none 0 0,.slice none 0 0]):=zh (.cons (name:=[]) (by have:=Sl.of_own aw;rwa[show xs.length+1=(xs++[Ex.mk op n name args]).length from by simp] at this) (.inr fun g e=>by cases e;exact bN) (bV.weak fun b _ E=>E.1) (Sl.nil _ 6) (.inl rfl) .nil (Sl.nil _ 6) (.inl rfl) .nil .nil);rw[show(xs++[Ex.mk op n name args]).length=xs.length+1 from by simp] at bR;have bX:=zh (bb.out.only F (fun e=>by have:=az _ e;omega) (fun g e e2=>by have:=az _ e2;have:=hv g e;omega));have a7:Hid (Turns p w w9):=zh ((Y.out.trans Q.out).transNew F (fun b e=>.inr (by have:=az _ e;omega)));have ck:=F.size;exact yE (stmt_ret rfl (six_own bW.out)) rfl (by rw[d.out];exact⟨_,rfl,⟨_,rfl,(bR.out.only six_on (fun b E e=>by omega)).weak fun b _ E=>by omega⟩,six_st bX.out (by omega) (fun b E e=>by have:=hv b E;omega),six_turns a7.out (zr _)⟩)
  obtain rfl:K=0:=by omega
  have H:Hid (u=_):=zh (av.out.trans (yN aM));clear av aM;rcases stmt_cases T.text with hS|hS|hS|hS|hS|⟨n0,n1,n2,n3,n4⟩
  focus
   obtain⟨e0,e1,e2,e3,e4⟩:=stmt_words hS true false false false false (by decide)
   have d:Hid (u=(zcc l (i+1)).andThen fun s k=>(zaz l k o).map fun x=>.mk 1 0 s [x] [] []):=zh (by
    rw[H.out,yN (by rw[hS];decide),yN (by rw[hS];decide),yP hS];exact let_spec)
   clear H hS G;go_upto_region 12 with(fail)
   rw[<-aj.out];clear x1 xf k0 k1;go_wp2_with fail
   go_at_call 128;refine(aX.out _ _ aF.out).mono ?_
   generalize zcc l (i+1)=R at *
  rotate_left
  ·obtain⟨e0,e1,e2,e3,e4⟩:=stmt_words hS false true false false false (by decide);have d:Hid (u=_):=zh (H.out.trans ((yN (by rw[hS];decide)).trans (yP (.inl hS))));have an:=an.out a4.out hS;have an:=zh an
   generalize zau l (zan l f) (l.length+1-i) i o=R at *
   clear H hS G aj aF af am aG bF bj x1 xf k0;go_upto_region 15 with(fail)
   clear k1;go_wp2_with fail
   go_at_call 129;refine(an.out _ ak.out).mono ?_;intro e6 w6 C;clear an
   cases R with
   | err a c =>
    obtain⟨C,A⟩:=C;unfold Bad at C;subst C;have B:=zh A;clear A;go_wp2_with fail
    refine⟨rfl,?_⟩;rw[d.out]
    exact⟨rfl,(Turns.below ap.out).trans B.out⟩
   | ok x j =>
    obtain⟨u6,rfl,⟨cr,rfl,aZ⟩,ac,A⟩:=C;obtain⟨op,n,name,es,bo,el⟩:=x;obtain⟨ae,pe,ab,pb,al,pl,rfl⟩:=aZ.form1;have J:=zh (A.own aI.out (by omega));obtain⟨b0,b1,b2,b3,b4,b5⟩:=yc6 J.out;have bf:=J.out.free;have ce:=zh aZ;have a5:=zh ac;have B:Hid (Turns p w w6):=zh ((Turns.below ap.out).trans A);clear aZ ac A;go_wp2_with fail
    exact yE (stmt_ret rfl (six_own J.out)) rfl (by rw[d.out];exact⟨_,rfl,⟨_,rfl,(ce.out.only six_on (fun b E e=>by omega)).weak fun b _ E=>by omega⟩,six_st a5.out (by omega) (fun b E e=>by have:=hv b E;omega),six_turns B.out (zr _)⟩)
  ·obtain⟨e0,e1,e2,e3,e4⟩:=stmt_words hS false false true false false (by decide);have d:Hid (u=_):=zh (H.out.trans ((yN (by rw[hS];decide)).trans ((yP (.inr hS)).trans (b6.out hS a4.out))));have cf:∀xs j,zad l (zaA l) (i+1) o [40] [41] 1=.ok xs j->i+1<j:=fun xs j e=>zb2 (zb3 l) e
   clear H hS;obtain⟨L,a8,HC,J,B,aC⟩:=G.out [40] [41] (by simp[zeB]);clear G;go_upto_region 18 with(fail)
   rw[<-aj.out];clear x1 xf k0 k1;go_wp2_with fail
   rw[<-a8.out];go_at_call 126;refine HC.out.mono ?_;intro e7 O D;clear HC
   generalize zad l (zaA l) (i+1) o [40] [41] 1=R at *
   cases R with
   | err a c =>
    obtain⟨D,q⟩:=D;unfold Bad at D;subst D;have Y:=zh q;clear q;go_wp2_with fail
    refine⟨rfl,?_⟩;rw[d.out]
    exact⟨rfl,B.out.trans Y.out⟩
   | ok xs j =>
    simp only[PR.andThen] at d;have hj:=cf xs j rfl;obtain⟨u7,rfl,⟨be,U,V⟩,Z,q⟩:=D;have aE:=q.size
    have aS:StsC O (fun b=>L.heap.size<=b/\b≠O.heap.size) [.mk 5 0 [] xs [] []] [.int .u8 5,.int .i64 0,.string { data:=#[] },u7,.slice none 0 0,.slice none 0 0]:=
     .cons (name:=[]) (Sl.of_own U) (.inr fun g e=>⟨(U.lt g e).1,by have:=(U.lt g e).2;omega⟩) (V.weak fun b hlt E=>⟨E.1,by omega⟩) (Sl.nil _ 6) (.inl rfl) .nil (Sl.nil _ 6) (.inl rfl) .nil .nil
    obtain⟨ua,cap,rfl,-,-⟩:=Sl.form (Sl.of_own U);have bu:=q.own J.out (by omega);obtain⟨W8,ao,M,aq⟩:∃W8,W8=O.alloc (.cells #[.int .u8 5,.int .i64 0,.string { data:=#[] },.slice ua xs.length cap,.slice none 0 0,.slice none 0 0] 56)/\Below O.heap.size O W8/\OwnV W8 O.heap.size 56 [.int .u8 5,.int .i64 0,.string { data:=#[] },.slice ua xs.length cap,.slice none 0 0,.slice none 0 0]:=⟨_,rfl,(yR _ _).alloc (zr _) _,OwnV.new _ _ _⟩;have HC:=zh (bM.out j W8 (by omega) (Z.below M));have aW:=zh (bu.below M (zr _));have aY:=zh (aS.under M (zr _));have Q:Hid (Turns p w W8):=zh ((B.out.trans q).trans (Turns.below M));have aV:=zh ao;have bZ:=zh aq;have bs:O.heap.size<W8.heap.size:=aq.lt
    generalize zaB l (zan l f) j o=R2 at *
    clear U V aS Z q bu ao M aq bM;go_upto_region 19 with(fail)
    rw[<-aV.out];go_wp2_with fail
    go_at_call 130;refine HC.out.mono ?_;intro e9 w9 ar;clear HC
    cases R2 with
    | err a c =>
     obtain⟨ar,F⟩:=ar;unfold Bad at ar;subst ar;have a7:=zh F;clear F;go_wp2_with fail
     refine⟨rfl,?_⟩;rw[d.out]
     exact⟨rfl,Q.out.trans a7.out⟩
    | ok body k =>
     obtain⟨u9,rfl,⟨cy,I,bv⟩,bE,F⟩:=ar;have ck:=F.size;have aH:=F.own bZ.out (by omega);have aR:=zin (aY.out.only F (fun b E e=>by have:=E.1;omega)) (body:=body) (Sl.of_own I) (.inr fun g e=>⟨by have:=(I.lt g e).1;omega,by have:=(I.lt g e).1;omega⟩) (bv.weak fun b hlt E=>⟨by have:=E.1;omega,by have:=E.1;omega⟩);obtain⟨ub,aP,rfl,-,-⟩:=Sl.form (Sl.of_own I);have bG:=F.own aW.out (by omega);have y4:=aH.cell (i:=4) rfl;have yf:=aH.free;obtain⟨ax,aD,N⟩:∃ax,ax=w9.setCell ⟨O.heap.size,4,none⟩ (.slice ub body.length aP)/\Only (fun b=>b=O.heap.size) w9 ax:=⟨_,rfl,(Turns.refl _ _).set _ _⟩;have aO:OwnV ax O.heap.size 56 [.int .u8 5,.int .i64 0,.string { data:=#[] },.slice ua xs.length cap,.slice ub body.length aP,.slice none 0 0]:=by rw[aD];exact aH.set 4 _
     have bP:=zh (bE.only N (by omega) (fun b E e=>by have:=hv b E;omega));have ai:=N.own bG (by omega);have bH:=zh (aR.only N (fun b E e=>E.2 e));have bK:Hid (Turns p w ax):=zh ((Q.out.trans F).transNew N (fun b e=>.inr (by omega)));have bp:=zh aD;have cl:=N.size;obtain⟨x0,x1,x2,x3,x4,x5⟩:=yc6 aO;have bz:=zh ai;obtain⟨b0,b1,b2,b3,b4,b5⟩:=yc6 ai;have bf:=ai.free;clear I bv aR bE F bG aD N aH aO ai;go_upto_region 20 with(fail)
     rw[<-bp.out];clear y4 yf;go_wp2_with fail
     exact yE (stmt_ret rfl (six_own bz.out)) rfl (by rw[d.out];exact⟨_,rfl,⟨_,rfl,(bH.out.only six_on (fun b E e=>by have:=E.1;omega)).weak fun b _ E=>by have:=E.1;omega⟩,six_st bP.out (by omega) (fun b E e=>by have:=hv b E;omega),six_turns bK.out (zr _)⟩)
  focus
   obtain⟨e0,e1,e2,e3,e4⟩:=stmt_words hS false false false true false (by decide)
   have d:Hid (u=(za0 l (i+1) [59]).andThen fun _ j=>.ok (.mk 6 0 [] [] [] []) j):=zh (by
    rw[H.out,yP (.inl hS),hS];exact stop_spec)
   clear H hS
  rotate_left
  focus
   obtain⟨e0,e1,e2,e3,e4⟩:=stmt_words hS false false false false true (by decide)
   have d:Hid (u=(za0 l (i+1) [59]).andThen fun _ j=>.ok (.mk 7 0 [] [] [] []) j):=zh (by
    rw[H.out,yP (.inr hS),hS];exact stop_spec)
   clear H hS
  rotate_left
  focus
   have e0:=(zal T.text _).trans (decide_eq_false n0);have e1:=(zal T.text _).trans (decide_eq_false n1);have e2:=(zal T.text _).trans (decide_eq_false n2);have e3:=(zal T.text _).trans (decide_eq_false n3);have e4:=(zal T.text _).trans (decide_eq_false n4);have d:Hid (u=_):=zh (H.out.trans ((yN (by rintro(h|h);exact n3 h;exact n4 h)).trans ((yN (by rintro(h|h);exact n1 h;exact n2 h)).trans ((yN n0).trans (cd.out _ rfl a4.out)))));clear H n0 n1 n2 n3 n4 G aj aF af am aG bF bj x1 xf k0;have af:Hid (Turns p w w4):=zh (Turns.below ap.out);have am:=aI;go_upto_region 28 with(fail)
   clear k1;go_wp2_with fail
   go_at_call 128;refine(aX.out _ _ ak.out).mono ?_
   generalize zcc l i=R at *
  rotate_left
  rotate_left
  iterate 2
   focus
    clear G;go_upto_region 24 with(fail)
    rw[<-aj.out];clear x1 xf k0 k1
    generalize za0 l (i+1) [59]=R at *
    go_wp2_with fail
    go_at_call 131;refine(bn.out _ aF.out).mono ?_;intro e6 w6 C;clear bn
    cases R with
    | err a c =>
     obtain⟨C,A⟩:=C;unfold Bad at C;subst C;have B:=zh A;clear A;go_wp2_with fail
     refine⟨rfl,?_⟩;rw[d.out]
     exact⟨rfl,af.out.trans B.out⟩
    | ok y j =>
     obtain⟨u6,rfl,rfl,ac,A⟩:=C;have J:=zh (A.own am.out (by omega));have k1:=(A.own aG.out (by omega)).cell (i:=1) rfl;obtain⟨b0,b1,b2,b3,b4,b5⟩:=yc6 J.out;have bf:=J.out.free;have a5:=zh ac;have B:=zh (af.out.trans A);clear ac A;go_wp2_with fail
     exact yE (stmt_ret rfl (six_own J.out)) rfl (by rw[d.out];exact⟨_,rfl,⟨_,rfl,.cons (name:=[]) (Sl.nil _ 4) (.inl rfl) .nil (Sl.nil _ 6) (.inl rfl) .nil (Sl.nil _ 6) (.inl rfl) .nil .nil⟩,six_st a5.out (by omega) (fun b E e=>by have:=hv b E;omega),six_turns B.out (zr _)⟩)
  all_goals
   intro e6 w6 C;clear aX
   cases R with
   | err a c =>
    obtain⟨C,A⟩:=C;unfold Bad at C;subst C;have B:=zh A;clear A;go_wp2_with fail
    refine⟨rfl,?_⟩;rw[d.out]
    exact⟨rfl,af.out.trans B.out⟩
   | ok s k =>
    obtain⟨u6,rfl,aC,ac,A⟩:=C;unfold StrV at aC;subst aC;have bL:=zh (A.own am.out (by omega));have B:=zh (af.out.trans A);have HC:=zh (HV.out k w6 ac);have aC:=bL.out.lt;simp only[PR.andThen] at d;generalize zaz l k o=R1 at HC d;clear ac A HV;go_wp2_with fail
    go_at_call 127;refine HC.out.mono ?_;intro e7 O D;clear HC
    cases R1 with
    | err a c =>
     obtain⟨D,q⟩:=D;unfold Bad at D;subst D;have Y:=zh q;clear q;go_wp2_with fail
     refine⟨rfl,?_⟩;rw[d.out]
     exact⟨rfl,B.out.trans Y.out⟩
    | ok x j =>
     obtain⟨u7,rfl,⟨be,rfl,V⟩,Z,q⟩:=D;obtain⟨op,n,name,args⟩:=x;obtain⟨aa,cp,rfl⟩:=V.form1;obtain⟨W8,ao,M,aq⟩:∃W8,W8=O.alloc (.cells #[.int .u8 op,.int .i64 n,.string (bstr name),.slice aa args.length cp] 29)/\Below O.heap.size O W8/\OwnV W8 O.heap.size 29 [.int .u8 op,.int .i64 n,.string (bstr name),.slice aa args.length cp]:=⟨_,rfl,(yR _ _).alloc (zr _) _,OwnV.new _ _ _⟩;have aE:=q.size;have ah:=(q.own bL.out (by omega)).alloc (.cells #[.int .u8 op,.int .i64 n,.string (bstr name),.slice aa args.length cp] 29);obtain⟨b0,b1,b2,b3,b4,b5⟩:=yc6 ah;have bf:=ah.free;have I:OwnV W8 w.heap.size 56 zeroT:=by rw[ao];exact ah
     have a2:=fun z=>StsC.cons (w:=W8) (P:=fun b=>w6.heap.size<=b) (op:=z) (n:=0) (name:=s) (es:=[.mk op n name args]) (zcw aq (n:=1) rfl (zr _) (by decide)) (.inr fun g hg=>by cases hg;exact aE) (V.under M (zr _)) (Sl.nil _ 6) (.inl rfl) .nil (Sl.nil _ 6) (.inl rfl) .nil .nil
     have a2:=zh a2;have b9:=zh I;have aV:=zh ao;have bb:=zh (Z.below M);have Q:=zh ((B.out.trans q).trans (Turns.below M));clear ao M aq V Z q ah I;go_wp2_with fail
     rw[<-aV.out];exact yE (stmt_ret rfl (six_own b9.out)) rfl (by rw[d.out];exact⟨_,rfl,⟨_,rfl,((a2.out _).only six_on (fun b E e=>by omega)).weak fun b _ E=>by omega⟩,six_st bb.out (by omega) (fun b E e=>by have:=hv b E;omega),six_turns Q.out (zr _)⟩)
 ·have cg:(T.kind != 1)=true:=by simpa using hk
  have d:Hid (u=_):=zh (HR.out.trans (yP hk));clear hk HR;go_wp2_with fail
  go_at_call 90;refine(HF.out _ au.out).mono ?_;rintro e4 w4⟨bd,ag⟩;unfold Bad at bd;subst bd;have ap:=zh (au.out.trans (ag.mono au.out.size));clear ag;go_wp2_with fail
  refine⟨rfl,?_⟩;rw[d.out];exact⟨rfl,Turns.below ap.out⟩

theorem zlD{l:List Tok}{p:Nat}{v:Value}(d:PEnv l):∀(f i o:Nat) (w:World),l.length-i<f->o<=300->PSt w p v l i o ->
  Calls Tryz.prog 91 #[.pointer (some ⟨p,0,none⟩)] w (RdE l p v o w (StN w.heap.size) (zan l f i o)):=by
 intro f
 induction f with
 | zero=>intro i o w h;omega
 | succ f ih =>
  intro i o w q g h;have m:∀i' o' W,i<i'->o'<=300->PSt W p v l i' o'->Calls Tryz.prog 91 #[.pointer (some ⟨p,0,none⟩)] W (RdE l p v o' W (StN W.heap.size) (zan l f i' o')):=fun i' o' W hi ho' hP=>ih i' o' W (by have:=hP.here;omega) ho' hP
  exact pstmt_step h d g f (fun hb W hP=>zi2 d (zan l f) (zdK l f) (l.length+1-i) i o W (by have:=hP.here;omega) g hP hb m)
   (fun j W hj hP=>zgp hP d g (zan l f) (fun i' W' hi' ho2 hP'=>m i' (o+1) W' (by omega) (by omega) hP') (zdK l f))
theorem zki{l:List Tok}{p:Nat}{v:Value}{i o:Nat}{w:World}(h:PSt w p v l i o)(d:PEnv l)(f:o<=300) :
  Calls Tryz.prog 91 #[.pointer (some ⟨p,0,none⟩)] w (RdE l p v o w (StN w.heap.size) (zcJ l i o)):=zlD d (l.length+1-i) i o w (by have:=h.here;omega) f h
theorem zio{w:World}{p:Nat}{v:Value}{l:List Tok}{i:Nat}(h:PSt w p v l i 0)(hE:PEnv l) :
  Calls Tryz.prog 60 #[.pointer (some ⟨p,0,none⟩)] w (RdE l p v 0 w (TsV w.heap.size) (allS l (l.length+1-i) [] i)):=by
 have ap:=h.lt;have hv:=zao h;have ae:=h.here;have aq:=hE.small;have H:=zh h;obtain⟨d,C⟩:∃r,allS l (l.length+1-i) [] i=r:=⟨_,rfl⟩;have Hf:=zh C;rw[C];have f0:=zgk;clear h C;go_enter Tryz.func60,Tryz.ntmps60
 go_wp2_with fail
 go_loopg [3,4,5,6,7,8,9,10,11,12] (l.length-i) (fun g t3 _ _ _ _ _ _ _ _ _ wr=>∃(k f F:Nat) (xs:List St) (cs:List Value),g=l.length-f/\f<l.length/\l.length-f<F/\xs.length=k/\k<=f/\Hid (PSt wr p v l f 0)/\Hid (wr.ownsRow w.heap.size 56 6 t3 k cs)/\Hid (StsC wr (fun b=>w.heap.size<=b/\t3.ownBlock≠some b) xs cs)/\Hid (allS l F xs f=d)/\Hid (Turns p w wr))
 case atStart=>exact⟨0,i,l.length+1-i,[],[],rfl,ae,by omega,rfl,by omega,H,zh (World.ownsRow_nil _ _ _ _),zh .nil,Hf,zh (Only.refl _ _)⟩
 case round =>
  clear H Hf;obtain⟨k,f,F,xs,cs,rfl,aa,hF,M,ai,P,O,ad,Hf,af⟩:=hrel;obtain⟨F,rfl⟩:∃F',F=F'+1:=⟨F-1,by omega⟩;have L:Hid ((if(zaa l f).kind=4 then .ok xs f else(zcJ l f 0).andThen fun x j=>allS l F (xs++[x]) j)=d):=zh (by rw[<-Hf.out,allS]);have HN:=zh (zaQ P.out hE);have HS:Hid (∀W,PSt W p v l f 0->Calls Tryz.prog 91 #[.pointer (some ⟨p,0,none⟩)] W (RdE l p v 0 W (StN W.heap.size) (zcJ l f 0))):=zh (fun W hP=>zki hP hE (by omega));have ah:∀x j,zcJ l f 0=.ok x j->f<j:=fun x j e=>zdK l _ _ _ _ _ e
  obtain⟨q,hq⟩:∃q,((zaa l f).kind != 4)=q:=⟨_,rfl⟩;have G:Hid ((q=false->.ok xs f=d)/\(q=true->(zcJ l f 0).andThen (fun x j=>allS l F (xs++[x]) j)=d)):=zh ⟨fun e=>by rw[<-L.out,yP (by rw[e] at hq;simpa using hq)],fun e=>by rw[<-L.out,yN (by rw[e] at hq;simpa using hq)]⟩;obtain⟨ua,cap,rfl,-,-⟩:=Sl.form (Sl.of_own O.out);clear Hf L
  generalize zaa l f=T at *
  generalize zcJ l f 0=R at *
  go_wp2_with fail
  go_at_call 89;refine HN.out.mono ?_;rintro e1 w2⟨rfl,z⟩;have HP:=zh (P.out.below z);have HR:=zh (zbu O.out z (zr _));have aj:=zh (ad.out.under z (zr _));have HT:=zh (af.out.trans (Only.of_below z));have ac:=HT.out.size;clear P O ad af HN z
  cases q with
  | false =>
   have D:=zh (G.out.1 rfl);clear G;go_wp2_with fail
   rw[<-D.out]
   refine yE (v:=.slice ua k cap) (by simp[results,Tryz.results60,go_sem]) rfl ⟨_,rfl,⟨cs,by rw[M];exact HR.out,aj.out⟩,HP.out,HT.out⟩
  | true =>
   have D:=zh (G.out.2 rfl);clear G;go_wp2_with fail
   go_at_call 91;refine(HS.out _ HP.out).mono ?_;intro e5 w5 B;clear HS
   cases R with
   | err a c =>
    obtain⟨B,u⟩:=B;unfold Bad at B;subst B;have I:=zh u;have Q:Hid (.err a c=d):=D;clear u;go_wp2_with fail
    refine⟨rfl,?_⟩;rw[<-Q.out]
    exact⟨rfl,HT.out.trans I.out⟩
   | ok x j2 =>
    have J:=ah x j2 rfl;obtain⟨ak,n5,A,ab,Y,S⟩:=x;have Q:Hid (allS l F (xs++[.mk ak n5 A ab Y S]) j2=d):=D;obtain⟨u5,rfl,⟨aG,rfl,N⟩,K,u⟩:=B;obtain⟨aD,az,ax,aE,aF,aA,rfl⟩:=N.form1;have am:w5.ownsRow w.heap.size 56 6 (.slice ua k cap) k cs:=u.row HR.out (fun g hg e=>by have:=(HR.out.lt g hg).1;omega);have aC:=u.size;have an:=K.here;have ay:k<=16385:=by omega
    have ar:=zh N;have ao:=zh K;have I:=zh u;have Hk:=zh (show xs.length=k/\k<=f/\f<j2/\l.length-f<F+1/\j2<l.length/\w.heap.size<=w2.heap.size from⟨M,ai,J,hF,an,ac⟩);clear ah D N K u M ai J hF ae aa aq;go_wp2_with (at_builtin;apply zbj (s:=.tmp 8) (x:=.tmp 11) (t:=24) (hown:=am) (hi:=zfM) (ht:=Tryz.underlying24) (m:=1) (c:=1);(rfl);(decide);rfl;rfl;rfl;rfl;(unfold maxLen;omega);omega;omega;rotate_left;rfl;rfl;(intro v6 w6 y U aw Z))
    obtain⟨g6,av,rfl,au⟩:=zcd y;go_roundg (l.length-j2)
    case measure=>have:=Hk.out;omega
    case rel =>
     have V:=Hk.out;have ag:Only (fun b=>(Value.slice ua k cap).ownBlock=some b) w5 w6:=Only.of_grown U (fun g e=>e);have E:∀g,(Value.slice ua k cap).ownBlock=some g->w.heap.size<=g:=fun g e=>(am.lt g e).1
     exact⟨k+1,j2,F,xs++[.mk ak n5 A ab Y S],_,rfl,by omega,by omega,by rw[yA,V.1];rfl,by omega,zh (ao.out.only ag (fun e=>by have:=E _ e;omega) (fun g e e2=>by have:=E _ e2;have:=hv g e;omega)),zh y,zh (zjF (X:=w5) HR.out aj.out I.out ap ar.out V.2.2.2.2.2 (yR _ _) U Z),Q,zh ((HT.out.trans I.out).transNew ag (fun b e=>.inr (E _ e)))⟩
end Go.Proofs.YtoaojdobjinhfaaGreatDoor
