/- The reference parser's operand, walked: the last case, a word that is no kind; and operand as a whole. -/
import Derived.Test.YtoaojdobjinhfaaGreatDoorRParEPz
import Derived.Deep.Cut
set_option linter.unusedSimpArgs false
set_option linter.unusedVariables false
set_option maxRecDepth 100000
set_option maxHeartbeats 4000000
namespace Go.Proofs.YtoaojdobjinhfaaGreatDoor
open Go.RowKit

theorem ziH(l:List Tok)(E:Nat->Nat->Nat->PR Ex)(v:Value)(i o:Nat)(w:World)(hE:ExprC l E i)(hT:Toks w l v)(hG:Good l)(hi:i<l.length)(hm:l.length<=4611686018427387904)(ho:o<=300)(hk:(zaa l i).kind=1)(hp:isS l i [40]=false)(hK:¬0<zap (zaa l i).text) :
  Calls Tryz.prog 148 #[v,.int .i64 i,.int .i64 o] w fun e w'=>zb4 l i w w' e (zah l E i o)/\Below w.heap.size w w':=by
 have hn:=hG.next hi (by rw[hk];decide)
 have Hf:Hid (zah l E i o=if 0<zai (zaa l i).text (callWords.drop 0) 0 then(zad l E (i+1) o [40] [41] (if zai (zaa l i).text callWords 0<=2 then 1 else 2)).map (.mk (callOps.getD (zai (zaa l i).text callWords 0) 0) 0 [])
  else if(zaa l i).text=[116,105,99,107] then .ok (.mk 4 0 [] []) (i+1) else if(zaa l i).text=[115,101,108,102] then .ok (.mk 5 0 [] []) (i+1) else if zaP (zaa l i).text=false then .err i 120 else .ok (.mk 2 0 (zaa l i).text []) (i+1)):=zh (by
  unfold zah;rw[yN (by rw[hk];decide),yN (by rw[hp];decide),yN (by rw[hk];decide),yN hK];rfl)
 have HI:Hid (∀w',Below w.heap.size w w'->Calls Tryz.prog 114 #[v,.int .i64 i,.string { data:=#[40] }] w' fun e w''=>e=.returned (.bool false)/\w'=w''):=zbO hT hi hp;have HN:Hid (∀(many:Nat),1<=many->many<=2->∀w',Below w.heap.size w w'->Calls Tryz.prog 112 #[v,.int .i64 ((i:Int)+1),.int .i64 o,.string { data:=#[40] },.string { data:=#[41] },.int .i64 many] w' fun e w''=>ExsE l (i+1) w' w'' e (zad l E (i+1) o [40] [41] many)/\Below w'.heap.size w' w''):=zh (fun many h1 h2 (w':World) (hb:Below w.heap.size w w')=>zcz l E v (i+1) o many [40] [41] w' (hE.mono (by omega)) (Sl.below (by omega) hT hb (zr _)) hG hn hm ho (by omega) (by omega));have HK:Hid (∀w:World,_):=zh (fun w:World=>zb6 (zaa l i).text w);have am:Hid (∀w:World,_):=zh (fun w:World=>zfU (zaa l i).text w);obtain⟨a,cap,rfl,aN,aQ⟩:=Sl.form hT;obtain⟨b,aO,rfl,c0,c1,c2,c3,c4⟩:=zaF hT hi;have aP:(i:Int)<l.length:=by omega
 have aR:(i:Int)<=4611686018427387904:=by omega
 have aI:b<w.heap.size:=World.block_lt_of_cell? w _ c0;have aJ:¬b=w.heap.size:=by omega
 rw[hk] at c0;have aD:zap (zaa l i).text=0:=by omega
 rw[aD] at HK
 generalize zah l E i o=m at *
 clear hp hG hE hT hk hK aD
 generalize (zaa l i).text=S at *
 generalize (zaa l i).n=N at *
 generalize (zaa l i).line=L at *
 generalize (zaa l i).col=C at *
 go_enter Tryz.func148,Tryz.ntmps148
 go_wp2_with fail
 obtain⟨W0,ao,aA,f,ah,aK⟩:=opened w zeroE (Tok.cells ⟨1,S,N,L,C⟩) 29 93;simp only[zeroE,Tok.cells] at ao f ah;rw[<-ao];clear ao c0 c1 c2 c3 c4 aI aJ;have au:=zh aA;have P:=zh f;have W:=zh ah;obtain⟨t0,t1⟩:=yc2 ah;clear f aA ah;go_at_call 114;refine(HI.out _ au.out).mono ?_;rintro e1 w1⟨rfl,rfl⟩;go_wp2_with fail
 go_at_call 24;refine(HK.out _).mono ?_;rintro e2 w2⟨rfl,ac⟩;have aw:=zh (au.out.trans (ac.mono au.out.size));have aj:=zh (P.out.below ac (zr _));have ak:=zh (W.out.below ac (zr _));have aM:=yT aK ac.size;clear ac t0 t1 P W;obtain⟨W3,aF,d,az,aC,ay⟩:=opened w2 (callWords.map fun s=>Value.string (bstr s)) (callOps.tail.map (Value.int .u8)) 9 5;have ae:=zh (aj.out.below d (zr _));have af:=zh (ak.out.below d (zr _));have u:=zh (aw.out.trans (d.mono aw.out.size));have O:=zh az;have T:=zh aC;rw[aF] at ae af u O T;clear d az aC ay aF aj ak;go_wp2_with fail
 obtain⟨g,hg⟩:∃g,w2.heap.size=g:=⟨_,rfl⟩;rw[hg] at O T;rw[hg];go_loopw [7,8,18,19,20,21,82,83,84,85,86,87,88,89,90,91,92,93,94,95,96,97,98,99,100,101,102,103,104,105,106,107,108,109,110,111,112] (fun _ _ t18 _ _ _ _ _ _ _ _ _ _ _ _ _ _ _ _ _ _ _ _ _ _ _ _ _ _ _ _ _ _ _ _ _ _ wr=>∃k:Nat,k<=4/\t18=.int .i64 k/\Hid (zai S (callWords.drop 0) 0=zai S (callWords.drop k) k)/\Hid (OwnV wr w.heap.size 29 zeroE)/\Hid (OwnV wr (w.heap.size+1) 93 (Tok.cells ⟨1,S,N,L,C⟩))/\Hid (OwnV wr g 9 (callWords.map fun s=>Value.string (bstr s)))/\Hid (OwnV wr (g+1) 5 (callOps.tail.map (Value.int .u8)))/\Hid (Below w.heap.size w wr)) (fun _ _ t18 _ _ _ _ _ _ _ _ _ _ _ _ _ _ _ _ _ _ _ _ _ _ _ _ _ _ _ _ _ _ _ _ _ _ _=>4-(intOf t18).toNat)
 case atStart=>exact⟨0,by omega,rfl,zh rfl,ae,af,O,T,u⟩
 case round =>
  clear ae af O T u;obtain⟨k,aL,rfl,Hk,P,W,O,T,Hb⟩:=hrel;have t1:=W.out.cell (i:=1) rfl;by_cases aG:k<4
  ·have ax:(k:Int)<4:=by omega
   have Z:k<callWords.length:=aG;have d0:=O.out.cell (i:=k) (v:=.string (bstr (callWords[k]'Z))) (by rw[List.getElem?_map,yD Z];rfl);have an:=zh (zc5 (s:=S) (l:=callWords) (k:=k) Z);obtain⟨q,hq,J⟩:∃q:Bool,((bstr S).toList==(bstr (callWords[k]'Z)).toList)=q/\(q=true ↔ S=callWords[k]'Z):=⟨_,rfl,zdP _ _⟩
   generalize callWords[k]'Z=kw at *
   have Hq:=zh J;clear J;go_wp2_with fail
   refine zac (fun w'=>Below wr.heap.size wr w') (by kernel_rfl) (by kernel_rfl) ((yR _ _).drew) ?_
   repeat
    try simp only[Act.put,zs1,zs3,zs2]
    apply stepsSeq.cons
    ·intro w' I;have ag:=zh I;have aT:=Below.keep I t1;have aS:=Below.keep I d0;simp only[Act.put,zs1,zs3,zs2];go_wp2_with (fail)
     first|exact⟨rfl,ag.out⟩|exact⟨rfl,ag.out.trans (ac.mono ag.out.size)⟩
   try simp only[Act.put,zs1,zs3,zs2]
   refine stepsSeq.nil ?_;intro w' I;have U:=zh (P.out.below I (zr _));have ad:=zh (W.out.below I (zr _));have ai:=zh (O.out.below I (zr _));have D:=zh (T.out.below I (zr _));have F:=zh (Hb.out.trans (I.mono Hb.out.size));clear I t1 d0 P W O T Hb;cases q
   ·have aH:Hid (zai S (callWords.drop 0) 0=zai S (callWords.drop (k+1)) (k+1)):=zh (by rw[Hk.out,an.out,yN (fun e=>by have:=Hq.out.2 e.symm;cases this)]);go_wp2_with fail
    go_roundw
    case rel=>exact⟨k+1,by omega,by go_num,aH,U,ad,ai,D,F⟩
    case measure=>simp[intOf];omega
   ·have B:Hid (m=(zad l E (i+1) o [40] [41] (if k+1<=2 then 1 else 2)).map (.mk (callOps.getD (k+1) 0) 0 [])):=zh (by
     have:zai S callWords 0=k+1:=by
      have h1:zai S (callWords.drop 0) 0=zai S callWords 0:=rfl;rw[<-h1,Hk.out,an.out,yP (Hq.out.1 rfl).symm]
     rw[Hf.out,this,yP (by show 0<zai S callWords 0;omega)])
    have aE:k=0∨k=1∨k=2∨k=3:=by omega
    clear Hf Hk an Hq aG Z ax aL
    generalize w'=wv at *
    have G:w.heap.size+2<=wv.heap.size:=by have:=ad.out.lt;omega
    clear ad ai;rcases aE with rfl|rfl|rfl|rfl
    ·have Y:=zh (HN.out 1 (by omega) (by omega));have y:Hid (m=(zad l E (i+1) o [40] [41] 1).map (.mk 6 0 [])):=zh (by rw[B.out];rfl);have X:wv.cell? ⟨g+1,0,none⟩=some (.int .u8 6):=D.out.cell rfl
     generalize zad l E (i+1) o [40] [41] 1=R at *
     have ab:=zh X;clear B HN D X;go_wp2_with fail
     go_at_call 112;refine(Y.out _ F.out).mono ?_;rintro e3 w3⟨H,d⟩;have X:=Below.keep d ab.out;have f:=U.out.below d (zr _);obtain⟨x0,x1,x2,x3⟩:=yc4 f;have f0:=f.free;have u:=zh (F.out.trans (d.mono F.out.size));clear f d
     cases R with
     | err a c =>
      obtain⟨rfl,hc,aa⟩:=H;have Hc:=zh hc;clear hc;go_wp2_with fail
      refine yE (v:=.tuple #[.agg #[.int .u8 6,.int .i64 0,.string { data:=#[] },.slice none 0 0],.int .i64 a,.int .i64 c]) (by simp[results,Tryz.results148,go_sem,x0,x1,x2,x3]) rfl ⟨by rw[y.out];exact⟨_,_,_,_,_,_,rfl,Hc.out,aa⟩,?_⟩
      exact(((u.out.setCell (zr _) _).setCell (zr _) _).setCell (zr _) _).setCell (zr _) _
     | ok xs j =>
      obtain⟨v2,rfl,⟨cs,hown,K⟩,ap,V⟩:=H;replace K:=K.weak1;obtain⟨a2,A,rfl,av,aq⟩:=Sl.form (Sl.of_own hown);have HX:=zh K;have z:=zh hown;clear K hown;go_wp2_with fail
      refine yE (v:=.tuple #[.agg #[.int .u8 6,.int .i64 0,.string { data:=#[] },.slice a2 xs.length A],.int .i64 j,.int .i64 0]) (by simp[results,Tryz.results148,go_sem,x0,x1,x2,x3]) rfl ⟨?_,(((u.out.setCell (zr _) _).setCell (zr _) _).setCell (zr _) _).setCell (zr _) _⟩;rw[y.out];refine⟨_,rfl,⟨_,rfl,?_⟩,by omega,V⟩;have M:¬w.heap.size+2<=w.heap.size:=by omega
      have h1:ExsC w3 (fun g=>w.heap.size+2<=g) [.mk 6 0 [] xs] [.int .u8 6,.int .i64 0,.string (bstr []),.slice a2 xs.length A]:=
       ExsC.cons (op:=6) (n:=0) (name:=[]) (Sl.of_own z.out) (.inr fun g hg=>yT G (zck z.out g hg)) (HX.out.weak fun g _ h=>yT G h) ExsC.nil
      exact((((h1.set M).set M).set M).set M).weak fun g _ h=>by omega
    ·have Y:=zh (HN.out 1 (by omega) (by omega));have y:Hid (m=(zad l E (i+1) o [40] [41] 1).map (.mk 9 0 [])):=zh (by rw[B.out];rfl);have X:wv.cell? ⟨g+1,1,none⟩=some (.int .u8 9):=D.out.cell rfl
     generalize zad l E (i+1) o [40] [41] 1=R at *
     have ab:=zh X;clear B HN D X;go_wp2_with fail
     go_at_call 112;refine(Y.out _ F.out).mono ?_;rintro e3 w3⟨H,d⟩;have X:=Below.keep d ab.out;have f:=U.out.below d (zr _);obtain⟨x0,x1,x2,x3⟩:=yc4 f;have f0:=f.free;have u:=zh (F.out.trans (d.mono F.out.size));clear f d
     cases R with
     | err a c =>
      obtain⟨rfl,hc,aa⟩:=H;have Hc:=zh hc;clear hc;go_wp2_with fail
      refine yE (v:=.tuple #[.agg #[.int .u8 9,.int .i64 0,.string { data:=#[] },.slice none 0 0],.int .i64 a,.int .i64 c]) (by simp[results,Tryz.results148,go_sem,x0,x1,x2,x3]) rfl ⟨by rw[y.out];exact⟨_,_,_,_,_,_,rfl,Hc.out,aa⟩,?_⟩
      exact(((u.out.setCell (zr _) _).setCell (zr _) _).setCell (zr _) _).setCell (zr _) _
     | ok xs j =>
      obtain⟨v2,rfl,⟨cs,hown,K⟩,ap,V⟩:=H;replace K:=K.weak1;obtain⟨a2,A,rfl,av,aq⟩:=Sl.form (Sl.of_own hown);have HX:=zh K;have z:=zh hown;clear K hown;go_wp2_with fail
      refine yE (v:=.tuple #[.agg #[.int .u8 9,.int .i64 0,.string { data:=#[] },.slice a2 xs.length A],.int .i64 j,.int .i64 0]) (by simp[results,Tryz.results148,go_sem,x0,x1,x2,x3]) rfl ⟨?_,(((u.out.setCell (zr _) _).setCell (zr _) _).setCell (zr _) _).setCell (zr _) _⟩;rw[y.out];refine⟨_,rfl,⟨_,rfl,?_⟩,by omega,V⟩;have M:¬w.heap.size+2<=w.heap.size:=by omega
      have h1:ExsC w3 (fun g=>w.heap.size+2<=g) [.mk 9 0 [] xs] [.int .u8 9,.int .i64 0,.string (bstr []),.slice a2 xs.length A]:=
       ExsC.cons (op:=9) (n:=0) (name:=[]) (Sl.of_own z.out) (.inr fun g hg=>yT G (zck z.out g hg)) (HX.out.weak fun g _ h=>yT G h) ExsC.nil
      exact((((h1.set M).set M).set M).set M).weak fun g _ h=>by omega
    ·have Y:=zh (HN.out 2 (by omega) (by omega));have y:Hid (m=(zad l E (i+1) o [40] [41] 2).map (.mk 23 0 [])):=zh (by rw[B.out];rfl);have X:wv.cell? ⟨g+1,2,none⟩=some (.int .u8 23):=D.out.cell rfl
     generalize zad l E (i+1) o [40] [41] 2=R at *
     have ab:=zh X;clear B HN D X;go_wp2_with fail
     go_at_call 112;refine(Y.out _ F.out).mono ?_;rintro e3 w3⟨H,d⟩;have X:=Below.keep d ab.out;have f:=U.out.below d (zr _);obtain⟨x0,x1,x2,x3⟩:=yc4 f;have f0:=f.free;have u:=zh (F.out.trans (d.mono F.out.size));clear f d
     cases R with
     | err a c =>
      obtain⟨rfl,hc,aa⟩:=H;have Hc:=zh hc;clear hc;go_wp2_with fail
      refine yE (v:=.tuple #[.agg #[.int .u8 23,.int .i64 0,.string { data:=#[] },.slice none 0 0],.int .i64 a,.int .i64 c]) (by simp[results,Tryz.results148,go_sem,x0,x1,x2,x3]) rfl ⟨by rw[y.out];exact⟨_,_,_,_,_,_,rfl,Hc.out,aa⟩,?_⟩
      exact(((u.out.setCell (zr _) _).setCell (zr _) _).setCell (zr _) _).setCell (zr _) _
     | ok xs j =>
      obtain⟨v2,rfl,⟨cs,hown,K⟩,ap,V⟩:=H;replace K:=K.weak1;obtain⟨a2,A,rfl,av,aq⟩:=Sl.form (Sl.of_own hown);have HX:=zh K;have z:=zh hown;clear K hown;go_wp2_with fail
      refine yE (v:=.tuple #[.agg #[.int .u8 23,.int .i64 0,.string { data:=#[] },.slice a2 xs.length A],.int .i64 j,.int .i64 0]) (by simp[results,Tryz.results148,go_sem,x0,x1,x2,x3]) rfl ⟨?_,(((u.out.setCell (zr _) _).setCell (zr _) _).setCell (zr _) _).setCell (zr _) _⟩;rw[y.out];refine⟨_,rfl,⟨_,rfl,?_⟩,by omega,V⟩;have M:¬w.heap.size+2<=w.heap.size:=by omega
      have h1:ExsC w3 (fun g=>w.heap.size+2<=g) [.mk 23 0 [] xs] [.int .u8 23,.int .i64 0,.string (bstr []),.slice a2 xs.length A]:=
       ExsC.cons (op:=23) (n:=0) (name:=[]) (Sl.of_own z.out) (.inr fun g hg=>yT G (zck z.out g hg)) (HX.out.weak fun g _ h=>yT G h) ExsC.nil
      exact((((h1.set M).set M).set M).set M).weak fun g _ h=>by omega
    ·have Y:=zh (HN.out 2 (by omega) (by omega));have y:Hid (m=(zad l E (i+1) o [40] [41] 2).map (.mk 24 0 [])):=zh (by rw[B.out];rfl);have X:wv.cell? ⟨g+1,3,none⟩=some (.int .u8 24):=D.out.cell rfl
     generalize zad l E (i+1) o [40] [41] 2=R at *
     have ab:=zh X;clear B HN D X;go_wp2_with fail
     go_at_call 112;refine(Y.out _ F.out).mono ?_;rintro e3 w3⟨H,d⟩;have X:=Below.keep d ab.out;have f:=U.out.below d (zr _);obtain⟨x0,x1,x2,x3⟩:=yc4 f;have f0:=f.free;have u:=zh (F.out.trans (d.mono F.out.size));clear f d
     cases R with
     | err a c =>
      obtain⟨rfl,hc,aa⟩:=H;have Hc:=zh hc;clear hc;go_wp2_with fail
      refine yE (v:=.tuple #[.agg #[.int .u8 24,.int .i64 0,.string { data:=#[] },.slice none 0 0],.int .i64 a,.int .i64 c]) (by simp[results,Tryz.results148,go_sem,x0,x1,x2,x3]) rfl ⟨by rw[y.out];exact⟨_,_,_,_,_,_,rfl,Hc.out,aa⟩,?_⟩
      exact(((u.out.setCell (zr _) _).setCell (zr _) _).setCell (zr _) _).setCell (zr _) _
     | ok xs j =>
      obtain⟨v2,rfl,⟨cs,hown,K⟩,ap,V⟩:=H;replace K:=K.weak1;obtain⟨a2,A,rfl,av,aq⟩:=Sl.form (Sl.of_own hown);have HX:=zh K;have z:=zh hown;clear K hown;go_wp2_with fail
      refine yE (v:=.tuple #[.agg #[.int .u8 24,.int .i64 0,.string { data:=#[] },.slice a2 xs.length A],.int .i64 j,.int .i64 0]) (by simp[results,Tryz.results148,go_sem,x0,x1,x2,x3]) rfl ⟨?_,(((u.out.setCell (zr _) _).setCell (zr _) _).setCell (zr _) _).setCell (zr _) _⟩;rw[y.out];refine⟨_,rfl,⟨_,rfl,?_⟩,by omega,V⟩;have M:¬w.heap.size+2<=w.heap.size:=by omega
      have h1:ExsC w3 (fun g=>w.heap.size+2<=g) [.mk 24 0 [] xs] [.int .u8 24,.int .i64 0,.string (bstr []),.slice a2 xs.length A]:=
       ExsC.cons (op:=24) (n:=0) (name:=[]) (Sl.of_own z.out) (.inr fun g hg=>yT G (zck z.out g hg)) (HX.out.weak fun g _ h=>yT G h) ExsC.nil
      exact((((h1.set M).set M).set M).set M).weak fun g _ h=>by omega
  ·obtain rfl:k=4:=by omega
   have B:Hid (m=if S=[116,105,99,107] then .ok (.mk 4 0 [] []) (i+1) else if S=[115,101,108,102] then .ok (.mk 5 0 [] []) (i+1) else if zaP S=false then .err i 120 else .ok (.mk 2 0 S []) (i+1)):=zh (by
    have:zai S (callWords.drop 0) 0=0:=by rw[Hk.out];exact zdq (by decide)
    rw[Hf.out,this,yN (by decide)])
   obtain⟨q1,Q⟩:∃q,decide (S=[116,105,99,107])=q:=⟨_,rfl⟩;obtain⟨q2,J⟩:∃q,decide (S=[115,101,108,102])=q:=⟨_,rfl⟩;have e1:=zal S [116,105,99,107];have e2:=zal S [115,101,108,102];rw[Q] at e1;rw[J] at e2;obtain⟨x0,x1,x2,x3⟩:=yc4 P.out;have f0:=P.out.free;clear Hf Hk O T;cases q1
   ·rw[decide_eq_false_iff_not] at Q;cases q2
    ·rw[decide_eq_false_iff_not] at J;obtain⟨q3,ar⟩:∃q,zaP S=q:=⟨_,rfl⟩;rw[ar] at am;have y:Hid (m=if q3=false then .err i 120 else .ok (.mk 2 0 S []) (i+1)):=zh (by rw[B.out,yN Q,yN J,ar]);clear B Q J ar;cases q3
     ·go_wp2_with fail
      go_at_call 22;refine(am.out _).mono ?_;rintro e3 w3⟨rfl,d⟩;have f:=P.out.below d (zr _);obtain⟨y0,y1,y2,y3⟩:=yc4 f;have g0:=f.free;have u:=zh (Hb.out.trans (d.mono Hb.out.size));clear f d;go_wp2_with fail
      refine yE (v:=.tuple #[.agg #[.int .u8 0,.int .i64 0,.string { data:=#[] },.slice none 0 0],.int .i64 i,.int .i64 120]) (by simp[results,Tryz.results148,go_sem,y0,y1,y2,y3]) rfl ⟨by rw[y.out];exact⟨_,_,_,_,_,_,rfl,.inl rfl,hi⟩,?_⟩;exact(((u.out.setCell (zr _) _).setCell (zr _) _).setCell (zr _) _).setCell (zr _) _
     ·go_wp2_with fail
      go_at_call 22;refine(am.out _).mono ?_;rintro e3 w3⟨rfl,d⟩;have f:=P.out.below d (zr _);obtain⟨y0,y1,y2,y3⟩:=yc4 f;have g0:=f.free;have z1:=(W.out.below d (zr _)).cell (i:=1) rfl;have u:=zh (Hb.out.trans (d.mono Hb.out.size));clear f d;go_wp2_with fail
      refine yE (v:=.tuple #[.agg #[.int .u8 2,.int .i64 0,.string (bstr S),.slice none 0 0],.int .i64 ((i:Int)+1),.int .i64 0]) (by simp[results,Tryz.results148,go_sem,y0,y1,y2,y3]) rfl ⟨by rw[y.out];exact⟨_,rfl,zcx,by omega,hn⟩,?_⟩;exact(((u.out.setCell (zr _) _).setCell (zr _) _).setCell (zr _) _).setCell (zr _) _
    ·rw[yQ] at J;have y:Hid (m=.ok (.mk 5 0 [] []) (i+1)):=zh (by rw[B.out,yN Q,yP J]);clear B Q J;go_wp2_with fail
     refine yE (v:=.tuple #[.agg #[.int .u8 5,.int .i64 0,.string { data:=#[] },.slice none 0 0],.int .i64 ((i:Int)+1),.int .i64 0]) (by simp[results,Tryz.results148,go_sem,x0,x1,x2,x3]) rfl ⟨by rw[y.out];exact⟨_,rfl,zcx,by omega,hn⟩,?_⟩;exact(((Hb.out.setCell (zr _) _).setCell (zr _) _).setCell (zr _) _).setCell (zr _) _
   ·rw[yQ] at Q;have y:Hid (m=.ok (.mk 4 0 [] []) (i+1)):=zh (by rw[B.out,yP Q]);clear B Q;go_wp2_with fail
    refine yE (v:=.tuple #[.agg #[.int .u8 4,.int .i64 0,.string { data:=#[] },.slice none 0 0],.int .i64 ((i:Int)+1),.int .i64 0]) (by simp[results,Tryz.results148,go_sem,x0,x1,x2,x3]) rfl ⟨by rw[y.out];exact⟨_,rfl,zcx,by omega,hn⟩,?_⟩;exact(((Hb.out.setCell (zr _) _).setCell (zr _) _).setCell (zr _) _).setCell (zr _) _
theorem zjl(l:List Tok)(E:Nat->Nat->Nat->PR Ex)(v:Value)(i o:Nat)(w:World)(y:ExprC l E i)(j:Toks w l v)(q:Good l)(hi:i<l.length)(g:l.length<=4611686018427387904)(u:o<=300) :
  Calls Tryz.prog 148 #[v,.int .i64 i,.int .i64 o] w fun e w'=>zb4 l i w w' e (zah l E i o)/\Below w.heap.size w w':=by
 by_cases A:(zaa l i).kind=2
 ·exact zji l E v i o w j q hi g A
 ·have m:((zaa l i).kind==2)=false:=by simpa using A
  by_cases hp:isS l i [40]=true
  ·exact zjj l E v i o w y j q hi g u m hp
  ·have d:isS l i [40]=false:=by simpa using hp
   by_cases f:(zaa l i).kind=1
   ·by_cases z:0<zap (zaa l i).text
    ·exact ziG l E v i o w y j q hi g u f d z
    ·exact ziH l E v i o w y j q hi g u f d z
   ·exact zjk l E v i o w j hi g m (by simpa using f) d
theorem zcT{l:List Tok}{i:Nat}{s:List UInt8}(h:isS l i s=true):(zaa l i).kind≠4/\(zaa l i).text=s:=by
 unfold isS at h;simpa[yC] using h
theorem zgA{l:List Tok}{i o:Nat}{s:List UInt8}(h:isS l i s=true):zay l i s o=if 200<=o then .err i 121 else .ok () (i+1):=by
 unfold zay;rw[h,yN (by decide)]
theorem zb7{w:World}{g:Nat}{e:TypeId}{cs:List Value}(h:OwnV w g e cs){sz n cap:Nat}(i:cs.length=n*sz)(f:n<=cap)(d:cap<=9223372036854775807):Sl w sz n cs (.slice (some ⟨g,0,none⟩) n cap):=by
 refine⟨_,_,rfl,f,d,i,fun _=>⟨g,0,rfl,fun j hj=>?_⟩⟩;rw[Nat.zero_add,yD (by omega)];exact h.cell (yD _)
theorem znv{w2 f:World}{B g2 m:Nat}{op:Int}{xs:List Ex}{cs:List Value}(d:Below w2.heap.size w2 f)(v:OwnV f g2 29 cs)(j:ExsC w2 (fun g=>m<=g) xs cs)(w:B+1<=m)(q:B+1<=g2)(l:xs.length<=1000){v0 v1 v2 v3:Value} :
  ExsC ((((f.setCell ⟨B,0,none⟩ v0).setCell ⟨B,1,none⟩ v1).setCell ⟨B,2,none⟩ v2).setCell ⟨B,3,none⟩ v3) (fun g=>B<=g) [.mk op 0 [] xs] [.int .u8 op,.int .i64 0,.string { data:=#[] },.slice (some ⟨g2,0,none⟩) xs.length xs.length]:=by
 have i:¬B+1<=B:=by omega
 have u:ExsC f (fun g=>B+1<=g) [.mk op 0 [] xs] [.int .u8 op,.int .i64 0,.string (bstr []),.slice (some ⟨g2,0,none⟩) xs.length xs.length]:=
  ExsC.cons (zb7 v j.len (zr _) (by omega)) (.inr fun g h=>by cases h;exact q) ((j.under d (zr _)).weak fun g _ h=>yT w h) ExsC.nil
 exact((((u.set i).set i).set i).set i).weak fun g _ h=>by omega
theorem zlO (l:List Tok) (E:Nat->Nat->Nat->PR Ex) (v:Value) (hG:Good l) (hm:l.length<=4611686018427387904):∀ (f i o:Nat) (w:World),l.length - i < f->ExprC l E i->Toks w l v->i < l.length->o<=300 ->
    Calls Tryz.prog 116 #[v,.int .i64 i,.int .i64 o] w fun e w'=>zb4 l i w w' e (zas l E f i o)/\Below w.heap.size w w':=by
  intro f
  induction f with
  | zero=>intro i o w h;omega
  | succ f ih =>
  intro i o w hf hE Q hi ho;obtain⟨X,A⟩:∃q,isS l i [45]=q:=⟨_,rfl⟩;obtain⟨N,z⟩:∃q,isS l i [33]=q:=⟨_,rfl⟩;have ah:Hid (∀w',Below w.heap.size w w'->Calls Tryz.prog 114 #[v,.int .i64 i,.string { data:=#[45] }] w' fun e w''=>e=.returned (.bool X)/\w'=w''):=zbO Q hi A;have am:Hid (∀w',Below w.heap.size w w'->Calls Tryz.prog 114 #[v,.int .i64 i,.string { data:=#[33] }] w' fun e w''=>e=.returned (.bool N)/\w'=w''):=zbO Q hi z;have HO:Hid (∀w',Below w.heap.size w w'->_):=zh (fun(w':World) (hb:Below w.heap.size w w')=>zjl l E v i o w' hE (Sl.below (by omega) Q hb (zr _)) hG hi hm ho);have HF:Hid (zas l E (f+1) i o=if X=false/\N=false then zah l E i o else if 200<=o then .err i 121 else(zas l E f (i+1) (o+1)).map fun x=>.mk (if N=true then 8 else 7) 0 [] [x]):=zh (by rw[zas,A,z]);have J:=OwnV.new w 29 zeroE;have I:Below w.heap.size w (w.alloc (.cells zeroE.toArray 29)):=(yR _ _).alloc (zr _) _;obtain⟨W0,G⟩:∃W0,W0=w.alloc (.cells zeroE.toArray 29):=⟨_,rfl⟩;rw[<-G] at J I;simp only[zeroE] at G;have V:=zh J;have d:=zh I;have az:w.heap.size<W0.heap.size:=J.lt;by_cases H:X=false/\N=false
  · rw [HF.out,yP H]
    obtain⟨rfl,rfl⟩:=H;obtain⟨a,cap,rfl,an,ar⟩:=Sl.form Q;have aq:(i:Int)<l.length:=by omega
    clear HF J I ih hE Q A z
    generalize zah l E i o=R at *
    go_enter Tryz.func116,Tryz.ntmps116
    go_wp2_with fail
    rw[<-G];clear G;go_at_call 114;refine(ah.out _ d.out).mono ?_;rintro e1 w1⟨rfl,rfl⟩;go_wp2_with fail
    go_at_call 114;refine(am.out _ d.out).mono ?_;rintro e1 w1⟨rfl,rfl⟩;go_wp2_with fail
    go_at_call 148;refine(HO.out _ d.out).mono ?_;rintro e2 w2⟨K,y⟩;have u:=V.out.below y (zr _);obtain⟨M,L,P,O⟩:=yc4 u;have f0:=u.free;have B:=zh (d.out.trans (y.mono d.out.size));clear u y
    cases R with
    | err a c =>
      obtain⟨op,n,nm,ad,m,cp,rfl,H,ac⟩:=K;have Hc:=zh H;clear H;go_wp2_with fail
      refine yE (v:=.tuple #[.agg #[.int .u8 op,.int .i64 n,.string nm,.slice ad m cp],.int .i64 a,.int .i64 c]) (by simp[results,Tryz.results116,go_sem,M,L,P,O]) rfl ⟨⟨_,_,_,_,_,_,rfl,Hc.out,ac⟩,?_⟩
      exact(((B.out.setCell (zr _) _).setCell (zr _) _).setCell (zr _) _).setCell (zr _) _
    | ok x j =>
      obtain⟨v2,rfl,⟨cs,rfl,Y⟩,aj,Z⟩:=K;obtain⟨op,n,name,args,aa,F,rfl,rfl⟩:=Y.one;have HX:=zh Y;clear Y;go_wp2_with fail
      refine yE (v:=.tuple #[.agg #[.int .u8 op,.int .i64 n,.string (bstr name),.slice aa args.length F],.int .i64 j,.int .i64 0]) (by simp[results,Tryz.results116,go_sem,M,L,P,O]) rfl ⟨⟨_,rfl,⟨_,rfl,?_⟩,aj,Z⟩,(((B.out.setCell (zr _) _).setCell (zr _) _).setCell (zr _) _).setCell (zr _) _⟩;have hP:¬W0.heap.size<=w.heap.size:=by omega
      exact((((HX.out.set hP).set hP).set hP).set hP).weak fun g _ h=>by omega
  · have af:Hid (zas l E (f+1) i o=if 200<=o then .err i 121 else (zas l E f (i+1) (o+1)).map fun x=>.mk (if N=true then 8 else 7) 0 [] [x]):=zh (by rw [HF.out,yN H])
    have D:isS l i (zaa l i).text=true:=by
      cases hx1:X with
      | true=>rw[hx1] at A;rw[(zcT A).2];exact A
      | false =>
        cases hx2:N with
        | true=>rw[hx2] at z;rw[(zcT z).2];exact z
        | false=>exact absurd ⟨hx1,hx2⟩ H
    have ai:¬(X=true/\N=true):=by
      rintro⟨rfl,rfl⟩;have h1:=(zcT A).2;rw[(zcT z).2] at h1;cases h1
    have hn:=hG.is_next hi D;have C:Hid (∀w',Below w.heap.size w w'->_):=zh (fun(w':World) (hb:Below w.heap.size w w')=>zd8 l v i (zaa l i).text o w' (Sl.below (by omega) Q hb (zr _)) hi hm);rw[zgA D] at C;have HU:Hid (o<200->∀w',Below w.heap.size w w'->_):=zh (fun(ho:o<200) (w':World) (hb:Below w.heap.size w w')=>ih (i+1) (o+1) w' (by omega) (hE.mono (by omega)) (Sl.below (by omega) Q hb (zr _)) hn (by omega));obtain⟨a,cap,rfl,an,ar⟩:=Sl.form Q;obtain⟨b,ax,rfl,c0,c1,c2,c3,c4⟩:=zaF Q hi;have aq:(i:Int)<l.length:=by omega
    have ay:(i:Int)<=4611686018427387904:=by omega
    have C1:=zh (Below.keep I c1)
    generalize zas l E (f+1) i o=ao at *
    clear HF J I ih hE Q D c0 c1 c2 c3 c4 HO
    generalize zas l E f (i+1) (o+1)=R at *
    generalize (zaa l i).text=S at *
    go_enter Tryz.func116,Tryz.ntmps116
    go_wp2_with fail
    rw[<-G];clear G A z;go_at_call 114;refine(ah.out _ d.out).mono ?_;rintro e1 w1⟨rfl,rfl⟩;have c1:=C1.out;rcases(show(X=true/\N=false)∨(X=false/\N=true) by cases X <;> cases N <;> simp at H ai ⊢) with⟨rfl,rfl⟩|⟨rfl,rfl⟩
    all_goals
      clear H ai;go_wp2_with fail
      go_at_call 114;refine(am.out _ d.out).mono ?_;rintro e1 w1⟨rfl,rfl⟩;by_cases T:200<=o
      · rw [yP T] at C
        unfold zcE at C;have Hf:=af.out;rw[yP T] at Hf;have U:=zh Hf;clear Hf;obtain⟨M,L,P,O⟩:=yc4 V.out;have f0:=V.out.free;go_wp2_with fail
        go_at_call 146;refine(C.out _ d.out).mono ?_;rintro e1 w1⟨rfl,rfl⟩;go_wp2_with fail
        refine yE (v:=.tuple #[.agg #[.int .u8 0,.int .i64 0,.string { data:=#[] },.slice none 0 0],.int .i64 i,.int .i64 121]) (by simp[results,Tryz.results116,go_sem,M,L,P,O]) rfl ⟨by rw[U.out];exact⟨_,_,_,_,_,_,rfl,.inr rfl,hi⟩,?_⟩;exact(((d.out.setCell (zr _) _).setCell (zr _) _).setCell (zr _) _).setCell (zr _) _
      · rw [yN T] at C
        unfold zcE at C;have Hf:=af.out;rw[yN T] at Hf;have U:=zh Hf;clear Hf;have ap:=zh (HU.out (by omega));go_wp2_with fail
        go_at_call 146;refine(C.out _ d.out).mono ?_;rintro e1 w1⟨rfl,rfl⟩;go_wp2_with fail
        go_at_call 116;refine(ap.out _ d.out).mono ?_;rintro e2 w2⟨K,y⟩;have W:=zh (V.out.below y (zr _));have av:w.heap.size+1<=w2.heap.size:=by have:=y.size;omega
        have B:=zh (d.out.trans (y.mono d.out.size));clear y
        cases R with
        | err a c =>
          obtain⟨op,n,nm,ad,m,cp,rfl,H,ac⟩:=K;have Hc:=zh H;have aw:(c != 0)=true:=by rcases H with rfl|rfl <;> rfl
          have u:=W.out.alloc (.cells #[.int .u8 op,.int .i64 n,.string nm,.slice ad m cp] 29);obtain⟨M,L,P,O⟩:=yc4 u;have f0:=u.free;clear H u;go_wp2_with fail
          refine yE (v:=.tuple #[.agg #[.int .u8 op,.int .i64 n,.string nm,.slice ad m cp],.int .i64 a,.int .i64 c]) (by simp[results,Tryz.results116,go_sem,M,L,P,O]) rfl ⟨by rw[U.out];exact⟨_,_,_,_,_,_,rfl,Hc.out,ac⟩,?_⟩
          exact((((B.out.alloc B.out.size _).setCell (zr _) _).setCell (zr _) _).setCell (zr _) _).setCell (zr _) _
        | ok x j =>
          obtain⟨v2,rfl,⟨cs,rfl,Y⟩,aj,Z⟩:=K;obtain⟨op,n,name,args,aa,F,rfl,rfl⟩:=Y.one;have HX:=zh Y;clear Y;obtain⟨W3,ab,ae,hA,hB,au⟩:=opened w2 [.int .u8 op,.int .i64 n,.string (bstr name),.slice aa args.length F] [.int .u8 op,.int .i64 n,.string (bstr name),.slice aa args.length F] 29 29;have u:=W.out.below ae (zr _);obtain⟨M,L,P,O⟩:=yc4 u;have f0:=u.free;rw[ab] at M L P O f0;have HB:=zh hB;have ak:=zh ae;have ag:=zh ab;clear u hA hB ae ab;go_wp2_with fail
          first
            |(refine yE (v:=.tuple #[.agg #[.int .u8 7,.int .i64 0,.string { data:=#[] },.slice (some ⟨w2.heap.size+1,0,none⟩) 1 1],.int .i64 j,.int .i64 0]) ?_ rfl ⟨?_,?_⟩;·(simp[results,Tryz.results116,go_sem,M,L,P,O];done))
            |(refine yE (v:=.tuple #[.agg #[.int .u8 8,.int .i64 0,.string { data:=#[] },.slice (some ⟨w2.heap.size+1,0,none⟩) 1 1],.int .i64 j,.int .i64 0]) ?_ rfl ⟨?_,?_⟩;·(simp[results,Tryz.results116,go_sem,M,L,P,O];done))
          · rw [U.out,<- ag.out]
            exact⟨_,rfl,⟨_,rfl,znv ak.out HB.out HX.out (by omega) (by omega) (by simp)⟩,by omega,Z⟩
          · rw [<- ag.out]
            exact((((B.out.trans (ak.out.mono B.out.size)).setCell (zr _) _).setCell (zr _) _).setCell (zr _) _).setCell (zr _) _
theorem zaY(w:World)(b o:Nat)(v:Value):w.grownBy (w.setCell ⟨b,o,none⟩ v) (some b):=
 ⟨rfl,rfl,rfl,by have:=((yR 0 w).setCell (p:=⟨b,o,none⟩) (Nat.zero_le _) v).size;exact this,fun k _ hne=>Below.heap_setCell w _ v k (fun e=>hne (by rw[e]))⟩
theorem zbc{a b c:World}{r:Option Nat}(h:a.grownBy b r)(k:b.grownBy c r):a.grownBy c r:=
 ⟨k.os.trans h.os,k.tape.trans h.tape,k.output.trans h.output,yT h.size k.size,fun i hi hne=>(k.block i (by have:=h.size;omega) hne).trans (h.block i hi hne)⟩
theorem set4{W:World}{g:Nat}{e:TypeId}{a b c d:Value}(h:OwnV W g e [a,b,c,d])(v0 v1 v2 v3:Value) :
  ∃W',W'=(((W.setCell ⟨g,0,none⟩ v0).setCell ⟨g,1,none⟩ v1).setCell ⟨g,2,none⟩ v2).setCell ⟨g,3,none⟩ v3/\OwnV W' g e [v0,v1,v2,v3]/\W.grownBy W' (some g):=
 ⟨_,rfl,(((h.set 0 v0).set 1 v1).set 2 v2).set 3 v3,zbc (zbc (zbc (zaY _ _ _ _) (zaY _ _ _ _)) (zaY _ _ _ _)) (zaY _ _ _ _)⟩
theorem zbz{a b:World}{g B:Nat}(h:a.grownBy b (some g))(d:B<=g)(f:B<=a.heap.size):Below B a b:=⟨h.os,h.tape,h.output,h.size,fun k hk=>h.block k (by omega) (fun e=>by cases e;omega)⟩
theorem zlP(n:Nat):strongs.getD n 0<=5:=by
 have:∀j:Fin 14,strongs.getD j.val 0<=5:=by decide
 by_cases h:n<14
 ·exact this ⟨n,h⟩
 ·rw[List.getD_eq_getElem?_getD,List.getElem?_eq_none (by show 14<=n;omega)];exact Nat.zero_le _
theorem zlQ(t:Tok):zcf t<=13:=by
 have d:∀(l:List (List UInt8)) (k:Nat),zai t.text l k<=l.length+k:=by
  intro l
  induction l with
  | nil=>intro k;exact Nat.zero_le _
  | cons x l ih =>
   intro k;rw[zai,yB];split
   ·omega
   ·have:=ih (k+1);omega
 unfold zcf;split
 ·exact d signWords 0
 ·exact Nat.zero_le _
theorem zjJ{q i u:World}{d g2 m:Nat}{op:Int}{xs:List Ex}{cs:List Value}(f:Below q.heap.size q i)(A:OwnV i g2 29 cs)(v:ExsC q (fun g=>m<=g/\g≠d) xs cs)(y:m<=g2)(j:g2≠d)(w:xs.length<=1000)(l:i.grownBy u (some d)) :
  ExsC u (fun g=>m<=g/\g≠d) [.mk op 0 [] xs] [.int .u8 op,.int .i64 0,.string { data:=#[] },.slice (some ⟨g2,0,none⟩) xs.length xs.length]:=by
 have z:ExsC i (fun g=>m<=g/\g≠d) [.mk op 0 [] xs] [.int .u8 op,.int .i64 0,.string (bstr []),.slice (some ⟨g2,0,none⟩) xs.length xs.length]:=
  ExsC.cons (zb7 A v.len (zr _) (by omega)) (.inr fun g h=>by cases h;exact⟨y,j⟩) (v.under f (zr _)) ExsC.nil
 exact z.grown l (fun g e h=>by cases e;exact h.2 rfl)
theorem zlR(l:List Tok)(E:Nat->Nat->Nat->PR Ex)(v:Value)(hG:Good l)(hm:l.length<=4611686018427387904)(i o d:Nat)(w:World)(hE:ExprC l E i)(hT:Toks w l v)(hi:i<l.length)(ho:o<=300)(bw:d<=6) :
  Calls Tryz.prog 72 #[v,.int .i64 i,.int .i64 o,.int .i64 d] w fun e w'=>zb4 l i w w' e ((zas l E (l.length+1-i) i o).andThen fun x j=>zaD l E (l.length+1-j) x j o d)/\Below w.heap.size w w':=by
 have HU:Hid (∀w',Below w.heap.size w w'->_):=zh (fun(w':World) (hb:Below w.heap.size w w')=>zlO l E v hG hm (l.length+1-i) i o w' (by omega) hE (Sl.below (by omega) hT hb (zr _)) hi ho);have HT:=zh hT;have HE:=zh hE;obtain⟨a,cap,rfl,bC,bH⟩:=Sl.form hT;have aC:=OwnV.new w 29 zeroE;have aQ:Below w.heap.size w (w.alloc (.cells zeroE.toArray 29)):=(yR _ _).alloc (zr _) _;obtain⟨W0,az⟩:∃W0,W0=w.alloc (.cells zeroE.toArray 29):=⟨_,rfl⟩;rw[<-az] at aC aQ;simp only[zeroE] at az;have aj:=zh aC;have aD:=zh aQ;have bN:w.heap.size<W0.heap.size:=aC.lt;have bK:(i:Int)<=4611686018427387904:=by omega
 obtain⟨z,ap⟩:∃r,((zas l E (l.length+1-i) i o).andThen fun x j=>zaD l E (l.length+1-j) x j o d)=r:=⟨_,rfl⟩;rw[ap];have Hf:=zh ap.symm;clear ap;clear hT hE aC aQ
 generalize zas l E (l.length+1-i) i o=R at *
 go_enter Tryz.func72,Tryz.ntmps72
 go_wp2_with fail
 rw[<-az];clear az;go_at_call 116;refine(HU.out _ aD.out).mono ?_;rintro e1 w2⟨bj,ax⟩;have ae:=zh (aj.out.below ax (zr _));have bA:w.heap.size+1<=w2.heap.size:=by have:=ax.size;omega
 have W:=zh (aD.out.trans (ax.mono aD.out.size));clear ax HU aj aD
 cases R with
 | err a2 c =>
  obtain⟨op,n,nm,ad,m,cp,rfl,hc,aT⟩:=bj;have G:Hid (z=.err a2 c):=zh Hf.out;have Hc:=zh hc;have bs:(c != 0)=true:=by rcases hc with rfl|rfl <;> rfl
  have M:=ae.out.alloc (.cells #[.int .u8 op,.int .i64 n,.string nm,.slice ad m cp] 29);obtain⟨x0,x1,x2,x3⟩:=yc4 M;have f0:=M.free;clear hc M;go_wp2_with fail
  refine yE (v:=.tuple #[.agg #[.int .u8 op,.int .i64 n,.string nm,.slice ad m cp],.int .i64 a2,.int .i64 c]) (by simp[results,Tryz.results72,go_sem,x0,x1,x2,x3]) rfl ⟨by rw[G.out];exact⟨_,_,_,_,_,_,rfl,Hc.out,aT⟩,?_⟩
  exact((((W.out.alloc W.out.size _).setCell (zr _) _).setCell (zr _) _).setCell (zr _) _).setCell (zr _) _
 | ok x j =>
  obtain⟨v2,rfl,⟨cs,rfl,hX⟩,aA,K⟩:=bj;have G:Hid (z=zaD l E (l.length+1-j) x j o d):=zh Hf.out;obtain⟨op,n,name,args,O,u,rfl,rfl⟩:=hX.one;obtain⟨J,aE⟩:∃J,J=w2.heap.size:=⟨_,rfl⟩;have ai:Hid (OwnV (w2.alloc (.cells [.int .u8 op,.int .i64 n,.string (bstr name),.slice O args.length u].toArray 29)) J 29 [.int .u8 op,.int .i64 n,.string (bstr name),.slice O args.length u]):=zh (by rw[aE];exact OwnV.new _ _ _);have B:=zh (ae.out.alloc (.cells [.int .u8 op,.int .i64 n,.string (bstr name),.slice O args.length u].toArray 29));have H:=zh (W.out.alloc W.out.size (.cells [.int .u8 op,.int .i64 n,.string (bstr name),.slice O args.length u].toArray 29));have U:Hid (ExsC (w2.alloc (.cells [.int .u8 op,.int .i64 n,.string (bstr name),.slice O args.length u].toArray 29)) (fun g=>w.heap.size+1<=g/\g≠J) [.mk op n name args] [.int .u8 op,.int .i64 n,.string (bstr name),.slice O args.length u]):=zh ((hX.weak fun g hlt h=>⟨by omega,by omega⟩).under ((yR _ _).alloc (zr _) _) (zr _));have bL:=zh aE;have bz:w.heap.size+1<=J:=by omega
  clear hX ae W;go_wp2_with fail
  rw[<-aE];clear aE;go_loopw [1,9,10,13,14,15,16,17,18,19,33,34,35,36,37,38,39,40,41,42,43,44,45,46,47,48,49,50,51,52,53,54,55,56,57,58,59,60,61,62,63,64,65,66,67,68,69,70,71,72,73,74,75,76,77,78,79,80,81,82,83,84,85,86,87] (fun t1 _ _ _ _ _ _ _ _ _ _ _ _ _ _ _ _ _ _ _ _ _ _ _ _ _ _ _ _ _ _ _ _ _ _ _ _ _ _ _ _ _ _ _ _ _ _ _ _ _ _ _ _ _ _ _ _ _ _ _ _ _ _ _ _ wr=>∃(j F:Nat) (op n:Int) (name:List UInt8) (args:List Ex) (O:Option Addr) (u:Nat),i<j/\j<l.length/\l.length-j<F/\t1=.int .i64 j/\Hid (OwnV wr J 29 [.int .u8 op,.int .i64 n,.string (bstr name),.slice O args.length u])/\Hid (OwnV wr w.heap.size 29 zeroE)/\Hid (ExsC wr (fun g=>w.heap.size+1<=g/\g≠J) [.mk op n name args] [.int .u8 op,.int .i64 n,.string (bstr name),.slice O args.length u])/\Hid (z=zaD l E F (.mk op n name args) j o d)/\Hid (Below w.heap.size w wr)) (fun t1 _ _ _ _ _ _ _ _ _ _ _ _ _ _ _ _ _ _ _ _ _ _ _ _ _ _ _ _ _ _ _ _ _ _ _ _ _ _ _ _ _ _ _ _ _ _ _ _ _ _ _ _ _ _ _ _ _ _ _ _ _ _ _ _ _=>l.length-(intOf t1).toNat)
  case atStart=>exact⟨j,l.length+1-j,op,n,name,args,O,u,aA,K,by omega,rfl,ai,B,U,G,H⟩
  case round =>
   clear ai B U G H aA K;obtain⟨j,F,op,n,name,args,O,u,aA,K,hF,rfl,ai,aj,HX,Hf,Hb⟩:=hrel;have bo:=zh (Sl.below (by omega) HT.out Hb.out (zr _));obtain⟨b,bt,rfl,c0,c1,c2,c3,c4⟩:=zaF bo.out K;have bD:(j:Int)<l.length:=by omega
   have aP:Hid (∀w:World,_):=zh (fun w:World=>zjI (zaa l j) w);obtain⟨S,hS⟩:∃S,zcf (zaa l j)=S:=⟨_,rfl⟩;have a4:=zlQ (zaa l j);have bG:=zlP S;rw[hS] at aP a4;have ba:Hid (za3 l j=S):=zh hS;have bp:Hid (zaj l j=strongs.getD S 0):=zh (by show strongs.getD (za3 l j) 0=_;rw[ba.out]);have a1:S≠0->((if S=0 then 0 else 9+S:Nat):Int)=9+S:=fun h=>by rw[yN h];omega
   have a7:=zh a1
   have Hn:Hid (strongs.getD S 0≠0->j+1<l.length):=zh (fun h=>hG.next K (fun hk=>h (by
    have:zcf (zaa l j)=0:=by unfold zcf;rw[yN (by rw[hk];decide)]
    rw[<-hS,this];rfl)))
   have bE:b<w.heap.size:=by
    obtain⟨b',a9,e,d0,-⟩:=zaF HT.out K;cases e;exact World.block_lt_of_cell? w _ d0
   have Hz:Hid (S=0->strongs.getD S 0=0):=zh (fun h=>by rw[h];rfl);unfold twoE at aP
   generalize ((if S=0 then 0 else 9+S:Nat):Int)=OP at *
   generalize strongs.getD S 0=C at *
   generalize zaa l j=T at *
   clear hS a1;obtain⟨F,rfl⟩:∃F',F=F'+1:=⟨F-1,by omega⟩;have aw:Hid (z=if C<d∨C=0 then .ok (.mk op n name args) j else(E (j+1) o (C+1)).andThen fun y k=>if C=3/\zaj l k=3 then .err k 120 else zaD l E F (.mk (9+S) 0 [] [.mk op n name args,y]) k o d):=zh (by rw[Hf.out,zaD,bp.out,ba.out]);clear Hf;go_wp2_with fail
   go_at_call 117;refine(aP.out _).mono ?_;rintro e3 w3⟨rfl,an⟩;have N:=zh (ai.out.below an (zr _));have B:=zh (aj.out.below an (zr _));have U:=zh (HX.out.under an (zr _));have H:=zh (Hb.out.trans (an.mono Hb.out.size));have aI:J<w3.heap.size:=N.out.lt;clear an ai aj HX Hb c0 c1 c2 c3 c4 bo;by_cases I:C<d∨C=0
   ·have Z:Hid (z=.ok (.mk op n name args) j):=zh (by rw[aw.out,yP I]);obtain⟨x0,x1,x2,x3⟩:=yc4 B.out;have f0:=B.out.free;obtain⟨y0,y1,y2,y3⟩:=yc4 N.out;have hP:¬(w.heap.size+1<=w.heap.size/\w.heap.size≠J):=by omega
    have HP:=zh hP;rcases(show(C:Int)<d∨(¬(C:Int)<d/\((C:Int)==0)=true) by rw[beq_iff_eq];omega) with h1|⟨h1,h2⟩
    all_goals
     clear aw I hP;go_wp2_with fail
     refine yE (v:=.tuple #[.agg #[.int .u8 op,.int .i64 n,.string (bstr name),.slice O args.length u],.int .i64 j,.int .i64 0]) (by simp[results,Tryz.results72,go_sem,x0,x1,x2,x3]) rfl ⟨?_,(((H.out.setCell (zr _) _).setCell (zr _) _).setCell (zr _) _).setCell (zr _) _⟩;rw[Z.out];exact⟨_,rfl,⟨_,rfl,((((U.out.set HP.out).set HP.out).set HP.out).set HP.out).weak fun g _ h=>by omega⟩,aA,K⟩
   ·have Z:Hid (z=(E (j+1) o (C+1)).andThen fun y k=>if C=3/\zaj l k=3 then .err k 120 else zaD l E F (.mk (9+S) 0 [] [.mk op n name args,y]) k o d):=zh (by rw[aw.out,yN I]);have h1:¬(C:Int)<d:=by omega
    have h2:((C:Int)==0)=false:=by rw[beq_eq_false_iff_ne];omega
    have bq:=Hn.out (by omega);have bi:S≠0:=fun h=>I (.inr (Hz.out h))
    have bg:=zh (a7.out bi);have bm:Hid (∀w',Below w.heap.size w w'->Calls Tryz.prog 72 #[.slice (some ⟨b,bt,none⟩) l.length cap,.int .i64 ((j:Int)+1),.int .i64 o,.int .i64 ((C:Int)+1)] w' fun e w''=>zb4 l (j+1) w' w'' e (E (j+1) o (C+1))/\Below w'.heap.size w' w''):=zh (fun w' hb=>HE.out (j+1) o (C+1) _ w' (by omega) bq ho (by omega) (Sl.below (by omega) HT.out hb (zr _)));clear aw I a7 Hz Hn
    generalize E (j+1) o (C+1)=R2 at *
    go_wp2_with fail
    go_at_call 72;refine(bm.out _ H.out).mono ?_;rintro e4 w4⟨aV,V⟩;have P:=zh (N.out.below V (zr _));have ag:=zh (B.out.below V (zr _));have bd:=zh (U.out.under V (zr _));have ac:=zh (H.out.trans (V.mono H.out.size));have aH:J<w4.heap.size:=P.out.lt;have aq:=V.size;clear V N B U H bm
    cases R2 with
    | err a2 c =>
     obtain⟨bh,n1,nm1,be,m1,aY,rfl,hc,aT⟩:=aV;have G:Hid (z=.err a2 c):=zh Z.out;have Hc:=zh hc;have bs:(c != 0)=true:=by rcases hc with rfl|rfl <;> rfl
     have M:=ag.out.alloc (.cells #[.int .u8 bh,.int .i64 n1,.string nm1,.slice be m1 aY] 29);obtain⟨x0,x1,x2,x3⟩:=yc4 M;have f0:=M.free;clear hc M;go_wp2_with fail
     refine yE (v:=.tuple #[.agg #[.int .u8 bh,.int .i64 n1,.string nm1,.slice be m1 aY],.int .i64 a2,.int .i64 c]) (by simp[results,Tryz.results72,go_sem,x0,x1,x2,x3]) rfl ⟨by rw[G.out];exact⟨_,_,_,_,_,_,rfl,Hc.out,aT⟩,?_⟩
     exact((((ac.out.alloc ac.out.size _).setCell (zr _) _).setCell (zr _) _).setCell (zr _) _).setCell (zr _) _
    | ok y L =>
     obtain⟨v4,rfl,⟨bJ,rfl,hY⟩,bv,af⟩:=aV;obtain⟨A,n2,f,q,au,D,rfl,rfl⟩:=hY.one;have G:Hid (z=if C=3/\zaj l L=3 then .err L 120 else zaD l E F (.mk (9+S) 0 [] [.mk op n name args,.mk A n2 f q]) L o d):=zh Z.out;obtain⟨W5,aN,am,-,aZ,bn⟩:=opened w4 [.int .u8 A,.int .i64 n2,.string (bstr f),.slice au q.length D] [.int .u8 op,.int .i64 n,.string (bstr name),.slice O args.length u,.int .u8 A,.int .i64 n2,.string (bstr f),.slice au q.length D] 29 29;have bf:=P.out.alloc (.cells #[.int .u8 A,.int .i64 n2,.string (bstr f),.slice au q.length D] 29);obtain⟨z0,z1,z2,z3⟩:=yc4 bf;have X:=zh (P.out.below am (zr _));have aF:=zh (ag.out.below am (zr _));have ay:=X.out;rw[aN] at ay;obtain⟨u0,u1,u2,u3⟩:=yc4 ay;have f0:=ay.free;have aX:Hid (ExsC w4 (fun g=>w.heap.size+1<=g/\g≠J) [.mk op n name args,.mk A n2 f q] [.int .u8 op,.int .i64 n,.string (bstr name),.slice O args.length u,.int .u8 A,.int .i64 n2,.string (bstr f),.slice au q.length D]):=zh (bd.out.append (hY.weak fun g _ h=>⟨by omega,by omega⟩));have aM:=zh (ac.out.trans (am.mono ac.out.size));have ab:=zh am;have a8:=zh aZ;have aW:=zh aN;have bM:(L:Int)<l.length:=by omega
     have ak:Hid (∀w:World,_):=zh (fun w:World=>zjI (zaa l L) w);have aL:Hid (zaj l L=strongs.getD (zcf (zaa l L)) 0):=zh rfl;unfold twoE at ak
     generalize ((if zcf (zaa l L)=0 then 0 else 9+zcf (zaa l L):Nat):Int)=bF at *
     generalize strongs.getD (zcf (zaa l L)) 0=aS at *
     obtain⟨T2,aO⟩:∃T2,zaa l L=T2:=⟨_,rfl⟩;rw[aO] at ak;have bu:=zh aO;clear aO;have ah:=zh aH;have a3:=zh aI;have aU:=zh aq;clear Z bf ay hY am aZ aN bn ag bd aH aI aq;go_upto_region 11 with(fail)
     rw[<-aW.out];obtain⟨W6,bb,a6,ar⟩:=set4 X.out (.int .u8 OP) (.int .i64 0) (.string { data:=#[] }) (.slice (some ⟨w4.heap.size+1,0,none⟩) 2 2);rw[<-bb];have hP:¬(w.heap.size+1<=w.heap.size/\w.heap.size≠J):=by omega
     have HP:=zh hP
     have bc:Hid (ExsC W6 (fun g=>w.heap.size+1<=g/\g≠J) [.mk (9+S) 0 [] [.mk op n name args,.mk A n2 f q]] [.int .u8 OP,.int .i64 0,.string { data:=#[] },.slice (some ⟨w4.heap.size+1,0,none⟩) 2 2]):=zh (by
      have:=zjJ (op:=9+(S:Int)) ab.out a8.out aX.out (by have:=ah.out;omega) (by have:=ah.out;omega) (by simp) ar;rw[bg.out]
      exact this)
     have aJ:=zh a6;have aK:=zh (aF.out.grown ar (fun e=>by cases e;omega));have av:=zh (aM.out.trans (zbz ar (by omega) aM.out.size));obtain⟨b',a9,eb,d0,d1,d2,d3,d4⟩:=zaF (Sl.below (by omega) HT.out av.out (zr _)) af;cases eb;rw[bu.out] at d0 d1 d2 d3 d4;clear z0 z1 z2 z3 u0 u1 u2 u3 f0 a6 ar bb P X aF aX ac aM ab a8 aW hP ah a3 aU;go_wp2_with fail
     go_at_call 117;refine(ak.out _).mono ?_;rintro e7 w7⟨rfl,Y⟩;have aG:=zh (aJ.out.below Y (zr _));have ao:=zh (aK.out.below Y (zr _));have br:=zh (bc.out.under Y (zr _));have a0:=zh (av.out.trans (Y.mono av.out.size));clear Y aJ aK bc av d0 d1 d2 d3 d4;by_cases Q:C=3/\aS=3
     ·have aR:Hid (z=.err L 120):=zh (by rw[G.out,yP (by rw[aL.out];exact Q)]);have g1:((C:Int)==3)=true:=by rw[beq_iff_eq];omega
      have g2:((aS:Int)==3)=true:=by rw[beq_iff_eq];omega
      obtain⟨x0,x1,x2,x3⟩:=yc4 ao.out;have f0:=ao.out.free;obtain⟨y0,y1,y2,y3⟩:=yc4 aG.out;clear Q;go_wp2_with fail
      refine yE (v:=.tuple #[.agg #[.int .u8 OP,.int .i64 0,.string { data:=#[] },.slice (some ⟨w4.heap.size+1,0,none⟩) 2 2],.int .i64 L,.int .i64 120]) (by simp[results,Tryz.results72,go_sem,x0,x1,x2,x3]) rfl ⟨by rw[aR.out];exact⟨_,_,_,_,_,_,rfl,.inl rfl,af⟩,?_⟩;exact(((a0.out.setCell (zr _) _).setCell (zr _) _).setCell (zr _) _).setCell (zr _) _
     ·have aR:Hid (z=zaD l E F (.mk (9+S) 0 [] [.mk op n name args,.mk A n2 f q]) L o d):=zh (by rw[G.out,yN (by rw[aL.out];exact Q)])
      have a5:Hid (OwnV w7 J 29 [.int .u8 (9+S),.int .i64 0,.string (bstr []),.slice (some ⟨w4.heap.size+1,0,none⟩) [Ex.mk op n name args,Ex.mk A n2 f q].length 2]/\ExsC w7 (fun g=>w.heap.size+1<=g/\g≠J) [.mk (9+S) 0 [] [.mk op n name args,.mk A n2 f q]] [.int .u8 (9+S),.int .i64 0,.string (bstr []),.slice (some ⟨w4.heap.size+1,0,none⟩) [Ex.mk op n name args,Ex.mk A n2 f q].length 2]):=zh (by
       have h1:=aG.out;have h2:=br.out;rw[bg.out] at h1 h2
       exact⟨h1,h2⟩)
      rcases(show((C:Int)==3)=false∨(((C:Int)==3)=true/\((aS:Int)==3)=false) by rw[beq_iff_eq,beq_eq_false_iff_ne,beq_eq_false_iff_ne];omega) with g1|⟨g1,g2⟩
      all_goals
       clear Q;go_wp2_with fail
       go_roundw
       case rel=>exact⟨L,F,9+S,0,[],[.mk op n name args,.mk A n2 f q],some ⟨w4.heap.size+1,0,none⟩,2,by omega,af,by omega,rfl,zh a5.out.1,ao,zh a5.out.2,aR,a0⟩
       case measure=>simp[intOf];omega
theorem zkD(l:List Tok)(v:Value)(m:Good l)(u:l.length<=4611686018427387904):∀(f i o d:Nat) (w:World),l.length-i<f->Toks w l v->i<l.length->o<=300->d<=6 ->
  Calls Tryz.prog 72 #[v,.int .i64 i,.int .i64 o,.int .i64 d] w fun e w'=>zb4 l i w w' e (zaw l f i o d)/\Below w.heap.size w w':=by
 intro f
 induction f generalizing v with
 | zero=>intro i o d w h;omega
 | succ f ih =>
  intro i o d w y q hi j g;rw[zaw];exact zlR l (zaw l f) v m u i o d w (fun k o d v w h1 h2 h3 h4 h5=>ih v k o d w (by omega) h5 h2 h3 h4) q hi j g
theorem ziI(l:List Tok)(v:Value)(j:Good l)(q:l.length<=4611686018427387904)(i o d:Nat)(w:World)(m:Toks w l v)(hi:i<l.length)(g:o<=300)(f:d<=6) :
  Calls Tryz.prog 72 #[v,.int .i64 i,.int .i64 o,.int .i64 d] w fun e w'=>zb4 l i w w' e (zaA l i o d)/\Below w.heap.size w w':=
 zkD l v j q _ i o d w (by omega) m hi g f
end Go.Proofs.YtoaojdobjinhfaaGreatDoor
