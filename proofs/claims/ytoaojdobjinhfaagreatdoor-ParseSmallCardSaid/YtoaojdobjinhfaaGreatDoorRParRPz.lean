/- The reference parser's statement, walked. -/
import Derived.Test.YtoaojdobjinhfaaGreatDoorOnlyPz
import Derived.Test.YtoaojdobjinhfaaGreatDoorRParPPz
set_option linter.unusedSimpArgs false
set_option linter.unusedVariables false
set_option maxRecDepth 100000
set_option maxHeartbeats 2000000
namespace Go.Proofs.YtoaojdobjinhfaaGreatDoor
open Go.RowKit

theorem zca{w w':World}{row:Option Nat}(g:w.grownBy w' row){b i:Nat}(f:b<w.heap.size)(d:some b≠row):w'.frozen? ⟨b,i,none⟩=w.frozen? ⟨b,i,none⟩:=by
 unfold World.frozen?;simp[g.block b f d]
theorem zmN(l:List Tok)(f i o:Nat)(v:Value)(w:World)(hT:Toks w l v)(hG:Good l)(hi:i<l.length)(hm:l.length<=1000000)(ho:o<=300)(hk:(zaa l i).kind=1)(hK:0<zap (zaa l i).text) :
  Calls Tryz.prog 71 #[v,.int .i64 i,.int .i64 o] w fun e w'=>zb5 l i w w' e (zan l (f+1) i o)/\Below w.heap.size w w':=by
 have hn:=hG.next hi (by rw[hk];decide);have HT:=zh hT;have HK:Hid (∀w:World,_):=zh (fun w:World=>zb6 (zaa l i).text w);have bp:=zdg (zaa l i).text;have HN:Hid (∀w',Below w.heap.size w w'->Calls Tryz.prog 112 #[v,.int .i64 ((i:Int)+1),.int .i64 o,.string { data:=#[91] },.string { data:=#[93] },.int .i64 1] w' fun e w''=>ExsE l (i+1) w' w'' e (zad l (zaA l) (i+1) o [91] [93] 1)/\Below w'.heap.size w' w''):=zh (fun(w':World) (U:Below w.heap.size w w')=>zcz l (zaA l) v (i+1) o 1 [91] [93] w' (ze9 hG (by omega) _) (Sl.below (by omega) hT U (zr _)) hG hn (by omega) ho (by omega) (by omega));have HV:Hid (∀j,i<j->j<l.length->∀w',Below w.heap.size w w'->Calls Tryz.prog 113 #[v,.int .i64 j,.int .i64 o] w' fun e w''=>zb4 l j w' w'' e (zaz l j o)/\Below w'.heap.size w' w''):=zh (fun j _ hj w' U=>zeH l v hG (by omega) j o w' (Sl.below (by omega) hT U (zr _)) hj ho)
 have HF:Hid (zan l (f+1) i o=(zad l (zaA l) (i+1) o [91] [93] 1).andThen fun xs j=>(zaz l j o).map fun y=>.mk 3 (zap (zaa l i).text) [] (xs++[y]) [] []):=zh (by
  rw[zan,yN (by rw[hk];decide),yP hK])
 have aA:Hid (∀ys j,zad l (zaA l) (i+1) o [91] [93] 1=.ok ys j->ys.length=1):=zh (fun ys j h=>zdC h);obtain⟨aa,aD⟩:∃r,zan l (f+1) i o=r:=⟨_,rfl⟩;rw[aD] at HF ⊢;obtain⟨a,cap,rfl,br,bC⟩:=Sl.form hT;obtain⟨b,bt,rfl,c0,c1,c2,c3,c4⟩:=zaF hT hi;have bz:(i:Int)<l.length:=by omega
 have bD:(i:Int)<=1000000:=by omega
 have bu:b<w.heap.size:=World.block_lt_of_cell? w _ c0;have bj:¬b=w.heap.size:=by omega
 rw[hk] at c0;clear aD hT hk
 generalize (zaa l i).text=S at *
 generalize (zaa l i).n=N at *
 generalize (zaa l i).line=L at *
 generalize (zaa l i).col=C at *
 generalize zap S=K at *
 generalize zad l (zaA l) (i+1) o [91] [93] 1=R1 at *
 have bv:(K:Int)>0:=by omega
 go_enter Tryz.func71,Tryz.ntmps71
 go_wp2_with fail
 obtain⟨W0,aH,aV,aR,aI,a4⟩:=zbD w zbh (Tok.cells ⟨1,S,N,L,C⟩) 56 93;simp only[zbh,Tok.cells] at aH;rw[<-aH];clear aH c0 c1 c2 c3 c4 bj;have aL:=zh aV;have aW:Hid (OwnV W0 w.heap.size 56 zbh):=zh aR;have a3:=zh aI;obtain⟨t0,t1⟩:=yc2 aI;clear aV aR aI;go_at_call 24;refine(HK.out _).mono ?_;rintro e2 w2⟨rfl,ao⟩;have ax:=zh (aL.out.trans (ao.mono aL.out.size));have a0:=zh (aW.out.below ao (zr _));have aG:=zh (a3.out.below ao (zr _));have aC:=yT a4 ao.size;clear ao t0 t1 aW a3 aL a4;have t1:=aG.out.cell (i:=1) rfl;go_wp2_with fail
 go_at_call 112;refine(HN.out _ ax.out).mono ?_;rintro e3 w3⟨aX,ai⟩;have au:=zh (ax.out.trans (ai.mono ax.out.size));have aF:=zh (a0.out.below ai (zr _));have aO:=zh (aG.out.below ai (zr _));have aT:=yT aC ai.size;have aj:=ai.size;clear ai t1 a0 aG ax HN
 cases R1 with
 | err a c =>
  obtain⟨rfl,hc,aK⟩:=aX;have bb:Hid (aa=.err a c):=zh HF.out;have bs:(c != 0)=true:=by rcases hc with rfl|rfl <;> rfl
  have Hc:=zh hc;clear hc;have X:=aF.out;obtain⟨x0,x1,x2,x3,x4,x5⟩:=yc6 X;have xf:=X.free;clear X;go_wp2_with fail
  refine yE (v:=.tuple #[.agg #[.int .u8 0,.int .i64 0,.string { data:=#[] },.slice none 0 0,.slice none 0 0,.slice none 0 0],.int .i64 a,.int .i64 c]) (by simp[results,Tryz.results71,go_sem,x0,x1,x2,x3,x4,x5]) rfl ⟨?_,((((((au.out).setCell (zr _) _).setCell (zr _) _).setCell (zr _) _).setCell (zr _) _).setCell (zr _) _).setCell (zr _) _⟩;rw[bb.out]
  exact⟨_,_,_,_,_,_,_,_,_,_,_,_,rfl,Hc.out,aK⟩
 | ok xs j =>
  obtain⟨v3,rfl,⟨cs,hown,hX⟩,bx,ba⟩:=aX;have aP:=aA.out xs j rfl
  obtain⟨xa,rfl⟩:∃x,xs=[x]:=by
   match xs,aP with
   | [x],_=>exact⟨x,rfl⟩
  have ag:w3.ownsRow w2.heap.size 29 4 v3 1 cs:=hown;obtain⟨a2,F,rfl,bo,bq⟩:=Sl.form (Sl.of_own ag);have aq:=zh ag;have HX:=zh hX;have bi:=zh (HV.out j (by omega) ba);have aS:Hid (aa=(zaz l j o).map fun y=>.mk 3 K [] ([xa]++[y]) [] []):=zh HF.out
  generalize zaz l j o=R2 at *
  clear hown ag hX HF aA aP HV;go_wp2_with fail
  go_at_call 113;refine(bi.out _ au.out).mono ?_;rintro e4 Q⟨aN,ab⟩;have ay:=zh (au.out.trans (ab.mono au.out.size));have aQ:=zh (aF.out.below ab (zr _));have a1:=zh (aO.out.below ab (zr _));have G:=zh (zbu aq.out ab (zr _));have bA:=zh (HX.out.under ab (zr _));have az:=yT aT ab.size;have bd:w2.heap.size<=Q.heap.size:=yT aj ab.size;have aZ:Hid (∀(y:Ex) (cx:List Value) (W O:World) (v':Value),ExsC Q (fun g=>w3.heap.size<=g) [y] cx->Below Q.heap.size Q W->W.grownBy O (Value.slice a2 1 F).ownBlock->(v'.ownBlock=(Value.slice a2 1 F).ownBlock∨∃g,v'.ownBlock=some g/\W.heap.size<=g)->ExsC O (fun g=>w2.heap.size<=g) ([xa]++[y]) (cs++cx)):=zh (fun y cx W O v' hy hW hg hat=>(zfV aq.out HX.out ab hy aj hW hg hat).weak1);clear ab aF aO au aq HX
  cases R2 with
  | err a c =>
   obtain⟨op,n,nm,V,m,R,rfl,hc,aK⟩:=aN;have aJ:Hid (aa=.err a c):=zh aS.out;have Hc:=zh hc;clear hc;obtain⟨B,an,ap,M⟩:∃B,B=Q.alloc (.cells #[.int .u8 op,.int .i64 n,.string nm,.slice V m R] 29)/\OwnV B Q.heap.size 29 [.int .u8 op,.int .i64 n,.string nm,.slice V m R]/\Below Q.heap.size Q B:=⟨_,rfl,OwnV.new _ _ _,(yR _ _).alloc (zr _) _⟩;have ak:=zh (aQ.out.below M (zr _));have aM:=zh (a1.out.below M (zr _));have af:=zh (zbu G.out M (zr _));have am:=zh (ay.out.trans (M.mono ay.out.size));have aE:=zh an;have ae:=zh ap;have a5:=yT az M.size;clear ap M an;have bc:IntKind.i64.wrap (K:Int)=K:=by simp[IntKind.wrap,IntKind.bits];omega
   go_upto_region 9 with(fail)
   rw[<-aE.out];have t1:=aM.out.cell (i:=1) rfl;obtain⟨y0,y1,y2,y3⟩:=yc4 ae.out;have X:=ak.out;obtain⟨x0,x1,x2,x3,x4,x5⟩:=yc6 X;have xf:=X.free;have J:w.heap.size<B.heap.size:=by omega
   have bh:Q.heap.size<B.heap.size:=ae.out.lt;have bm:w.heap.size+1<B.heap.size:=by omega
   have I:Hid (∀w',Below B.heap.size B w'->w'.ownsRow w2.heap.size 29 4 (.slice a2 1 F) 1 cs):=zh (fun w' U=>zbu af.out U (zr _));have E:Hid (∀w',Below B.heap.size B w'->w2.heap.size<=w'.heap.size):=zh (fun w' U=>by have:=U.size;omega);have D:Hid (∀w',Below B.heap.size B w'->B.heap.size<=w'.heap.size):=zh (fun w' U=>U.size);have H:Hid (∀w',Below B.heap.size B w'->∀i,w'.frozen? ⟨w.heap.size,i,none⟩=false):=zh (fun w' U=>(ak.out.below U (zr _)).free);have ar:Hid (∀w',Below B.heap.size B w'->Below w.heap.size w w'):=zh (fun w' U=>am.out.trans (U.mono am.out.size));have ac:w.heap.size<=w2.heap.size:=by omega
   have T:Hid (some (w.heap.size+1)≠(Value.slice a2 1 F).ownBlock):=zh (fun e=>by have:=zck G.out _ e.symm;omega);have u:Hid (some w.heap.size≠(Value.slice a2 1 F).ownBlock):=zh (fun e=>by have:=zck G.out _ e.symm;omega);have z:Hid (some Q.heap.size≠(Value.slice a2 1 F).ownBlock):=zh (fun e=>by have:=(G.out.lt _ e.symm).2;omega);have a9:¬w.heap.size=Q.heap.size:=by omega
   have be:¬Q.heap.size=w.heap.size:=by omega
   have a8:¬Q.heap.size=w.heap.size+1:=by omega
   generalize Q.heap.size=gx at *
   clear X;go_region_held3 (fun w'=>w'.cell? ⟨w.heap.size+1,1,none⟩=some (.string (bstr S))/\w'.cell? ⟨gx,0,none⟩=some (.int .u8 op)/\w'.cell? ⟨gx,1,none⟩=some (.int .i64 n)/\w'.cell? ⟨gx,2,none⟩=some (.string nm)/\w'.cell? ⟨gx,3,none⟩=some (.slice V m R)) (go_keep) (first|(go_at_call 24;refine(HK.out _).mono ?_;rintro e6 w6⟨rfl,q⟩;have z0:=Below.keep q (a:=⟨w.heap.size+1,1,none⟩) (v:=.string (bstr S)) (by go_keep);have z1:=Below.keep q (a:=⟨gx,0,none⟩) (v:=.int .u8 op) (by go_keep);have z2:=Below.keep q (a:=⟨gx,1,none⟩) (v:=.int .i64 n) (by go_keep);have z3:=Below.keep q (a:=⟨gx,2,none⟩) (v:=.string nm) (by go_keep);have z4:=Below.keep q (a:=⟨gx,3,none⟩) (v:=.slice V m R) (by go_keep);have z5:=Below.keep q (a:=⟨w.heap.size,0,none⟩) (v:=.int .u8 0) (by go_keep);have z6:=Below.keep q (a:=⟨w.heap.size,1,none⟩) (v:=.int .i64 0) (by go_keep);have z7:=Below.keep q (a:=⟨w.heap.size,2,none⟩) (v:=.string { data:=#[] }) (by go_keep);have z8:=Below.keep q (a:=⟨w.heap.size,3,none⟩) (v:=.slice none 0 0) (by go_keep);have z9:=Below.keep q (a:=⟨w.heap.size,4,none⟩) (v:=.slice none 0 0) (by go_keep);have bf:=Below.keep q (a:=⟨w.heap.size,5,none⟩) (v:=.slice none 0 0) (by go_keep);have zf:∀i,w6.frozen? ⟨w.heap.size,i,none⟩=false:=fun i=>(q.frozen (p:=⟨w.heap.size,i,none⟩) (by first|exact J|exact ql|(simp;omega))).trans (by first|exact H.out _ ((yR _ _).drew) i|exact H.out _ (((yR _ _).alloc (zr _) _).drew) i|exact qf i))|(refine zaR rfl (.tmp 57) (.tmp 59) 27 rfl (I.out _ (((yR _ _).alloc (zr _) _).drew)) zbx Tryz.underlying27 rfl (by decide) rfl (zb7 (sz:=4) (n:=1) ((OwnV.new B 29 [.int .u8 op,.int .i64 n,.string nm,.slice V m R]).below ((yR _ _).drew) (zr _)) rfl (zr _) (by decide)) rfl rfl (by unfold maxLen;omega) (by omega) (E.out _ (((yR _ _).alloc (zr _) _).drew)) ?_;intro v' O A d Z Y;obtain⟨a7,P,rfl,av,aw⟩:=Sl.form (Sl.of_own A);have q0:=d.cell (a:=⟨w.heap.size+1,1,none⟩) (v:=.string (bstr S)) (by go_keep) T.out;have q1:=d.cell (a:=⟨gx,0,none⟩) (v:=.int .u8 op) (by go_keep) z.out;have q2:=d.cell (a:=⟨gx,1,none⟩) (v:=.int .i64 n) (by go_keep) z.out;have q3:=d.cell (a:=⟨gx,2,none⟩) (v:=.string nm) (by go_keep) z.out;have q4:=d.cell (a:=⟨gx,3,none⟩) (v:=.slice V m R) (by go_keep) z.out;have q5:=d.cell (a:=⟨w.heap.size,0,none⟩) (v:=.int .u8 0) (by go_keep) u.out;have q6:=d.cell (a:=⟨w.heap.size,1,none⟩) (v:=.int .i64 0) (by go_keep) u.out;have q7:=d.cell (a:=⟨w.heap.size,2,none⟩) (v:=.string { data:=#[] }) (by go_keep) u.out;have q8:=d.cell (a:=⟨w.heap.size,3,none⟩) (v:=.slice none 0 0) (by go_keep) u.out;have q9:=d.cell (a:=⟨w.heap.size,4,none⟩) (v:=.slice none 0 0) (by go_keep) u.out;have ah:=d.cell (a:=⟨w.heap.size,5,none⟩) (v:=.slice none 0 0) (by go_keep) u.out;have ql:w.heap.size<O.heap.size:=Nat.lt_of_lt_of_le (Nat.lt_of_lt_of_le J (D.out _ (((yR _ _).alloc (zr _) _).drew))) d.size;have qf:∀i,O.frozen? ⟨w.heap.size,i,none⟩=false:=fun i=>(zca d (Nat.lt_of_lt_of_le J (D.out _ (((yR _ _).alloc (zr _) _).drew))) u.out).trans (H.out _ (((yR _ _).alloc (zr _) _).drew) i))|(refine zaR rfl (.tmp 57) (.tmp 59) 27 rfl (I.out _ ((((yR _ _).drew).trans q).alloc (q.size) _)) zbx Tryz.underlying27 rfl (by decide) rfl (zb7 (sz:=4) (n:=1) (OwnV.new w6 29 [.int .u8 op,.int .i64 n,.string nm,.slice V m R]) rfl (zr _) (by decide)) rfl rfl (by unfold maxLen;omega) (by omega) (E.out _ ((((yR _ _).drew).trans q).alloc (q.size) _)) ?_;intro v' O A d Z Y;obtain⟨a7,P,rfl,av,aw⟩:=Sl.form (Sl.of_own A);have q0:=d.cell (a:=⟨w.heap.size+1,1,none⟩) (v:=.string (bstr S)) (by go_keep) T.out;have q1:=d.cell (a:=⟨gx,0,none⟩) (v:=.int .u8 op) (by go_keep) z.out;have q2:=d.cell (a:=⟨gx,1,none⟩) (v:=.int .i64 n) (by go_keep) z.out;have q3:=d.cell (a:=⟨gx,2,none⟩) (v:=.string nm) (by go_keep) z.out;have q4:=d.cell (a:=⟨gx,3,none⟩) (v:=.slice V m R) (by go_keep) z.out;have q5:=d.cell (a:=⟨w.heap.size,0,none⟩) (v:=.int .u8 0) (by go_keep) u.out;have q6:=d.cell (a:=⟨w.heap.size,1,none⟩) (v:=.int .i64 0) (by go_keep) u.out;have q7:=d.cell (a:=⟨w.heap.size,2,none⟩) (v:=.string { data:=#[] }) (by go_keep) u.out;have q8:=d.cell (a:=⟨w.heap.size,3,none⟩) (v:=.slice none 0 0) (by go_keep) u.out;have q9:=d.cell (a:=⟨w.heap.size,4,none⟩) (v:=.slice none 0 0) (by go_keep) u.out;have ah:=d.cell (a:=⟨w.heap.size,5,none⟩) (v:=.slice none 0 0) (by go_keep) u.out;have ql:w.heap.size<O.heap.size:=Nat.lt_of_lt_of_le (Nat.lt_of_lt_of_le J (D.out _ ((((yR _ _).drew).trans q).alloc (q.size) _))) d.size;have qf:∀i,O.frozen? ⟨w.heap.size,i,none⟩=false:=fun i=>(zca d (Nat.lt_of_lt_of_le J (D.out _ ((((yR _ _).drew).trans q).alloc (q.size) _))) u.out).trans (H.out _ ((((yR _ _).drew).trans q).alloc (q.size) _) i))|(refine zaR rfl (.tmp 57) (.tmp 59) 27 rfl (I.out _ ((((yR _ _).alloc (zr _) _).drew).trans (q.mono (by simp)))) zbx Tryz.underlying27 rfl (by decide) rfl (zb7 (sz:=4) (n:=1) (((OwnV.new B 29 [.int .u8 op,.int .i64 n,.string nm,.slice V m R]).below ((yR _ _).drew) (zr _)).below q (zr _)) rfl (zr _) (by decide)) rfl rfl (by unfold maxLen;omega) (by omega) (E.out _ ((((yR _ _).alloc (zr _) _).drew).trans (q.mono (by simp)))) ?_;intro v' O A d Z Y;obtain⟨a7,P,rfl,av,aw⟩:=Sl.form (Sl.of_own A);have q0:=d.cell (a:=⟨w.heap.size+1,1,none⟩) (v:=.string (bstr S)) (by go_keep) T.out;have q1:=d.cell (a:=⟨gx,0,none⟩) (v:=.int .u8 op) (by go_keep) z.out;have q2:=d.cell (a:=⟨gx,1,none⟩) (v:=.int .i64 n) (by go_keep) z.out;have q3:=d.cell (a:=⟨gx,2,none⟩) (v:=.string nm) (by go_keep) z.out;have q4:=d.cell (a:=⟨gx,3,none⟩) (v:=.slice V m R) (by go_keep) z.out;have q5:=d.cell (a:=⟨w.heap.size,0,none⟩) (v:=.int .u8 0) (by go_keep) u.out;have q6:=d.cell (a:=⟨w.heap.size,1,none⟩) (v:=.int .i64 0) (by go_keep) u.out;have q7:=d.cell (a:=⟨w.heap.size,2,none⟩) (v:=.string { data:=#[] }) (by go_keep) u.out;have q8:=d.cell (a:=⟨w.heap.size,3,none⟩) (v:=.slice none 0 0) (by go_keep) u.out;have q9:=d.cell (a:=⟨w.heap.size,4,none⟩) (v:=.slice none 0 0) (by go_keep) u.out;have ah:=d.cell (a:=⟨w.heap.size,5,none⟩) (v:=.slice none 0 0) (by go_keep) u.out;have ql:w.heap.size<O.heap.size:=Nat.lt_of_lt_of_le (Nat.lt_of_lt_of_le J (D.out _ ((((yR _ _).alloc (zr _) _).drew).trans (q.mono (by simp))))) d.size;have qf:∀i,O.frozen? ⟨w.heap.size,i,none⟩=false:=fun i=>(zca d (Nat.lt_of_lt_of_le J (D.out _ ((((yR _ _).alloc (zr _) _).drew).trans (q.mono (by simp))))) u.out).trans (H.out _ ((((yR _ _).alloc (zr _) _).drew).trans (q.mono (by simp))) i)))
   all_goals
    go_wp2_with fail
    refine yE (v:=.tuple #[.agg #[.int .u8 3,.int .i64 K,.string { data:=#[] },.slice a7 2 P,.slice none 0 0,.slice none 0 0],.int .i64 a,.int .i64 c]) (by simp[results,Tryz.results71,go_sem,q5,q6,q7,q8,q9,ah]) rfl ⟨?_,?_⟩
    ·rw[aJ.out];exact⟨_,_,_,_,_,_,_,_,_,_,_,_,rfl,Hc.out,aK⟩
    ·first
      | exact(((((((ar.out _ ((((yR _ _).drew).trans q).alloc q.size _)).trans (Z.mono ac)).setCell (zr _) _).setCell (zr _) _).setCell (zr _) _).setCell (zr _) _).setCell (zr _) _).setCell (zr _) _
      | exact(((((((ar.out _ ((((yR _ _).alloc (zr _) _).drew).trans (q.mono (by simp)))).trans (Z.mono ac)).setCell (zr _) _).setCell (zr _) _).setCell (zr _) _).setCell (zr _) _).setCell (zr _) _).setCell (zr _) _
  | ok y j2 =>
   obtain⟨v4,rfl,⟨cx,rfl,hY⟩,bn,aY⟩:=aN;obtain⟨op,n,name,args,V,R,rfl,rfl⟩:=hY.one;have aJ:Hid (aa=.ok (.mk 3 K [] ([xa]++[.mk op n name args]) [] []) j2):=zh aS.out;have HY:=zh hY;clear hY;obtain⟨B,an,ap,M⟩:∃B,B=Q.alloc (.cells #[.int .u8 op,.int .i64 n,.string (bstr name),.slice V args.length R] 29)/\OwnV B Q.heap.size 29 [.int .u8 op,.int .i64 n,.string (bstr name),.slice V args.length R]/\Below Q.heap.size Q B:=⟨_,rfl,OwnV.new _ _ _,(yR _ _).alloc (zr _) _⟩;have ak:=zh (aQ.out.below M (zr _));have aM:=zh (a1.out.below M (zr _));have af:=zh (zbu G.out M (zr _));have am:=zh (ay.out.trans (M.mono ay.out.size));have aE:=zh an;have ae:=zh ap;have a5:=yT az M.size;have aU:Hid (∀(W O:World) (v':Value),Below B.heap.size B W->W.grownBy O (Value.slice a2 1 F).ownBlock->(v'.ownBlock=(Value.slice a2 1 F).ownBlock∨∃g,v'.ownBlock=some g/\W.heap.size<=g)->ExsC O (fun g=>w2.heap.size<=g) ([xa]++[.mk op n name args]) (cs++[.int .u8 op,.int .i64 n,.string (bstr name),.slice V args.length R])):=zh (fun W O v' hW hg hat=>aZ.out _ _ W O v' HY.out (M.trans (hW.mono M.size)) hg hat);clear aZ HY;clear ap M an;have bc:IntKind.i64.wrap (K:Int)=K:=by simp[IntKind.wrap,IntKind.bits];omega
   go_upto_region 9 with(fail)
   rw[<-aE.out];have t1:=aM.out.cell (i:=1) rfl;obtain⟨y0,y1,y2,y3⟩:=yc4 ae.out;have X:=ak.out;obtain⟨x0,x1,x2,x3,x4,x5⟩:=yc6 X;have xf:=X.free;have J:w.heap.size<B.heap.size:=by omega
   have bh:Q.heap.size<B.heap.size:=ae.out.lt;have bm:w.heap.size+1<B.heap.size:=by omega
   have I:Hid (∀w',Below B.heap.size B w'->w'.ownsRow w2.heap.size 29 4 (.slice a2 1 F) 1 cs):=zh (fun w' U=>zbu af.out U (zr _));have E:Hid (∀w',Below B.heap.size B w'->w2.heap.size<=w'.heap.size):=zh (fun w' U=>by have:=U.size;omega);have D:Hid (∀w',Below B.heap.size B w'->B.heap.size<=w'.heap.size):=zh (fun w' U=>U.size);have H:Hid (∀w',Below B.heap.size B w'->∀i,w'.frozen? ⟨w.heap.size,i,none⟩=false):=zh (fun w' U=>(ak.out.below U (zr _)).free);have ar:Hid (∀w',Below B.heap.size B w'->Below w.heap.size w w'):=zh (fun w' U=>am.out.trans (U.mono am.out.size));have ac:w.heap.size<=w2.heap.size:=by omega
   have T:Hid (some (w.heap.size+1)≠(Value.slice a2 1 F).ownBlock):=zh (fun e=>by have:=zck G.out _ e.symm;omega);have u:Hid (some w.heap.size≠(Value.slice a2 1 F).ownBlock):=zh (fun e=>by have:=zck G.out _ e.symm;omega);have z:Hid (some Q.heap.size≠(Value.slice a2 1 F).ownBlock):=zh (fun e=>by have:=(G.out.lt _ e.symm).2;omega);have a9:¬w.heap.size=Q.heap.size:=by omega
   have be:¬Q.heap.size=w.heap.size:=by omega
   have a8:¬Q.heap.size=w.heap.size+1:=by omega
   generalize Q.heap.size=gx at *
   clear X;go_region_held3 (fun w'=>w'.cell? ⟨w.heap.size+1,1,none⟩=some (.string (bstr S))/\w'.cell? ⟨gx,0,none⟩=some (.int .u8 op)/\w'.cell? ⟨gx,1,none⟩=some (.int .i64 n)/\w'.cell? ⟨gx,2,none⟩=some (.string (bstr name))/\w'.cell? ⟨gx,3,none⟩=some (.slice V args.length R)) (go_keep) (first|(go_at_call 24;refine(HK.out _).mono ?_;rintro e6 w6⟨rfl,q⟩;have z0:=Below.keep q (a:=⟨w.heap.size+1,1,none⟩) (v:=.string (bstr S)) (by go_keep);have z1:=Below.keep q (a:=⟨gx,0,none⟩) (v:=.int .u8 op) (by go_keep);have z2:=Below.keep q (a:=⟨gx,1,none⟩) (v:=.int .i64 n) (by go_keep);have z3:=Below.keep q (a:=⟨gx,2,none⟩) (v:=.string (bstr name)) (by go_keep);have z4:=Below.keep q (a:=⟨gx,3,none⟩) (v:=.slice V args.length R) (by go_keep);have z5:=Below.keep q (a:=⟨w.heap.size,0,none⟩) (v:=.int .u8 0) (by go_keep);have z6:=Below.keep q (a:=⟨w.heap.size,1,none⟩) (v:=.int .i64 0) (by go_keep);have z7:=Below.keep q (a:=⟨w.heap.size,2,none⟩) (v:=.string { data:=#[] }) (by go_keep);have z8:=Below.keep q (a:=⟨w.heap.size,3,none⟩) (v:=.slice none 0 0) (by go_keep);have z9:=Below.keep q (a:=⟨w.heap.size,4,none⟩) (v:=.slice none 0 0) (by go_keep);have bf:=Below.keep q (a:=⟨w.heap.size,5,none⟩) (v:=.slice none 0 0) (by go_keep);have zf:∀i,w6.frozen? ⟨w.heap.size,i,none⟩=false:=fun i=>(q.frozen (p:=⟨w.heap.size,i,none⟩) (by first|exact J|exact ql|(simp;omega))).trans (by first|exact H.out _ ((yR _ _).drew) i|exact H.out _ (((yR _ _).alloc (zr _) _).drew) i|exact qf i))|(refine zaR rfl (.tmp 57) (.tmp 59) 27 rfl (I.out _ (((yR _ _).alloc (zr _) _).drew)) zbx Tryz.underlying27 rfl (by decide) rfl (zb7 (sz:=4) (n:=1) ((OwnV.new B 29 [.int .u8 op,.int .i64 n,.string (bstr name),.slice V args.length R]).below ((yR _ _).drew) (zr _)) rfl (zr _) (by decide)) rfl rfl (by unfold maxLen;omega) (by omega) (E.out _ (((yR _ _).alloc (zr _) _).drew)) ?_;intro v' O A d Z Y;obtain⟨a7,P,rfl,av,aw⟩:=Sl.form (Sl.of_own A);have q0:=d.cell (a:=⟨w.heap.size+1,1,none⟩) (v:=.string (bstr S)) (by go_keep) T.out;have q1:=d.cell (a:=⟨gx,0,none⟩) (v:=.int .u8 op) (by go_keep) z.out;have q2:=d.cell (a:=⟨gx,1,none⟩) (v:=.int .i64 n) (by go_keep) z.out;have q3:=d.cell (a:=⟨gx,2,none⟩) (v:=.string (bstr name)) (by go_keep) z.out;have q4:=d.cell (a:=⟨gx,3,none⟩) (v:=.slice V args.length R) (by go_keep) z.out;have q5:=d.cell (a:=⟨w.heap.size,0,none⟩) (v:=.int .u8 0) (by go_keep) u.out;have q6:=d.cell (a:=⟨w.heap.size,1,none⟩) (v:=.int .i64 0) (by go_keep) u.out;have q7:=d.cell (a:=⟨w.heap.size,2,none⟩) (v:=.string { data:=#[] }) (by go_keep) u.out;have q8:=d.cell (a:=⟨w.heap.size,3,none⟩) (v:=.slice none 0 0) (by go_keep) u.out;have q9:=d.cell (a:=⟨w.heap.size,4,none⟩) (v:=.slice none 0 0) (by go_keep) u.out;have ah:=d.cell (a:=⟨w.heap.size,5,none⟩) (v:=.slice none 0 0) (by go_keep) u.out;have ql:w.heap.size<O.heap.size:=Nat.lt_of_lt_of_le (Nat.lt_of_lt_of_le J (D.out _ (((yR _ _).alloc (zr _) _).drew))) d.size;have qf:∀i,O.frozen? ⟨w.heap.size,i,none⟩=false:=fun i=>(zca d (Nat.lt_of_lt_of_le J (D.out _ (((yR _ _).alloc (zr _) _).drew))) u.out).trans (H.out _ (((yR _ _).alloc (zr _) _).drew) i))|(refine zaR rfl (.tmp 57) (.tmp 59) 27 rfl (I.out _ ((((yR _ _).drew).trans q).alloc (q.size) _)) zbx Tryz.underlying27 rfl (by decide) rfl (zb7 (sz:=4) (n:=1) (OwnV.new w6 29 [.int .u8 op,.int .i64 n,.string (bstr name),.slice V args.length R]) rfl (zr _) (by decide)) rfl rfl (by unfold maxLen;omega) (by omega) (E.out _ ((((yR _ _).drew).trans q).alloc (q.size) _)) ?_;intro v' O A d Z Y;obtain⟨a7,P,rfl,av,aw⟩:=Sl.form (Sl.of_own A);have q0:=d.cell (a:=⟨w.heap.size+1,1,none⟩) (v:=.string (bstr S)) (by go_keep) T.out;have q1:=d.cell (a:=⟨gx,0,none⟩) (v:=.int .u8 op) (by go_keep) z.out;have q2:=d.cell (a:=⟨gx,1,none⟩) (v:=.int .i64 n) (by go_keep) z.out;have q3:=d.cell (a:=⟨gx,2,none⟩) (v:=.string (bstr name)) (by go_keep) z.out;have q4:=d.cell (a:=⟨gx,3,none⟩) (v:=.slice V args.length R) (by go_keep) z.out;have q5:=d.cell (a:=⟨w.heap.size,0,none⟩) (v:=.int .u8 0) (by go_keep) u.out;have q6:=d.cell (a:=⟨w.heap.size,1,none⟩) (v:=.int .i64 0) (by go_keep) u.out;have q7:=d.cell (a:=⟨w.heap.size,2,none⟩) (v:=.string { data:=#[] }) (by go_keep) u.out;have q8:=d.cell (a:=⟨w.heap.size,3,none⟩) (v:=.slice none 0 0) (by go_keep) u.out;have q9:=d.cell (a:=⟨w.heap.size,4,none⟩) (v:=.slice none 0 0) (by go_keep) u.out;have ah:=d.cell (a:=⟨w.heap.size,5,none⟩) (v:=.slice none 0 0) (by go_keep) u.out;have ql:w.heap.size<O.heap.size:=Nat.lt_of_lt_of_le (Nat.lt_of_lt_of_le J (D.out _ ((((yR _ _).drew).trans q).alloc (q.size) _))) d.size;have qf:∀i,O.frozen? ⟨w.heap.size,i,none⟩=false:=fun i=>(zca d (Nat.lt_of_lt_of_le J (D.out _ ((((yR _ _).drew).trans q).alloc (q.size) _))) u.out).trans (H.out _ ((((yR _ _).drew).trans q).alloc (q.size) _) i))|(refine zaR rfl (.tmp 57) (.tmp 59) 27 rfl (I.out _ ((((yR _ _).alloc (zr _) _).drew).trans (q.mono (by simp)))) zbx Tryz.underlying27 rfl (by decide) rfl (zb7 (sz:=4) (n:=1) (((OwnV.new B 29 [.int .u8 op,.int .i64 n,.string (bstr name),.slice V args.length R]).below ((yR _ _).drew) (zr _)).below q (zr _)) rfl (zr _) (by decide)) rfl rfl (by unfold maxLen;omega) (by omega) (E.out _ ((((yR _ _).alloc (zr _) _).drew).trans (q.mono (by simp)))) ?_;intro v' O A d Z Y;obtain⟨a7,P,rfl,av,aw⟩:=Sl.form (Sl.of_own A);have q0:=d.cell (a:=⟨w.heap.size+1,1,none⟩) (v:=.string (bstr S)) (by go_keep) T.out;have q1:=d.cell (a:=⟨gx,0,none⟩) (v:=.int .u8 op) (by go_keep) z.out;have q2:=d.cell (a:=⟨gx,1,none⟩) (v:=.int .i64 n) (by go_keep) z.out;have q3:=d.cell (a:=⟨gx,2,none⟩) (v:=.string (bstr name)) (by go_keep) z.out;have q4:=d.cell (a:=⟨gx,3,none⟩) (v:=.slice V args.length R) (by go_keep) z.out;have q5:=d.cell (a:=⟨w.heap.size,0,none⟩) (v:=.int .u8 0) (by go_keep) u.out;have q6:=d.cell (a:=⟨w.heap.size,1,none⟩) (v:=.int .i64 0) (by go_keep) u.out;have q7:=d.cell (a:=⟨w.heap.size,2,none⟩) (v:=.string { data:=#[] }) (by go_keep) u.out;have q8:=d.cell (a:=⟨w.heap.size,3,none⟩) (v:=.slice none 0 0) (by go_keep) u.out;have q9:=d.cell (a:=⟨w.heap.size,4,none⟩) (v:=.slice none 0 0) (by go_keep) u.out;have ah:=d.cell (a:=⟨w.heap.size,5,none⟩) (v:=.slice none 0 0) (by go_keep) u.out;have ql:w.heap.size<O.heap.size:=Nat.lt_of_lt_of_le (Nat.lt_of_lt_of_le J (D.out _ ((((yR _ _).alloc (zr _) _).drew).trans (q.mono (by simp))))) d.size;have qf:∀i,O.frozen? ⟨w.heap.size,i,none⟩=false:=fun i=>(zca d (Nat.lt_of_lt_of_le J (D.out _ ((((yR _ _).alloc (zr _) _).drew).trans (q.mono (by simp))))) u.out).trans (H.out _ ((((yR _ _).alloc (zr _) _).drew).trans (q.mono (by simp))) i)))
   all_goals
    go_wp2_with fail
    refine yE (v:=.tuple #[.agg #[.int .u8 3,.int .i64 K,.string { data:=#[] },.slice a7 2 P,.slice none 0 0,.slice none 0 0],.int .i64 j2,.int .i64 0]) (by simp[results,Tryz.results71,go_sem,q5,q6,q7,q8,q9,ah]) rfl ⟨?_,?_⟩
    ·rw[aJ.out]
     have hE:ExsC O (fun g=>w2.heap.size<=g) ([xa]++[.mk op n name args]) (cs++[.int .u8 op,.int .i64 n,.string (bstr name),.slice V args.length R]):=by
      first
       | exact aU.out _ _ _ ((((yR _ _).drew).trans q).alloc q.size _) d Y
       | exact aU.out _ _ _ ((((yR _ _).alloc (zr _) _).drew).trans (q.mono (by simp))) d Y
     obtain⟨W9,a6,bg,bw⟩:=zkF O w.heap.size (.int .u8 3) (.int .i64 K) (.string { data:=#[] }) (.slice a7 2 P) (.slice none 0 0) (.slice none 0 0);rw[<-a6];exact⟨_,rfl,zc6 ((EsV.of_own (m:=w.heap.size+2) (xs:=[xa]++[.mk op n name args]) A hE aC).grown bg (by omega)) (SsV.nil _ _) (SsV.nil _ _) (by omega),by omega,aY⟩
    ·first
      | exact(((((((ar.out _ ((((yR _ _).drew).trans q).alloc q.size _)).trans (Z.mono ac)).setCell (zr _) _).setCell (zr _) _).setCell (zr _) _).setCell (zr _) _).setCell (zr _) _).setCell (zr _) _
      | exact(((((((ar.out _ ((((yR _ _).alloc (zr _) _).drew).trans (q.mono (by simp)))).trans (Z.mono ac)).setCell (zr _) _).setCell (zr _) _).setCell (zr _) _).setCell (zr _) _).setCell (zr _) _).setCell (zr _) _
theorem zkG (l:List Tok) (q:Good l) (d:l.length<=1000000):∀ (f i o:Nat) (v:Value) (w:World),l.length - i < f->Toks w l v->i < l.length->o<=300 ->
  Calls Tryz.prog 71 #[v,.int .i64 i,.int .i64 o] w fun e w'=>zb5 l i w w' e (zan l f i o)/\Below w.heap.size w w':=by
 intro f
 induction f with
 | zero=>intro i o v w h;omega
 | succ f ih =>
  intro i o v w z g hi u;have hS:StmtC l (zan l f) i:=fun k o v w h1 h2 h3 h4=>ih k o v w (by omega) h4 h2 h3
  by_cases j:(zaa l i).kind=1
  ·by_cases m:0<zap (zaa l i).text
   ·exact zmN l f i o v w g q hi d u j m
   ·by_cases h1:(zaa l i).text=[115,116,111,112]
    ·exact zlT l f i o v w g q hi d j m h1
    ·by_cases h2:(zaa l i).text=[102,97,105,108]
     ·exact zlU l f i o v w g q hi d j m h2
     ·by_cases h3:(zaa l i).text=[105,102]
      ·exact znw l f i o v w g q hi d u hS j m h3
      ·by_cases h4:(zaa l i).text=[119,104,105,108,101]
       ·exact zkE l f i o v w g q hi d u hS j m h4
       ·by_cases y:(zaa l i).text=[108,101,116]
        ·exact zmM l f i o v w g q hi d u j m y
        ·exact zmL l f i o v w g q hi d u j m h1 h2 h3 h4 y
  ·exact zmK l f i o v w g hi d j
theorem zhB(l:List Tok)(g:Good l)(d:l.length<=1000000)(i o:Nat)(v:Value)(w:World)(j:Toks w l v)(hi:i<l.length)(f:o<=300) :
  Calls Tryz.prog 71 #[v,.int .i64 i,.int .i64 o] w fun e w'=>zb5 l i w w' e (zcJ l i o)/\Below w.heap.size w w':=
 zkG l g d (l.length+1-i) i o v w (by omega) j hi f
theorem zgC:∀(n:Nat) (f:List UInt8),f.length<=n->∀(l c:Int),(∀ts,lexF f l c=.ok ts->ts.length<=f.length+1)/\∀a b e,lexF f l c=.err a b e->e≠0:=by
 intro n
 induction n with
 | zero =>
  intro f v l c;obtain rfl:f=[]:=List.eq_nil_of_length_eq_zero (by omega);rw[zda];refine⟨fun ts h=>?_,fun a b e h=>by cases h⟩;cases h
  exact zr _
 | succ n ih =>
  intro f v l c;rw[zbY];have u:=zc9 f false l c
  generalize (zam f false l c).1=d at *
  generalize (zam f false l c).2.1=j at *
  generalize (zam f false l c).2.2=i at *
  rcases zet d j i with⟨_,g⟩|⟨code,_,g,z⟩|⟨t,ht,_,_,w,y,g⟩
  ·rw[g];refine⟨fun ts h=>?_,fun a b e h=>by cases h⟩;cases h;simp
  ·rw[g];refine⟨fun ts h=>(by cases h),fun a b e h=>?_⟩;cases h;omega
  ·rw[g];have q:1<=t.text.length:=List.length_pos_iff.2 ht.text;have A:(d.drop t.text.length).length=d.length-t.text.length:=List.length_drop;obtain⟨k1,k2⟩:=ih (d.drop t.text.length) (by omega) j (i+t.text.length)
   cases hr:lexF (d.drop t.text.length) j (i+t.text.length) with
   | err a b e =>
    rw[hr] at k2;refine⟨fun ts h=>(by cases h),fun a' b' e' h=>?_⟩;cases h
    exact k2 _ _ _ rfl
   | ok m =>
    rw[hr] at k1;have:=k1 m rfl;refine⟨fun ts h=>?_,fun a b e h=>by cases h⟩;cases h;simp only[yB];omega
theorem ziK{d:List UInt8}{ts:List Tok}(h:lexS d=.ok ts):ts.length<=16385:=by
 rw[zcO] at h;split at h
 ·cases h
 ·have:=(zgC _ d (zr _) 1 1).1 ts h;omega
theorem zd9{d:List UInt8}{a b e:Int}(h:lexS d=.err a b e):e≠0:=by
 rw[zcO] at h;split at h
 ·cases h;decide
 ·exact(zgC _ d (zr _) 1 1).2 a b e h
theorem Good.pos{l:List Tok}(h:Good l):0<l.length:=by
 obtain⟨ts,t,rfl,_,_⟩:=h;simp
def ParE (w w' : World) (e : Ending) : ParR -> Prop
  | .ok xs => ∃ v, e = .returned (.tuple #[v, .int .i64 0, .int .i64 0, .int .i64 0]) /\ (∃ cs, w'.ownsRow w.heap.size 56 6 v xs.length cs /\ StsC w' (fun g => w.heap.size <= g) xs cs)
  | .err a b c => e = .returned (.tuple #[.slice none 0 0, .int .i64 a, .int .i64 b, .int .i64 c]) /\ c ≠ 0
theorem zmO{w:World}{B B':Nat}{e:TypeId}{sz:Nat}{v:Value}{n:Nat}{xs:List Value}(h:w.ownsRow B e sz v n xs)(m:B'<=B):w.ownsRow B' e sz v n xs:=by
 obtain⟨l,f⟩:=h;refine⟨l,?_⟩;rcases f with q|⟨g,cap,d,i,j,r⟩
 ·exact .inl q
 ·exact .inr ⟨g,cap,d,i,yT m j,r⟩
def PR.toPar (l : List Tok) : PR (List St) -> ParR
  | .ok xs _ => .ok xs
  | .err i c => .err (zaa l i).line (zaa l i).col c
theorem zlV(src:List UInt8):zbg src=match lexS src with
  | .err a b c=>.err a b c
  | .ok l=>(allS l (l.length+1) [] 0).toPar l:=by
 unfold zbg
 cases lexS src with
 | err a b c=>rfl
 | ok l=>cases h:allS l (l.length+1) [] 0 <;>(simp only[h];rfl)
theorem zfa(s:ByteArray)(w:World)(hs:s.size<=9223372036854775807) :
  Calls Tryz.prog 39 #[.string s] w fun e w'=>ParE w w' e (zbg s.data.toList)/\Below w.heap.size w w':=by
 have Y:Hid (Calls Tryz.prog 70 #[.string s] w _):=zh (zkB s w hs);obtain⟨d,u⟩:∃r,zbg s.data.toList=r:=⟨_,rfl⟩
 have O:Hid (d=match lexS s.data.toList with
  | .err a b c=>.err a b c
  | .ok l=>(allS l (l.length+1) [] 0).toPar l):=zh (by rw[<-u];exact zlV _)
 rw[u];clear u
 cases hlx:lexS s.data.toList with
 | err a b c =>
  have z:=zd9 hlx;have ao:(c != 0)=true:=by simpa using z
  rw[hlx] at Y O;have Hf:Hid (d=.err a b c):=zh O.out;have ag:=zh z;clear hlx z O;go_enter Tryz.func39,Tryz.ntmps39
  go_wp2_with fail
  go_at_call 70;refine Y.out.mono ?_;rintro e1 J⟨B,f⟩;obtain rfl:=B;have D:=zh f;clear f;go_wp2_with fail
  exact yE (v:=.tuple #[.slice none 0 0,.int .i64 a,.int .i64 b,.int .i64 c]) (by simp[results,Tryz.results39,go_sem]) rfl ⟨by rw[Hf.out];exact⟨rfl,ag.out⟩,D.out⟩
 | ok l =>
  have hG:=ziD hlx;have am:=ziK hlx;have aj:=hG.pos;rw[hlx] at Y O;have Hf:Hid (d=(allS l (l.length+1) [] 0).toPar l):=zh O.out;clear hlx O;go_enter Tryz.func39,Tryz.ntmps39
  go_wp2_with fail
  go_at_call 70;refine Y.out.mono ?_;rintro e1 J⟨⟨v1,rfl,hT⟩,f⟩;have D:=zh f;have HT:=zh hT;obtain⟨ta,E,rfl,_,_⟩:=Sl.form hT;have y:=f.size;clear f hT;go_wp2_with fail
  go_loopw [2,3,4,5,10,11,12,13,14,27,28,29,30,31,32,33,34,35,36,37,38,39,40,41,42,43,44,45,46,47,48,49,50,51,52,53,54,55,56,57] (fun _ _ _ _ t10 t11 _ _ _ _ _ _ _ _ _ _ _ _ _ _ _ _ _ _ _ _ _ _ _ _ _ _ _ _ _ _ _ _ _ _ wr=>∃(k at':Nat) (F:Nat) (xs:List St) (cs:List Value),xs.length=k/\k<=at'/\at'<l.length/\l.length-at'<F/\t11=.int .i64 at'/\wr.ownsRow J.heap.size 56 6 t10 k cs/\Hid (StsC wr (fun g=>J.heap.size<=g/\t10.ownBlock≠some g) xs cs)/\Hid (d=(allS l F xs at').toPar l)/\Hid (Below J.heap.size J wr)) (fun _ _ _ _ _ t11 _ _ _ _ _ _ _ _ _ _ _ _ _ _ _ _ _ _ _ _ _ _ _ _ _ _ _ _ _ _ _ _ _ _ _=>l.length-(intOf t11).toNat)
  case atStart=>exact⟨0,0,l.length+1,[],[],rfl,by omega,by omega,by omega,by first|rfl|go_num,World.ownsRow_nil _ _ _ _,zh .nil,zh Hf.out,zh (yR _ _)⟩
  case round =>
   obtain⟨k,at',F,xs,cs,G,ap,W,hF,rfl,hown,HX,Hk,C⟩:=hrel;obtain⟨F,rfl⟩:∃F',F=F'+1:=⟨F-1,by omega⟩;have M:Hid (Toks wr l (.slice ta l.length E)):=zh (Sl.below (by omega) HT.out C.out (zr _));obtain⟨b,aa,rfl,c0,c1,c2,c3,c4⟩:=zaF M.out W;have aq:(at':Int)<l.length:=by omega
   have an:(at':Int)<=1000000:=by omega
   have ai:wr.heap.size >= J.heap.size:=C.out.size;obtain⟨q,hq⟩:∃q,((zaa l at').kind != 4)=q:=⟨_,rfl⟩
   have A:Hid (d=((if q=false then .ok xs at' else(zcJ l at' 0).andThen fun x j=>allS l F (xs++[x]) j)).toPar l):=zh (by
     rw[Hk.out,allS];by_cases h:(zaa l at').kind=4
     ·have:q=false:=by rw[<-hq];simpa using h
      rw[yP h,yP this]
     ·have:q=true:=by rw[<-hq];simpa using h
      rw[yN h,yN (by rw[this];decide)])
   generalize hkd:(zaa l at').kind=kd at *
   clear hkd c1 c2 c3 c4 Hk
   cases q with
   | false =>
    have m:Hid (d=.ok xs):=zh (by rw[A.out,yP rfl];rfl);have N:Hid (StsC wr (fun g=>w.heap.size<=g) xs cs):=zh (HX.out.weak fun g _ h=>yT y h.1);have U:Hid (wr.ownsRow w.heap.size 56 6 u10 xs.length cs):=zh (by rw[G];exact zmO hown y);clear hown G HX A;go_wp2_with fail
    exact yE (v:=.tuple #[u10,.int .i64 0,.int .i64 0,.int .i64 0]) (by simp[results,Tryz.results39,go_sem]) rfl ⟨by rw[m.out];exact⟨_,rfl,cs,U.out,N.out⟩,D.out.trans (C.out.mono y)⟩
   | true =>
    have HK:Hid (d=(((zcJ l at' 0).andThen fun x j=>allS l F (xs++[x]) j)).toPar l):=zh (by rw[A.out,yN (by decide)]);have ad:=zh (zhB l hG (by omega) at' 0 _ wr M.out W (by omega))
    generalize zcJ l at' 0=R at *
    clear A;go_wp2_with fail
    go_at_call 71;refine ad.out.mono ?_;rintro e1 w2⟨B,I⟩;have i:=zh I;have Q:J.heap.size<=w2.heap.size:=yT C.out.size I.size;clear I c0
    cases R with
    | err a c =>
     obtain⟨op,n,nm,a1,a2,a3,m1,m2,m3,p1,p2,p3,rfl,hc,P⟩:=B;have m:Hid (d=.err (zaa l a).line (zaa l a).col c):=zh HK.out;have z:(c != 0)=true:=by rcases hc with rfl|rfl <;> rfl
     have Hc:Hid (c≠0):=zh (by rcases hc with rfl|rfl <;> decide);have T:Toks w2 l (.slice (some ⟨b,aa,none⟩) l.length E):=Sl.below (by omega) M.out i.out (zr _);have ac:=zh (Sl.below (by omega) T ((yR _ _).alloc (zr _) (.cells #[.int .u8 op,.int .i64 n,.string nm,.slice a1 m1 p1,.slice a2 m2 p2,.slice a3 m3 p3] 56)) (zr _));obtain⟨b',ak,he,-,-,-,d3,d4⟩:=zaF ac.out P;cases he;have ar:(a:Int)<l.length:=by omega
     clear hc T;go_wp2_with fail
     refine zac (DrewOf _) (by kernel_rfl) (by kernel_rfl) (DrewOf.start _) ?_
     repeat
      try simp only[Act.put,zs1,zs3,zs2]
      apply stepsSeq.cons
      ·rintro w'⟨S,rfl⟩;simp only[Act.put,zs1,zs3,zs2];go_wp2_with (fail)
       first|exact⟨rfl,S,rfl⟩|exact⟨rfl,S,(World.drewN_drewN _ _ _).symm⟩|exact⟨rfl,S,by simp⟩
     try simp only[Act.put,zs1,zs3,zs2]
     refine stepsSeq.nil ?_;rintro w'⟨S,rfl⟩;go_wp2_with fail
     exact yE (v:=.tuple #[.slice none 0 0,.int .i64 (zaa l a).line,.int .i64 (zaa l a).col,.int .i64 c]) (by simp[results,Tryz.results39,go_sem]) rfl ⟨by rw[m.out];exact⟨rfl,Hc.out⟩,D.out.trans ((Below.drewN ((C.out.trans (i.out.mono C.out.size)).alloc Q _) S).mono y)⟩
    | ok x j2 =>
     obtain⟨v2,rfl,⟨au,rfl,H⟩,av,af⟩:=B;obtain⟨op,n,name,es,body,els,ae,ab,al,pe,pb,pl,rfl,rfl⟩:=H.one;have m:Hid (d=(allS l F (xs++[.mk op n name es body els]) j2).toPar l):=zh HK.out;have N:=zh H;have L:=(zbu hown i.out (zr _)).alloc (.cells #[.int .u8 op,.int .i64 n,.string (bstr name),.slice ae es.length pe,.slice ab body.length pb,.slice al els.length pl] 56);have X:=zh ((C.out.trans (i.out.mono C.out.size)).alloc Q (.cells #[.int .u8 op,.int .i64 n,.string (bstr name),.slice ae es.length pe,.slice ab body.length pb,.slice al els.length pl] 56));clear H;go_wp2_with (at_builtin;refine zbj rfl (.tmp 53) (.tmp 55) 24 rfl L zhj Tryz.underlying24 rfl (by decide) rfl 1 1 (by show Value.slice (some ⟨w2.heap.size+1,0,none⟩) 1 1=_;simp) rfl rfl (by unfold maxLen;omega) (by omega) X.out.size ?_;intro v' w3 K Z ah V)
     go_roundw
     case rel=>exact⟨k+1,j2,F,xs++[.mk op n name es body els],cs++[.int .u8 op,.int .i64 n,.string (bstr name),.slice ae es.length pe,.slice ab body.length pb,.slice al els.length pl],by rw[yA];simp[G],by omega,af,by omega,rfl,K,zh (ziF hown HX.out i.out N.out C.out.size ((yR _ _).alloc (zr _) _) Z V),m,zh (X.out.trans ah)⟩
     case measure=>simp[intOf];omega
end Go.Proofs.YtoaojdobjinhfaaGreatDoor
