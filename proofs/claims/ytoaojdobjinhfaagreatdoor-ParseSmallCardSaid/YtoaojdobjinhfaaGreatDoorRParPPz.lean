/- The reference parser's statement, walked. -/
import Derived.Test.YtoaojdobjinhfaaGreatDoorRParOPz
set_option linter.unusedSimpArgs false
set_option linter.unusedVariables false
set_option maxRecDepth 100000
set_option maxHeartbeats 2000000
namespace Go.Proofs.YtoaojdobjinhfaaGreatDoor
open Go.RowKit

theorem zmK(l:List Tok)(f i o:Nat)(v:Value)(w:World)(C:Toks w l v)(hi:i<l.length)(Z:l.length<=1000000)(u:(zaa l i).kind≠1) :
  Calls Tryz.prog 71 #[v,.int .i64 i,.int .i64 o] w fun e w'=>zb5 l i w w' e (zan l (f+1) i o)/\Below w.heap.size w w':=by
 have D:zan l (f+1) i o=.err i 120:=by rw[zan,yP u]
 rw[D];have O:((zaa l i).kind != 1)=true:=by simpa using u
 obtain⟨a,cap,rfl,I,N⟩:=Sl.form C;obtain⟨b,G,rfl,E,V,H,J,F⟩:=zaF C hi;have L:(i:Int)<l.length:=by omega
 have X:(i:Int)<=1000000:=by omega
 have B:b<w.heap.size:=World.block_lt_of_cell? w _ E;have A:¬b=w.heap.size:=by omega
 clear D u C
 generalize zaa l i=T at *
 go_enter Tryz.func71,Tryz.ntmps71
 go_upto_region 2 with(fail)
 obtain⟨K,g,m,q,j,R⟩:=zbD w zbh (Tok.cells T) 56 93;simp only[zbh,Tok.cells] at g;rw[<-g];clear g E V H J F B A;have y:=zh m;have z:Hid (OwnV K w.heap.size 56 zbh):=zh q;have t0:=j.cell (i:=0) rfl;clear m q j;have d:=z.out;obtain⟨S,W,Q,P,M,U⟩:=yc6 d;have Y:=d.free;clear d;go_wp2_with fail
 refine yE (v:=.tuple #[.agg #[.int .u8 0,.int .i64 0,.string { data:=#[] },.slice none 0 0,.slice none 0 0,.slice none 0 0],.int .i64 i,.int .i64 120]) (by simp[results,Tryz.results71,go_sem,S,W,Q,P,M,U]) rfl ⟨?_,((((((y.out).setCell (zr _) _).setCell (zr _) _).setCell (zr _) _).setCell (zr _) _).setCell (zr _) _).setCell (zr _) _⟩;exact⟨_,_,_,_,_,_,_,_,_,_,_,_,rfl,.inl rfl,hi⟩
theorem zlT(l:List Tok)(f i o:Nat)(v:Value)(w:World)(M:Toks w l v)(hG:Good l)(hi:i<l.length)(hm:l.length<=1000000)(O:(zaa l i).kind=1)(hK:¬0<zap (zaa l i).text)(P:(zaa l i).text=[115,116,111,112]) :
  Calls Tryz.prog 71 #[v,.int .i64 i,.int .i64 o] w fun e w'=>zb5 l i w w' e (zan l (f+1) i o)/\Below w.heap.size w w':=by
 have hn:=hG.next hi (by rw[O];decide);have HT:=zh M;have V:Hid (∀w:World,_):=zh (fun w:World=>zb6 (zaa l i).text w);have D:zap (zaa l i).text=0:=by omega
 rw[D] at V;obtain⟨q,Q⟩:∃q,isS l (i+1) [59]=q:=⟨_,rfl⟩;have HI:Hid (∀w',Below w.heap.size w w'->Calls Tryz.prog 114 #[v,.int .i64 ((i:Int)+1),.string { data:=#[59] }] w' fun e w''=>e=.returned (.bool q)/\w'=w''):=zbO (i:=i+1) M hn Q
 have E:Hid (zan l (f+1) i o=if q=false then .err (i+1) 120 else .ok (.mk 6 0 [] [] [] []) (i+2)):=zh (by
  rw[zan,yN (by rw[O];decide),yN hK,yP (.inl P),Q,P]
  rfl)
 have Y:q=true->i+2<l.length:=fun h=>hG.is_next hn (by rw[Q,h])
 obtain⟨g,u⟩:∃r,zan l (f+1) i o=r:=⟨_,rfl⟩;rw[u] at E ⊢;obtain⟨a,cap,rfl,ad,af⟩:=Sl.form M;obtain⟨b,ac,rfl,U,c1,c2,c3,c4⟩:=zaF M hi;have ae:(i:Int)<l.length:=by omega
 have ab:(i:Int)<=1000000:=by omega
 have ag:b<w.heap.size:=World.block_lt_of_cell? w _ U;have Z:¬b=w.heap.size:=by omega
 rw[O] at U;rw[P] at c1 V;clear u Q M O hK D P
 generalize (zaa l i).n=N at *
 generalize (zaa l i).line=L at *
 generalize (zaa l i).col=C at *
 go_enter Tryz.func71,Tryz.ntmps71
 go_wp2_with fail
 obtain⟨W0,B,G,K,z,J⟩:=zbD w zbh (Tok.cells ⟨1,[115,116,111,112],N,L,C⟩) 56 93;simp only[zbh,Tok.cells] at B;rw[<-B];clear B U c1 c2 c3 c4 Z;have A:=zh G;have I:Hid (OwnV W0 w.heap.size 56 zbh):=zh K;have H:=zh z;obtain⟨t0,t1⟩:=yc2 z;clear G K z;go_at_call 24;refine(V.out _).mono ?_;rintro e2 w2⟨rfl,j⟩;have m:=zh (A.out.trans (j.mono A.out.size));have F:=zh (I.out.below j (zr _));have S:=zh (H.out.below j (zr _));have aa:=yT J j.size;clear j t0 t1 I H A J;have t1:w2.cell? ⟨w.heap.size+1,1,none⟩=some (.string { data:=#[115,116,111,112] }):=S.out.cell (i:=1) rfl
 cases q with
 | false =>
  have y:Hid (g=.err (i+1) 120):=zh (by rw[E.out,yP rfl]);clear E;go_wp2_with fail
  go_at_call 114;refine(HI.out _ m.out).mono ?_;rintro e3 w3⟨rfl,rfl⟩;have d:=F.out;obtain⟨x0,x1,X,T,R,x5⟩:=yc6 d;have xf:=d.free;clear d;go_wp2_with fail
  refine yE (v:=.tuple #[.agg #[.int .u8 0,.int .i64 0,.string { data:=#[] },.slice none 0 0,.slice none 0 0,.slice none 0 0],.int .i64 ((i:Int)+1),.int .i64 120]) (by simp[results,Tryz.results71,go_sem,x0,x1,X,T,R,x5]) rfl ⟨?_,((((((m.out).setCell (zr _) _).setCell (zr _) _).setCell (zr _) _).setCell (zr _) _).setCell (zr _) _).setCell (zr _) _⟩;rw[y.out]
  exact⟨_,_,_,_,_,_,_,_,_,_,_,_,rfl,.inl rfl,hn⟩
 | true =>
  have y:Hid (g=.ok (.mk 6 0 [] [] [] []) (i+2)):=zh (by rw[E.out,yN (by decide)]);have W:=Y rfl;clear E;go_wp2_with fail
  go_at_call 114;refine(HI.out _ m.out).mono ?_;rintro e3 w3⟨rfl,rfl⟩;have d:=F.out;obtain⟨x0,x1,X,T,R,x5⟩:=yc6 d;have xf:=d.free;clear d;go_wp2_with fail
  refine yE (v:=.tuple #[.agg #[.int .u8 6,.int .i64 0,.string { data:=#[] },.slice none 0 0,.slice none 0 0,.slice none 0 0],.int .i64 ((i:Int)+2),.int .i64 0]) (by simp[results,Tryz.results71,go_sem,x0,x1,X,T,R,x5]) rfl ⟨?_,((((((m.out).setCell (zr _) _).setCell (zr _) _).setCell (zr _) _).setCell (zr _) _).setCell (zr _) _).setCell (zr _) _⟩;rw[y.out];exact⟨_,rfl,zc6 (EsV.nil _ _) (SsV.nil _ _) (SsV.nil _ _) (zr _),by omega,W⟩
theorem zlU(l:List Tok)(f i o:Nat)(v:Value)(w:World)(M:Toks w l v)(hG:Good l)(hi:i<l.length)(hm:l.length<=1000000)(O:(zaa l i).kind=1)(hK:¬0<zap (zaa l i).text)(P:(zaa l i).text=[102,97,105,108]) :
  Calls Tryz.prog 71 #[v,.int .i64 i,.int .i64 o] w fun e w'=>zb5 l i w w' e (zan l (f+1) i o)/\Below w.heap.size w w':=by
 have hn:=hG.next hi (by rw[O];decide);have HT:=zh M;have V:Hid (∀w:World,_):=zh (fun w:World=>zb6 (zaa l i).text w);have D:zap (zaa l i).text=0:=by omega
 rw[D] at V;obtain⟨q,Q⟩:∃q,isS l (i+1) [59]=q:=⟨_,rfl⟩;have HI:Hid (∀w',Below w.heap.size w w'->Calls Tryz.prog 114 #[v,.int .i64 ((i:Int)+1),.string { data:=#[59] }] w' fun e w''=>e=.returned (.bool q)/\w'=w''):=zbO (i:=i+1) M hn Q
 have E:Hid (zan l (f+1) i o=if q=false then .err (i+1) 120 else .ok (.mk 7 0 [] [] [] []) (i+2)):=zh (by
  rw[zan,yN (by rw[O];decide),yN hK,yP (.inr P),Q,P]
  rfl)
 have Y:q=true->i+2<l.length:=fun h=>hG.is_next hn (by rw[Q,h])
 obtain⟨g,u⟩:∃r,zan l (f+1) i o=r:=⟨_,rfl⟩;rw[u] at E ⊢;obtain⟨a,cap,rfl,ad,af⟩:=Sl.form M;obtain⟨b,ac,rfl,U,c1,c2,c3,c4⟩:=zaF M hi;have ae:(i:Int)<l.length:=by omega
 have ab:(i:Int)<=1000000:=by omega
 have ag:b<w.heap.size:=World.block_lt_of_cell? w _ U;have Z:¬b=w.heap.size:=by omega
 rw[O] at U;rw[P] at c1 V;clear u Q M O hK D P
 generalize (zaa l i).n=N at *
 generalize (zaa l i).line=L at *
 generalize (zaa l i).col=C at *
 go_enter Tryz.func71,Tryz.ntmps71
 go_wp2_with fail
 obtain⟨W0,B,G,K,z,J⟩:=zbD w zbh (Tok.cells ⟨1,[102,97,105,108],N,L,C⟩) 56 93;simp only[zbh,Tok.cells] at B;rw[<-B];clear B U c1 c2 c3 c4 Z;have A:=zh G;have I:Hid (OwnV W0 w.heap.size 56 zbh):=zh K;have H:=zh z;obtain⟨t0,t1⟩:=yc2 z;clear G K z;go_at_call 24;refine(V.out _).mono ?_;rintro e2 w2⟨rfl,j⟩;have m:=zh (A.out.trans (j.mono A.out.size));have F:=zh (I.out.below j (zr _));have S:=zh (H.out.below j (zr _));have aa:=yT J j.size;clear j t0 t1 I H A J;have t1:w2.cell? ⟨w.heap.size+1,1,none⟩=some (.string { data:=#[102,97,105,108] }):=S.out.cell (i:=1) rfl
 cases q with
 | false =>
  have y:Hid (g=.err (i+1) 120):=zh (by rw[E.out,yP rfl]);clear E;go_wp2_with fail
  go_at_call 114;refine(HI.out _ m.out).mono ?_;rintro e3 w3⟨rfl,rfl⟩;have d:=F.out;obtain⟨x0,x1,X,T,R,x5⟩:=yc6 d;have xf:=d.free;clear d;go_wp2_with fail
  refine yE (v:=.tuple #[.agg #[.int .u8 0,.int .i64 0,.string { data:=#[] },.slice none 0 0,.slice none 0 0,.slice none 0 0],.int .i64 ((i:Int)+1),.int .i64 120]) (by simp[results,Tryz.results71,go_sem,x0,x1,X,T,R,x5]) rfl ⟨?_,((((((m.out).setCell (zr _) _).setCell (zr _) _).setCell (zr _) _).setCell (zr _) _).setCell (zr _) _).setCell (zr _) _⟩;rw[y.out]
  exact⟨_,_,_,_,_,_,_,_,_,_,_,_,rfl,.inl rfl,hn⟩
 | true =>
  have y:Hid (g=.ok (.mk 7 0 [] [] [] []) (i+2)):=zh (by rw[E.out,yN (by decide)]);have W:=Y rfl;clear E;go_wp2_with fail
  go_at_call 114;refine(HI.out _ m.out).mono ?_;rintro e3 w3⟨rfl,rfl⟩;have d:=F.out;obtain⟨x0,x1,X,T,R,x5⟩:=yc6 d;have xf:=d.free;clear d;go_wp2_with fail
  refine yE (v:=.tuple #[.agg #[.int .u8 7,.int .i64 0,.string { data:=#[] },.slice none 0 0,.slice none 0 0,.slice none 0 0],.int .i64 ((i:Int)+2),.int .i64 0]) (by simp[results,Tryz.results71,go_sem,x0,x1,X,T,R,x5]) rfl ⟨?_,((((((m.out).setCell (zr _) _).setCell (zr _) _).setCell (zr _) _).setCell (zr _) _).setCell (zr _) _).setCell (zr _) _⟩;rw[y.out];exact⟨_,rfl,zc6 (EsV.nil _ _) (SsV.nil _ _) (SsV.nil _ _) (zr _),by omega,W⟩
theorem znw(l:List Tok)(f i o:Nat)(v:Value)(w:World)(S:Toks w l v)(hG:Good l)(hi:i<l.length)(hm:l.length<=1000000)(ho:o<=300)(hS:StmtC l (zan l f) i)(U:(zaa l i).kind=1)(hK:¬0<zap (zaa l i).text)(Z:(zaa l i).text=[105,102]) :
  Calls Tryz.prog 71 #[v,.int .i64 i,.int .i64 o] w fun e w'=>zb5 l i w w' e (zan l (f+1) i o)/\Below w.heap.size w w':=by
 have hn:=hG.next hi (by rw[U];decide);have HT:=zh S;have HK:Hid (∀w:World,_):=zh (fun w:World=>zb6 (zaa l i).text w);have F:zap (zaa l i).text=0:=by omega
 rw[F] at HK
 have HF:Hid (zan l (f+1) i o=zau l (zan l f) (l.length+1-i) i o):=zh (by
  rw[zan,yN (by rw[U];decide),yN hK,yN (by rw[Z];decide),yP (.inl Z)])
 have ad:Hid (∀w',Below w.heap.size w w'->_):=zh (fun(w':World) (hb:Below w.heap.size w w')=>zgB l (zan l f) v hG hm (l.length+1-i) i o w' (by omega) hS (Sl.below (by omega) S hb (zr _)) hn ho);rw[HF.out];obtain⟨a,cap,rfl,aj,am⟩:=Sl.form S;obtain⟨b,ai,rfl,c0,c1,c2,c3,c4⟩:=zaF S hi;have ak:(i:Int)<l.length:=by omega
 have ao:(i:Int)<=1000000:=by omega
 have an:b<w.heap.size:=World.block_lt_of_cell? w _ c0;have ag:¬b=w.heap.size:=by omega
 rw[U] at c0;rw[Z] at c1 HK;clear HF S U hK F Z hS
 generalize zau l (zan l f) (l.length+1-i) i o=R at *
 generalize (zaa l i).n=N at *
 generalize (zaa l i).line=L at *
 generalize (zaa l i).col=C at *
 go_enter Tryz.func71,Tryz.ntmps71
 go_wp2_with fail
 obtain⟨W0,D,J,Q,A,P⟩:=zbD w zbh (Tok.cells ⟨1,[105,102],N,L,C⟩) 56 93;simp only[zbh,Tok.cells] at D;rw[<-D];clear D c0 c1 c2 c3 c4 ag;have B:=zh J;have O:Hid (OwnV W0 w.heap.size 56 zbh):=zh Q;have M:=zh A;obtain⟨t0,t1⟩:=yc2 A;clear J Q A;go_at_call 24;refine(HK.out _).mono ?_;rintro e2 w2⟨rfl,m⟩;have u:=zh (B.out.trans (m.mono B.out.size));have G:=zh (O.out.below m (zr _));have I:=zh (M.out.below m (zr _));have K:=yT P m.size;clear m t0 t1 O M B P;have t1:w2.cell? ⟨w.heap.size+1,1,none⟩=some (.string { data:=#[105,102] }):=I.out.cell (i:=1) rfl;go_wp2_with fail
 go_at_call 115;refine(ad.out _ u.out).mono ?_;rintro e3 w3⟨H,y⟩;have E:=zh (u.out.trans (y.mono u.out.size));have T:=zh (G.out.below y (zr _));have ah:=yT K y.size;clear y t1 G I u
 cases R with
 | err a c =>
  obtain⟨op,n,nm,a5,V,Y,m1,m2,m3,X,W,p3,rfl,hc,af⟩:=H;have Hc:=zh hc;clear hc;have d:=T.out;obtain⟨x0,x1,x2,x3,x4,x5⟩:=yc6 d;have xf:=d.free;clear d;go_wp2_with fail
  refine yE (v:=.tuple #[.agg #[.int .u8 op,.int .i64 n,.string nm,.slice a5 m1 X,.slice V m2 W,.slice Y m3 p3],.int .i64 a,.int .i64 c]) (by simp[results,Tryz.results71,go_sem,x0,x1,x2,x3,x4,x5]) rfl ⟨?_,((((((E.out).setCell (zr _) _).setCell (zr _) _).setCell (zr _) _).setCell (zr _) _).setCell (zr _) _).setCell (zr _) _⟩
  exact⟨_,_,_,_,_,_,_,_,_,_,_,_,rfl,Hc.out,af⟩
 | ok x j =>
  obtain⟨v3,rfl,⟨cs,rfl,hX⟩,ae,aa⟩:=H;obtain⟨op,n,name,es,q,z,a5,V,Y,X,W,p3,rfl,rfl⟩:=hX.one;have HX:=zh hX;clear hX;have d:=T.out;obtain⟨x0,x1,x2,x3,x4,x5⟩:=yc6 d;have xf:=d.free;clear d;go_wp2_with fail
  refine yE (v:=.tuple #[.agg #[.int .u8 op,.int .i64 n,.string (bstr name),.slice a5 es.length X,.slice V q.length W,.slice Y z.length p3],.int .i64 j,.int .i64 0]) (by simp[results,Tryz.results71,go_sem,x0,x1,x2,x3,x4,x5]) rfl ⟨?_,((((((E.out).setCell (zr _) _).setCell (zr _) _).setCell (zr _) _).setCell (zr _) _).setCell (zr _) _).setCell (zr _) _⟩;obtain⟨W9,ab,ac⟩:=set6 w3 w.heap.size (.int .u8 op) (.int .i64 n) (.string (bstr name)) (.slice a5 es.length X) (.slice V q.length W) (.slice Y z.length p3);rw[<-ab];refine⟨_,rfl,⟨_,rfl,(HX.out.grown ac (fun g e h=>?_)).weak fun g _ h=>by omega⟩,ae,aa⟩;cases e;omega
theorem zkE(l:List Tok)(f i o:Nat)(v:Value)(w:World)(S:Toks w l v)(hG:Good l)(hi:i<l.length)(hm:l.length<=1000000)(ho:o<=300)(hS:StmtC l (zan l f) i)(U:(zaa l i).kind=1)(hK:¬0<zap (zaa l i).text)(Z:(zaa l i).text=[119,104,105,108,101]) :
  Calls Tryz.prog 71 #[v,.int .i64 i,.int .i64 o] w fun e w'=>zb5 l i w w' e (zan l (f+1) i o)/\Below w.heap.size w w':=by
 have hn:=hG.next hi (by rw[U];decide);have HT:=zh S;have HK:Hid (∀w:World,_):=zh (fun w:World=>zb6 (zaa l i).text w);have F:zap (zaa l i).text=0:=by omega
 rw[F] at HK
 have HF:Hid (zan l (f+1) i o=zau l (zan l f) (l.length+1-i) i o):=zh (by
  rw[zan,yN (by rw[U];decide),yN hK,yN (by rw[Z];decide),yP (.inr Z)])
 have ad:Hid (∀w',Below w.heap.size w w'->_):=zh (fun(w':World) (hb:Below w.heap.size w w')=>zgB l (zan l f) v hG hm (l.length+1-i) i o w' (by omega) hS (Sl.below (by omega) S hb (zr _)) hn ho);rw[HF.out];obtain⟨a,cap,rfl,aj,am⟩:=Sl.form S;obtain⟨b,ai,rfl,c0,c1,c2,c3,c4⟩:=zaF S hi;have ak:(i:Int)<l.length:=by omega
 have ao:(i:Int)<=1000000:=by omega
 have an:b<w.heap.size:=World.block_lt_of_cell? w _ c0;have ag:¬b=w.heap.size:=by omega
 rw[U] at c0;rw[Z] at c1 HK;clear HF S U hK F Z hS
 generalize zau l (zan l f) (l.length+1-i) i o=R at *
 generalize (zaa l i).n=N at *
 generalize (zaa l i).line=L at *
 generalize (zaa l i).col=C at *
 go_enter Tryz.func71,Tryz.ntmps71
 go_wp2_with fail
 obtain⟨W0,D,J,Q,A,P⟩:=zbD w zbh (Tok.cells ⟨1,[119,104,105,108,101],N,L,C⟩) 56 93;simp only[zbh,Tok.cells] at D;rw[<-D];clear D c0 c1 c2 c3 c4 ag;have B:=zh J;have O:Hid (OwnV W0 w.heap.size 56 zbh):=zh Q;have M:=zh A;obtain⟨t0,t1⟩:=yc2 A;clear J Q A;go_at_call 24;refine(HK.out _).mono ?_;rintro e2 w2⟨rfl,m⟩;have u:=zh (B.out.trans (m.mono B.out.size));have G:=zh (O.out.below m (zr _));have I:=zh (M.out.below m (zr _));have K:=yT P m.size;clear m t0 t1 O M B P;have t1:w2.cell? ⟨w.heap.size+1,1,none⟩=some (.string { data:=#[119,104,105,108,101] }):=I.out.cell (i:=1) rfl;go_wp2_with fail
 go_at_call 115;refine(ad.out _ u.out).mono ?_;rintro e3 w3⟨H,y⟩;have E:=zh (u.out.trans (y.mono u.out.size));have T:=zh (G.out.below y (zr _));have ah:=yT K y.size;clear y t1 G I u
 cases R with
 | err a c =>
  obtain⟨op,n,nm,a5,V,Y,m1,m2,m3,X,W,p3,rfl,hc,af⟩:=H;have Hc:=zh hc;clear hc;have d:=T.out;obtain⟨x0,x1,x2,x3,x4,x5⟩:=yc6 d;have xf:=d.free;clear d;go_wp2_with fail
  refine yE (v:=.tuple #[.agg #[.int .u8 op,.int .i64 n,.string nm,.slice a5 m1 X,.slice V m2 W,.slice Y m3 p3],.int .i64 a,.int .i64 c]) (by simp[results,Tryz.results71,go_sem,x0,x1,x2,x3,x4,x5]) rfl ⟨?_,((((((E.out).setCell (zr _) _).setCell (zr _) _).setCell (zr _) _).setCell (zr _) _).setCell (zr _) _).setCell (zr _) _⟩
  exact⟨_,_,_,_,_,_,_,_,_,_,_,_,rfl,Hc.out,af⟩
 | ok x j =>
  obtain⟨v3,rfl,⟨cs,rfl,hX⟩,ae,aa⟩:=H;obtain⟨op,n,name,es,q,z,a5,V,Y,X,W,p3,rfl,rfl⟩:=hX.one;have HX:=zh hX;clear hX;have d:=T.out;obtain⟨x0,x1,x2,x3,x4,x5⟩:=yc6 d;have xf:=d.free;clear d;go_wp2_with fail
  refine yE (v:=.tuple #[.agg #[.int .u8 op,.int .i64 n,.string (bstr name),.slice a5 es.length X,.slice V q.length W,.slice Y z.length p3],.int .i64 j,.int .i64 0]) (by simp[results,Tryz.results71,go_sem,x0,x1,x2,x3,x4,x5]) rfl ⟨?_,((((((E.out).setCell (zr _) _).setCell (zr _) _).setCell (zr _) _).setCell (zr _) _).setCell (zr _) _).setCell (zr _) _⟩;obtain⟨W9,ab,ac⟩:=set6 w3 w.heap.size (.int .u8 op) (.int .i64 n) (.string (bstr name)) (.slice a5 es.length X) (.slice V q.length W) (.slice Y z.length p3);rw[<-ab];refine⟨_,rfl,⟨_,rfl,(HX.out.grown ac (fun g e h=>?_)).weak fun g _ h=>by omega⟩,ae,aa⟩;cases e;omega
theorem zkF(W:World)(g:Nat)(v0 v1 v2 v3 v4 v5:Value) :
  ∃W',W'=(((((W.setCell ⟨g,0,none⟩ v0).setCell ⟨g,1,none⟩ v1).setCell ⟨g,2,none⟩ v2).setCell ⟨g,3,none⟩ v3).setCell ⟨g,4,none⟩ v4).setCell ⟨g,5,none⟩ v5/\W.grownBy W' (some g)/\W'.heap.size=W.heap.size:=
 ⟨_,rfl,zbc (zbc (zbc (zbc (zbc (zaY _ _ _ _) (zaY _ _ _ _)) (zaY _ _ _ _)) (zaY _ _ _ _)) (zaY _ _ _ _)) (zaY _ _ _ _),by simp⟩
theorem zmL(l:List Tok)(f i o:Nat)(v:Value)(w:World)(hT:Toks w l v)(hG:Good l)(hi:i<l.length)(hm:l.length<=1000000)(ho:o<=300)(hk:(zaa l i).kind=1)(hK:¬0<zap (zaa l i).text)(aa:(zaa l i).text≠[115,116,111,112])(ac:(zaa l i).text≠[102,97,105,108])(ae:(zaa l i).text≠[105,102])(ao:(zaa l i).text≠[119,104,105,108,101])(ab:(zaa l i).text≠[108,101,116]) :
  Calls Tryz.prog 71 #[v,.int .i64 i,.int .i64 o] w fun e w'=>zb5 l i w w' e (zan l (f+1) i o)/\Below w.heap.size w w':=by
 have hn:=hG.next hi (by rw[hk];decide);have HT:=zh hT;have HK:Hid (∀w:World,_):=zh (fun w:World=>zb6 (zaa l i).text w);have aA:zap (zaa l i).text=0:=by omega
 rw[aA] at HK;obtain⟨q,hq⟩:∃q,zaP (zaa l i).text=q:=⟨_,rfl⟩;have av:Hid (∀w:World,_):=zh (fun w:World=>zfU (zaa l i).text w);rw[hq] at av;have HV:Hid (∀w',Below w.heap.size w w'->Calls Tryz.prog 113 #[v,.int .i64 ((i:Int)+1),.int .i64 o] w' fun e w''=>zb4 l (i+1) w' w'' e (zaz l (i+1) o)/\Below w'.heap.size w' w''):=zh (fun w' hb=>zeH l v hG (by omega) (i+1) o w' (Sl.below (by omega) hT hb (zr _)) hn ho)
 have HF:Hid (zan l (f+1) i o=if q=false then .err i 120 else(zaz l (i+1) o).map fun x=>.mk 2 0 (zaa l i).text [x] [] []):=zh (by
  rw[zan,yN (by rw[hk];decide),yN hK,yN (fun h=>h.elim aa ac),yN (fun h=>h.elim ae ao),yN ab,hq])
 have e1:=zal (zaa l i).text [115,116,111,112];have e2:=zal (zaa l i).text [102,97,105,108];have e3:=zal (zaa l i).text [105,102];have e4:=zal (zaa l i).text [119,104,105,108,101];have e5:=zal (zaa l i).text [108,101,116];rw[decide_eq_false aa] at e1;rw[decide_eq_false ac] at e2;rw[decide_eq_false ae] at e3;rw[decide_eq_false ao] at e4;rw[decide_eq_false ab] at e5;obtain⟨z,X⟩:∃r,zan l (f+1) i o=r:=⟨_,rfl⟩;rw[X] at HF ⊢;obtain⟨a,cap,rfl,aU,aY⟩:=Sl.form hT;obtain⟨b,aw,rfl,c0,U,c2,c3,c4⟩:=zaF hT hi;have aX:(i:Int)<l.length:=by omega
 have aZ:(i:Int)<=1000000:=by omega
 have aV:b<w.heap.size:=World.block_lt_of_cell? w _ c0;have aS:¬b=w.heap.size:=by omega
 rw[hk] at c0;have am:=zh U;have aG:=zh c0;clear X hq hT hk hK aA aa ac ae ao ab
 generalize (zaa l i).text=S at *
 generalize (zaa l i).n=N at *
 generalize (zaa l i).line=L at *
 generalize (zaa l i).col=C at *
 generalize zaz l (i+1) o=R at *
 go_enter Tryz.func71,Tryz.ntmps71
 go_wp2_with fail
 obtain⟨W0,ah,ay,ar,aj,aE⟩:=zbD w zbh (Tok.cells ⟨1,S,N,L,C⟩) 56 93;simp only[zbh,Tok.cells] at ah;rw[<-ah];clear ah c0 U c2 c3 c4 aS;have an:=zh ay;have az:Hid (OwnV W0 w.heap.size 56 zbh):=zh ar;have aD:=zh aj;obtain⟨t0,t1⟩:=yc2 aj;clear ay ar aj;go_at_call 24;refine(HK.out _).mono ?_;rintro e2 w2⟨rfl,G⟩;have D:=zh (an.out.trans (G.mono an.out.size));have aC:=zh (az.out.below G (zr _));have ax:=zh (aD.out.below G (zr _));have W:=yT aE G.size;clear G t0 t1 az aD an aE;have t1:=ax.out.cell (i:=1) rfl;have c0:=Below.keep D.out aG.out;have U:=Below.keep D.out am.out;go_wp2_with fail
 go_at_call 22;refine(av.out _).mono ?_;rintro e3 w3⟨rfl,O⟩;have I:=zh (D.out.trans (O.mono D.out.size));have ag:=zh (aC.out.below O (zr _));have V:=yT W O.size;clear O t1 c0 U aC ax D W
 cases q with
 | false =>
  have aI:Hid (z=.err i 120):=zh (by rw[HF.out,yP rfl]);clear HF;have d:=ag.out;obtain⟨x0,x1,x2,x3,x4,x5⟩:=yc6 d;have xf:=d.free;clear d;go_wp2_with fail
  refine yE (v:=.tuple #[.agg #[.int .u8 0,.int .i64 0,.string { data:=#[] },.slice none 0 0,.slice none 0 0,.slice none 0 0],.int .i64 i,.int .i64 120]) (by simp[results,Tryz.results71,go_sem,x0,x1,x2,x3,x4,x5]) rfl ⟨?_,((((((I.out).setCell (zr _) _).setCell (zr _) _).setCell (zr _) _).setCell (zr _) _).setCell (zr _) _).setCell (zr _) _⟩;rw[aI.out]
  exact⟨_,_,_,_,_,_,_,_,_,_,_,_,rfl,.inl rfl,hi⟩
 | true =>
  have au:Hid (z=R.map fun x=>.mk 2 0 S [x] [] []):=zh (by rw[HF.out,yN (by decide)]);clear HF;go_wp2_with fail
  go_at_call 113;refine(HV.out _ I.out).mono ?_;rintro e4 B⟨ap,P⟩;have M:=zh (I.out.trans (P.mono I.out.size));have aq:=zh (ag.out.below P (zr _));have T:=yT V P.size;clear P ag I
  cases R with
  | err a c =>
   obtain⟨op,n,nm,K,m,J,rfl,hc,aR⟩:=ap;have ak:Hid (z=.err a c):=zh au.out;have Hc:=zh hc;clear hc;obtain⟨y,F,H,u⟩:∃y,y=B.alloc (.cells #[.int .u8 op,.int .i64 n,.string nm,.slice K m J] 29)/\OwnV y B.heap.size 29 [.int .u8 op,.int .i64 n,.string nm,.slice K m J]/\Below B.heap.size B y:=⟨_,rfl,OwnV.new _ _ _,(yR _ _).alloc (zr _) _⟩;have af:=zh (aq.out.below u (zr _));have E:=zh (M.out.trans (u.mono M.out.size));have Z:=zh F;have A:=zh H;have Y:=yT T u.size;clear H u F;go_upto_region 25 with(fail)
   rw[<-Z.out];have U:=Below.keep E.out am.out;obtain⟨y0,y1,y2,y3⟩:=yc4 A.out;have d:=af.out;obtain⟨x0,x1,x2,x3,x4,x5⟩:=yc6 d;have xf:=d.free;have ai:w.heap.size<y.heap.size:=by omega
   have aQ:B.heap.size<y.heap.size:=A.out.lt;have aT:b<y.heap.size:=by omega
   have aL:¬w.heap.size=b:=by omega
   have aO:¬b=w.heap.size:=by omega
   have aJ:¬w.heap.size=B.heap.size:=by omega
   have aN:¬B.heap.size=w.heap.size:=by omega
   generalize B.heap.size=gx at *
   clear d;go_region_held3 (fun w'=>w'.cell? ⟨b,aw+i*5+1,none⟩=some (.string (bstr S))/\w'.cell? ⟨gx,0,none⟩=some (.int .u8 op)/\w'.cell? ⟨gx,1,none⟩=some (.int .i64 n)/\w'.cell? ⟨gx,2,none⟩=some (.string nm)/\w'.cell? ⟨gx,3,none⟩=some (.slice K m J)) (go_keep) (fail)
   clear y0 y1 y2 y3 U;go_wp2_with fail
   refine yE (v:=.tuple #[.agg #[.int .u8 2,.int .i64 0,.string (bstr S),.slice (some ⟨y.heap.size,0,none⟩) 1 1,.slice none 0 0,.slice none 0 0],.int .i64 a,.int .i64 c]) (by simp[results,Tryz.results71,go_sem,x0,x1,x2,x3,x4,x5,ai]) rfl ⟨?_,?_⟩
   ·rw[ak.out];exact⟨_,_,_,_,_,_,_,_,_,_,_,_,rfl,Hc.out,aR⟩
   ·exact(((((((E.out.setCell (zr _) _).setCell (zr _) _).setCell (zr _) _).setCell (zr _) _).setCell (zr _) _).setCell (zr _) _).alloc (by simp;omega) _).drew
  | ok x j =>
   obtain⟨v4,rfl,⟨cs,rfl,hX⟩,aW,aH⟩:=ap;obtain⟨op,n,name,args,K,J,rfl,rfl⟩:=hX.one;have ak:Hid (z=.ok (.mk 2 0 S [.mk op n name args] [] []) j):=zh au.out;have HX:=zh hX;clear hX;obtain⟨y,F,H,u⟩:∃y,y=B.alloc (.cells #[.int .u8 op,.int .i64 n,.string (bstr name),.slice K args.length J] 29)/\OwnV y B.heap.size 29 [.int .u8 op,.int .i64 n,.string (bstr name),.slice K args.length J]/\Below B.heap.size B y:=⟨_,rfl,OwnV.new _ _ _,(yR _ _).alloc (zr _) _⟩;have af:=zh (aq.out.below u (zr _));have E:=zh (M.out.trans (u.mono M.out.size));have Z:=zh F;have A:=zh H;have Y:=yT T u.size;have aP:=zh ((HX.out.under u (zr _)).weak (Q:=fun g=>w.heap.size+2<=g) fun _ _ h=>yT V h);clear H u F;go_upto_region 25 with(fail)
   rw[<-Z.out];have U:=Below.keep E.out am.out;obtain⟨y0,y1,y2,y3⟩:=yc4 A.out;have d:=af.out;obtain⟨x0,x1,x2,x3,x4,x5⟩:=yc6 d;have xf:=d.free;have ai:w.heap.size<y.heap.size:=by omega
   have aQ:B.heap.size<y.heap.size:=A.out.lt;have aT:b<y.heap.size:=by omega
   have aL:¬w.heap.size=b:=by omega
   have aO:¬b=w.heap.size:=by omega
   have aJ:¬w.heap.size=B.heap.size:=by omega
   have aN:¬B.heap.size=w.heap.size:=by omega
   generalize B.heap.size=gx at *
   clear d;go_region_held3 (fun w'=>w'.cell? ⟨b,aw+i*5+1,none⟩=some (.string (bstr S))/\w'.cell? ⟨gx,0,none⟩=some (.int .u8 op)/\w'.cell? ⟨gx,1,none⟩=some (.int .i64 n)/\w'.cell? ⟨gx,2,none⟩=some (.string (bstr name))/\w'.cell? ⟨gx,3,none⟩=some (.slice K args.length J)) (go_keep) (fail)
   clear y0 y1 y2 y3 U;go_wp2_with fail
   refine yE (v:=.tuple #[.agg #[.int .u8 2,.int .i64 0,.string (bstr S),.slice (some ⟨y.heap.size,0,none⟩) 1 1,.slice none 0 0,.slice none 0 0],.int .i64 j,.int .i64 0]) (by simp[results,Tryz.results71,go_sem,x0,x1,x2,x3,x4,x5,ai]) rfl ⟨?_,?_⟩
   ·rw[ak.out];obtain⟨W9,aF,aM,aK⟩:=zkF y w.heap.size (.int .u8 2) (.int .i64 0) (.string (bstr S)) (.slice (some ⟨y.heap.size,0,none⟩) 1 1) (.slice none 0 0) (.slice none 0 0);rw[<-aF];have hO:OwnV (W9.alloc (.cells [.int .u8 op,.int .i64 n,.string (bstr name),.slice K args.length J].toArray 29)).drew y.heap.size 29 [.int .u8 op,.int .i64 n,.string (bstr name),.slice K args.length J]:=by rw[<-aK];exact OwnV.new W9 _ _
    have hE:=EsV.new (w2:=W9) (m:=w.heap.size+2) (((yR _ _).alloc (zr _) (.cells [.int .u8 op,.int .i64 n,.string (bstr name),.slice K args.length J].toArray 29)).drew) hO (aP.out.grown aM (fun g e h=>by cases e;omega)) Y (by simp);exact⟨_,rfl,zc6 hE (SsV.nil _ _) (SsV.nil _ _) (by omega),by omega,aH⟩
   ·exact(((((((E.out.setCell (zr _) _).setCell (zr _) _).setCell (zr _) _).setCell (zr _) _).setCell (zr _) _).setCell (zr _) _).alloc (by simp;omega) _).drew
theorem zmM(l:List Tok)(f i o:Nat)(v:Value)(w:World)(hT:Toks w l v)(hG:Good l)(hi:i<l.length)(hm:l.length<=1000000)(ho:o<=300)(hk:(zaa l i).kind=1)(hK:¬0<zap (zaa l i).text)(hw:(zaa l i).text=[108,101,116]) :
  Calls Tryz.prog 71 #[v,.int .i64 i,.int .i64 o] w fun e w'=>zb5 l i w w' e (zan l (f+1) i o)/\Below w.heap.size w w':=by
 have hn:=hG.next hi (by rw[hk];decide);have HT:=zh hT;have HK:Hid (∀w:World,_):=zh (fun w:World=>zb6 (zaa l i).text w);have az:zap (zaa l i).text=0:=by omega
 rw[az] at HK;obtain⟨qk,G⟩:∃q,((zaa l (i+1)).kind != 1)=q:=⟨_,rfl⟩;obtain⟨q,hq⟩:∃q,zaP (zaa l (i+1)).text=q:=⟨_,rfl⟩;have au:Hid (∀w:World,_):=zh (fun w:World=>zfU (zaa l (i+1)).text w);rw[hq] at au
 have P:qk=false->i+1+1<l.length:=fun h=>hG.next hn (by
  rw[h] at G;rw[bne_eq_false_iff_eq] at G
  rw[G];decide)
 have HV:Hid (qk=false->∀w',Below w.heap.size w w'->Calls Tryz.prog 113 #[v,.int .i64 ((i:Int)+1+1),.int .i64 o] w' fun e w''=>zb4 l (i+1+1) w' w'' e (zaz l (i+1+1) o)/\Below w'.heap.size w' w''):=zh (fun hk w' hb=>zeH l v hG (by omega) (i+1+1) o w' (Sl.below (by omega) hT hb (zr _)) (P hk) ho)
 have HF:Hid (zan l (f+1) i o=if qk=true∨q=false then .err (i+1) 120 else(zaz l (i+1+1) o).map fun x=>.mk 1 0 (zaa l (i+1)).text [x] [] []):=zh (by
  rw[zan,yN (by rw[hk];decide),yN hK,yN (by rw[hw];decide),yN (by rw[hw];decide),yP hw,hq];by_cases h:(zaa l (i+1)).kind=1
  ·have e:qk=false:=by rw[<-G,bne_eq_false_iff_eq];exact h
   rw[e];by_cases h2:q=false
   ·rw[yP (.inr h2),yP (.inr h2)]
   ·rw[yN (fun x=>x.elim (fun y=>y h) h2),yN (fun x=>x.elim (fun y=>by cases y) h2)]
  ·have e:qk=true:=by rw[<-G,bne_iff_ne];exact h
   rw[yP (.inl h),yP (.inl e)])
 obtain⟨u,Z⟩:∃r,zan l (f+1) i o=r:=⟨_,rfl⟩;rw[Z] at HF ⊢;obtain⟨a,cap,rfl,aT,aZ⟩:=Sl.form hT;obtain⟨b,av,rfl,c0,W,c2,c3,c4⟩:=zaF hT hi;have aY:(i:Int)<l.length:=by omega
 have a0:(i:Int)<=1000000:=by omega
 have aW:b<w.heap.size:=World.block_lt_of_cell? w _ c0;have aQ:¬b=w.heap.size:=by omega
 rw[hk] at c0;rw[hw] at W HK;obtain⟨b',aS,eb,u0,u1,-,-,-⟩:=zaF hT hn;cases eb;have aF:=zh u0;have ak:=zh u1;have a1:(i:Int)+1<l.length:=by omega
 have ht:((i:Int)+1).toNat=i+1:=by omega
 have a2:(0:Int)<=(i:Int)+1:=by omega
 have aU:¬((i:Int)+1<0):=by omega
 clear Z hq hT hk hK az hw u0 u1
 generalize (zaa l i).n=N at *
 generalize (zaa l i).line=L at *
 generalize (zaa l i).col=C at *
 generalize (zaa l (i+1)).text=S2 at *
 generalize (zaa l (i+1)).kind=K2 at *
 generalize zaz l (i+1+1) o=R at *
 go_enter Tryz.func71,Tryz.ntmps71
 go_wp2_with fail
 obtain⟨W0,ag,ax,aq,ai,aC⟩:=zbD w zbh (Tok.cells ⟨1,[108,101,116],N,L,C⟩) 56 93;simp only[zbh,Tok.cells] at ag;rw[<-ag];clear ag c0 W c2 c3 c4 aQ;have an:=zh ax;have ay:Hid (OwnV W0 w.heap.size 56 zbh):=zh aq;have aA:=zh ai;obtain⟨t0,t1⟩:=yc2 ai;clear ax aq ai;go_at_call 24;refine(HK.out _).mono ?_;rintro e2 w2⟨rfl,I⟩;have E:=zh (an.out.trans (I.mono an.out.size));have am:=zh (ay.out.below I (zr _));have aw:=zh (aA.out.below I (zr _));have Y:=yT aC I.size;clear I t0 t1 ay aA an aC;have t1:w2.cell? ⟨w.heap.size+1,1,none⟩=some (.string { data:=#[108,101,116] }):=aw.out.cell (i:=1) rfl;have c0:=Below.keep E.out aF.out;have W:=Below.keep E.out ak.out
 cases qk with
 | true =>
  have af:Hid (u=.err (i+1) 120):=zh (by rw[HF.out,yP (.inl rfl)]);clear HF P;have d:=am.out;obtain⟨x0,x1,x2,x3,x4,x5⟩:=yc6 d;have xf:=d.free;clear d;go_wp2_with fail
  refine yE (v:=.tuple #[.agg #[.int .u8 0,.int .i64 0,.string { data:=#[] },.slice none 0 0,.slice none 0 0,.slice none 0 0],.int .i64 ((i:Int)+1),.int .i64 120]) (by simp[results,Tryz.results71,go_sem,x0,x1,x2,x3,x4,x5]) rfl ⟨?_,((((((E.out).setCell (zr _) _).setCell (zr _) _).setCell (zr _) _).setCell (zr _) _).setCell (zr _) _).setCell (zr _) _⟩;rw[af.out]
  exact⟨_,_,_,_,_,_,_,_,_,_,_,_,rfl,.inl rfl,hn⟩
 | false =>
 have aP:=zh (HV.out rfl);have aV:=P rfl;clear HV P;go_wp2_with fail
 go_at_call 22;refine(au.out _).mono ?_;rintro e3 w3⟨rfl,T⟩;have K:=zh (E.out.trans (T.mono E.out.size));have ae:=zh (am.out.below T (zr _));have X:=yT Y T.size;clear T t1 c0 W am aw E Y
 cases q with
 | false =>
  have af:Hid (u=.err (i+1) 120):=zh (by rw[HF.out,yP (.inr rfl)]);clear HF;have d:=ae.out;obtain⟨x0,x1,x2,x3,x4,x5⟩:=yc6 d;have xf:=d.free;clear d;go_wp2_with fail
  refine yE (v:=.tuple #[.agg #[.int .u8 0,.int .i64 0,.string { data:=#[] },.slice none 0 0,.slice none 0 0,.slice none 0 0],.int .i64 ((i:Int)+1),.int .i64 120]) (by simp[results,Tryz.results71,go_sem,x0,x1,x2,x3,x4,x5]) rfl ⟨?_,((((((K.out).setCell (zr _) _).setCell (zr _) _).setCell (zr _) _).setCell (zr _) _).setCell (zr _) _).setCell (zr _) _⟩;rw[af.out]
  exact⟨_,_,_,_,_,_,_,_,_,_,_,_,rfl,.inl rfl,hn⟩
 | true =>
  have ar:Hid (u=R.map fun x=>.mk 1 0 S2 [x] [] []):=zh (by rw[HF.out,yN (by decide)]);clear HF;go_wp2_with fail
  go_at_call 113;refine(aP.out _ K.out).mono ?_;rintro e4 D⟨ao,U⟩;have S:=zh (K.out.trans (U.mono K.out.size));have ap:=zh (ae.out.below U (zr _));have V:=yT X U.size;clear U ae K
  cases R with
  | err a c =>
   obtain⟨op,n,nm,O,m,M,rfl,hc,aO⟩:=ao;have aj:Hid (u=.err a c):=zh ar.out;have Hc:=zh hc;clear hc;obtain⟨A,H,J,z⟩:∃A,A=D.alloc (.cells #[.int .u8 op,.int .i64 n,.string nm,.slice O m M] 29)/\OwnV A D.heap.size 29 [.int .u8 op,.int .i64 n,.string nm,.slice O m M]/\Below D.heap.size D A:=⟨_,rfl,OwnV.new _ _ _,(yR _ _).alloc (zr _) _⟩;have ac:=zh (ap.out.below z (zr _));have F:=zh (S.out.trans (z.mono S.out.size));have ab:=zh H;have B:=zh J;have aa:=yT V z.size;clear J z H;go_upto_region 25 with(fail)
   rw[<-ab.out];have W:=Below.keep F.out ak.out;obtain⟨y0,y1,y2,y3⟩:=yc4 B.out;have d:=ac.out;obtain⟨x0,x1,x2,x3,x4,x5⟩:=yc6 d;have xf:=d.free;have ah:w.heap.size<A.heap.size:=by omega
   have aN:D.heap.size<A.heap.size:=B.out.lt;have aR:b<A.heap.size:=by omega
   have aI:¬w.heap.size=b:=by omega
   have aL:¬b=w.heap.size:=by omega
   have aG:¬w.heap.size=D.heap.size:=by omega
   have aK:¬D.heap.size=w.heap.size:=by omega
   generalize D.heap.size=gx at *
   clear d;go_region_held3 (fun w'=>w'.cell? ⟨b,av+(i+1)*5+1,none⟩=some (.string (bstr S2))/\w'.cell? ⟨gx,0,none⟩=some (.int .u8 op)/\w'.cell? ⟨gx,1,none⟩=some (.int .i64 n)/\w'.cell? ⟨gx,2,none⟩=some (.string nm)/\w'.cell? ⟨gx,3,none⟩=some (.slice O m M)) (go_keep) (fail)
   clear y0 y1 y2 y3 W;go_wp2_with fail
   refine yE (v:=.tuple #[.agg #[.int .u8 1,.int .i64 0,.string (bstr S2),.slice (some ⟨A.heap.size,0,none⟩) 1 1,.slice none 0 0,.slice none 0 0],.int .i64 a,.int .i64 c]) (by simp[results,Tryz.results71,go_sem,x0,x1,x2,x3,x4,x5,ah]) rfl ⟨?_,?_⟩
   ·rw[aj.out];exact⟨_,_,_,_,_,_,_,_,_,_,_,_,rfl,Hc.out,aO⟩
   ·exact(((((((F.out.setCell (zr _) _).setCell (zr _) _).setCell (zr _) _).setCell (zr _) _).setCell (zr _) _).setCell (zr _) _).alloc (by simp;omega) _).drew
  | ok x j =>
   obtain⟨v4,rfl,⟨cs,rfl,hX⟩,aX,aE⟩:=ao;obtain⟨op,n,name,args,O,M,rfl,rfl⟩:=hX.one;have aj:Hid (u=.ok (.mk 1 0 S2 [.mk op n name args] [] []) j):=zh ar.out;have HX:=zh hX;clear hX;obtain⟨A,H,J,z⟩:∃A,A=D.alloc (.cells #[.int .u8 op,.int .i64 n,.string (bstr name),.slice O args.length M] 29)/\OwnV A D.heap.size 29 [.int .u8 op,.int .i64 n,.string (bstr name),.slice O args.length M]/\Below D.heap.size D A:=⟨_,rfl,OwnV.new _ _ _,(yR _ _).alloc (zr _) _⟩;have ac:=zh (ap.out.below z (zr _));have F:=zh (S.out.trans (z.mono S.out.size));have ab:=zh H;have B:=zh J;have aa:=yT V z.size;have aM:=zh ((HX.out.under z (zr _)).weak (Q:=fun g=>w.heap.size+2<=g) fun _ _ h=>yT X h);clear J z H;go_upto_region 25 with(fail)
   rw[<-ab.out];have W:=Below.keep F.out ak.out;obtain⟨y0,y1,y2,y3⟩:=yc4 B.out;have d:=ac.out;obtain⟨x0,x1,x2,x3,x4,x5⟩:=yc6 d;have xf:=d.free;have ah:w.heap.size<A.heap.size:=by omega
   have aN:D.heap.size<A.heap.size:=B.out.lt;have aR:b<A.heap.size:=by omega
   have aI:¬w.heap.size=b:=by omega
   have aL:¬b=w.heap.size:=by omega
   have aG:¬w.heap.size=D.heap.size:=by omega
   have aK:¬D.heap.size=w.heap.size:=by omega
   generalize D.heap.size=gx at *
   clear d;go_region_held3 (fun w'=>w'.cell? ⟨b,av+(i+1)*5+1,none⟩=some (.string (bstr S2))/\w'.cell? ⟨gx,0,none⟩=some (.int .u8 op)/\w'.cell? ⟨gx,1,none⟩=some (.int .i64 n)/\w'.cell? ⟨gx,2,none⟩=some (.string (bstr name))/\w'.cell? ⟨gx,3,none⟩=some (.slice O args.length M)) (go_keep) (fail)
   clear y0 y1 y2 y3 W;go_wp2_with fail
   refine yE (v:=.tuple #[.agg #[.int .u8 1,.int .i64 0,.string (bstr S2),.slice (some ⟨A.heap.size,0,none⟩) 1 1,.slice none 0 0,.slice none 0 0],.int .i64 j,.int .i64 0]) (by simp[results,Tryz.results71,go_sem,x0,x1,x2,x3,x4,x5,ah]) rfl ⟨?_,?_⟩
   ·rw[aj.out];obtain⟨W9,aD,aJ,aH⟩:=zkF A w.heap.size (.int .u8 1) (.int .i64 0) (.string (bstr S2)) (.slice (some ⟨A.heap.size,0,none⟩) 1 1) (.slice none 0 0) (.slice none 0 0);rw[<-aD];have hO:OwnV (W9.alloc (.cells [.int .u8 op,.int .i64 n,.string (bstr name),.slice O args.length M].toArray 29)).drew A.heap.size 29 [.int .u8 op,.int .i64 n,.string (bstr name),.slice O args.length M]:=by rw[<-aH];exact OwnV.new W9 _ _
    have hE:=EsV.new (w2:=W9) (m:=w.heap.size+2) (((yR _ _).alloc (zr _) (.cells [.int .u8 op,.int .i64 n,.string (bstr name),.slice O args.length M].toArray 29)).drew) hO (aM.out.grown aJ (fun g e h=>by cases e;omega)) aa (by simp);exact⟨_,rfl,zc6 hE (SsV.nil _ _) (SsV.nil _ _) (by omega),by omega,aE⟩
   ·exact(((((((F.out.setCell (zr _) _).setCell (zr _) _).setCell (zr _) _).setCell (zr _) _).setCell (zr _) _).setCell (zr _) _).alloc (by simp;omega) _).drew
end Go.Proofs.YtoaojdobjinhfaaGreatDoor
