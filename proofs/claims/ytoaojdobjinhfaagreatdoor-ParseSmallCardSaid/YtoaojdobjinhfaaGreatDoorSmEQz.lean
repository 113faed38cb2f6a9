/- ParseSmall: deep, walked. -/
import Derived.Test.YtoaojdobjinhfaaGreatDoorSmMQz
set_option linter.unusedSimpArgs false
set_option linter.unusedVariables false
set_option maxRecDepth 100000
set_option maxHeartbeats 16000000
namespace Go.Proofs.YtoaojdobjinhfaaGreatDoor
open Go.RowKit
theorem es_low{w:World}{m:Nat}{xs:List Ex}{v:Value}(h:EsV w m xs v):EsL w w.heap.size xs v:=by
 obtain⟨cs,f,q,i⟩:=h;refine⟨cs,f,?_,i.weak fun g hg _=>hg⟩;rcases Nat.eq_zero_or_pos xs.length with d|d
 ·exact .inl d
 ·obtain⟨a,cap,rfl,-,-⟩:=f.form;obtain⟨b,l,rfl,j,-⟩:=f.at (by omega) d;exact .inr fun g hg=>by cases hg;exact j
theorem ss_low'{w:World}{m:Nat}{xs:List St}{v:Value}(h:SsV w m xs v):SsL w w.heap.size xs v:=by
 obtain⟨cs,f,q,i⟩:=h;refine⟨cs,f,?_,i.weak fun g hg _=>hg⟩;rcases Nat.eq_zero_or_pos xs.length with d|d
 ·exact .inl d
 ·obtain⟨a,cap,rfl,-,-⟩:=f.form;obtain⟨b,l,rfl,j,-⟩:=f.at (by omega) d;exact .inr fun g hg=>by cases hg;exact j
def DeepX (W : World) (bx i : Nat) : Prop := ∃ (op n : Int) (name : List UInt8) (args : List Ex) (va : Value), okE (.mk op n name args) /\ szE (.mk op n name args) <= i + 1 /\ OwnV W bx 29 [.int .u8 op, .int .i64 n, .string (bstr name), va] /\ EsV W (bx + 1) args va
def DeepL (W : World) (bx i : Nat) (v : Value) : Prop := ∃ l : List St, okSs l /\ szSs l <= 2 * i /\ SsV W (bx + 1) l v
def D8 (w : World) (bx : Nat) (old : List Value) (args : List Ex) (va : Value) (l : List St) (vl : Value) (W : World) : Prop := OwnV W bx 29 old /\ EsV W (bx + 1) args va /\ SsV W (bx + 1) l vl /\ Below w.heap.size w W /\ w.heap.size <= bx
theorem D8.below{w W g:World}{i:Nat}{d:List Value}{args:List Ex}{j:Value}{l:List St}{m:Value}(h:D8 w i d args j l m W)(f:Below W.heap.size W g):D8 w i d args j l m g:=
 ⟨h.1.below f (zr _),h.2.1.below f,h.2.2.1.below f,h.2.2.2.1.trans (f.mono h.2.2.2.1.size),h.2.2.2.2⟩
theorem D8.alloc{w W:World}{f:Nat}{d:List Value}{args:List Ex}{g:Value}{l:List St}{i:Value}(h:D8 w f d args g l i W)(o:Obj):D8 w f d args g l i (W.alloc o):=h.below ((yR _ _).alloc (zr _) _)
theorem D8.drew{w W:World}{f:Nat}{d:List Value}{args:List Ex}{g:Value}{l:List St}{i:Value}(h:D8 w f d args g l i W):D8 w f d args g l i W.drew:=h.below (yR _ _).drew
def D10 (w : World) (bx : Nat) (old : List Value) (args : List Ex) (va : Value) (l : List St) (vl : Value) (wx : World) : Prop := ∃ (op' : Int) (g : Nat), (op' = 7 ∨ op' = 9) /\ bx < g /\ OwnV wx bx 29 [.int .u8 op', .int .i64 0, .string { data := #[] }, .slice (some ⟨g, 0, none⟩) 1 1] /\ OwnV wx g 29 old /\ EsV wx (bx + 1) args va /\ SsV wx (bx + 1) l vl /\ Below w.heap.size w wx
theorem deep_s{w m:World}{f:Nat}{a b c d:Value}{args:List Ex}{u:Value}{l:List St}{v:Value}(h:D8 w f [a,b,c,d] args u l v m){o:Int}(C:o=7∨o=9)(g:Nat):∃S,S=((((m.setCell ⟨f,0,none⟩ (.int .u8 o)).setCell ⟨f,1,none⟩ (.int .i64 0)).setCell ⟨f,2,none⟩ (.string { data:=#[] })).setCell ⟨f,3,none⟩ (.slice (some ⟨g,0,none⟩) 1 1))/\S.heap.size=m.heap.size/\∀W,Below S.heap.size S W->f<g->OwnV W g 29 [a,b,c,d]->D10 w f [a,b,c,d] args u l v W:=by
 obtain⟨y,z,A,B,j⟩:=h;have i:=Nat.lt_succ_self f;refine⟨_,rfl,by simp,fun W hb hg hO=>⟨o,g,C,hg,((((y.set 0 _).set 1 _).set 2 _).set 3 _).below hb (zr _),hO,((((z.set i).set i).set i).set i).below hb,((((A.set i).set i).set i).set i).below hb,?_⟩⟩;have q:=(((B.setCell (p:=⟨f,0,none⟩) j (.int .u8 o)).setCell (p:=⟨f,1,none⟩) j (.int .i64 0)).setCell (p:=⟨f,2,none⟩) j (.string { data:=#[] })).setCell (p:=⟨f,3,none⟩) j (.slice (some ⟨g,0,none⟩) 1 1);exact q.trans (hb.mono q.size)
theorem deep_a{w g:World}{f:Nat}{a b c d:Value}{args:List Ex}{i:Value}{l:List St}{j:Value}(h:D8 w f [a,b,c,d] args i l j g){o:Int}(u:o=7∨o=9):D10 w f [a,b,c,d] args i l j ((((((g.setCell ⟨f,0,none⟩ (.int .u8 o)).setCell ⟨f,1,none⟩ (.int .i64 0)).setCell ⟨f,2,none⟩ (.string { data:=#[] })).setCell ⟨f,3,none⟩ (.slice (some ⟨g.heap.size+1,0,none⟩) 1 1)).alloc (.cells #[.int .u8 7,.int .u8 9] 5)).alloc (.cells #[a,b,c,d] 29)).drew:=by
 obtain⟨S,hS,v,m⟩:=deep_s h u (g.heap.size+1);have q:=h.1.lt;rw[<-hS];refine m _ (((yR _ _).alloc (zr _) _).alloc (by simp) _).drew (by omega) ?_;have:=OwnV.new (S.alloc (.cells #[.int .u8 7,.int .u8 9] 5)) 29 [a,b,c,d];exact OwnV.drew (by simpa[v] using this)
theorem deep_b{w g:World}{f:Nat}{a b c d:Value}{args:List Ex}{j:Value}{l:List St}{m:Value}(h:D8 w f [a,b,c,d] args j l m g){o:Int}(u:o=7∨o=9):D10 w f [a,b,c,d] args j l m ((((((g.setCell ⟨f,0,none⟩ (.int .u8 o)).setCell ⟨f,1,none⟩ (.int .i64 0)).setCell ⟨f,2,none⟩ (.string { data:=#[] })).setCell ⟨f,3,none⟩ (.slice (some ⟨g.heap.size,0,none⟩) 1 1)).alloc (.cells #[a,b,c,d] 29)).alloc (.cells #[.int .u8 7,.int .u8 9] 5)).drew:=by
 obtain⟨S,hS,v,q⟩:=deep_s h u g.heap.size;have i:=h.1.lt;rw[<-hS];refine q _ (((yR _ _).alloc (zr _) _).alloc (by simp) _).drew i ?_;have:=OwnV.new S 29 [a,b,c,d];rw[v] at this;exact(this.alloc _).drew
theorem es_oneV{W:World}{m g:Nat}{d n1:Int}{m1:List UInt8}{a1:List Ex}{v1:Value}(i:OwnV W g 29 [.int .u8 d,.int .i64 n1,.string (bstr m1),v1])(j:m<=g)(f:EsV W m a1 v1):EsV W m [.mk d n1 m1 a1] (.slice (some ⟨g,0,none⟩) 1 1):=by
 obtain⟨v,l,q,u⟩:=f;exact⟨_,zb7 i rfl (zr _) (by omega),.inr fun k hk=>by cases hk;exact j,ExsC.cons l q u .nil⟩
theorem ss_oneV{W:World}{m g:Nat}{op n:Int}{name:List UInt8}{es:List Ex}{body els:List St}{d vb f:Value}(q:OwnV W g 56 [.int .u8 op,.int .i64 n,.string (bstr name),d,vb,f])(u:m<=g)(i:EsV W m es d)(j:SsV W m body vb)(l:SsV W m els f):SsV W m [.mk op n name es body els] (.slice (some ⟨g,0,none⟩) 1 1):=by
 obtain⟨F,v,w,y⟩:=i;obtain⟨G,z,A,B⟩:=j;obtain⟨H,C,D,E⟩:=l;exact⟨_,zb7 q rfl (zr _) (by omega),.inr fun k hk=>by cases hk;exact u,StsC.cons v w y z A B C D E .nil⟩
theorem deep_set{W4 d:World}{g:Nat}{op n:Int}{name:List UInt8}{args:List Ex}{j:Value}(v:g<d.heap.size)(f:okE (.mk op n name args))(w:szE (.mk op n name args)<=100)(m:OwnV d g 29 [.int .u8 op,.int .i64 n,.string (bstr name),j])(q:EsL d d.heap.size args j){g2:Nat}(i:OwnV d g2 56 [.int .u8 2,.int .i64 0,.string { data:=#[97] },.slice (some ⟨g,0,none⟩) 1 1,.slice none 0 0,.slice none 0 0])(u:Glob d):Calls Tryz.prog 18 #[.slice (some ⟨g2,0,none⟩) 1 1] d (YesE d):=by
 refine writes_any (l:=[.mk 2 0 [97] [.mk op n name args] [] []]) ⟨⟨by decide,⟨by decide,by decide⟩,by decide,⟨f,trivial⟩,trivial,trivial⟩,trivial⟩ (ss_one (name:=[97]) i i.lt (es_one m v q) (SsL.nil _ _) (SsL.nil _ _)) ?_ u;simp only[szSs,szS,szEs];simp;omega
theorem deep_end{w d l:World}{q i g j:Nat}{op m n:Int}{name:List UInt8}{args:List Ex}{F vb u x:Value}{body els:List St}(C:Below w.heap.size w d)(K:w.heap.size<=q)(M:m=7∨m=9)(S:q<g)(E:OwnV d q 29 [.int .u8 m,.int .i64 0,.string { data:=#[] },.slice (some ⟨g,0,none⟩) 1 1])(A:OwnV d g 29 [.int .u8 op,.int .i64 n,.string (bstr name),F])(I:EsV d (q+1) args F)(B:okE (.mk op n name args))(P:szE (.mk op n name args)<=i+1)
  (v:Below d.heap.size d l) (J:OwnV l d.heap.size 29 [.int .u8 4,.int .i64 0,.string { data:=#[] },.slice none 0 0]) (G:SsV d (q+1) body vb) (H:SsV d (q+1) els u) (Q:okSs body) (R:okSs els) (T:szSs body+szSs els<=2*i) :
  DeepX ((l.setCell ⟨d.heap.size+1,j,none⟩ x).alloc (.cells #[.int .u8 4,.int .i64 0,.string { data:=#[] },.slice (some ⟨d.heap.size,0,none⟩) 1 1,vb,u] 56)) q (i+1)/\DeepL ((l.setCell ⟨d.heap.size+1,j,none⟩ x).alloc (.cells #[.int .u8 4,.int .i64 0,.string { data:=#[] },.slice (some ⟨d.heap.size,0,none⟩) 1 1,vb,u] 56)) q (i+1) (.slice (some ⟨l.heap.size,0,none⟩) 1 1)/\Below w.heap.size w ((l.setCell ⟨d.heap.size+1,j,none⟩ x).alloc (.cells #[.int .u8 4,.int .i64 0,.string { data:=#[] },.slice (some ⟨d.heap.size,0,none⟩) 1 1,vb,u] 56)):=by
 have L:=E.lt;have N:(l.setCell ⟨d.heap.size+1,j,none⟩ x).heap.size=l.heap.size:=by simp
 have y:Below d.heap.size d (l.setCell ⟨d.heap.size+1,j,none⟩ x):=v.setCell (p:=⟨d.heap.size+1,j,none⟩) (Nat.le_succ _) x;have f:=y.alloc y.size (.cells #[.int .u8 4,.int .i64 0,.string { data:=#[] },.slice (some ⟨d.heap.size,0,none⟩) 1 1,vb,u] 56);have D:=OwnV.new (l.setCell ⟨d.heap.size+1,j,none⟩ x) 56 [.int .u8 4,.int .i64 0,.string { data:=#[] },.slice (some ⟨d.heap.size,0,none⟩) 1 1,vb,u];have z:=(((Only.refl (fun k=>k=d.heap.size+1) l).setIn (o:=j) rfl x).own J (by show ¬d.heap.size=d.heap.size+1;omega)).alloc (.cells #[.int .u8 4,.int .i64 0,.string { data:=#[] },.slice (some ⟨d.heap.size,0,none⟩) 1 1,vb,u] 56);have O:=v.size;rw[N] at D;refine⟨⟨m,0,[],[.mk op n name args],_,⟨by omega,⟨by decide,by decide⟩,by decide,B,trivial⟩,?_,E.below f (zr _),es_oneV (A.below f (zr _)) (by omega) (I.below f)⟩,⟨[.mk 4 0 [] [.mk 4 0 [] []] body els],⟨⟨by decide,⟨by decide,by decide⟩,by decide,⟨⟨by decide,⟨by decide,by decide⟩,by decide,trivial⟩,trivial⟩,Q,R⟩,trivial⟩,?_,ss_oneV (name:=[]) D (by omega) (es_oneV (m1:=[]) z (by omega) (EsV.nil _ _)) (G.below f) (H.below f)⟩,C.trans (f.mono C.size)⟩
 ·rw[szE];simp only[szEs,yL];omega
 ·simp only[szSs,szS,szEs,szE,yL];omega
theorem deep_any{w:World}(hG:Glob w):Calls Tryz.prog 53 #[] w (YesE w):=by
 have aw:=hG.size;have HG:Hid (∀W,Below w.heap.size w W->Glob W):=zh (fun W hb=>hG.below hb aw);clear hG;go_enter Tryz.func53,Tryz.ntmps53
 obtain⟨W1,ad,ag,aj⟩:=newbox w 29 [.int .u8 1,.int .i64 1,.string { data:=#[] },.slice none 0 0];have av:Hid (DeepX W1 w.heap.size 0):=zh ⟨1,1,[],[],.slice none 0 0,⟨by decide,⟨by decide,by decide⟩,by decide,trivial⟩,by decide,ag,EsV.nil _ _⟩;have au:Hid (DeepL W1 w.heap.size 0 (.slice none 0 0)):=zh ⟨[],trivial,by decide,SsV.nil _ _⟩;have ar:=zh aj;have Y:=zh ad;clear ad ag aj;go_upto_region 2 with(fail)
 rw[<-Y.out];clear Y;go_wp2_with fail
 go_loopw [0,2,3,4,6,7,8,9,10,11,12,13,14,15,16,17,18,19,20,21,22,23,24,25,26,27,28,29,30,31,32,33,34,35,36,37,38,39,40,41,42,43,44,45] (fun _ t2 t3 _ _ _ _ _ _ _ _ _ _ _ _ _ _ _ _ _ _ _ _ _ _ _ _ _ _ _ _ _ _ _ _ _ _ _ _ _ _ _ _ _ wr=>∃(i:Nat) (vl:Value),i<=42/\t3=.int .i64 i/\t2=vl/\Hid (DeepX wr w.heap.size i)/\Hid (DeepL wr w.heap.size i vl)/\Hid (Below w.heap.size w wr)) (fun _ _ t3 _ _ _ _ _ _ _ _ _ _ _ _ _ _ _ _ _ _ _ _ _ _ _ _ _ _ _ _ _ _ _ _ _ _ _ _ _ _ _ _ _ _=>42-(intOf t3).toNat)
 case atStart=>exact⟨0,_,by omega,by first|rfl|go_num,rfl,av,au,ar⟩
 case round =>
  obtain⟨i,vl,hi,rfl,rfl,HX,HL,f⟩:=hrel;obtain⟨wo,rfl⟩:∃wo:World,wo=wr:=⟨_,rfl⟩;by_cases ay:i<42
  ·have ax:(i:Int)<42:=by omega
   obtain⟨op,n,name,args,va,T,aq,hO,K⟩:=HX.out;obtain⟨l,E,G,U⟩:=HL.out;obtain⟨a,cap,rfl⟩:=K.form;obtain⟨al,u,rfl⟩:=U.form;have HS:=zh (shows_any T (es_low K) (zr _) (HG.out _ f.out));have I:=zh T;have J:=zh aq;have y:=zh E;have z:=zh G;have q:=zh hO;have v:=zh K;have d:=zh U;obtain⟨x0,x1,x2,x3⟩:=yc4 hO;clear T aq E G hO K U HX HL;go_wp2_with fail
   refine HS.out.mono ?_;rintro e2 w2⟨rfl,A⟩;replace q:=zh (q.out.below A (zr _));replace v:=zh (v.out.below A);replace d:=zh (d.out.below A);replace f:=zh (f.out.trans (A.mono f.out.size));have HW:=zh (writes_any y.out (ss_low' d.out) (by have:=z.out;omega) (HG.out _ f.out));clear A x0 x1 x2 x3 HS;go_wp2_with fail
   refine HW.out.mono ?_;rintro e3 V⟨rfl,B⟩;replace q:=zh (q.out.below B (zr _));replace v:=zh (v.out.below B);replace d:=zh (d.out.below B);replace f:=zh (f.out.trans (B.mono f.out.size));clear B HW;obtain⟨W4,L,ah,P⟩:=newbox V 29 [.int .u8 op,.int .i64 n,.string (bstr name),.slice a args.length cap];obtain⟨W5,ae,N,Q⟩:=newbox W4 56 [.int .u8 2,.int .i64 0,.string { data:=#[97] },.slice (some ⟨V.heap.size,0,none⟩) 1 1,.slice none 0 0,.slice none 0 0];have ao:V.heap.size+1=W4.heap.size:=by rw[L];simp
   have m:=P.trans (Q.mono P.size);have Z:Hid (W5=(V.alloc (.cells #[.int .u8 op,.int .i64 n,.string (bstr name),.slice a args.length cap] 29)).alloc (.cells #[.int .u8 2,.int .i64 0,.string { data:=#[97] },.slice (some ⟨V.heap.size,0,none⟩) 1 1,.slice none 0 0,.slice none 0 0] 56)):=zh (by rw[ae,L]);obtain⟨x0,x1,x2,x3⟩:=yc4 q.out;have am:=q.out.lt;replace q:=zh (q.out.below m (zr _));replace v:=zh (v.out.below m);replace d:=zh (d.out.below m);replace f:=zh (f.out.trans (m.mono f.out.size));have hD:=deep_set (W4:=W4) (g:=V.heap.size) (by have:=N.lt;omega) I.out (by have:=J.out;omega) (ah.below Q (zr _)) (es_low v.out) N (HG.out _ f.out);rw[<-ao] at hD;have HD:=zh hD;clear L ae ah N P Q m ao hD;go_wp2_with fail
   rw[<-Z.out];refine HD.out.mono ?_;rintro e6 w6⟨rfl,C⟩;replace q:=zh (q.out.below C (zr _));replace v:=zh (v.out.below C);replace d:=zh (d.out.below C);replace f:=zh (f.out.trans (C.mono f.out.size));clear C HD Z x0 x1 x2 x3 am;go_upto_region 8 with(fail)
   go_cut [] (fun wx=>D10 w w.heap.size [.int .u8 op,.int .i64 n,.string (bstr name),.slice a args.length cap] args (.slice a args.length cap) l (.slice al l.length u) wx)
   case first =>
    have h8:D8 w w.heap.size [.int .u8 op,.int .i64 n,.string (bstr name),.slice a args.length cap] args (.slice a args.length cap) l (.slice al l.length u) w6:=⟨q.out,v.out,d.out,f.out,zr _⟩;have H8:=zh h8;obtain⟨x0,x1,x2,x3⟩:=yc4 q.out;have xf:=q.out.free;have xl:=q.out.lt;have F:(i:Int).tmod 2=0∨(i:Int).tmod 2=1:=by rw[Int.tmod_eq_emod_of_nonneg (by omega)];omega
    clear h8;rcases F with F|F
    all_goals
     go_region_with (fail)
     all_goals
      go_wp2_with fail
      go_meet
      first
       | with_reducible exact deep_a H8.out (.inl rfl)
       | with_reducible exact deep_a H8.out (.inr rfl)
       | with_reducible exact deep_b H8.out (.inl rfl)
       | with_reducible exact deep_b H8.out (.inr rfl)
   case rest =>
    obtain⟨aA,g,an,hg,hX,ak,K,U,hB⟩:=hcut;have HX:=zh hX;have ac:=zh ak;replace v:=zh K;replace d:=zh U;replace f:=zh hB;have az:=hX.lt;clear hX ak K U hB q;obtain⟨W7,M,ai,R⟩:=newbox wc 29 [.int .u8 4,.int .i64 0,.string { data:=#[] },.slice none 0 0];obtain⟨W8,af,O,S⟩:=newbox W7 56 [.int .u8 4,.int .i64 0,.string { data:=#[] },.slice (some ⟨wc.heap.size,0,none⟩) 1 1,.slice none 0 0,.slice none 0 0];have ap:W7.heap.size=wc.heap.size+1:=by rw[M];simp
    have aa:Hid (W8=(wc.alloc (.cells #[.int .u8 4,.int .i64 0,.string { data:=#[] },.slice none 0 0] 29)).alloc (.cells #[.int .u8 4,.int .i64 0,.string { data:=#[] },.slice (some ⟨wc.heap.size,0,none⟩) 1 1,.slice none 0 0,.slice none 0 0] 56)):=zh (by rw[af,M]);rw[ap] at O;have D:=R.trans (S.mono R.size);have H:=zh O;have X:=zh (ai.below S (zr _));have ab:=zh D;clear M af ai O R S ap D;go_upto_region 10 with(fail)
    rw[<-aa.out];clear aa;obtain⟨y0,y1,y2,y3,y4,y5⟩:=yc6 H.out;have yf:=H.out.free;have yl:=H.out.lt;have F:(i:Int).tmod 3=0∨(i:Int).tmod 3=1∨(i:Int).tmod 3=2:=by rw[Int.tmod_eq_emod_of_nonneg (by omega)];omega
    rcases F with F|F|F
    all_goals
     go_wp2_with fail
     obtain⟨d1,d2,d3⟩:=deep_end (j:=5) (x:=.slice al l.length u) f.out (zr _) an hg HX.out ac.out v.out I.out J.out ab.out X.out (SsV.nil _ _) d.out trivial y.out (by have:=z.out;simp only[szSs];omega);obtain⟨f1,f2,f3⟩:=deep_end (j:=4) (x:=.slice al l.length u) f.out (zr _) an hg HX.out ac.out v.out I.out J.out ab.out X.out d.out (SsV.nil _ _) y.out trivial (by have:=z.out;simp only[szSs];omega)
     first
      | exact⟨⟨i+1,_,by omega,congrArg _ (by omega),rfl,zh d1,zh d2,zh d3⟩,by simp[intOf];omega⟩
      | exact⟨⟨i+1,_,by omega,congrArg _ (by omega),rfl,zh f1,zh f2,zh f3⟩,by simp[intOf];omega⟩
  ·have ax:¬(i:Int)<42:=by omega
   go_wp2_with fail
   go_ret;exact⟨rfl,f.out⟩
end Go.Proofs.YtoaojdobjinhfaaGreatDoor
