/- The program's parser: level and expr, walked. -/
import Derived.Test.YtoaojdobjinhfaaGreatDoorPaEPz
import Derived.Deep.DeepCutAuto
import Derived.Laws.OwnMore
set_option linter.unusedSimpArgs false
set_option linter.unusedVariables false
set_option maxRecDepth 100000
set_option maxHeartbeats 4000000
namespace Go.Proofs.YtoaojdobjinhfaaGreatDoor
open Go.RowKit

def LevC (l : List Tok) (p : Nat) (v : Value) (i : Nat) (n : Nat) (D : Nat -> Nat -> PR Ex) : Prop := ∀ j o W, i <= j -> o <= 300 -> PSt W p v l j o -> Calls Tryz.prog 100 #[.pointer (some ⟨p, 0, none⟩), .int .i64 n] W (RdE l p v o W (ExN W.heap.size) (D j o))
theorem zhq(d:Array Value)(W:World):(callFunc 136 d).run Tryz.prog W=.ok (.enter 136 d) W:=(enters_of (P:=Tryz.prog) Tryz.func136 (by kernel_rfl) rfl) d W
theorem zj8{w:World}{p K L n:Nat}{v:Value}{l:List Tok}{i o:Nat}(hn:n<5)(h:PSt w p v l i o)(W:o<=300)(V:OwnV w K 72 [.pointer (some ⟨p,0,none⟩)])(U:OwnV w L 3 [.int .i64 n])(D:Nat->Nat->PR Ex)(T:LevC l p v i (n+1) D) :
  Calls Tryz.prog 136 #[.pointer (some ⟨K,0,none⟩),.pointer (some ⟨L,0,none⟩)] w (RdE l p v o w (ExN w.heap.size) (D i o)):=by
 obtain⟨C,H,g,E⟩:∃C,C=w.alloc (.cells #[.int .u8 0,.int .i64 0,.string { data:=#[] },.slice none 0 0] 29)/\Below w.heap.size w C/\OwnV C w.heap.size 29 zeroE:=⟨_,rfl,(yR _ _).alloc (zr _) _,OwnV.new _ _ _⟩;have Q:=zh (T i o C (zr _) W (h.below g));have x0:=(V.below g (zr _)).cell (i:=0) rfl;have y0:=(U.below g (zr _)).cell (i:=0) rfl;have ab:(n:Int)<5:=by omega
 have Y:=h.lt;have X:=zao h;have P:=zh H;have G:=zh g;have I:=zh E;clear H g E h V U T
 generalize D i o=R at *
 go_enter Tryz.func136,Tryz.ntmps136
 go_upto_region 1 with(fail)
 rw[<-P.out];go_wp2_with fail
 go_at_call 100;refine Q.out.mono ?_;intro e4 w4 f;clear Q
 cases R with
 | err a c =>
  obtain⟨f,d⟩:=f;unfold Bad at f;subst f;have A:=zh d;clear d;go_wp2_with fail
  exact⟨rfl,rfl,(Turns.below G.out).trans A.out⟩
 | ok x j =>
  obtain⟨u,rfl,⟨ac,rfl,z⟩,F,d⟩:=f;obtain⟨N,n4,q,y⟩:=x;obtain⟨aa,cp,rfl⟩:=z.form1;have B:=d.own I.out (by omega);obtain⟨K,L,b2,Z⟩:=yc4 B;have bf:=B.free;have O:=zh z;have M:=zh F;have A:=zh ((Turns.below G.out).trans d);have m:=zh I.out.lt;clear B z F d x0 y0;go_wp2_with fail
  refine yE (v:=.agg #[.int .u8 N,.int .i64 n4,.string (bstr q),.slice aa y.length cp]) (by simp[results,Tryz.results136,go_sem,K,L,b2,Z]) rfl ⟨_,rfl,⟨_,rfl,?_⟩,?_,?_⟩
  ·have J:¬(C.heap.size<=w.heap.size):=by have:=m.out;omega
   exact((((O.out.set J).set J).set J).set J).weak fun b _ h=>by have:=m.out;omega
  ·exact M.out.only (S:=fun b=>b=w.heap.size) (((((Turns.refl w.heap.size w4).set _ _).set _ _).set _ _).set _ _) (by omega) (fun b hb=>by have:=X b hb;omega)
  ·exact(((A.out.setNew (zr _) _).setNew (zr _) _).setNew (zr _) _).setNew (zr _) _
theorem zg7(n:Nat)(d:n<5)(g:Nat)(u:World):(Instr.index 127 (.agg #[.slice (some ⟨g+1,0,none⟩) 1 1,.slice (some ⟨g+1+1,0,none⟩) 1 1,.slice (some ⟨g+1+1+1,0,none⟩) 6 6,.slice (some ⟨g+1+1+1+1,0,none⟩) 2 2,.slice (some ⟨g+1+1+1+1+1,0,none⟩) 3 3]) (.int .i64 n)).run Tryz.prog u=.ok (.slice (some ⟨g+1+n,0,none⟩) (lvl n).length (lvl n).length) u:=by
 have:n=0∨n=1∨n=2∨n=3∨n=4:=by omega
 rcases this with rfl|rfl|rfl|rfl|rfl <;>(unfold Instr.index;simp[go_sem,asAgg,Tryz.underlying127,lvl])
theorem zc2{l:List Tok}{p:Nat}{v:Value}(f:PEnv l){i n:Nat}(hn:n<5)(D:Nat->Nat->PR Ex)(ab:∀j o x m,D j o=.ok x m->j<m)(hD:LevC l p v i (n+1) D):LevC l p v i n (fun j o=>(D j o).andThen fun x m=>zbl l D (n+1) (l.length+1-m) x m o):=by
 intro i1 o w aC ho h;have aG:=h.lt;have hv:=zao h
 have HC:Hid (∀(g:Nat) (b0 b1:Nat) (W:World),PSt W p v l i1 o->OwnV W b0 72 [.pointer (some ⟨p,0,none⟩)]->OwnV W b1 3 [.int .i64 n]->b0≠p->b1≠p->OwnV W g 155 (sgC (lvl n))->g≠p->Calls Tryz.prog 135 #[.pointer (some ⟨p,0,none⟩),.bool ((n:Int)==2),.func (.func 136) #[] #[.pointer (some ⟨b0,0,none⟩),.pointer (some ⟨b1,0,none⟩)],.slice (some ⟨g,0,none⟩) (lvl n).length (lvl n).length] W (RdE l p v o W (ExN W.heap.size) ((D i1 o).andThen fun x m=>zbl l D (n+1) (l.length+1-m) x m o))):=
  zh (fun g b0 b1 W hP h0 h1 n0 n1 hg hgp=>zlu hP f hn _ (by rw[beq_iff_eq];omega) hg hgp _ _ D (zhq _) (fun j x m=>ab j o x m) (fun j W' hj hT hP'=>zj8 hn hP' ho (hT.own h0 n0) (hT.own h1 n1) D (fun j' o' W'' hj' ho' hP''=>hD j' o' W'' (by omega) ho' hP'')))
 show Calls _ _ _ _ (RdE l p v o w (ExN w.heap.size) ((D i1 o).andThen fun x m=>zbl l D (n+1) (l.length+1-m) x m o))
 generalize ((D i1 o).andThen fun x m=>zbl l D (n+1) (l.length+1-m) x m o)=R at *
 have O:=zh za7;have ay:((n:Int)==5)=false:=by rw[beq_eq_false_iff_ne];omega
 have aA:=zmf Tryz.prog
 obtain⟨B,ag,M,L,C,T⟩:∃B,B=((w.alloc (.cells #[.pointer (some ⟨p,0,none⟩)] 72)).alloc (.cells #[.int .i64 n] 3)).alloc (.cells #[.int .u8 0,.int .i64 0,.string { data:=#[] },.slice none 0 0] 29)/\Below w.heap.size w B/\OwnV B w.heap.size 72 [.pointer (some ⟨p,0,none⟩)]/\OwnV B (w.heap.size+1) 3 [.int .i64 n]/\OwnV B (w.heap.size+1+1) 29 zeroE:=
  ⟨_,rfl,(((yR _ _).alloc (zr _) _).alloc (by simp) _).alloc (by simp;omega) _,((OwnV.new _ _ _).alloc _).alloc _,(za6 _ _ _ (by simp)).alloc _,za6 _ _ _ (by simp)⟩
 have a0:=L.cell (i:=0) rfl;have c0:=C.cell (i:=0) rfl;have ax:=zh ag;have ae:=zh M;have ao:=zh L;have av:=zh C;have am:=zh T;have H1:=zh (h.below M);have aF:=C.lt;clear ag M L C T h hD;go_enter Tryz.func100,Tryz.ntmps100
 go_upto_region 1 with(fail)
 rw[<-ax.out];go_cut [8] (fun t8 wx=>t8=.bool false/\Below B.heap.size B wx)
 case first =>
  go_region_with ((go_at_call 98;refine(O.out _).mono ?_;rintro e2 w2⟨rfl,-,ap⟩;have d:Below B.heap.size B w2:=Below.trans (b:=B.drew) (yR _ _).drew ap;have c0:=Below.keep d c0))
  all_goals
   go_wp2_with fail
   go_meet;exact⟨rfl,d⟩
 case rest =>
  obtain⟨rfl,d⟩:=hcut;obtain⟨w2,aj⟩:∃w2,w2=wc:=⟨_,rfl⟩;subst aj;have Z:=zh (ao.out.below d (zr _));have Y:=zh (av.out.below d (zr _));have ad:=zh (am.out.below d (zr _));have H2:=zh (H1.out.below d);have U:=zh (ae.out.trans (d.mono ae.out.size));have a2:=Z.out.cell (i:=0) rfl;have Q:=Y.out.cell (i:=0) rfl;clear d a0 c0;have az:=ad.out.lt;go_wp2_with fail
  refine zc7 7 [0,0,0,0,3,0,4] (fun b w'=>Below w2.heap.size w2 w'/\(b=false->w'=w2.drew)/\(b=true->OwnV w' (w2.heap.size+1+n) 155 (sgC (lvl n)))) (by kernel_rfl) (by kernel_rfl) ⟨(yR _ _).drew,fun _=>rfl,fun h=>by cases h⟩ ?_;simp only[List.take_succ_cons,List.take_zero,List.drop_succ_cons,List.drop_zero];try simp only[Act.put,zs1,zs3,zs2]
  apply stepsSeq2.val
  ·rintro b w' f;have y:=zh f;have F:=Below.keep f.1 a2;have E:=Below.keep f.1 Q;clear f;try simp only[Act.put,zs1,zs3,zs2]
   go_wp2;exact⟨rfl,y.out⟩
  try simp only[Act.put,zs1,zs3,zs2]
  apply stepsSeq2.val
  ·rintro b w' f;have y:=zh f;have F:=Below.keep f.1 a2;have E:=Below.keep f.1 Q;clear f;try simp only[Act.put,zs1,zs3,zs2]
   go_wp2;exact⟨rfl,y.out⟩
  try simp only[Act.put,zs1,zs3,zs2]
  apply stepsSeq2.val
  ·rintro b w' f;have y:=zh f;have F:=Below.keep f.1 a2;have E:=Below.keep f.1 Q;clear f;try simp only[Act.put,zs1,zs3,zs2]
   go_wp2;exact⟨rfl,y.out⟩
  try simp only[Act.put,zs1,zs3,zs2]
  apply stepsSeq2.val
  ·rintro b w' f;have y:=zh f;have F:=Below.keep f.1 a2;have E:=Below.keep f.1 Q;clear f;try simp only[Act.put,zs1,zs3,zs2]
   go_wp2;exact⟨rfl,y.out⟩
  try simp only[Act.put,zs1,zs3,zs2]
  apply stepsSeq2.mem
  ·rintro w'⟨-,ak,-⟩;obtain rfl:=ak rfl;try simp only[Act.put,zs1,zs3,zs2]
   go_wp2_with fail
   go_at_call 98;refine(O.out _).mono ?_;rintro e3 w3⟨rfl,ah,af⟩;have ar:=zh ah;have G:=zh af;clear ah af;go_wp2;exact⟨rfl,Below.trans (b:=w2.drew) (yR _ _).drew G.out,fun h=>(by cases h),fun _=>ar.out n hn⟩
  try simp only[Act.put,zs1,zs3,zs2]
  apply stepsSeq2.val
  ·rintro b w' f;have y:=zh f;have F:=Below.keep f.1 a2;have E:=Below.keep f.1 Q;clear f;try simp only[Act.put,zs1,zs3,zs2]
   go_wp2;exact⟨rfl,y.out⟩
  try simp only[Act.put,zs1,zs3,zs2]
  apply stepsSeq2.back
  ·rintro w' f;have y:=zh f;clear f;have aD:=zg7 n hn w2.heap.size;try simp only[Act.put,zs1,zs3,zs2]
   go_wp2;first|exact⟨rfl,y.out⟩|exact⟨rfl,y.out.1,y.out.2.2 trivial⟩
  try simp only[Act.put,zs1,zs3,zs2]
  refine stepsSeq2.nil ?_;rintro w3⟨q,-,ac⟩;have ai:=ac (by trivial);have V:=zh (HC.out (w2.heap.size+1+n) _ _ w3 (H2.out.below q) (Z.out.below q (zr _)) (Y.out.below q (zr _)) (by omega) (by omega) ai (by omega));have an:=zh (ad.out.below q (zr _));have G:=zh (U.out.trans (q.mono U.out.size));have H:Hid (w2.heap.size<=w3.heap.size):=zh q.size;clear q ac ai HC O a2 Q;try simp only[Act.put,zs1,zs3,zs2]
  go_wp2_with fail
  go_at_call 135;refine V.out.mono ?_;intro e4 w4 A;clear V
  cases R with
  | err a c =>
   obtain⟨A,z⟩:=A;unfold Bad at A;subst A;have P:=zh z;clear z;go_wp2_with fail
   exact⟨rfl,rfl,(Turns.below G.out).trans P.out⟩
  | ok x j =>
   obtain⟨u,rfl,⟨aE,rfl,K⟩,X,z⟩:=A;obtain⟨aq,n4,I,J⟩:=x;obtain⟨aa,cp,rfl⟩:=K.form1;have N:=z.own an.out (by omega);obtain⟨r0,r1,r2,r3⟩:=yc4 N;have rf:=N.free;have au:=zh K;have aw:=zh X;have P:=zh ((Turns.below G.out).trans z);clear K X z N;go_wp2_with fail
   refine yE (v:=.agg #[.int .u8 aq,.int .i64 n4,.string (bstr I),.slice aa J.length cp]) (by simp[results,Tryz.results100,go_sem,r0,r1,r2,r3]) rfl ⟨_,rfl,⟨_,rfl,?_⟩,?_,?_⟩
   ·have hP:¬(w3.heap.size<=w.heap.size+1+1):=by have:=H.out;omega
    exact((((au.out.set hP).set hP).set hP).set hP).weak fun b _ h=>by have:=H.out;omega
   ·exact aw.out.only (S:=fun b=>b=w.heap.size+1+1) (((((Turns.refl (w.heap.size+1+1) w4).set _ _).set _ _).set _ _).set _ _) (by omega) (fun b hb=>by have:=hv b hb;omega)
   ·exact(((P.out.setNew (by omega) _).setNew (by omega) _).setNew (by omega) _).setNew (by omega) _
theorem zj9{l:List Tok}{p:Nat}{v:Value}{i:Nat}(D:Nat->Nat->PR Ex)(hU:∀j o W,i<=j->o<=300->PSt W p v l j o->Calls Tryz.prog 134 #[.pointer (some ⟨p,0,none⟩)] W (RdE l p v o W (ExN W.heap.size) (D j o))):LevC l p v i 5 D:=by
 intro i1 o w Q ho h;have ad:=h.lt;have hv:=zao h;have HU:Hid (∀W,PSt W p v l i1 o->Calls Tryz.prog 134 #[.pointer (some ⟨p,0,none⟩)] W (RdE l p v o W (ExN W.heap.size) (D i1 o))):=zh (fun W hP=>hU i1 o W Q ho hP)
 generalize D i1 o=R at *
 have L:=zh za7
 obtain⟨m,M,C,B,I,F⟩:∃m,m=((w.alloc (.cells #[.pointer (some ⟨p,0,none⟩)] 72)).alloc (.cells #[.int .i64 5] 3)).alloc (.cells #[.int .u8 0,.int .i64 0,.string { data:=#[] },.slice none 0 0] 29)/\Below w.heap.size w m/\OwnV m w.heap.size 72 [.pointer (some ⟨p,0,none⟩)]/\OwnV m (w.heap.size+1) 3 [.int .i64 5]/\OwnV m (w.heap.size+1+1) 29 zeroE:=
  ⟨_,rfl,(((yR _ _).alloc (zr _) _).alloc (by simp) _).alloc (by simp;omega) _,((OwnV.new _ _ _).alloc _).alloc _,(za6 _ _ _ (by simp)).alloc _,za6 _ _ _ (by simp)⟩
 have a0:=B.cell (i:=0) rfl;have U:=I.cell (i:=0) rfl;have ab:=zh M;have K:=zh C;have V:=zh B;have ac:=zh F;have H1:=zh (h.below C);clear M C B I F h hU;go_enter Tryz.func100,Tryz.ntmps100
 go_upto_region 1 with(fail)
 rw[<-ab.out];go_cut [8] (fun t8 wx=>t8=.bool true/\Below m.heap.size m wx)
 case first =>
  go_region_with ((go_at_call 98;refine(L.out _).mono ?_;rintro e2 w2⟨rfl,-,Z⟩;have d:Below m.heap.size m w2:=Below.trans (b:=m.drew) (yR _ _).drew Z;have U:=Below.keep d U))
  all_goals
   go_wp2_with fail
   go_meet;exact⟨rfl,d⟩
 case rest =>
  obtain⟨rfl,d⟩:=hcut;obtain⟨w2,X⟩:∃w2,w2=wc:=⟨_,rfl⟩;subst X;have Y:=zh (V.out.below d (zr _));have G:=zh (ac.out.below d (zr _));have N:=zh (HU.out _ (H1.out.below d));have J:=zh (K.out.trans (d.mono K.out.size));have a2:=Y.out.cell (i:=0) rfl;have ae:=G.out.lt;clear d a0 U HU L;go_wp2_with fail
  go_at_call 134;refine N.out.mono ?_;intro e4 w4 g;clear N
  cases R with
  | err a c =>
   obtain⟨g,f⟩:=g;unfold Bad at g;subst g;have A:=zh f;clear f;go_wp2_with fail
   exact⟨rfl,rfl,(Turns.below J.out).trans A.out⟩
  | ok x j =>
   obtain⟨u,rfl,⟨af,rfl,z⟩,H,f⟩:=g;obtain⟨P,n4,q,y⟩:=x;obtain⟨aa,cp,rfl⟩:=z.form1;have E:=f.own G.out (by omega);obtain⟨r0,r1,r2,r3⟩:=yc4 E;have rf:=E.free;have T:=zh z;have O:=zh H;have A:=zh ((Turns.below J.out).trans f);clear z H f E;go_wp2_with fail
   refine yE (v:=.agg #[.int .u8 P,.int .i64 n4,.string (bstr q),.slice aa y.length cp]) (by simp[results,Tryz.results100,go_sem,r0,r1,r2,r3]) rfl ⟨_,rfl,⟨_,rfl,?_⟩,?_,?_⟩
   ·have hP:¬(w2.heap.size<=w.heap.size+1+1):=by omega
    exact((((T.out.set hP).set hP).set hP).set hP).weak fun b _ h=>by omega
   ·exact O.out.only (S:=fun b=>b=w.heap.size+1+1) (((((Turns.refl (w.heap.size+1+1) w4).set _ _).set _ _).set _ _).set _ _) (by omega) (fun b hb=>by have:=hv b hb;omega)
   ·exact(((A.out.setNew (by omega) _).setNew (by omega) _).setNew (by omega) _).setNew (by omega) _
theorem zm9{l:List Tok}{p:Nat}{v:Value}{i o:Nat}{w:World}(h:PSt w p v l i o)(T:o<=300)(D:Nat->Nat->PR Ex)(P:LevC l p v i 0 D) :
  Calls Tryz.prog 65 #[.pointer (some ⟨p,0,none⟩)] w (RdE l p v o w (ExN w.heap.size) (D i o)):=by
 obtain⟨C,H,A,E⟩:∃C,C=w.alloc (.cells #[.int .u8 0,.int .i64 0,.string { data:=#[] },.slice none 0 0] 29)/\Below w.heap.size w C/\OwnV C w.heap.size 29 zeroE:=⟨_,rfl,(yR _ _).alloc (zr _) _,OwnV.new _ _ _⟩;have O:=zh (P i o C (zr _) T (h.below A));have W:=h.lt;have U:=zao h;have N:=zh H;have G:=zh A;have I:=zh E;clear H A E h P
 generalize D i o=R at *
 go_enter Tryz.func65,Tryz.ntmps65
 go_upto_region 1 with(fail)
 rw[<-N.out];go_wp2_with fail
 go_at_call 100;refine O.out.mono ?_;intro e4 Y f;clear O
 cases R with
 | err a c =>
  obtain⟨f,d⟩:=f;unfold Bad at f;subst f;have z:=zh d;clear d;go_wp2_with fail
  exact⟨rfl,rfl,(Turns.below G.out).trans z.out⟩
 | ok x j =>
  obtain⟨u,rfl,⟨ab,rfl,y⟩,F,d⟩:=f;obtain⟨L,n4,m,q⟩:=x;obtain⟨Z,cp,rfl⟩:=y.form1;have B:=d.own I.out (by omega);obtain⟨V,Q,r2,X⟩:=yc4 B;have rf:=B.free;have M:=zh y;have K:=zh F;have z:=zh ((Turns.below G.out).trans d);have g:=zh I.out.lt;clear y F d B;go_wp2_with fail
  refine yE (v:=.agg #[.int .u8 L,.int .i64 n4,.string (bstr m),.slice Z q.length cp]) (by simp[results,Tryz.results65,go_sem,V,Q,r2,X]) rfl ⟨_,rfl,⟨_,rfl,?_⟩,?_,?_⟩
  ·have J:¬(C.heap.size<=w.heap.size):=by have:=g.out;omega
   exact((((M.out.set J).set J).set J).set J).weak fun b _ h=>by have:=g.out;omega
  ·exact K.out.only (S:=fun b=>b=w.heap.size) (((((Turns.refl w.heap.size Y).set _ _).set _ _).set _ _).set _ _) (by omega) (fun b hb=>by have:=U b hb;omega)
  ·exact(((z.out.setNew (zr _) _).setNew (zr _) _).setNew (zr _) _).setNew (zr _) _
def XsV (m : Nat) (W : World) (xs : List Ex) (u : Value) : Prop := ∃ cs, W.ownsRow m 29 4 u xs.length cs /\ ExsC W (fun b => m <= b /\ u.ownBlock ≠ some b) xs cs
def XsBox (m gl : Nat) (W : World) (xs : List Ex) : Prop := ∃ u, OwnV W gl 27 [u] /\ XsV m W xs u
theorem XsV.only{S:Nat->Prop}{m:Nat}{W i:World}{xs:List Ex}{u:Value}(h:XsV m W xs u)(f:Only S W i)(hS:∀b,S b->b<m):XsV m i xs u:=by
 obtain⟨cs,d,j⟩:=h;refine⟨cs,f.row d (fun g hg hs=>by have:=(d.lt g hg).1;have:=hS g hs;omega),?_⟩;clear d
 induction j with
 | nil=>exact .nil
 | cons g1 g2 _ _ ih1 ih2=>exact .cons (f.sl g1 (g2.imp id fun k b hb hs=>by have:=(k b hb).1;have:=hS b hs;omega)) g2 ih1 ih2
theorem XsBox.turns{m gl p:Nat}{W d:World}{xs:List Ex}(h:XsBox m gl W xs)(ht:Turns p W d)(hp:p<m)(g:gl≠p):XsBox m gl d xs:=by
 obtain⟨u,f,i⟩:=h;exact⟨u,ht.own f g,i.only ht (fun b e=>by cases e;exact hp)⟩
theorem zeg{w:World}{m f:Nat}{e:TypeId}{sz n:Nat}{v:Value}{cs:List Value}(h:w.ownsRow m e sz v n cs)(l:f<=m):w.ownsRow f e sz v n cs:=by
 refine⟨h.1,h.2.imp id ?_⟩;rintro⟨g,cap,d,i,j,r⟩;exact⟨g,cap,d,i,by omega,r⟩
theorem XsV.low{m d:Nat}{W:World}{xs:List Ex}{u:Value}(h:XsV m W xs u)(f:d<=m):XsV d W xs u:=by
 obtain⟨cs,i,g⟩:=h;exact⟨cs,zeg i f,g.weak fun b _ k=>⟨by omega,k.2⟩⟩
theorem zcd{w:World}{m:Nat}{e:TypeId}{sz k:Nat}{v:Value}{cs:List Value}(h:w.ownsRow m e sz v (k+1) cs):∃g cap,v=.slice (some ⟨g,0,none⟩) (k+1) cap/\m<=g:=by
 rcases h.2 with⟨_,j⟩|⟨g,cap,i,f,d,_⟩
 ·omega
 ·exact⟨g,cap,f,d⟩
theorem zcw{w:World}{g:Nat}{e:TypeId}{cs:List Value}(h:OwnV w g e cs){sz n cap:Nat}(i:cs.length=n*sz)(f:n<=cap)(d:cap<=9223372036854775807):Sl w sz n cs (.slice (some ⟨g,0,none⟩) n cap):=
 ⟨some ⟨g,0,none⟩,cap,rfl,f,d,i,fun _=>⟨g,0,rfl,fun j hj=>by rw[Nat.zero_add,h.cell (yD (by omega)),yD (by omega)]⟩⟩
theorem zd1:zeroE.all (fun u=>u.oneCell')=true:=rfl
theorem zez{w:World}{m g k cap:Nat}{cs:List Value}(h:w.ownsRow m 29 4 (.slice (some ⟨g,0,none⟩) (k+1) cap) (k+1) (cs++zeroE)) :
  w.cell? ⟨g,k*4,none⟩=some (.int .u8 0)/\w.cell? ⟨g,k*4+1,none⟩=some (.int .i64 0)/\w.cell? ⟨g,k*4+2,none⟩=some (.string { data:=#[] })/\w.cell? ⟨g,k*4+3,none⟩=some (.slice none 0 0):=by
 have d:cs.length=k*4:=by
  have:=h.1;rw[yA] at this;have:zeroE.length=4:=rfl;omega
 refine⟨?_,?_,?_,?_⟩
 all_goals
  rw[h.cellAt _ (by omega),List.getElem?_append_right (by omega),d];simp[zeroE]
theorem zmv(cs:List Value)(i l f g a b c d:Value)(k:Nat)(j:cs.length=k):((((cs++[i,l,f,g]).set k a).set (k+1) b).set (k+2) c).set (k+3) d=cs++[a,b,c,d]:=by
 subst j;rw[List.set_append_right _ _ (by omega),List.set_append_right _ _ (by omega),List.set_append_right _ _ (by omega),List.set_append_right _ _ (by omega)];simp
theorem zg8{w:World}{m g j cap:Nat}{cs:List Value}{q u f i:Value}(h:w.ownsRow m 29 4 (.slice (some ⟨g,0,none⟩) (j+1) cap) (j+1) (cs++[q,u,f,i]))(l:cs.length=j*4)(a b c d:Value) :
  ((((w.setCell ⟨g,j*4,none⟩ a).setCell ⟨g,j*4+1,none⟩ b).setCell ⟨g,j*4+2,none⟩ c).setCell ⟨g,j*4+3,none⟩ d).ownsRow m 29 4 (.slice (some ⟨g,0,none⟩) (j+1) cap) (j+1) (cs++[a,b,c,d]):=by
 have:=((((h.stored (j*4) a).1.stored (j*4+1) b).1.stored (j*4+2) c).1.stored (j*4+3) d).1;rwa[zmv _ _ _ _ _ _ _ _ _ _ l] at this
theorem ExsC.only{S P:Nat->Prop}{w w':World}{xs:List Ex}{cs:List Value}(h:ExsC w P xs cs)(d:Only S w w')(hS:∀b,P b->¬S b):ExsC w' P xs cs:=by
 induction h with
 | nil=>exact .nil
 | cons g1 g2 _ _ ih1 ih2=>exact .cons (d.sl g1 (g2.imp id fun k b hb=>hS b (k b hb))) g2 ih1 ih2
theorem zjE{wr d X v:World}{m p k:Nat}{u i:Value}{x:Ex}{xs:List Ex}{cs f:List Value}(F:wr.ownsRow m 29 4 u k cs)(B:ExsC wr (fun b=>m<=b/\u.ownBlock≠some b) xs cs)(D:Turns p wr d)(hp:p<m)(q:ExsC d (fun b=>wr.heap.size<=b) [x] f)(E:m<=wr.heap.size)
  (w:Below d.heap.size d X) (z:X.grownBy v u.ownBlock) (l:i.ownBlock=u.ownBlock∨∃g,i.ownBlock=some g/\X.heap.size<=g):ExsC v (fun b=>m<=b/\i.ownBlock≠some b) (xs++[x]) (cs++f):=by
 have A:ExsC d (fun b=>m<=b/\u.ownBlock≠some b) (xs++[x]) (cs++f):=(B.only D (fun b h e=>by have:=h.1;omega)).append (q.weak fun b _ h=>⟨yT E h,fun e=>by have:=(F.lt b e).2;omega⟩)
 have y:ExsC d (fun b=>(m<=b/\i.ownBlock≠some b)/\u.ownBlock≠some b) (xs++[x]) (cs++f):=A.weak fun b hlt h=>⟨⟨h.1,fun e=>by
  rcases l with j|⟨g,j,C⟩
  ·rw[j] at e;exact h.2 e
  ·rw[j] at e;cases e;have:=w.size;omega⟩,h.2⟩
 exact((y.under w (zr _)).grown z (fun b e h=>h.2 e)).weak fun b _ h=>h.1
theorem zdj{w wr y X j W7:World}{p gl g6 k f P R:Nat}{u v a b c d:Value}{l:List Tok}{x:Ex}{xs:List Ex}{cs:List Value}(C:Only (fun b=>b=p∨b=gl) w wr)(hp:p<w.heap.size)(T:gl<w.heap.size)(n3:gl≠p)(O:∀b,v.ownBlock=some b->b<w.heap.size)(H:∀b,v.ownBlock=some b->b≠gl)
  (q:wr.ownsRow w.heap.size 29 4 u k cs) (G:ExsC wr (fun b=>w.heap.size<=b/\u.ownBlock≠some b) xs cs) (B:Turns p wr y) (F:PSt y p v l P R) (J:ExsC y (fun b=>wr.heap.size<=b) [x] [a,b,c,d]) (K:OwnV y gl 27 [u])
  (Q:Below y.heap.size y X) (N:X.grownBy j u.ownBlock) (I:(Value.slice (some ⟨g6,0,none⟩) (k+1) f).ownBlock=u.ownBlock∨∃g,(Value.slice (some ⟨g6,0,none⟩) (k+1) f).ownBlock=some g/\X.heap.size<=g) (hown:j.ownsRow w.heap.size 29 4 (.slice (some ⟨g6,0,none⟩) (k+1) f) (k+1) (cs++zeroE))
  (L:W7=(((((j.setCell ⟨g6,k*4,none⟩ a).setCell ⟨g6,k*4+1,none⟩ b).setCell ⟨g6,k*4+2,none⟩ c).setCell ⟨g6,k*4+3,none⟩ d).setCell ⟨gl,0,none⟩ (.slice (some ⟨g6,0,none⟩) (k+1) f))∨W7=(((((j.setCell ⟨gl,0,none⟩ (.slice (some ⟨g6,0,none⟩) (k+1) f)).setCell ⟨g6,k*4,none⟩ a).setCell ⟨g6,k*4+1,none⟩ b).setCell ⟨g6,k*4+2,none⟩ c).setCell ⟨g6,k*4+3,none⟩ d)) :
  PSt W7 p v l P R/\OwnV W7 gl 27 [.slice (some ⟨g6,0,none⟩) (k+1) f]/\W7.ownsRow w.heap.size 29 4 (.slice (some ⟨g6,0,none⟩) (k+1) f) (k+1) (cs++[a,b,c,d])/\ExsC W7 (fun b=>w.heap.size<=b/\(Value.slice (some ⟨g6,0,none⟩) (k+1) f).ownBlock≠some b) (xs++[x]) (cs++[a,b,c,d])/\Only (fun b=>b=p∨b=gl) w W7:=by
 have M:=C.size;have E:∀g,u.ownBlock=some g->w.heap.size<=g:=fun g e=>(q.lt g e).1
 have U:w.heap.size<=g6:=(hown.lt g6 rfl).1;have z:Only (fun b=>u.ownBlock=some b) y j:=(Only.of_below Q).trans (Only.of_grown N (fun g e=>e))
 have m:Only (fun b=>b=g6∨b=gl) j W7:=by
  rcases L with rfl|rfl
  ·exact Only.setCell (Only.setCell (Only.setCell (Only.setCell (Only.setCell (Only.refl _ j) (.inr (.inl rfl)) _) (.inr (.inl rfl)) _) (.inr (.inl rfl)) _) (.inr (.inl rfl)) _) (.inr (.inr rfl)) _
  ·exact Only.setCell (Only.setCell (Only.setCell (Only.setCell (Only.setCell (Only.refl _ j) (.inr (.inr rfl)) _) (.inr (.inl rfl)) _) (.inr (.inl rfl)) _) (.inr (.inl rfl)) _) (.inr (.inl rfl)) _
 have A:cs.length=k*4:=q.1;have D:OwnV j gl 27 [u]:=z.own K (fun e=>by have:=E _ e;omega)
 refine⟨(F.only z (fun e=>by have:=E _ e;omega) (fun g e e2=>by have:=E _ e2;have:=O g e;omega)).only m (fun e=>by rcases e with e|e <;> omega) (fun g e e2=>e2.elim (fun e2=>by have:=O g e;omega) (H g e)),?_,?_,(zjE q G B hp J M Q N I).only m (fun b h e=>by
   rcases e with e|e
   ·exact h.2 (by rw[e];rfl)
   ·have:=h.1;omega),?_⟩
 ·rcases L with rfl|rfl
  ·exact((((D.set_ne (by omega) _).set_ne (by omega) _).set_ne (by omega) _).set_ne (by omega) _).set 0 _
  ·exact((((D.set 0 _).set_ne (by omega) _).set_ne (by omega) _).set_ne (by omega) _).set_ne (by omega) _
 ·rcases L with rfl|rfl
  ·exact Only.row (S:=fun b=>b=gl) (Only.setCell (Only.refl _ _) (.inr (Eq.refl gl)) _) (zg8 hown A a b c d) (fun g e e2=>by have:=(hown.lt g e).1;omega)
  ·exact zg8 (Only.row (S:=fun b=>b=gl) (Only.setCell (Only.refl _ _) (.inr (Eq.refl gl)) _) hown (fun g e e2=>by have:=(hown.lt g e).1;omega)) A a b c d
 ·exact((C.trans (B.mono fun _ _ e=>.inl e)).transNew z (fun i e=>.inr (E i e))).transNew m (fun i e=>by
   rcases e with e|e
   ·exact .inr (by omega)
   ·exact .inl (.inr e))
end Go.Proofs.YtoaojdobjinhfaaGreatDoor
