/- The program's printer: the strings.Builder, WriteString; the closure of lines. -/
import Derived.Test.YtoaojdobjinhfaaGreatDoorPrCPz
import Derived.Shelf.Strings.BuilderK
set_option linter.unusedSimpArgs false
set_option linter.unusedVariables false
set_option maxRecDepth 100000
set_option maxHeartbeats 2000000
namespace Go.Proofs.YtoaojdobjinhfaaGreatDoor
open Go.RowKit

def Bd (w : World) (B b : Nat) (bs : List UInt8) : Prop := Lib.IsBuilderF 65 5 B b (Lib.byteCells bs) w
def Kp (B b : Nat) (w w' : World) : Prop := Below B w w' /\ Lib.OthersKept 5 (some b) w w'
theorem Kp.refl(B b:Nat)(w:World):Kp B b w w:=⟨yR _ _,Lib.OthersKept.refl _ _ _⟩
theorem Kp.trans{B b:Nat}{u v w:World}(h:Kp B b u v)(k:Kp B b v w):Kp B b u w:=⟨h.1.trans k.1,h.2.trans k.2⟩
theorem Kp.of_below{B b:Nat}{w w':World}(h:Below w.heap.size w w')(g:B<=w.heap.size):Kp B b w w':=
 ⟨h.mono g,fun k o hk _ _=>by
  have f:k<w.heap.size:=by
   rcases Nat.lt_or_ge k w.heap.size with d|d
   ·exact d
   ·rw[Array.getElem?_eq_none d] at hk;cases hk
  rw[h.block k f];exact hk⟩
theorem Kp.own{B b:Nat}{w w':World}(h:Kp B b w w'){g:Nat}{e:TypeId}{vs:List Value}(i:OwnV w g e vs)(f:g≠b)(d:e≠5):OwnV w' g e vs:=
 h.2 g _ i (fun e'=>f (by cases e';rfl)) (fun c fz e'=>d (by cases e';rfl))
theorem Kp.size{B b:Nat}{w w':World}(h:Kp B b w w'):w.heap.size<=w'.heap.size:=h.1.size
theorem Bd.below{w w':World}{B b:Nat}{i:List UInt8}(h:Bd w B b i)(d:Below w.heap.size w w'):Bd w' B b i:=by
 have f:∀p,Lib.BuilderAtF 65 5 B b p (Lib.byteCells i) w->Lib.BuilderAtF 65 5 B b p (Lib.byteCells i) w':=by
  intro p hp;have m:=hp.lt;obtain⟨q,v,l,hown,j⟩:=hp;refine⟨q,v,by rw[d.block b m];exact l,?_,j⟩
  exact hown.kept (row:=none) ⟨d.os,d.tape,d.output,d.size,fun k hk _=>d.block k hk⟩ (by
   rcases h0:v.ownBlock with _|g
   ·exact .inl rfl
   ·exact .inr (by simp))
 exact h.elim (fun x=>.inl (f _ x)) (fun x=>.inr (f _ x))
theorem Bd.lt{w:World}{B b:Nat}{d:List UInt8}(h:Bd w B b d):b<w.heap.size:=h.elim (fun x=>x.lt) (fun x=>x.lt)
theorem Bd.ge{w:World}{B b:Nat}{d:List UInt8}(h:Bd w B b d):B<=b:=h.elim (fun x=>x.1) (fun x=>x.1)
theorem zlH(a b:List UInt8):Lib.byteCells a++Lib.strCells (bstr b)=Lib.byteCells (a++b):=by
 unfold Lib.byteCells Lib.strCells bstr;rw[List.map_append]
def WsE (T : List UInt8) (B b : Nat) (bs : List UInt8) (w : World) (e : Ending) (w' : World) : Prop := e = .returned (.tuple #[.int .i64 T.length, .nilIface]) /\ Bd w' B b (bs ++ T) /\ Kp B b w w'
def bldR : Go.Shelf.Ren := ⟨fun | 166 => 82 | 240 => 123 | 276 => 150 | n => n, fun | 37 => 63 | 70 => 62 | 72 => 65 | 75 => 103 | 80 => 68 | 164 => 169 | n => n, fun | n => n⟩
theorem bldL:Go.Proofs.Lays.n166 Tryz.prog bldR:={
 mixed:=by kernel_rfl
 f166:=Tryz.func82.trans (congrArg some (by kernel_rfl))
 f240:=Tryz.func123.trans (congrArg some (by kernel_rfl))
 f276:=Tryz.func150.trans (congrArg some (by kernel_rfl))
 t0:=Tryz.underlying0
 a0:=Tryz.isAgg0
 z0:=Tryz.sizeOf0
 v0:=Tryz.zeroValue0
 t3:=Tryz.underlying3
 a3:=Tryz.isAgg3
 z3:=Tryz.sizeOf3
 v3:=Tryz.zeroValue3
 t4:=Tryz.underlying4
 a4:=Tryz.isAgg4
 z4:=Tryz.sizeOf4
 v4:=Tryz.zeroValue4
 t9:=Tryz.underlying9
 a9:=Tryz.isAgg9
 z9:=Tryz.sizeOf9
 v9:=Tryz.zeroValue9
 t20:=Tryz.underlying20
 a20:=Tryz.isAgg20
 z20:=Tryz.sizeOf20
 v20:=Tryz.zeroValue20
 t37:=Tryz.underlying63
 a37:=Tryz.isAgg63
 z37:=Tryz.sizeOf63
 v37:=Tryz.zeroValue63
 t70:=Tryz.underlying62
 a70:=Tryz.isAgg62
 z70:=Tryz.sizeOf62
 v70:=Tryz.zeroValue62
 t72:=Tryz.underlying65
 a72:=Tryz.isAgg65
 z72:=Tryz.sizeOf65
 v72:=Tryz.zeroValue65
 t75:=Tryz.underlying103
 a75:=Tryz.isAgg103
 z75:=Tryz.sizeOf103
 v75:=Tryz.zeroValue103
 t164:=Tryz.underlying169
 a164:=Tryz.isAgg169
 z164:=Tryz.sizeOf169
 v164:=Tryz.zeroValue169 }
theorem zaT{w:World}{B b:Nat}{d:List UInt8}(T:List UInt8)(h:Bd w B b d)(i:B<=w.heap.size)(j:d.length+T.length<=140737488355328) :
  Calls Tryz.prog 82 #[.pointer (some ⟨b,0,none⟩),.string (bstr T)] w (WsE T B b d w):=by
 have f:(Lib.byteCells d).length=d.length:=by unfold Lib.byteCells;rw[List.length_map]
 have H:=Any.Builder_WriteString_k (L:=bldL) (X:={ sizeBuilder:=by kernel_rfl,liesBuilder:=by kernel_rfl,t5:=Tryz.underlying5,a5:=Tryz.isAgg5,z5:=Tryz.sizeOf5,v5:=Tryz.zeroValue5,infoByte:=by kernel_rfl,cellsByte:=by kernel_rfl,sizeByte:=by kernel_rfl,neB5:=by decide }) B b (Lib.byteCells d) (bstr T) w h (by rw[f,zaC];exact j) i;refine H.mono ?_;rintro e w'⟨rfl,g,m,l⟩;refine⟨by rw[zaC],.inr ?_,m,l⟩;rw[<-zlH];exact g
theorem zc4{w0 w:World}{gx B i:Nat}{v0 v1 v2 v4 v5:Value}{es:List Ex}{a:Option Addr}{cap:Nat}{y:Ex}(H:Glob w0)(z:glB<=B)(E:OwnV w gx 56 [v0,v1,v2,.slice a es.length cap,v4,v5])(u:EsL w B es (.slice a es.length cap))(j:Below B w0 w)(P:B<=w.heap.size)(hi:es[i]? = some y)(J:Shp 40 y) :
  Calls Tryz.prog 83 #[.int .i64 i,.pointer (some ⟨gx,0,none⟩)] w (TxtE (zab y) w):=by
 have C:i<es.length:=by
  rcases Nat.lt_or_ge i es.length with h|h
  ·exact h
  ·rw[List.getElem?_eq_none h] at hi;cases hi
 obtain⟨b,K,op,n,name,d,Z,V,rfl,W,M,F,R,U,L,N,g⟩:=u.at C;rw[hi] at F;cases F;have m:=zcm H z J (by omega) op n name d _ w 0 rfl j P g (by omega);rw[zaL] at m;have G:=zh m;obtain⟨T,I⟩:∃T,zab (.mk op n name d)=T:=⟨_,rfl⟩;rw[I] at G ⊢;have Q:=E.cell (i:=3) rfl;obtain⟨_,_,f,D,q⟩:=u.form;cases f;have O:(i:Int)<(es.length:Int):=by omega
 have S:(0:Int)<=(i:Int):=by omega
 clear I E u hi j g m H;go_enter Tryz.func83,Tryz.ntmps83
 go_wp2_with fail
 go_at_call 63;refine G.out.mono ?_;rintro X Y⟨rfl,l⟩;have A:=zh l;clear l R U L N Q;go_wp2_with fail
 exact yE (v:=.string (bstr T)) (by simp[results,Tryz.results83,go_sem]) rfl ⟨rfl,A.out⟩
theorem zhy(args:Array Value)(W:World):(callFunc 83 args).run Tryz.prog W=.ok (.enter 83 args) W:=(enters_of (P:=Tryz.prog) Tryz.func83 (by kernel_rfl) rfl) args W
def LnE (T : List UInt8) (B b : Nat) (bs : List UInt8) (w : World) (e : Ending) (w' : World) : Prop := e = .returned (.tuple #[]) /\ Bd w' B b (bs ++ T) /\ Kp B b w w'
def LnC (w0 : World) (B d : Nat) (l : List St) : Prop := ∀ (v : Value) (w : World) (b : Nat) (bs tabs : List UInt8), Below B w0 w -> B <= w.heap.size -> SsL w B l v -> Bd w B b bs -> tabs.length + d <= 100 -> bs.length + (zaM tabs l).length <= 100000000000000 ->
  Calls Tryz.prog 54 #[.pointer (some ⟨b, 0, none⟩), v, .string (bstr tabs)] w (LnE (zaM tabs l) B b bs w)
def BrC (w0 : World) (B d : Nat) (s : St) : Prop := ∀ (op n : Int) (name : List UInt8) (es : List Ex) (body els : List St) (ve vb vl : Value) (w : World) (b : Nat) (bs tabs : List UInt8), s = .mk op n name es body els -> Below B w0 w -> B <= w.heap.size -> EsL w B es ve -> SsL w B body vb -> SsL w B els vl -> Bd w B b bs -> tabs.length + d <= 100 -> bs.length + (oneW tabs s).length + 1 <= 100000000000000 ->
  Calls Tryz.prog 84 #[.pointer (some ⟨b, 0, none⟩), .agg #[.int .u8 op, .int .i64 n, .string (bstr name), ve, vb, vl], .string (bstr tabs)] w (LnE (oneW tabs s ++ [10]) B b bs w)
theorem zdd{w w':World}{B:Nat}{p:Addr}{v:Value}(d:Below B w w')(hp:p.block<B)(f:w.cell? p=some v):w'.cell? p=some v:=by
 rw[World.cell?_of_block (w:=w) (d.block p.block hp)];exact f
theorem znm(tabs:List UInt8)(e:Ex)(body:List St){els:List St}(h:2<=els.length):oneW tabs (.mk 4 0 [] [e] body els)=[105,102,32]++zaZ tabs e body++[32,101,108,115,101,32,123,10]++zaM (tabs++[9]) els++tabs++[125]:=by
 match els,h with
 | x::y::r,_=>exact zgG tabs e body x (y::r) (by cases x;rfl)
theorem zhz{w0 w:World}{B b d:Nat}{bs tabs:List UInt8}{e:Ex}{body els:List St}{ve vb vl:Value}(hG:Glob w0)(aG:glB<=B)(he:Shp 40 e)(M:Below B w0 w)(Q:B<=w.heap.size)(hE:EsL w B [e] ve)(P:SsL w B body vb)(O:SsL w B els vl)(A:Bd w B b bs)(aE:tabs.length+(d+1)<=100)(u:bs.length+(oneW tabs (.mk 4 0 [] [e] body els)).length+1<=100000000000000)(ad:LnC w0 B d body)(hn:els=[]) :
  Calls Tryz.prog 84 #[.pointer (some ⟨b,0,none⟩),.agg #[.int .u8 4,.int .i64 0,.string { data:=#[] },ve,vb,vl],.string (bstr tabs)] w (LnE (oneW tabs (.mk 4 0 [] [e] body els)++[10]) B b bs w):=by
 subst hn;have z:=zjx tabs e body;unfold zaZ at z;rw[z] at u ⊢;obtain⟨ae,ce,rfl,aT,aN⟩:=hE.form;obtain⟨ab,cb,rfl,aP,aM⟩:=P.form;obtain⟨al,cl,rfl,aQ,aO⟩:=O.form;obtain⟨eb,D,op,n,name,args,aa,ac,rfl,aV,aU,hy,c0,c1,c2,c3,ap⟩:=hE.at (k:=0) (by simp);cases hy;simp only[Nat.zero_mul,Nat.add_zero] at c0 c1 c2 c3;have W:=zcm hG aG he (by omega);have aA:∀k,(zak (.mk op n name args) k).length<=1000000000000000:=zaE he (by omega);have C:=aA 1;rw[zaL] at C;obtain⟨W0,ag,f,R⟩:∃W0,W0=w.alloc (.cells #[.int .u8 4,.int .i64 0,.string { data:=#[] },.slice (some ⟨eb,D,none⟩) 1 ce,.slice ab body.length cb,.slice al 0 cl] 56)/\Below w.heap.size w W0/\OwnV W0 w.heap.size 56 [.int .u8 4,.int .i64 0,.string { data:=#[] },.slice (some ⟨eb,D,none⟩) 1 ce,.slice ab body.length cb,.slice al 0 cl]:=⟨_,rfl,(yR _ _).alloc (zr _) _,OwnV.new _ _ _⟩;have hC:=W op n name args _ W0 0 rfl (M.trans (f.mono Q)) (yT Q f.size) (ap.low (f.mono Q)) (by omega);rw[zaL] at hC;obtain⟨E,au⟩:∃T,zab (.mk op n name args)=T:=⟨_,rfl⟩;rw[au] at hC C u ⊢;have HC:=zh hC;have a4:(bstr E).size<=1000000000000000:=by rw[zaC];exact C
 have a0:(bstr tabs).size<=100:=by rw[zaC];omega
 have V:=zh ad;have d0:=Below.keep f c0;have d1:=Below.keep f c1;have d2:=Below.keep f c2;have d3:=Below.keep f c3;have x3:=R.cell (i:=3) rfl;have aL:=zh ag;have ak:=zh R;have ah:=zh (Kp.of_below (b:=b) f Q);have aC:=zh (A.below f);have av:=zh (M.trans (f.mono Q));have Y:=zh (P.low (f.mono Q));have af:=zh (O.low (f.mono Q));have aZ:=f.size;have aX:=A.lt;have a3:=A.ge;have q:=zh u;have aS:tabs.length+d<=99:=by omega
 have ar:(tabs++[9]).length+d<=100:=by rw[yA];show tabs.length+1+d<=100;omega
 clear ag R f hE P O A M ap hC W he c0 c1 c2 c3 u ad aA au z hG C aE;go_enter Tryz.func84,Tryz.ntmps84
 go_upto_region 1 with(fail)
 rw[<-aL.out];go_wp2_with fail
 go_at_call 63;refine HC.out.mono ?_;rintro e1 w1⟨rfl,j⟩;have a1:=j.size;have aj:=zh (ah.out.trans (Kp.of_below (b:=b) j (by omega)));have X:=zh (aC.out.below j);have aD:=zh (ak.out.below j (zr _));have aw:=zh (av.out.trans (j.mono (by omega)));have H:=zh (Y.out.low (j.mono (by omega)));have F:=zh (af.out.low (j.mono (by omega)));have S:bstr ([105,102,32,40]++E++[41,32,123,10])=(({ data:=#[105,102,32,40] }:ByteArray)++bstr E)++{ data:=#[41,32,123,10] }:=by rw[<-zax,<-zax];rfl
 have g:=zaT ([105,102,32,40]++E++[41,32,123,10]) X.out (by omega) (by have:=q.out;simp only[zaZ,yA,yB,yL] at this ⊢;omega);rw[S] at g;have l:=zh g;clear j HC ah aC ak av Y af d0 d1 d2 d3 x3 g S
 generalize bstr E=SE at *
 go_wp2_with fail
 go_at_call 82;refine l.out.mono ?_;rintro e2 w2⟨rfl,ay,m⟩;have aW:=m.size;have am:=zh (aj.out.trans m);have N:=zh (m.own aD.out (by omega) (by decide));have K:=zh (aw.out.trans m.1);have I:=zh (H.out.low m.1);have J:=zh (F.out.low m.1);have L:=V.out _ w2 b _ (tabs++[9]) K.out (by omega) I.out ay ar (by have:=q.out;simp only[zaZ,yA,yB,yL] at this ⊢;omega);rw[show bstr (tabs++[9])=bstr tabs++{ data:=#[9] } from(zax tabs [9]).symm] at L;have aq:=zh L;have x4:=N.out.cell (i:=4) rfl;clear ay m L l aj X aD aw H F V;go_wp2_with fail
 go_at_call 54;refine aq.out.mono ?_;rintro e3 w3⟨rfl,Z,v⟩;have a5:=v.size;have ao:=zh (am.out.trans v);have az:=zh (v.own N.out (by omega) (by decide));have an:=zh (K.out.trans v.1);have G:=zh (J.out.low v.1);have g:=zaT (tabs++[125]) Z (by omega) (by have:=q.out;simp only[zaZ,yA,yB,yL] at this ⊢;omega);rw[show bstr (tabs++[125])=bstr tabs++{ data:=#[125] } from(zax tabs [125]).symm] at g;have l:=zh g;clear Z v g x4 aq am N K I J;go_wp2_with fail
 go_at_call 82;refine l.out.mono ?_;rintro e4 w4⟨rfl,ax,y⟩;have a2:=y.size;have aK:=zh (ao.out.trans y);have aF:=zh (y.own az.out (by omega) (by decide));have aY:=zh (an.out.trans y.1);have aR:=zh (G.out.low y.1);have aH:=zh ax;have x5:=aF.out.cell (i:=5) rfl;clear ax y l ao az an G;have g:=zaT [10] aH.out (by omega) (by have:=q.out;simp only[zaZ,yA,yB,yL] at this ⊢;omega);have l:=zh (show Calls Tryz.prog 82 #[.pointer (some ⟨b,0,none⟩),.string { data:=#[10] }] w4 _ from g);clear g;go_wp2_with fail
 go_at_call 82;refine l.out.mono ?_;rintro e5 w5⟨rfl,ai,U⟩;have aJ:=zh ai;have aI:=zh (aK.out.trans U);clear ai U l;go_wp2_with fail
 refine yE (results_none rfl _ _ _) rfl ⟨rfl,?_,aI.out⟩;have:=aJ.out;simp only[zaZ,List.append_assoc,List.cons_append,List.nil_append] at this ⊢;exact this
theorem zjg{w0 w:World}{B b d:Nat}{bs tabs:List UInt8}{e:Ex}{body els:List St}{ve vb vl:Value}(hG:Glob w0)(aY:glB<=B)(he:Shp 40 e)(Y:Below B w0 w)(hB:B<=w.heap.size)(hE:EsL w B [e] ve)(af:SsL w B body vb)(ad:SsL w B els vl)(J:Bd w B b bs)(aX:tabs.length+(d+1)<=100)(z:bs.length+(oneW tabs (.mk 4 0 [] [e] body els)).length+1<=100000000000000)(aq:LnC w0 B d body){n2:Int}{H:List UInt8}{G:List Ex}{L I:List St}(hn:els=[.mk 4 n2 H G L I])(am:BrC w0 B d (.mk 4 n2 H G L I)) :
  Calls Tryz.prog 84 #[.pointer (some ⟨b,0,none⟩),.agg #[.int .u8 4,.int .i64 0,.string { data:=#[] },ve,vb,vl],.string (bstr tabs)] w (LnE (oneW tabs (.mk 4 0 [] [e] body els)++[10]) B b bs w):=by
 subst hn;have F:=zjy tabs e body (.mk 4 n2 H G L I) rfl;unfold zaZ at F;rw[F] at z ⊢;obtain⟨ae,ce,rfl,bf,a7⟩:=hE.form;obtain⟨ab,cb,rfl,ba,a5⟩:=af.form;obtain⟨al,cl,rfl,bb,a8⟩:=ad.form;obtain⟨eb,M,op,n,name,args,aa,ac,rfl,bj,bg,hy,c0,c1,c2,c3,aJ⟩:=hE.at (k:=0) (by simp);cases hy;simp only[Nat.zero_mul,Nat.add_zero] at c0 c1 c2 c3;have aj:=zcm hG aY he (by omega);have aT:∀k,(zak (.mk op n name args) k).length<=1000000000000000:=zaE he (by omega);have K:=aT 1;rw[zaL] at K;obtain⟨W0,av,g,ag⟩:∃W0,W0=w.alloc (.cells #[.int .u8 4,.int .i64 0,.string { data:=#[] },.slice (some ⟨eb,M,none⟩) 1 ce,.slice ab body.length cb,.slice al 1 cl] 56)/\Below w.heap.size w W0/\OwnV W0 w.heap.size 56 [.int .u8 4,.int .i64 0,.string { data:=#[] },.slice (some ⟨eb,M,none⟩) 1 ce,.slice ab body.length cb,.slice al 1 cl]:=⟨_,rfl,(yR _ _).alloc (zr _) _,OwnV.new _ _ _⟩;have hC:=aj op n name args _ W0 0 rfl (Y.trans (g.mono hB)) (yT hB g.size) (aJ.low (g.mono hB)) (by omega);rw[zaL] at hC;obtain⟨E,aM⟩:∃T,zab (.mk op n name args)=T:=⟨_,rfl⟩;rw[aM] at hC K z ⊢;have HC:=zh hC;have bE:(bstr E).size<=1000000000000000:=by rw[zaC];exact K
 have bv:(bstr tabs).size<=100:=by rw[zaC];omega
 have ai:=zh aq;have ar:=zh am;have d0:=Below.keep g c0;have d1:=Below.keep g c1;have d2:=Below.keep g c2;have d3:=Below.keep g c3;have x3:=ag.cell (i:=3) rfl;have a4:=zh av;have aD:=zh ag;have ax:=zh (Kp.of_below (b:=b) g hB);have aU:=zh (J.below g);have aN:=zh (Y.trans (g.mono hB));have an:=zh (af.low (g.mono hB));have au:=zh (ad.low (g.mono hB));have bt:=g.size;have bq:=J.lt;have bD:=J.ge;have m:=zh z;have bd:tabs.length+d<=99:=by omega
 have aL:(tabs++[9]).length+d<=100:=by rw[yA];show tabs.length+1+d<=100;omega
 clear av ag g hE af ad J Y aJ hC aj he c0 c1 c2 c3 z aq aT aM F hG K aX am;go_enter Tryz.func84,Tryz.ntmps84
 go_upto_region 1 with(fail)
 rw[<-a4.out];go_wp2_with fail
 go_at_call 63;refine HC.out.mono ?_;rintro e1 w1⟨rfl,q⟩;have bz:=q.size;have aC:=zh (ax.out.trans (Kp.of_below (b:=b) q (by omega)));have ak:=zh (aU.out.below q);have aV:=zh (aD.out.below q (zr _));have aO:=zh (aN.out.trans (q.mono (by omega)));have R:=zh (an.out.low (q.mono (by omega)));have O:=zh (au.out.low (q.mono (by omega)));have ah:bstr ([105,102,32,40]++E++[41,32,123,10])=(({ data:=#[105,102,32,40] }:ByteArray)++bstr E)++{ data:=#[41,32,123,10] }:=by rw[<-zax,<-zax];rfl
 have j:=zaT ([105,102,32,40]++E++[41,32,123,10]) ak.out (by omega) (by have:=m.out;simp only[zaZ,yA,yB,yL] at this ⊢;omega);rw[ah] at j;have u:=zh j;clear q HC ax aU aD aN an au d0 d1 d2 d3 x3 j ah
 generalize bstr E=SE at *
 go_wp2_with fail
 go_at_call 82;refine u.out.mono ?_;rintro e2 w2⟨rfl,aQ,v⟩;have bn:=v.size;have aE:=zh (aC.out.trans v);have Z:=zh (v.own aV.out (by omega) (by decide));have W:=zh (aO.out.trans v.1);have y:=zh (R.out.low v.1);have A:=zh (O.out.low v.1);have X:=ai.out _ w2 b _ (tabs++[9]) W.out (by omega) y.out aQ aL (by have:=m.out;simp only[zaZ,yA,yB,yL] at this ⊢;omega);rw[show bstr (tabs++[9])=bstr tabs++{ data:=#[9] } from(zax tabs [9]).symm] at X;have aK:=zh X;have x4:=Z.out.cell (i:=4) rfl;clear aQ v X u aC ak aV aO R O ai;go_wp2_with fail
 go_at_call 54;refine aK.out.mono ?_;rintro e3 w3⟨rfl,ao,C⟩;have bF:=C.size;have aH:=zh (aE.out.trans C);have aS:=zh (C.own Z.out (by omega) (by decide));have aG:=zh (W.out.trans C.1);have Q:=zh (A.out.low C.1);have j:=zaT (tabs++[125]) ao (by omega) (by have:=m.out;simp only[zaZ,yA,yB,yL] at this ⊢;omega);rw[show bstr (tabs++[125])=bstr tabs++{ data:=#[125] } from(zax tabs [125]).symm] at j;have u:=zh j;clear ao C j x4 aK aE Z W y A;go_wp2_with fail
 go_at_call 82;refine u.out.mono ?_;rintro e4 w4⟨rfl,aP,D⟩;have bC:=D.size;have aF:=zh (aH.out.trans D);have V:=zh (D.own aS.out (by omega) (by decide));have a0:=zh (aG.out.trans D.1);have az:=zh (Q.out.low D.1);have ay:=zh aP;have x5:=V.out.cell (i:=5) rfl;clear aP D u aH aS aG Q;obtain⟨lb,bi,bx,bA,a9,a6,bh,be,bJ,bu,bK,bp,al2,bG,rfl,l,bc,a3,g0,g1,g2,g3,g4,g5,S,U,N⟩:=az.out.at (k:=0) (by simp);cases a3;simp only[Nat.zero_mul,Nat.add_zero] at g0 g1 g2 g3 g4 g5;have j:=zaT [32,101,108,115,101,32] ay.out (by omega) (by have:=m.out;simp only[yA,yB,yL] at this ⊢;omega);have u:=zh (show Calls Tryz.prog 82 #[.pointer (some ⟨b,0,none⟩),.string { data:=#[32,101,108,115,101,32] }] w4 _ from j);have aw:=zh S;have y:=zh U;have A:=zh N;clear j S U N;go_wp2_with fail
 go_at_call 82;refine u.out.mono ?_;rintro e5 w5⟨rfl,aA,f⟩;have bw:=f.size;have a2:=zh (aF.out.trans f);have aZ:=zh (f.own V.out (by omega) (by decide));have bL:=zdd f.1 l g0;have bm:=zdd f.1 l g1;have bH:=zdd f.1 l g2;have bo:=zdd f.1 l g3;have bM:=zdd f.1 l g4;have br:=zdd f.1 l g5;have aI:=ar.out 4 n2 H G L I _ _ _ w5 b _ tabs rfl (a0.out.trans f.1) (by omega) (aw.out.low f.1) (y.out.low f.1) (A.out.low f.1) aA (by omega) (by have:=m.out;simp only[yA,yB,yL] at this ⊢;omega);have P:=zh aI;have x5:=aZ.out.cell (i:=5) rfl;clear aA f u aI ar g0 g1 g2 g3 g4 g5 V aF ay;go_wp2_with fail
 go_at_call 84;refine P.out.mono ?_;rintro e6 w6⟨rfl,aR,ap⟩;have a1:=zh aR;have aW:=zh (a2.out.trans ap);clear aR ap P;go_wp2_with fail
 refine yE (results_none rfl _ _ _) rfl ⟨rfl,?_,aW.out⟩;have:=a1.out;simp only[List.append_assoc,List.cons_append,List.nil_append] at this ⊢;exact this
theorem zgP{w0 w:World}{B b d:Nat}{bs tabs:List UInt8}{e:Ex}{body els:List St}{ve vb vl:Value}(hG:Glob w0)(aY:glB<=B)(he:Shp 40 e)(S:Below B w0 w)(hB:B<=w.heap.size)(hE:EsL w B [e] ve)(Y:SsL w B body vb)(X:SsL w B els vl)(C:Bd w B b bs)(aX:tabs.length+(d+1)<=100)(u:bs.length+(oneW tabs (.mk 4 0 [] [e] body els)).length+1<=100000000000000)(ao:LnC w0 B d body){o2 n2:Int}{V:List UInt8}{Q:List Ex}{ad W:List St}(hn:els=[.mk o2 n2 V Q ad W])(aC:o2≠4)(ap:LnC w0 B d [.mk o2 n2 V Q ad W]) :
  Calls Tryz.prog 84 #[.pointer (some ⟨b,0,none⟩),.agg #[.int .u8 4,.int .i64 0,.string { data:=#[] },ve,vb,vl],.string (bstr tabs)] w (LnE (oneW tabs (.mk 4 0 [] [e] body els)++[10]) B b bs w):=by
 subst hn;have A:=zgG tabs e body (.mk o2 n2 V Q ad W) [] (by simpa[zdM] using aC);unfold zaZ at A;rw[A] at u ⊢;obtain⟨ae,ce,rfl,bf,a6⟩:=hE.form;obtain⟨ab,cb,rfl,a9,a4⟩:=Y.form;obtain⟨al,cl,rfl,bb,a7⟩:=X.form;obtain⟨eb,F,op,n,name,args,aa,ac,rfl,bj,bg,hy,c0,c1,c2,c3,aJ⟩:=hE.at (k:=0) (by simp);cases hy;simp only[Nat.zero_mul,Nat.add_zero] at c0 c1 c2 c3;have ai:=zcm hG aY he (by omega);have aT:∀k,(zak (.mk op n name args) k).length<=1000000000000000:=zaE he (by omega);have D:=aT 1;rw[zaL] at D;obtain⟨W0,au,g,af⟩:∃W0,W0=w.alloc (.cells #[.int .u8 4,.int .i64 0,.string { data:=#[] },.slice (some ⟨eb,F,none⟩) 1 ce,.slice ab body.length cb,.slice al 1 cl] 56)/\Below w.heap.size w W0/\OwnV W0 w.heap.size 56 [.int .u8 4,.int .i64 0,.string { data:=#[] },.slice (some ⟨eb,F,none⟩) 1 ce,.slice ab body.length cb,.slice al 1 cl]:=⟨_,rfl,(yR _ _).alloc (zr _) _,OwnV.new _ _ _⟩;have hC:=ai op n name args _ W0 0 rfl (S.trans (g.mono hB)) (yT hB g.size) (aJ.low (g.mono hB)) (by omega);rw[zaL] at hC;obtain⟨E,aM⟩:∃T,zab (.mk op n name args)=T:=⟨_,rfl⟩;rw[aM] at hC D u ⊢;have HC:=zh hC;have bD:(bstr E).size<=1000000000000000:=by rw[zaC];exact D
 have bu:(bstr tabs).size<=100:=by rw[zaC];omega
 have ah:=zh ao;have aE:=zh ap;have d0:=Below.keep g c0;have d1:=Below.keep g c1;have d2:=Below.keep g c2;have d3:=Below.keep g c3;have x3:=af.cell (i:=3) rfl;have a3:=zh au;have aD:=zh af;have av:=zh (Kp.of_below (b:=b) g hB);have aU:=zh (C.below g);have aN:=zh (S.trans (g.mono hB));have ak:=zh (Y.low (g.mono hB));have ar:=zh (X.low (g.mono hB));have bq:=g.size;have bo:=C.lt;have bC:=C.ge;have l:=zh u;have bd:tabs.length+d<=99:=by omega
 have L:(tabs++[9]).length+d<=100:=by rw[yA];show tabs.length+1+d<=100;omega
 clear au af g hE Y X C S aJ hC ai he c0 c1 c2 c3 u ao aT aM A hG D aX ap;go_enter Tryz.func84,Tryz.ntmps84
 go_upto_region 1 with(fail)
 rw[<-a3.out];go_wp2_with fail
 go_at_call 63;refine HC.out.mono ?_;rintro e1 w1⟨rfl,m⟩;have bx:=m.size;have aA:=zh (av.out.trans (Kp.of_below (b:=b) m (by omega)));have aj:=zh (aU.out.below m);have aV:=zh (aD.out.below m (zr _));have aO:=zh (aN.out.trans (m.mono (by omega)));have J:=zh (ak.out.low (m.mono (by omega)));have G:=zh (ar.out.low (m.mono (by omega)));have ag:bstr ([105,102,32,40]++E++[41,32,123,10])=(({ data:=#[105,102,32,40] }:ByteArray)++bstr E)++{ data:=#[41,32,123,10] }:=by rw[<-zax,<-zax];rfl
 have f:=zaT ([105,102,32,40]++E++[41,32,123,10]) aj.out (by omega) (by have:=l.out;simp only[zaZ,yA,yB,yL] at this ⊢;omega);rw[ag] at f;have j:=zh f;clear m HC av aU aD aN ak ar d0 d1 d2 d3 x3 f ag
 generalize bstr E=SE at *
 go_wp2_with fail
 go_at_call 82;refine j.out.mono ?_;rintro e2 w2⟨rfl,aQ,q⟩;have bm:=q.size;have aF:=zh (aA.out.trans q);have U:=zh (q.own aV.out (by omega) (by decide));have O:=zh (aO.out.trans q.1);have K:=zh (J.out.low q.1);have M:=zh (G.out.low q.1);have P:=ah.out _ w2 b _ (tabs++[9]) O.out (by omega) K.out aQ L (by have:=l.out;simp only[zaZ,yA,yB,yL] at this ⊢;omega);rw[show bstr (tabs++[9])=bstr tabs++{ data:=#[9] } from(zax tabs [9]).symm] at P;have aK:=zh P;have x4:=U.out.cell (i:=4) rfl;clear aQ q P j aA aj aV aO J G ah;go_wp2_with fail
 go_at_call 54;refine aK.out.mono ?_;rintro e3 w3⟨rfl,an,y⟩;have bE:=y.size;have aI:=zh (aF.out.trans y);have aS:=zh (y.own U.out (by omega) (by decide));have aH:=zh (O.out.trans y.1);have I:=zh (M.out.low y.1);have f:=zaT (tabs++[125]) an (by omega) (by have:=l.out;simp only[zaZ,yA,yB,yL] at this ⊢;omega);rw[show bstr (tabs++[125])=bstr tabs++{ data:=#[125] } from(zax tabs [125]).symm] at f;have j:=zh f;clear an y f x4 aK aF U O K M;go_wp2_with fail
 go_at_call 82;refine j.out.mono ?_;rintro e4 w4⟨rfl,aP,z⟩;have bA:=z.size;have aG:=zh (aI.out.trans z);have N:=zh (z.own aS.out (by omega) (by decide));have a1:=zh (aH.out.trans z.1);have H:=zh (I.out.low z.1);have aw:=zh aP;have x5:=N.out.cell (i:=5) rfl;clear aP z j aI aS aH I;obtain⟨lb,bi,bw,bz,a8,a5,bh,be,bG,bt,bH,bn,al2,bF,rfl,ba,bc,a2,g0,-,-,-,-,-,-,-,-⟩:=H.out.at (k:=0) (by simp);cases a2;simp only[Nat.zero_mul,Nat.add_zero] at g0;have bp:(o2==4)=false:=by simpa using aC
 have f:=zaT [32,101,108,115,101,32,123,10] aw.out (by omega) (by have:=l.out;simp only[yA,yB,yL] at this ⊢;omega);have j:=zh (show Calls Tryz.prog 82 #[.pointer (some ⟨b,0,none⟩),.string { data:=#[32,101,108,115,101,32,123,10] }] w4 _ from f);clear f;go_wp2_with fail
 go_at_call 82;refine j.out.mono ?_;rintro e5 w5⟨rfl,az,v⟩;have bv:=v.size;have ay:=zh (aG.out.trans v);have aq:=zh (v.own N.out (by omega) (by decide));have Z:=aE.out _ w5 b _ (tabs++[9]) (a1.out.trans v.1) (by omega) (H.out.low v.1) az L (by have:=l.out;simp only[yA,yB,yL] at this ⊢;omega);rw[show bstr (tabs++[9])=bstr tabs++{ data:=#[9] } from(zax tabs [9]).symm] at Z;have ax:=zh Z;have x5:=aq.out.cell (i:=5) rfl;clear az v j Z aE N aG aw;go_wp2_with fail
 go_at_call 54;refine ax.out.mono ?_;rintro e6 w6⟨rfl,aR,R⟩;have br:=R.size;have aW:=zh (ay.out.trans R);have f:=zaT (tabs++[125,10]) aR (by omega) (by have:=l.out;simp only[yA,yB,yL] at this ⊢;omega);rw[show bstr (tabs++[125,10])=bstr tabs++{ data:=#[125,10] } from(zax tabs [125,10]).symm] at f;have j:=zh f;clear aR R ax f x5 ay aq;go_wp2_with fail
 go_at_call 82;refine j.out.mono ?_;rintro e7 w7⟨rfl,aL,am⟩;have a0:=zh aL;have aZ:=zh (aW.out.trans am);clear aL am j;go_wp2_with fail
 refine yE (results_none rfl _ _ _) rfl ⟨rfl,?_,aZ.out⟩;have:=a0.out;simp only[List.append_assoc,List.cons_append,List.nil_append] at this ⊢;exact this
theorem zgQ{w0 w:World}{B b d:Nat}{bs tabs:List UInt8}{e:Ex}{body els:List St}{ve vb vl:Value}(hG:Glob w0)(aV:glB<=B)(he:Shp 40 e)(Q:Below B w0 w)(W:B<=w.heap.size)(hE:EsL w B [e] ve)(U:SsL w B body vb)(S:SsL w B els vl)(C:Bd w B b bs)(aT:tabs.length+(d+1)<=100)(u:bs.length+(oneW tabs (.mk 4 0 [] [e] body els)).length+1<=100000000000000)(aj:LnC w0 B d body)(h2:2<=els.length)(ak:LnC w0 B d els) :
  Calls Tryz.prog 84 #[.pointer (some ⟨b,0,none⟩),.agg #[.int .u8 4,.int .i64 0,.string { data:=#[] },ve,vb,vl],.string (bstr tabs)] w (LnE (oneW tabs (.mk 4 0 [] [e] body els)++[10]) B b bs w):=by
 have A:=znm tabs e body h2;unfold zaZ at A;rw[A] at u ⊢;obtain⟨ae,ce,rfl,a7,a2⟩:=hE.form;obtain⟨ab,cb,rfl,a4,a1⟩:=U.form;obtain⟨al,cl,rfl,a5,a3⟩:=S.form;obtain⟨eb,F,op,n,name,args,aa,ac,rfl,bb,a9,hy,c0,c1,c2,c3,aF⟩:=hE.at (k:=0) (by simp);cases hy;simp only[Nat.zero_mul,Nat.add_zero] at c0 c1 c2 c3;have ad:=zcm hG aV he (by omega);have aP:∀k,(zak (.mk op n name args) k).length<=1000000000000000:=zaE he (by omega);have D:=aP 1;rw[zaL] at D;obtain⟨W0,ao,g,X⟩:∃W0,W0=w.alloc (.cells #[.int .u8 4,.int .i64 0,.string { data:=#[] },.slice (some ⟨eb,F,none⟩) 1 ce,.slice ab body.length cb,.slice al els.length cl] 56)/\Below w.heap.size w W0/\OwnV W0 w.heap.size 56 [.int .u8 4,.int .i64 0,.string { data:=#[] },.slice (some ⟨eb,F,none⟩) 1 ce,.slice ab body.length cb,.slice al els.length cl]:=⟨_,rfl,(yR _ _).alloc (zr _) _,OwnV.new _ _ _⟩;have hC:=ad op n name args _ W0 0 rfl (Q.trans (g.mono W)) (yT W g.size) (aF.low (g.mono W)) (by omega);rw[zaL] at hC;obtain⟨E,aI⟩:∃T,zab (.mk op n name args)=T:=⟨_,rfl⟩;rw[aI] at hC D u ⊢;have HC:=zh hC;have bn:(bstr E).size<=1000000000000000:=by rw[zaC];exact D
 have bg:(bstr tabs).size<=100:=by rw[zaC];omega
 have Z:=zh aj;have az:=zh ak;have d0:=Below.keep g c0;have d1:=Below.keep g c1;have d2:=Below.keep g c2;have d3:=Below.keep g c3;have x3:=X.cell (i:=3) rfl;have a0:=zh ao;have ay:=zh X;have ap:=zh (Kp.of_below (b:=b) g W);have aQ:=zh (C.below g);have aJ:=zh (Q.trans (g.mono W));have ag:=zh (U.low (g.mono W));have an:=zh (S.low (g.mono W));have be:=g.size;have bd:=C.lt;have bm:=C.ge;have l:=zh u;have a6:tabs.length+d<=99:=by omega
 have K:(tabs++[9]).length+d<=100:=by rw[yA];show tabs.length+1+d<=100;omega
 clear ao X g hE U S C Q aF hC ad he c0 c1 c2 c3 u aj aP aI A hG D aT ak;go_enter Tryz.func84,Tryz.ntmps84
 go_upto_region 1 with(fail)
 rw[<-a0.out];go_wp2_with fail
 go_at_call 63;refine HC.out.mono ?_;rintro e1 w1⟨rfl,m⟩;have bi:=m.size;have ax:=zh (ap.out.trans (Kp.of_below (b:=b) m (by omega)));have af:=zh (aQ.out.below m);have aR:=zh (ay.out.below m (zr _));have aK:=zh (aJ.out.trans (m.mono (by omega)));have I:=zh (ag.out.low (m.mono (by omega)));have G:=zh (an.out.low (m.mono (by omega)));have Y:bstr ([105,102,32,40]++E++[41,32,123,10])=(({ data:=#[105,102,32,40] }:ByteArray)++bstr E)++{ data:=#[41,32,123,10] }:=by rw[<-zax,<-zax];rfl
 have f:=zaT ([105,102,32,40]++E++[41,32,123,10]) af.out (by omega) (by have:=l.out;simp only[zaZ,yA,yB,yL] at this ⊢;omega);rw[Y] at f;have j:=zh f;clear m HC ap aQ ay aJ ag an d0 d1 d2 d3 x3 f Y
 generalize bstr E=SE at *
 go_wp2_with fail
 go_at_call 82;refine j.out.mono ?_;rintro e2 w2⟨rfl,aM,q⟩;have bc:=q.size;have aA:=zh (ax.out.trans q);have R:=zh (q.own aR.out (by omega) (by decide));have N:=zh (aK.out.trans q.1);have J:=zh (I.out.low q.1);have L:=zh (G.out.low q.1);have O:=Z.out _ w2 b _ (tabs++[9]) N.out (by omega) J.out aM K (by have:=l.out;simp only[zaZ,yA,yB,yL] at this ⊢;omega);rw[show bstr (tabs++[9])=bstr tabs++{ data:=#[9] } from(zax tabs [9]).symm] at O;have aG:=zh O;have x4:=R.out.cell (i:=4) rfl;clear aM q O j ax af aR aK I G Z;go_wp2_with fail
 go_at_call 54;refine aG.out.mono ?_;rintro e3 w3⟨rfl,ai,y⟩;have bo:=y.size;have aE:=zh (aA.out.trans y);have aO:=zh (y.own R.out (by omega) (by decide));have aD:=zh (N.out.trans y.1);have H:=zh (L.out.low y.1);have f:=zaT (tabs++[125]) ai (by omega) (by have:=l.out;simp only[zaZ,yA,yB,yL] at this ⊢;omega);rw[show bstr (tabs++[125])=bstr tabs++{ data:=#[125] } from(zax tabs [125]).symm] at f;have j:=zh f;clear ai y f x4 aG aA R N J L;go_wp2_with fail
 go_at_call 82;refine j.out.mono ?_;rintro e4 w4⟨rfl,aL,z⟩;have bj:=z.size;have aC:=zh (aE.out.trans z);have M:=zh (z.own aO.out (by omega) (by decide));have aY:=zh (aD.out.trans z.1);have au:=zh (H.out.low z.1);have aq:=zh aL;have x5:=M.out.cell (i:=5) rfl;clear aL z j aE aO aD H;have aU:¬((els.length:Int)=1):=by omega
 have aZ:¬((els.length:Int)=0):=by omega
 have a8:((els.length:Int)==1)=false:=by simpa using aU
 have ba:((els.length:Int)==0)=false:=by simpa using aZ
 have f:=zaT [32,101,108,115,101,32,123,10] aq.out (by omega) (by have:=l.out;simp only[yA,yB,yL] at this ⊢;omega);have j:=zh (show Calls Tryz.prog 82 #[.pointer (some ⟨b,0,none⟩),.string { data:=#[32,101,108,115,101,32,123,10] }] w4 _ from f);clear f;go_wp2_with fail
 go_at_call 82;refine j.out.mono ?_;rintro e5 w5⟨rfl,aw,v⟩;have bh:=v.size;have av:=zh (aC.out.trans v);have am:=zh (v.own M.out (by omega) (by decide));have V:=az.out _ w5 b _ (tabs++[9]) (aY.out.trans v.1) (by omega) (au.out.low v.1) aw K (by have:=l.out;simp only[yA,yB,yL] at this ⊢;omega);rw[show bstr (tabs++[9])=bstr tabs++{ data:=#[9] } from(zax tabs [9]).symm] at V;have ar:=zh V;have x5:=am.out.cell (i:=5) rfl;clear aw v j V az M aC aq;go_wp2_with fail
 go_at_call 54;refine ar.out.mono ?_;rintro e6 w6⟨rfl,aN,P⟩;have bf:=P.size;have aS:=zh (av.out.trans P);have f:=zaT (tabs++[125,10]) aN (by omega) (by have:=l.out;simp only[yA,yB,yL] at this ⊢;omega);rw[show bstr (tabs++[125,10])=bstr tabs++{ data:=#[125,10] } from(zax tabs [125,10]).symm] at f;have j:=zh f;clear aN P ar f x5 av am;go_wp2_with fail
 go_at_call 82;refine j.out.mono ?_;rintro e7 w7⟨rfl,aH,ah⟩;have aX:=zh aH;have aW:=zh (aS.out.trans ah);clear aH ah j;go_wp2_with fail
 refine yE (results_none rfl _ _ _) rfl ⟨rfl,?_,aW.out⟩;have:=aX.out;simp only[List.append_assoc,List.cons_append,List.nil_append] at this ⊢;exact this
end Go.Proofs.YtoaojdobjinhfaaGreatDoor
