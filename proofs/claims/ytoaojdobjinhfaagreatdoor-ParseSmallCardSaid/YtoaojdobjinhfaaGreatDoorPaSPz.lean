/- The program's parser: rows of statements as values; what is read moves on. No walk in it. -/
import Derived.Test.YtoaojdobjinhfaaGreatDoorPaHPz
set_option linter.unusedSimpArgs false
set_option linter.unusedVariables false
set_option maxRecDepth 100000
set_option maxHeartbeats 4000000
namespace Go.Proofs.YtoaojdobjinhfaaGreatDoor
open Go.RowKit

def zeroT : List Value := [.int .u8 0, .int .i64 0, .string { data := #[] }, .slice none 0 0, .slice none 0 0, .slice none 0 0]
def StN (m : Nat) (W : World) (x : St) (u : Value) : Prop := StV W (fun b => m <= b) x u
def TsV (m : Nat) (W : World) (xs : List St) (u : Value) : Prop := ∃ cs, W.ownsRow m 56 6 u xs.length cs /\ StsC W (fun b => m <= b /\ u.ownBlock ≠ some b) xs cs
def TsBox (m gl : Nat) (W : World) (xs : List St) : Prop := ∃ u, OwnV W gl 24 [u] /\ TsV m W xs u
def StBox (m gx : Nat) (W : World) (x : St) : Prop := ∃ cs, OwnV W gx 56 cs /\ StsC W (fun b => m <= b /\ b ≠ gx) [x] cs
theorem StsC.only{S P:Nat->Prop}{w w':World}{xs:List St}{cs:List Value}(h:StsC w P xs cs)(d:Only S w w')(hS:∀b,P b->¬S b):StsC w' P xs cs:=by
 induction h with
 | nil=>exact .nil
 | cons g1 g2 g3 b1 b2 _ l1 l2 _ _ ih1 ih2 ih3=>exact .cons (d.sl g1 (g2.imp id fun k b hb=>hS b (k b hb))) g2 (g3.only d hS) (d.sl b1 (b2.imp id fun k b hb=>hS b (k b hb))) b2 ih1 (d.sl l1 (l2.imp id fun k b hb=>hS b (k b hb))) l2 ih2 ih3
theorem TsV.only{S:Nat->Prop}{m:Nat}{W f:World}{xs:List St}{u:Value}(h:TsV m W xs u)(d:Only S W f)(hS:∀b,S b->b<m):TsV m f xs u:=by
 obtain⟨cs,i,j⟩:=h;exact⟨cs,d.row i (fun g hg hs=>by have:=(i.lt g hg).1;have:=hS g hs;omega),j.only d (fun b hb hs=>by have:=hb.1;have:=hS b hs;omega)⟩
theorem TsBox.turns{m gl p:Nat}{W d:World}{xs:List St}(h:TsBox m gl W xs)(ht:Turns p W d)(hp:p<m)(g:gl≠p):TsBox m gl d xs:=by
 obtain⟨u,f,i⟩:=h;exact⟨u,ht.own f g,i.only ht (fun b e=>by cases e;exact hp)⟩
theorem StBox.turns{m gx p:Nat}{W d:World}{x:St}(h:StBox m gx W x)(ht:Turns p W d)(hp:p<m)(g:gx≠p):StBox m gx d x:=by
 obtain⟨cs,f,i⟩:=h;exact⟨cs,ht.own f g,i.only ht (fun b hb e=>by have:=hb.1;omega)⟩
theorem TsV.low{m d:Nat}{W:World}{xs:List St}{u:Value}(h:TsV m W xs u)(f:d<=m):TsV d W xs u:=by
 obtain⟨cs,i,g⟩:=h;exact⟨cs,zeg i f,g.weak fun b _ k=>⟨by omega,k.2⟩⟩
theorem StN.turns{m p:Nat}{W d:World}{x:St}{u:Value}(h:StN m W x u)(ht:Turns p W d)(hp:p<m):StN m d x u:=by
 obtain⟨cs,e,f⟩:=h;exact⟨cs,e,f.only ht (fun b hb e=>by omega)⟩
theorem StN.low{m d:Nat}{W:World}{x:St}{u:Value}(h:StN m W x u)(g:d<=m):StN d W x u:=by
 obtain⟨cs,e,f⟩:=h;exact⟨cs,e,f.weak fun b _ k=>by omega⟩
theorem StsC.form1{w:World}{P:Nat->Prop}{op n:Int}{name:List UInt8}{es:List Ex}{body els:List St}{cs:List Value}(h:StsC w P [.mk op n name es body els] cs):∃g i j f al d,cs=[.int .u8 op,.int .i64 n,.string (bstr name),.slice g es.length i,.slice j body.length f,.slice al els.length d]:=by
 obtain⟨_,_,_,_,_,_,g,j,al,i,f,d,e,rfl⟩:=h.one;cases e;exact⟨g,i,j,f,al,d,rfl⟩
theorem zha:zeroT.all (fun u=>u.oneCell')=true:=rfl
theorem zhb{w:World}{m g k cap:Nat}{cs:List Value}(h:w.ownsRow m 56 6 (.slice (some ⟨g,0,none⟩) (k+1) cap) (k+1) (cs++zeroT)) :
  w.cell? ⟨g,k*6,none⟩=some (.int .u8 0)/\w.cell? ⟨g,k*6+1,none⟩=some (.int .i64 0)/\w.cell? ⟨g,k*6+2,none⟩=some (.string { data:=#[] })/\w.cell? ⟨g,k*6+3,none⟩=some (.slice none 0 0)/\w.cell? ⟨g,k*6+4,none⟩=some (.slice none 0 0)/\w.cell? ⟨g,k*6+5,none⟩=some (.slice none 0 0):=by
 have d:cs.length=k*6:=by
  have:=h.1;rw[yA] at this;have:zeroT.length=6:=rfl;omega
 refine⟨?_,?_,?_,?_,?_,?_⟩
 all_goals
  rw[h.cellAt _ (by omega),List.getElem?_append_right (by omega),d];simp[zeroT]
theorem zna(cs:List Value)(l q g j i z5 a b c d e f:Value)(k:Nat)(m:cs.length=k):((((((cs++[l,q,g,j,i,z5]).set k a).set (k+1) b).set (k+2) c).set (k+3) d).set (k+4) e).set (k+5) f=cs++[a,b,c,d,e,f]:=by
 subst m;rw[List.set_append_right _ _ (by omega),List.set_append_right _ _ (by omega),List.set_append_right _ _ (by omega),List.set_append_right _ _ (by omega),List.set_append_right _ _ (by omega),List.set_append_right _ _ (by omega)];simp
def put6 (w : World) (g j : Nat) (a b c d e f : Value) : World := (((((w.setCell ⟨g, j * 6, none⟩ a).setCell ⟨g, j * 6 + 1, none⟩ b).setCell ⟨g, j * 6 + 2, none⟩ c).setCell ⟨g, j * 6 + 3, none⟩ d).setCell ⟨g, j * 6 + 4, none⟩ e).setCell ⟨g, j * 6 + 5, none⟩ f
theorem zgn{w:World}{m g j cap:Nat}{cs:List Value}{v y i q l z5:Value}(h:w.ownsRow m 56 6 (.slice (some ⟨g,0,none⟩) (j+1) cap) (j+1) (cs++[v,y,i,q,l,z5]))(u:cs.length=j*6)(a b c d e f:Value) :
  (put6 w g j a b c d e f).ownsRow m 56 6 (.slice (some ⟨g,0,none⟩) (j+1) cap) (j+1) (cs++[a,b,c,d,e,f]):=by
 have:=((((((h.stored (j*6) a).1.stored (j*6+1) b).1.stored (j*6+2) c).1.stored (j*6+3) d).1.stored (j*6+4) e).1.stored (j*6+5) f).1;rwa[zna _ _ _ _ _ _ _ _ _ _ _ _ _ _ u] at this
theorem zd2(w:World)(g j:Nat)(a b c d e f:Value):Only (fun b=>b=g) w (put6 w g j a b c d e f):=
 ((((((Turns.refl g w).set _ _).set _ _).set _ _).set _ _).set _ _).set _ _
theorem zjF{wr d X v:World}{m p k:Nat}{u i:Value}{x:St}{xs:List St}{cs f:List Value}(F:wr.ownsRow m 56 6 u k cs)(B:StsC wr (fun b=>m<=b/\u.ownBlock≠some b) xs cs)(D:Turns p wr d)(hp:p<m)(q:StsC d (fun b=>wr.heap.size<=b) [x] f)(E:m<=wr.heap.size)
  (w:Below d.heap.size d X) (z:X.grownBy v u.ownBlock) (l:i.ownBlock=u.ownBlock∨∃g,i.ownBlock=some g/\X.heap.size<=g):StsC v (fun b=>m<=b/\i.ownBlock≠some b) (xs++[x]) (cs++f):=by
 have A:StsC d (fun b=>m<=b/\u.ownBlock≠some b) (xs++[x]) (cs++f):=(B.only D (fun b h e=>by have:=h.1;omega)).append (q.weak fun b _ h=>⟨yT E h,fun e=>by have:=(F.lt b e).2;omega⟩)
 have y:StsC d (fun b=>(m<=b/\i.ownBlock≠some b)/\u.ownBlock≠some b) (xs++[x]) (cs++f):=A.weak fun b hlt h=>⟨⟨h.1,fun e=>by
  rcases l with j|⟨g,j,C⟩
  ·rw[j] at e;exact h.2 e
  ·rw[j] at e;cases e;have:=w.size;omega⟩,h.2⟩
 exact((y.under w (zr _)).grown z (fun b e h=>h.2 e)).weak fun b _ h=>h.1
theorem zgo{w wr z X m W7:World}{p gl g6 k j Q T:Nat}{u v a b c d e f:Value}{l:List Tok}{x:St}{xs:List St}{cs:List Value}(D:Only (fun b=>b=p∨b=gl) w wr)(hp:p<w.heap.size)(U:gl<w.heap.size)(n3:gl≠p)(P:∀b,v.ownBlock=some b->b<w.heap.size)(I:∀b,v.ownBlock=some b->b≠gl)
  (y:wr.ownsRow w.heap.size 56 6 u k cs) (H:StsC wr (fun b=>w.heap.size<=b/\u.ownBlock≠some b) xs cs) (C:Turns p wr z) (G:PSt z p v l Q T) (K:StsC z (fun b=>wr.heap.size<=b) [x] [a,b,c,d,e,f]) (L:OwnV z gl 24 [u])
  (R:Below z.heap.size z X) (O:X.grownBy m u.ownBlock) (J:(Value.slice (some ⟨g6,0,none⟩) (k+1) j).ownBlock=u.ownBlock∨∃g,(Value.slice (some ⟨g6,0,none⟩) (k+1) j).ownBlock=some g/\X.heap.size<=g) (hown:m.ownsRow w.heap.size 56 6 (.slice (some ⟨g6,0,none⟩) (k+1) j) (k+1) (cs++zeroT))
  (M:W7=(put6 m g6 k a b c d e f).setCell ⟨gl,0,none⟩ (.slice (some ⟨g6,0,none⟩) (k+1) j)∨W7=put6 (m.setCell ⟨gl,0,none⟩ (.slice (some ⟨g6,0,none⟩) (k+1) j)) g6 k a b c d e f) :
  PSt W7 p v l Q T/\OwnV W7 gl 24 [.slice (some ⟨g6,0,none⟩) (k+1) j]/\W7.ownsRow w.heap.size 56 6 (.slice (some ⟨g6,0,none⟩) (k+1) j) (k+1) (cs++[a,b,c,d,e,f])/\StsC W7 (fun b=>w.heap.size<=b/\(Value.slice (some ⟨g6,0,none⟩) (k+1) j).ownBlock≠some b) (xs++[x]) (cs++[a,b,c,d,e,f])/\Only (fun b=>b=p∨b=gl) w W7:=by
 have N:=D.size;have F:∀g,u.ownBlock=some g->w.heap.size<=g:=fun g e=>(y.lt g e).1
 have V:w.heap.size<=g6:=(hown.lt g6 rfl).1;have A:Only (fun b=>u.ownBlock=some b) z m:=(Only.of_below R).trans (Only.of_grown O (fun g e=>e))
 have q:Only (fun b=>b=g6∨b=gl) m W7:=by
  rcases M with rfl|rfl
  ·exact Only.setCell ((zd2 _ _ _ _ _ _ _ _ _).mono fun _ _ e=>.inl e) (.inr (.inr rfl)) _
  ·exact(Only.setCell (Only.refl _ m) (.inr (.inr rfl)) _).trans ((zd2 _ _ _ _ _ _ _ _ _).mono fun _ _ e=>.inl e)
 have B:cs.length=k*6:=y.1;have E:OwnV m gl 24 [u]:=A.own L (fun e=>by have:=F _ e;omega)
 refine⟨(G.only A (fun e=>by have:=F _ e;omega) (fun g e e2=>by have:=F _ e2;have:=P g e;omega)).only q (fun e=>by rcases e with e|e <;> omega) (fun g e e2=>e2.elim (fun e2=>by have:=P g e;omega) (I g e)),?_,?_,(zjF y H C hp K N R O J).only q (fun b h e=>by
   rcases e with e|e
   ·exact h.2 (by rw[e];rfl)
   ·have:=h.1;omega),?_⟩
 ·rcases M with rfl|rfl
  ·exact((zd2 _ _ _ _ _ _ _ _ _).own E (by omega)).set 0 _
  ·exact(zd2 _ _ _ _ _ _ _ _ _).own (E.set 0 _) (by omega)
 ·rcases M with rfl|rfl
  ·exact Only.row (S:=fun b=>b=gl) (Only.setCell (Only.refl _ _) (.inr (Eq.refl gl)) _) (zgn hown B a b c d e f) (fun g e e2=>by have:=(hown.lt g e).1;omega)
  ·exact zgn (Only.row (S:=fun b=>b=gl) (Only.setCell (Only.refl _ _) (.inr (Eq.refl gl)) _) hown (fun g e e2=>by have:=(hown.lt g e).1;omega)) B a b c d e f
 ·exact((D.trans (C.mono fun _ _ e=>.inl e)).transNew A (fun i e=>.inr (F i e))).transNew q (fun i e=>by
   rcases e with e|e
   ·exact .inr (by omega)
   ·exact .inl (.inr e))
theorem ze1{l:List Tok}{i o:Nat}{x:Ex}{j:Nat}(h:zaz l i o=.ok x j):i<j:=by
 unfold zaz at h;split at h
 ·cases h
 ·obtain⟨y,k,f,d⟩:=PR.bind_ok h;have:=zb3 l _ _ _ _ _ f;split at d
  ·cases d
  ·cases d;omega
def SMon (S : Nat -> Nat -> PR St) : Prop := ∀ i o x j, S i o = .ok x j -> i < j
theorem zlA{l:List Tok}{S:Nat->Nat->PR St}(hS:SMon S)(o:Nat):∀(f:Nat) (xs:List St) (i:Nat) (ys:List St) (j:Nat),zaX l S o f xs i=.ok ys j->i<j:=by
 intro f
 induction f with
 | zero=>intro xs i ys j h;cases h
 | succ f ih =>
  intro xs i ys j h;rw[zaX] at h;split at h
  ·cases h;omega
  ·obtain⟨y,k,g,d⟩:=PR.bind_ok h;have:=hS _ _ _ _ g;have:=ih _ _ _ _ d;omega
theorem zd3{l:List Tok}{S:Nat->Nat->PR St}(hS:SMon S){i o:Nat}{ys:List St}{j:Nat}(h:zaB l S i o=.ok ys j):i<j:=by
 unfold zaB at h;obtain⟨y,k,f,d⟩:=PR.bind_ok h;have:=zfO f;have:=zlA hS _ _ _ _ _ _ d;omega
theorem zke{l:List Tok}{S:Nat->Nat->PR St}(hS:SMon S):∀(f i o:Nat) (x:St) (j:Nat),zau l S f i o=.ok x j->i<j:=by
 intro f
 induction f with
 | zero=>intro i o x j h;cases h
 | succ f ih =>
  intro i o x j h;rw[zau] at h;obtain⟨ys,k,v,q⟩:=PR.bind_ok h;obtain⟨body,m,u,d⟩:=PR.bind_ok q;have a1:=zb2 (zb3 l) v;have a2:=zd3 hS u;split at d
  ·cases d;omega
  ·split at d
   ·cases d;omega
   ·split at d
    ·cases d
    ·split at d
     ·obtain⟨y,g,-⟩:=PR.map_ok d;have:=ih _ _ _ _ g;omega
     ·obtain⟨y,g,-⟩:=PR.map_ok d;have:=zd3 hS g;omega
theorem zdK(l:List Tok):∀f,SMon (zan l f):=by
 intro f
 induction f with
 | zero=>intro i o x j h;cases h
 | succ f ih =>
  intro i o x j h;rw[zan] at h;split at h
  ·cases h
  ·split at h
   ·obtain⟨ys,k,m,g⟩:=PR.bind_ok h;obtain⟨y,d,-⟩:=PR.map_ok g;have a1:=zb2 (zb3 l) m;have:=ze1 d;omega
   ·split at h
    ·split at h
     ·cases h
     ·cases h;omega
    ·split at h
     ·exact zke ih _ _ _ _ _ h
     ·split at h
      ·split at h
       ·cases h
       ·obtain⟨y,d,-⟩:=PR.map_ok h;have:=ze1 d;omega
      ·split at h
       ·cases h
       ·obtain⟨y,d,-⟩:=PR.map_ok h;have:=ze1 d;omega
theorem zfM:(Tryz.prog.info? 56).map (fun i=>(i.zero,i.size,i.bytes))=some (some (.agg #[.int .u8 0,.int .i64 0,.string ByteArray.empty,.slice none 0 0,.slice none 0 0,.slice none 0 0]),6,104):=by kernel_rfl
theorem zkf{w:World}{p bp gl:Nat}{v:Value}{l:List Tok}{i o:Nat}(h:PSt w p v l i (o+1))(C:PEnv l)(ho:o<200)(S:Nat->Nat->PR St)
  (hp:OwnV w bp 72 [.pointer (some ⟨p,0,none⟩)]) (hl:OwnV w gl 24 [.slice none 0 0])
  (n2:bp≠p) (n3:gl≠p) (n7:bp≠gl) (aS:∀b,v.ownBlock=some b->b≠gl)
  (hX:∀f W,i<=f->PSt W p v l f (o+1)->Calls Tryz.prog 91 #[.pointer (some ⟨p,0,none⟩)] W (RdE l p v (o+1) W (StN W.heap.size) (S f (o+1))))
  (aj:SMon S) :
  Calls Tryz.prog 156 #[.pointer (some ⟨bp,0,none⟩),.pointer (some ⟨gl,0,none⟩)] w (OpE l p v (o+1) (fun b=>b=p∨b=gl) w (TsBox w.heap.size gl) (zaX l S o (l.length+1-i) [] i)):=by
 have az:=h.lt;have ai:=hl.lt;have hv:=zao h;have am:=h.here;have aO:=C.small;have Hp:=zh hp;have Hl:=zh hl;have H:=zh h;have HX:=zh hX;have aJ:=zh aj;obtain⟨m,V⟩:∃r,zaX l S o (l.length+1-i) [] i=r:=⟨_,rfl⟩;have Hf:=zh V;rw[V];clear h hp hl hX V aj;go_enter Tryz.func156,Tryz.ntmps156
 go_wp2_with fail
 go_loopg [2,3,4,5,6,7,8,9,10,11] (l.length-i) (fun g _ _ _ _ _ _ _ _ _ _ wr=>∃(k f F:Nat) (u:Value) (xs:List St) (cs:List Value),g=l.length-f/\i<=f/\f<l.length/\l.length-f<F/\xs.length=k/\k<=f/\Hid (PSt wr p v l f (o+1))/\Hid (OwnV wr gl 24 [u])/\Hid (wr.ownsRow w.heap.size 56 6 u k cs)/\Hid (StsC wr (fun b=>w.heap.size<=b/\u.ownBlock≠some b) xs cs)/\Hid (zaX l S o F xs f=m)/\Hid (Only (fun b=>b=p∨b=gl) w wr))
 case atStart=>exact⟨0,i,l.length+1-i,.slice none 0 0,[],[],rfl,zr _,am,by omega,rfl,by omega,H,Hl,zh (World.ownsRow_nil _ _ _ _),zh .nil,Hf,zh (Only.refl _ _)⟩
 case round =>
  clear H Hl Hf;obtain⟨k,f,F,u,xs,cs,rfl,ac,ak,hF,Z,aC,ax,aV,aN,aM,Hf,ag⟩:=hrel;have aU:=ag.out.size;obtain⟨F,rfl⟩:∃F',F=F'+1:=⟨F-1,by omega⟩;have ad:Hid ((if isS l f [125]=true then .ok xs (f+1) else(S f (o+1)).andThen fun x j=>zaX l S o F (xs++[x]) j)=m):=zh (by rw[<-Hf.out,zaX]);have HI:=zh (zbo ax.out C [125]);have ab:Hid (∀W,PSt W p v l f (o+1)->Calls Tryz.prog 131 #[.pointer (some ⟨p,0,none⟩),.string { data:=#[125] }] W (RdE l p v (o+1) W zgl (za0 l f [125]))):=zh (fun W hP=>zcv hP C [125]);have aF:za0 l f [125]=if isS l f [125]=false then .err f 120 else .ok () (f+1):=rfl
  rw[aF] at ab;have p0:=(ag.out.own Hp.out (by simp[n2,n7])).cell (i:=0) rfl;clear Hf aF
  generalize isS l f [125]=q at *
  go_wp2_with fail
  go_at_call 154;refine HI.out.mono ?_;rintro e1 w2⟨rfl,L⟩;have HP:=zh (ax.out.below L);have HL:=zh (aV.out.below L (zr _));have HR:=zh (zbu aN.out L (zr _));have ar:=zh (aM.out.under L (zr _));have HT:=zh (ag.out.trans (Only.of_below L));have aL:=HT.out.size;clear ax aV aN aM ag HI L p0 aU;have p0:=(HT.out.own Hp.out (by simp[n2,n7])).cell (i:=0) rfl
  cases q with
  | true =>
   have J:Hid (.ok xs (f+1)=m):=zh (by rw[<-ad.out,yP rfl]);have HN:=zh (ab.out w2 HP.out);rw[yN (by decide)] at HN;clear ad ab;go_wp2_with fail
   go_at_call 131;refine HN.out.mono ?_;rintro e4 w4⟨u4,rfl,rfl,aK,aT⟩;clear HN;have a4:=zh aK;have aA:=zh aT;clear aK aT;go_wp2_with fail
   rw[<-J.out];refine yE (results_none rfl _ _ _) rfl ⟨rfl,⟨u,aA.out.own HL.out n3,?_⟩,a4.out,HT.out.trans (aA.out.mono fun _ _ e=>.inl e)⟩
   exact TsV.only (W:=w2) ⟨cs,by rw[Z];exact HR.out,ar.out⟩ aA.out (fun b e=>by cases e;exact az)
  | false =>
   have J:Hid ((S f (o+1)).andThen (fun x j=>zaX l S o F (xs++[x]) j)=m):=zh (by rw[<-ad.out,yN (by decide)]);clear ad ab;have HC:Hid (∀W,Below w2.heap.size w2 W->Calls Tryz.prog 91 #[.pointer (some ⟨p,0,none⟩)] W (RdE l p v (o+1) W (StN W.heap.size) (S f (o+1)))):=zh (fun W hb=>HX.out f W ac (HP.out.below hb));have ae:=aJ.out f (o+1);generalize S f (o+1)=R at HC J ae;have l0:=HL.out.cell (i:=0) rfl;obtain⟨ua,cap,rfl,-,-⟩:=Sl.form (Sl.of_own HR.out);go_upto_region 1 with(fail)
   cases R with
   | err a c =>
    have aw:Hid (.err a c=m):=J;clear ae hF aC Z am ak aO ac;refine zdi [0,0,5,0,3,2,2,2,2] (fun b w'=>Below w2.heap.size w2 w'/\(b=false->w'=w2.drew)) (by kernel_rfl) (by kernel_rfl) ⟨(yR _ _).drew,fun _=>rfl⟩ ?_;try simp only[Act.put,zs1,zs3,zs2]
    apply stepsDie2.val
    ·rintro b w' C;have HE:=zh C;have bb:=Below.keep C.1 l0;clear C;try simp only[Act.put,zs1,zs3,zs2]
     go_wp2;exact⟨rfl,HE.out⟩
    try simp only[Act.put,zs1,zs3,zs2]
    apply stepsDie2.val
    ·rintro b w' C;have HE:=zh C;have ba:=Below.keep C.1 p0;clear C;try simp only[Act.put,zs1,zs3,zs2]
     go_wp2;exact⟨rfl,HE.out⟩
    try simp only[Act.put,zs1,zs3,zs2]
    apply stepsDie2.dies
    ·rintro b w' C;have HE:=zh C;clear C;try simp only[Act.put,zs1,zs3,zs2]
     go_wp2_with fail
     go_at_call 91;refine(HC.out _ HE.out.1).mono ?_;rintro e5 Q⟨aX,z⟩;unfold Bad at aX;subst aX;exact fun aa haa=>⟨haa,by rw[<-aw.out];exact⟨rfl,HT.out.trans ((Only.of_below HE.out.1).trans (z.mono fun _ _ e=>.inl e))⟩⟩
    try simp only[Act.put,zs1,zs3,zs2]
    apply stepsDie2.val
    ·rintro b w' C;have HE:=zh C;clear C;try simp only[Act.put,zs1,zs3,zs2]
     go_wp2;exact⟨rfl,HE.out⟩
    try simp only[Act.put,zs1,zs3,zs2]
    apply stepsDie2.mem
    ·rintro w'⟨-,aY⟩;obtain rfl:=aY rfl;try simp only[Act.put,zs1,zs3,zs2]
     go_wp2;have aG:Below w2.heap.size w2 (w2.alloc (.cells #[.int .u8 0,.int .i64 0,.string { data:=#[] },.slice none 0 0,.slice none 0 0,.slice none 0 0] 56)).drew:=((yR _ _).alloc (zr _) _).drew;first|exact⟨rfl,aG⟩|exact⟨rfl,aG,fun h=>by cases h⟩
    apply stepsDie2.skip;apply stepsDie2.skip;apply stepsDie2.skip;apply stepsDie2.skip
    exact stepsDie2.done
   | ok x j2 =>
    have ah:=ae x j2 rfl;obtain⟨M,n5,y,K,N,G⟩:=x;have aw:Hid (zaX l S o F (xs++[.mk M n5 y K N G]) j2=m):=J;clear ae J;have a7:gl<w2.heap.size:=HL.out.lt;have a6:bp<w2.heap.size:=(HT.out.own Hp.out (by simp[n2,n7])).lt;have a2:=zh Z;have a1:(k:Int)<=16385:=by omega
    have bd:(0:Int)<=(k:Int):=by omega
    have bc:(k:Int)<(k:Int)+1:=by omega
    have Hk:=zh (show k<=16385/\f<j2/\i<=f/\k<=f/\l.length-f<F+1 from⟨by omega,ah,ac,aC,hF⟩);clear Z aC hF ak am ac ah aO a1;go_region_law (first|(refine zaR rfl (.tmp 5) (.tmp 9) 24 rfl aI zfM Tryz.underlying24 rfl (by decide) (by simp[Act.eval,Act.put]) aW (by simp[Act.eval,Act.put]) zha (by have:=Hk.out.1;unfold maxLen;omega) (by have:=Hk.out.1;omega) (by first|exact Y|(simp;omega)) ?_;intro v6 w6 d I aR E;have A:=E;obtain⟨g6,U,rfl,aH⟩:=zcd d;have O:OwnV w6 gl 24 [.slice ua k cap]:=OwnV.grown (by first|exact B|exact B.alloc _) I (fun e=>by have:=(P.lt gl e.symm).1;omega);have l6:=O.cell (i:=0) rfl;have aP:=O.free;have f0:=d.frozenAt (k*6);have f1:=d.frozenAt (k*6+1);have f2:=d.frozenAt (k*6+2);have f3:=d.frozenAt (k*6+3);have f4:=d.frozenAt (k*6+4);have f5:=d.frozenAt (k*6+5);obtain⟨c0,c1,c2,c3,c4,c5⟩:=zhb d;have aQ:¬g6=gl:=(by omega);have ay:¬gl=g6:=(by omega))|(refine zaR rfl (.tmp 5) (.tmp 9) 24 rfl P zfM Tryz.underlying24 rfl (by decide) (by simp[Act.eval,Act.put]) a5 (by simp[Act.eval,Act.put]) zha (by have:=Hk.out.1;unfold maxLen;omega) (by have:=Hk.out.1;omega) (by first|exact Y|(simp;omega)) ?_;intro v6 w6 d I aR E;have A:=E;obtain⟨g6,U,rfl,aH⟩:=zcd d;have O:OwnV w6 gl 24 [.slice ua k cap]:=OwnV.grown (by first|exact B|exact B.alloc _) I (fun e=>by have:=(P.lt gl e.symm).1;omega);have l6:=O.cell (i:=0) rfl;have aP:=O.free;have f0:=d.frozenAt (k*6);have f1:=d.frozenAt (k*6+1);have f2:=d.frozenAt (k*6+2);have f3:=d.frozenAt (k*6+3);have f4:=d.frozenAt (k*6+4);have f5:=d.frozenAt (k*6+5);obtain⟨c0,c1,c2,c3,c4,c5⟩:=zhb d;have aQ:¬g6=gl:=(by omega);have ay:¬gl=g6:=(by omega))|(go_simp;refine(HC.out _ (by first|exact(yR _ _).drew|exact(yR _ _).drew.alloc (zr _) _|exact((yR _ _).alloc (zr _) _).drew)).mono ?_;rintro e5 Q⟨u5,rfl,⟨a9,rfl,aq⟩,af,z⟩;obtain⟨aD,ao,av,aE,an,ap,rfl⟩:=aq.form1;have P:Q.ownsRow w.heap.size 56 6 (.slice ua k cap) k cs:=Only.row z (by first|exact HR.out|exact HR.out.alloc _) (fun g hg e=>by have:=(HR.out.lt g hg).1;omega);have B:OwnV Q gl 24 [.slice ua k cap]:=Only.own z (by first|exact HL.out|exact HL.out.alloc _) n3;have l5:=B.cell (i:=0) rfl;have a3:=(B.alloc (.cells #[.int .u8 0,.int .i64 0,.string { data:=#[] },.slice none 0 0,.slice none 0 0,.slice none 0 0] 56)).cell (i:=0) rfl;have aI:(Q.alloc (.cells #[.int .u8 0,.int .i64 0,.string { data:=#[] },.slice none 0 0,.slice none 0 0,.slice none 0 0] 56)).ownsRow w.heap.size 56 6 (.slice ua k cap) k cs:=P.alloc _;have aW:Sl (Q.alloc (.cells #[.int .u8 0,.int .i64 0,.string { data:=#[] },.slice none 0 0,.slice none 0 0,.slice none 0 0] 56)) 6 1 zeroT (.slice (some ⟨Q.heap.size,0,none⟩) 1 1):=zcw (OwnV.new Q 56 zeroT) rfl (zr _) (by decide);have Y:w.heap.size<=Q.heap.size:=(yT aL (by first|exact z.size|(have:=z.size;simp at this;omega)));(first|have a5:Sl Q 6 1 zeroT (.slice (some ⟨w2.heap.size,0,none⟩) 1 1):=zcw (g:=w2.heap.size) (e:=56) (Only.own z (OwnV.new w2.drew 56 zeroT) (by omega)) rfl (zr _) (by decide)|skip)))
    all_goals
     have T:Turns p w2 Q:=by first|exact(Turns.below (yR _ _).drew).trans z|exact(Turns.below ((yR _ _).drew.alloc (zr _) _)).trans z|exact(Turns.below ((yR _ _).alloc (zr _) _).drew).trans z
     have X:StsC Q (fun b=>w2.heap.size<=b) [.mk M n5 y K N G] [.int .u8 M,.int .i64 n5,.string (bstr y),.slice aD K.length ao,.slice av N.length aE,.slice an G.length ap]:=aq.weak fun b _ h=>(by first|exact h|exact(show w2.heap.size<=b from yT (by simp) h))
     first|(obtain⟨W7,D⟩:∃W7,W7=(((((((w6.setCell ⟨g6,k*6,none⟩ (.int .u8 M)).setCell ⟨g6,k*6+1,none⟩ (.int .i64 n5)).setCell ⟨g6,k*6+2,none⟩ (.string (bstr y))).setCell ⟨g6,k*6+3,none⟩ (.slice aD K.length ao)).setCell ⟨g6,k*6+4,none⟩ (.slice av N.length aE)).setCell ⟨g6,k*6+5,none⟩ (.slice an G.length ap)).setCell ⟨gl,0,none⟩ (.slice (some ⟨g6,0,none⟩) (k+1) U)):=⟨_,rfl⟩;rw[<-D];have au:=zgo (W7:=W7) HT.out az ai n3 hv aS HR.out ar.out T af X B (by first|exact yR _ _|exact(yR _ _).alloc (zr _) _) I A d (.inl D);clear D)|(obtain⟨W7,D⟩:∃W7,W7=(((((((w6.setCell ⟨gl,0,none⟩ (.slice (some ⟨g6,0,none⟩) (k+1) U)).setCell ⟨g6,k*6,none⟩ (.int .u8 M)).setCell ⟨g6,k*6+1,none⟩ (.int .i64 n5)).setCell ⟨g6,k*6+2,none⟩ (.string (bstr y))).setCell ⟨g6,k*6+3,none⟩ (.slice aD K.length ao)).setCell ⟨g6,k*6+4,none⟩ (.slice av N.length aE)).setCell ⟨g6,k*6+5,none⟩ (.slice an G.length ap)):=⟨_,rfl⟩;rw[<-D];have au:=zgo (W7:=W7) HT.out az ai n3 hv aS HR.out ar.out T af X B (by first|exact yR _ _|exact(yR _ _).alloc (zr _) _) I A d (.inr D);clear D)
     have a0:=zh au;have aZ:j2<l.length:=af.here;clear au T aq X af z B P aI aW O E A I aR l5 a3 l6 aP f0 f1 f2 f3 f4 f5 c0 c1 c2 c3 c4 c5 d Y;go_wp2_with fail
     go_roundg (l.length-j2)
     case measure=>have:=Hk.out;omega
     case rel =>
      obtain⟨r1,r2,r3,r4,r5⟩:=a0.out;have a8:=Hk.out;exact⟨k+1,j2,F,_,xs++[.mk M n5 y K N G],_,rfl,by omega,aZ,by omega,by have:=a2.out;rw[yA,this];rfl,by omega,zh r1,zh r2,zh r3,zh r4,aw,zh r5⟩
theorem zhw(d:Array Value)(W:World):(callFunc 156 d).run Tryz.prog W=.ok (.enter 156 d) W:=(enters_of (P:=Tryz.prog) Tryz.func156 (by kernel_rfl) rfl) d W
theorem zgp{w:World}{p:Nat}{v:Value}{l:List Tok}{i o:Nat}(h:PSt w p v l i o)(hE:PEnv l)(ho:o<=300)(S:Nat->Nat->PR St)
  (T:∀i' W,i<i'->o<200->PSt W p v l i' (o+1)->Calls Tryz.prog 91 #[.pointer (some ⟨p,0,none⟩)] W (RdE l p v (o+1) W (StN W.heap.size) (S i' (o+1))))
  (g:SMon S) :
  Calls Tryz.prog 130 #[.pointer (some ⟨p,0,none⟩)] w (RdE l p v o w (TsV w.heap.size) (zaB l S i o)):=by
 have aa:=h.lt;have U:=zao h;have ab:=zmf Tryz.prog
 obtain⟨K,F,z,m,y,H⟩:=opened w [.pointer (some ⟨p,0,none⟩)] [.slice none 0 0] 72 24;have a0:=m.cell (i:=0) rfl;have Z:=h.below z;have Q:w.heap.size+1<K.heap.size:=y.lt
 have V:=zh (zdz (S:=fun b=>b=p∨b=w.heap.size+1) Z hE ho [123] 156 #[.pointer (some ⟨w.heap.size,0,none⟩),.pointer (some ⟨w.heap.size+1,0,none⟩)] (.inl rfl) (TsBox K.heap.size (w.heap.size+1)) (fun W W' x hx ht=>hx.turns ht (by omega) (by omega)) (zaX l S o (l.length+1-(i+1)) [] (i+1)) (zhw _)
  (fun his ho2 W hT hP=>by
   have I:=hT.size;have:=zkf hP hE ho2 S (hT.own m (by omega)) (hT.own y (by omega)) (by omega) (by omega) (by omega) (fun b e=>by have:=U b e;omega) (fun i' W' hi' hP'=>T i' W' (by omega) ho2 hP') g;refine this.mono fun e w' he=>?_
   generalize zaX l S o (l.length+1-(i+1)) [] (i+1)=R at *
   cases R with
   | err a c=>exact he
   | ok xs j =>
    obtain⟨e1,⟨u,G,L⟩,e3,e4⟩:=he
    exact⟨e1,⟨u,G,L.low I⟩,e3,e4⟩))
 have Y:zaB l S i o=(zay l i [123] o).andThen (fun _ _=>zaX l S o (l.length+1-(i+1)) [] (i+1)):=by
  unfold zaB zay;split
  ·rfl
  ·split <;> rfl
 rw[Y]
 generalize ((zay l i [123] o).andThen (fun _ _=>zaX l S o (l.length+1-(i+1)) [] (i+1)))=R at *
 have M:=zh F;have E:=zh z;have C:=zh H;clear F z m y H Z h T g Y Q;go_enter Tryz.func130,Tryz.ntmps130
 go_upto_region 1 with(fail)
 rw[<-M.out];go_wp2_with fail
 go_at_call 151;refine V.out.mono ?_;intro e4 N d;clear V
 cases R with
 | err a c =>
  obtain⟨d,f⟩:=d;unfold Bad at d;subst d;have q:=zh f;clear f;go_wp2_with fail
  exact⟨rfl,rfl,(Only.of_below (S:=fun b=>b=p) E.out).transNew q.out (fun b e=>by
   rcases e with e|e
   ·exact .inl e
   ·exact .inr (by omega))⟩
 | ok x j =>
  obtain⟨rfl,⟨u,G,⟨P,A,D⟩⟩,B,f⟩:=d;have O:Hid (TsV K.heap.size N x u):=zh ⟨P,A,D⟩;obtain⟨ua,cap,rfl,-,-⟩:=Sl.form (Sl.of_own A);have x0:=G.cell (i:=0) rfl;have xf:=G.free;have J:=zh B;have q:=zh f;clear A D B f G;go_wp2_with fail
  have X:Only (fun b=>b=w.heap.size+1) N (N.setCell ⟨w.heap.size+1,0,none⟩ (.slice ua x.length cap)):=(Turns.refl _ _).set _ _;refine yE (v:=.slice ua x.length cap) (by simp[results,Tryz.results130,go_sem,x0]) rfl ⟨_,rfl,?_,?_,?_⟩
  ·exact(O.out.only X (fun b e=>by have:=C.out;omega)).low (by have:=C.out;omega)
  ·exact J.out.only X (by omega) (fun b hb e=>by have:=U b hb;omega)
  ·exact((Only.of_below (S:=fun b=>b=p) E.out).transNew q.out (fun b e=>by
    rcases e with e|e
    ·exact .inl e
    ·exact .inr (by omega))).setNew (by omega) _
def Cd (c : Int) : Prop := c = 120 ∨ c = 121
def ECd (l : List Tok) (i0 : Nat) (E : Nat -> Nat -> Nat -> PR Ex) : Prop := ∀ i o q a c, i0 <= i -> i <= l.length -> E i o q = .err a c -> Cd c
def SCd (l : List Tok) (i0 : Nat) (S : Nat -> Nat -> PR St) : Prop := ∀ i o a c, i0 <= i -> i <= l.length -> S i o = .err a c -> Cd c
theorem PR.bind_err{α β:Type}{r:PR α}{f:α->Nat->PR β}{a:Nat}{c:Int}(h:r.andThen f=.err a c):r=.err a c∨∃x j,r=.ok x j/\f x j=.err a c:=by
 cases r with
 | ok x j=>exact .inr ⟨x,j,rfl,h⟩
 | err a' c'=>cases h;exact .inl rfl
theorem PR.map_err{α β:Type}{r:PR α}{f:α->β}{a:Nat}{c:Int}(h:r.map f=.err a c):r=.err a c:=by
 cases r with
 | ok x j=>cases h
 | err a' c'=>cases h;rfl
theorem zcI:Cd 120:=.inl rfl
theorem zkg:Cd 121:=.inr rfl
theorem zii{l:List Tok}{i:Nat}{s:List UInt8}{o a:Nat}{c:Int}(h:zay l i s o=.err a c):Cd c:=by
 unfold zay at h;split at h
 ·cases h;exact zcI
 ·split at h
  ·cases h;exact zkg
  ·cases h
theorem zij{l:List Tok}{i:Nat}{s:List UInt8}{o:Nat}{u:Unit}{j:Nat}(h:zay l i s o=.ok u j):i<l.length/\j=i+1:=by
 unfold zay at h;split at h
 ·cases h
 ·rename_i hs
  split at h
  ·cases h
  ·cases h;exact⟨zbU hs,rfl⟩
theorem znb{l:List Tok}{i0:Nat}{E:Nat->Nat->Nat->PR Ex}(z:ECd l i0 E)(hM:EMon E)(g:zcj l E):∀(f:Nat) (x:Ex) (i o q a:Nat) (c:Int),i0<=i+1->l.length+1-i<=f->i<=l.length->zaD l E f x i o q=.err a c->Cd c:=by
 intro f
 induction f with
 | zero=>intro x i o q a c _ v u;omega
 | succ f ih =>
  intro x i o q a c w v u h;simp only[zaD] at h;split at h
  ·cases h
  ·rename_i hs
   have hi:=ze3 (l:=l) (i:=i) (fun e=>hs (.inr e));rcases PR.bind_err h with h|⟨y,j,d,h⟩
   ·exact z _ _ _ _ _ w (by omega) h
   ·have m:=hM _ _ _ _ _ d;have n:=g _ _ _ _ _ d;split at h
    ·cases h;exact zcI
    ·exact ih _ _ _ _ _ _ (by omega) (by omega) n h
theorem znc{l:List Tok}{i0:Nat}{E:Nat->Nat->Nat->PR Ex}(g:ECd l i0 E)(hM:EMon E)(f:zcj l E)(o:Nat)(stop:List UInt8):∀(m:Nat) (xs:List Ex) (i a:Nat) (c:Int),i0<=i->i<=l.length->zav l E o stop m xs i=.err a c->Cd c:=by
 intro m
 induction m with
 | zero =>
  intro xs i a c _ _ h;simp only[zav] at h;split at h
  ·cases h
  ·cases h;exact zcI
 | succ m ih =>
  intro xs i a c u q h;simp only[zav] at h;split at h
  ·rcases PR.bind_err h with h|⟨y,j,d,h⟩
   ·exact g _ _ _ _ _ u q h
   ·have:=hM _ _ _ _ _ d;exact ih _ _ _ _ (by omega) (f _ _ _ _ _ d) h
  ·split at h
   ·cases h;exact zcI
   ·rename_i hs
    have hi:=zbU hs;rcases PR.bind_err h with h|⟨y,j,d,h⟩
    ·exact g _ _ _ _ _ (by omega) (by omega) h
    ·have:=hM _ _ _ _ _ d;exact ih _ _ _ _ (by omega) (f _ _ _ _ _ d) h
theorem zdo{l:List Tok}{i:Nat}{E:Nat->Nat->Nat->PR Ex}(g:ECd l (i+1) E)(hM:EMon E)(d:zcj l E){o:Nat}{s stop:List UInt8}{m a:Nat}{c:Int}(h:zad l E i o s stop m=.err a c):Cd c:=by
 rcases PR.bind_err h with h|⟨u,j,f,h⟩
 ·exact zii h
 ·obtain⟨q,rfl⟩:=zij f;exact znc g hM d _ _ _ _ _ _ _ (zr _) (by omega) h
theorem ECd.mono{l:List Tok}{i j:Nat}{E:Nat->Nat->Nat->PR Ex}(h:ECd l i E)(d:i<=j):ECd l j E:=fun i' o q a c h1 h2=>h i' o q a c (by omega) h2
theorem SCd.mono{l:List Tok}{i j:Nat}{S:Nat->Nat->PR St}(h:SCd l i S)(d:i<=j):SCd l j S:=fun i' o a c h1 h2=>h i' o a c (by omega) h2
theorem zkh {l:List Tok} {i:Nat} {E:Nat->Nat->Nat->PR Ex} (f:ECd l (i+1) E) (hM:EMon E) (d:zcj l E) {o a:Nat} {c:Int} (h:zah l E i o=.err a c):Cd c:=by
 unfold zah at h;split at h
 ·cases h
 ·split at h
  ·rcases PR.bind_err h with h|⟨xs,k,g,h⟩
   ·exact zdo f hM d h
   ·have:=zdC g
    cases xs with
    | nil=>cases this
    | cons z r=>cases h
  ·split at h
   ·cases h;exact zcI
   ·split at h
    ·exact zdo (f.mono (by omega)) hM d (PR.map_err h)
    ·split at h
     ·exact zdo (f.mono (by omega)) hM d (PR.map_err h)
     ·split at h
      ·cases h
      ·split at h
       ·cases h
       ·split at h
        ·cases h;exact zcI
        ·cases h
theorem zmw{l:List Tok}{E:Nat->Nat->Nat->PR Ex}(hM:EMon E)(j:zcj l E):∀(f i o a:Nat) (c:Int),ECd l (i+1) E->l.length+1-i<=f->i<=l.length->zas l E f i o=.err a c->Cd c:=by
 intro f
 induction f with
 | zero=>intro i o a c _ q m;omega
 | succ f ih =>
  intro i o a c g q m h;simp only[zas] at h;split at h
  ·exact zkh g hM j h
  ·rename_i hs
   split at h
   ·cases h;exact zkg
   ·have hi:i<l.length:=by
     by_cases d:isS l i [45]=false
     ·exact zbU (s:=[33]) (fun e=>hs ⟨d,e⟩)
     ·exact zbU d
    exact ih _ _ _ _ (g.mono (by omega)) (by omega) (by omega) (PR.map_err h)
theorem znd(l:List Tok):∀(f i o q a:Nat) (c:Int),l.length+1-i<=f->i<=l.length->zaw l f i o q=.err a c->Cd c:=by
 intro f
 induction f with
 | zero=>intro i o q a c u d;omega
 | succ f ih =>
  intro i o q a c u d h;have g:ECd l (i+1) (zaw l f):=fun i' o' q' a' c' g1 g2 g3=>ih i' o' q' a' c' (by omega) g2 g3
  simp only[zaw] at h;rcases PR.bind_err h with h|⟨x,j,m,h⟩
  ·exact zmw (zdc l f) (zc3 l f) _ _ _ _ _ g (zr _) d h
  ·have:=zd5 (zdc l f) _ _ _ _ _ m;exact znb g (zdc l f) (zc3 l f) _ _ _ _ _ _ _ (by omega) (zr _) (zcD _ _ _ _ _ m) h
theorem zeA(l:List Tok)(i0:Nat):ECd l i0 (zaA l):=fun _ _ _ _ _ _ h2 h=>znd l _ _ _ _ _ _ (zr _) h2 h
theorem zik(l:List Tok):zcj l (zaA l):=fun _ _ _ _ _ h=>zc3 l _ _ _ _ _ _ h
theorem zfN{l:List Tok}{i o a:Nat}{c:Int}(h:zaz l i o=.err a c):Cd c:=by
 unfold zaz at h;split at h
 ·cases h;exact zcI
 ·rename_i hs
  have hi:=zbU hs;rcases PR.bind_err h with h|⟨x,j,d,h⟩
  ·exact zeA l 0 _ _ _ _ _ (Nat.zero_le _) (by omega) h
  ·split at h
   ·cases h;exact zcI
   ·cases h
theorem zmx{l:List Tok}{i0:Nat}{S:Nat->Nat->PR St}(hS:SCd l i0 S)(hM:SMon S)(m:zgr l S)(o:Nat):∀(f:Nat) (xs:List St) (i a:Nat) (c:Int),i0<=i->l.length+1-i<=f->i<=l.length->zaX l S o f xs i=.err a c->Cd c:=by
 intro f
 induction f with
 | zero=>intro xs i a c _ q d;omega
 | succ f ih =>
  intro xs i a c u q d h;rw[zaX] at h;split at h
  ·cases h
  ·rcases PR.bind_err h with h|⟨x,j,g,h⟩
   ·exact hS _ _ _ _ u d h
   ·have:=hM _ _ _ _ g;exact ih _ _ _ _ (by omega) (by omega) (m _ _ _ _ g) h
theorem zil{l:List Tok}{i:Nat}{S:Nat->Nat->PR St}(hS:SCd l (i+1) S)(hM:SMon S)(d:zgr l S){o a:Nat}{c:Int}(h:zaB l S i o=.err a c):Cd c:=by
 unfold zaB at h;rcases PR.bind_err h with h|⟨u,j,f,h⟩
 ·exact zii h
 ·obtain⟨g,rfl⟩:=zij f;exact zmx hS hM d _ _ _ _ _ _ (zr _) (zr _) (by omega) h
theorem zlB {l:List Tok} {S:Nat->Nat->PR St} (hM:SMon S) (d:zgr l S):∀ (f i o a:Nat) (c:Int),SCd l (i+1) S->l.length+1 - i<=f->i < l.length->zau l S f i o=.err a c->Cd c:=by
 intro f
 induction f with
 | zero=>intro i o a c _ j g;omega
 | succ f ih =>
  intro i o a c hS j g h;rw[zau] at h;rcases PR.bind_err h with h|⟨ys,k,m,h⟩
  ·exact zdo (zeA l _) (zb3 l) (zik l) h
  ·have m1:=zb2 (zb3 l) m;rcases PR.bind_err h with h | ⟨body,n,q,h⟩
   ·exact zil (hS.mono (by omega)) hM d h
   ·have m2:=zd3 hM q;split at h
    ·cases h
    ·split at h
     ·cases h
     ·rename_i hs
      have hi:=zbU hs;split at h
      ·cases h;exact zkg
      ·split at h
       ·rename_i hs2
        exact ih _ _ _ _ (hS.mono (by omega)) (by omega) (zbU (s:=[105,102]) (by rw[hs2];decide)) (PR.map_err h)
       ·exact zil (hS.mono (by omega)) hM d (PR.map_err h)
theorem zne(l:List Tok):∀(f i o a:Nat) (c:Int),l.length+1-i<=f->i<=l.length->zan l f i o=.err a c->Cd c:=by
 intro f
 induction f with
 | zero=>intro i o a c j g;omega
 | succ f ih =>
  intro i o a c j g h;have hS:SCd l (i+1) (zan l f):=fun i' o' a' c' g1 g2 g3=>ih i' o' a' c' (by omega) g2 g3
  rw[zan] at h;split at h
  ·cases h;exact zcI
  ·rename_i d
   have hi:=zdA (l:=l) (i:=i) (fun e=>d (by rw[e];decide));split at h
   ·rcases PR.bind_err h with h|⟨ys,k,d,h⟩
    ·exact zdo (zeA l _) (zb3 l) (zik l) h
    ·exact zfN (PR.map_err h)
   ·split at h
    ·split at h
     ·cases h;exact zcI
     ·cases h
    ·split at h
     ·exact zlB (zdK l f) (zgt l f) _ _ _ _ _ hS (zr _) hi h
     ·split at h
      ·split at h
       ·cases h;exact zcI
       ·exact zfN (PR.map_err h)
      ·split at h
       ·cases h;exact zcI
       ·exact zfN (PR.map_err h)
theorem all_cd(l:List Tok):∀(f:Nat) (xs:List St) (i a:Nat) (c:Int),l.length+1-i<=f->i<=l.length->allS l f xs i=.err a c->Cd c:=by
 intro f
 induction f with
 | zero=>intro xs i a c m d;omega
 | succ f ih =>
  intro xs i a c m d h;rw[allS] at h;split at h
  ·cases h
  ·rcases PR.bind_err h with h|⟨x,j,g,h⟩
   ·exact zne l _ _ _ _ _ (zr _) d h
   ·have:=zdK l _ _ _ _ _ g;exact ih _ _ _ _ (by omega) (zgt l _ _ _ _ _ g) h
theorem Cd.ne{c:Int}(h:Cd c):c≠0:=by rcases h with rfl|rfl <;> decide
theorem znf{l:List Tok}:∀(f:Nat) (xs:List St) (i:Nat) (ys:List St) (j:Nat),allS l f xs i=.ok ys j->(zaa l j).kind=4:=by
 intro f
 induction f with
 | zero=>intro xs i ys j h;cases h
 | succ f ih =>
  intro xs i ys j h;rw[allS] at h;split at h
  ·rename_i hk;cases h;exact hk
  ·obtain⟨x,k,-,d⟩:=PR.bind_ok h;exact ih _ _ _ _ d
end Go.Proofs.YtoaojdobjinhfaaGreatDoor
