/- ParseSmall: the statement that written shows, and its bodies. -/
import Derived.Test.YtoaojdobjinhfaaGreatDoorSmCQz
set_option linter.unusedSimpArgs false
set_option linter.unusedVariables false
namespace Go.Proofs.YtoaojdobjinhfaaGreatDoor
open Go.RowKit
def bodyV (h : Nat) : List Value := [.slice none 0 0, .slice (some ⟨h, 0, none⟩) 1 1, .slice (some ⟨h + 1 + 1, 0, none⟩) 1 1, .slice (some ⟨h + 1 + 1 + 1 + 1, 0, none⟩) 2 2, .slice (some ⟨h + 1 + 1 + 1 + 1 + 1, 0, none⟩) 1 1]
def BodyOk (m : Nat) (v : Value) (W : World) : Prop := ∃ l : List St, okSs l /\ szSs l <= 10 /\ SsV W m l v
theorem BodyOk.form{m:Nat}{v:Value}{W:World}(h:BodyOk m v W):∃a n c,v=.slice a n c:=by
 obtain⟨l,-,-,h⟩:=h;obtain⟨a,c,e⟩:=h.form;exact⟨a,_,c,e⟩
theorem OwnV.neq{w:World}{g j:Nat}{e i:TypeId}{vs f:List Value}(h:OwnV w g e vs)(k:OwnV w j i f)(d:e≠i):g≠j:=fun eq=>by
 subst eq;unfold OwnV at h k;rw[h] at k;cases k;exact d rfl
def Bods (m G h : Nat) (W : World) : Prop := OwnV W G 24 (bodyV h) /\ ∀ v ∈ bodyV h, BodyOk m v W
theorem Bods.cell{m G h:Nat}{W:World}(H:Bods m G h W){j:Nat}(g:j<5):∃a n c,BodyOk m (.slice a n c) W/\W.cell? ⟨G,j,none⟩=some (.slice a n c):=by
 have f:j<(bodyV h).length:=g;have d:=H.2 _ (List.getElem_mem f);obtain⟨a,n,c,e⟩:=d.form;rw[e] at d;exact⟨a,n,c,d,by rw[<-e];exact H.1.cell (i:=j) (by rw[yD f])⟩
theorem ss_two{W:World}{m g:Nat}{v:Value}(f:OwnV W g 56 [.int .u8 7,.int .i64 0,.string { data:=#[] },.slice none 0 0,.slice none 0 0,.slice none 0 0,.int .u8 1,.int .i64 0,.string { data:=#[99] },v,.slice none 0 0,.slice none 0 0])(i:m<=g){es:List Ex}(d:EsV W m es v):SsV W m [.mk 7 0 [] [] [] [],.mk 1 0 [99] es [] []] (.slice (some ⟨g,0,none⟩) 2 2):=by
 obtain⟨u,j,l,q⟩:=d;exact⟨_,zb7 f rfl (zr _) (by omega),.inr fun k hk=>by cases hk;exact i,StsC.cons (Sl.nil W 4) (.inl rfl) .nil (Sl.nil W 6) (.inl rfl) .nil (Sl.nil W 6) (.inl rfl) .nil (StsC.cons j l q (Sl.nil W 6) (.inl rfl) .nil (Sl.nil W 6) (.inl rfl) .nil .nil)⟩
def stV (o : Int) (v : Value) : List Value := [.int .u8 o, .int .i64 0, .string { data := #[] }, v, .slice none 0 0, .slice none 0 0]
def twoV (v : Value) : List Value := [.int .u8 7, .int .i64 0, .string { data := #[] }, .slice none 0 0, .slice none 0 0, .slice none 0 0, .int .u8 1, .int .i64 0, .string { data := #[99] }, v, .slice none 0 0, .slice none 0 0]
theorem bods_new{w:World}{m:Nat}(hm:m<=w.heap.size):∃W,W=((((((w.alloc (.cells #[.int .u8 6,.int .i64 0,.string { data:=#[] },.slice none 0 0,.slice none 0 0,.slice none 0 0] 56)).alloc (.cells #[.int .u8 1,.int .i64 1,.string { data:=#[] },.slice none 0 0] 29)).alloc (.cells #[.int .u8 4,.int .i64 0,.string { data:=#[] },.slice (some ⟨w.heap.size+1,0,none⟩) 1 1,.slice none 0 0,.slice none 0 0] 56)).alloc (.cells #[.int .u8 2,.int .i64 0,.string { data:=#[97] },.slice none 0 0] 29)).alloc (.cells #[.int .u8 7,.int .i64 0,.string { data:=#[] },.slice none 0 0,.slice none 0 0,.slice none 0 0,.int .u8 1,.int .i64 0,.string { data:=#[99] },.slice (some ⟨w.heap.size+1+1+1,0,none⟩) 1 1,.slice none 0 0,.slice none 0 0] 56)).alloc (.cells #[.int .u8 0,.int .i64 0,.string { data:=#[] },.slice none 0 0,.slice none 0 0,.slice none 0 0] 56)).alloc (.cells #[.slice none 0 0,.slice (some ⟨w.heap.size,0,none⟩) 1 1,.slice (some ⟨w.heap.size+1+1,0,none⟩) 1 1,.slice (some ⟨w.heap.size+1+1+1+1,0,none⟩) 2 2,.slice (some ⟨w.heap.size+1+1+1+1+1,0,none⟩) 1 1] 24)/\Below w.heap.size w W/\Bods m (w.heap.size+1+1+1+1+1+1) w.heap.size W:=by
 obtain⟨d,H,o1,l⟩:=newbox w 56 (stV 6 (.slice none 0 0));obtain⟨f,I,O,b2⟩:=newbox d 29 oneV;obtain⟨g,J,P,q⟩:=newbox f 56 (stV 4 (.slice (some ⟨w.heap.size+1,0,none⟩) 1 1));obtain⟨W4,K,Q,u⟩:=newbox g 29 nameV;obtain⟨i,L,R,y⟩:=newbox W4 56 (twoV (.slice (some ⟨w.heap.size+1+1+1,0,none⟩) 1 1));obtain⟨j,M,S,A⟩:=newbox i 56 (stV 0 (.slice none 0 0));obtain⟨W7,Z,T,B⟩:=newbox j 24 (bodyV w.heap.size);have U:d.heap.size=w.heap.size+1:=by rw[H];simp
 have s2:f.heap.size=w.heap.size+2:=by rw[I];simp[U]
 have V:g.heap.size=w.heap.size+3:=by rw[J];simp[s2]
 have X:W4.heap.size=w.heap.size+4:=by rw[K];simp[V]
 have Y:i.heap.size=w.heap.size+5:=by rw[L];simp[X]
 have s6:j.heap.size=w.heap.size+6:=by rw[M];simp[Y]
 rw[U] at O;rw[s2] at P;rw[V] at Q;rw[X] at R;rw[Y] at S;rw[s6] at T;have G:=A.trans (B.mono A.size);have F:=y.trans (G.mono y.size);have E:=u.trans (F.mono u.size);have D:=q.trans (E.mono q.size);have C:=b2.trans (D.mono b2.size);have k1:=o1.below C (zr _);have k2:=O.below D (zr _);have k3:=P.below E (zr _);have k4:=Q.below F (zr _);have k5:=R.below G (zr _);have k6:=S.below B (zr _);refine⟨W7,by rw[Z,M,L,K,J,I,H];rfl,l.trans (C.mono l.size),T,?_⟩;intro v N;simp only[bodyV,List.mem_cons,List.not_mem_nil,or_false] at N;have z:okI 0:=⟨by decide,by decide⟩;rcases N with rfl|rfl|rfl|rfl|rfl
 ·exact⟨[],trivial,by decide,SsV.nil _ _⟩
 ·exact⟨[.mk 6 0 [] [] [] []],⟨⟨by decide,z,by decide,trivial,trivial,trivial⟩,trivial⟩,by decide,ss_oneV (name:=[]) k1 hm (EsV.nil _ _) (SsV.nil _ _) (SsV.nil _ _)⟩
 ·exact⟨[.mk 4 0 [] [oneX] [] []],⟨⟨by decide,z,by decide,⟨⟨by decide,⟨by decide,by decide⟩,by decide,trivial⟩,trivial⟩,trivial,trivial⟩,trivial⟩,by decide,ss_oneV (name:=[]) k3 (by omega) (es_oneV (m1:=[]) k2 (by omega) (EsV.nil _ _)) (SsV.nil _ _) (SsV.nil _ _)⟩
 ·exact⟨[.mk 7 0 [] [] [] [],.mk 1 0 [99] [nameX] [] []],⟨⟨by decide,z,by decide,trivial,trivial,trivial⟩,⟨by decide,z,by decide,⟨⟨by decide,z,by decide,trivial⟩,trivial⟩,trivial,trivial⟩,trivial⟩,by decide,ss_two k5 (by omega) (es_oneV (m1:=[97]) k4 (by omega) (EsV.nil _ _))⟩
 ·exact⟨[.mk 0 0 [] [] [] []],⟨⟨by decide,z,by decide,trivial,trivial,trivial⟩,trivial⟩,by decide,ss_oneV (name:=[]) k6 (by omega) (EsV.nil _ _) (SsV.nil _ _) (SsV.nil _ _)⟩
def EsOk (W : World) (v : Value) : Prop := ∃ (g : Nat) (cs : List Value) (es : List Ex), okEs es /\ szEs es <= 10 /\ OwnV W g 29 cs /\ ∀ W', OwnV W' g 29 cs -> EsL W' W'.heap.size es v
theorem eo_three{W:World}{g e:Nat}(q:OwnV W g 29 threeV)(u:e<4):EsOk W (.slice (some ⟨g,0,none⟩) e 3):=by
 have i:okE oneX:=⟨by decide,⟨by decide,by decide⟩,by decide,trivial⟩;have m:okE nameX:=⟨by decide,⟨by decide,by decide⟩,by decide,trivial⟩;refine⟨g,threeV,[oneX,nameX,oneX].take e,?_,?_,q,fun W' h=>?_⟩
 ·rcases(by omega:e=0∨e=1∨e=2∨e=3) with rfl|rfl|rfl|rfl
  ·exact trivial
  ·exact⟨i,trivial⟩
  ·exact⟨i,m,trivial⟩
  ·exact⟨i,m,i,trivial⟩
 ·rcases(by omega:e=0∨e=1∨e=2∨e=3) with rfl|rfl|rfl|rfl <;> decide
 ·have hS:Sl W' 4 3 threeV (.slice (some ⟨g,0,none⟩) 3 3):=zb7 h rfl (zr _) (by omega);have d:=Sl.take hS (by omega:e<=3);have j:=h.lt;have f:∀{l c},ExsC W' (fun g=>g<W'.heap.size) l c->ExsC W' (fun g=>g<W'.heap.size) (oneX::l) (oneV++c):=fun h=>ExsC.cons (Sl.nil W' 4) (.inl rfl) .nil h
  have n1:∀{l c},ExsC W' (fun g=>g<W'.heap.size) l c->ExsC W' (fun g=>g<W'.heap.size) (nameX::l) (nameV++c):=fun h=>ExsC.cons (Sl.nil W' 4) (.inl rfl) .nil h
  rcases(by omega:e=0∨e=1∨e=2∨e=3) with rfl|rfl|rfl|rfl
  ·exact⟨_,d,.inl rfl,.nil⟩
  ·exact⟨_,d,.inr fun k hk=>by cases hk;exact j,f .nil⟩
  ·exact⟨_,d,.inr fun k hk=>by cases hk;exact j,f (n1 .nil)⟩
  ·exact⟨_,d,.inr fun k hk=>by cases hk;exact j,f (n1 (f .nil))⟩
theorem eo_neg{W:World}{g:Nat}(d:OwnV W g 29 [.int .u8 1,.int .i64 (-1),.string { data:=#[] },.slice none 0 0]):EsOk W (.slice (some ⟨g,0,none⟩) 1 1):=
 ⟨g,_,[.mk 1 (-1) [] []],⟨⟨by decide,⟨by decide,by decide⟩,by decide,trivial⟩,trivial⟩,by decide,d,fun W' h=>es_one (m1:=[]) h h.lt (EsL.nil _ _)⟩
def Z5 (w : World) (p G h a : Nat) (n : Int) (s : ByteArray) (v : Value) (W : World) : Prop := Leaf2 w W /\ w.heap.size <= p /\ EsOk W v /\ Bods (p + 1) G h W /\ ∃ v4 v5, OwnV W p 56 [.int .u8 a, .int .i64 n, .string s, v, v4, v5]
def Z4 (w : World) (p a : Nat) (n : Int) (s : ByteArray) (W : World) : Prop := Leaf2 w W /\ w.heap.size <= p /\ ∃ v, EsOk W v /\ OwnV W p 56 [.int .u8 a, .int .i64 n, .string s, v, .slice none 0 0, .slice none 0 0]
theorem z4_neg{w W:World}{p a:Nat}{n:Int}{s:ByteArray}{v:Value}(d:Leaf2 w W)(hp:w.heap.size<=p)(f:OwnV W p 56 [.int .u8 a,.int .i64 n,.string s,v,.slice none 0 0,.slice none 0 0]):Z4 w p a n s ((W.setCell ⟨p,3,none⟩ (.slice (some ⟨W.heap.size,0,none⟩) 1 1)).alloc (.cells #[.int .u8 1,.int .i64 (-1),.string { data:=#[] },.slice none 0 0] 29)):=by
 obtain⟨a1,a2,i⟩:=d;have g:Only (fun k=>k=p) W (W.setCell ⟨p,3,none⟩ (.slice (some ⟨W.heap.size,0,none⟩) 1 1)):=(Only.refl (fun k=>k=p) W).setIn rfl _;have l:(W.setCell ⟨p,3,none⟩ (.slice (some ⟨W.heap.size,0,none⟩) 1 1)).heap.size=W.heap.size:=by simp
 have d:Leaf2 w (W.setCell ⟨p,3,none⟩ (.slice (some ⟨W.heap.size,0,none⟩) 1 1)):=⟨a1.other f (by decide) g,a2.other f (by decide) g,i.trans (g.below (fun k hk=>by omega) i.size)⟩;have j:=OwnV.new (W.setCell ⟨p,3,none⟩ (.slice (some ⟨W.heap.size,0,none⟩) 1 1)) 29 [.int .u8 1,.int .i64 (-1),.string { data:=#[] },.slice none 0 0];rw[l] at j;exact⟨d.below ((yR _ _).alloc (zr _) _),hp,_,eo_neg j,(f.set 3 _).alloc _⟩
theorem EsOk.below{W f:World}{v:Value}(h:EsOk W v)(i:Below W.heap.size W f):EsOk f v:=by
 obtain⟨g,cs,es,a,b,c,d⟩:=h;exact⟨g,cs,es,a,b,c.below i (zr _),d⟩
theorem Bods.below{m G h:Nat}{W d:World}(H:Bods m G h W)(f:Below W.heap.size W d):Bods m G h d:=⟨H.1.below f (zr _),fun v hv=>(H.2 v hv).imp fun _ h=>⟨h.1,h.2.1,h.2.2.below f⟩⟩
theorem Z5.below{w W f:World}{p G h a:Nat}{n:Int}{s:ByteArray}{v:Value}(H:Z5 w p G h a n s v W)(d:Below W.heap.size W f):Z5 w p G h a n s v f:=by
 obtain⟨g,i,j,l,v4,v5,m⟩:=H;exact⟨g.below d,i,j.below d,l.below d,v4,v5,m.below d (zr _)⟩
theorem z5_put{w W:World}{p G h a i j:Nat}{n:Int}{s:ByteArray}{v x y u4 u5:Value}(H:Z5 w p G h a n s v W)(D:OwnV ((W.setCell ⟨p,i,none⟩ x).setCell ⟨p,j,none⟩ y) p 56 [.int .u8 a,.int .i64 n,.string s,v,u4,u5]):Z5 w p G h a n s v ((W.setCell ⟨p,i,none⟩ x).setCell ⟨p,j,none⟩ y):=by
 obtain⟨⟨a1,a2,l⟩,C,⟨g,cs,es,q,b2,u,z⟩,⟨A,B⟩,v4,v5,f⟩:=H;have d:Only (fun k=>k=p) W ((W.setCell ⟨p,i,none⟩ x).setCell ⟨p,j,none⟩ y):=((Only.refl (fun k=>k=p) W).setIn rfl _).setIn rfl _;have m:=Nat.lt_succ_self p;exact⟨⟨a1.other f (by decide) d,a2.other f (by decide) d,l.trans (d.below (fun k hk=>by omega) l.size)⟩,C,⟨g,cs,es,q,b2,u.other f (by decide) d,z⟩,⟨A.other f (by decide) d,fun v hv=>(B v hv).imp fun _ h=>⟨h.1,h.2.1,(h.2.2.set m).set m⟩⟩,u4,u5,D⟩
theorem BodyOk.below{m:Nat}{v:Value}{W d:World}(h:BodyOk m v W)(f:Below W.heap.size W d):BodyOk m v d:=h.imp fun _ h=>⟨h.1,h.2.1,h.2.2.below f⟩
theorem BodyOk.drew{m:Nat}{v:Value}{W:World}(h:BodyOk m v W):BodyOk m v W.drew:=h.imp fun _ h=>⟨h.1,h.2.1,h.2.2.below (yR _ _).drew⟩
def Z6 (w : World) (p G h a : Nat) (n : Int) (s : ByteArray) (v : Value) (W : World) : Prop := Z5 w p G h a n s v W /\ ∃ x y, BodyOk (p + 1) x W /\ BodyOk (p + 1) y W /\ OwnV W p 56 [.int .u8 a, .int .i64 n, .string s, v, x, y]
theorem z6_put{w W:World}{p G h a i j:Nat}{n:Int}{s:ByteArray}{v x y u4 u5:Value}(H:Z5 w p G h a n s v W)(g:BodyOk (p+1) u4 W)(l:BodyOk (p+1) u5 W)(d:OwnV ((W.setCell ⟨p,i,none⟩ x).setCell ⟨p,j,none⟩ y) p 56 [.int .u8 a,.int .i64 n,.string s,v,u4,u5]):Z6 w p G h a n s v ((W.setCell ⟨p,i,none⟩ x).setCell ⟨p,j,none⟩ y).drew:=by
 have f:=Nat.lt_succ_self p;have k:∀{v},BodyOk (p+1) v W->BodyOk (p+1) v ((W.setCell ⟨p,i,none⟩ x).setCell ⟨p,j,none⟩ y).drew:=fun h=>BodyOk.drew (h.imp fun _ h=>⟨h.1,h.2.1,(h.2.2.set f).set f⟩)
 exact⟨(z5_put H d).below (yR _ _).drew,u4,u5,k g,k l,d.drew⟩
theorem z5_call{w W:World}{p G h a g:Nat}{n:Int}{s:ByteArray}{v x y:Value}(H:Z5 w p G h a n s v W)(F:a<256)(u:okI n)(z:s.size<=10)(A:BodyOk (p+1) x W)(B:BodyOk (p+1) y W)(d:OwnV W g 56 [.int .u8 a,.int .i64 n,.string s,v,x,y])(m:Glob W):Calls Tryz.prog 18 #[.slice (some ⟨g,0,none⟩) 1 1] W (YesE W):=by
 obtain⟨-,-,⟨k,cs,es,f,b2,i,j⟩,-⟩:=H;obtain⟨l1,C,J,D⟩:=A;obtain⟨l2,E,y2,y3⟩:=B;obtain⟨q,rfl⟩:∃q,s=bstr q:=⟨s.data.toList,by unfold bstr;simp⟩;have I:q.length<=10:=by have:=z;unfold bstr at this;simpa[ByteArray.size] using this
 refine writes_any (l:=[.mk a n q es l1 l2]) ⟨⟨by omega,u,by omega,f,C,E⟩,trivial⟩ (ss_one d d.lt (j W i) (ss_low' D) (ss_low' y3)) ?_ m;simp only[szSs,szS];omega
end Go.Proofs.YtoaojdobjinhfaaGreatDoor
