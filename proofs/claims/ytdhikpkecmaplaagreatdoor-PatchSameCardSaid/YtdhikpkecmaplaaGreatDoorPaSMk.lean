/- The program's parser: rows of statements as values; what is read moves on. No walk in it. -/
import Derived.Test.YtdhikpkecmaplaaGreatDoorPaHMk
set_option linter.unusedSimpArgs false
set_option linter.unusedVariables false
set_option maxRecDepth 100000
set_option maxHeartbeats 4000000
namespace Go.Proofs.YtdhikpkecmaplaaGreatDoor
open Go.RowKit

def zeroT : List Value := [.int .u8 0, .int .i64 0, .string { data := #[] }, .slice none 0 0, .slice none 0 0, .slice none 0 0]
def StN (m : Nat) (W : World) (x : St) (u : Value) : Prop := StV W (fun b => m <= b) x u
def TsV (m : Nat) (W : World) (xs : List St) (u : Value) : Prop := ∃ cs, W.ownsRow m 184 6 u xs.length cs /\ StsC W (fun b => m <= b /\ u.ownBlock ≠ some b) xs cs
def TsBox (m gl : Nat) (W : World) (xs : List St) : Prop := ∃ u, OwnV W gl 63 [u] /\ TsV m W xs u
def StBox (m gx : Nat) (W : World) (x : St) : Prop := ∃ cs, OwnV W gx 184 cs /\ StsC W (fun b => m <= b /\ b ≠ gx) [x] cs
theorem StsC.only {S P:Nat->Prop} {w w':World} {xs:List St} {cs:List Value} (h:StsC w P xs cs) (ho:Only S w w') (hS:∀ b,P b->¬ S b):StsC w' P xs cs:=by
 induction h with
 | nil=>exact .nil
 | cons g1 g2 g3 b1 b2 _ l1 l2 _ _ ih1 ih2 ih3=>exact .cons (ho.sl g1 (g2.imp id fun k b hb=>hS b (k b hb))) g2 (g3.only ho hS) (ho.sl b1 (b2.imp id fun k b hb=>hS b (k b hb))) b2 ih1 (ho.sl l1 (l2.imp id fun k b hb=>hS b (k b hb))) l2 ih2 ih3
theorem TsV.only {S:Nat->Prop} {m:Nat} {W W':World} {xs:List St} {u:Value} (h:TsV m W xs u) (ho:Only S W W') (hS:∀ b,S b->b < m):TsV m W' xs u:=by
 obtain ⟨cs,h1,h2⟩:=h;exact ⟨cs,ho.row h1 (fun g hg hs=>by have:=(h1.lt g hg).1;have:=hS g hs;omega),h2.only ho (fun b hb hs=>by have:=hb.1;have:=hS b hs;omega)⟩
theorem TsBox.turns {m gl p:Nat} {W W':World} {xs:List St} (h:TsBox m gl W xs) (ht:Turns p W W') (hp:p < m) (hg:gl≠p):TsBox m gl W' xs:=by
 obtain ⟨u,hO,hX⟩:=h;exact ⟨u,ht.own hO hg,hX.only ht (fun b e=>by cases e;exact hp)⟩
theorem StBox.turns {m gx p:Nat} {W W':World} {x:St} (h:StBox m gx W x) (ht:Turns p W W') (hp:p < m) (hg:gx≠p):StBox m gx W' x:=by
 obtain ⟨cs,hO,hX⟩:=h;exact ⟨cs,ht.own hO hg,hX.only ht (fun b hb e=>by have:=hb.1;omega)⟩
theorem TsV.low {m m':Nat} {W:World} {xs:List St} {u:Value} (h:TsV m W xs u) (hm:m'<=m):TsV m' W xs u:=by
 obtain ⟨cs,h1,h2⟩:=h;exact ⟨cs,zeg h1 hm,h2.weak fun b _ k=>⟨by omega,k.2⟩⟩
theorem StN.turns {m p:Nat} {W W':World} {x:St} {u:Value} (h:StN m W x u) (ht:Turns p W W') (hp:p < m):StN m W' x u:=by
 obtain ⟨cs,e,hX⟩:=h;exact ⟨cs,e,hX.only ht (fun b hb e=>by omega)⟩
theorem StN.low {m m':Nat} {W:World} {x:St} {u:Value} (h:StN m W x u) (hm:m'<=m):StN m' W x u:=by
 obtain ⟨cs,e,hX⟩:=h;exact ⟨cs,e,hX.weak fun b _ k=>by omega⟩
theorem StsC.form1 {w:World} {P:Nat->Prop} {op n:Int} {name:List UInt8} {es:List Ex} {body els:List St} {cs:List Value} (h:StsC w P [.mk op n name es body els] cs):∃ ae pe ab pb al pl,cs=[.int .u8 op,.int .i64 n,.string (bstr name),.slice ae es.length pe,.slice ab body.length pb,.slice al els.length pl]:=by
 obtain ⟨_,_,_,_,_,_,ae,ab,al,pe,pb,pl,e,rfl⟩:=h.one;cases e;exact ⟨ae,pe,ab,pb,al,pl,rfl⟩
theorem zha:zeroT.all (fun u=>u.oneCell')=true:=rfl
theorem zhb {w:World} {m g k cap:Nat} {cs:List Value} (h:w.ownsRow m 184 6 (.slice (some ⟨g,0,none⟩) (k+1) cap) (k+1) (cs++zeroT)) :
  w.cell? ⟨g,k * 6,none⟩=some (.int .u8 0)/\w.cell? ⟨g,k * 6+1,none⟩=some (.int .i64 0)/\w.cell? ⟨g,k * 6+2,none⟩=some (.string { data:=#[] })/\w.cell? ⟨g,k * 6+3,none⟩=some (.slice none 0 0)/\w.cell? ⟨g,k * 6+4,none⟩=some (.slice none 0 0)/\w.cell? ⟨g,k * 6+5,none⟩=some (.slice none 0 0):=by
 have hl:cs.length=k * 6:=by
  have:=h.1;rw [yA] at this;have:zeroT.length=6:=rfl;omega
 refine ⟨?_,?_,?_,?_,?_,?_⟩
 all_goals
  rw [h.cellAt _ (by omega),List.getElem?_append_right (by omega),hl];simp [zeroT]
theorem zna (cs:List Value) (z0 z1 z2 z3 z4 z5 a b c d e f:Value) (k:Nat) (hk:cs.length=k):((((((cs++[z0,z1,z2,z3,z4,z5]).set k a).set (k+1) b).set (k+2) c).set (k+3) d).set (k+4) e).set (k+5) f=cs++[a,b,c,d,e,f]:=by
 subst hk;rw [List.set_append_right _ _ (by omega),List.set_append_right _ _ (by omega),List.set_append_right _ _ (by omega),List.set_append_right _ _ (by omega),List.set_append_right _ _ (by omega),List.set_append_right _ _ (by omega)];simp
def put6 (w : World) (g j : Nat) (a b c d e f : Value) : World := (((((w.setCell ⟨g, j * 6, none⟩ a).setCell ⟨g, j * 6 + 1, none⟩ b).setCell ⟨g, j * 6 + 2, none⟩ c).setCell ⟨g, j * 6 + 3, none⟩ d).setCell ⟨g, j * 6 + 4, none⟩ e).setCell ⟨g, j * 6 + 5, none⟩ f
theorem zgn {w:World} {m g j cap:Nat} {cs:List Value} {z0 z1 z2 z3 z4 z5:Value} (h:w.ownsRow m 184 6 (.slice (some ⟨g,0,none⟩) (j+1) cap) (j+1) (cs++[z0,z1,z2,z3,z4,z5])) (hc:cs.length=j * 6) (a b c d e f:Value) :
  (put6 w g j a b c d e f).ownsRow m 184 6 (.slice (some ⟨g,0,none⟩) (j+1) cap) (j+1) (cs++[a,b,c,d,e,f]):=by
 have:=((((((h.stored (j * 6) a).1.stored (j * 6+1) b).1.stored (j * 6+2) c).1.stored (j * 6+3) d).1.stored (j * 6+4) e).1.stored (j * 6+5) f).1;rwa [zna _ _ _ _ _ _ _ _ _ _ _ _ _ _ hc] at this
theorem zd2 (w:World) (g j:Nat) (a b c d e f:Value):Only (fun b=>b=g) w (put6 w g j a b c d e f):=
 ((((((Turns.refl g w).set _ _).set _ _).set _ _).set _ _).set _ _).set _ _
theorem zjF {wr w5 X w6:World} {m p k:Nat} {u u':Value} {x:St} {xs:List St} {cs cx:List Value} (hR:wr.ownsRow m 184 6 u k cs) (hX:StsC wr (fun b=>m<=b/\u.ownBlock≠some b) xs cs) (hT:Turns p wr w5) (hp:p < m) (hX5:StsC w5 (fun b=>wr.heap.size<=b) [x] cx) (hm:m<=wr.heap.size)
  (hb:Below w5.heap.size w5 X) (hg:X.grownBy w6 u.ownBlock) (hat:u'.ownBlock=u.ownBlock∨∃ g,u'.ownBlock=some g/\X.heap.size<=g):StsC w6 (fun b=>m<=b/\u'.ownBlock≠some b) (xs++[x]) (cs++cx):=by
 have h1:StsC w5 (fun b=>m<=b/\u.ownBlock≠some b) (xs++[x]) (cs++cx):=(hX.only hT (fun b h e=>by have:=h.1;omega)).append (hX5.weak fun b _ h=>⟨yT hm h,fun e=>by have:=(hR.lt b e).2;omega⟩)
 have h2:StsC w5 (fun b=>(m<=b/\u'.ownBlock≠some b)/\u.ownBlock≠some b) (xs++[x]) (cs++cx):=h1.weak fun b hlt h=>⟨⟨h.1,fun e=>by
  rcases hat with h' | ⟨g,h',hge⟩
  ·rw [h'] at e;exact h.2 e
  ·rw [h'] at e;cases e;have:=hb.size;omega⟩,h.2⟩
 exact ((h2.under hb (zr _)).grown hg (fun b e h=>h.2 e)).weak fun b _ h=>h.1
theorem zgo {w wr w5 X w6 W7:World} {p gl g6 k cap6 j2 o1:Nat} {u v a b c d e f:Value} {l:List Tok} {x:St} {xs:List St} {cs:List Value} (hT1:Only (fun b=>b=p∨b=gl) w wr) (hp:p < w.heap.size) (hgl:gl < w.heap.size) (n3:gl≠p) (hv:∀ b,v.ownBlock=some b->b < w.heap.size) (hvl:∀ b,v.ownBlock=some b->b≠gl)
  (hR1:wr.ownsRow w.heap.size 184 6 u k cs) (hX1:StsC wr (fun b=>w.heap.size<=b/\u.ownBlock≠some b) xs cs) (hT5:Turns p wr w5) (hP5:PSt w5 p v l j2 o1) (hX5:StsC w5 (fun b=>wr.heap.size<=b) [x] [a,b,c,d,e,f]) (hL5:OwnV w5 gl 63 [u])
  (hb:Below w5.heap.size w5 X) (hg:X.grownBy w6 u.ownBlock) (hat:(Value.slice (some ⟨g6,0,none⟩) (k+1) cap6).ownBlock=u.ownBlock∨∃ g,(Value.slice (some ⟨g6,0,none⟩) (k+1) cap6).ownBlock=some g/\X.heap.size<=g) (hown:w6.ownsRow w.heap.size 184 6 (.slice (some ⟨g6,0,none⟩) (k+1) cap6) (k+1) (cs++zeroT))
  (hW:W7=(put6 w6 g6 k a b c d e f).setCell ⟨gl,0,none⟩ (.slice (some ⟨g6,0,none⟩) (k+1) cap6)∨W7=put6 (w6.setCell ⟨gl,0,none⟩ (.slice (some ⟨g6,0,none⟩) (k+1) cap6)) g6 k a b c d e f) :
  PSt W7 p v l j2 o1/\OwnV W7 gl 63 [.slice (some ⟨g6,0,none⟩) (k+1) cap6]/\W7.ownsRow w.heap.size 184 6 (.slice (some ⟨g6,0,none⟩) (k+1) cap6) (k+1) (cs++[a,b,c,d,e,f])/\StsC W7 (fun b=>w.heap.size<=b/\(Value.slice (some ⟨g6,0,none⟩) (k+1) cap6).ownBlock≠some b) (xs++[x]) (cs++[a,b,c,d,e,f])/\Only (fun b=>b=p∨b=gl) w W7:=by
 have hsz:=hT1.size;have hu:∀ g,u.ownBlock=some g->w.heap.size<=g:=fun g e=>(hR1.lt g e).1
 have hg6:w.heap.size<=g6:=(hown.lt g6 rfl).1;have h56:Only (fun b=>u.ownBlock=some b) w5 w6:=(Only.of_below hb).trans (Only.of_grown hg (fun g e=>e))
 have h67:Only (fun b=>b=g6∨b=gl) w6 W7:=by
  rcases hW with rfl | rfl
  ·exact Only.setCell ((zd2 _ _ _ _ _ _ _ _ _).mono fun _ _ e=>.inl e) (.inr (.inr rfl)) _
  ·exact (Only.setCell (Only.refl _ w6) (.inr (.inr rfl)) _).trans ((zd2 _ _ _ _ _ _ _ _ _).mono fun _ _ e=>.inl e)
 have hcl:cs.length=k * 6:=hR1.1;have hL6:OwnV w6 gl 63 [u]:=h56.own hL5 (fun e=>by have:=hu _ e;omega)
 refine ⟨(hP5.only h56 (fun e=>by have:=hu _ e;omega) (fun g e e2=>by have:=hu _ e2;have:=hv g e;omega)).only h67 (fun e=>by rcases e with e | e <;> omega) (fun g e e2=>e2.elim (fun e2=>by have:=hv g e;omega) (hvl g e)),?_,?_,(zjF hR1 hX1 hT5 hp hX5 hsz hb hg hat).only h67 (fun b h e=>by
   rcases e with e | e
   ·exact h.2 (by rw [e];rfl)
   ·have:=h.1;omega),?_⟩
 ·rcases hW with rfl | rfl
  ·exact ((zd2 _ _ _ _ _ _ _ _ _).own hL6 (by omega)).set 0 _
  ·exact (zd2 _ _ _ _ _ _ _ _ _).own (hL6.set 0 _) (by omega)
 ·rcases hW with rfl | rfl
  ·exact Only.row (S:=fun b=>b=gl) (Only.setCell (Only.refl _ _) (.inr (Eq.refl gl)) _) (zgn hown hcl a b c d e f) (fun g e e2=>by have:=(hown.lt g e).1;omega)
  ·exact zgn (Only.row (S:=fun b=>b=gl) (Only.setCell (Only.refl _ _) (.inr (Eq.refl gl)) _) hown (fun g e e2=>by have:=(hown.lt g e).1;omega)) hcl a b c d e f
 ·exact ((hT1.trans (hT5.mono fun _ _ e=>.inl e)).transNew h56 (fun i e=>.inr (hu i e))).transNew h67 (fun i e=>by
   rcases e with e | e
   ·exact .inr (by omega)
   ·exact .inl (.inr e))
theorem ze1 {l:List Tok} {i o:Nat} {x:Ex} {j:Nat} (h:zaz l i o=.ok x j):i < j:=by
 unfold zaz at h;split at h
 ·cases h
 ·obtain ⟨y,k,h1,h2⟩:=PR.bind_ok h;have:=zb3 l _ _ _ _ _ h1;split at h2
  ·cases h2
  ·cases h2;omega
def SMon (S : Nat -> Nat -> PR St) : Prop := ∀ i o x j, S i o = .ok x j -> i < j
theorem zlA {l:List Tok} {S:Nat->Nat->PR St} (hS:SMon S) (o:Nat):∀ (f:Nat) (xs:List St) (i:Nat) (ys:List St) (j:Nat),zaX l S o f xs i=.ok ys j->i < j:=by
 intro f
 induction f with
 | zero=>intro xs i ys j h;cases h
 | succ f ih =>
  intro xs i ys j h;rw [zaX] at h;split at h
  ·cases h;omega
  ·obtain ⟨y,k,h1,h2⟩:=PR.bind_ok h;have:=hS _ _ _ _ h1;have:=ih _ _ _ _ h2;omega
theorem zd3 {l:List Tok} {S:Nat->Nat->PR St} (hS:SMon S) {i o:Nat} {ys:List St} {j:Nat} (h:zaB l S i o=.ok ys j):i < j:=by
 unfold zaB at h;obtain ⟨y,k,h1,h2⟩:=PR.bind_ok h;have:=zfO h1;have:=zlA hS _ _ _ _ _ _ h2;omega
theorem zke {l:List Tok} {S:Nat->Nat->PR St} (hS:SMon S):∀ (f i o:Nat) (x:St) (j:Nat),zau l S f i o=.ok x j->i < j:=by
 intro f
 induction f with
 | zero=>intro i o x j h;cases h
 | succ f ih =>
  intro i o x j h;rw [zau] at h;obtain ⟨ys,k,h1,h2⟩:=PR.bind_ok h;obtain ⟨body,m,h3,h4⟩:=PR.bind_ok h2;have a1:=zb2 (zb3 l) h1;have a2:=zd3 hS h3;split at h4
  ·cases h4;omega
  ·split at h4
   ·cases h4;omega
   ·split at h4
    ·cases h4
    ·split at h4
     ·obtain ⟨y,h5,-⟩:=PR.map_ok h4;have:=ih _ _ _ _ h5;omega
     ·obtain ⟨y,h5,-⟩:=PR.map_ok h4;have:=zd3 hS h5;omega
theorem zdK (l:List Tok):∀ f,SMon (zan l f):=by
 intro f
 induction f with
 | zero=>intro i o x j h;cases h
 | succ f ih =>
  intro i o x j h;rw [zan] at h;split at h
  ·cases h
  ·split at h
   ·obtain ⟨ys,k,h1,h2⟩:=PR.bind_ok h;obtain ⟨y,h5,-⟩:=PR.map_ok h2;have a1:=zb2 (zb3 l) h1;have:=ze1 h5;omega
   ·split at h
    ·split at h
     ·cases h
     ·cases h;omega
    ·split at h
     ·exact zke ih _ _ _ _ _ h
     ·split at h
      ·split at h
       ·cases h
       ·obtain ⟨y,h5,-⟩:=PR.map_ok h;have:=ze1 h5;omega
      ·split at h
       ·cases h
       ·obtain ⟨y,h5,-⟩:=PR.map_ok h;have:=ze1 h5;omega
theorem zfM:(Tryz.prog.info? 184).map (fun i=>(i.zero,i.size,i.bytes))=some (some (.agg #[.int .u8 0,.int .i64 0,.string ByteArray.empty,.slice none 0 0,.slice none 0 0,.slice none 0 0]),6,104):=by kernel_rfl
theorem zkf {w:World} {p bp gl:Nat} {v:Value} {l:List Tok} {i o:Nat} (h:PSt w p v l i (o+1)) (hE:PEnv l) (ho:o < 200) (S:Nat->Nat->PR St)
  (hp:OwnV w bp 122 [.pointer (some ⟨p,0,none⟩)]) (hl:OwnV w gl 63 [.slice none 0 0])
  (n2:bp≠p) (n3:gl≠p) (n7:bp≠gl) (hvl:∀ b,v.ownBlock=some b->b≠gl)
  (hX:∀ i' W,i<=i'->PSt W p v l i' (o+1)->Calls Tryz.prog 107 #[.pointer (some ⟨p,0,none⟩)] W (RdE l p v (o+1) W (StN W.heap.size) (S i' (o+1))))
  (hmon:SMon S) :
  Calls Tryz.prog 175 #[.pointer (some ⟨bp,0,none⟩),.pointer (some ⟨gl,0,none⟩)] w (OpE l p v (o+1) (fun b=>b=p∨b=gl) w (TsBox w.heap.size gl) (zaX l S o (l.length+1 - i) [] i)):=by
 have hlt:=h.lt;have hglt:=hl.lt;have hv:=zao h;have hil:=h.here;have hsm:=hE.small;have Hp:=zh hp;have Hl:=zh hl;have H:=zh h;have HX:=zh hX;have Hmon:=zh hmon;obtain ⟨final,hfin⟩:∃ r,zaX l S o (l.length+1 - i) [] i=r:=⟨_,rfl⟩;have Hf:=zh hfin;rw [hfin];clear h hp hl hX hfin hmon;go_enter Tryz.func175,Tryz.ntmps175
 go_wp2_with fail
 go_loopg [2,3,4,5,6,7,8,9,10,11] (l.length - i) (fun g _ _ _ _ _ _ _ _ _ _ wr=>∃ (k i' F:Nat) (u:Value) (xs:List St) (cs:List Value),g=l.length - i'/\i<=i'/\i' < l.length/\l.length - i' < F/\xs.length=k/\k<=i'/\Hid (PSt wr p v l i' (o+1))/\Hid (OwnV wr gl 63 [u])/\Hid (wr.ownsRow w.heap.size 184 6 u k cs)/\Hid (StsC wr (fun b=>w.heap.size<=b/\u.ownBlock≠some b) xs cs)/\Hid (zaX l S o F xs i'=final)/\Hid (Only (fun b=>b=p∨b=gl) w wr))
 case atStart=>exact ⟨0,i,l.length+1 - i,.slice none 0 0,[],[],rfl,zr _,hil,by omega,rfl,by omega,H,Hl,zh (World.ownsRow_nil _ _ _ _),zh .nil,Hf,zh (Only.refl _ _)⟩
 case round =>
  clear H Hl Hf;obtain ⟨k,i',F,u,xs,cs,rfl,hii,hil2,hF,hxs,hki,HP0,HL0,HR0,HX0,Hf,HT0⟩:=hrel;have hsz0:=HT0.out.size;obtain ⟨F,rfl⟩:∃ F',F=F'+1:=⟨F - 1,by omega⟩;have Hf1:Hid ((if isS l i' [125]=true then .ok xs (i'+1) else (S i' (o+1)).andThen fun x j=>zaX l S o F (xs++[x]) j)=final):=zh (by rw [<- Hf.out,zaX]);have HI:=zh (zbo HP0.out hE [125]);have HNd:Hid (∀ W,PSt W p v l i' (o+1)->Calls Tryz.prog 135 #[.pointer (some ⟨p,0,none⟩),.string { data:=#[125] }] W (RdE l p v (o+1) W zgl (za0 l i' [125]))):=zh (fun W hP=>zcv hP hE [125]);have hnd:za0 l i' [125]=if isS l i' [125]=false then .err i' 120 else .ok () (i'+1):=rfl
  rw [hnd] at HNd;have p0:=(HT0.out.own Hp.out (by simp [n2,n7])).cell (i:=0) rfl;clear Hf hnd
  generalize isS l i' [125]=q at *
  go_wp2_with fail
  go_at_call 173;refine HI.out.mono ?_;rintro e1 w2 ⟨rfl,hb2⟩;have HP:=zh (HP0.out.below hb2);have HL:=zh (HL0.out.below hb2 (zr _));have HR:=zh (zbu HR0.out hb2 (zr _));have HXs:=zh (HX0.out.under hb2 (zr _));have HT:=zh (HT0.out.trans (Only.of_below hb2));have hsz2:=HT.out.size;clear HP0 HL0 HR0 HX0 HT0 HI hb2 p0 hsz0;have p0:=(HT.out.own Hp.out (by simp [n2,n7])).cell (i:=0) rfl
  cases q with
  | true =>
   have Hf2:Hid (.ok xs (i'+1)=final):=zh (by rw [<- Hf1.out,yP rfl]);have HN:=zh (HNd.out w2 HP.out);rw [yN (by decide)] at HN;clear Hf1 HNd;go_wp2_with fail
   go_at_call 135;refine HN.out.mono ?_;rintro e4 w4 ⟨u4,rfl,rfl,hP4,hT4⟩;clear HN;have HP4:=zh hP4;have HT4:=zh hT4;clear hP4 hT4;go_wp2_with fail
   rw [<- Hf2.out];refine yE (results_none rfl _ _ _) rfl ⟨rfl,⟨u,HT4.out.own HL.out n3,?_⟩,HP4.out,HT.out.trans (HT4.out.mono fun _ _ e=>.inl e)⟩
   exact TsV.only (W:=w2) ⟨cs,by rw [hxs];exact HR.out,HXs.out⟩ HT4.out (fun b e=>by cases e;exact hlt)
  | false =>
   have Hf2:Hid ((S i' (o+1)).andThen (fun x j=>zaX l S o F (xs++[x]) j)=final):=zh (by rw [<- Hf1.out,yN (by decide)]);clear Hf1 HNd;have HC:Hid (∀ W,Below w2.heap.size w2 W->Calls Tryz.prog 107 #[.pointer (some ⟨p,0,none⟩)] W (RdE l p v (o+1) W (StN W.heap.size) (S i' (o+1)))):=zh (fun W hb=>HX.out i' W hii (HP.out.below hb));have hmn:=Hmon.out i' (o+1);generalize S i' (o+1)=R at HC Hf2 hmn;have l0:=HL.out.cell (i:=0) rfl;obtain ⟨ua,cap,rfl,-,-⟩:=Sl.form (Sl.of_own HR.out);go_upto_region 1 with (fail)
   cases R with
   | err a c =>
    have Hf3:Hid (.err a c=final):=Hf2;clear hmn hF hki hxs hil hil2 hsm hii;refine zdi [0,0,5,0,3,2,2,2,2] (fun b w'=>Below w2.heap.size w2 w'/\(b=false->w'=w2.drew)) (by kernel_rfl) (by kernel_rfl) ⟨(yR _ _).drew,fun _=>rfl⟩ ?_;try simp only [Act.put,zs1,zs3,zs2]
    apply stepsDie2.val
    ·rintro b w' hE;have HE:=zh hE;have l0':=Below.keep hE.1 l0;clear hE;try simp only [Act.put,zs1,zs3,zs2]
     go_wp2;exact ⟨rfl,HE.out⟩
    try simp only [Act.put,zs1,zs3,zs2]
    apply stepsDie2.val
    ·rintro b w' hE;have HE:=zh hE;have p0':=Below.keep hE.1 p0;clear hE;try simp only [Act.put,zs1,zs3,zs2]
     go_wp2;exact ⟨rfl,HE.out⟩
    try simp only [Act.put,zs1,zs3,zs2]
    apply stepsDie2.dies
    ·rintro b w' hE;have HE:=zh hE;clear hE;try simp only [Act.put,zs1,zs3,zs2]
     go_wp2_with fail
     go_at_call 107;refine (HC.out _ HE.out.1).mono ?_;rintro e5 w5 ⟨he5,hT5⟩;unfold Bad at he5;subst he5;exact fun aa haa=>⟨haa,by rw [<- Hf3.out];exact ⟨rfl,HT.out.trans ((Only.of_below HE.out.1).trans (hT5.mono fun _ _ e=>.inl e))⟩⟩
    try simp only [Act.put,zs1,zs3,zs2]
    apply stepsDie2.val
    ·rintro b w' hE;have HE:=zh hE;clear hE;try simp only [Act.put,zs1,zs3,zs2]
     go_wp2;exact ⟨rfl,HE.out⟩
    try simp only [Act.put,zs1,zs3,zs2]
    apply stepsDie2.mem
    ·rintro w' ⟨-,hE0⟩;obtain rfl:=hE0 rfl;try simp only [Act.put,zs1,zs3,zs2]
     go_wp2;have hba:Below w2.heap.size w2 (w2.alloc (.cells #[.int .u8 0,.int .i64 0,.string { data:=#[] },.slice none 0 0,.slice none 0 0,.slice none 0 0] 184)).drew:=((yR _ _).alloc (zr _) _).drew;first | exact ⟨rfl,hba⟩ | exact ⟨rfl,hba,fun h=>by cases h⟩
    apply stepsDie2.skip;apply stepsDie2.skip;apply stepsDie2.skip;apply stepsDie2.skip
    exact stepsDie2.done
   | ok x j2 =>
    have hj12:=hmn x j2 rfl;obtain ⟨op5,n5,name5,es5,bo5,el5⟩:=x;have Hf3:Hid (zaX l S o F (xs++[.mk op5 n5 name5 es5 bo5 el5]) j2=final):=Hf2;clear hmn Hf2;have hglk:gl < w2.heap.size:=HL.out.lt;have hbpk:bp < w2.heap.size:=(HT.out.own Hp.out (by simp [n2,n7])).lt;have Hxs:=zh hxs;have hk2:(k:Int)<=16385:=by omega
    have hk0:(0:Int)<=(k:Int):=by omega
    have hkz:(k:Int) < (k:Int)+1:=by omega
    have Hk:=zh (show k<=16385/\i' < j2/\i<=i'/\k<=i'/\l.length - i' < F+1 from ⟨by omega,hj12,hii,hki,hF⟩);clear hxs hki hF hil2 hil hii hj12 hsm hk2;go_region_law (first | (refine zaR rfl (.tmp 5) (.tmp 9) 63 rfl hRA zfM Tryz.underlying63 rfl (by decide) (by simp [Act.eval,Act.put]) hSA (by simp [Act.eval,Act.put]) zha (by have:=Hk.out.1;unfold maxLen;omega) (by have:=Hk.out.1;omega) (by first | exact hsz5 | (simp;omega)) ?_;intro v6 w6 hown6 hg6 hb6 hat6;have hat6':=hat6;obtain ⟨g6,cap6,rfl,hmg6⟩:=zcd hown6;have hL6:OwnV w6 gl 63 [.slice ua k cap]:=OwnV.grown (by first | exact hL5 | exact hL5.alloc _) hg6 (fun e=>by have:=(hR5.lt gl e.symm).1;omega);have l6:=hL6.cell (i:=0) rfl;have lf6:=hL6.free;have f0:=hown6.frozenAt (k * 6);have f1:=hown6.frozenAt (k * 6+1);have f2:=hown6.frozenAt (k * 6+2);have f3:=hown6.frozenAt (k * 6+3);have f4:=hown6.frozenAt (k * 6+4);have f5:=hown6.frozenAt (k * 6+5);obtain ⟨c0,c1,c2,c3,c4,c5⟩:=zhb hown6;have hne6:¬ g6=gl:=(by omega);have hne6':¬ gl=g6:=(by omega)) | (refine zaR rfl (.tmp 5) (.tmp 9) 63 rfl hR5 zfM Tryz.underlying63 rfl (by decide) (by simp [Act.eval,Act.put]) hSB (by simp [Act.eval,Act.put]) zha (by have:=Hk.out.1;unfold maxLen;omega) (by have:=Hk.out.1;omega) (by first | exact hsz5 | (simp;omega)) ?_;intro v6 w6 hown6 hg6 hb6 hat6;have hat6':=hat6;obtain ⟨g6,cap6,rfl,hmg6⟩:=zcd hown6;have hL6:OwnV w6 gl 63 [.slice ua k cap]:=OwnV.grown (by first | exact hL5 | exact hL5.alloc _) hg6 (fun e=>by have:=(hR5.lt gl e.symm).1;omega);have l6:=hL6.cell (i:=0) rfl;have lf6:=hL6.free;have f0:=hown6.frozenAt (k * 6);have f1:=hown6.frozenAt (k * 6+1);have f2:=hown6.frozenAt (k * 6+2);have f3:=hown6.frozenAt (k * 6+3);have f4:=hown6.frozenAt (k * 6+4);have f5:=hown6.frozenAt (k * 6+5);obtain ⟨c0,c1,c2,c3,c4,c5⟩:=zhb hown6;have hne6:¬ g6=gl:=(by omega);have hne6':¬ gl=g6:=(by omega)) | (go_simp;refine (HC.out _ (by first | exact (yR _ _).drew | exact (yR _ _).drew.alloc (zr _) _ | exact ((yR _ _).alloc (zr _) _).drew)).mono ?_;rintro e5 w5 ⟨u5,rfl,⟨cs5,rfl,hX5⟩,hP5,hT5⟩;obtain ⟨ae5,pe5,ab5,pb5,al5,pl5,rfl⟩:=hX5.form1;have hR5:w5.ownsRow w.heap.size 184 6 (.slice ua k cap) k cs:=Only.row hT5 (by first | exact HR.out | exact HR.out.alloc _) (fun g hg e=>by have:=(HR.out.lt g hg).1;omega);have hL5:OwnV w5 gl 63 [.slice ua k cap]:=Only.own hT5 (by first | exact HL.out | exact HL.out.alloc _) n3;have l5:=hL5.cell (i:=0) rfl;have l5a:=(hL5.alloc (.cells #[.int .u8 0,.int .i64 0,.string { data:=#[] },.slice none 0 0,.slice none 0 0,.slice none 0 0] 184)).cell (i:=0) rfl;have hRA:(w5.alloc (.cells #[.int .u8 0,.int .i64 0,.string { data:=#[] },.slice none 0 0,.slice none 0 0,.slice none 0 0] 184)).ownsRow w.heap.size 184 6 (.slice ua k cap) k cs:=hR5.alloc _;have hSA:Sl (w5.alloc (.cells #[.int .u8 0,.int .i64 0,.string { data:=#[] },.slice none 0 0,.slice none 0 0,.slice none 0 0] 184)) 6 1 zeroT (.slice (some ⟨w5.heap.size,0,none⟩) 1 1):=zcw (OwnV.new w5 184 zeroT) rfl (zr _) (by decide);have hsz5:w.heap.size<=w5.heap.size:=(yT hsz2 (by first | exact hT5.size | (have:=hT5.size;simp at this;omega)));(first | have hSB:Sl w5 6 1 zeroT (.slice (some ⟨w2.heap.size,0,none⟩) 1 1):=zcw (g:=w2.heap.size) (e:=184) (Only.own hT5 (OwnV.new w2.drew 184 zeroT) (by omega)) rfl (zr _) (by decide) | skip)))
    all_goals
     have hrw5:Turns p w2 w5:=by first | exact (Turns.below (yR _ _).drew).trans hT5 | exact (Turns.below ((yR _ _).drew.alloc (zr _) _)).trans hT5 | exact (Turns.below ((yR _ _).alloc (zr _) _).drew).trans hT5
     have hX5':StsC w5 (fun b=>w2.heap.size<=b) [.mk op5 n5 name5 es5 bo5 el5] [.int .u8 op5,.int .i64 n5,.string (bstr name5),.slice ae5 es5.length pe5,.slice ab5 bo5.length pb5,.slice al5 el5.length pl5]:=hX5.weak fun b _ h=>(by first | exact h | exact (show w2.heap.size<=b from yT (by simp) h))
     first | (obtain ⟨W7,hW7⟩:∃ W7,W7=(((((((w6.setCell ⟨g6,k * 6,none⟩ (.int .u8 op5)).setCell ⟨g6,k * 6+1,none⟩ (.int .i64 n5)).setCell ⟨g6,k * 6+2,none⟩ (.string (bstr name5))).setCell ⟨g6,k * 6+3,none⟩ (.slice ae5 es5.length pe5)).setCell ⟨g6,k * 6+4,none⟩ (.slice ab5 bo5.length pb5)).setCell ⟨g6,k * 6+5,none⟩ (.slice al5 el5.length pl5)).setCell ⟨gl,0,none⟩ (.slice (some ⟨g6,0,none⟩) (k+1) cap6)):=⟨_,rfl⟩;rw [<- hW7];have hst:=zgo (W7:=W7) HT.out hlt hglt n3 hv hvl HR.out HXs.out hrw5 hP5 hX5' hL5 (by first | exact yR _ _ | exact (yR _ _).alloc (zr _) _) hg6 hat6' hown6 (.inl hW7);clear hW7) | (obtain ⟨W7,hW7⟩:∃ W7,W7=(((((((w6.setCell ⟨gl,0,none⟩ (.slice (some ⟨g6,0,none⟩) (k+1) cap6)).setCell ⟨g6,k * 6,none⟩ (.int .u8 op5)).setCell ⟨g6,k * 6+1,none⟩ (.int .i64 n5)).setCell ⟨g6,k * 6+2,none⟩ (.string (bstr name5))).setCell ⟨g6,k * 6+3,none⟩ (.slice ae5 es5.length pe5)).setCell ⟨g6,k * 6+4,none⟩ (.slice ab5 bo5.length pb5)).setCell ⟨g6,k * 6+5,none⟩ (.slice al5 el5.length pl5)):=⟨_,rfl⟩;rw [<- hW7];have hst:=zgo (W7:=W7) HT.out hlt hglt n3 hv hvl HR.out HXs.out hrw5 hP5 hX5' hL5 (by first | exact yR _ _ | exact (yR _ _).alloc (zr _) _) hg6 hat6' hown6 (.inr hW7);clear hW7)
     have Hst:=zh hst;have hjl:j2 < l.length:=hP5.here;clear hst hrw5 hX5 hX5' hP5 hT5 hL5 hR5 hRA hSA hL6 hat6 hat6' hg6 hb6 l5 l5a l6 lf6 f0 f1 f2 f3 f4 f5 c0 c1 c2 c3 c4 c5 hown6 hsz5;go_wp2_with fail
     go_roundg (l.length - j2)
     case measure=>have:=Hk.out;omega
     case rel =>
      obtain ⟨r1,r2,r3,r4,r5⟩:=Hst.out;have hk5:=Hk.out;exact ⟨k+1,j2,F,_,xs++[.mk op5 n5 name5 es5 bo5 el5],_,rfl,by omega,hjl,by omega,by have:=Hxs.out;rw [yA,this];rfl,by omega,zh r1,zh r2,zh r3,zh r4,Hf3,zh r5⟩
theorem zhw (caps:Array Value) (W:World):(callFunc 175 caps).run Tryz.prog W=.ok (.enter 175 caps) W:=(enters_of (P:=Tryz.prog) Tryz.func175 (by kernel_rfl) rfl) caps W
theorem zgp {w:World} {p:Nat} {v:Value} {l:List Tok} {i o:Nat} (h:PSt w p v l i o) (hE:PEnv l) (ho:o<=300) (S:Nat->Nat->PR St)
  (hX:∀ i' W,i < i'->o < 200->PSt W p v l i' (o+1)->Calls Tryz.prog 107 #[.pointer (some ⟨p,0,none⟩)] W (RdE l p v (o+1) W (StN W.heap.size) (S i' (o+1))))
  (hmon:SMon S) :
  Calls Tryz.prog 134 #[.pointer (some ⟨p,0,none⟩)] w (RdE l p v o w (TsV w.heap.size) (zaB l S i o)):=by
 have hlt:=h.lt;have hv:=zao h;have hmf:=zmf Tryz.prog
 obtain ⟨W1,hW1,hb1,hP1,hL1,hsz⟩:=opened w [.pointer (some ⟨p,0,none⟩)] [.slice none 0 0] 122 63;have a0:=hP1.cell (i:=0) rfl;have H1:=h.below hb1;have hs1:w.heap.size+1 < W1.heap.size:=hL1.lt
 have HC:=zh (zdz (S:=fun b=>b=p∨b=w.heap.size+1) H1 hE ho [123] 175 #[.pointer (some ⟨w.heap.size,0,none⟩),.pointer (some ⟨w.heap.size+1,0,none⟩)] (.inl rfl) (TsBox W1.heap.size (w.heap.size+1)) (fun W W' x hx ht=>hx.turns ht (by omega) (by omega)) (zaX l S o (l.length+1 - (i+1)) [] (i+1)) (zhw _)
  (fun his ho2 W hT hP=>by
   have hWs:=hT.size;have:=zkf hP hE ho2 S (hT.own hP1 (by omega)) (hT.own hL1 (by omega)) (by omega) (by omega) (by omega) (fun b e=>by have:=hv b e;omega) (fun i' W' hi' hP'=>hX i' W' (by omega) ho2 hP') hmon;refine this.mono fun e w' he=>?_
   generalize zaX l S o (l.length+1 - (i+1)) [] (i+1)=R at *
   cases R with
   | err a c=>exact he
   | ok xs j =>
    obtain ⟨e1,⟨u,hO,hXs⟩,e3,e4⟩:=he
    exact ⟨e1,⟨u,hO,hXs.low hWs⟩,e3,e4⟩))
 have hR:zaB l S i o=(zay l i [123] o).andThen (fun _ _=>zaX l S o (l.length+1 - (i+1)) [] (i+1)):=by
  unfold zaB zay;split
  ·rfl
  ·split <;> rfl
 rw [hR]
 generalize ((zay l i [123] o).andThen (fun _ _=>zaX l S o (l.length+1 - (i+1)) [] (i+1)))=R at *
 have HW1:=zh hW1;have Hb1:=zh hb1;have Hsz:=zh hsz;clear hW1 hb1 hP1 hL1 hsz H1 h hX hmon hR hs1;go_enter Tryz.func134,Tryz.ntmps134
 go_upto_region 1 with (fail)
 rw [<- HW1.out];go_wp2_with fail
 go_at_call 168;refine HC.out.mono ?_;intro e4 w4 he4;clear HC
 cases R with
 | err a c =>
  obtain ⟨he4,hT4⟩:=he4;unfold Bad at he4;subst he4;have HT4:=zh hT4;clear hT4;go_wp2_with fail
  exact ⟨rfl,rfl,(Only.of_below (S:=fun b=>b=p) Hb1.out).transNew HT4.out (fun b e=>by
   rcases e with e | e
   ·exact .inl e
   ·exact .inr (by omega))⟩
 | ok x j =>
  obtain ⟨rfl,⟨u,hO,⟨cs4,hR4,hX4⟩⟩,hP4,hT4⟩:=he4;have HXs:Hid (TsV W1.heap.size w4 x u):=zh ⟨cs4,hR4,hX4⟩;obtain ⟨ua,cap,rfl,-,-⟩:=Sl.form (Sl.of_own hR4);have x0:=hO.cell (i:=0) rfl;have xf:=hO.free;have HP4:=zh hP4;have HT4:=zh hT4;clear hR4 hX4 hP4 hT4 hO;go_wp2_with fail
  have hW:Only (fun b=>b=w.heap.size+1) w4 (w4.setCell ⟨w.heap.size+1,0,none⟩ (.slice ua x.length cap)):=(Turns.refl _ _).set _ _;refine yE (v:=.slice ua x.length cap) (by simp [results,Tryz.results134,go_sem,x0]) rfl ⟨_,rfl,?_,?_,?_⟩
  ·exact (HXs.out.only hW (fun b e=>by have:=Hsz.out;omega)).low (by have:=Hsz.out;omega)
  ·exact HP4.out.only hW (by omega) (fun b hb e=>by have:=hv b hb;omega)
  ·exact ((Only.of_below (S:=fun b=>b=p) Hb1.out).transNew HT4.out (fun b e=>by
    rcases e with e | e
    ·exact .inl e
    ·exact .inr (by omega))).setNew (by omega) _
def Cd (c : Int) : Prop := c = 120 ∨ c = 121
def ECd (l : List Tok) (i0 : Nat) (E : Nat -> Nat -> Nat -> PR Ex) : Prop := ∀ i o q a c, i0 <= i -> i <= l.length -> E i o q = .err a c -> Cd c
def SCd (l : List Tok) (i0 : Nat) (S : Nat -> Nat -> PR St) : Prop := ∀ i o a c, i0 <= i -> i <= l.length -> S i o = .err a c -> Cd c
theorem PR.bind_err {α β:Type} {r:PR α} {f:α->Nat->PR β} {a:Nat} {c:Int} (h:r.andThen f=.err a c):r=.err a c∨∃ x j,r=.ok x j/\f x j=.err a c:=by
 cases r with
 | ok x j=>exact .inr ⟨x,j,rfl,h⟩
 | err a' c'=>cases h;exact .inl rfl
theorem PR.map_err {α β:Type} {r:PR α} {f:α->β} {a:Nat} {c:Int} (h:r.map f=.err a c):r=.err a c:=by
 cases r with
 | ok x j=>cases h
 | err a' c'=>cases h;rfl
theorem zcI:Cd 120:=.inl rfl
theorem zkg:Cd 121:=.inr rfl
theorem zii {l:List Tok} {i:Nat} {s:List UInt8} {o a:Nat} {c:Int} (h:zay l i s o=.err a c):Cd c:=by
 unfold zay at h;split at h
 ·cases h;exact zcI
 ·split at h
  ·cases h;exact zkg
  ·cases h
theorem zij {l:List Tok} {i:Nat} {s:List UInt8} {o:Nat} {u:Unit} {j:Nat} (h:zay l i s o=.ok u j):i < l.length/\j=i+1:=by
 unfold zay at h;split at h
 ·cases h
 ·rename_i hs
  split at h
  ·cases h
  ·cases h;exact ⟨zbU hs,rfl⟩
theorem znb {l:List Tok} {i0:Nat} {E:Nat->Nat->Nat->PR Ex} (hE:ECd l i0 E) (hM:EMon E) (hI:zcj l E):∀ (f:Nat) (x:Ex) (i o q a:Nat) (c:Int),i0<=i+1->l.length+1 - i<=f->i<=l.length->zaD l E f x i o q=.err a c->Cd c:=by
 intro f
 induction f with
 | zero=>intro x i o q a c _ h1 h2;omega
 | succ f ih =>
  intro x i o q a c h0 h1 h2 h;simp only [zaD] at h;split at h
  ·cases h
  ·rename_i hs
   have hi:=ze3 (l:=l) (i:=i) (fun e=>hs (.inr e));rcases PR.bind_err h with h | ⟨y,j,hy,h⟩
   ·exact hE _ _ _ _ _ h0 (by omega) h
   ·have m:=hM _ _ _ _ _ hy;have n:=hI _ _ _ _ _ hy;split at h
    ·cases h;exact zcI
    ·exact ih _ _ _ _ _ _ (by omega) (by omega) n h
theorem znc {l:List Tok} {i0:Nat} {E:Nat->Nat->Nat->PR Ex} (hE:ECd l i0 E) (hM:EMon E) (hI:zcj l E) (o:Nat) (stop:List UInt8):∀ (m:Nat) (xs:List Ex) (i a:Nat) (c:Int),i0<=i->i<=l.length->zav l E o stop m xs i=.err a c->Cd c:=by
 intro m
 induction m with
 | zero =>
  intro xs i a c _ _ h;simp only [zav] at h;split at h
  ·cases h
  ·cases h;exact zcI
 | succ m ih =>
  intro xs i a c h0 h1 h;simp only [zav] at h;split at h
  ·rcases PR.bind_err h with h | ⟨y,j,hy,h⟩
   ·exact hE _ _ _ _ _ h0 h1 h
   ·have:=hM _ _ _ _ _ hy;exact ih _ _ _ _ (by omega) (hI _ _ _ _ _ hy) h
  ·split at h
   ·cases h;exact zcI
   ·rename_i hs
    have hi:=zbU hs;rcases PR.bind_err h with h | ⟨y,j,hy,h⟩
    ·exact hE _ _ _ _ _ (by omega) (by omega) h
    ·have:=hM _ _ _ _ _ hy;exact ih _ _ _ _ (by omega) (hI _ _ _ _ _ hy) h
theorem zdo {l:List Tok} {i:Nat} {E:Nat->Nat->Nat->PR Ex} (hE:ECd l (i+1) E) (hM:EMon E) (hI:zcj l E) {o:Nat} {s stop:List UInt8} {m a:Nat} {c:Int} (h:zad l E i o s stop m=.err a c):Cd c:=by
 rcases PR.bind_err h with h | ⟨u,j,hu,h⟩
 ·exact zii h
 ·obtain ⟨h1,rfl⟩:=zij hu;exact znc hE hM hI _ _ _ _ _ _ _ (zr _) (by omega) h
theorem ECd.mono {l:List Tok} {i j:Nat} {E:Nat->Nat->Nat->PR Ex} (h:ECd l i E) (hij:i<=j):ECd l j E:=fun i' o q a c h1 h2=>h i' o q a c (by omega) h2
theorem SCd.mono {l:List Tok} {i j:Nat} {S:Nat->Nat->PR St} (h:SCd l i S) (hij:i<=j):SCd l j S:=fun i' o a c h1 h2=>h i' o a c (by omega) h2
theorem zkh {l:List Tok} {i:Nat} {E:Nat->Nat->Nat->PR Ex} (hE:ECd l (i+1) E) (hM:EMon E) (hI:zcj l E) {o a:Nat} {c:Int} (h:zah l E i o=.err a c):Cd c:=by
 unfold zah at h;split at h
 ·cases h
 ·split at h
  ·rcases PR.bind_err h with h | ⟨xs,k,hk,h⟩
   ·exact zdo hE hM hI h
   ·have:=zdC hk
    cases xs with
    | nil=>cases this
    | cons z r=>cases h
  ·split at h
   ·cases h;exact zcI
   ·split at h
    ·exact zdo (hE.mono (by omega)) hM hI (PR.map_err h)
    ·split at h
     ·exact zdo (hE.mono (by omega)) hM hI (PR.map_err h)
     ·split at h
      ·cases h
      ·split at h
       ·cases h
       ·split at h
        ·cases h;exact zcI
        ·cases h
theorem zmw {l:List Tok} {E:Nat->Nat->Nat->PR Ex} (hM:EMon E) (hI:zcj l E):∀ (f i o a:Nat) (c:Int),ECd l (i+1) E->l.length+1 - i<=f->i<=l.length->zas l E f i o=.err a c->Cd c:=by
 intro f
 induction f with
 | zero=>intro i o a c _ h1 h2;omega
 | succ f ih =>
  intro i o a c hE h1 h2 h;simp only [zas] at h;split at h
  ·exact zkh hE hM hI h
  ·rename_i hs
   split at h
   ·cases h;exact zkg
   ·have hi:i < l.length:=by
     by_cases h45:isS l i [45]=false
     ·exact zbU (s:=[33]) (fun e=>hs ⟨h45,e⟩)
     ·exact zbU h45
    exact ih _ _ _ _ (hE.mono (by omega)) (by omega) (by omega) (PR.map_err h)
theorem znd (l:List Tok):∀ (f i o q a:Nat) (c:Int),l.length+1 - i<=f->i<=l.length->zaw l f i o q=.err a c->Cd c:=by
 intro f
 induction f with
 | zero=>intro i o q a c h1 h2;omega
 | succ f ih =>
  intro i o q a c h1 h2 h;have hE:ECd l (i+1) (zaw l f):=fun i' o' q' a' c' g1 g2 g3=>ih i' o' q' a' c' (by omega) g2 g3
  simp only [zaw] at h;rcases PR.bind_err h with h | ⟨x,j,hx,h⟩
  ·exact zmw (zdc l f) (zc3 l f) _ _ _ _ _ hE (zr _) h2 h
  ·have:=zd5 (zdc l f) _ _ _ _ _ hx;exact znb hE (zdc l f) (zc3 l f) _ _ _ _ _ _ _ (by omega) (zr _) (zcD _ _ _ _ _ hx) h
theorem zeA (l:List Tok) (i0:Nat):ECd l i0 (zaA l):=fun _ _ _ _ _ _ h2 h=>znd l _ _ _ _ _ _ (zr _) h2 h
theorem zik (l:List Tok):zcj l (zaA l):=fun _ _ _ _ _ h=>zc3 l _ _ _ _ _ _ h
theorem zfN {l:List Tok} {i o a:Nat} {c:Int} (h:zaz l i o=.err a c):Cd c:=by
 unfold zaz at h;split at h
 ·cases h;exact zcI
 ·rename_i hs
  have hi:=zbU hs;rcases PR.bind_err h with h | ⟨x,j,hx,h⟩
  ·exact zeA l 0 _ _ _ _ _ (Nat.zero_le _) (by omega) h
  ·split at h
   ·cases h;exact zcI
   ·cases h
theorem zmx {l:List Tok} {i0:Nat} {S:Nat->Nat->PR St} (hS:SCd l i0 S) (hM:SMon S) (hI:zgr l S) (o:Nat):∀ (f:Nat) (xs:List St) (i a:Nat) (c:Int),i0<=i->l.length+1 - i<=f->i<=l.length->zaX l S o f xs i=.err a c->Cd c:=by
 intro f
 induction f with
 | zero=>intro xs i a c _ h1 h2;omega
 | succ f ih =>
  intro xs i a c h0 h1 h2 h;rw [zaX] at h;split at h
  ·cases h
  ·rcases PR.bind_err h with h | ⟨x,j,hx,h⟩
   ·exact hS _ _ _ _ h0 h2 h
   ·have:=hM _ _ _ _ hx;exact ih _ _ _ _ (by omega) (by omega) (hI _ _ _ _ hx) h
theorem zil {l:List Tok} {i:Nat} {S:Nat->Nat->PR St} (hS:SCd l (i+1) S) (hM:SMon S) (hI:zgr l S) {o a:Nat} {c:Int} (h:zaB l S i o=.err a c):Cd c:=by
 unfold zaB at h;rcases PR.bind_err h with h | ⟨u,j,hu,h⟩
 ·exact zii h
 ·obtain ⟨h1,rfl⟩:=zij hu;exact zmx hS hM hI _ _ _ _ _ _ (zr _) (zr _) (by omega) h
theorem zlB {l:List Tok} {S:Nat->Nat->PR St} (hM:SMon S) (hI:zgr l S):∀ (f i o a:Nat) (c:Int),SCd l (i+1) S->l.length+1 - i<=f->i < l.length->zau l S f i o=.err a c->Cd c:=by
 intro f
 induction f with
 | zero=>intro i o a c _ h1 h2;omega
 | succ f ih =>
  intro i o a c hS h1 h2 h;rw [zau] at h;rcases PR.bind_err h with h | ⟨ys,k,hk,h⟩
  ·exact zdo (zeA l _) (zb3 l) (zik l) h
  ·have m1:=zb2 (zb3 l) hk;rcases PR.bind_err h with h | ⟨body,n,hn,h⟩
   ·exact zil (hS.mono (by omega)) hM hI h
   ·have m2:=zd3 hM hn;split at h
    ·cases h
    ·split at h
     ·cases h
     ·rename_i hs
      have hi:=zbU hs;split at h
      ·cases h;exact zkg
      ·split at h
       ·rename_i hs2
        exact ih _ _ _ _ (hS.mono (by omega)) (by omega) (zbU (s:=[105,102]) (by rw [hs2];decide)) (PR.map_err h)
       ·exact zil (hS.mono (by omega)) hM hI (PR.map_err h)
theorem zne (l:List Tok):∀ (f i o a:Nat) (c:Int),l.length+1 - i<=f->i<=l.length->zan l f i o=.err a c->Cd c:=by
 intro f
 induction f with
 | zero=>intro i o a c h1 h2;omega
 | succ f ih =>
  intro i o a c h1 h2 h;have hS:SCd l (i+1) (zan l f):=fun i' o' a' c' g1 g2 g3=>ih i' o' a' c' (by omega) g2 g3
  rw [zan] at h;split at h
  ·cases h;exact zcI
  ·rename_i hk
   have hi:=zdA (l:=l) (i:=i) (fun e=>hk (by rw [e];decide));split at h
   ·rcases PR.bind_err h with h | ⟨ys,k,hk,h⟩
    ·exact zdo (zeA l _) (zb3 l) (zik l) h
    ·exact zfN (PR.map_err h)
   ·split at h
    ·split at h
     ·cases h;exact zcI
     ·cases h
    ·split at h
     ·exact zlB (zdK l f) (zgt l f) _ _ _ _ _ hS (zr _) hi h
     ·split at h
      ·split at h
       ·cases h;exact zcI
       ·exact zfN (PR.map_err h)
      ·split at h
       ·cases h;exact zcI
       ·exact zfN (PR.map_err h)
theorem all_cd (l:List Tok):∀ (f:Nat) (xs:List St) (i a:Nat) (c:Int),l.length+1 - i<=f->i<=l.length->allS l f xs i=.err a c->Cd c:=by
 intro f
 induction f with
 | zero=>intro xs i a c h1 h2;omega
 | succ f ih =>
  intro xs i a c h1 h2 h;rw [allS] at h;split at h
  ·cases h
  ·rcases PR.bind_err h with h | ⟨x,j,hx,h⟩
   ·exact zne l _ _ _ _ _ (zr _) h2 h
   ·have:=zdK l _ _ _ _ _ hx;exact ih _ _ _ _ (by omega) (zgt l _ _ _ _ _ hx) h
theorem Cd.ne {c:Int} (h:Cd c):c≠0:=by rcases h with rfl | rfl <;> decide
theorem znf {l:List Tok}:∀ (f:Nat) (xs:List St) (i:Nat) (ys:List St) (j:Nat),allS l f xs i=.ok ys j->(zaa l j).kind=4:=by
 intro f
 induction f with
 | zero=>intro xs i ys j h;cases h
 | succ f ih =>
  intro xs i ys j h;rw [allS] at h;split at h
  ·rename_i hk;cases h;exact hk
  ·obtain ⟨x,k,-,h2⟩:=PR.bind_ok h;exact ih _ _ _ _ h2
end Go.Proofs.YtdhikpkecmaplaaGreatDoor
