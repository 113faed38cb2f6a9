/- marcheslaw13.limits, walked. -/
import Derived.Test.YtdeneckmoejcfaaRegion10Qs
import Derived.Test.YtdeneckmoejcfaaSubMQs
import Derived.Test.YtdeneckmoejcfaaWChkZs
import Derived.Test.YtdeneckmoejcfaaWTelZs
import Derived.Deep.CutBlock
import Derived.Lib.SlBytesRow
set_option linter.unusedSimpArgs false
set_option linter.unusedVariables false
set_option maxRecDepth 100000
set_option maxHeartbeats 16000000
namespace Go.Proofs.Ytdeneckmoejcfaa
open Go.RowKit
def LetP (x : St) : Prop := ∃ (nm nm' : List UInt8) (op n : Int), x = .mk 1 0 nm [.mk op n nm' []] [] [] /\ nm.length <= 3 /\ nm'.length <= 3 /\ (0 <= op /\ op <= 255) /\ okI n
theorem let_ok {x:St} (h:LetP x):okS x/\szS x<=2:=by
 obtain ⟨nm,nm',op,n,rfl,hl,hl',ho,hn⟩:=h;refine ⟨⟨by decide,⟨by decide,by decide⟩,by omega,⟨⟨ho,hn,by omega,trivial⟩,trivial⟩,trivial,trivial⟩,?_⟩;simp only [szSs,szS,szEs,szE];omega
theorem lets_ok {Q:St->Prop} (hQ:∀ x,Q x->okS x/\szS x<=2):∀ (xs:List St),(∀ x ∈ xs,Q x)->okSs xs/\szSs xs<=2 * xs.length:=by
 intro xs
 induction xs with
 | nil=>intro _;exact ⟨trivial,by simp [szSs]⟩
 | cons x r ih =>
  intro h;obtain ⟨h1,h2⟩:=ih (fun y hy=>h y (List.mem_cons_of_mem _ hy));obtain ⟨h3,h4⟩:=hQ x (h x (List.mem_cons_self ..));refine ⟨⟨h3,h1⟩,?_⟩;simp only [szSs,yB];omega
theorem conv_row (w:World) (g n cap:Nat) (l:List UInt8) (h:∀ i,i < l.length->w.cell? ⟨g,i,none⟩=some (.int .u8 ((l[i]?).getD 0).toNat)) (hn:l.length=n) :
  (convert 75 9 (.slice (some ⟨g,0,none⟩) n cap)).run Try.prog w=.ok (.string (bstr l)) w:=by
 subst hn;have hl:(bstr l).size=l.length:=by rw [<- zaq,zdn]
 have:=Lib.run_convert_whole (P:=Try.prog) w 75 5 9 Try.underlying75 Try.underlying5 Try.underlying9 g 0 (bstr l) (fun i hi=>by
  rw [hl] at hi;rw [Nat.zero_add,h i hi,<- zdH _ i (by rw [hl];exact hi)]
  simp [zdn,hi]) cap
 rw [hl] at this;exact this
theorem conv_two (w:World) (x y:UInt8) (c d:Int) (hc:c=(x.toNat:Int)) (hd:d=(y.toNat:Int)) :
  (convert 75 9 (.slice (some ⟨w.heap.size,0,none⟩) 2 2)).run Try.prog (w.alloc (.cells #[.int .u8 c,.int .u8 d] 5))=.ok (.string (bstr [x,y])) (w.alloc (.cells #[.int .u8 c,.int .u8 d] 5)):=by
 subst hc;subst hd;refine conv_row _ _ 2 2 [x,y] (fun i hi=>?_) rfl;have:i=0∨i=1:=by simp only [yB,yL] at hi;omega
 rcases this with rfl | rfl
 all_goals rw [World.cell?_alloc_new];rfl
theorem u8_mk {c:Int} (h0:0<=c) (h1:c < 256):∃ x:UInt8,c=(x.toNat:Int):=⟨UInt8.ofNat c.toNat,by
 rw [UInt8.toNat_ofNat']
 omega⟩
theorem let_worlds (wc:World) (a b op n:Int) (nm:List UInt8) (x y:UInt8):∃ W,W=((wc.alloc (.cells #[.int .u8 a,.int .u8 b] 5)).alloc (.cells #[.int .u8 op,.int .i64 n,.string (bstr nm),.slice none 0 0] 65)).alloc (.cells #[.int .u8 1,.int .i64 0,.string ({ data:=#[118] }++bstr [x,y]),.slice (some ⟨wc.heap.size+1,0,none⟩) 1 1,.slice none 0 0,.slice none 0 0] 59)/\Below wc.heap.size wc W/\OwnV W (wc.heap.size+1) 65 [.int .u8 op,.int .i64 n,.string (bstr nm),.slice none 0 0]/\Sl W 6 1 [.int .u8 1,.int .i64 0,.string ({ data:=#[118] }++bstr [x,y]),.slice (some ⟨wc.heap.size+1,0,none⟩) 1 1,.slice none 0 0,.slice none 0 0] (.slice (some ⟨wc.heap.size+1+1,0,none⟩) 1 1)/\wc.heap.size+3=W.heap.size:=by
 refine ⟨_,rfl,(((yR _ _).alloc (zr _) _).alloc (by simp) _).alloc (by simp;omega) _,?_,?_,by simp⟩
 ·have:=OwnV.new (wc.alloc (.cells #[.int .u8 a,.int .u8 b] 5)) 65 [.int .u8 op,.int .i64 n,.string (bstr nm),.slice none 0 0];exact OwnV.alloc (by simpa using this) _
 ·refine zb7 (e:=59) ?_ rfl (zr _) (by omega);have:=OwnV.new ((wc.alloc (.cells #[.int .u8 a,.int .u8 b] 5)).alloc (.cells #[.int .u8 op,.int .i64 n,.string (bstr nm),.slice none 0 0] 65)) 59 [.int .u8 1,.int .i64 0,.string ({ data:=#[118] }++bstr [x,y]),.slice (some ⟨wc.heap.size+1,0,none⟩) 1 1,.slice none 0 0,.slice none 0 0];simpa using this
theorem new_own (w:World) (e:TypeId) (vs:List Value):∃ W,W=w.alloc (.cells vs.toArray e)/\OwnV W w.heap.size e vs/\Below w.heap.size w W/\w.heap.size < W.heap.size/\Hid (W.heap.size=w.heap.size+1):=⟨_,rfl,OwnV.new _ _ _,(yR _ _).alloc (zr _) _,by simp,zh (by simp)⟩
def oneV : List Value := [.int .u8 1, .int .i64 1, .string { data := #[] }, .slice none 0 0]
def Lets (Q : St -> Prop) (W : World) (B k : Nat) (v : Value) : Prop := ∃ (xs : List St) (cs : List Value), xs.length = k /\ (∀ x ∈ xs, Q x) /\ W.ownsRow B 59 6 v k cs /\ StsC W (fun g => B <= g /\ v.ownBlock ≠ some g) xs cs
theorem Lets.below {Q:St->Prop} {W W':World} {B k:Nat} {v:Value} (h:Lets Q W B k v) (hb:Below W.heap.size W W'):Lets Q W' B k v:=by
 obtain ⟨xs,cs,h1,h2,h3,h4⟩:=h;exact ⟨xs,cs,h1,h2,zbu h3 hb (zr _),h4.under hb (zr _)⟩
theorem Lets.ssl {Q:St->Prop} {W:World} {B k:Nat} {v:Value} (h:Lets Q W B k v):∃ xs:List St,xs.length=k/\(∀ x ∈ xs,Q x)/\SsL W W.heap.size xs v:=by
 obtain ⟨xs,cs,h1,h2,h3,h4⟩:=h;subst h1;exact ⟨xs,rfl,h2,cs,Sl.of_own h3,.inr fun g hg=>(h3.lt g hg).2,h4.weak fun g hg _=>hg⟩
theorem let_push {wo wc W5 w6:World} {B k:Nat} {v v6:Value} {xs:List St} {cs:List Value} {op n:Int} {nm:List UInt8} {x y:UInt8} (hp:(0<=op/\op<=255)/\okI n/\nm.length<=3) (hxl:xs.length=k) (hxp:∀ x ∈ xs,LetP x) (hown:wo.ownsRow B 59 6 v k cs) (hT:StsC wo (fun g=>B<=g/\v.ownBlock≠some g) xs cs) (hB:B<=wo.heap.size) (hb:Below wo.heap.size wo wc) (hb5:Below wc.heap.size wc W5) (hO5:OwnV W5 (wc.heap.size+1) 65 [.int .u8 op,.int .i64 n,.string (bstr nm),.slice none 0 0])
  (hown6:w6.ownsRow B 59 6 v6 (k+1) (cs++[.int .u8 1,.int .i64 0,.string ({ data:=#[118] }++bstr [x,y]),.slice (some ⟨wc.heap.size+1,0,none⟩) 1 1,.slice none 0 0,.slice none 0 0])) (hg:W5.grownBy w6 v.ownBlock) (hat:v6.ownBlock=v.ownBlock∨∃ g,v6.ownBlock=some g/\W5.heap.size<=g):Lets LetP w6 B (k+1) v6:=by
 have hs:=hb.size
 have hX2:StsC W5 (fun g=>wo.heap.size<=g) [.mk 1 0 [118,x,y] [.mk op n nm []] [] []] [.int .u8 1,.int .i64 0,.string ({ data:=#[118] }++bstr [x,y]),.slice (some ⟨wc.heap.size+1,0,none⟩) 1 1,.slice none 0 0,.slice none 0 0]:=
  StsC.cons (zb7 hO5 rfl (zr _) (by omega)) (.inr fun g hg=>by cases hg;exact (show wo.heap.size<=wc.heap.size+1 by omega)) (ExsC.cons (Sl.nil W5 4) (.inl rfl) .nil .nil) (Sl.nil W5 6) (.inl rfl) .nil (Sl.nil W5 6) (.inl rfl) .nil .nil
 have h:=ziF hown hT (hb.trans (hb5.mono hs)) hX2 hB (yR _ _) hg hat;refine ⟨_,_,by simp [hxl],?_,hown6,h⟩;intro z hz;rcases List.mem_append.1 hz with hz | hz
 ·exact hxp z hz
 ·rw [List.mem_singleton.1 hz];exact ⟨[118,x,y],nm,op,n,rfl,zr _,hp.2.2,hp.1,hp.2.1⟩
theorem two_tree {w6:World} {k cap:Nat} (hk:k<=100) {a:Option Addr} {xs:List St} (hxl:xs.length=k+1) (hxp:∀ x ∈ xs,LetP x) (hL:SsL w6 w6.heap.size xs (.slice a (k+1) cap)) {op n:Int} {name:List UInt8} {es:List Ex} {body els:List St} {ve vb vl:Value} (hat:xs[k]? = some (.mk op n name es body els)) (hE:EsL w6 w6.heap.size es ve) (hB:SsL w6 w6.heap.size body vb) (hl:SsL w6 w6.heap.size els vl) :
  ∀ W2 g g2,Below w6.heap.size w6 W2->OwnV W2 g 65 oneV->OwnV W2 g2 59 [.int .u8 5,.int .i64 0,.string { data:=#[] },.slice (some ⟨g,0,none⟩) 1 1,.slice a (k+1) cap,.slice none 0 0,.int .u8 op,.int .i64 n,.string (bstr name),ve,vb,vl]->Calls Try.prog 13 #[.slice (some ⟨g2,0,none⟩) 2 2] W2 fun e w'=>e=.returned (.bool true)/\Below W2.heap.size W2 w':=by
 intro W2 g1 g2 hb62 hO1 hO2;have hlt1:=hO1.lt;have hlt2:=hO2.lt
 have up:∀ {es v},EsL w6 w6.heap.size es v->EsL W2 W2.heap.size es v:=fun h=>by
  obtain ⟨c,a1,a2,a3⟩:=EsL.low h hb62;exact ⟨c,a1,a2.imp id fun h g hg=>Nat.lt_of_lt_of_le (h g hg) hb62.size,a3.weak fun g _ hg=>Nat.lt_of_lt_of_le hg hb62.size⟩
 have ups:∀ {xs v},SsL w6 w6.heap.size xs v->SsL W2 W2.heap.size xs v:=fun h=>SsL.up (SsL.low h hb62) hb62.size
 have hC:StsC W2 (fun g=>g < W2.heap.size) [.mk 5 0 [] [.mk 1 1 [] []] xs [],.mk op n name es body els] [.int .u8 5,.int .i64 0,.string { data:=#[] },.slice (some ⟨g1,0,none⟩) 1 1,.slice a (k+1) cap,.slice none 0 0,.int .u8 op,.int .i64 n,.string (bstr name),ve,vb,vl]:=by
  obtain ⟨c1,a1,a2,a3⟩:=ups hL;obtain ⟨c2,d1,d2,d3⟩:=up hE;obtain ⟨c3,f1,f2,f3⟩:=ups hB;obtain ⟨c4,g1,g2,g3⟩:=ups hl;exact StsC.cons (zb7 hO1 rfl (zr _) (by omega)) (.inr fun g hg=>by cases hg;exact hlt1) (ExsC.cons (Sl.nil W2 4) (.inl rfl) .nil .nil) a1 a2 a3 (Sl.nil W2 6) (.inl rfl) .nil (StsC.cons d1 d2 d3 f1 f2 f3 g1 g2 g3 .nil)
 have hS:SsL W2 W2.heap.size [.mk 5 0 [] [.mk 1 1 [] []] xs [],.mk op n name es body els] (.slice (some ⟨g2,0,none⟩) 2 2):=⟨_,zb7 hO2 rfl (zr _) (by omega),.inr fun g hg=>by cases hg;exact hlt2,hC⟩;obtain ⟨o1,o2⟩:=lets_ok (fun _ h=>let_ok h) xs hxp;have o3:=znr o1 hat;have o4:=znt hat;refine (compiles_any [.mk 5 0 [] [.mk 1 1 [] []] xs [],.mk op n name es body els] _ W2 W2.heap.size ⟨⟨by decide,⟨by decide,by decide⟩,by decide,⟨⟨by decide,⟨by decide,by decide⟩,by decide,trivial⟩,trivial⟩,o1,trivial⟩,o3,trivial⟩ ?_ hS (zr _)).mono ?_
 ·simp only [szSs,szS,szEs,szE,yL] at o4 ⊢;omega
 ·rintro e w' ⟨he,hb'⟩;exact ⟨he,hb'⟩
def phL (v : Value) (l : List Value) : Nat -> (Nat -> Value) -> World -> Prop
  | 5, X, w => ∃ g, X 5 = .slice (some ⟨g, 0, none⟩) 1 1 /\ OwnV w g 65 oneV
  | 7, X, w => ∃ g, X 7 = .agg #[.int .u8 5, .int .i64 0, .string { data := #[] }, .slice (some ⟨g, 0, none⟩) 1 1, v, .slice none 0 0] /\ OwnV w g 65 oneV
  | 12, X, w => ∃ g2 g, X 12 = .slice (some ⟨g2, 0, none⟩) 2 2 /\ OwnV w g 65 oneV /\ OwnV w g2 59 ([.int .u8 5, .int .i64 0, .string { data := #[] }, .slice (some ⟨g, 0, none⟩) 1 1, v, .slice none 0 0] ++ l)
  | _, _, _ => True
theorem phL_st {v:Value} {l:List Value} {j:Nat} {X:Nat->Value} {w w':World} (hp:phL v l j X w) (g:Below w.heap.size w w'):phL v l j X w':=by
 unfold phL at hp ⊢;split at hp
 ·exact hp.elim fun g1 h=>⟨g1,h.1,h.2.below g (zr _)⟩
 ·exact hp.elim fun g1 h=>⟨g1,h.1,h.2.below g (zr _)⟩
 ·obtain ⟨g2,g1,h1,h2,h3⟩:=hp;exact ⟨g2,g1,h1,h2.below g (zr _),h3.below g (zr _)⟩
 ·trivial
theorem phL_loc {y:Value} {l:List Value} {i j:Nat} {X:Nat->Value} {v:Value} {w:World} (hij:i≠j) (hp:phL y l j X w):phL y l j (updX X i v) w:=by
 have hj:updX X i v j=X j:=yN (fun e=>hij e.symm);unfold phL at hp ⊢;split at hp
 ·rw [hj];exact hp
 ·rw [hj];exact hp
 ·rw [hj];exact hp
 ·trivial
def endT (o : Int) : St := .mk o 0 [] [] [] []
def endC (o : Int) : List Value := [.int .u8 o, .int .i64 0, .string { data := #[] }, .slice none 0 0, .slice none 0 0, .slice none 0 0]
theorem ends_st (w:World) (P:Nat->Prop):∀ os:List Int,StsC w P (os.map endT) (os.flatMap endC)
 | []=>.nil
 | o :: r=>StsC.cons (Sl.nil w 4) (.inl rfl) .nil (Sl.nil w 6) (.inl rfl) .nil (Sl.nil w 6) (.inl rfl) .nil (ends_st w P r)
theorem ends_ok:∀ os:List Int,(∀ o ∈ os,o=6∨o=7)->okSs (os.map endT)/\szSs (os.map endT)=os.length
 | [],_=>⟨trivial,rfl⟩
 | o :: r,h=>by
  obtain ⟨h1,h2⟩:=ends_ok r (fun x hx=>h x (List.mem_cons_of_mem _ hx));have ho:=h o (List.mem_cons_self ..);refine ⟨⟨⟨by omega,⟨by decide,by decide⟩,by decide,trivial,trivial,trivial⟩,h1⟩,?_⟩;simp only [List.map_cons,szSs,h2,yB];simp [endT,szS,szEs,szSs];omega
def Ends (W : World) (B n : Nat) (v : Value) : Prop := ∃ os : List Int, os.length = n /\ (∀ o ∈ os, o = 6 ∨ o = 7) /\ W.ownsRow B 59 6 v n (os.flatMap endC)
theorem Ends.below {W W':World} {B n:Nat} {v:Value} (h:Ends W B n v) (hb:Below W.heap.size W W'):Ends W' B n v:=by
 obtain ⟨os,h1,h2,h3⟩:=h;exact ⟨os,h1,h2,zbu h3 hb (zr _)⟩
theorem own_slice {w:World} {B n sz:Nat} {e:TypeId} {v:Value} {xs:List Value} (h:w.ownsRow B e sz v n xs) (hn:0 < n):∃ g cap,v=.slice (some ⟨g,0,none⟩) n cap/\n<=cap/\cap<=maxLen/\g < w.heap.size:=by
 have hl:=h.lt;obtain ⟨h1,h2⟩:=h;rcases h2 with ⟨h3,h4⟩ | ⟨g,cap,cur,rfl,hg,hh,hn,hm,hs,ht⟩
 ·omega
 ·exact ⟨g,cap,rfl,hn,hm,(hl g rfl).2⟩
theorem Ends.calls {W:World} {B n g cap:Nat} (h:Ends W B n (.slice (some ⟨g,0,none⟩) n cap)) (hn:0 < n) (hm:n<=5000) (hB:B<=W.heap.size):(∀ W',Below W.heap.size W W'->Calls Try.prog 13 #[.slice (some ⟨g,0,none⟩) n cap] W' fun e w'=>e=.returned (.bool true)/\Below W'.heap.size W' w')/\∀ W',Below W.heap.size W W'->Calls Try.prog 13 #[.slice (some ⟨g,6,none⟩) (n - 1) (cap - 1)] W' fun e w'=>e=.returned (.bool true)/\Below W'.heap.size W' w':=by
 obtain ⟨os,hl,ho,hown⟩:=h;have hg:g < W.heap.size:=(hown.lt g rfl).2;obtain ⟨h1,h2⟩:=ends_ok os ho;have hS:=Sl.of_own hown;constructor
 ·intro W' hb;exact compiles_any _ _ W' W.heap.size h1 (by omega) ⟨_,by rw [List.length_map,hl];exact hS.below (by omega) hb (zr _),.inr fun k hk=>by cases hk;exact hg,ends_st W' _ os⟩ hb.size
 ·intro W' hb
  cases os with
  | nil=>simp at hl;omega
  | cons o r =>
   obtain ⟨h3,h4⟩:=ends_ok r (fun x hx=>ho x (List.mem_cons_of_mem _ hx));have hd:=Sl.drop hS (k:=1) (by omega) hn;have hr:r.length=n - 1:=by simp at hl;omega
   rw [show ((o :: r).flatMap endC).drop (1 * 6)=r.flatMap endC from rfl,show 0+1 * 6=6 from rfl] at hd;exact compiles_any _ _ W' W.heap.size h3 (by omega) ⟨_,by rw [List.length_map,hr];exact hd.below (by omega) hb (zr _),.inr fun k hk=>by cases hk;exact hg,ends_st W' _ r⟩ hb.size
theorem endrow (w:World):∃ W,W=w.alloc (.cells #[.int .u8 6,.int .i64 0,.string { data:=#[] },.slice none 0 0,.slice none 0 0,.slice none 0 0,.int .u8 7,.int .i64 0,.string { data:=#[] },.slice none 0 0,.slice none 0 0,.slice none 0 0] 59)/\Sl W 6 2 (endC 6++endC 7) (.slice (some ⟨w.heap.size,0,none⟩) 2 2)/\Below w.heap.size w W/\w.heap.size < W.heap.size:=by
 refine ⟨_,rfl,zb7 (e:=59) ?_ rfl (zr _) (by omega),(yR _ _).alloc (zr _) _,by simp⟩;exact OwnV.new w 59 (endC 6++endC 7)
def Push (W : World) (B k : Nat) (v : Value) : Prop := ∃ c : znA, c.length = k /\ OwnC W B 35 v c
theorem Push.below {W W':World} {B k:Nat} {v:Value} (h:Push W B k v) (hb:Below W.heap.size W W'):Push W' B k v:=h.elim fun c h=>⟨c,h.1,h.2.below hb⟩
theorem insrow (w:World) (x y:Int):∃ W,W=w.alloc (.cells #[.int .u8 x,.int .i64 y] 35)/\Sl W 2 1 [.int .u8 x,.int .i64 y] (.slice (some ⟨w.heap.size,0,none⟩) 1 1)/\Below w.heap.size w W/\w.heap.size < W.heap.size:=
 ⟨_,rfl,zb7 (e:=35) (OwnV.new w 35 [.int .u8 x,.int .i64 y]) rfl (zr _) (by omega),(yR _ _).alloc (zr _) _,by simp⟩
theorem checks_l (c:znA) (n:Int) (v:Value) (w:World) (h:SlC w c v) (hl:c.length<=1000000):Calls Try.prog 15 #[.agg #[v,.int .i64 n,.int .u32 0,.int .u32 0]] w fun e w'=>e=.returned (.bool true)/\Below w.heap.size w w':=by
 have:=zrH ⟨c,n,0,0⟩ v w h hl;unfold zow at this;exact this
theorem empty_row (w:World):∃ W,W=w.alloc (.cells #[] 35)/\W.ownsRow w.heap.size 35 2 (.slice (some ⟨w.heap.size,0,none⟩) 0 0) 0 []/\Below w.heap.size w W/\w.heap.size<=W.heap.size:=
 ⟨_,rfl,⟨rfl,.inr ⟨w.heap.size,0,#[],rfl,zr _,OwnV.new w 35 [],zr _,by decide,rfl,rfl⟩⟩,(yR _ _).alloc (zr _) _,by simp⟩
theorem own_at {W:World} {B g cap:Nat} {e:TypeId} {c:znA} (h:OwnC W B e (.slice (some ⟨g,0,none⟩) c.length cap) c) {k:Nat} (hk:k < c.length):W.cell? ⟨g,k * 2,none⟩=some (.int .u8 c[k].op)/\W.cell? ⟨g,k * 2+1,none⟩=some (.int .i64 c[k].a)/\∀ j,W.frozen? ⟨g,j,none⟩=false:=by
 obtain ⟨b,off,hb,-,h0,h1⟩:=SlC.at (OwnC.sl h) hk;cases hb;refine ⟨by simpa using h0,by simpa using h1,fun j=>?_⟩;obtain ⟨-,h2⟩:=h;rcases h2 with ⟨hv,_⟩ | ⟨g1,c1,cur,hv,hg,hh,hn,hm,hs,ht⟩
 ·cases hv
 ·cases hv;exact OwnV.free (vs:=cur.toList) hh j
theorem own_setTwo {w:World} {B g n cap:Nat} {e:TypeId} {xs:List Value} (h:w.ownsRow B e 2 (.slice (some ⟨g,0,none⟩) n cap) n xs) (j:Nat) (x:Value):(w.setCell ⟨g,j,none⟩ x).ownsRow B e 2 (.slice (some ⟨g,0,none⟩) n cap) n (xs.set j x):=by
 obtain ⟨h1,h2⟩:=h;rcases h2 with ⟨hv,_⟩ | ⟨g1,c1,cur,hv,hg,hh,hn,hm,hs,ht⟩
 ·cases hv
 ·cases hv;have hlt:=lt_of_block hh;refine ⟨by rw [List.length_set];exact h1,.inr ⟨g,cap,cur.setIfInBounds j x,rfl,hg,?_,hn,hm,by simpa using hs,?_⟩⟩
  ·have h':w.heap[g]=.cells cur e (0,0):=by simpa [Array.getElem?_eq_getElem hlt] using hh
   unfold World.setCell;rw [Array.getElem?_eq_getElem (by simpa using hlt),Array.getElem_modify_self,h'];simp
  ·rw [Array.toList_setIfInBounds,<- ht,List.take_set]
theorem cells_op:∀ (c:znA) (k:Nat) (op:Int),∃ c':znA,c'.length=c.length/\(znH c).set (k * 2) (.int .u8 op)=znH c'
 | [],_,_=>⟨[],rfl,rfl⟩
 | x :: c,0,op=>⟨⟨op,x.a⟩ :: c,rfl,rfl⟩
 | x :: c,k+1,op=>by
  obtain ⟨c',h1,h2⟩:=cells_op c k op;refine ⟨x :: c',by simp [h1],?_⟩;show (Value.int .u8 x.op :: .int .i64 x.a :: znH c).set ((k+1) * 2) _=Value.int .u8 x.op :: .int .i64 x.a :: znH c';rw [show (k+1) * 2=k * 2+1+1 by omega,<- h2];rfl
def Stops (W : World) (B g : Nat) : Prop := ∃ c : znA, c.length = 4001 /\ W.ownsRow B 35 2 (.slice (some ⟨g, 0, none⟩) 4001 4001) 4001 (znH c)
theorem Stops.below {W W':World} {B g:Nat} (h:Stops W B g) (hb:Below W.heap.size W W'):Stops W' B g:=h.elim fun c h=>⟨c,h.1,zbu h.2 hb (zr _)⟩
theorem Stops.set {W:World} {B g:Nat} (h:Stops W B g) (k:Nat) (op:Int):Stops (W.setCell ⟨g,k * 2,none⟩ (.int .u8 op)) B g:=by
 obtain ⟨c,h1,h2⟩:=h;obtain ⟨c',h3,h4⟩:=cells_op c k op;refine ⟨c',h3.trans h1,?_⟩;rw [<- h4];exact own_setTwo h2 _ _
theorem Stops.at {W:World} {B g:Nat} (h:Stops W B g) {k:Nat} (hk:k < 4001):(∃ x:Int,W.cell? ⟨g,k * 2,none⟩=some (.int .u8 x))/\(∀ j,W.frozen? ⟨g,j,none⟩=false)/\B<=g:=by
 obtain ⟨c,h1,h2⟩:=h;have h3:OwnC W B 35 (.slice (some ⟨g,0,none⟩) c.length 4001) c:=by unfold OwnC;rw [h1];exact h2
 obtain ⟨a1,a2,a3⟩:=own_at h3 (k:=k) (by omega);exact ⟨⟨_,a1⟩,a3,(h2.lt g rfl).1⟩
def zeros : Array Value := madeCells (Value.agg #[.int .u8 0, .int .i64 0]).cells (4001 * 2)
theorem mk_ins (u:World):(Instr.makeSlice 26 (.int .i64 4001) (.int .i64 4001)).run Try.prog u=.ok (.slice (some ⟨u.heap.size,0,none⟩) 4001 4001) (u.alloc (.cells zeros 35)):=by
 obtain ⟨i0,hi,hz0,hz1,hz2⟩:=info_parts zsk;have h:=run_make (P:=Try.prog) u 26 35 i0 (.agg #[.int .u8 0,.int .i64 0]) Try.underlying26 hi hz0 .i64 .i64 4001 4001 (by omega) (Int.le_refl _) (by rw [hz2];omega) (by omega);rw [hz1] at h;exact h
theorem made_ins (n:Nat):(madeCells (Value.agg #[.int .u8 0,.int .i64 0]).cells (n * 2)).toList=znH (List.replicate n ⟨0,0⟩):=by
 induction n with
 | zero=>simp [madeCells,znH]
 | succ n ih =>
  rw [List.replicate_succ',zrL,<- ih];simp only [madeCells,Array.toList_map,Array.toList_range];rw [show (n+1) * 2=n * 2+1+1 by omega,List.range_succ,List.range_succ,List.map_append,List.map_append,List.append_assoc];congr 1
  have e1:n * 2 % 2=0:=by omega
  have e2:(n * 2+1) % 2=1:=by omega
  show [_]++[_]=_;simp only [show (Value.agg #[.int .u8 0,.int .i64 0]).cells.size=2 from rfl,e1,e2];rfl
theorem stops_row (w:World):∃ W,W=w.alloc (.cells zeros 35)/\Stops W w.heap.size w.heap.size/\Below w.heap.size w W:=by
 refine ⟨_,rfl,⟨List.replicate 4001 ⟨0,0⟩,List.length_replicate,?_⟩,(yR _ _).alloc (zr _) _⟩;have hz:zeros.toList=znH (List.replicate 4001 ⟨0,0⟩):=made_ins 4001;have hs:zeros.size=4001 * 2:=size_madeCells _ _;have hl:(znH (List.replicate 4001 (⟨0,0⟩:InsS))).length=4001 * 2:=by rw [zpx,List.length_replicate]
 exact ⟨hl,.inr ⟨w.heap.size,4001,zeros,rfl,zr _,heap_alloc_new w _,zr _,by unfold maxLen;omega,hs,by rw [hz];exact List.take_of_length_le (by omega)⟩⟩
theorem pairs2 (w:World) (n:Int):∃ W,W=w.alloc (.cells #[.int .i64 2,.int .i64 n,.int .i64 14,.int .i64 0] 32)/\Pairs W [⟨2,n⟩,⟨14,0⟩] (.slice (some ⟨w.heap.size,0,none⟩) 2 2)/\Below w.heap.size w W:=
 ⟨_,rfl,zb7 (OwnV.new w 32 [.int .i64 2,.int .i64 n,.int .i64 14,.int .i64 0]) rfl (zr 2) (by show 2<=9223372036854775807;decide),(yR _ _).alloc (zr _) _⟩
theorem two_op (n:Int):∀ i ∈ ([⟨2,n⟩,⟨14,0⟩]:znA),0<=i.op/\i.op<=255:=by
 intro i hi;rcases List.mem_cons.1 hi with rfl | hi
 ·exact ⟨by show (0:Int)<=2;decide,by show (2:Int)<=255;decide⟩
 ·rw [List.mem_singleton.1 hi];exact ⟨by show (0:Int)<=14;decide,by show (14:Int)<=255;decide⟩
def last4 : znA := [⟨14, 0⟩, ⟨4, 40⟩, ⟨5, -1⟩, ⟨4, 31⟩]
theorem pairs4 (w:World):∃ W,W=w.alloc (.cells #[.int .i64 14,.int .i64 0,.int .i64 4,.int .i64 40,.int .i64 5,.int .i64 (-1),.int .i64 4,.int .i64 31] 32)/\Pairs W last4 (.slice (some ⟨w.heap.size,0,none⟩) 4 4)/\Below w.heap.size w W:=
 ⟨_,rfl,zb7 (OwnV.new w 32 [.int .i64 14,.int .i64 0,.int .i64 4,.int .i64 40,.int .i64 5,.int .i64 (-1),.int .i64 4,.int .i64 31]) rfl (by decide) (by decide),(yR _ _).alloc (zr _) _⟩
theorem cells_take':∀ (c:znA) (k:Nat),(znH c).take (k * 2)=znH (c.take k)
 | [],k=>by simp [znH]
 | x :: c,0=>rfl
 | x :: c,k+1=>by
  show (Value.int .u8 x.op :: .int .i64 x.a :: znH c).take ((k+1) * 2)=Value.int .u8 x.op :: .int .i64 x.a :: znH (c.take k);rw [show (k+1) * 2=k * 2+1+1 by omega,<- cells_take' c k];rfl
theorem checks_r (c:znA) (r:BitVec 32) (v:Value) (w:World) (h:SlC w c v) (hl:c.length<=1000000):Calls Try.prog 15 #[.agg #[v,.int .i64 0,.int .u32 (w32 r),.int .u32 0]] w fun e w'=>e=.returned (.bool true)/\Below w.heap.size w w':=by
 have:=zrH ⟨c,0,r,0⟩ v w h hl;unfold zow at this;exact this
theorem Stops.calls {W:World} {B g:Nat} (h:Stops W B g):(Calls Try.prog 15 #[.agg #[.slice (some ⟨g,0,none⟩) 4000 4001,.int .i64 0,.int .u32 0,.int .u32 0]] W fun e w'=>e=.returned (.bool true)/\Below W.heap.size W w')/\(Calls Try.prog 15 #[.agg #[.slice (some ⟨g,0,none⟩) 4001 4001,.int .i64 0,.int .u32 0,.int .u32 0]] W fun e w'=>e=.returned (.bool true)/\Below W.heap.size W w'):=by
 obtain ⟨c,h1,h2⟩:=h;have hS:=Sl.of_own h2;constructor
 ·have hl:(c.take 4000).length=4000:=by rw [List.length_take];omega
  refine checks_l (c.take 4000) 0 _ W ?_ (by omega);have:=Sl.take hS (k:=4000) (by omega);rw [cells_take'] at this;unfold SlC;rw [hl];exact this
 ·refine checks_l c 0 _ W ?_ (by omega);unfold SlC;rw [h1];exact hS
theorem limits_any (w:World):Calls Try.prog 23 #[] w fun e w'=>e=.returned (.bool true)/\Below w.heap.size w w':=by
 go_enter Try.func23,Try.ntmps23
 obtain ⟨W1,hW1,hX1,hb1,hlt1,E1⟩:=new_own w 65 oneV;simp only [oneV] at hW1;have HW1:=zh hW1;have HX1:=zh hX1;have Hb1:=zh hb1;clear hW1 hX1 hb1;go_upto_region 2 with (fail)
 rw [<- HW1.out];clear HW1;go_wp2_with fail
 go_loopw [0,2,3,4,13,14,15,16,17,18,19,20,21,22,23,24,25,26,27,28,29,30,31,32,33,34,35,36,37,38,39,40,41,42,43,44,45,46,47,48,49,50,51,52,53,54,55,56,57,58,59] (fun _ t2 t3 _ _ _ _ _ _ _ _ _ _ _ _ _ _ _ _ _ _ _ _ _ _ _ _ _ _ _ _ _ _ _ _ _ _ _ _ _ _ _ _ _ _ _ _ _ _ _ _ wr=>∃ (k:Nat) (vr:Value),k<=34/\t3=.int .i64 k/\t2=vr/\Hid (Lets LetP wr (w.heap.size+1) k vr)/\Hid (OwnV wr w.heap.size 65 oneV)/\Hid (Below (w.heap.size+1) W1 wr)) (fun _ _ t3 _ _ _ _ _ _ _ _ _ _ _ _ _ _ _ _ _ _ _ _ _ _ _ _ _ _ _ _ _ _ _ _ _ _ _ _ _ _ _ _ _ _ _ _ _ _ _ _ _=>34 - (intOf t3).toNat)
 case atStart=>exact ⟨0,_,by omega,by first | rfl | go_num,rfl,zh ⟨[],[],rfl,(fun _ h=>nomatch h),World.ownsRow_nil _ _ _ _,.nil⟩,HX1,zh (yR _ _)⟩
 case round =>
  obtain ⟨k,vr,hk,rfl,rfl,HL,HX,HB⟩:=hrel;have hsr:=HB.out.size;obtain ⟨xs,cs,hxl,hxp,hown,hT⟩:=HL.out;obtain ⟨ra,rcap,rfl,hc1,hc2⟩:=Sl.form (Sl.of_own hown);have Hxp:=zh hxp;have Hown:=zh hown;have HT:=zh hT;have Hxl:=zh hxl;clear hxl hxp hown hT;obtain ⟨wo,rfl⟩:∃ wo:World,wo=wr:=⟨_,rfl⟩;by_cases hkl:k < 34
  ·have hki:(k:Int) < 34:=by omega
   obtain ⟨x0,x1,x2,x3⟩:=yc4 HX.out;obtain ⟨W2,hW2,hX2,hb2,hlt2,E2⟩:=new_own wo 65 oneV;simp only [oneV] at hW2;have HW2:=zh hW2;have HX2:=zh hX2;have Hb2:=zh hb2;clear hW2 hX2 hb2;go_upto_region 7 with (fail)
   rw [<- HW2.out];clear HW2 x0 x1 x2 x3;go_upto_if 19 with (fail)
   go_cut [] (fun wx=>∃ (op n:Int) (nm:List UInt8),((0<=op/\op<=255)/\okI n/\nm.length<=3)/\OwnV wx wo.heap.size 65 [.int .u8 op,.int .i64 n,.string (bstr nm),.slice none 0 0]/\Below wo.heap.size wo wx)
   case first =>
    have yf:=HX2.out.free;have ylt:=HX2.out.lt
    cases k with
    | zero =>
     go_wp2_with fail
     go_meet
     exact ⟨1,1,[],⟨by decide,⟨by decide,by decide⟩,by decide⟩,HX2.out,Hb2.out⟩
    | succ k1 =>
     obtain ⟨xs0,hxl0,hxp0,hS0⟩:=HL.out.ssl;obtain ⟨b,off,op',n',name',es',body',els',ae,ce,ab,cb,al,cl,rfl,hbB,hbw,hat,-,-,d2w,-⟩:=hS0.at (k:=k1) (by omega)
     have hnl:name'.length<=3:=by
      obtain ⟨nm,nm',o,m,he,hl,-⟩:=hxp0 _ (List.mem_of_getElem? hat);cases he;exact hl
     have d2:=Below.keep Hb2.out d2w;obtain ⟨x0,x1,x2,x3⟩:=yc4 HX2.out;have HXs:=zh ((((HX2.out.set 0 (.int .u8 2)).set 1 (.int .i64 0)).set 2 (.string (bstr name'))).set 3 (.slice none 0 0));have HBs:=zh ((((Hb2.out.setCell (p:=⟨wo.heap.size,0,none⟩) (zr _) (.int .u8 2)).setCell (p:=⟨wo.heap.size,1,none⟩) (zr _) (.int .i64 0)).setCell (p:=⟨wo.heap.size,2,none⟩) (zr _) (.string (bstr name'))).setCell (p:=⟨wo.heap.size,3,none⟩) (zr _) (.slice none 0 0));have hwp:IntKind.i64.wrap ((k1:Int)+1 - 1)=(k1:Int):=by rw [IntWalk.i64_in _ (by omega)];omega
     have hk1:(k1:Int) < (k1:Int)+1:=by omega
     have Hnl:=zh hnl;clear hnl hat hS0 hxp0 hxl0 d2w hbB;go_wp2_with fail
     go_meet;exact ⟨2,0,name',⟨by decide,⟨by decide,by decide⟩,Hnl.out⟩,HXs.out,HBs.out⟩
   case rest =>
    obtain ⟨op,n,nm,hp,hX,hB⟩:=hcut;replace hp:=zh hp;replace hX:=zh hX;replace hB:=zh hB;obtain ⟨x,hx⟩:∃ x:UInt8,(97+(k:Int) / 26)=(x.toNat:Int):=u8_mk (by omega) (by omega);obtain ⟨y,hy⟩:∃ y:UInt8,(97+(k:Int) % 26)=(y.toNat:Int):=u8_mk (by omega) (by omega);have hcv:=conv_two wc x y _ _ hx hy;clear hx hy;have hsz:(bstr [x,y]).size<=100:=by rw [<- zaq,zdn];simp
    obtain ⟨W5,hW5,hb5,hO5,hS5,hs5⟩:=let_worlds wc (97+(k:Int) / 26) (97+(k:Int) % 26) op n nm x y;have Hown5:=zh (zbu (zbu Hown.out hB.out (zr _)) hb5 (zr _));have HW5:=zh hW5;have HS5:=zh hS5;have hl5:w.heap.size+1<=W5.heap.size:=by have:=hB.out.size;omega
    have yne:¬ wo.heap.size=wc.heap.size:=by have:=hX.out.lt;omega
    have hXa:=OwnV.alloc hX.out (.cells #[.int .u8 (97+(k:Int) / 26),.int .u8 (97+(k:Int) % 26)] 5);obtain ⟨x0,x1,x2,x3⟩:=yc4 hXa;have Hb5:=zh hb5;clear hW5 hS5 hb5 hXa;go_wp2_with (at_builtin;rw [<- HW5.out];refine zn0 rfl (.tmp 27) (.tmp 42) 22 rfl Hown5.out zhj Try.underlying22 rfl (by decide) rfl HS5.out rfl rfl (by unfold maxLen;omega) (by omega) hl5 ?_;intro v6 w6 hown6 hg6 hb6 hat6;obtain ⟨a6,cap6,rfl,hc61,hc62⟩:=Sl.form (Sl.of_own hown6))
    have hs6:=hb6.size;have hsr1:w.heap.size+1<=wo.heap.size:=by omega
    have hL6:=let_push (hp:=hp.out) Hxl.out Hxp.out Hown.out HT.out hsr1 hB.out Hb5.out hO5 hown6 hg6 hat6;clear hown6 hg6 hat6 hO5 hcv;obtain ⟨xs6,hx6l,hx6p,hS6⟩:=hL6.ssl;have hbo6:Below (w.heap.size+1) wo w6:=(hB.out.mono hsr1).trans ((Hb5.out.mono (by have:=hB.out.size;omega)).trans hb6);have hX6:OwnV w6 w.heap.size 65 oneV:=by unfold OwnV;rw [hbo6.block _ (by omega)];exact HX.out
    have HX6:=zh hX6;have HB6:=zh (HB.out.trans hbo6);have HL6:=zh hL6;obtain ⟨b,off,op',n',name',es',body',els',ae,ce,ab,cb,al,cl,ha6,hbB,hbw,hat,d0,d1,d2,d3,d4,d5,hE,hBd,hEl⟩:=hS6.at (k:=k) (by omega);cases ha6;have HC1:Hid (∀ W,Below w6.heap.size w6 W->Calls Try.prog 13 #[.slice (some ⟨b,off,none⟩) (k+1) cap6] W fun e w'=>e=.returned (.bool true)/\Below W.heap.size W w'):=zh (fun W hb=>(compiles_any xs6 _ W w6.heap.size (lets_ok (fun _ h=>let_ok h) xs6 hx6p).1 (by have:=(lets_ok (fun _ h=>let_ok h) xs6 hx6p).2;omega) (SsL.low hS6 hb) hb.size).mono fun e w' ⟨he,hb'⟩=>⟨he,hb'⟩);have HC2:=zh (two_tree (by omega) hx6l hx6p hS6 hat hE hBd hEl);have D0:=zh d0;have D1:=zh d1;have D2:=zh d2;have D3:=zh d3;have D4:=zh d4;have D5:=zh d5;clear d0 d1 d2 d3 d4 d5;clear hx6l hx6p hS6 hat hE hBd hEl hL6 hX6 hbo6 hb6 HX HB HL Hxl Hxp Hown HT hX hB Hown5 HS5 Hb5 HW5;go_upto_region 10 with (fail)
    refine zoO [some (.slice (some ⟨b,off,none⟩) (k+1) cap6),some (.bool true),some (.bool false),some (.bool false),some (.agg #[.int .u8 1,.int .i64 1,.string { data:=#[] },.slice none 0 0]),none,some (.slice (some ⟨b,off,none⟩) (k+1) cap6),none,some (.slice (some ⟨b,off,none⟩) (k+1) cap6),some (.int .i64 k),some (.pointer (some ⟨b,off+k * 6,none⟩)),some (.agg #[.int .u8 op',.int .i64 n',.string (bstr name'),.slice ae es'.length ce,.slice ab body'.length cb,.slice al els'.length cl]),none,some (.bool true),some (.bool false),some (.bool false)] (phL (.slice (some ⟨b,off,none⟩) (k+1) cap6) [.int .u8 op',.int .i64 n',.string (bstr name'),.slice ae es'.length ce,.slice ab body'.length cb,.slice al els'.length cl]) (fun _ w w'=>Below w.heap.size w w') (fun W=>Below w6.heap.size w6 W) (by kernel_rfl) (by kernel_rfl) rfl (yR _ _).drew (fun i w w' h g=>h.trans (g.mono h.size)) (fun i j X w w' _ hp _ g=>phL_st hp g) (fun i j X v w hij _ hp=>phL_loc hij hp) (fun j X w h=>by unfold phL;split <;> first | trivial | (simp at h)) ?_ ?_
    ·simp only [zfb,zos,zob,zoc,zot,Nat.reduceAdd,Act.put,zs1,zs3,zs2];refine stepsG.cons ?_ (stepsG.cons ?_ (stepsG.cons ?_ (stepsG.cons ?_ (stepsG.cons ?_ (stepsG.cons ?_ (stepsG.cons ?_ (stepsG.cons ?_ (stepsG.cons ?_ (stepsG.cons ?_ (stepsG.cons ?_ (stepsG.cons ?_ (stepsG.cons ?_ (stepsG.cons ?_ (stepsG.cons ?_ (stepsG.cons ?_ (stepsG.nil))))))))))))))))
     ·intro X w7 hH hw;clear hw hH;go_wp2_with fail
      exact ⟨⟨_,rfl,rfl⟩,yR _ _⟩
     ·intro X w7 hH hw;clear hw;go_wp2_with fail
      go_at_call 13;refine (HC1.out _ (by exact hH)).mono ?_;rintro e8 w8 ⟨rfl,hb8⟩;have Hb8:=zh hb8;clear hb8 hH;go_wp2_with fail
      exact ⟨⟨_,rfl,rfl⟩,Hb8.out⟩
     ·intro X w7 hH hw;clear hw hH;go_wp2_with fail
      exact ⟨⟨_,rfl,rfl⟩,yR _ _⟩
     ·intro X w7 hH hw;clear hw hH;go_wp2_with fail
      exact ⟨⟨_,rfl,rfl⟩,yR _ _⟩
     ·intro X w7 hH hw;have hx:=HX6.out.below hH (zr _);obtain ⟨x0,x1,x2,x3⟩:=yc4 hx;clear hw hH hx;go_wp2_with fail
      exact ⟨⟨_,rfl,rfl⟩,yR _ _⟩
     ·intro X w7 hH hw;clear hw hH;go_wp2_with fail
      exact ⟨⟨_,rfl,⟨_,rfl,OwnV.new _ _ oneV⟩⟩,(yR _ _).alloc (zr _) _⟩
     ·intro X w7 hH hw;clear hw hH;go_wp2_with fail
      exact ⟨⟨_,rfl,rfl⟩,yR _ _⟩
     ·intro X w7 hH hw;obtain ⟨g,e,hO⟩:=hw 5 (by kernel_rfl);rw [e];have HO:=zh hO;clear hw hH hO e;go_wp2_with fail
      exact ⟨⟨_,rfl,⟨_,rfl,HO.out⟩⟩,yR _ _⟩
     ·intro X w7 hH hw;clear hw hH;go_wp2_with fail
      exact ⟨⟨_,rfl,rfl⟩,yR _ _⟩
     ·intro X w7 hH hw;clear hw hH;go_wp2_with fail
      exact ⟨⟨_,rfl,rfl⟩,yR _ _⟩
     ·intro X w7 hH hw;clear hw hH;go_wp2_with fail
      exact ⟨⟨_,rfl,rfl⟩,yR _ _⟩
     ·intro X w7 hH hw;have d0:=Below.keep hH D0.out;have d1:=Below.keep hH D1.out;have d2:=Below.keep hH D2.out;have d3:=Below.keep hH D3.out;have d4:=Below.keep hH D4.out;have d5:=Below.keep hH D5.out;clear hw hH;go_wp2_with fail
      exact ⟨⟨_,rfl,rfl⟩,yR _ _⟩
     ·intro X w7 hH hw;obtain ⟨g,e,hO⟩:=hw 7 (by kernel_rfl);rw [e];have HO:=zh hO;clear hw hH hO e;go_wp2_with fail
      exact ⟨⟨_,rfl,⟨_,_,rfl,HO.out.alloc _,OwnV.new _ _ [.int .u8 5,.int .i64 0,.string { data:=#[] },.slice (some ⟨g,0,none⟩) 1 1,.slice (some ⟨b,off,none⟩) (k+1) cap6,.slice none 0 0,.int .u8 op',.int .i64 n',.string (bstr name'),.slice ae es'.length ce,.slice ab body'.length cb,.slice al els'.length cl]⟩⟩,(yR _ _).alloc (zr _) _⟩
     ·intro X w7 hH hw;obtain ⟨g2,g,e,hO,hO2⟩:=hw 12 (by kernel_rfl);rw [e];have HT:=zh (HC2.out _ _ _ hH hO hO2);clear hw hH hO hO2 e;go_wp2_with fail
      go_at_call 13;refine HT.out.mono ?_;rintro e8 w8 ⟨rfl,hb8⟩;have Hb8:=zh hb8;clear hb8;go_wp2_with fail
      exact ⟨⟨_,rfl,rfl⟩,Hb8.out⟩
     ·intro X w7 hH hw;clear hw hH;go_wp2_with fail
      exact ⟨⟨_,rfl,rfl⟩,yR _ _⟩
     ·intro X w7 hH hw;clear hw hH;go_wp2_with fail
      exact ⟨⟨_,rfl,rfl⟩,yR _ _⟩
    ·intro X w9 hH hp;clear hp;simp only [zfb,zos,zob,zoc,zot,Nat.reduceAdd,Act.put,zs1,zs3,zs2];have HX9:=zh (HX6.out.below hH (zr _));have HL9:=zh (HL6.out.below hH);have HB9:=zh (HB6.out.trans (hH.mono (by have:=HB6.out.size;omega)));clear hH;go_wp2_with fail
     go_roundw
     case rel=>exact ⟨k+1,_,by omega,congrArg _ (by omega),rfl,HL9,HX9,HB9⟩
     case measure=>simp [intOf];omega
  ·have hki:¬ (k:Int) < 34:=by omega
   have HBa:Hid (Below w.heap.size w wo):=zh (Hb1.out.trans (HB.out.mono (by omega)));clear Hxp Hown HT Hxl HL HX HB;go_wp2_with fail
   clear hki hkl hk;go_loopw [0,5,6,60,61,62,63,64,65,66,67,68,69,70,71,72,73,74,75,76,77,78,79,80,81] (fun _ t5 t6 _ _ _ _ _ _ _ _ _ _ _ _ _ _ _ _ _ _ _ _ _ _ wr=>∃ (k:Nat) (v:Value),k<=2001/\t6=.int .i64 k/\t5=v/\Hid (Ends wr wo.heap.size (2 * k) v)/\Hid (Below wo.heap.size wo wr)) (fun _ _ t6 _ _ _ _ _ _ _ _ _ _ _ _ _ _ _ _ _ _ _ _ _ _ _=>2001 - (intOf t6).toNat)
   case atStart=>exact ⟨0,_,by omega,by first | rfl | go_num,rfl,zh ⟨[],rfl,(fun _ h=>nomatch h),World.ownsRow_nil _ _ _ _⟩,zh (yR _ _)⟩
   case round =>
    obtain ⟨k,v,hk,rfl,rfl,HE,HB⟩:=hrel;obtain ⟨wk,rfl⟩:∃ wk:World,wk=wr:=⟨_,rfl⟩;have hszk:=HB.out.size;by_cases hkl:k < 2001
    ·have hki:(k:Int) < 2001:=by omega
     obtain ⟨os,hol,hop,hown⟩:=HE.out;obtain ⟨ra,rcap,rfl,hc1,hc2⟩:=Sl.form (Sl.of_own hown);obtain ⟨W5,hW5,hS5,hb5,hlt5⟩:=endrow wk;have Hown5:=zh (zbu hown hb5 (zr _));have HW5:=zh hW5;have HS5:=zh hS5;have Hb5:=zh hb5;have Hol:=zh hol;have Hop:=zh hop;have hl5:wo.heap.size<=W5.heap.size:=by omega
     obtain ⟨n6,hn6⟩:∃ n,n=2 * k+2:=⟨_,rfl⟩;have Hn6:=zh hn6;clear hown hW5 hS5 hb5 hol hop hn6;go_upto_region 17 with (at_builtin;rw [<- HW5.out];refine zn0 rfl (.tmp 64) (.tmp 67) 22 rfl Hown5.out zhj Try.underlying22 rfl (by decide) rfl HS5.out rfl rfl (by unfold maxLen;omega) (by omega) hl5 ?_;intro v6 w6 hown6 hg6 hb6 hat6;rw [<- Hn6.out] at hown6;obtain ⟨g6,cap6,rfl,hc61,hc62,hgl6⟩:=own_slice hown6 (by have:=Hn6.out;omega))
     have HE6:Hid (Ends w6 wo.heap.size n6 (.slice (some ⟨g6,0,none⟩) n6 cap6)):=zh ⟨os++[6,7],by rw [yA,Hol.out,Hn6.out];rfl,by
      intro o ho;rcases List.mem_append.1 ho with h | h
      ·exact Hop.out o h
      ·rcases List.mem_cons.1 h with h | h
       ·exact .inl h
       ·exact .inr (List.mem_singleton.1 h),by rw [List.flatMap_append];exact hown6⟩
     have hs6:wo.heap.size<=w6.heap.size:=by have:=hb6.size;omega
     have HC:=zh (HE6.out.calls (by have:=Hn6.out;omega) (by have:=Hn6.out;omega) hs6);have HB6:Hid (Below wo.heap.size wo w6):=zh (HB.out.trans ((Hb5.out.mono hszk).trans hb6));have hn6l:2<=n6:=by have:=Hn6.out;omega
     have hn6i:(1:Int)<=(n6:Int):=by omega
     have hcap6:(1:Int)<=(cap6:Int):=by omega
     have hcapz:¬ cap6=0:=by omega
     have hcapo:¬ cap6=1:=by omega
     clear hown6 hg6 hb6 hat6 HW5 HS5 Hown5 Hb5 HE hl5 hlt5 hc1 hc2 hgl6;by_cases hk8:1998<=k
     ·have hk8i:(1998:Int)<=(k:Int):=by omega
      clear hk8;go_wp2_with fail
      refine (HC.out.1 _ (yR _ _)).mono ?_;rintro e7 w7 ⟨rfl,hb7⟩;have HC2:=zh (HC.out.2 _ hb7);have HE7:=zh (HE6.out.below hb7);have HB7:=zh (HB6.out.trans (hb7.mono hs6));clear hb7 HC HE6 HB6;go_wp2_with fail
      refine HC2.out.mono ?_;rintro e8 w8 ⟨rfl,hb8⟩;have HE8:=zh (HE7.out.below hb8);have HB8:=zh (HB7.out.trans (hb8.mono HB7.out.size));clear hb8 HE7 HB7 HC2;go_wp2_with fail
      have e6:n6=2 * (k+1):=by have:=Hn6.out;omega
      exact ⟨⟨k+1,_,by omega,congrArg _ (by omega),rfl,by rw [<- e6];exact HE8,HB8⟩,by simp [intOf];omega⟩
     ·have hk8i:¬ (1998:Int)<=(k:Int):=by omega
      clear hk8;go_wp2_with fail
      have e6:n6=2 * (k+1):=by have:=Hn6.out;omega
      exact ⟨⟨k+1,_,by omega,congrArg _ (by omega),rfl,by rw [<- e6];exact HE6,HB6⟩,by simp [intOf];omega⟩
    ·have hki:¬ (k:Int) < 2001:=by omega
     have HBw:Hid (Below w.heap.size w wk):=zh (HBa.out.trans (HB.out.mono HBa.out.size));clear HE HB HBa;go_wp2_with fail
     clear hki hkl hk;go_loopw [0,7,8,82,83,84,85,86,87,88,89,90,91,92,93,94,95,96,97,98,99,100,101,102,103,104] (fun _ t7 t8 _ _ _ _ _ _ _ _ _ _ _ _ _ _ _ _ _ _ _ _ _ _ _ wr=>∃ (k:Nat) (v:Value),k<=66/\t8=.int .i64 k/\t7=v/\Hid (Push wr wk.heap.size k v)/\Hid (Below wk.heap.size wk wr)) (fun _ _ t8 _ _ _ _ _ _ _ _ _ _ _ _ _ _ _ _ _ _ _ _ _ _ _ _=>66 - (intOf t8).toNat)
     case atStart=>exact ⟨0,_,by omega,by first | rfl | go_num,rfl,zh ⟨[],rfl,World.ownsRow_nil _ _ _ _⟩,zh (yR _ _)⟩
     case round =>
      obtain ⟨k,v,hk,rfl,rfl,HE,HB⟩:=hrel;obtain ⟨wp,rfl⟩:∃ wp:World,wp=wr:=⟨_,rfl⟩;have hszk:=HB.out.size;by_cases hkl:k < 66
      ·have hki:(k:Int) < 66:=by omega
       obtain ⟨c,hcl,hown⟩:=HE.out;unfold OwnC at hown;rw [hcl] at hown;obtain ⟨ra,rcap,rfl,hc1,hc2⟩:=Sl.form (Sl.of_own hown);obtain ⟨W5,hW5,hS5,hb5,hlt5⟩:=insrow wp 6 0;have Hown5:=zh (zbu hown hb5 (zr _));have HW5:=zh hW5;have HS5:=zh hS5;have Hb5:=zh hb5;have Hcl:=zh hcl;have hl5:wk.heap.size<=W5.heap.size:=by omega
       clear hown hW5 hS5 hb5 hcl;go_upto_region 24 with (at_builtin;rw [<- HW5.out];refine zn0 rfl (.tmp 86) (.tmp 88) 26 rfl Hown5.out zsk Try.underlying26 rfl (by decide) rfl HS5.out rfl rfl (by unfold maxLen;omega) (by omega) hl5 ?_;intro v6 w6 hown6 hg6 hb6 hat6;obtain ⟨g6,cap6,rfl,hc61,hc62,hgl6⟩:=own_slice hown6 (by omega))
       have HO6:Hid (∃ c6:znA,c6.length=k+1/\w6.ownsRow wk.heap.size 35 2 (.slice (some ⟨g6,0,none⟩) (k+1) cap6) (k+1) (znH c6)):=zh ⟨c++[⟨6,0⟩],by rw [yA,Hcl.out];rfl,by rw [zrL];exact hown6⟩;have hs6:wk.heap.size<=w6.heap.size:=by have:=hb6.size;omega
       have HB6:Hid (Below wk.heap.size wk w6):=zh (HB.out.trans ((Hb5.out.mono hszk).trans hb6));clear hown6 hg6 hb6 hat6 HW5 HS5 Hown5 Hb5 HE hl5 hlt5 hc1 hc2 Hcl;obtain ⟨c6,hcl6,hown6⟩:=HO6.out;obtain ⟨W7,hW7,hR7,hb7,hl7⟩:=empty_row w6;have HS7:=zh ((Sl.of_own hown6).below (by omega) hb7 (zr _));have HW7:=zh hW7;have HR7:=zh hR7;have Hb7:=zh hb7;have Hcl6:=zh hcl6;have Hown6:=zh hown6;clear hW7 hR7 hb7 hown6 hcl6;go_wp2_with (first | (at_builtin;rw [<- HW7.out];refine zn0 rfl (.tmp 90) (.tmp 91) 26 rfl HR7.out zsk Try.underlying26 rfl (by decide) rfl HS7.out rfl (cellsC_all _) (by unfold maxLen;omega) (by omega) hl7 ?_;intro v8 w8 hown8 hg8 hb8 hat8;rw [List.nil_append,Nat.zero_add] at hown8;obtain ⟨g8,cap8,rfl,hc81,hc82,hgl8⟩:=own_slice hown8 (by omega);obtain ⟨W9,hW9,hS9,hb9,hlt9⟩:=insrow w8 14 0;have HR9:=zh (zbu hown8 hb9 (zr _));have HW9:=zh hW9;have HS9:=zh hS9;have hs8:w6.heap.size<=w8.heap.size:=(by have:=hb8.size;omega);have Hb9:Hid (Below w6.heap.size w6 W9):=zh ((Hb7.out.trans hb8).trans (hb9.mono hs8));have hl9:w6.heap.size<=W9.heap.size:=(by omega);clear hW9 hS9 hb9 hb8 hg8 hat8 hown8) | (at_builtin;rw [<- HW9.out];refine zn0 rfl (.tmp 92) (.tmp 94) 26 rfl HR9.out zsk Try.underlying26 rfl (by decide) rfl HS9.out rfl rfl (by unfold maxLen;omega) (by omega) hl9 ?_;intro v10 w10 hown10 hg10 hb10 hat10;obtain ⟨g10,cap10,rfl,hca1,hca2,hgla⟩:=own_slice hown10 (by omega)))
       have HS10:Hid (SlC w10 (c6++[⟨14,0⟩]) (.slice (some ⟨g10,0,none⟩) (k+1+1) cap10)):=zh (by
        show Sl w10 2 (List.length _) _ _;rw [yA,Hcl6.out,zrL]
        exact Sl.of_own hown10)
       have hs9:=Hb9.out.size;have Hb10:Hid (Below w6.heap.size w6 w10):=zh (Hb9.out.trans hb10);have HC10:=zh (checks_l _ 0 _ w10 HS10.out (by rw [yA,Hcl6.out];show k+1+1<=1000000;omega));clear hown10 hg10 hb10 hat10 HW7 HR7 HS7 Hb7 HW9 HR9 HS9 Hb9 HS10 hca1 hca2 hgla hc81 hc82 hgl8 hl9 hlt9 hs9 hs8 hl7 HO6;refine HC10.out.mono ?_;rintro e11 w11 ⟨rfl,hb11⟩;have Hb11:Hid (Below w6.heap.size w6 w11):=zh (Hb10.out.trans (hb11.mono Hb10.out.size))
       have HC11:=zh (checks_l c6 0 (.slice (some ⟨g6,0,none⟩) (k+1) cap6) w11 (by
        show Sl w11 2 c6.length _ _;rw [Hcl6.out]
        exact (Sl.of_own Hown6.out).below (by omega) Hb11.out (zr _)) (by rw [Hcl6.out];omega))
       clear hb11 Hb10 HC10;go_wp2_with fail
       refine HC11.out.mono ?_;rintro e12 w12 ⟨rfl,hb12⟩;have Hb12:Hid (Below w6.heap.size w6 w12):=zh (Hb11.out.trans (hb12.mono Hb11.out.size));have HE12:Hid (Push w12 wk.heap.size (k+1) (.slice (some ⟨g6,0,none⟩) (k+1) cap6)):=zh ⟨c6,Hcl6.out,by unfold OwnC;rw [Hcl6.out];exact zbu Hown6.out Hb12.out (zr _)⟩;have HB12:=zh (HB6.out.trans (Hb12.out.mono hs6));clear hb12 Hb11 HC11 Hown6 HB6 Hb12;go_wp2_with fail
       exact ⟨⟨k+1,_,by omega,congrArg _ (by omega),rfl,HE12,HB12⟩,by simp [intOf];omega⟩
      ·have hki:¬ (k:Int) < 66:=by omega
       have HBv:Hid (Below w.heap.size w wp):=zh (HBw.out.trans (HB.out.mono HBw.out.size));obtain ⟨W7,hW7,hS7,hb7⟩:=stops_row wp;have hmk:=mk_ins;have HW7:=zh hW7;have HS7:=zh hS7;have HB7:=zh (HBv.out.trans (hb7.mono HBv.out.size));have HB0:Hid (w.heap.size<=wp.heap.size):=zh HBv.out.size;clear HE HB HBw HBv hW7 hS7 hb7;go_upto_region 27 with (fail)
       clear hki hkl hk hmk;rw [<- HW7.out];clear HW7;go_wp2_with fail
       go_loopw [10,106,107,108,109,110,111,112,113,114,115] (fun t10 _ _ _ _ _ _ _ _ _ _ wr=>∃ k:Nat,k<=4001/\t10=.int .i64 k/\Hid (Stops wr wp.heap.size wp.heap.size)/\Hid (Below w.heap.size w wr)) (fun t10 _ _ _ _ _ _ _ _ _ _ _=>4001 - (intOf t10).toNat)
       case atStart=>exact ⟨0,by omega,by first | rfl | go_num,HS7,HB7⟩
       case round =>
        obtain ⟨k,hk,rfl,HS,HB⟩:=hrel;have hwp:=HS.out.at (k:=0) (by omega);by_cases hkl:k < 4001
        ·have hki:(k:Int) < 4001:=by omega
         obtain ⟨⟨x,e0⟩,ef,hg⟩:=HS.out.at hkl;have HSs:=zh (HS.out.set k 14);have HBs:=zh (HB.out.setCell (p:=⟨wp.heap.size,k * 2,none⟩) HB0.out (.int .u8 14));have Hkl:=zh hkl;clear hkl hk hg;go_wp2_with fail
         exact ⟨⟨k+1,Hkl.out,congrArg _ (by omega),HSs,HBs⟩,by have:=Hkl.out;simp [intOf];omega⟩
        ·have hki:¬ (k:Int) < 4001:=by omega
         clear hkl hk;go_wp2_with fail
         clear hki;go_loopw [0,11,116,117,118,119,120,121,122,123,124,125,126,127,128,129,130,131,132,133,134,135] (fun _ t11 _ _ _ _ _ _ _ _ _ _ _ _ _ _ _ _ _ _ _ _ wr=>∃ n:Int,-1<=n/\n<=34/\t11=.int .i64 n/\Hid (Stops wr wp.heap.size wp.heap.size)/\Hid (Below w.heap.size w wr)) (fun _ t11 _ _ _ _ _ _ _ _ _ _ _ _ _ _ _ _ _ _ _ _ _=>(34 - intOf t11).toNat)
         case atStart=>exact ⟨-1,by omega,by omega,by first | rfl | go_num,HS,HB⟩
         case round =>
          obtain ⟨n,hn0,hn1,rfl,HS,HB⟩:=hrel;obtain ⟨wq,rfl⟩:∃ wq:World,wq=wr:=⟨_,rfl⟩;by_cases hnl:n<=33
          ·have HC1:=zh (checks_l [] n (.slice none 0 0) wq (Sl.nil wq 2) (by decide));have hwn:IntKind.i64.wrap (n - 1)=n - 1:=IntWalk.i64_in _ (by omega);go_wp2_with fail
           refine HC1.out.mono ?_;rintro e2 w2 ⟨rfl,hb2⟩;have HS2:=zh (HS.out.below hb2);have HB2:=zh (HB.out.trans (hb2.mono HB.out.size));obtain ⟨W3,hW3,hP3,hb3⟩:=pairs2 w2 (n - 1);have HC3:=zh (code_any [⟨2,n - 1⟩,⟨14,0⟩] _ W3 hP3 (by show 2<=1000000;decide) (two_op _));have HS3:=zh (HS2.out.below hb3);have HB3:=zh (HB2.out.trans (hb3.mono HB2.out.size));have HW3:=zh hW3;clear hb2 hb3 hP3 hW3 HC1;go_wp2_with fail
           rw [<- HW3.out];refine HC3.out.mono ?_;rintro e4 w4 ⟨⟨v4,rfl,hO4⟩,hb4⟩;obtain ⟨a4,cap4,rfl,-,-⟩:=Sl.form (OwnC.sl hO4);have HC4:=zh (checks_l _ n _ w4 (OwnC.sl hO4) (by show 2<=1000000;decide));have HS4:=zh (HS3.out.below hb4);have HB4:=zh (HB3.out.trans (hb4.mono HB3.out.size));clear hb4 hO4 HC3;go_wp2_with fail
           refine HC4.out.mono ?_;rintro e5 w5 ⟨rfl,hb5⟩;have HS5:=zh (HS4.out.below hb5);have HB5:=zh (HB4.out.trans (hb5.mono HB4.out.size));clear hb5 HC4;go_wp2_with fail
           exact ⟨⟨n+1,by omega,by omega,rfl,HS5,HB5⟩,by simp [intOf];omega⟩
          ·have hni:¬ n<=33:=hnl;clear hwp;go_wp2_with fail
           refine HS.out.calls.1.mono ?_;rintro e2 w2 ⟨rfl,hb2⟩;have HS2:=zh (HS.out.below hb2);have HB2:=zh (HB.out.trans (hb2.mono HB.out.size));clear hb2;go_wp2_with fail
           refine HS2.out.calls.2.mono ?_;rintro e3 w3 ⟨rfl,hb3⟩;have HB3:=zh (HB2.out.trans (hb3.mono HB2.out.size));clear hb3;have HC3:=zh (checks_r [] 2#32 (.slice none 0 0) w3 (Sl.nil w3 2) (by decide));rw [show w32 2#32=2 from rfl] at HC3;go_wp2_with fail
           refine HC3.out.mono ?_;rintro e4 w4 ⟨rfl,hb4⟩;have HB4:=zh (HB3.out.trans (hb4.mono HB3.out.size));clear hb4 HC3;obtain ⟨W5,hW5,hP5,hb5⟩:=pairs4 w4;have HC5:=zh (code_any last4 _ W5 hP5 (by decide) (by decide));have HB5:=zh (HB4.out.trans (hb5.mono HB4.out.size));have HW5:=zh hW5;clear hb5 hP5 hW5;go_wp2_with fail
           rw [<- HW5.out];refine HC5.out.mono ?_;rintro e6 w6 ⟨⟨v6,rfl,hO6⟩,hb6⟩;obtain ⟨a6,cap6,rfl,-,-⟩:=Sl.form (OwnC.sl hO6);have HC6:=zh (checks_r last4 2147483648#32 _ w6 (OwnC.sl hO6) (by decide));rw [show w32 2147483648#32=2147483648 from rfl] at HC6;have HB6:=zh (HB5.out.trans (hb6.mono HB5.out.size));clear hb6 hO6 HC5;go_wp2_with fail
           refine HC6.out.mono ?_;rintro e7 w7 ⟨rfl,hb7⟩;have HB7:=zh (HB6.out.trans (hb7.mono HB6.out.size));clear hb7 HC6;go_wp2_with fail
           go_ret;exact ⟨rfl,HB7.out⟩
end Go.Proofs.Ytdeneckmoejcfaa
