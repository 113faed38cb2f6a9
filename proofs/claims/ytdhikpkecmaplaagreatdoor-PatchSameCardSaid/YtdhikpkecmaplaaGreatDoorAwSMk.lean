/- awake of the statements about patch, walked. -/
import Derived.Test.YtdhikpkecmaplaaGreatDoorPtAwMk
set_option linter.unusedSimpArgs false
set_option linter.unusedVariables false
set_option maxRecDepth 100000
set_option maxHeartbeats 8000000
namespace Go.Proofs.YtdhikpkecmaplaaGreatDoor
open Go.RowKit

theorem zqD:∀ y ∈ awY,y.ok:=by
 intro y hy;obtain rfl:y=_:=by simpa [awY] using hy
 exact ⟨by decide,by decide,by decide⟩
theorem zpL {α:Type} {P:α->Prop} {a:α} (h:P a):∀ x ∈ [a],P x:=fun x hx=>by
 obtain rfl:x=a:=by simpa using hx
 exact h
theorem zrQ {α:Type} {P:α->Prop}:∀ x ∈ ([]:List α),P x:=fun x hx=>by cases hx
theorem zoP {n:Int} (h0:0<=n) (h1:n<=1000):okI n:=⟨by omega,by omega⟩
theorem awP_ok:okI awP.tick/\okI awP.slot/\awP.src.length<=9223372036854775807:=⟨zoP (by decide) (by decide),zoP (by decide) (by decide),by decide⟩
theorem awB_ok:BkOk awY awB:=⟨zqD,zoP (by decide) (by decide),zpL (by decide),zrQ⟩
theorem zqd:BkOk awY awB2:=⟨zqD,zoP (by decide) (by decide),zpL (by decide),zpL awP_ok⟩
theorem zts:BkOk awY ⟨20,[aws1],[]⟩:=⟨zqD,zoP (by decide) (by decide),zpL (by decide),zrQ⟩
def phA (B : Nat) : Nat -> (Nat -> Value) -> World -> Prop
  | 0, X, w => ∃ us uc up, X 0 = bkV awB us uc up /\ BkOwn B w awY awB us uc up
  | 2, X, w => ∃ us uc up, X 2 = .tuple #[bkV awB2 us uc up, .agg #[.int .i64 0, .int .i64 0], .int .i64 0] /\ BkOwn B w awY awB2 us uc up
  | 3, X, w => ∃ us uc up, X 3 = .tuple #[bkV awB2 us uc up, .agg #[.int .i64 0, .int .i64 0], .int .i64 0] /\ BkOwn B w awY awB2 us uc up
  | 4, X, w => ∃ us uc up, X 4 = bkV awB2 us uc up /\ BkOwn B w awY awB2 us uc up
  | 7, X, w => ∃ g, X 7 = .pointer (some ⟨g, 0, none⟩) /\ B <= g /\ ∃ a b c d, OwnV w g 26 [a, b, c, d]
  | 8, X, w => ∃ g, X 8 = .pointer (some ⟨g, 0, none⟩) /\ B <= g /\ ∃ a b, OwnV w g 38 [a, b]
  | 9, X, w => ∃ g us uc up, X 7 = .pointer (some ⟨g, 0, none⟩) /\ B <= g /\ OwnV w g 26 [.int .i64 10, us, uc, up] /\ BkOwn B w awY awB2 us uc up
  | _, _, _ => True
def gA (B : Nat) : Nat -> World -> World -> Prop
  | 9, w, w' => ∃ g, B <= g /\ (∃ a b c d, OwnV w g 26 [a, b, c, d]) /\ Only (fun k => k = g) w w' /\ ∃ a b c d, OwnV w' g 26 [a, b, c, d]
  | 10, w, w' => ∃ g, B <= g /\ (∃ a b, OwnV w g 38 [a, b]) /\ Only (fun k => k = g) w w' /\ ∃ a b, OwnV w' g 38 [a, b]
  | _, w, w' => Below w.heap.size w w'
theorem OwnV.apart {w:World} {g:Nat} {e:TypeId} {vs:List Value} (h:OwnV w g e vs) {B:Nat} {e':TypeId} {s n:Nat} {v:Value} {xs:List Value} (k:w.ownsRow B e' s v n xs) (hne:e≠e'):∀ g',v.ownBlock=some g'->¬ g'=g:=by
 rintro g' hg' rfl;rcases k.2 with ⟨rfl,_⟩ | ⟨g2,c2,cur2,rfl,_,kk,_⟩
 ·cases hg'
 ·have e2:g2=g':=by simpa [Value.ownBlock] using hg'
  subst e2;unfold OwnV at h;rw [h] at kk;cases kk;exact hne rfl
theorem BkOwn.book {B:Nat} {w w':World} {ys:List Sys} {b:Bk} {vs vc vp:Value} (h:BkOwn B w ys b vs vc vp) {g:Nat} {e:TypeId} {cs:List Value} (ho:OwnV w g e cs) (h1:e≠61) (h2:e≠9) (h3:e≠32) (hO:Only (fun k=>k=g) w w'):BkOwn B w' ys b vs vc vp:=
 ⟨hO.row h.sys (ho.apart h.sys h1),hO.row h.scr (ho.apart h.scr h2),hO.row h.pend (ho.apart h.pend h3)⟩
theorem BkOwn.below {B:Nat} {w w':World} {ys:List Sys} {b:Bk} {vs vc vp:Value} (h:BkOwn B w ys b vs vc vp) (hb:Below w.heap.size w w'):BkOwn B w' ys b vs vc vp:=
 ⟨zbu h.sys hb (zr _),zbu h.scr hb (zr _),zbu h.pend hb (zr _)⟩
theorem OwnV.other {w w':World} {g g':Nat} {e e':TypeId} {vs vs':List Value} (h:OwnV w g e vs) (k:OwnV w g' e' vs') (hne:e≠e') (ho:Only (fun j=>j=g') w w'):OwnV w' g e vs:=
 ho.own h (fun eq=>by
  have eq':g=g':=eq;subst eq';unfold OwnV at h k;rw [h] at k;cases k
  exact hne rfl)
theorem phA_st {B:Nat}:∀ (i j:Nat) (X:Nat->Value) (w w':World),i≠j->phA B j X w->gA B i w w'->phA B j X w':=by
 intro i j X w w' hij hp hg
 have key:(∀ ys b vs vc vp,BkOwn B w ys b vs vc vp->BkOwn B w' ys b vs vc vp):=by
  intro ys b vs vc vp h;unfold gA at hg;split at hg
  ·obtain ⟨g,-,⟨a,b,c,d,ho⟩,hO,-⟩:=hg;exact h.book ho (by decide) (by decide) (by decide) hO
  ·obtain ⟨g,-,⟨a,b,ho⟩,hO,-⟩:=hg;exact h.book ho (by decide) (by decide) (by decide) hO
  ·exact h.below hg
 unfold phA at hp ⊢;split at hp
 ·obtain ⟨us,uc,up,e,h⟩:=hp;exact ⟨us,uc,up,e,key _ _ _ _ _ h⟩
 ·obtain ⟨us,uc,up,e,h⟩:=hp;exact ⟨us,uc,up,e,key _ _ _ _ _ h⟩
 ·obtain ⟨us,uc,up,e,h⟩:=hp;exact ⟨us,uc,up,e,key _ _ _ _ _ h⟩
 ·obtain ⟨us,uc,up,e,h⟩:=hp;exact ⟨us,uc,up,e,key _ _ _ _ _ h⟩
 ·obtain ⟨g,e,hB,a,b,c,d,h⟩:=hp;refine ⟨g,e,hB,?_⟩;unfold gA at hg;split at hg
  ·obtain ⟨g2,-,⟨a2,b2,c2,d2,ho⟩,hO,a3,b3,c3,d3,ho3⟩:=hg;by_cases eg:g=g2
   ·subst eg;exact ⟨_,_,_,_,ho3⟩
   ·exact ⟨_,_,_,_,hO.own h eg⟩
  ·obtain ⟨g2,-,⟨a2,b2,ho⟩,hO,-⟩:=hg;exact ⟨_,_,_,_,h.other ho (by decide) hO⟩
  ·exact ⟨_,_,_,_,h.below hg (zr _)⟩
 ·obtain ⟨g,e,hB,a,b,h⟩:=hp;refine ⟨g,e,hB,?_⟩;unfold gA at hg;split at hg
  ·obtain ⟨g2,-,⟨a2,b2,c2,d2,ho⟩,hO,-⟩:=hg;exact ⟨_,_,h.other ho (by decide) hO⟩
  ·obtain ⟨g2,-,⟨a2,b2,ho⟩,hO,a3,b3,ho3⟩:=hg;by_cases eg:g=g2
   ·subst eg;exact ⟨_,_,ho3⟩
   ·exact ⟨_,_,hO.own h eg⟩
  ·exact ⟨_,_,h.below hg (zr _)⟩
 ·obtain ⟨g,us,uc,up,e,hB,h,hk⟩:=hp;refine ⟨g,us,uc,up,e,hB,?_,key _ _ _ _ _ hk⟩;unfold gA at hg;split at hg
  ·exact absurd rfl hij
  ·obtain ⟨g2,-,⟨a2,b2,ho⟩,hO,-⟩:=hg;exact h.other ho (by decide) hO
  ·exact h.below hg (zr _)
 ·trivial
theorem gA_H {B:Nat} {w0:World} (hB:B=w0.heap.size):∀ (i:Nat) (w w':World),Below w0.heap.size w0 w->gA B i w w'->Below w0.heap.size w0 w':=by
 intro i w w' h hg;unfold gA at hg;split at hg
 ·obtain ⟨g,h1,-,hO,-⟩:=hg;exact h.trans (hO.below (fun k e=>by subst e;omega) h.size)
 ·obtain ⟨g,h1,-,hO,-⟩:=hg;exact h.trans (hO.below (fun k e=>by subst e;omega) h.size)
 ·exact h.trans (hg.mono h.size)
theorem ztt {B i j:Nat} (h97:i=7->j=9->False) (X:Nat->Value) (v:Value) (w:World) (hij:i≠j) (hp:phA B j X w):phA B j (updX X i v) w:=by
 have hj:updX X i v j=X j:=yN (fun e=>hij e.symm);unfold phA at hp ⊢;split at hp
 ·rw [hj];exact hp
 ·rw [hj];exact hp
 ·rw [hj];exact hp
 ·rw [hj];exact hp
 ·rw [hj];exact hp
 ·rw [hj];exact hp
 ·rw [show updX X i v 7=X 7 from yN (fun e=>h97 e.symm rfl)];exact hp
 ·trivial
structure Aw (w W : World) (g : Nat) (us uc up : Value) : Prop where
  b : Below w.heap.size w W
  o : BkOwn w.heap.size W awY awB2 us uc up
  x : OwnV W g 26 [.int .i64 10, us, uc, up]
  p : OwnV W w.heap.size 32 [.int .i64 20, .int .i64 0, .string (bstr aws1)]
theorem Aw.next {w W W':World} {g:Nat} {us uc up:Value} (h:Aw w W g us uc up) (hb:Below W.heap.size W W'):Aw w W' g us uc up:=
 ⟨h.b.trans (hb.mono h.b.size),h.o.below hb,h.x.below hb (zr _),h.p.below hb (zr _)⟩
theorem Aw.bad {w W:World} {g:Nat} {us uc up:Value} (h:Aw w W g us uc up) (hG:Glob W) {tick slot:Int} {src:ByteArray} {q:Bool} {x:Int} (hp:src.size<=9223372036854775807) (hr:znO (znI awY) (errE awY) awB2 ⟨tick,slot,src.data.toList⟩=(none,q,x)) :
  Calls Tryz.prog 41 #[.agg #[.int .i64 10,us,uc,up],.int .i64 tick,.int .i64 slot,.string src] W fun e W'=>e=.returned (.int .i64 x)/\Aw w W' g us uc up/\Below W.heap.size W W':=
 (ztr hG zqd hp h.o.bk hr).mono (fun _ _ h'=>⟨h'.1,h.next h'.2,h'.2⟩)
theorem Aw.two {w W:World} {g:Nat} {us uc up:Value} (h:Aw w W g us uc up) (hG:Glob W) :
  Calls Tryz.prog 18 #[.agg #[.int .i64 10,us,uc,up],.agg #[.int .i64 20,.int .i64 0,.string (bstr aws2)]] W fun e W'=>e=.returned (.tuple #[zor,.agg #[.int .i64 1,.int .i64 11],.int .i64 120])/\Aw w W' g us uc up/\Below W.heap.size W W':=by
 have h1:=zpw (p:=⟨20,0,aws2⟩) hG zqd (by decide) h.o.bk;rw [aw_s2] at h1;refine h1.mono (fun e W' h'=>⟨?_,h.next h'.2,h'.2⟩);obtain ⟨⟨e1,-⟩,-⟩:=h';rw [e1];simp only [cond_true,aw_s2l,aw_s2c]
theorem adv_bk {B:Nat} {w':World} {ys:List Sys} {c:Bk} {us uc up:Value} (r1:w'.ownsRow B 61 4 us ys.length (ys.flatMap Sys.cells)) (r2:w'.ownsRow B 9 1 uc c.scr.length (c.scr.map fun s=>Value.string (bstr s))) (r3:zpG w' B c.pend up):BkIn w'.heap.size w' ys c us uc up:=
 ⟨Sl.of_own r1,Sl.of_own r2,r3.1,Sl.low0 (by omega) (Sl.of_own r1),Sl.low0 (by omega) (Sl.of_own r2),Sl.low0 (by omega) r3.1⟩
theorem Aw.adv {w W:World} {g:Nat} {us uc up:Value} (h:Aw w W g us uc up) (hG:Glob W) {t:Int} {c:Bk} {l:List Pt} (hr:zoe (znI awY) (rOf (errE awY)) awB2 t=(some (c,l),0)) :
  Calls Tryz.prog 20 #[.agg #[.int .i64 10,us,uc,up],.int .i64 t] W fun e W'=>(∃ vs vc vp vl,e=.returned (.tuple #[.agg #[.int .i64 c.tick,vs,vc,vp],vl,.int .i64 0])/\BkIn W'.heap.size W' awY c vs vc vp/\Pts W' l vl)/\Aw w W' g us uc up/\Below W.heap.size W W':=by
 have h1:=zq4 (t:=t) hG zqd h.o.bk;rw [hr] at h1;refine h1.mono (fun e W' h'=>⟨?_,h.next h'.2,h'.2⟩);obtain ⟨⟨vs,vc,vp,vl,e1,r1,r2,r3,r4⟩,-⟩:=h';exact ⟨vs,vc,vp,vl,e1,adv_bk r1 r2 r3,Sl.of_own r4⟩
theorem str1 {w:World} {x:List UInt8} {v:Value} (h:Strs w [x] v):∃ b off cap,v=.slice (some ⟨b,off,none⟩) 1 cap/\w.cell? ⟨b,off,none⟩=some (.string (bstr x)):=by
 obtain ⟨a,cap,rfl,-,-⟩:=Strs.form h;obtain ⟨b,off,rfl,-,hc⟩:=Strs.here h (Nat.zero_lt_one);exact ⟨b,off,cap,rfl,hc 0 (Nat.zero_lt_one)⟩
theorem pt1 {w:World} {x:Pt} {v:Value} (h:Pts w [x] v):∃ b off cap,v=.slice (some ⟨b,off,none⟩) 1 cap/\w.cell? ⟨b,off,none⟩=some (.int .i64 x.tick)/\w.cell? ⟨b,off+1,none⟩=some (.int .i64 x.slot)/\w.cell? ⟨b,off+2,none⟩=some (.string (bstr x.src)):=by
 obtain ⟨a,cap,rfl,-,-⟩:=Pts.form h;obtain ⟨b,off,rfl,-,hc⟩:=Pts.at h (Nat.zero_lt_one);obtain ⟨c0,c1,c2⟩:=hc 0 (Nat.zero_lt_one);exact ⟨b,off,cap,rfl,c0,c1,c2⟩
theorem zsx {w W:World} {g:Nat} {us uc up:Value} (h:Aw w W g us uc up) (hG:Glob W) :
  Calls Tryz.prog 20 #[.agg #[.int .i64 10,us,uc,up],.int .i64 19] W fun e W'=>(∃ a cs b off cap a2 cap2 a3 cap3,e=.returned (.tuple #[.agg #[.int .i64 19,.slice a 1 cs,.slice (some ⟨b,off,none⟩) 1 cap,.slice a2 1 cap2],.slice a3 0 cap3,.int .i64 0])/\W'.cell? ⟨b,off,none⟩=some (.string (bstr aws0)))/\Aw w W' g us uc up/\Below W.heap.size W W':=by
 refine (h.adv hG aw_a1).mono (fun e W' h'=>⟨?_,h'.2⟩);obtain ⟨⟨vs,vc,vp,vl,rfl,hB,hl⟩,-⟩:=h';obtain ⟨a,cs,rfl,-,-⟩:=hB.sys.form;obtain ⟨b,off,cap,rfl,hc⟩:=str1 (x:=aws0) hB.scr;obtain ⟨a2,cap2,rfl,-,-⟩:=hB.pend.form;obtain ⟨a3,cap3,rfl,-,-⟩:=hl.form;exact ⟨_,_,_,_,_,_,_,_,_,rfl,hc⟩
theorem ztu {w W:World} {g:Nat} {us uc up:Value} (h:Aw w W g us uc up) (hG:Glob W) :
  Calls Tryz.prog 20 #[.agg #[.int .i64 10,us,uc,up],.int .i64 20] W fun e W'=>(∃ a cs b off cap a2 cap2 b3 o3 cap3,e=.returned (.tuple #[.agg #[.int .i64 20,.slice a 1 cs,.slice (some ⟨b,off,none⟩) 1 cap,.slice a2 0 cap2],.slice (some ⟨b3,o3,none⟩) 1 cap3,.int .i64 0])/\W'.cell? ⟨b,off,none⟩=some (.string (bstr aws1))/\(W'.cell? ⟨b3,o3,none⟩=some (.int .i64 20)/\W'.cell? ⟨b3,o3+1,none⟩=some (.int .i64 0)/\W'.cell? ⟨b3,o3+2,none⟩=some (.string (bstr aws1)))/\BkIn W'.heap.size W' awY ⟨20,[aws1],[]⟩ (.slice a 1 cs) (.slice (some ⟨b,off,none⟩) 1 cap) (.slice a2 0 cap2))/\Aw w W' g us uc up/\Below W.heap.size W W':=by
 refine (h.adv hG aw_a2).mono (fun e W' h'=>⟨?_,h'.2⟩);obtain ⟨⟨vs,vc,vp,vl,rfl,hB,hl⟩,-⟩:=h';obtain ⟨a,cs,rfl,-,-⟩:=hB.sys.form;obtain ⟨b,off,cap,rfl,hc⟩:=str1 (x:=aws1) hB.scr;obtain ⟨a2,cap2,rfl,-,-⟩:=hB.pend.form;obtain ⟨b3,o3,cap3,rfl,hd⟩:=pt1 hl;exact ⟨_,_,_,_,_,_,_,_,_,_,rfl,hc,hd,hB⟩
theorem bk_f2 (a b c d:Value) (u:World):(Instr.field 26 (.agg #[a,b,c,d]) 2).run Tryz.prog u=.ok c u:=by
 unfold Instr.field;simp [go_sem,asAgg,Tryz.underlying26]
theorem ztv:setB awY ⟨20,[aws1],[]⟩ 100=true:=by
 unfold setB;rw [aw_v];rfl
theorem ztw {B:Nat} {w:World} {p:ProgS} {v:Value} (h:PrgsV B w [p] v):∃ b off cap,v=.slice (some ⟨b,off,none⟩) 1 cap/\w.cell? ⟨b,off+3,none⟩=some (.int .u32 (w32 p.writes)):=by
 obtain ⟨xs,h1,h2,-⟩:=h
 match xs,h1,h2 with
 | [x],h1,h2 =>
  obtain rfl:x.1=p:=by simpa using h1
  have hs:=Sl.of_own h2;obtain ⟨a,cap,rfl,-,-⟩:=Sl.form hs;obtain ⟨b,off,rfl,-,hc⟩:=Sl.at (by omega) hs (Nat.zero_lt_one)
  exact ⟨b,off,cap,rfl,hc 3 (show 3 < 1 * 4 by decide)⟩
 | [],h1,_=>cases h1
 | _ :: _ :: _,h1,_=>simp at h1
theorem aw_set {W:World} {vs vc vp:Value} (hG:Glob W) (h:BkIn W.heap.size W awY ⟨20,[aws1],[]⟩ vs vc vp) :
  Calls Tryz.prog 22 #[.agg #[.int .i64 20,vs,vc,vp],.int .u64 7,.int .i64 100] W fun e W'=>(∃ a cs b off cap,e=.returned (.tuple #[.agg #[.slice a 1 cs,.slice (some ⟨b,off,none⟩) 1 cap,.int .u64 7,.int .i64 100],.int .i64 0])/\W'.cell? ⟨b,off+3,none⟩=some (.int .u32 256))/\Below W.heap.size W W':=by
 have h1:=zsf (seed:=7) (fuel:=100) hG zts h;rw [ztv] at h1;refine h1.mono (fun e W' h'=>⟨?_,h'.2⟩);obtain ⟨⟨us,ul,e1,hs,hp⟩,-⟩:=h';obtain ⟨b,off,cap,rfl,hc⟩:=ztw hp;obtain ⟨a,cs,rfl,-,-⟩:=Sl.form (Sl.of_own hs);rw [aw_w] at hc;exact ⟨a,cs,b,off,cap,e1,hc⟩
theorem zqE {w:World} (hG:Glob w):Calls Tryz.prog 13 #[] w fun e w'=>e=.returned (.bool true)/\Below w.heap.size w w':=by
 have hgs:=hG.size;have HG:Hid (∀ W,Below w.heap.size w W->Glob W):=zh (fun W hb=>hG.below hb hgs);obtain ⟨W1,hW1,hb1,hX1,hs1⟩:=box1 w [.int .i64 20,.int .i64 0,.string { data:=#[108,105,102,101,91,48,93,32,61,32,108,105,102,101,91,48,93,32,43,32,50,59] }] 32;have hs1a:W1.heap.size<=w.heap.size+1:=by omega
 have hs1b:w.heap.size+1<=W1.heap.size:=by omega
 have HH:=zh (fun (W:World)=>zqC W);have HS:=zh (fun (W:World) (us uc up:Value) (hb:Below w.heap.size w W) (h:BkIn W.heap.size W awY awB us uc up)=>zpw (p:=awP) (HG.out W hb) awB_ok (by decide) h);rw [aw_s1] at HS;have HX1:=zh hX1;have HW1:=zh hW1;have Hb1:=zh hb1;clear hG hs1 hW1 hb1 hX1;go_enter Tryz.func13,Tryz.ntmps13
 go_upto_region 2 with (fail)
 rw [<- HW1.out];refine zoO [none,some (.agg #[.int .i64 20,.int .i64 0,.string { data:=#[108,105,102,101,91,48,93,32,61,32,108,105,102,101,91,48,93,32,43,32,50,59] }]),none,none,none,some (.agg #[.int .i64 0,.int .i64 0]),some (.int .i64 0),none,none,none,some undef,some (.int .i64 0)] (phA W1.heap.size) (gA W1.heap.size) (fun w'=>Below W1.heap.size W1 w') (by kernel_rfl) (by kernel_rfl) rfl (yR _ _).drew (gA_H rfl) (fun i j X w w' hij hp _ hg=>phA_st i j X w w' hij hp hg) ?hloc ?hconst ?hs ?hf
 case hloc =>
  intro i j X v w hij hok hp;refine ztt (fun e1 e2=>?_) X v w hij hp;subst e1;subst e2;have e:false=true:=(hok _ rfl).symm.trans (by kernel_rfl);cases e
 case hconst =>
  intro j X w h;unfold phA;split
  all_goals first | trivial | (simp at h)
 case hs =>
  simp only [zfb,zos,zob,zoc,zot,Nat.reduceAdd,Act.put,zs1,zs3,zs2];refine stepsG.cons ?_ (stepsG.cons ?_ (stepsG.cons ?_ (stepsG.cons ?_ (stepsG.cons ?_ (stepsG.cons ?_ (stepsG.cons ?_ (stepsG.cons ?_ (stepsG.cons ?_ (stepsG.cons ?_ (stepsG.cons ?_ (stepsG.cons ?_ (stepsG.nil))))))))))))
  ·intro X w2 hH hw;clear hw;go_wp2_with fail
   go_at_call 40;refine (HH.out _).mono ?_;rintro e3 w3 ⟨rfl,hO,hb3⟩;have HO:=zh hO;have Hb3:=zh hb3;have hs2:=hH.size;clear hO hb3;go_wp2_with fail
   exact ⟨⟨_,rfl,⟨_,_,_,rfl,znE HO.out.sys hs2,znE HO.out.scr hs2,znE HO.out.pend hs2⟩⟩,Hb3.out⟩
  ·intro X w2 hH hw;clear hw;obtain ⟨x0,x1,x2⟩:=yc3 (HX1.out.below hH (zr _));clear hH;go_wp2_with fail
   exact ⟨⟨_,rfl,rfl⟩,yR _ _⟩
  ·intro X w2 hH hw;obtain ⟨us,uc,up,e,hO⟩:=hw 0 (by kernel_rfl);rw [e];have HS2:=zh (HS.out _ _ _ _ (Hb1.out.trans (hH.mono (by omega))) hO.bk);have hs2:=hH.size;obtain ⟨a1,k1,rfl,-,-⟩:=Sl.form (Sl.of_own hO.sys);obtain ⟨a2,k2,rfl,-,-⟩:=Sl.form (Sl.of_own hO.scr);obtain ⟨a3,k3,rfl,-,-⟩:=Sl.form (Sl.of_own hO.pend);clear hw hH e hO;go_wp2_with fail
   go_at_call 18;refine HS2.out.mono ?_;rintro e3 w3 ⟨⟨ut,ud,uq,rfl,hO⟩,hb3⟩;have HO:=zh hO;have Hb3:=zh hb3;clear hO hb3;go_wp2_with fail
   exact ⟨⟨_,rfl,⟨_,_,_,rfl,znE HO.out.sys hs2,znE HO.out.scr hs2,znE HO.out.pend hs2⟩⟩,Hb3.out⟩
  ·intro X w2 hH hw;obtain ⟨us,uc,up,e,hO⟩:=hw 2 (by kernel_rfl);rw [e];have HO:=zh hO;clear hw hH e hO;go_wp2_with fail
   exact ⟨⟨_,rfl,⟨_,_,_,rfl,HO.out⟩⟩,yR _ _⟩
  ·intro X w2 hH hw;obtain ⟨us,uc,up,e,hO⟩:=hw 3 (by kernel_rfl);rw [e];have HO:=zh hO;clear hw hH e hO;go_wp2_with fail
   exact ⟨⟨_,rfl,⟨_,_,_,rfl,HO.out⟩⟩,yR _ _⟩
  ·intro X w2 hH hw;obtain ⟨us,uc,up,e,hO⟩:=hw 3 (by kernel_rfl);rw [e];have HO:=zh hO;clear hw hH e hO;go_wp2_with fail
   exact ⟨⟨_,rfl,rfl⟩,yR _ _⟩
  ·intro X w2 hH hw;obtain ⟨us,uc,up,e,hO⟩:=hw 3 (by kernel_rfl);rw [e];have HO:=zh hO;clear hw hH e hO;go_wp2_with fail
   exact ⟨⟨_,rfl,rfl⟩,yR _ _⟩
  ·intro X w2 hH hw;clear hw;have hs2:=hH.size;clear hH;go_wp2_with fail
   exact ⟨⟨_,rfl,⟨_,rfl,hs2,_,_,_,_,OwnV.new _ _ _⟩⟩,(yR _ _).alloc (zr _) _⟩
  ·intro X w2 hH hw;clear hw;have hs2:=hH.size;clear hH;go_wp2_with fail
   exact ⟨⟨_,rfl,⟨_,rfl,hs2,_,_,OwnV.new _ _ _⟩⟩,(yR _ _).alloc (zr _) _⟩
  ·intro X w2 hH hw;obtain ⟨g,e7,hg,b0,b1,b2,b3,hX⟩:=hw 7 (by kernel_rfl);obtain ⟨us,uc,up,e4,hO⟩:=hw 4 (by kernel_rfl);rw [e7,e4];obtain ⟨a1,k1,rfl,-,-⟩:=Sl.form (Sl.of_own hO.sys);obtain ⟨a2,k2,rfl,-,-⟩:=Sl.form (Sl.of_own hO.scr);obtain ⟨a3,k3,rfl,-,-⟩:=Sl.form (Sl.of_own hO.pend);obtain ⟨y0,y1,y2,y3⟩:=yc4 hX;have yf:=hX.free;obtain ⟨W6,hW6,hX6,hg6⟩:=set4 hX (.int .i64 awB2.tick) (.slice a1 awY.length k1) (.slice a2 awB2.scr.length k2) (.slice a3 awB2.pend.length k3);have ho6:Only (fun k=>k=g) w2 W6:=Only.of_grown hg6 (fun r e=>by cases e;rfl);have HO6:=zh (hO.book hX (by decide) (by decide) (by decide) ho6);have He7:=zh e7;have HX:=zh hX;have HX6:=zh hX6;have Ho6:=zh ho6;have HW6:=zh hW6;clear hw hH e4 e7 hO hX hW6 hX6 hg6 ho6;unfold bkV;go_wp2_with fail
   rw [<- HW6.out];exact ⟨⟨undef,rfl,⟨g,_,_,_,He7.out,hg,HX6.out,HO6.out⟩⟩,⟨g,hg,⟨_,_,_,_,HX.out⟩,Ho6.out,⟨_,_,_,_,HX6.out⟩⟩⟩
  ·intro X w2 hH hw;obtain ⟨g,e8,hg,b0,b1,hX⟩:=hw 8 (by kernel_rfl);rw [e8];obtain ⟨y0,y1⟩:=yc2 hX;have yf:=hX.free;obtain ⟨W6,hW6,hX6,ho6⟩:∃ W6,W6=(w2.setCell ⟨g,0,none⟩ (.int .i64 0)).setCell ⟨g,1,none⟩ (.int .i64 0)/\OwnV W6 g 38 [.int .i64 0,.int .i64 0]/\Only (fun k=>k=g) w2 W6:=⟨_,rfl,(hX.set 0 _).set 1 _,((Only.refl (fun k=>k=g) w2).setIn rfl _).setIn rfl _⟩;have HX:=zh hX;have HX6:=zh hX6;have Ho6:=zh ho6;have HW6:=zh hW6;clear hw hH e8 hX hW6 hX6 ho6;go_wp2_with fail
   rw [<- HW6.out];exact ⟨⟨undef,rfl,rfl⟩,⟨g,hg,⟨_,_,HX.out⟩,Ho6.out,⟨_,_,HX6.out⟩⟩⟩
  ·intro X w2 hH hw;clear hw hH;go_wp2_with fail
   exact ⟨⟨_,rfl,rfl⟩,yR _ _⟩
 case hf =>
  intro X w2 hH hp;obtain ⟨g,us,uc,up,e7,hg,hx,ho⟩:=hp 9 (Nat.le_of_ble_eq_true (by kernel_rfl));obtain ⟨gp,e8,hgp,q0,q1,hq⟩:=hp 8 (Nat.le_of_ble_eq_true (by kernel_rfl));simp only [zfb,zos,zob,zoc,zot,Nat.reduceAdd,Act.put,zs1,zs3,zs2];rw [e7,e8];have hA:Aw w w2 g us uc up:=⟨Hb1.out.trans (hH.mono (by omega)),⟨znE ho.sys (by omega),znE ho.scr (by omega),znE ho.pend (by omega)⟩,hx,HX1.out.below hH (zr _)⟩;have HA:=zh hA;have HS4:=zh (hA.two (HG.out _ hA.b));obtain ⟨x0,x1,x2,x3⟩:=yc4 hx;clear hp hH e7 e8 hg hgp hx ho hq hA HX1 HW1 Hb1 HH HS;go_wp2_with fail
  go_at_call 18;refine HS4.out.mono ?_;rintro e4 w4 ⟨rfl,hA4,hb4⟩;have hs4:=hb4.size;clear HA HS4 x0 x1 x2 x3 hb4;obtain ⟨W5,hW5,hb5,hX4,hX5,hs5⟩:=zqb w4 [.int .i64 0,.slice none 0 0,.slice none 0 0,.slice none 0 0] [.int .i64 1,.int .i64 11] 26 38;have hA5:=hA4.next hb5;have HA5:=zh hA5;have HW5:=zh hW5;obtain ⟨z0,z1⟩:=yc2 hX5;obtain ⟨x0,x1,x2,x3⟩:=yc4 hA5.x;have hs5a:W5.heap.size<=w4.heap.size+2:=by omega
  have hs5b:w4.heap.size+2<=W5.heap.size:=by omega
  clear hA4 hA5 hW5 hb5 hX4 hX5 hs5;unfold zor;go_upto_region 5 with (fail)
  rw [<- HW5.out];have HC:=zh (HA5.out.bad (HG.out _ HA5.out.b) (tick:=20) (slot:=0) (src:={ data:=#[116,97,103,91,48,93,32,61,32,49,59] }) (by decide) aw_s3);go_wp2_with fail
  go_at_call 41;refine HC.out.mono ?_;rintro e6 w6 ⟨rfl,hA6,hb6⟩;have hs6:=hb6.size;clear HC x0 x1 x2 x3;have HA6:=zh hA6;obtain ⟨x0,x1,x2,x3⟩:=yc4 hA6.x;clear hA6 hb6 z0 z1;have HC:=zh (HA6.out.bad (HG.out _ HA6.out.b) (tick:=20) (slot:=0) (src:={ data:=#[120,32,61,32,49,59] }) (by decide) aw_s4);go_wp2_with fail
  go_at_call 41;refine HC.out.mono ?_;rintro e7 w7 ⟨rfl,hA7,hb7⟩;have hs7:=hb7.size;clear HC x0 x1 x2 x3;have HA7:=zh hA7;obtain ⟨x0,x1,x2,x3⟩:=yc4 hA7.x;clear hA7 hb7 ;have HC:=zh (HA7.out.bad (HG.out _ HA7.out.b) (tick:=20) (slot:=1) (src:={ data:=#[] }) (by decide) aw_s5);go_wp2_with fail
  go_at_call 41;refine HC.out.mono ?_;rintro e8 w8 ⟨rfl,hA8,hb8⟩;have hs8:=hb8.size;clear HC x0 x1 x2 x3;have HA8:=zh hA8;obtain ⟨x0,x1,x2,x3⟩:=yc4 hA8.x;clear hA8 hb8 ;have HC:=zh (HA8.out.bad (HG.out _ HA8.out.b) (tick:=10) (slot:=0) (src:={ data:=#[] }) (by decide) aw_s6);go_wp2_with fail
  go_at_call 41;refine HC.out.mono ?_;rintro e9 w9 ⟨rfl,hA9,hb9⟩;have hs9:=hb9.size;clear HC x0 x1 x2 x3;have HA9:=zh hA9;obtain ⟨x0,x1,x2,x3⟩:=yc4 hA9.x;have p2:=hA9.p.cell (i:=2) rfl;clear hA9 hb9 ;have HC:=zh (HA9.out.bad (HG.out _ HA9.out.b) (tick:=20) (slot:=0) (src:=bstr aws1) (by decide) aw_s7);go_wp2_with fail
  go_at_call 41;refine HC.out.mono ?_;rintro e10 w10 ⟨rfl,hA10,hb10⟩;have hs10:=hb10.size;clear HC x0 x1 x2 x3;have HA10:=zh hA10;obtain ⟨x0,x1,x2,x3⟩:=yc4 hA10.x;clear hA10 hb10 p2;have HE:=zh (zsx HA10.out (HG.out _ HA10.out.b));go_wp2_with fail
  go_at_call 20;refine HE.out.mono ?_;rintro e11 w11 ⟨⟨y1,k1,b2,o2,k2,y3,k3,y4,k4,rfl,hc2⟩,hA11,hb11⟩;have hs11:=hb11.size;clear HE x0 x1 x2 x3;obtain ⟨W12,hW12,hb12,hX12,hs12⟩:=box1 w11 [.int .i64 19,.slice y1 1 k1,.slice (some ⟨b2,o2,none⟩) 1 k2,.slice y3 1 k3] 26;have hA12:=hA11.next hb12;have HC12:=zh (Below.keep hb12 hc2);have HA12:=zh hA12;have HW12:=zh hW12;have HX12:=zh hX12;have HL:=zh (ztu hA12 (HG.out _ hA12.b));have hs12a:W12.heap.size<=w11.heap.size+1:=by omega
  have hs12b:w11.heap.size+1<=W12.heap.size:=by omega
  obtain ⟨x0,x1,x2,x3⟩:=yc4 hA12.x;clear hA11 hb11 hc2 hA12 hW12 hb12 hX12 hs12;go_upto_region 8 with (fail)
  rw [<- HW12.out];go_wp2_with fail
  go_at_call 20;refine HL.out.mono ?_;rintro e13 w13 ⟨⟨y5,k5,b6,o6,k6,y7,k7,b8,o8,k8,rfl,hc6,⟨hc8,hc9,hc10⟩,hBk⟩,hA13,hb13⟩;have hs13:=hb13.size;clear HL x0 x1 x2 x3;obtain ⟨W14,hW14,hb14,hX14,hs14⟩:=box1 w13 [.int .i64 20,.slice y5 1 k5,.slice (some ⟨b6,o6,none⟩) 1 k6,.slice y7 0 k7] 26;have hA14:=hA13.next hb14;have HC14:=zh (Below.keep hb14 (Below.keep hb13 HC12.out));have HX12b:=zh ((HX12.out.below hb13 (zr _)).below hb14 (zr _));have HD14:=zh (Below.keep hb14 hc6);have HP14:=zh (And.intro (Below.keep hb14 hc8) (And.intro (Below.keep hb14 hc9) (Below.keep hb14 hc10)));have HA14:=zh hA14;have HW14:=zh hW14;have HX14:=zh hX14;have HSt:=zh (aw_set (HG.out _ hA14.b) (hBk.next hb14));have hs14a:W14.heap.size<=w13.heap.size+1:=by omega
  have hs14b:w13.heap.size+1<=W14.heap.size:=by omega
  obtain ⟨x0,x1,x2,x3⟩:=yc4 hX14;clear hA13 hb13 hc6 hc8 hc9 hc10 hBk hA14 hW14 hb14 hX14 hs14 HX12 HC12;go_upto_region 9 with (fail)
  rw [<- HW14.out];go_wp2_with fail
  go_at_call 22;refine HSt.out.mono ?_;rintro e15 w15 ⟨⟨a15,n15,b15,o15,k15,rfl,hc15⟩,hb15⟩;have hs15:=hb15.size;clear HSt x0 x1 x2 x3;obtain ⟨W16,hW16,hb16,hX16,hs16⟩:=box1 w15 [.slice a15 1 n15,.slice (some ⟨b15,o15,none⟩) 1 k15,.int .u64 7,.int .i64 100] 49;have HA16:=zh ((HA14.out.next hb15).next hb16);have HX16:=zh hX16;have HX14b:=zh ((HX14.out.below hb15 (zr _)).below hb16 (zr _));have hX12c:=(HX12b.out.below hb15 (zr _)).below hb16 (zr _);have c3:=hX12c.cell (i:=3) rfl;have c2:=hX12c.cell (i:=2) rfl;have d0:=Below.keep hb16 (Below.keep hb15 HC14.out);have HD16:=zh (Below.keep hb16 (Below.keep hb15 HD14.out));have HP16:=zh (And.intro (Below.keep hb16 (Below.keep hb15 HP14.out.1)) (And.intro (Below.keep hb16 (Below.keep hb15 HP14.out.2.1)) (Below.keep hb16 (Below.keep hb15 HP14.out.2.2))));have HC16:=zh (Below.keep hb16 hc15);have HW16:=zh hW16;obtain ⟨N,hN⟩:∃ N,N=W16.heap.size:=⟨_,rfl⟩
  have HH:Hid (Calls Tryz.prog 40 #[] W16.drew fun e w'=>e=.returned (.agg #[.int .i64 10,.slice (some ⟨N+1,0,none⟩) 1 1,.slice (some ⟨N+1+1,0,none⟩) 1 1,.slice none 0 0])/\w'.cell? ⟨N+1+1,0,none⟩=some (.string (bstr aws0))/\Below W16.heap.size W16 w'):=zh (by
   subst hN;refine (zqC W16.drew).mono (fun e w' h=>?_);obtain ⟨e1,h1,h2⟩:=h;obtain ⟨b,off,cap,e2,hc⟩:=str1 (x:=aws0) (Sl.of_own h1.scr);cases e2
   exact ⟨e1,hc,Below.trans (b:=W16.drew) (yR _ _).drew h2⟩)
  clear hN;have hs16a:W16.heap.size<=w15.heap.size+1:=by omega
  have hs16b:w15.heap.size+1<=W16.heap.size:=by omega
  have HC3:=zh c3;have HC2:=zh c2;have HD0:=zh d0;clear hb15 hc15 hW16 hb16 hX16 hs16 hX12c HX14 HX12b HC14 HD14 HP14 HA14 c3 c2 d0;go_upto_region 10 with (fail)
  rw [<- HW16.out];simp only [List.append_eq,List.cons_append,List.nil_append];refine zc7 72 [0,0,0,0,0,0,0,0,0,0,0,0,0,0,0,0,0,0,3,4,4,4,4,4,4,4,4,4,4,4,4,4,4,4,4,4,4,4,4,4,4,4,4,4,4,4,4,4,4,4,4,4,4,4,4,4,4,4,4,4,4,4,4,4,4,4,4,4,4,4,4,4] (fun b w'=>Below W16.heap.size W16 w'/\(b=false->w'=W16.drew)/\(b=true->w'.cell? ⟨N+1+1,0,none⟩=some (.string (bstr aws0)))) (by kernel_rfl) (by kernel_rfl) ⟨(yR _ _).drew,fun _=>rfl,fun h=>by cases h⟩ ?_;simp only [List.take_succ_cons,List.take_zero,List.drop_succ_cons,List.drop_zero]
  iterate 9
   try simp only [Act.put,zs1,zs3,zs2]
   apply stepsSeq2.val
   ·rintro b w' hE;have HE:=zh hE;clear hE;try simp only [Act.put,zs1,zs3,zs2]
    go_wp2;exact ⟨rfl,HE.out⟩
  try simp only [Act.put,zs1,zs3,zs2]
  apply stepsSeq2.val
  ·rintro b w' hE;have HE:=zh hE;have z0:=Below.keep hE.1 HC3.out;clear hE;try simp only [Act.put,zs1,zs3,zs2]
   go_wp2;exact ⟨rfl,HE.out⟩
  iterate 5
   try simp only [Act.put,zs1,zs3,zs2]
   apply stepsSeq2.val
   ·rintro b w' hE;have HE:=zh hE;clear hE;try simp only [Act.put,zs1,zs3,zs2]
    go_wp2;exact ⟨rfl,HE.out⟩
  try simp only [Act.put,zs1,zs3,zs2]
  apply stepsSeq2.val
  ·rintro b w' hE;have HE:=zh hE;have z0:=Below.keep hE.1 HC2.out;clear hE;try simp only [Act.put,zs1,zs3,zs2]
   go_wp2;exact ⟨rfl,HE.out⟩
  try simp only [Act.put,zs1,zs3,zs2]
  apply stepsSeq2.val
  ·rintro b w' hE;have HE:=zh hE;clear hE;try simp only [Act.put,zs1,zs3,zs2]
   go_wp2;exact ⟨rfl,HE.out⟩
  try simp only [Act.put,zs1,zs3,zs2]
  apply stepsSeq2.val
  ·rintro b w' hE;have HE:=zh hE;have z0:=Below.keep hE.1 HD0.out;clear hE;try simp only [Act.put,zs1,zs3,zs2]
   go_wp2;exact ⟨rfl,HE.out⟩
  try simp only [Act.put,zs1,zs3,zs2]
  apply stepsSeq2.mem
  ·rintro w' ⟨-,hE0,-⟩;obtain rfl:=hE0 rfl;try simp only [Act.put,zs1,zs3,zs2]
   go_wp2_with fail
   go_at_call 40;refine HH.out.mono ?_;rintro e17 w17 ⟨rfl,hc17,hb17⟩;have HC17:=zh hc17;have HB17:=zh hb17;clear hc17 hb17;go_wp2;exact ⟨rfl,HB17.out,fun h=>(by cases h),fun _=>HC17.out⟩
  try simp only [Act.put,zs1,zs3,zs2]
  apply stepsSeq2.back
  ·rintro w' hE;have HE:=zh hE;have hfd:=bk_f2;clear hE;try simp only [Act.put,zs1,zs3,zs2]
   go_wp2;exact ⟨rfl,HE.out.1,HE.out.2.2 (by first | rfl | trivial)⟩
  try simp only [Act.put,zs1,zs3,zs2]
  apply stepsSeq2.back
  ·rintro w' hE;have HE:=zh hE;clear hE;try simp only [Act.put,zs1,zs3,zs2]
   go_wp2;exact ⟨rfl,HE.out.1,HE.out.2.2 (by first | rfl | trivial)⟩
  try simp only [Act.put,zs1,zs3,zs2]
  apply stepsSeq2.back
  ·rintro w' hE;have HE:=zh hE;have z0:=hE.2.2 (by first | rfl | trivial);clear hE;try simp only [Act.put,zs1,zs3,zs2]
   go_wp2;exact ⟨rfl,HE.out.1,HE.out.2.2 (by first | rfl | trivial)⟩
  iterate 14
   try simp only [Act.put,zs1,zs3,zs2]
   apply stepsSeq2.back
   ·rintro w' hE;have HE:=zh hE;clear hE;try simp only [Act.put,zs1,zs3,zs2]
    go_wp2;exact ⟨rfl,HE.out.1,HE.out.2.2 (by first | rfl | trivial)⟩
  try simp only [Act.put,zs1,zs3,zs2]
  apply stepsSeq2.back
  ·rintro w' hE;have HE:=zh hE;have z0:=Below.keep hE.1 HP16.out.1;have z1:=Below.keep hE.1 HP16.out.2.1;have z2:=Below.keep hE.1 HP16.out.2.2;clear hE;try simp only [Act.put,zs1,zs3,zs2]
   go_wp2;exact ⟨rfl,HE.out.1,HE.out.2.2 (by first | rfl | trivial)⟩
  try simp only [Act.put,zs1,zs3,zs2]
  apply stepsSeq2.back
  ·rintro w' hE;have HE:=zh hE;have z0:=Below.keep hE.1 (HA16.out.p.cell (i:=0) rfl);have z1:=Below.keep hE.1 (HA16.out.p.cell (i:=1) rfl);have z2:=Below.keep hE.1 (HA16.out.p.cell (i:=2) rfl);clear hE;try simp only [Act.put,zs1,zs3,zs2]
   go_wp2;exact ⟨rfl,HE.out.1,HE.out.2.2 (by first | rfl | trivial)⟩
  iterate 4
   try simp only [Act.put,zs1,zs3,zs2]
   apply stepsSeq2.back
   ·rintro w' hE;have HE:=zh hE;clear hE;try simp only [Act.put,zs1,zs3,zs2]
    go_wp2;exact ⟨rfl,HE.out.1,HE.out.2.2 (by first | rfl | trivial)⟩
  try simp only [Act.put,zs1,zs3,zs2]
  apply stepsSeq2.back
  ·rintro w' hE;have HE:=zh hE;have z0:=Below.keep hE.1 (HX14b.out.cell (i:=2) rfl);clear hE;try simp only [Act.put,zs1,zs3,zs2]
   go_wp2;exact ⟨rfl,HE.out.1,HE.out.2.2 (by first | rfl | trivial)⟩
  try simp only [Act.put,zs1,zs3,zs2]
  apply stepsSeq2.back
  ·rintro w' hE;have HE:=zh hE;clear hE;try simp only [Act.put,zs1,zs3,zs2]
   go_wp2;exact ⟨rfl,HE.out.1,HE.out.2.2 (by first | rfl | trivial)⟩
  try simp only [Act.put,zs1,zs3,zs2]
  apply stepsSeq2.back
  ·rintro w' hE;have HE:=zh hE;have z0:=Below.keep hE.1 HD16.out;clear hE;try simp only [Act.put,zs1,zs3,zs2]
   go_wp2;exact ⟨rfl,HE.out.1,HE.out.2.2 (by first | rfl | trivial)⟩
  try simp only [Act.put,zs1,zs3,zs2]
  apply stepsSeq2.back
  ·rintro w' hE;have HE:=zh hE;clear hE;try simp only [Act.put,zs1,zs3,zs2]
   go_wp2;exact ⟨rfl,HE.out.1,HE.out.2.2 (by first | rfl | trivial)⟩
  try simp only [Act.put,zs1,zs3,zs2]
  apply stepsSeq2.back
  ·rintro w' hE;have HE:=zh hE;have z0:=Below.keep hE.1 (HA16.out.p.cell (i:=2) rfl);clear hE;try simp only [Act.put,zs1,zs3,zs2]
   go_wp2;exact ⟨rfl,HE.out.1,HE.out.2.2 (by first | rfl | trivial)⟩
  iterate 8
   try simp only [Act.put,zs1,zs3,zs2]
   apply stepsSeq2.back
   ·rintro w' hE;have HE:=zh hE;clear hE;try simp only [Act.put,zs1,zs3,zs2]
    go_wp2;exact ⟨rfl,HE.out.1,HE.out.2.2 (by first | rfl | trivial)⟩
  try simp only [Act.put,zs1,zs3,zs2]
  apply stepsSeq2.back
  ·rintro w' hE;have HE:=zh hE;have z0:=Below.keep hE.1 (HX16.out.cell (i:=1) rfl);clear hE;try simp only [Act.put,zs1,zs3,zs2]
   go_wp2;exact ⟨rfl,HE.out.1,HE.out.2.2 (by first | rfl | trivial)⟩
  iterate 5
   try simp only [Act.put,zs1,zs3,zs2]
   apply stepsSeq2.back
   ·rintro w' hE;have HE:=zh hE;clear hE;try simp only [Act.put,zs1,zs3,zs2]
    go_wp2;exact ⟨rfl,HE.out.1,HE.out.2.2 (by first | rfl | trivial)⟩
  try simp only [Act.put,zs1,zs3,zs2]
  apply stepsSeq2.back
  ·rintro w' hE;have HE:=zh hE;have z0:=Below.keep hE.1 (HX16.out.cell (i:=1) rfl);clear hE;try simp only [Act.put,zs1,zs3,zs2]
   go_wp2;exact ⟨rfl,HE.out.1,HE.out.2.2 (by first | rfl | trivial)⟩
  iterate 2
   try simp only [Act.put,zs1,zs3,zs2]
   apply stepsSeq2.back
   ·rintro w' hE;have HE:=zh hE;clear hE;try simp only [Act.put,zs1,zs3,zs2]
    go_wp2;exact ⟨rfl,HE.out.1,HE.out.2.2 (by first | rfl | trivial)⟩
  try simp only [Act.put,zs1,zs3,zs2]
  apply stepsSeq2.back
  ·rintro w' hE;have HE:=zh hE;have z0:=Below.keep hE.1 HC16.out;clear hE;try simp only [Act.put,zs1,zs3,zs2]
   go_wp2;exact ⟨rfl,HE.out.1,HE.out.2.2 (by first | rfl | trivial)⟩
  iterate 4
   try simp only [Act.put,zs1,zs3,zs2]
   apply stepsSeq2.back
   ·rintro w' hE;have HE:=zh hE;clear hE;try simp only [Act.put,zs1,zs3,zs2]
    go_wp2;exact ⟨rfl,HE.out.1,HE.out.2.2 (by first | rfl | trivial)⟩
  try simp only [Act.put,zs1,zs3,zs2]
  apply stepsSeq2.back
  ·rintro w' hE;have HE:=zh hE;have z0:=Below.keep hE.1 (HX16.out.cell (i:=2) rfl);clear hE;try simp only [Act.put,zs1,zs3,zs2]
   go_wp2;exact ⟨rfl,HE.out.1,HE.out.2.2 (by first | rfl | trivial)⟩
  iterate 2
   try simp only [Act.put,zs1,zs3,zs2]
   apply stepsSeq2.back
   ·rintro w' hE;have HE:=zh hE;clear hE;try simp only [Act.put,zs1,zs3,zs2]
    go_wp2;exact ⟨rfl,HE.out.1,HE.out.2.2 (by first | rfl | trivial)⟩
  try simp only [Act.put,zs1,zs3,zs2]
  refine stepsSeq2.nil ?_;rintro w18 ⟨hb18,-,-⟩;have Hbc:=zh (HA16.out.b.trans (hb18.mono HA16.out.b.size));clear hb18;try simp only [Act.put,zs1,zs3,zs2]
  go_wp2_with fail
  exact yE (v:=.bool true) (by simp [results,Tryz.results13,go_sem]) rfl ⟨rfl,Hbc.out⟩
end Go.Proofs.YtdhikpkecmaplaaGreatDoor
