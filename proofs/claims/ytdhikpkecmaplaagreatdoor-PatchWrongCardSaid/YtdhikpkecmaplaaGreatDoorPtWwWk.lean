/- The statement PatchWrong, walked. -/
import Derived.Test.YtdhikpkecmaplaaGreatDoorPtPcWk
set_option linter.unusedSimpArgs false
set_option linter.unusedVariables false
set_option maxRecDepth 100000
set_option maxHeartbeats 3000000
namespace Go.Proofs.YtdhikpkecmaplaaGreatDoor
open Go.RowKit

def BadBk (w : World) (g : Nat) (wx : World) : Prop := ∃ (ys : List Sys) (b : Bk) (a1 a2 a3 : Option Addr) (k1 k2 k3 : Nat), OwnV wx g 26 [.int .i64 b.tick, .slice a1 ys.length k1, .slice a2 b.scr.length k2, .slice a3 b.pend.length k3] /\ BkIn wx.heap.size wx ys b (.slice a1 ys.length k1) (.slice a2 b.scr.length k2) (.slice a3 b.pend.length k3) /\ BkOk ys b /\ (-1 <= b.tick /\ b.tick <= 1073741824) /\ znM (znI ys) (rOf (errE ys)) b = false /\ Below w.heap.size w wx
theorem wrong_sys {ys:List Sys} {b:Bk} (h:BkOk ys b) (hl:b.scr.length<=1000) (k:Nat):BkOk (wrongY ys b k) b:=by
 refine ⟨?_,h.tick,h.scr,h.pend⟩;unfold wrongY;split
 ·intro y hy;rcases List.mem_append.1 hy with hy | hy
  ·exact h.sys y hy
  ·rw [List.mem_singleton.1 hy];exact ⟨by show (8:Nat)<=_;decide,by show -9223372036854775808<=((b.scr.length:Nat):Int);omega,by show ((b.scr.length:Nat):Int)<=_;omega⟩
 ·exact h.sys
theorem wrong_ok {ys:List Sys} {b:Bk} (h:BkOk ys b) (hl:b.scr.length<=1000) (k:Nat):BkOk (wrongY ys b k) (wrongB b k):=by
 have h1:=wrong_sys h hl k;have hi:∀ z:Int,-1000000000000<=z->z<=1000000000000->okI z:=fun z a c=>⟨by omega,by omega⟩
 have hp:∀ (x:Pt),okI x.tick/\okI x.slot/\x.src.length<=9223372036854775807->∀ n,∀ p ∈ b.pend++List.replicate n x,okI p.tick/\okI p.slot/\p.src.length<=9223372036854775807:=fun x hx n p hp=>(List.mem_append.1 hp).elim (h.pend p) (fun e=>by rw [List.eq_of_mem_replicate e];exact hx)
 have hs:∀ (i:Nat) (x:List UInt8),x.length<=1000->∀ s ∈ b.scr.set i x,s.length<=9223372036854775807:=fun i x hx s hs=>by
  rcases List.mem_or_eq_of_mem_set hs with e | e
  ·exact h.scr s e
  ·rw [e];omega
 have i1:okI (1073741824:Int):=hi _ (by decide) (by decide);have i2:okI (1073741825:Int):=hi _ (by decide) (by decide);have i3:okI ((b.scr.length:Nat):Int):=hi _ (by omega) (by omega);have i4:okI (0:Int):=hi _ (by decide) (by decide);have i5:okI (-1:Int):=hi _ (by decide) (by decide);have l1:wgFull.length<=9223372036854775807:=by decide
 have l2:wgEnd.length<=9223372036854775807:=by decide
 unfold wrongB;split
 ·exact ⟨h1.sys,i5,h.scr,h.pend⟩
 ·exact ⟨h1.sys,h.tick,hs _ _ (by decide),h.pend⟩
 ·exact ⟨h1.sys,h.tick,hs _ _ (by decide),h.pend⟩
 ·exact h1
 ·exact ⟨h1.sys,h.tick,h.scr,hp ⟨1073741824,b.scr.length,wgFull⟩ ⟨i1,i3,l1⟩ 1⟩
 ·exact ⟨h1.sys,h.tick,h.scr,hp ⟨1073741825,0,wgFull⟩ ⟨i2,i4,l1⟩ 1⟩
 ·exact ⟨h1.sys,h.tick,h.scr,hp ⟨1073741824,0,wgFull⟩ ⟨i1,i4,l1⟩ 2⟩
 ·exact ⟨h1.sys,h.tick,h.scr,hp ⟨1073741824,0,wgEnd⟩ ⟨i1,i4,l2⟩ 1⟩
structure OwnBk (w0 : World) (B : Nat) (W : World) (g : Nat) (ys : List Sys) (b : Bk) (vs vc vp : Value) : Prop where
  box : OwnV W g 26 [.int .i64 b.tick, vs, vc, vp]
  own : BkOwn B W ys b vs vc vp
  lt : B <= g
  below : Below w0.heap.size w0 W
  base : w0.heap.size <= B
theorem OwnBk.only {w0 W W':World} {B g:Nat} {ys:List Sys} {b:Bk} {vs vc vp:Value} {S:Nat->Prop} (h:OwnBk w0 B W g ys b vs vc vp) (ho:Only S W W') (hS:∀ k,S k->g < k/\∃ cs,OwnV W k 32 cs/\vp.ownBlock≠some k):OwnBk w0 B W' g ys b vs vc vp:=by
 refine ⟨ho.own h.box (fun e=>by have:=(hS g e).1;omega),⟨ho.row h.own.sys ?_,ho.row h.own.scr ?_,ho.row h.own.pend ?_⟩,h.lt,h.below.trans (ho.below (fun k hk=>by have:=(hS k hk).1;have:=h.lt;have:=h.base;omega) h.below.size),h.base⟩
 ·intro k hk hs;obtain ⟨-,cs,h1,-⟩:=hS k hs;exact own_off h1 h.own.sys (by decide) k hk rfl
 ·intro k hk hs;obtain ⟨-,cs,h1,-⟩:=hS k hs;exact own_off h1 h.own.scr (by decide) k hk rfl
 ·intro k hk hs;obtain ⟨-,cs,-,h2⟩:=hS k hs;exact h2 hk
theorem OwnBk.low {w0 W W':World} {B g:Nat} {ys:List Sys} {b:Bk} {vs vc vp:Value} (h:OwnBk w0 B W g ys b vs vc vp) (hb:Below W.heap.size W W'):OwnBk w0 B W' g ys b vs vc vp:=
 ⟨h.box.below hb (zr _),⟨zbu h.own.sys hb (zr _),zbu h.own.scr hb (zr _),zbu h.own.pend hb (zr _)⟩,h.lt,h.below.trans (hb.mono h.below.size),h.base⟩
theorem OwnBk.tick {w0 W:World} {B g:Nat} {ys:List Sys} {b:Bk} {vs vc vp:Value} (h:OwnBk w0 B W g ys b vs vc vp) (t:Int):OwnBk w0 B (W.setCell ⟨g,0,none⟩ (.int .i64 t)) g ys ⟨t,b.scr,b.pend⟩ vs vc vp:=
 ⟨h.box.set 0 _,⟨zdB h.own.sys (fun k hk e=>own_off h.box h.own.sys (by decide) k hk e) _ _,zdB h.own.scr (fun k hk e=>own_off h.box h.own.scr (by decide) k hk e) _ _,zdB h.own.pend (fun k hk e=>own_off h.box h.own.pend (by decide) k hk e) _ _⟩,h.lt,h.below.setCell (p:=⟨g,0,none⟩) (Nat.le_trans h.base h.lt) _,h.base⟩
theorem OwnBk.scr0 {w0 W:World} {B g gs k:Nat} {ys:List Sys} {b:Bk} {vs vp:Value} (h:OwnBk w0 B W g ys b vs (.slice (some ⟨gs,0,none⟩) b.scr.length k) vp) (hs:0 < b.scr.length) (x:List UInt8):OwnBk w0 B (W.setCell ⟨gs,0,none⟩ (.string (bstr x))) g ys ⟨b.tick,b.scr.set 0 x,b.pend⟩ vs (.slice (some ⟨gs,0,none⟩) b.scr.length k) vp:=by
 have hne:gs≠g:=own_off h.box h.own.scr (by decide) gs rfl;have hgs:=(h.own.scr.lt gs rfl).1;refine ⟨h.box.set_ne hne.symm _,⟨zdB h.own.sys (fun k hk e=>zpd h.own.sys h.own.scr (by decide) k hk (by rw [e];rfl)) _ _,?_,zdB h.own.pend (fun k hk e=>zpd h.own.pend h.own.scr (by decide) k hk (by rw [e];rfl)) _ _⟩,h.lt,h.below.setCell (p:=⟨gs,0,none⟩) (Nat.le_trans h.base hgs) _,h.base⟩;have:=zrw h.own.scr hs (.string (bstr x));show World.ownsRow _ _ _ _ _ (b.scr.set 0 x).length ((b.scr.set 0 x).map fun s=>Value.string (bstr s));rw [List.length_set,List.map_set];exact this
theorem OwnBk.app {w0 W W1 w3:World} {B g:Nat} {ys:List Sys} {b:Bk} {vs vc vp v':Value} {l:List Pt} (h:OwnBk w0 B W g ys b vs vc vp) (hb1:Below W.heap.size W W1) (hown:w3.ownsRow B 32 3 v' (b.pend.length+l.length) (znD b.pend++znD l)) (hg:W1.grownBy w3 vp.ownBlock) (hb3:Below B W1 w3) :
  OwnV w3 g 26 [.int .i64 b.tick,vs,vc,vp]/\OwnBk w0 B (w3.setCell ⟨g,3,none⟩ v') g ys ⟨b.tick,b.scr,b.pend++l⟩ vs vc v':=by
 have h1:=h.low hb1;have hb0:OwnV w3 g 26 [.int .i64 b.tick,vs,vc,vp]:=zo8 h1.box hg (fun e=>own_off h1.box h1.own.pend (by decide) g e rfl);have r1:=zn3 hg h1.own.sys (zpd h1.own.sys h1.own.pend (by decide));have r2:=zn3 hg h1.own.scr (zpd h1.own.scr h1.own.pend (by decide));refine ⟨hb0,hb0.set 3 _,⟨zdB r1 (fun k hk e=>own_off hb0 r1 (by decide) k hk e) _ _,zdB r2 (fun k hk e=>own_off hb0 r2 (by decide) k hk e) _ _,?_⟩,h.lt,(h1.below.trans (hb3.mono h.base)).setCell (p:=⟨g,3,none⟩) (Nat.le_trans h.base h.lt) _,h.base⟩;show World.ownsRow _ _ _ _ _ (b.pend++l).length (znD (b.pend++l));rw [List.length_append,zox];exact zdB hown (fun k hk e=>own_off hb0 hown (by decide) k hk e) _ _
theorem OwnBk.sys {w0 W W1 w3:World} {B g:Nat} {ys:List Sys} {b:Bk} {vs vc vp v':Value} {l:List Sys} (h:OwnBk w0 B W g ys b vs vc vp) (hb1:Below W.heap.size W W1) (hown:w3.ownsRow B 61 4 v' (ys.length+l.length) (ys.flatMap Sys.cells++l.flatMap Sys.cells)) (hg:W1.grownBy w3 vs.ownBlock) (hb3:Below B W1 w3) :
  OwnV w3 g 26 [.int .i64 b.tick,vs,vc,vp]/\OwnBk w0 B (w3.setCell ⟨g,1,none⟩ v') g (ys++l) b v' vc vp:=by
 have h1:=h.low hb1;have hb0:OwnV w3 g 26 [.int .i64 b.tick,vs,vc,vp]:=zo8 h1.box hg (fun e=>own_off h1.box h1.own.sys (by decide) g e rfl);have r1:=zn3 hg h1.own.pend (zpd h1.own.pend h1.own.sys (by decide));have r2:=zn3 hg h1.own.scr (zpd h1.own.scr h1.own.sys (by decide));refine ⟨hb0,hb0.set 1 _,⟨?_,zdB r2 (fun k hk e=>own_off hb0 r2 (by decide) k hk e) _ _,zdB r1 (fun k hk e=>own_off hb0 r1 (by decide) k hk e) _ _⟩,h.lt,(h1.below.trans (hb3.mono h.base)).setCell (p:=⟨g,1,none⟩) (Nat.le_trans h.base h.lt) _,h.base⟩;rw [List.length_append,List.flatMap_append];exact zdB hown (fun k hk e=>own_off hb0 hown (by decide) k hk e) _ _
theorem OwnBk.bad {w0 W:World} {B g:Nat} {ys:List Sys} {b:Bk} {vs vc vp:Value} (h:OwnBk w0 B W g ys b vs vc vp) (hok:BkOk ys b) (ht : -1<=b.tick/\b.tick<=1073741824) (hv:znM (znI ys) (rOf (errE ys)) b=false):BadBk w0 g W:=by
 have hi:=h.own.bk;have hx:=h.box;obtain ⟨a1,k1,rfl,-,-⟩:=Sl.form (Sl.of_own h.own.sys);obtain ⟨a2,k2,rfl,-,-⟩:=Sl.form (Sl.of_own h.own.scr);obtain ⟨a3,k3,rfl,-,-⟩:=Sl.form (Sl.of_own h.own.pend);exact ⟨ys,b,a1,a2,a3,k1,k2,k3,hx,hi,hok,ht,hv,h.below⟩
theorem sub_bad {base:Nat->Bool} {E:Int->List UInt8->Int} {b:Bk} {p:Pt} (h:znM base (rOf E) b=false):znO base E b p=(none,false,2):=if_pos (.inl h)
theorem adv_bad {base:Nat->Bool} {R:Int->List UInt8->Bool} {b:Bk} {t:Int} (h:znM base R b=false):zoe base R b t=(none,2):=if_pos (.inl h)
theorem set_bad {ys:List Sys} {b:Bk} {f:Int} (h:znM (znI ys) (rOf (errE ys)) b=false):setB ys b f=false:=by unfold setB;rw [h];rfl
theorem patchWrong_any {w:World} {ys:List Sys} {b:Bk} {vs vc vp:Value} {fk:Nat} (hG:Glob w) (hOk:BkOk ys b) (hB:BkIn w.heap.size w ys b vs vc vp) (hfk:fk<=255):Calls Tryz.prog 10 #[bkV b vs vc vp,.int .u8 fk] w (zbe true w):=by
 obtain ⟨ay,cy,rfl,-,-⟩:=hB.sys.form;obtain ⟨ac,cc,rfl,-,-⟩:=hB.scr.form;obtain ⟨ap,cp,rfl,-,-⟩:=hB.pend.form;have HG:Hid (∀ W,Below w.heap.size w W->Glob W):=zh (fun W hb=>hG.below hb hG.size);have HB:Hid (∀ W,Below w.heap.size w W->BkIn W.heap.size W ys b (.slice ay ys.length cy) (.slice ac b.scr.length cc) (.slice ap b.pend.length cp)):=zh (fun W hb=>(hB.below hb).mono hb.size);have Hok:=zh hOk;have HSm:Hid (∀ W,Below w.heap.size w W->Calls Tryz.prog 14 #[.agg #[.int .i64 b.tick,.slice ay ys.length cy,.slice ac b.scr.length cc,.slice ap b.pend.length cp]] W fun e w'=>SmallE ys.length b.scr.length b.pend.length e/\Below W.heap.size W w'):=zh (fun W hb=>small_any (zr _) (HB.out W hb) hOk);have HVl:Hid (∀ W,Below w.heap.size w W->Calls Tryz.prog 15 #[.agg #[.int .i64 b.tick,.slice ay ys.length cy,.slice ac b.scr.length cc,.slice ap b.pend.length cp]] W (zbe (znM (znI ys) (rOf (errE ys)) b) W)):=zh (fun W hb=>zri (HG.out W hb) hOk (HB.out W hb));obtain ⟨W0,hW0,hb0,hX,hs0⟩:=box1 w [.int .i64 b.tick,.slice ay ys.length cy,.slice ac b.scr.length cc,.slice ap b.pend.length cp] 26;have HAw:=zh (zqE (HG.out W0 hb0));have HW0:=zh hW0;have HX:=zh hX;have Hb0:=zh hb0;unfold bkV;clear hG hOk hB hW0 hX hb0 hs0;go_enter Tryz.func10,Tryz.ntmps10
 go_upto_region 1 with (fail)
 rw [<- HW0.out];go_wp2_with fail
 go_at_call 13;refine HAw.out.mono ?_;rintro e1 w1 ⟨rfl,hb⟩;have Hb1:=zh (Hb0.out.trans (hb.mono Hb0.out.size));have HX:=zh (HX.out.below hb (zr _));clear hb Hb0;obtain ⟨x0,x1,x2,x3⟩:=yc4 HX.out;go_wp2_with fail
 refine (HSm.out _ Hb1.out).mono ?_;rintro e2 w2 ⟨⟨q,rfl,hq⟩,hb⟩;have Hb2:=zh (Hb1.out.trans (hb.mono Hb1.out.size));have HX:=zh (HX.out.below hb (zr _));clear hb Hb1 x0 x1 x2 x3;obtain ⟨x0,x1,x2,x3⟩:=yc4 HX.out
 cases q with
 | false =>
  go_wp2_with fail
  go_ret
  exact ⟨rfl,Hb2.out⟩
 | true =>
 obtain ⟨hq1,hq2,hq3⟩:=hq rfl;clear hq;go_wp2_with fail
 refine (HVl.out _ Hb2.out).mono ?_;rintro e3 w3 ⟨rfl,hb⟩;have Hb3:=zh (Hb2.out.trans (hb.mono Hb2.out.size));have HX:=zh (HX.out.below hb (zr _));clear hb Hb2 x0 x1 x2 x3;obtain ⟨x0,x1,x2,x3⟩:=yc4 HX.out;obtain ⟨q,hq⟩:∃ q,znM (znI ys) (rOf (errE ys)) b=q:=⟨_,rfl⟩;rw [hq]
 cases q with
 | false =>
  go_wp2_with fail
  go_ret
  exact ⟨rfl,Hb3.out⟩
 | true =>
 have HV:=zh hq;clear hq;have HX0lt3:w.heap.size+1<=w3.heap.size:=by have:=HX.out.lt;omega
 by_cases hs0:b.scr.length=0
 ·have hsi:(b.scr.length:Int)=0:=by omega
  go_wp2_with fail
  go_ret;exact ⟨rfl,Hb3.out⟩
 have hsi:¬ (b.scr.length:Int)=0:=by omega
 have hgv:=zh (given40_any (HB.out _ Hb3.out) (by omega) (by omega) (by omega));unfold bkV at hgv;go_wp2_with fail
 go_at_call 35;refine hgv.out.mono ?_;rintro e4 w4 ⟨⟨us,uc,up,rfl,r1,r2,r3⟩,hb⟩;have hN:BkIn w4.heap.size w4 ys b us uc up:=⟨Sl.of_own r1,Sl.of_own r2,Sl.of_own r3,Sl.low0 (by omega) (Sl.of_own r1),Sl.low0 (by omega) (Sl.of_own r2),Sl.low0 (by omega) (Sl.of_own r3)⟩;obtain ⟨a1,m1,rfl,-,-⟩:=hN.sys.form;obtain ⟨a2,m2,rfl,-,-⟩:=hN.scr.form;obtain ⟨a3,m3,rfl,-,-⟩:=hN.pend.form;have htk:=zh (taken40_any hN (by omega) (by omega) (by omega));have Hb4:=zh (Hb3.out.trans (hb.mono Hb3.out.size));unfold bkV at htk;clear hgv hb r1 r2 r3 hN x0 x1 x2 x3;go_wp2_with fail
 go_at_call 34;refine htk.out.mono ?_;rintro e5 w5 ⟨⟨us,uc,up,rfl,r1,r2,r3⟩,hb⟩;have hO:BkOwn w4.heap.size w5 ys b us uc up:=⟨r1,r2,r3⟩;obtain ⟨a1,m1,rfl,-,-⟩:=Sl.form (Sl.of_own r1);obtain ⟨a2,m2,rfl,-,-⟩:=Sl.form (Sl.of_own r2);obtain ⟨a3,m3,rfl,-,-⟩:=Sl.form (Sl.of_own r3);obtain ⟨W6,hW,hb2,hX6,hY6,hs⟩:=zqb w5 [.int .i64 b.tick,.slice a1 ys.length m1,.slice a2 b.scr.length m2,.slice a3 b.pend.length m3] [.int .i64 1073741824,.int .i64 0,.string { data:=#[115,116,111,112,59] }] 26 32;have HW6:=zh hW;have hb46:Below w4.heap.size w4 W6:=hb.trans (hb2.mono hb.size);have hO6:OwnBk w w4.heap.size W6 w5.heap.size ys b (.slice a1 ys.length m1) (.slice a2 b.scr.length m2) (.slice a3 b.pend.length m3):=⟨hX6,hO.below hb2,hb.size,Hb4.out.trans (hb46.mono Hb4.out.size),Hb4.out.size⟩;have HO6:=zh hO6;have HY6:=zh hY6;have hs6a:W6.heap.size<=w5.heap.size+2:=by omega
 have hs6b:w5.heap.size+2<=W6.heap.size:=by omega
 have hs6c:w4.heap.size<=w5.heap.size:=hb.size;have Hw4:=zh Hb4.out.size;have hne6:(Value.slice a3 b.pend.length m3).ownBlock≠some (w5.heap.size+1):=fun e=>by have:=(hO.pend.lt _ e).2;omega
 have Hne6:=zh hne6;have hvb:=valid_iff.1 HV.out;have Ht:=zh (show 0<=b.tick/\b.tick<=1073741824 from ⟨hvb.lo,hvb.hi⟩);have Hsp:=zh (Nat.pos_of_ne_zero hs0);have Hbad:=zh (fun k hk=>wrong_not (ys:=ys) (b:=b) (Nat.pos_of_ne_zero hs0) k hk);have Hwok:=zh (fun k=>wrong_ok Hok.out (show b.scr.length<=1000 by omega) k);clear hW hb hb2 hb46 hs r1 r2 r3 hO hO6 hX6 hY6 htk hne6 hvb HX Hb3 HSm HAw HB;go_upto_region 7 with (fail)
 rw [<- HW6.out];obtain ⟨y0,y1,y2⟩:=yc3 HY6.out;have yf:=HY6.out.free;obtain ⟨z0,z1,z2,z3⟩:=yc4 HO6.out.box;have zf:=HO6.out.box.free;obtain ⟨fm,hfm⟩:∃ m,(fk:Int).tmod 8=m:=⟨_,rfl⟩
 have h8:fm=0∨fm=1∨fm=2∨fm=3∨fm=4∨fm=5∨fm=6∨fm=7:=by
  have h9:(fk:Int).tmod 8=((fk % 8:Nat):Int):=by first | exact (Int.ofNat_tmod fk 8).symm | exact (Int.natCast_tmod fk 8).symm | simp
  omega
 go_upto_block 0 with (fail)
 try rw [hfm]
 clear hfm;go_cut [] (fun wx=>BadBk w w5.heap.size wx)
 case first =>
  clear HVl HG;rcases h8 with rfl | rfl | rfl | rfl | rfl | rfl | rfl | rfl
  ·go_wp2_with fail
   go_meet;exact (HO6.out.tick (-1)).bad (Hwok.out 0) ⟨by show (-1:Int)<=-1;decide,by show (-1:Int)<=1073741824;decide⟩ (Hbad.out 0 (by decide))
  ·obtain ⟨gs,rfl⟩:∃ gs,a2=some ⟨gs,0,none⟩:=by
    rcases HO6.out.own.scr.2 with ⟨e,h0⟩ | ⟨gs,c,cu,e,-⟩
    ·have:=Hsp.out;omega
    ·cases e;exact ⟨gs,rfl⟩
   have hsp:=Hsp.out;have gf:=zrx HO6.out.own.scr 0;obtain ⟨gb,goff,e1,hlt,gc⟩:=Sl.at (by decide) (Sl.of_own HO6.out.own.scr) Hsp.out;cases e1;obtain ⟨gv,gc0⟩:∃ gv,W6.cell? ⟨gs,0,none⟩=some gv:=⟨_,(gc 0 (by omega)).trans (by rw [List.getElem?_map,List.getElem?_eq_getElem (h:=Hsp.out)];rfl)⟩;clear gc hlt;go_wp2_with fail
   go_meet;exact (HO6.out.scr0 Hsp.out wgStop).bad (Hwok.out 1) ⟨by have:=Ht.out.1;show -1<=b.tick;omega,Ht.out.2⟩ (Hbad.out 1 (by decide))
  ·obtain ⟨gs,rfl⟩:∃ gs,a2=some ⟨gs,0,none⟩:=by
    rcases HO6.out.own.scr.2 with ⟨e,h0⟩ | ⟨gs,c,cu,e,-⟩
    ·have:=Hsp.out;omega
    ·cases e;exact ⟨gs,rfl⟩
   have hsp:=Hsp.out;have gf:=zrx HO6.out.own.scr 0;obtain ⟨gb,goff,e1,hlt,gc⟩:=Sl.at (by decide) (Sl.of_own HO6.out.own.scr) Hsp.out;cases e1;obtain ⟨gv,gc0⟩:∃ gv,W6.cell? ⟨gs,0,none⟩=some gv:=⟨_,(gc 0 (by omega)).trans (by rw [List.getElem?_map,List.getElem?_eq_getElem (h:=Hsp.out)];rfl)⟩;clear gc hlt;go_wp2_with fail
   go_meet;exact (HO6.out.scr0 Hsp.out wgLets).bad (Hwok.out 2) ⟨by have:=Ht.out.1;show -1<=b.tick;omega,Ht.out.2⟩ (Hbad.out 2 (by decide))
  ·have hb1:Below W6.heap.size W6 (W6.alloc (.cells #[.string { data:=#[111,110,101,32,109,111,114,101] },.int .u32 0,.int .u32 0,.int .i64 b.scr.length] 61)):=(Below.refl _ _).alloc (zr _) _;have HS:=zh (zb7 (n:=1) (sz:=4) (cap:=1) (OwnV.new W6 61 [.string { data:=#[111,110,101,32,109,111,114,101] },.int .u32 0,.int .u32 0,.int .i64 b.scr.length]) (by simp) (by omega) (by omega));have HR:=zh ((HO6.out.low hb1).own.sys);have Hb1:=zh hb1;have hsz:w4.heap.size<=(W6.alloc (.cells #[.string { data:=#[111,110,101,32,109,111,114,101] },.int .u32 0,.int .u32 0,.int .i64 b.scr.length] 61)).heap.size:=by have:=hb1.size;omega
   clear hb1;go_wp2_with (at_builtin;refine zn0 rfl (.tmp 63) (.tmp 68) 22 rfl HR.out zsS Tryz.underlying22 rfl (by decide) rfl HS.out rfl rfl (by unfold maxLen;omega) (by omega) hsz ?_;intro v3 w3 hown3 hg3 hb3 hat3;obtain ⟨a9,k9,rfl,-,-⟩:=Sl.form (Sl.of_own hown3);obtain ⟨h3,h4⟩:=HO6.out.sys (l:=[wgSys b.scr.length]) Hb1.out hown3 hg3 hb3;have H4:=zh h4;have e1:=h3.cell (i:=1) rfl;have ef:=h3.free;clear hown3 hg3 hb3 hat3 h3 h4)
   go_meet;exact H4.out.bad (Hwok.out 3) ⟨by have:=Ht.out.1;show -1<=b.tick;omega,Ht.out.2⟩ (Hbad.out 3 (by decide))
  ·obtain ⟨W7,hW7,hY7,ho7⟩:∃ W7,W7=W6.setCell ⟨w5.heap.size+1,1,none⟩ (.int .i64 b.scr.length)/\OwnV W7 (w5.heap.size+1) 32 [.int .i64 1073741824,.int .i64 b.scr.length,.string { data:=#[115,116,111,112,59] }]/\Only (fun k=>k=w5.heap.size+1) W6 W7:=⟨_,rfl,HY6.out.set 1 _,(Only.refl (fun k=>k=w5.heap.size+1) W6).setIn rfl _⟩;have HO7:=zh (HO6.out.only ho7 (fun k e=>by subst e;exact ⟨by omega,_,HY6.out,Hne6.out⟩));have HY7:=zh hY7;have HW7:=zh hW7;have hs7:=ho7.size;clear hW7 hY7 ho7;go_upto_region 20 with (fail)
   rw [<- HW7.out];clear y0 y1 y2 yf z0 z1 z2 z3 zf;obtain ⟨y0,y1,y2⟩:=yc3 HY7.out;have z3:=HO7.out.box.cell (i:=3) rfl;have hb1:Below W7.heap.size W7 (W7.alloc (.cells #[.int .i64 1073741824,.int .i64 b.scr.length,.string { data:=#[115,116,111,112,59] }] 32)):=(Below.refl _ _).alloc (zr _) _;have HS:=zh (zb7 (n:=1) (sz:=3) (cap:=1) (OwnV.new W7 32 [.int .i64 1073741824,.int .i64 b.scr.length,.string { data:=#[115,116,111,112,59] }]) (by simp) (by omega) (by omega));have HR:=zh ((HO7.out.low hb1).own.pend);have Hb1:=zh hb1;have hsz:w4.heap.size<=(W7.alloc (.cells #[.int .i64 1073741824,.int .i64 b.scr.length,.string { data:=#[115,116,111,112,59] }] 32)).heap.size:=by have:=hb1.size;omega
   clear hb1;go_wp2_with (at_builtin;refine zn0 rfl (.tmp 78) (.tmp 80) 24 rfl HR.out zpt Tryz.underlying24 rfl (by decide) rfl HS.out rfl rfl (by unfold maxLen;omega) (by omega) hsz ?_;intro v3 w3 hown3 hg3 hb3 hat3;obtain ⟨a9,k9,rfl,-,-⟩:=Sl.form (Sl.of_own hown3);obtain ⟨h3,h4⟩:=HO7.out.app (l:=[⟨1073741824,b.scr.length,wgFull⟩]) Hb1.out hown3 hg3 hb3;have H4:=zh h4;have e3:=h3.cell (i:=3) rfl;have ef:=h3.free;clear hown3 hg3 hb3 hat3 h3 h4)
   go_meet;exact H4.out.bad (Hwok.out 4) ⟨by have:=Ht.out.1;show -1<=b.tick;omega,Ht.out.2⟩ (Hbad.out 4 (by decide))
  ·obtain ⟨W7,hW7,hY7,ho7⟩:∃ W7,W7=W6.setCell ⟨w5.heap.size+1,0,none⟩ (.int .i64 1073741825)/\OwnV W7 (w5.heap.size+1) 32 [.int .i64 1073741825,.int .i64 0,.string { data:=#[115,116,111,112,59] }]/\Only (fun k=>k=w5.heap.size+1) W6 W7:=⟨_,rfl,HY6.out.set 0 _,(Only.refl (fun k=>k=w5.heap.size+1) W6).setIn rfl _⟩;have HO7:=zh (HO6.out.only ho7 (fun k e=>by subst e;exact ⟨by omega,_,HY6.out,Hne6.out⟩));have HY7:=zh hY7;have HW7:=zh hW7;have hs7:=ho7.size;clear hW7 hY7 ho7;go_upto_region 23 with (fail)
   rw [<- HW7.out];clear y0 y1 y2 yf z0 z1 z2 z3 zf;obtain ⟨y0,y1,y2⟩:=yc3 HY7.out;have z3:=HO7.out.box.cell (i:=3) rfl;have hb1:Below W7.heap.size W7 (W7.alloc (.cells #[.int .i64 1073741825,.int .i64 0,.string { data:=#[115,116,111,112,59] }] 32)):=(Below.refl _ _).alloc (zr _) _;have HS:=zh (zb7 (n:=1) (sz:=3) (cap:=1) (OwnV.new W7 32 [.int .i64 1073741825,.int .i64 0,.string { data:=#[115,116,111,112,59] }]) (by simp) (by omega) (by omega));have HR:=zh ((HO7.out.low hb1).own.pend);have Hb1:=zh hb1;have hsz:w4.heap.size<=(W7.alloc (.cells #[.int .i64 1073741825,.int .i64 0,.string { data:=#[115,116,111,112,59] }] 32)).heap.size:=by have:=hb1.size;omega
   clear hb1;go_wp2_with (at_builtin;refine zn0 rfl (.tmp 87) (.tmp 89) 24 rfl HR.out zpt Tryz.underlying24 rfl (by decide) rfl HS.out rfl rfl (by unfold maxLen;omega) (by omega) hsz ?_;intro v3 w3 hown3 hg3 hb3 hat3;obtain ⟨a9,k9,rfl,-,-⟩:=Sl.form (Sl.of_own hown3);obtain ⟨h3,h4⟩:=HO7.out.app (l:=[⟨1073741825,0,wgFull⟩]) Hb1.out hown3 hg3 hb3;have H4:=zh h4;have e3:=h3.cell (i:=3) rfl;have ef:=h3.free;clear hown3 hg3 hb3 hat3 h3 h4)
   go_meet;exact H4.out.bad (Hwok.out 5) ⟨by have:=Ht.out.1;show -1<=b.tick;omega,Ht.out.2⟩ (Hbad.out 5 (by decide))
  ·obtain ⟨W7,hW7⟩:∃ W7,W7=W6:=⟨_,rfl⟩;have HO7:=zh (hW7 ▸ HO6.out);have HY7:=zh (hW7 ▸ HY6.out);have HW7:=zh hW7;have hs7:W6.heap.size<=W7.heap.size:=by rw [hW7];exact zr _
   clear hW7;go_upto_region 25 with (fail)
   rw [<- HW7.out];clear y0 y1 y2 yf z0 z1 z2 z3 zf;obtain ⟨y0,y1,y2⟩:=yc3 HY7.out;have z3:=HO7.out.box.cell (i:=3) rfl;have hb1:Below W7.heap.size W7 (W7.alloc (.cells #[.int .i64 1073741824,.int .i64 0,.string { data:=#[115,116,111,112,59] },.int .i64 1073741824,.int .i64 0,.string { data:=#[115,116,111,112,59] }] 32)):=(Below.refl _ _).alloc (zr _) _;have HS:=zh (zb7 (n:=2) (sz:=3) (cap:=2) (OwnV.new W7 32 [.int .i64 1073741824,.int .i64 0,.string { data:=#[115,116,111,112,59] },.int .i64 1073741824,.int .i64 0,.string { data:=#[115,116,111,112,59] }]) (by simp) (by omega) (by omega));have HR:=zh ((HO7.out.low hb1).own.pend);have Hb1:=zh hb1;have hsz:w4.heap.size<=(W7.alloc (.cells #[.int .i64 1073741824,.int .i64 0,.string { data:=#[115,116,111,112,59] },.int .i64 1073741824,.int .i64 0,.string { data:=#[115,116,111,112,59] }] 32)).heap.size:=by have:=hb1.size;omega
   clear hb1;go_wp2_with (at_builtin;refine zn0 rfl (.tmp 95) (.tmp 98) 24 rfl HR.out zpt Tryz.underlying24 rfl (by decide) rfl HS.out rfl rfl (by unfold maxLen;omega) (by omega) hsz ?_;intro v3 w3 hown3 hg3 hb3 hat3;obtain ⟨a9,k9,rfl,-,-⟩:=Sl.form (Sl.of_own hown3);obtain ⟨h3,h4⟩:=HO7.out.app (l:=[⟨1073741824,0,wgFull⟩,⟨1073741824,0,wgFull⟩]) Hb1.out hown3 hg3 hb3;have H4:=zh h4;have e3:=h3.cell (i:=3) rfl;have ef:=h3.free;clear hown3 hg3 hb3 hat3 h3 h4)
   go_meet;exact H4.out.bad (Hwok.out 6) ⟨by have:=Ht.out.1;show -1<=b.tick;omega,Ht.out.2⟩ (Hbad.out 6 (by decide))
  ·obtain ⟨W7,hW7,hY7,ho7⟩:∃ W7,W7=W6.setCell ⟨w5.heap.size+1,2,none⟩ (.string { data:=#[125] })/\OwnV W7 (w5.heap.size+1) 32 [.int .i64 1073741824,.int .i64 0,.string { data:=#[125] }]/\Only (fun k=>k=w5.heap.size+1) W6 W7:=⟨_,rfl,HY6.out.set 2 _,(Only.refl (fun k=>k=w5.heap.size+1) W6).setIn rfl _⟩;have HO7:=zh (HO6.out.only ho7 (fun k e=>by subst e;exact ⟨by omega,_,HY6.out,Hne6.out⟩));have HY7:=zh hY7;have HW7:=zh hW7;have hs7:=ho7.size;clear hW7 hY7 ho7;go_upto_region 9 with (fail)
   rw [<- HW7.out];clear y0 y1 y2 yf z0 z1 z2 z3 zf;obtain ⟨y0,y1,y2⟩:=yc3 HY7.out;have z3:=HO7.out.box.cell (i:=3) rfl;have hb1:Below W7.heap.size W7 (W7.alloc (.cells #[.int .i64 1073741824,.int .i64 0,.string { data:=#[125] }] 32)):=(Below.refl _ _).alloc (zr _) _;have HS:=zh (zb7 (n:=1) (sz:=3) (cap:=1) (OwnV.new W7 32 [.int .i64 1073741824,.int .i64 0,.string { data:=#[125] }]) (by simp) (by omega) (by omega));have HR:=zh ((HO7.out.low hb1).own.pend);have Hb1:=zh hb1;have hsz:w4.heap.size<=(W7.alloc (.cells #[.int .i64 1073741824,.int .i64 0,.string { data:=#[125] }] 32)).heap.size:=by have:=hb1.size;omega
   clear hb1;go_wp2_with (at_builtin;refine zn0 rfl (.tmp 42) (.tmp 44) 24 rfl HR.out zpt Tryz.underlying24 rfl (by decide) rfl HS.out rfl rfl (by unfold maxLen;omega) (by omega) hsz ?_;intro v3 w3 hown3 hg3 hb3 hat3;obtain ⟨a9,k9,rfl,-,-⟩:=Sl.form (Sl.of_own hown3);obtain ⟨h3,h4⟩:=HO7.out.app (l:=[⟨1073741824,0,wgEnd⟩]) Hb1.out hown3 hg3 hb3;have H4:=zh h4;have e3:=h3.cell (i:=3) rfl;have ef:=h3.free;clear hown3 hg3 hb3 hat3 h3 h4)
   go_meet;exact H4.out.bad (Hwok.out 7) ⟨by have:=Ht.out.1;show -1<=b.tick;omega,Ht.out.2⟩ (Hbad.out 7 (by decide))
 case rest =>
  obtain ⟨yb,bb,a1,a2,a3,n1,n2,n3,hX,hBk,hok,ht,hbad,hb⟩:=hcut;obtain ⟨W8,hW8⟩:∃ W8,W8=wc:=⟨_,rfl⟩;subst hW8;have HB8:Hid (∀ W,Below W8.heap.size W8 W->BkIn W.heap.size W yb bb (.slice a1 yb.length n1) (.slice a2 bb.scr.length n2) (.slice a3 bb.pend.length n3)):=zh (fun W h=>(hBk.below h).mono h.size);have HG8:Hid (∀ W,Below W8.heap.size W8 W->Glob W):=zh (fun W h=>HG.out W (hb.trans (h.mono hb.size)));have HX8:=zh hX;have Hb8:=zh hb;have hw:IntKind.i64.wrap (bb.tick+1)=bb.tick+1:=by rw [IntKind.wrap_i64];omega
  have HSb:=zh (zpw (p:=⟨bb.tick+1,0,[]⟩) (HG8.out _ (Below.refl _ _)) hok (Nat.zero_le _) (HB8.out _ (Below.refl _ _)));rw [sub_bad hbad] at HSb;unfold bkV Pt.val at HSb;have HWd:=zh (fun W h=>withdraw_any (p:=⟨bb.tick+1,0,[]⟩) (HG8.out W h) hok (HB8.out W h));rw [wd_bad hbad] at HWd;unfold bkV at HWd;have HAd:=zh (fun W h=>zq4 (t:=bb.tick) (HG8.out W h) hok (HB8.out W h));rw [adv_bad hbad] at HAd;unfold bkV at HAd;have HSt:=zh (fun W h=>zsf (seed:=1) (fuel:=1) (HG8.out W h) hok (HB8.out W h));rw [set_bad hbad] at HSt;unfold bkV at HSt;have HVa:=zh (fun W h=>zri (HG8.out W h) hok (HB8.out W h));rw [hbad] at HVa;unfold bkV at HVa;have HS0:=zh (fun W=>same_zero W);unfold zor at HS0
  generalize bb.tick=t8 at *
  obtain ⟨x0,x1,x2,x3⟩:=yc4 hX;clear hX hBk hb hok hbad HVl HG y0 y1 y2 yf z0 z1 z2 z3 zf HY6 HO6 HW6 HV Ht Hsp Hbad Hwok Hne6;go_wp2_with fail
  go_at_call 18;refine HSb.out.mono ?_;rintro e9 w9 ⟨⟨rfl,-⟩,hb9⟩;unfold zor;simp only [cond_false];obtain ⟨W9,hW,hb2,hU,-,hs⟩:=zqb w9 [.int .i64 0,.slice none 0 0,.slice none 0 0,.slice none 0 0] [.int .i64 0,.int .i64 0] 26 38;have HW9:=zh hW;have HU1:=zh hU;have hb89:Below W8.heap.size W8 W9:=hb9.trans (hb2.mono hb9.size);have Hb89:=zh hb89;have x0:=Below.keep hb89 x0;have x1:=Below.keep hb89 x1;have x2:=Below.keep hb89 x2;have x3:=Below.keep hb89 x3;have hc:=HWd.out W9 hb89;clear hW hb2 hU hs hb9 hb89 HSb HWd;go_upto_region 27 with (fail)
  rw [<- HW9.out];go_wp2_with fail
  go_at_call 19;refine hc.mono ?_;rintro e10 w10 ⟨⟨rfl,-⟩,hb9⟩;unfold zor;clear hc;obtain ⟨W10,hW,hb2,hU,hs⟩:=box1 w10 [.int .i64 0,.slice none 0 0,.slice none 0 0,.slice none 0 0] 26;have HW10:=zh hW;have HU2:=zh hU;have hba:Below W9.heap.size W9 W10:=hb9.trans (hb2.mono hb9.size);have hb89:Below W8.heap.size W8 W10:=Hb89.out.trans (hba.mono Hb89.out.size);have HU1:=zh (HU1.out.below hba (zr _));have x0:=Below.keep hba x0;have x1:=Below.keep hba x1;have x2:=Below.keep hba x2;have x3:=Below.keep hba x3;have Hb89:=zh hb89;have hc:=HAd.out W10 hb89;clear hW hb2 hU hs hb9 hb89 hba HAd;go_upto_region 28 with (fail)
  rw [<- HW10.out];go_wp2_with fail
  go_at_call 20;refine hc.mono ?_;rintro e11 w11 ⟨⟨rfl,-⟩,hb9⟩;unfold zor;clear hc;obtain ⟨W11,hW,hb2,hU,hs⟩:=box1 w11 [.int .i64 0,.slice none 0 0,.slice none 0 0,.slice none 0 0] 26;have HW11:=zh hW;have HU3:=zh hU;have hba:Below W10.heap.size W10 W11:=hb9.trans (hb2.mono hb9.size);have hb89:Below W8.heap.size W8 W11:=Hb89.out.trans (hba.mono Hb89.out.size);have HU1:=zh (HU1.out.below hba (zr _));have HU2:=zh (HU2.out.below hba (zr _));have x0:=Below.keep hba x0;have x1:=Below.keep hba x1;have x2:=Below.keep hba x2;have x3:=Below.keep hba x3;have Hb89:=zh hb89;have hc:=HSt.out W11 hb89;clear hW hb2 hU hs hb9 hb89 hba HSt;go_upto_region 29 with (fail)
  rw [<- HW11.out];go_wp2_with fail
  go_at_call 22;refine hc.mono ?_;rintro e12 w12 ⟨rfl,hb9⟩;unfold zqg;clear hc;obtain ⟨W12,hW,hb2,hU,hU2,hs⟩:=zqb w12 [.slice none 0 0,.slice none 0 0,.int .u64 0,.int .i64 0] [.int .i64 0,.slice none 0 0,.slice none 0 0,.slice none 0 0] 49 26;have HW12:=zh hW;have HU4:=zh hU;have HU5:=zh hU2;have hba:Below W11.heap.size W11 W12:=hb9.trans (hb2.mono hb9.size);have hb89:Below W8.heap.size W8 W12:=Hb89.out.trans (hba.mono Hb89.out.size);have HU1:=zh (HU1.out.below hba (zr _));have HU2:=zh (HU2.out.below hba (zr _));have HU3:=zh (HU3.out.below hba (zr _));have x0:=Below.keep hba x0;have x1:=Below.keep hba x1;have x2:=Below.keep hba x2;have x3:=Below.keep hba x3;have Hb89:=zh hb89;have hc:=HVa.out W12 hb89;clear hW hb2 hU hU2 hs hb9 hb89 hba HVa;go_upto_region 31 with (fail)
  rw [<- HW12.out];go_wp2_with fail
  go_at_call 15;refine hc.mono ?_;rintro e13 w13 ⟨rfl,hba⟩;have Hb89:=zh (Hb89.out.trans (hba.mono Hb89.out.size));clear hc x0 x1 x2 x3;have HU1:=zh (HU1.out.below hba (zr _));have HU2:=zh (HU2.out.below hba (zr _));have HU3:=zh (HU3.out.below hba (zr _));have HU4:=zh (HU4.out.below hba (zr _));have HU5:=zh (HU5.out.below hba (zr _));clear hba;obtain ⟨u0,u1,u2,u3⟩:=yc4 HU1.out;obtain ⟨v0,v1,v2,v3⟩:=yc4 HU5.out;go_wp2_with fail
  go_at_call 21;refine (HS0.out _).mono ?_;rintro e14 w14 ⟨rfl,hba⟩;have Hb89:=zh (Hb89.out.trans (hba.mono Hb89.out.size));clear u0 u1 u2 u3 v0 v1 v2 v3;have HU2:=zh (HU2.out.below hba (zr _));have HU3:=zh (HU3.out.below hba (zr _));have HU4:=zh (HU4.out.below hba (zr _));have HU5:=zh (HU5.out.below hba (zr _));clear hba;obtain ⟨u0,u1,u2,u3⟩:=yc4 HU2.out;obtain ⟨v0,v1,v2,v3⟩:=yc4 HU5.out;go_wp2_with fail
  go_at_call 21;refine (HS0.out _).mono ?_;rintro e14 w15 ⟨rfl,hba⟩;have Hb89:=zh (Hb89.out.trans (hba.mono Hb89.out.size));clear u0 u1 u2 u3 v0 v1 v2 v3;have HU3:=zh (HU3.out.below hba (zr _));have HU4:=zh (HU4.out.below hba (zr _));have HU5:=zh (HU5.out.below hba (zr _));clear hba;obtain ⟨u0,u1,u2,u3⟩:=yc4 HU3.out;obtain ⟨v0,v1,v2,v3⟩:=yc4 HU5.out;go_wp2_with fail
  go_at_call 21;refine (HS0.out _).mono ?_;rintro e14 w16 ⟨rfl,hba⟩;have Hb89:=zh (Hb89.out.trans (hba.mono Hb89.out.size));clear u0 u1 u2 u3 v0 v1 v2 v3;have HU4:=zh (HU4.out.below hba (zr _));have HU5:=zh (HU5.out.below hba (zr _));clear hba;have s1:=HU4.out.cell (i:=1) rfl;go_wp2_with fail
  go_ret;exact ⟨rfl,Hb8.out.trans (Hb89.out.mono Hb8.out.size)⟩
theorem zjM {n:Int} (h:(Lit.int .u8 n).wf=true):0<=n/\n<=255:=by
 simpa [Lit.wf,IntKind.min,IntKind.max,IntKind.signed,IntKind.bits] using h
theorem patchWrong_int {w:World} {ys:List Sys} {b:Bk} {vs vc vp:Value} {z:Int} (hG:Glob w) (hOk:BkOk ys b) (hB:BkIn w.heap.size w ys b vs vc vp) (hz:0<=z/\z<=255):Calls Tryz.prog 10 #[bkV b vs vc vp,.int .u8 z] w (zbe true w):=by
 obtain ⟨n,rfl⟩:=Int.eq_ofNat_of_zero_le hz.1;exact patchWrong_any hG hOk hB (by omega)
end Go.Proofs.YtdhikpkecmaplaaGreatDoor
