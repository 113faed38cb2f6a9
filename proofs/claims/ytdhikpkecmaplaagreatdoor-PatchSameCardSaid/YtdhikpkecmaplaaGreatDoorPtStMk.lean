/- The layer patch: Valid, walked. -/
import Derived.Test.YtdhikpkecmaplaaGreatDoorPtPMk
set_option linter.unusedSimpArgs false
set_option linter.unusedVariables false
set_option maxRecDepth 100000
set_option maxHeartbeats 4000000
namespace Go.Proofs.YtdhikpkecmaplaaGreatDoor
open Go.RowKit

theorem zri {w:World} {ys:List Sys} {b:Bk} {vs vc vp:Value} (hG:Glob w) (hOk:BkOk ys b) (hB:BkIn w.heap.size w ys b vs vc vp) :
  Calls Tryz.prog 15 #[bkV b vs vc vp] w (zbe (znM (znI ys) (rOf (errE ys)) b) w):=by
 obtain ⟨ay,cs,rfl,hcs1,hcs2⟩:=hB.sys.form;obtain ⟨ac,cc,rfl,hcc1,hcc2⟩:=hB.scr.form;obtain ⟨ap,cp,rfl,hcp1,hcp2⟩:=hB.pend.form;obtain ⟨W0,hW0,hb0,hX,hs0⟩:=box1 w [.int .i64 b.tick,.slice ay ys.length cs,.slice ac b.scr.length cc,.slice ap b.pend.length cp] 26;have hgl:=hG.size;have hs0a:W0.heap.size<=w.heap.size+1:=by omega
 have hs0b:w.heap.size+1<=W0.heap.size:=by omega
 clear hs0;have HN:=zh (fun (W:World) (hb:Below W0.heap.size W0 W)=>zo7 W);have HV:Hid (∀ (W:World) (bm:Nat),Below w.heap.size w W->w.heap.size<=bm->(∀ m,bm < m->Prs W bm 0 m)->_):=zh (fun (W:World) (bm:Nat) (hb:Below w.heap.size w W) (hbm:w.heap.size<=bm) (hp:∀ m,bm < m->Prs W bm 0 m)=>zps (hG.below hb hgl) hOk (hB.below hb) hbm (yT hgl hbm) (hp W.heap.size (hp _ (Nat.lt_succ_self _)).lt) (zr _) (by omega));unfold bkV at HV ⊢
 generalize znM (znI ys) (rOf (errE ys)) b=q at *
 have HX:=zh hX;have Hb0:=zh hb0;have HW0:=zh hW0;obtain ⟨x0,x1,x2,x3⟩:=yc4 hX;clear hG hOk hB hX hb0 hW0;go_enter Tryz.func15,Tryz.ntmps15
 go_upto_region 1 with (fail)
 rw [<- HW0.out];have Hdr:Hid (Below W0.heap.size W0 W0.drew):=zh (yR _ _).drew
 go_region_with (first
  | (go_at_call 43;refine (HN.out _ (by exact Hdr.out)).mono ?_;rintro e1 w1 ⟨rfl,hp1,hb1,hs1⟩;have hbq:=Hdr.out.trans (hb1.mono (by exact zr _));have HX1:=HX.out.below hbq (zr _);obtain ⟨x0,x1,x2,x3⟩:=yc4 HX1;have HP1:=zh hp1;have Hb1:Hid (Below w.heap.size w w1):=zh (Hb0.out.trans (hbq.mono (by omega)));clear hp1 hb1 hs1 hbq)
  | (go_at_call 42;refine (HV.out _ _ (by exact Hb1.out) (by exact (show w.heap.size<=W0.heap.size+1 by omega)) (by exact HP1.out)).mono ?_;rintro e2 w2 ⟨rfl,hp2,ho2⟩;have Hb2:Hid (Below w.heap.size w w2):=zh (Hb1.out.trans (ho2.below (B:=w.heap.size) (fun k e=>by have e':k=W0.heap.size+1:=e;omega) (by exact Hb1.out.size)));clear hp2 ho2))
 all_goals
  go_wp2_with fail
  go_ret;exact ⟨rfl,Hb2.out⟩

def zpG (w : World) (B : Nat) (l : List Pt) (v : Value) : Prop := Pts w l v /\ ∀ g, v.ownBlock = some g -> B <= g /\ ∃ cur, w.heap[g]? = some (.cells cur 32 (0, 0))
def AdvE (w w' : World) (ys : List Sys) (e : Ending) : Option (Bk × List Pt) × Int -> Prop
  | (none, x) => e = .returned (.tuple #[zor, .slice none 0 0, .int .i64 x]) /\ x ≠ 0
  | (some (c, l), _) => ∃ us uc up ul, e = .returned (.tuple #[bkV c us uc up, ul, .int .i64 0]) /\ w'.ownsRow w.heap.size 61 4 us ys.length (ys.flatMap Sys.cells) /\ w'.ownsRow w.heap.size 9 1 uc c.scr.length (c.scr.map fun s => Value.string (bstr s)) /\ zpG w' w.heap.size c.pend up /\ w'.ownsRow w.heap.size 32 3 ul l.length (znD l)
theorem zrw {w:World} {B g n cap:Nat} {e:TypeId} {xs:List Value} (h:w.ownsRow B e 1 (.slice (some ⟨g,0,none⟩) n cap) n xs) {j:Nat} (hj:j < n) (x:Value):(w.setCell ⟨g,j,none⟩ x).ownsRow B e 1 (.slice (some ⟨g,0,none⟩) n cap) n (xs.set j x):=by
 obtain ⟨h1,h2⟩:=h;rcases h2 with ⟨hv,_⟩ | ⟨g1,c1,cur,hv,hg,hh,hn,hm,hs,ht⟩
 ·cases hv
 ·cases hv;have hlt:=lt_of_block hh;refine ⟨by rw [List.length_set];exact h1,.inr ⟨g,cap,cur.setIfInBounds j x,rfl,hg,?_,hn,hm,by simpa using hs,?_⟩⟩
  ·have h':w.heap[g]=.cells cur e (0,0):=by simpa [Array.getElem?_eq_getElem hlt] using hh
   unfold World.setCell;rw [Array.getElem?_eq_getElem (by simpa using hlt),Array.getElem_modify_self,h'];simp
  ·rw [Array.toList_setIfInBounds,<- ht,List.take_set]
theorem zrx {w:World} {B g n cap:Nat} {e:TypeId} {sz:Nat} {xs:List Value} (h:w.ownsRow B e sz (.slice (some ⟨g,0,none⟩) n cap) n xs) (j:Nat):w.frozen? ⟨g,j,none⟩=false:=by
 obtain ⟨h1,h2⟩:=h;rcases h2 with ⟨hv,_⟩ | ⟨g1,c1,cur,hv,hg,hh,hn,hm,hs,ht⟩
 ·cases hv
 ·cases hv;simp [World.frozen?,hh]
structure AIn (w0 w : World) (ys : List Sys) (scr : List (List UInt8)) (pend : List Pt) (t : Int) (us uc up : Value) (gb gr B1 B2 : Nat) (k : Nat) (pv vo : Value) : Prop where
  below : Below w0.heap.size w0 w
  box : OwnV w gb 26 [.int .i64 t, us, uc, pv]
  res : OwnV w gr 26 [.int .i64 0, .slice none 0 0, .slice none 0 0, .slice none 0 0]
  sys : w.ownsRow B1 61 4 us ys.length (ys.flatMap Sys.cells)
  scr : w.ownsRow B1 9 1 uc scr.length ((zn4 scr (pend.take k)).map fun s => Value.string (bstr s))
  row : w.ownsRow B1 32 3 up pend.length (znD pend)
  out : w.ownsRow B2 32 3 vo k (znD (pend.take k))
  l1 : ∀ g, us.ownBlock = some g -> g < B2
  l2 : ∀ g, uc.ownBlock = some g -> g < B2
  l3 : ∀ g, up.ownBlock = some g -> g < B2
  b2 : B2 <= w.heap.size
theorem AIn.alloc {w0 w:World} {ys:List Sys} {scr:List (List UInt8)} {pend:List Pt} {t:Int} {us uc up:Value} {gb gr B1 B2 k:Nat} {pv vo:Value} (h:AIn w0 w ys scr pend t us uc up gb gr B1 B2 k pv vo) {w':World} (hb:Below w.heap.size w w'):AIn w0 w' ys scr pend t us uc up gb gr B1 B2 k pv vo:=
 ⟨h.below.trans (hb.mono h.below.size),h.box.below hb (zr _),h.res.below hb (zr _),zbu h.sys hb (zr _),zbu h.scr hb (zr _),zbu h.row hb (zr _),zbu h.out hb (zr _),h.l1,h.l2,h.l3,yT h.b2 hb.size⟩
theorem AIn.step {w0 w w9:World} {ys:List Sys} {scr:List (List UInt8)} {pend:List Pt} {t:Int} {us up:Value} {gb gr B1 B2 k gs cs:Nat} {pv vo:Value} (h:AIn w0 w ys scr pend t us (.slice (some ⟨gs,0,none⟩) scr.length cs) up gb gr B1 B2 k pv vo) (hk:k < pend.length) (hb1:w0.heap.size<=B1) (hg1:gb < B1) (hg2:gr < B1) (hB12:B1<=B2) (hne:gb≠gr) (hgb:w0.heap.size<=gb)
  (h0:0<=pend[k].slot) (h1:pend[k].slot < scr.length) (pv':Value) {vo':Value} {W7:World} (hW7:W7=(w.setCell ⟨gs,pend[k].slot.toNat,none⟩ (.string (bstr pend[k].src))).setCell ⟨gb,3,none⟩ pv') (ho:w9.ownsRow B2 32 3 vo' (k+1) (znD (pend.take k)++pend[k].cells)) (hg:W7.grownBy w9 vo.ownBlock) (hb:Below B2 W7 w9) :
  AIn w0 w9 ys scr pend t us (.slice (some ⟨gs,0,none⟩) scr.length cs) up gb gr B1 B2 (k+1) pv' vo':=by
 have hgs:B1<=gs/\gs < B2:=⟨(h.scr.lt gs rfl).1,h.l2 gs rfl⟩;have hvo:∀ g,vo.ownBlock=some g->B2<=g:=fun g e=>(h.out.lt g e).1
 have ht:pend.take (k+1)=pend.take k++[pend[k]]:=List.take_succ_eq_append_getElem hk;have ha:zn4 scr (pend.take (k+1))=(zn4 scr (pend.take k)).set pend[k].slot.toNat pend[k].src:=by rw [ht,zrS];rfl
 have oS:Only (fun g=>g=gs∨g=gb) w W7:=by rw [hW7];exact ((Only.refl (fun g=>g=gs∨g=gb) w).setIn (.inl rfl) _).setIn (.inr rfl) _
 have hs7:=oS.size;have hs9:=hg.size;have hbb:=h.box.lt;have hB2:=h.b2;have nrow:∀ g,up.ownBlock=some g->g≠gs:=fun g e e2=>zpd h.scr h.row (by decide) gs rfl (by rw [e,e2])
 have nsys:∀ g,us.ownBlock=some g->g≠gs:=fun g e e2=>zpd h.scr h.sys (by decide) gs rfl (by rw [e,e2])
 have nS:∀ g,us.ownBlock=some g->¬ (g=gs∨g=gb):=fun g e=>by
  have:=(h.sys.lt g e).1;rintro (e2 | e2)
  ·exact nsys g e e2
  ·omega
 have nR:∀ g,up.ownBlock=some g->¬ (g=gs∨g=gb):=fun g e=>by
  have:=(h.row.lt g e).1;rintro (e2 | e2)
  ·exact nrow g e e2
  ·omega
 refine ⟨(h.below.trans (oS.below (B:=w0.heap.size) (fun k e=>by rcases e with e | e <;> omega) h.below.size)).trans (hb.mono (by omega)),?_,?_,?_,?_,?_,?_,h.l1,h.l2,h.l3,by omega⟩
 ·have b7:OwnV W7 gb 26 [.int .i64 t,us,.slice (some ⟨gs,0,none⟩) scr.length cs,pv']:=by
   rw [hW7];exact (h.box.set_ne (b:=gs) (by omega) _).set 3 _
  exact zo8 b7 hg (fun e=>by have:=hvo _ e;omega)
 ·exact zo8 (oS.own h.res (fun e=>by
   rcases e with e | e
   ·have:gr=gs:=e;omega
   ·exact hne (show gr=gb from e).symm)) hg (fun e=>by have:=hvo _ e;omega)
 ·exact zn3 hg (oS.row h.sys nS) (fun g e e2=>by have:=hvo _ e2;have:=h.l1 g e;omega)
 ·rw [ha,List.map_set]
  have h7:W7.ownsRow B1 9 1 (.slice (some ⟨gs,0,none⟩) scr.length cs) scr.length (((zn4 scr (pend.take k)).map fun s=>Value.string (bstr s)).set pend[k].slot.toNat (.string (bstr pend[k].src))):=by
   rw [hW7]
   exact zdB (zrw h.scr (by omega) _) (fun g e=>by
    have e2:gs=g:=by simpa [Value.ownBlock] using e
    omega) _ _
  exact zn3 hg h7 (fun g e e2=>by have:=hvo _ e2;have:=h.l2 g e;omega)
 ·exact zn3 hg (oS.row h.row nR) (fun g e e2=>by have:=hvo _ e2;have:=h.l3 g e;omega)
 ·rw [ht,zox];simpa [znD] using ho

theorem zrI {w:World} {bm n m gpr:Nat} (hG:Glob w) (hP:Prs w bm n m) (hm:m<=w.heap.size) (hn:n<=10000) (hR:OwnV w gpr 99 [.map (some bm)]) (s:List UInt8) (hs:s.length<=9223372036854775807) :
  Calls Tryz.prog 61 #[.string (bstr s),.pointer (some ⟨gpr,0,none⟩)] w fun e w'=>(∃ v,e=.returned (zow (znC s).prog v)/\w'.ownsRow w.heap.size 115 2 v (znC s).prog.code.length (znH (znC s).prog.code))/\Prs w' bm (n+1) m/\Only (fun g=>g=bm) w w':=by
 have hbm:=hP.lt;obtain ⟨W0,hW0,hb0,hX,hs0⟩:=box1 w [.slice none 0 0,.int .i64 0,.int .u32 0,.int .u32 0] 59;have hs0a:W0.heap.size<=w.heap.size+1:=by omega
 have hs0b:w.heap.size+1<=W0.heap.size:=by omega
 clear hs0;have HO:=zh (zqK (hG.below hb0 hG.size) (hP.below hb0) (by omega) (by omega) (bstr s) (by rw [zpl];exact hs));rw [zoI] at HO
 have hsmall:(znC s).prog.code.length<=1000000:=by
  cases hp:zbg s with
  | err a b c=>rw [zpI hp];exact Nat.zero_le _
  | ok l =>
   cases hc:zol l with
   | err k=>rw [zpW hp hc];exact Nat.zero_le _
   | ok p =>
    rw [zpX hp hc];unfold zol at hc;split at hc
    ·cases hr:znQ [] l with
     | err k=>rw [hr] at hc;cases hc
     | ok r =>
      rw [hr] at hc;unfold CR.andThen at hc;simp only at hc;split at hc
      ·cases hc
      ·cases hc;simp only;omega
    ·cases hc
 have x0:=(hR.below hb0 (zr _)).cell (i:=0) rfl;have HX:=zh hX;have Hb0:=zh hb0;have HW0:=zh hW0;have hf0:=fun (a0 a1 a2 a3 a4 a5 a6:Value) (w:World)=>sc_f0 a0 a1 a2 a3 a4 a5 a6 w
 generalize znC s=S at *
 obtain ⟨⟨code,loc,rd,wrt⟩,line,col,er⟩:=S
 simp only at *
 have Hsm:=zh hsmall;clear hX hb0 hW0 hG hP hR hsmall;go_enter Tryz.func61,Tryz.ntmps61
 go_upto_region 1 with (fail)
 rw [<- HW0.out];go_wp2_with fail
 go_at_call 50;refine HO.out.mono ?_;rintro e1 w1 ⟨⟨v,rfl,hC⟩,hp1,ho1⟩;obtain ⟨a3,cap3,rfl,-,-⟩:=Sl.form hC.1;unfold scV;simp only;have hs1:=ho1.size;obtain ⟨W2,hW2,hb2,hX2,hs2⟩:=box1 w1 [.slice a3 code.length cap3,.int .i64 loc,.int .u32 (w32 rd),.int .u32 (w32 wrt)] 59;have HCl:=zh (zsb (l:=code) (Sl.below (by omega) hC.1 hb2 (zr _)) Hsm.out);have HX2:=zh hX2;have HU2:=zh ((ho1.own HX.out (by omega)).below hb2 (zr _));have HP2:=zh (hp1.below hb2);have Ho2:Hid (Only (fun g=>g=bm) w W2):=zh (((Only.of_below Hb0.out).trans ho1).trans (Only.of_below hb2));have HW2:=zh hW2;have hs2a:w1.heap.size+1<=W2.heap.size:=by omega
 clear hC hp1 ho1 hW2 hb2 hX2 hs2 x0;go_upto_region 2 with (fail)
 rw [<- HW2.out];have y0:=HX2.out.cell (i:=0) rfl;go_wp2_with fail
 go_at_call 62;refine HCl.out.mono ?_;rintro e3 w3 ⟨⟨v3,rfl,hr3⟩,hb3⟩;obtain ⟨a4,cap4,rfl,-,-⟩:=Sl.form (Sl.of_own hr3);have hs3:=hb3.size;have hX3:=HX2.out.below hb3 (zr _);have hU3:=HU2.out.below hb3 (zr _);have z0:=hX3.cell (i:=0) rfl;have zf:=hX3.free;obtain ⟨W4,hW4,hX4,ho4⟩:∃ W4,W4=w3.setCell ⟨w1.heap.size,0,none⟩ (.slice a4 code.length cap4)/\OwnV W4 w1.heap.size 59 [.slice a4 code.length cap4,.int .i64 loc,.int .u32 (w32 rd),.int .u32 (w32 wrt)]/\Only (fun k=>k=w1.heap.size) w3 W4:=⟨_,rfl,hX3.set 0 _,(Only.refl (fun k=>k=w1.heap.size) w3).setIn rfl _⟩;have hU4:=ho4.own hU3 (by omega);have hs4:=ho4.size;obtain ⟨u0,u1,u2,u3⟩:=yc4 hU4;have uf:=hU4.free;obtain ⟨W5,hW5,hX5,hg5⟩:=set4 hU4 (.slice a4 code.length cap4) (.int .i64 loc) (.int .u32 (w32 rd)) (.int .u32 (w32 wrt));have ho5:Only (fun k=>k=w.heap.size) W4 W5:=Only.of_grown hg5 (fun r e=>by cases e;rfl);have hr5:=ho5.row (ho4.row hr3 (fun g hg e=>by have:=(hr3.lt g hg).1;omega)) (fun g hg e=>by have:=(hr3.lt g hg).1;omega);have Hr5:=zh (znE hr5 (B':=w.heap.size) (by omega));have ho25:Only (fun k=>k=w1.heap.size∨k=w.heap.size) W2 W5:=((Only.of_below hb3).trans (ho4.mono fun _ _ e=>.inl e)).trans (ho5.mono fun _ _ e=>.inr e);have HO5:Hid (Only (fun g=>g=bm) w W5):=zh (Ho2.out.transNew ho25 (fun k e=>.inr (by rcases e with e | e <;> omega)))
 have HP5:Hid (Prs W5 bm (n+1) m):=zh (HP2.out.only2 ho25 (fun g e=>by
  rcases e with e | e
  ·subst e;exact ⟨HX2.out.noCode (by decide) m,by omega⟩
  ·subst e;exact ⟨HU2.out.noCode (by decide) m,by omega⟩))
 obtain ⟨b0,b1,b2,b3⟩:=yc4 hX4;have HW4:=zh hW4;have HW5:=zh hW5;have HX5:=zh hX5;clear hr3 hb3 hX3 hU3 hW4 hX4 ho4 hU4 hW5 hX5 hg5 ho5 hr5 ho25 y0;go_upto_region 3 with (fail)
 rw [<- HW4.out];go_wp2_with fail
 rw [<- HW5.out];obtain ⟨q0,q1,q2,q3⟩:=yc4 HX5.out;exact yE (v:=.agg #[.slice a4 code.length cap4,.int .i64 loc,.int .u32 (w32 rd),.int .u32 (w32 wrt)]) (by simp [results,Tryz.results61,go_sem,q0,q1,q2,q3]) rfl ⟨⟨_,rfl,Hr5.out⟩,HP5.out,HO5.out⟩

def zqf (x : ProgS × Value) : List Value := [x.2, .int .i64 x.1.locals, .int .u32 (w32 x.1.reads), .int .u32 (w32 x.1.writes)]
def PrgsV (B : Nat) (w : World) (ps : List ProgS) (v : Value) : Prop := ∃ xs : List (ProgS × Value), xs.map (·.1) = ps /\ w.ownsRow B 59 4 v xs.length (xs.flatMap zqf) /\ ∀ x ∈ xs, w.ownsRow B 115 2 x.2 x.1.code.length (znH x.1.code)
theorem PrgsV.below {B:Nat} {w w':World} {ps:List ProgS} {v:Value} (h:PrgsV B w ps v) (hb:Below w.heap.size w w'):PrgsV B w' ps v:=by
 obtain ⟨xs,h1,h2,h3⟩:=h;exact ⟨xs,h1,zbu h2 hb (zr _),fun x hx=>zbu (h3 x hx) hb (zr _)⟩
theorem zse:(Tryz.prog.info? 59).map (fun i=>(i.zero,i.size,i.bytes))=some (some (.agg #[.slice none 0 0,.int .i64 0,.int .u32 0,.int .u32 0]),4,40):=by kernel_rfl
theorem zrJ {w:World} {B B':Nat} {e e':TypeId} {s s' n n':Nat} {v v':Value} {xs xs':List Value} (h:w.ownsRow B e s v n xs) (k:w.ownsRow B' e' s' v' n' xs') (hne:e≠e'):∀ g,v.ownBlock=some g->v'.ownBlock≠some g:=by
 intro g hg hg';obtain ⟨_,h2⟩:=h;obtain ⟨_,k2⟩:=k;rcases h2 with ⟨rfl,_⟩ | ⟨g1,c1,cur1,rfl,_,hh,_⟩
 ·cases hg
 ·rcases k2 with ⟨rfl,_⟩ | ⟨g2,c2,cur2,rfl,_,kk,_⟩
  ·cases hg'
  ·cases hg;cases hg';rw [hh] at kk;cases kk;exact hne rfl
theorem zrK {w:World} {B:Nat} {e:TypeId} {s n:Nat} {v:Value} {xs:List Value} (h:w.ownsRow B e s v n xs) (he:e≠115) (m:Nat):∀ g,v.ownBlock=some g->zqa m w g:=by
 intro g hg;rcases h.2 with ⟨rfl,_⟩ | ⟨g1,c1,cur1,rfl,_,hh,_⟩
 ·cases hg
 ·have e2:g1=g:=by simpa [Value.ownBlock] using hg
  subst e2;exact .inr ⟨cur1,e,_,hh,he⟩
structure EIn (w wr : World) (scr : List (List UInt8)) (vc : Value) (bm n m gpr : Nat) : Prop where
  only : Only (fun g => g = bm) w wr
  glob : Glob wr
  prs : Prs wr bm n m
  mle : m <= wr.heap.size
  strs : Strs wr scr vc
  rbox : OwnV wr gpr 99 [.map (some bm)]
theorem zs6 {w:World} {bm n m gpr B:Nat} {scr:List (List UInt8)} {vc:Value} (hG:Glob w) (hP:Prs w bm n m) (hm:m<=w.heap.size) (hn:n<=1000) (hR:OwnV w gpr 99 [.map (some bm)]) (hS:Strs w scr vc) (hlow:Low B scr.length vc) (hB:B<=bm) (hgl:glB<=bm) (hne:gpr≠bm) (hlen:scr.length<=16) (hsz:∀ s ∈ scr,s.length<=9223372036854775807) :
  Calls Tryz.prog 60 #[vc,.func (.func 61) #[] #[.pointer (some ⟨gpr,0,none⟩)]] w fun e w'=>(∃ v,e=.returned v/\PrgsV w.heap.size w' (scr.map fun s=>(znC s).prog) v)/\Prs w' bm (n+16) m/\Only (fun g=>g=bm) w w':=by
 obtain ⟨ac,cc,rfl,hcc1,hcc2⟩:=Strs.form hS;have hbm:=hP.lt;have hgp:=hR.lt;have HI:Hid (EIn w w scr (.slice ac scr.length cc) bm (n+0) m gpr):=zh ⟨Only.refl _ _,hG,hP,hm,hS,hR⟩;have Hsz:=zh hsz;have Hlow:=zh hlow;obtain ⟨wq,hwq⟩:∃ wq:World,wq=w:=⟨_,rfl⟩;rw [<- hwq] at HI hbm hgp ⊢;clear hG hP hR hS hsz hlow hm hwq;go_enter Tryz.func60,Tryz.ntmps60
 go_wp2_with fail
 go_loopw [5,7,10,11,12,13,14,15,16,17,18,19,20] (fun t5 _ t10 _ _ _ _ _ _ _ _ _ _ wr=>∃ (k:Nat) (ao:Option Addr) (ko:Nat) (xs:List (ProgS × Value)),k<=scr.length/\t10=.int .i64 k/\t5=.slice ao k ko/\Hid (xs.map (fun x=>x.1)=(scr.take k).map fun s=>(znC s).prog)/\Hid (wr.ownsRow wq.heap.size 59 4 (.slice ao k ko) k (xs.flatMap zqf))/\Hid (∀ x ∈ xs,wr.ownsRow wq.heap.size 115 2 x.2 x.1.code.length (znH x.1.code))/\Hid (EIn wq wr scr (.slice ac scr.length cc) bm (n+k) m gpr)) (fun _ _ t10 _ _ _ _ _ _ _ _ _ _ _=>scr.length - (intOf t10).toNat)
 case atStart=>exact ⟨0,none,0,[],by omega,by first | rfl | go_num,rfl,zh rfl,zh ⟨rfl,.inl ⟨rfl,rfl⟩⟩,zh (fun x hx=>by cases hx),HI⟩
 case round =>
  obtain ⟨k,ao,ko,xs,hk,rfl,rfl,HX,HR,HCd,HE⟩:=hrel;by_cases hkl:k < scr.length
  ·have hki:(k:Int) < (scr.length:Int):=by omega
   obtain ⟨bs,offs,rfl,hbw,hc⟩:=HE.out.strs.here (Nat.zero_lt_of_lt hkl);have c0:wr.cell? ⟨bs,offs+k,none⟩=some (.string (bstr scr[k])):=hc k hkl;have HC:=zh (zrI HE.out.glob HE.out.prs HE.out.mle (by omega) HE.out.rbox scr[k] (Hsz.out _ (List.getElem_mem hkl)));obtain ⟨S,hS⟩:∃ S,(znC scr[k]).prog=S:=⟨_,rfl⟩;have HS:=zh hS;rw [hS] at HC;unfold zow at HC;clear hc hbw hS
   go_wp2_with (first
    | (go_at_call 61;refine HC.out.mono ?_;rintro e1 w1 ⟨⟨v,rfl,hr1⟩,hp1,ho1⟩;obtain ⟨a1,k1,rfl,-,-⟩:=Sl.form (Sl.of_own hr1);have Hr1:=zh hr1;have Hp1:=zh hp1;have Ho1:=zh ho1;have HR1:=zh (ho1.row HR.out (fun g hg e=>by have h9:=(HR.out.lt g hg).1;have e9:g=bm:=e;omega));have hq1:=yT HE.out.only.size ho1.size;clear hr1 hp1 ho1)
    | (at_builtin;refine zbm rfl (.tmp 14) (.tmp 18) 46 rfl HR1.out zse Tryz.underlying46 rfl (by decide) rfl 1 1 rfl rfl rfl (by unfold maxLen;omega) (by omega) hq1 ?_;intro v9 w9 ho9 hg9 hb9;obtain ⟨a9,k9,rfl,-,-⟩:=Sl.form (Sl.of_own ho9);have Ho9:=zh ho9;have Hg9:=zh hg9;have Hb9:=zh hb9;clear ho9 hg9 hb9))
   have h0n:=zrK HR1.out (by decide) m;have hgo:Only (fun g=>(Value.slice ao k ko).ownBlock=some g) w1 w9:=Only.of_grown Hg9.out (fun r e=>e);have hE1:EIn wq w1 scr (.slice (some ⟨bs,offs,none⟩) scr.length cc) bm (n+k+1) m gpr:=⟨HE.out.only.trans Ho1.out,HE.out.glob.only Ho1.out (fun g e=>by subst e;exact hgl),Hp1.out,yT HE.out.mle Ho1.out.size,Sl.lowBelow HE.out.strs Hlow.out (Ho1.out.below (fun g e=>by subst e;exact hB) (by have:=HE.out.only.size;omega)),Ho1.out.own HE.out.rbox hne⟩;have hb19:Below wq.heap.size w1 w9:=Hb9.out
   have HE9:Hid (EIn wq w9 scr (.slice (some ⟨bs,offs,none⟩) scr.length cc) bm (n+(k+1)) m gpr):=zh
    ⟨hE1.only.transNew hgo (fun i e=>.inr (HR1.out.lt i e).1),hE1.glob.below hb19 (by omega),by
     rw [<- Nat.add_assoc]
     exact hE1.prs.only2 hgo (fun g e=>⟨h0n g e,by have:=(HR1.out.lt g e).1;omega⟩),yT hE1.mle Hg9.out.size,Sl.lowBelow hE1.strs Hlow.out (hb19.mono (by omega)),hgo.own hE1.rbox (fun e=>by have:=(HR1.out.lt gpr e).1;omega)⟩
   have HX9:Hid ((xs++[(S,Value.slice a1 S.code.length k1)]).map (fun x=>x.1)=(scr.take (k+1)).map fun s=>(znC s).prog):=zh (by
    rw [List.map_append,HX.out,List.take_succ_eq_append_getElem hkl,List.map_append,List.map_cons,List.map_nil,List.map_cons,List.map_nil,HS.out])
   have HR9:Hid (w9.ownsRow wq.heap.size 59 4 (.slice a9 (k+1) k9) (k+1) ((xs++[(S,Value.slice a1 S.code.length k1)]).flatMap zqf)):=zh (by
    rw [List.flatMap_append]
    exact Ho9.out)
   have HC9:Hid (∀ x ∈ xs++[(S,Value.slice a1 S.code.length k1)],w9.ownsRow wq.heap.size 115 2 x.2 x.1.code.length (znH x.1.code)):=zh (fun x hx=>by
    have h1:w1.ownsRow wq.heap.size 115 2 x.2 x.1.code.length (znH x.1.code):=by
     rcases List.mem_append.1 hx with hx | hx
     ·exact Ho1.out.row (HCd.out x hx) (fun g hg e=>by have h9:=((HCd.out x hx).lt g hg).1;have e9:g=bm:=e;omega)
     ·obtain rfl:x=_:=by simpa using hx
      exact znE Hr1.out HE.out.only.size
    exact zn3 Hg9.out h1 (zrJ h1 HR1.out (by decide)))
   clear h0n hgo hE1 hb19;go_roundw
   case rel=>exact ⟨k+1,a9,k9,_,by omega,by go_num,rfl,HX9,HR9,HC9,HE9⟩
   case measure=>simp [intOf];omega
  ·have hki:¬ (k:Int) < (scr.length:Int):=by omega
   obtain rfl:k=scr.length:=by omega
   go_wp2_with fail
   go_ret
   have hxl:xs.length=scr.length:=by
    have:=congrArg List.length HX.out;rw [List.length_map,List.length_map,List.take_length] at this;exact this
   exact ⟨⟨_,rfl,xs,by rw [HX.out,List.take_length],by rw [hxl];exact HR.out,HCd.out⟩,HE.out.prs.mono (by omega),HE.out.only⟩

def zqg : Value := .agg #[.slice none 0 0, .slice none 0 0, .int .u64 0, .int .i64 0]
def SetE (w w' : World) (ys : List Sys) (ps : List ProgS) (seed fuel : Int) (e : Ending) : Bool -> Prop
  | false => e = .returned (.tuple #[zqg, .int .i64 2])
  | true => ∃ us ul, e = .returned (.tuple #[.agg #[us, ul, .int .u64 seed, .int .i64 fuel], .int .i64 0]) /\ w'.ownsRow w.heap.size 61 4 us ys.length (ys.flatMap Sys.cells) /\ PrgsV w.heap.size w' ps ul
def setB (ys : List Sys) (b : Bk) (fuel : Int) : Bool := znM (znI ys) (rOf (errE ys)) b && (decide (0 <= fuel) && decide (fuel <= 10000))
theorem PrgsV.mono {B B':Nat} {w:World} {ps:List ProgS} {v:Value} (h:PrgsV B w ps v) (hB:B'<=B):PrgsV B' w ps v:=by
 obtain ⟨xs,h1,h2,h3⟩:=h;exact ⟨xs,h1,znE h2 hB,fun x hx=>znE (h3 x hx) hB⟩
theorem PrgsV.only {S:Nat->Prop} {B:Nat} {w w':World} {ps:List ProgS} {v:Value} (h:PrgsV B w ps v) (ho:Only S w w') (hS:∀ g,S g->g < B):PrgsV B w' ps v:=by
 obtain ⟨xs,h1,h2,h3⟩:=h;exact ⟨xs,h1,ho.row h2 (fun g hg hs=>by have:=(h2.lt g hg).1;have:=hS g hs;omega),fun x hx=>ho.row (h3 x hx) (fun g hg hs=>by have:=((h3 x hx).lt g hg).1;have:=hS g hs;omega)⟩
theorem PrgsV.len {B:Nat} {w:World} {ps:List ProgS} {v:Value} (h:PrgsV B w ps v):∃ a cap,v=.slice a ps.length cap:=by
 obtain ⟨xs,rfl,h2,_⟩:=h;obtain ⟨a,cap,rfl,_,_⟩:=Sl.form (Sl.of_own h2);exact ⟨a,cap,by rw [List.length_map]⟩
theorem zsf {w:World} {ys:List Sys} {b:Bk} {seed fuel:Int} {vs vc vp:Value} (hG:Glob w) (hOk:BkOk ys b) (hB:BkIn w.heap.size w ys b vs vc vp) :
  Calls Tryz.prog 22 #[bkV b vs vc vp,.int .u64 seed,.int .i64 fuel] w fun e w'=>SetE w w' ys (b.scr.map fun s=>(znC s).prog) seed fuel e (setB ys b fuel)/\Below w.heap.size w w':=by
 obtain ⟨ay,cs,rfl,hcs1,hcs2⟩:=hB.sys.form;obtain ⟨ac,cc,rfl,hcc1,hcc2⟩:=hB.scr.form;obtain ⟨ap,cp,rfl,hcp1,hcp2⟩:=hB.pend.form;obtain ⟨W0,hW0,hb0,hX,hU,hs0⟩:=zqb w [.int .i64 b.tick,.slice ay ys.length cs,.slice ac b.scr.length cc,.slice ap b.pend.length cp] [.slice none 0 0,.slice none 0 0,.int .u64 0,.int .i64 0] 26 49;have hs0a:W0.heap.size<=w.heap.size+2:=by omega
 have hs0b:w.heap.size+2<=W0.heap.size:=by omega
 clear hs0;have hgl:=hG.size;have HN:=zh (zo7 W0);have HG:=zh hG;have HOk:=zh hOk;have HB:=zh hB;have HX:=zh hX;have HU:=zh hU;have Hb0:=zh hb0;have HW0:=zh hW0;have hmf:=zmf Tryz.prog
 obtain ⟨q,hq⟩:∃ q,znM (znI ys) (rOf (errE ys)) b=q:=⟨_,rfl⟩;have Hq:=zh hq;obtain ⟨final,hfin⟩:∃ r,setB ys b fuel=r:=⟨_,rfl⟩;have Hfin:Hid (final=(q && (decide (0<=fuel) && decide (fuel<=10000)))):=zh (by rw [<- hfin,<- hq];rfl);rw [hfin];unfold bkV;clear hq hfin hG hOk hB hX hU hb0 hW0;go_enter Tryz.func22,Tryz.ntmps22
 go_upto_region 1 with (fail)
 rw [<- HW0.out];go_wp2_with fail
 go_at_call 43;refine HN.out.mono ?_;rintro e1 w1 ⟨rfl,hp1,hb1,hs1⟩;have hs1a:w1.heap.size<=W0.heap.size+2:=by omega
 have hs1b:W0.heap.size+2<=w1.heap.size:=by omega
 clear hs1;obtain ⟨W2,hW2,hb2,hR2,hs2⟩:=box1 w1 [.map (some (W0.heap.size+1))] 99;have hs2a:W2.heap.size<=w1.heap.size+1:=by omega
 have hs2b:w1.heap.size+1<=W2.heap.size:=by omega
 clear hs2;have hb12:Below W0.heap.size W0 W2:=hb1.trans (hb2.mono (by omega));have hbw2:Below w.heap.size w W2:=Hb0.out.trans (hb12.mono (by omega));have hX2:=HX.out.below hb12 (zr _)
 have hV:VIn w.heap.size W2 W2 ys b (.slice ay ys.length cs) (.slice ac b.scr.length cc) (.slice ap b.pend.length cp) (W0.heap.size+1) 0 W2.heap.size w.heap.size w1.heap.size:=
  ⟨Only.refl _ _,HG.out.below hbw2 hgl,(hp1 _ (by omega)).below hb2,zr _,HB.out.below hbw2,hX2,hR2⟩
 have HVa:=zh (zps hV.glob HOk.out hV.bk (by omega) (by omega) hV.prs hV.mle (by omega));rw [Hq.out] at HVa;unfold bkV at HVa;have HV2:=zh hV;have HU2:=zh (HU.out.below hb12 (zr _));have Hbw2:=zh hbw2;have HW2:=zh hW2;obtain ⟨x0,x1,x2,x3⟩:=yc4 hX2;have p0:=hR2.cell (i:=0) rfl;clear hp1 hb1 hW2 hb2 hR2 hb12 hbw2 hX2 hV HX HU HN HG HB;go_upto_region 2 with (fail)
 rw [<- HW2.out];go_wp2_with fail
 go_at_call 42;refine HVa.out.mono ?_;rintro e3 w3 ⟨rfl,hp3,ho3⟩;have hs3:=ho3.size;have HV3:=zh (HV2.out.step (by omega) (zr _) (by omega) (by omega) (by omega) ho3 hp3);have HU3:=zh (ho3.own HU2.out (by omega));have Hb3:=zh (Hbw2.out.trans (ho3.below (B:=w.heap.size) (fun k e=>by omega) (by omega)));clear hp3 ho3 x0 x1 x2 x3 p0 HVa HV2 HU2;obtain ⟨u0,u1,u2,u3⟩:=yc4 HU3.out;have uf:=HU3.out.free;by_cases hgood:q=true/\0<=fuel/\fuel<=10000
 case neg =>
  obtain ⟨W9,hW9,hX9,hg9⟩:=set4 HU3.out (.slice none 0 0) (.slice none 0 0) (.int .u64 0) (.int .i64 0);have HX9:=zh hX9;have HW9:=zh hW9;have Hb9:=zh (Hb3.out.trans (zbz (B:=w.heap.size) hg9 (by omega) (by omega)))
  have hcs:q=false∨(q=true/\fuel < 0)∨(q=true/\¬ fuel < 0/\10000 < fuel):=by
   cases q with
   | false=>exact .inl rfl
   | true =>
    by_cases h1:fuel < 0
    ·exact .inr (.inl ⟨rfl,h1⟩)
    ·exact .inr (.inr ⟨rfl,h1,by
      by_cases h:10000 < fuel
      ·exact h
      ·exact absurd ⟨rfl,by omega,by omega⟩ hgood⟩)
  clear hX9 hW9 hg9 hgood;rcases hcs with rfl | ⟨rfl,h1⟩ | ⟨rfl,h1,h2⟩
  case' inl=>have Hf:Hid (final=false):=zh (by rw [Hfin.out];rfl)
  case' inr.inl=>have Hf:Hid (final=false):=zh (by rw [Hfin.out,show decide (0<=fuel)=false by simp;omega];rfl)
  case' inr.inr=>have Hf:Hid (final=false):=zh (by rw [Hfin.out,show decide (fuel<=10000)=false by simp;omega];simp)
  all_goals
   go_wp2_with fail
   rw [<- HW9.out];obtain ⟨q0,q1,q2,q3⟩:=yc4 HX9.out;refine yE (v:=.tuple #[zqg,.int .i64 2]) (by simp [results,Tryz.results22,go_sem,q0,q1,q2,q3,zqg]) rfl ⟨?_,Hb9.out⟩;rw [Hf.out];rfl
 case pos =>
  obtain ⟨rfl,h1,h2⟩:=hgood;have Hf:Hid (final=true):=zh (by rw [Hfin.out,show decide (0<=fuel)=true by simpa using h1,show decide (fuel<=10000)=true by simpa using h2];rfl);have HVB:=zh (valid_iff.1 Hq.out);have hy16:=zph HVB.out.sys;have hv1:=HVB.out.many;have hnf:¬ fuel < 0:=by omega
  have hnf2:¬ fuel > 10000:=by omega
  have HEa:=zh (zs6 HV3.out.glob HV3.out.prs HV3.out.mle (by omega) HV3.out.pbox HV3.out.bk.scr HV3.out.bk.l2 (by omega) (by omega) (by omega) hv1 HOk.out.scr);have y2:=HV3.out.box.cell (i:=2) rfl;clear Hfin Hq h1 h2 u0 u1 u2 u3 uf;go_upto_region 4 with (fail)
  go_wp2_with fail
  go_at_call 60;refine HEa.out.mono ?_;rintro e4 w4 ⟨⟨v4,rfl,hE4⟩,hp4,ho4⟩;obtain ⟨a4,k4,rfl⟩:=hE4.len;rw [List.length_map] at hE4 ⊢;have hs4:=ho4.size;have HV4:=zh (HV3.out.step (by omega) (zr _) (by omega) (by omega) (by omega) ho4 hp4);have HU4:=zh (ho4.own HU3.out (by omega));have Hb4:=zh (Hb3.out.trans (ho4.below (B:=w.heap.size) (fun k e=>by omega) (by omega)));have HE4:=zh hE4;have HCl:=zh (zqm HV4.out.bk.sys (by omega));have y1:=HV4.out.box.cell (i:=1) rfl;clear hE4 hp4 ho4 y2 HEa HV3 HU3 Hb3;go_wp2_with fail
  go_at_call 63;refine HCl.out.mono ?_;rintro e5 w5 ⟨⟨v5,rfl,hr5⟩,hb5⟩;obtain ⟨a5,k5,rfl,-,-⟩:=Sl.form (Sl.of_own hr5);have hs5:=hb5.size;have hU5:=HU4.out.below hb5 (zr _);obtain ⟨u0,u1,u2,u3⟩:=yc4 hU5;have uf:=hU5.free;obtain ⟨W9,hW9,hX9,hg9⟩:=set4 hU5 (.slice a5 ys.length k5) (.slice a4 b.scr.length k4) (.int .u64 seed) (.int .i64 fuel);have ho9:Only (fun k=>k=w.heap.size+1) w5 W9:=Only.of_grown hg9 (fun r e=>by cases e;rfl);have Hr9:=zh (znE (ho9.row hr5 (fun g hg e=>by have h9:=(hr5.lt g hg).1;have e9:g=w.heap.size+1:=e;omega)) (B':=w.heap.size) (by omega));have HE9:=zh (((HE4.out.below hb5).only ho9 (fun g e=>by subst e;omega)).mono (B':=w.heap.size) (by omega));have Hb9:=zh ((Hb4.out.trans (hb5.mono (by omega))).trans (ho9.below (B:=w.heap.size) (fun k e=>by subst e;omega) (by omega)));have HX9:=zh hX9;have HW9:=zh hW9;clear hr5 hb5 hU5 hW9 hX9 hg9 ho9 y1;go_wp2_with fail
  rw [<- HW9.out];obtain ⟨q0,q1,q2,q3⟩:=yc4 HX9.out;refine yE (v:=.tuple #[.agg #[.slice a5 ys.length k5,.slice a4 b.scr.length k4,.int .u64 seed,.int .i64 fuel],.int .i64 0]) (by simp [results,Tryz.results22,go_sem,q0,q1,q2,q3]) rfl ⟨?_,Hb9.out⟩;rw [Hf.out];exact ⟨_,_,rfl,Hr9.out,HE9.out⟩
end Go.Proofs.YtdhikpkecmaplaaGreatDoor
