/- The statement PatchSafe, walked. -/
import Derived.Test.YtdhikpkecmaplaaGreatDoorPtSmSk
import Derived.Test.YtdhikpkecmaplaaGreatDoorPtSySk
import Derived.Test.YtdhikpkecmaplaaGreatDoorTreeOSk
set_option linter.unusedSimpArgs false
set_option linter.unusedVariables false
set_option maxRecDepth 100000
set_option maxHeartbeats 3000000
namespace Go.Proofs.YtdhikpkecmaplaaGreatDoor
open Go.RowKit

structure DoS where
  kind : Int
  p : Pt
def DoS.cells (d : DoS) : List Value := [.int .i64 d.kind, .int .i64 d.p.tick, .int .i64 d.p.slot, .string (bstr d.p.src)]
def Dos (w : World) (l : List DoS) (v : Value) : Prop := Sl w 4 l.length (l.flatMap DoS.cells) v
def DoS.ok (d : DoS) : Prop := okI d.kind /\ okI d.p.tick /\ okI d.p.slot /\ d.p.src.length <= 9223372036854775807
theorem Dos.at {w:World} {l:List DoS} {a:Option Addr} {n cap:Nat} (h:Dos w l (.slice a n cap)) {k:Nat} (hk:k < l.length) :
  ∃ b off,a=some ⟨b,off,none⟩/\b < w.heap.size/\w.cell? ⟨b,off+k * 4,none⟩=some (.int .i64 l[k].kind)/\w.cell? ⟨b,off+k * 4+1,none⟩=some (.int .i64 l[k].p.tick)/\w.cell? ⟨b,off+k * 4+2,none⟩=some (.int .i64 l[k].p.slot)/\w.cell? ⟨b,off+k * 4+3,none⟩=some (.string (bstr l[k].p.src)):=by
 obtain ⟨b,off,e,hlt,hc⟩:=Sl.at (by omega) h (by omega);have f:=zeW DoS.cells 4 (fun _=>rfl) l k hk;have f0:=f 0 (by omega);have d0:=hc (k * 4) (by omega);have d1:=hc (k * 4+1) (by omega);have d2:=hc (k * 4+2) (by omega);have d3:=hc (k * 4+3) (by omega);rw [Nat.add_zero] at f0;rw [<- Nat.add_assoc] at d1 d2 d3;exact ⟨b,off,e,hlt,d0.trans f0,d1.trans (f 1 (by omega)),d2.trans (f 2 (by omega)),d3.trans (f 3 (by omega))⟩
theorem pick4_any (x:Int) (hx:okI x) (w:World):Calls Tryz.prog 17 #[.int .i64 x,.int .i64 4] w fun e w'=>(∃ j:Int,e=.returned (.int .i64 j)/\(j=0∨j=1∨j=2∨j=3))/\Below w.heap.size w w':=by
 have h1 : -4 < x.tmod 4/\x.tmod 4 < 4:=by
  rcases Int.lt_or_le x 0 with h | h
  ·have h2:=Int.neg_tmod (a:=x) (b:=4);rw [Int.tmod_eq_emod_of_nonneg (by omega:0<=-x)] at h2;omega
  ·rw [Int.tmod_eq_emod_of_nonneg h];omega
 obtain ⟨y,hy⟩:∃ y,x.tmod 4=y:=⟨_,rfl⟩;rw [hy] at h1;by_cases h0:y < 0
 ·have hw:IntKind.i64.wrap (y+4)=y+4:=by rw [IntKind.wrap_i64];omega
  go_enter Tryz.func17,Tryz.ntmps17
  go_wp2_with fail
  go_ret;exact ⟨⟨_,rfl,by omega⟩,Below.refl _ _⟩
 ·go_enter Tryz.func17,Tryz.ntmps17
  go_wp2_with fail
  go_ret;exact ⟨⟨_,rfl,by omega⟩,Below.refl _ _⟩
structure SafeI (w0 w : World) (gb Bs : Nat) (ys : List Sys) (b : Bk) (vs vc vp vt : Value) : Prop where
  below : Below w0.heap.size w0 w
  box : OwnV w gb 26 [.int .i64 b.tick, vs, vc, vp]
  bk : BkIn w.heap.size w ys b vs vc vp
  ok : BkOk ys b
  vb : VB (znI ys) (rOf (errE ys)) b
  scr : w.ownsRow Bs 9 1 vt b.scr.length (b.scr.map fun s => Value.string (bstr s))
  apart : ys.length = 0 ∨ ∀ g, vs.ownBlock = some g -> vt.ownBlock ≠ some g
  base : w0.heap.size <= Bs
  lo : w0.heap.size <= gb
theorem SafeI.low {w0 w w':World} {gb Bs:Nat} {ys:List Sys} {b:Bk} {vs vc vp vt:Value} (h:SafeI w0 w gb Bs ys b vs vc vp vt) (hb:Below w.heap.size w w'):SafeI w0 w' gb Bs ys b vs vc vp vt:=
 ⟨h.below.trans (hb.mono h.below.size),h.box.below hb (zr _),(h.bk.below hb).mono hb.size,h.ok,h.vb,zbu h.scr hb (zr _),h.apart,h.base,h.lo⟩
def AftE (w wx : World) (gn : Nat) (ys : List Sys) (b : Bk) (t : Int) (x : Int) (vd : Value) : Prop :=
  (x ≠ 0 /\ vd = .slice none 0 0 /\ OwnV wx gn 26 [.int .i64 0, .slice none 0 0, .slice none 0 0, .slice none 0 0]) ∨
  (x = 0 /\ ∃ (c : Bk) (us uc up : Value) (l : List Pt), OwnV wx gn 26 [.int .i64 c.tick, us, uc, up] /\ BkIn wx.heap.size wx ys c us uc up /\ (∀ g, us.ownBlock = some g -> w.heap.size <= g) /\ (∀ g, uc.ownBlock = some g -> w.heap.size <= g) /\ (∀ g, up.ownBlock = some g -> w.heap.size <= g) /\ BkOk ys c /\ VB (znI ys) (rOf (errE ys)) c /\ Pts wx l vd /\ (l.length = 0 ∨ ∀ g, vd.ownBlock = some g -> w.heap.size <= g) /\ (∀ p ∈ l, 0 <= p.slot /\ p.slot < b.scr.length /\ p.tick <= t) /\ c.scr = zn4 b.scr l /\ b.tick <= c.tick)
theorem AftE.only {w wx wy:World} {gn:Nat} {ys:List Sys} {b:Bk} {t x:Int} {vd:Value} (h:AftE w wx gn ys b t x vd) (hb:Below wx.heap.size wx wy):AftE w wy gn ys b t x vd:=by
 rcases h with ⟨h1,h2,h3⟩ | ⟨h1,c,us,uc,up,l,a1,a2,a3,a4,a5,a6,a7,a8,a9,b1,b2,b3⟩
 ·exact .inl ⟨h1,h2,h3.below hb (zr _)⟩
 ·exact .inr ⟨h1,c,us,uc,up,l,a1.below hb (zr _),(a2.below hb).mono hb.size,a3,a4,a5,a6,a7,a8.below hb (zr _),a9,b1,b2,b3⟩
theorem aft_put {w wx:World} {gn:Nat} {ys:List Sys} {c:Bk} {us uc up z0 z1 z2 z3:Value} (ho:OwnV wx gn 26 [z0,z1,z2,z3]) (hk:BkIn wx.heap.size wx ys c us uc up) (h1:∀ g,us.ownBlock=some g->w.heap.size<=g) (h2:∀ g,uc.ownBlock=some g->w.heap.size<=g) (h3:∀ g,up.ownBlock=some g->w.heap.size<=g) (hg:gn < w.heap.size) :
  ∃ W,W=(((wx.setCell ⟨gn,0,none⟩ (.int .i64 c.tick)).setCell ⟨gn,1,none⟩ us).setCell ⟨gn,2,none⟩ uc).setCell ⟨gn,3,none⟩ up/\OwnV W gn 26 [.int .i64 c.tick,us,uc,up]/\BkIn W.heap.size W ys c us uc up/\Only (fun k=>k=gn) wx W:=by
 obtain ⟨W,hW,hX,hgr⟩:=set4 ho (.int .i64 c.tick) us uc up;have ho':Only (fun k=>k=gn) wx W:=Only.of_grown hgr (fun r e=>by cases e;rfl);refine ⟨W,hW,hX,⟨ho'.sl hk.sys (.inr fun g e e2=>by have:=h1 g e;have e3:g=gn:=e2;omega),ho'.sl hk.scr (.inr fun g e e2=>by have:=h2 g e;have e3:g=gn:=e2;omega),ho'.sl hk.pend (.inr fun g e e2=>by have:=h3 g e;have e3:g=gn:=e2;omega),hk.l1.mono ho'.size,hk.l2.mono ho'.size,hk.l3.mono ho'.size⟩,ho'⟩
theorem aft_no {w wx:World} {gn:Nat} {ys:List Sys} {b:Bk} {t x:Int} {z0 z1 z2 z3:Value} (ho:OwnV wx gn 26 [z0,z1,z2,z3]) (hx:x≠0) :
  ∃ W,W=(((wx.setCell ⟨gn,0,none⟩ (.int .i64 0)).setCell ⟨gn,1,none⟩ (.slice none 0 0)).setCell ⟨gn,2,none⟩ (.slice none 0 0)).setCell ⟨gn,3,none⟩ (.slice none 0 0)/\AftE w W gn ys b t x (.slice none 0 0)/\Only (fun k=>k=gn) wx W:=by
 obtain ⟨W,hW,hX,hgr⟩:=set4 ho (.int .i64 0) (.slice none 0 0) (.slice none 0 0) (.slice none 0 0);exact ⟨W,hW,.inl ⟨hx,rfl,hX⟩,Only.of_grown hgr (fun r e=>by cases e;rfl)⟩
theorem aft_yes {w wx:World} {gn:Nat} {ys:List Sys} {b c:Bk} {t:Int} {l:List Pt} {us uc up vd z0 z1 z2 z3:Value} (ho:OwnV wx gn 26 [z0,z1,z2,z3]) (hk:BkIn wx.heap.size wx ys c us uc up) (h1:∀ g,us.ownBlock=some g->w.heap.size<=g) (h2:∀ g,uc.ownBlock=some g->w.heap.size<=g) (h3:∀ g,up.ownBlock=some g->w.heap.size<=g) (hg:gn < w.heap.size)
  (hc:BkOk ys c) (hv:VB (znI ys) (rOf (errE ys)) c) (hd:Pts wx l vd) (hd2:l.length=0∨∀ g,vd.ownBlock=some g->w.heap.size<=g) (hl:∀ p ∈ l,0<=p.slot/\p.slot < b.scr.length/\p.tick<=t) (hs:c.scr=zn4 b.scr l) (ht:b.tick<=c.tick) :
  ∃ W,W=(((wx.setCell ⟨gn,0,none⟩ (.int .i64 c.tick)).setCell ⟨gn,1,none⟩ us).setCell ⟨gn,2,none⟩ uc).setCell ⟨gn,3,none⟩ up/\AftE w W gn ys b t 0 vd/\Only (fun k=>k=gn) wx W:=by
 obtain ⟨W,hW,hX,hB,hO⟩:=aft_put (w:=w) ho hk h1 h2 h3 hg;exact ⟨W,hW,.inr ⟨rfl,c,us,uc,up,l,hX,hB,h1,h2,h3,hc,hv,hO.sl hd (hd2.imp id fun h g e e2=>by have:=h g e;have e3:g=gn:=e2;omega),hd2,hl,hs,ht⟩,hO⟩
theorem sub_zero {base:Nat->Bool} {E:Int->List UInt8->Int} {b c:Bk} {p:Pt} {q:Bool} {x:Int} (h:znO base E b p=(some c,q,x)):x=0:=by
 unfold znO at h;split at h
 ·cases h
 ·split at h
  ·cases h
  ·split at h
   ·cases h
   ·split at h
    ·cases h
    ·split at h
     ·cases h
     ·split at h
      ·cases h
      ·cases h;rfl
theorem set_good {ys:List Sys} {b:Bk} {f:Int} (h:VB (znI ys) (rOf (errE ys)) b) (h0:0<=f) (h1:f<=10000):setB ys b f=true:=by
 unfold setB;rw [valid_iff.2 h,decide_eq_true h0,decide_eq_true h1];rfl
theorem base_valid {ys:List Sys} {n:Nat} (h:znI ys n=true):zop ys=true:=by
 unfold znI at h;rw [Bool.and_eq_true] at h;exact h.1
theorem scr_row {w:World} {B n:Nat} {l:List (List UInt8)} {v:Value} (hn:l.length=n) (h:w.ownsRow B 9 1 v n (l.map fun s=>Value.string (bstr s))):Strs w l v:=by
 subst hn;exact Sl.of_own h
theorem sub_good {ys:List Sys} {b c:Bk} {p:Pt} {q:Bool} (h:znO (znI ys) (errE ys) b p=(some c,q,0)) (hok:BkOk ys b) (hp:okI p.tick/\okI p.slot/\p.src.length<=9223372036854775807):VB (znI ys) (rOf (errE ys)) c/\c.scr=zn4 b.scr []/\b.tick<=c.tick/\BkOk ys c:=by
 obtain ⟨-,hv,rfl,-,-,-,-,-,-⟩:=zqF h;refine ⟨hv,rfl,Int.le_refl _,hok.sys,hok.tick,hok.scr,fun z hz=>?_⟩;rcases mem_put.1 hz with rfl | hz
 ·exact hp
 ·exact hok.pend z hz
theorem wd_good {ys:List Sys} {b c:Bk} {p:Pt} {x:Int} (h:withdrawB (znI ys) (rOf (errE ys)) b p=(some c,x)) (hok:BkOk ys b):VB (znI ys) (rOf (errE ys)) c/\c.scr=zn4 b.scr []/\b.tick<=c.tick/\BkOk ys c:=by
 obtain ⟨hv,rfl⟩:=withdraw_valid h;exact ⟨hv,rfl,Int.le_refl _,hok.sys,hok.tick,hok.scr,fun z hz=>hok.pend z (List.eraseP_sublist.subset hz)⟩
theorem ad_good {ys:List Sys} {b c:Bk} {l:List Pt} {t x:Int} (h:zoe (znI ys) (rOf (errE ys)) b t=(some (c,l),x)) (hok:BkOk ys b) (ht:okI t):VB (znI ys) (rOf (errE ys)) c/\c.scr=zn4 b.scr l/\b.tick<=c.tick/\BkOk ys c/\∀ p ∈ l,0<=p.slot/\p.slot < b.scr.length/\p.tick<=t:=by
 obtain ⟨hv,rfl,rfl,h1,hb⟩:=advance_valid h;refine ⟨hv,rfl,h1,adv_bkok hok ht,fun p hp=>?_⟩;obtain ⟨-,-,a3,a4,-,-⟩:=hb.pend.1 p ((List.takeWhile_sublist _).subset hp);exact ⟨a3,a4,up_le hp⟩
theorem own_ge {w:World} {B:Nat} {e:TypeId} {s n:Nat} {v:Value} {xs:List Value} (h:w.ownsRow B e s v n xs):∀ g,v.ownBlock=some g->B<=g:=fun g e=>(h.lt g e).1
theorem patchSafe_any {w:World} {ys:List Sys} {b:Bk} {l:List DoS} {vs vc vp vl:Value} (hG:Glob w) (hOk:BkOk ys b) (hB:BkIn w.heap.size w ys b vs vc vp) (hL:Dos w l vl) (hdo:∀ d ∈ l,d.ok):Calls Tryz.prog 3 #[bkV b vs vc vp,vl] w (zbe true w):=by
 obtain ⟨ay,cy,rfl,-,-⟩:=hB.sys.form;obtain ⟨ac,cc,rfl,-,-⟩:=hB.scr.form;obtain ⟨ap,cp,rfl,-,-⟩:=hB.pend.form;obtain ⟨al,cl,rfl,hcl1,hcl2⟩:=Sl.form hL;have HG:Hid (∀ W,Below w.heap.size w W->Glob W):=zh (fun W hb=>hG.below hb hG.size);have HB:Hid (∀ W,Below w.heap.size w W->BkIn W.heap.size W ys b (.slice ay ys.length cy) (.slice ac b.scr.length cc) (.slice ap b.pend.length cp)):=zh (fun W hb=>(hB.below hb).mono hb.size);have HL:Hid (∀ W,Below w.heap.size w W->Dos W l (.slice al l.length cl)):=zh (fun W hb=>Sl.below (by omega) hL hb (zr _));have Hok:=zh hOk;have Hdo:=zh hdo;have HSm:Hid (∀ W,Below w.heap.size w W->Calls Tryz.prog 14 #[.agg #[.int .i64 b.tick,.slice ay ys.length cy,.slice ac b.scr.length cc,.slice ap b.pend.length cp]] W fun e w'=>SmallE ys.length b.scr.length b.pend.length e/\Below W.heap.size W w'):=zh (fun W hb=>small_any (zr _) (HB.out W hb) hOk);have HVl:Hid (∀ W,Below w.heap.size w W->Calls Tryz.prog 15 #[.agg #[.int .i64 b.tick,.slice ay ys.length cy,.slice ac b.scr.length cc,.slice ap b.pend.length cp]] W (zbe (znM (znI ys) (rOf (errE ys)) b) W)):=zh (fun W hb=>zri (HG.out W hb) hOk (HB.out W hb));have Hlow:=zh hB.l1;obtain ⟨W0,hW0,hb0,hX,hs0⟩:=box1 w [.int .i64 b.tick,.slice ay ys.length cy,.slice ac b.scr.length cc,.slice ap b.pend.length cp] 26;have HAw:=zh (zqE (HG.out W0 hb0));have HW0:=zh hW0;have HX:=zh hX;have Hb0:=zh hb0;unfold bkV;clear hG hOk hB hL hdo hW0 hX hb0 hs0;go_enter Tryz.func3,Tryz.ntmps3
 go_upto_region 1 with (fail)
 rw [<- HW0.out];go_wp2_with fail
 go_at_call 13;refine HAw.out.mono ?_;rintro e1 w1 ⟨rfl,hb⟩;have Hb1:=zh (Hb0.out.trans (hb.mono Hb0.out.size));have HX:=zh (HX.out.below hb (zr _));clear hb Hb0;obtain ⟨x0,x1,x2,x3⟩:=yc4 HX.out;go_wp2_with fail
 refine (HSm.out _ Hb1.out).mono ?_;rintro e2 w2 ⟨⟨q,rfl,hq⟩,hb⟩;have Hb2:=zh (Hb1.out.trans (hb.mono Hb1.out.size));have HX:=zh (HX.out.below hb (zr _));clear hb Hb1 x0 x1 x2 x3
 cases q with
 | false =>
  go_wp2_with fail
  go_ret
  exact ⟨rfl,Hb2.out⟩
 | true =>
 obtain ⟨hq1,hq2,hq3⟩:=hq rfl;clear hq;by_cases hlong:(l.length:Int) > 12
 ·go_wp2_with fail
  go_ret;exact ⟨rfl,Hb2.out⟩
 obtain ⟨x0,x1,x2,x3⟩:=yc4 HX.out;go_wp2_with fail
 refine (HVl.out _ Hb2.out).mono ?_;rintro e3 w3 ⟨rfl,hb⟩;have Hb3:=zh (Hb2.out.trans (hb.mono Hb2.out.size));have HX:=zh (HX.out.below hb (zr _));clear hb Hb2 x0 x1 x2 x3;obtain ⟨q,hq⟩:∃ q,znM (znI ys) (rOf (errE ys)) b=q:=⟨_,rfl⟩;rw [hq]
 cases q with
 | false =>
  go_wp2_with fail
  go_ret
  exact ⟨rfl,Hb3.out⟩
 | true =>
 have HV:=zh hq;clear hq;have x2:=HX.out.cell (i:=2) rfl;have hcp:=zh (copyTxt_any (HB.out _ Hb3.out).scr (by omega));go_wp2_with fail
 go_at_call 16;refine hcp.out.mono ?_;rintro e4 w4 ⟨⟨vt,rfl,hO⟩,hb⟩;obtain ⟨at4,ct4,rfl,-,-⟩:=Sl.form (Sl.of_own hO)
 have hI:SafeI w w4 w.heap.size w3.heap.size ys b (.slice ay ys.length cy) (.slice ac b.scr.length cc) (.slice ap b.pend.length cp) (.slice at4 b.scr.length ct4):=
  ⟨Hb3.out.trans (hb.mono Hb3.out.size),HX.out.below hb (zr _),HB.out _ (Hb3.out.trans (hb.mono Hb3.out.size)),Hok.out,valid_iff.1 HV.out,hO,Hlow.out.imp id (fun h g e e2=>by have:=h g e;have:=(hO.lt g e2).1;have:=Hb3.out.size;omega),Hb3.out.size,zr _⟩
 have HI:=zh hI;have hn4:b.scr.length=b.scr.length:=rfl;obtain ⟨n4,hn4⟩:∃ n4,b.scr.length=n4:=⟨_,rfl⟩;have Hn4:=zh hn4;rw [hn4] at HI ⊢;clear hcp hb hO x2 hI Hb3 HX HSm HVl HAw HB Hok HV Hlow hq1 hq2 hq3 hn4;go_wp2_with fail
 go_loopw [4,6,7,8,9,10,11,12,13,14,33,34,35,36,37,38,39,40,41,42,43,44,45,46,47,48,49,50,51,52,53,54,55,56,57,58,59,60,61,62,63,64,65,66,67,68,69,70,71,72,73,74,75,76,77,78,79,80,81,82,83,84,85,86,87,88,89,90,91,92,93,94,95,96,97,98,99,100,101,102,103,104,105,106,107,108,109,110,111,112,113,114,115,116,117,118,119,120,121,122,123,124,125,126,127,128,129,130,131,132,133,134,135,136,137,138,139,140,141,142,143,144,145,146,147,148,149,150,151,152,153,154,155,156,157,158,159,160,161,162,163,164,165,166,167,168,169,170,171,172,173,174,175,176,177,178,179,180,181,182,183,184,185,186,187,188,189,190,191,192,193,194,195,196,197,198,199,200,201,202,203,204] (fun _ t6 _ _ _ _ _ _ _ _ _ _ _ _ _ _ _ _ _ _ _ _ _ _ _ _ _ _ _ _ _ _ _ _ _ _ _ _ _ _ _ _ _ _ _ _ _ _ _ _ _ _ _ _ _ _ _ _ _ _ _ _ _ _ _ _ _ _ _ _ _ _ _ _ _ _ _ _ _ _ _ _ _ _ _ _ _ _ _ _ _ _ _ _ _ _ _ _ _ _ _ _ _ _ _ _ _ _ _ _ _ _ _ _ _ _ _ _ _ _ _ _ _ _ _ _ _ _ _ _ _ _ _ _ _ _ _ _ _ _ _ _ _ _ _ _ _ _ _ _ _ _ _ _ _ _ _ _ _ _ _ _ _ _ _ _ _ _ _ _ _ _ _ _ _ _ _ _ _ _ _ _ wr=>∃ (k:Nat) (bk:Bk) (a1 a2 a3:Option Addr) (k1 k2 k3:Nat),k<=l.length/\t6=.int .i64 k/\Hid (bk.scr.length=n4)/\Hid (SafeI w wr w.heap.size w3.heap.size ys bk (.slice a1 ys.length k1) (.slice a2 bk.scr.length k2) (.slice a3 bk.pend.length k3) (.slice at4 n4 ct4))) (fun _ t6 _ _ _ _ _ _ _ _ _ _ _ _ _ _ _ _ _ _ _ _ _ _ _ _ _ _ _ _ _ _ _ _ _ _ _ _ _ _ _ _ _ _ _ _ _ _ _ _ _ _ _ _ _ _ _ _ _ _ _ _ _ _ _ _ _ _ _ _ _ _ _ _ _ _ _ _ _ _ _ _ _ _ _ _ _ _ _ _ _ _ _ _ _ _ _ _ _ _ _ _ _ _ _ _ _ _ _ _ _ _ _ _ _ _ _ _ _ _ _ _ _ _ _ _ _ _ _ _ _ _ _ _ _ _ _ _ _ _ _ _ _ _ _ _ _ _ _ _ _ _ _ _ _ _ _ _ _ _ _ _ _ _ _ _ _ _ _ _ _ _ _ _ _ _ _ _ _ _ _ _ _=>l.length - (intOf t6).toNat)
 case atStart=>exact ⟨0,b,ay,ac,ap,cy,cc,cp,by omega,by first | rfl | go_num,Hn4,by first | exact HI | (rw [Hn4.out];exact HI)⟩
 case round =>
  clear HI;obtain ⟨k,bk,a1,a2,a3,k1,k2,k3,hk,rfl,HN,HI⟩:=hrel;by_cases hkl:k < l.length
  ·have hki:(k:Int) < (l.length:Int):=by omega
   have hll:(l.length:Int)<=12:=by omega
   obtain ⟨g1,o1,rfl,hg1,c0,c1,c2,c3⟩:=(HL.out _ HI.out.below).at hkl;obtain ⟨d1,d2,d3,d4⟩:=Hdo.out _ (List.getElem_mem hkl)
   generalize l[k]=d at *
   obtain ⟨kind,p⟩:=d
   simp only at *
   obtain ⟨W5,hW5,hb5,hD,-⟩:=box1 wr [.int .i64 kind,.int .i64 p.tick,.int .i64 p.slot,.string (bstr p.src)] 34;have HW5:=zh hW5;have Hbr:=zh hb5;have HD:=zh hD;have hlt5:wr.heap.size < W5.heap.size:=hD.lt;have hsz:((bstr p.src).size:Int)<=9223372036854775807:=by rw [zcQ];omega
   have hgb:=HI.out.box.lt;clear hW5 hb5 hD;go_upto_region 10 with (fail)
   rw [<- HW5.out];clear c0 c1 c2 c3;have e3:=HD.out.cell (i:=3) rfl;by_cases hlg:((bstr p.src).size:Int) > 1000
   ·go_wp2_with fail
    go_ret;exact ⟨rfl,(HI.out.low Hbr.out).below⟩
   obtain ⟨x0,x1,x2,x3⟩:=yc4 (HI.out.low Hbr.out).box;obtain ⟨W6,hW6,hb6,hN6,hs6⟩:=box1 W5 [.int .i64 bk.tick,.slice a1 ys.length k1,.slice a2 bk.scr.length k2,.slice a3 bk.pend.length k3] 26;have HW6:=zh hW6;have hlt56:W5.heap.size < W6.heap.size:=hN6.lt;have hs5:=Hbr.out.size;have Hbr:=zh (Hbr.out.trans (hb6.mono Hbr.out.size));have HD:=zh (HD.out.below hb6 (zr _));have HNx:=zh hN6;clear hW6 hb6 hN6 hs6;go_upto_region 13 with (fail)
   rw [<- HW6.out];clear x0 x1 x2 x3 e3;have e0:=HD.out.cell (i:=0) rfl;go_wp2_with fail
   go_at_call 17;refine (pick4_any kind d1 W6).mono ?_;rintro e7 w7 ⟨⟨j,rfl,hj⟩,hb7⟩;have hs7:=hb7.size;have Hbr:=zh (Hbr.out.trans (hb7.mono Hbr.out.size));have HD:=zh (HD.out.below hb7 (zr _));have HNx:=zh (HNx.out.below hb7 (zr _));have HI7:=zh (HI.out.low Hbr.out);clear hb7 e0;obtain ⟨x0,x1,x2,x3⟩:=yc4 HI7.out.box;have e1:=HD.out.cell (i:=1) rfl;have e2:=HD.out.cell (i:=2) rfl;have e3:=HD.out.cell (i:=3) rfl;go_upto_block 2 with (fail)
   go_cut [9,10] (fun s9 s10 wx=>∃ (x:Int) (ad:Option Addr) (nd cd:Nat),s10=.int .i64 x/\s9=.slice ad nd cd/\AftE w7 wx W5.heap.size ys bk p.tick x (.slice ad nd cd)/\Only (fun g=>g=W5.heap.size) w7 wx)
   case first =>
    have hs7b:W5.heap.size < w7.heap.size:=by omega
    rcases hj with rfl | rfl | rfl | rfl
    ·as_aux_lemma =>
      have HSb:=zh (zpw (p:=p) (HG.out _ HI7.out.below) HI7.out.ok d4 HI7.out.bk);unfold bkV Pt.val at HSb;obtain ⟨⟨r,q,x⟩,hr⟩:∃ r,znO (znI ys) (errE ys) bk p=r:=⟨_,rfl⟩;rw [hr] at HSb;have HR:=zh hr;clear hr
      cases r with
      | none =>
       go_wp2_with fail
       go_at_call 18;refine HSb.out.mono ?_;rintro e8 w8 ⟨⟨rfl,hx⟩,hb8⟩;unfold zor;have hN8:=HNx.out.below hb8 (zr _);obtain ⟨u0,u1,u2,u3⟩:=yc4 hN8;have uf:=hN8.free;obtain ⟨W9,hW9,hA,ho9⟩:=aft_no (w:=w7) (ys:=ys) (b:=bk) (t:=p.tick) hN8 hx;have HA:=zh hA;have Ho:=zh ((Only.of_below hb8).trans ho9);have HW9:=zh hW9;clear hb8 hN8 hW9 hA ho9 hx HSb;go_wp2_with fail
       go_meet;rw [<- HW9.out]
       exact ⟨_,_,_,_,rfl,rfl,HA.out,Ho.out⟩
      | some c =>
       obtain rfl:x=0:=sub_zero HR.out;obtain ⟨hcv,hcs,hct,hcok⟩:=sub_good HR.out HI7.out.ok ⟨d2,d3,d4⟩;go_wp2_with fail
       go_at_call 18;refine HSb.out.mono ?_;rintro e8 w8 ⟨⟨us,uc,up,rfl,hO⟩,hb8⟩;have hN8:=HNx.out.below hb8 (zr _);obtain ⟨u0,u1,u2,u3⟩:=yc4 hN8;have uf:=hN8.free;obtain ⟨m1,q1,rfl,-,-⟩:=Sl.form (Sl.of_own hO.sys);obtain ⟨m2,q2,rfl,-,-⟩:=Sl.form (Sl.of_own hO.scr);obtain ⟨m3,q3,rfl,-,-⟩:=Sl.form (Sl.of_own hO.pend);unfold bkV;obtain ⟨W9,hW9,hA,ho9⟩:=aft_yes (w:=w7) (b:=bk) (t:=p.tick) (l:=[]) (vd:=.slice none 0 0) hN8 hO.bk (own_ge hO.sys) (own_ge hO.scr) (own_ge hO.pend) hs7b hcok hcv (sl_nil _ 3) (.inl rfl) (fun _ h=>by cases h) hcs hct;have HA:=zh hA;have Ho:=zh ((Only.of_below hb8).trans ho9);have HW9:=zh hW9;clear hb8 hN8 hW9 hA ho9 hO hcok hcv hcs hct HSb;go_wp2_with fail
       go_meet;rw [<- HW9.out];exact ⟨_,_,_,_,rfl,rfl,HA.out,Ho.out⟩
    ·as_aux_lemma =>
      have HSb:=zh (zpw (p:=p) (HG.out _ HI7.out.below) HI7.out.ok d4 HI7.out.bk);unfold bkV Pt.val at HSb;obtain ⟨⟨r,q,x⟩,hr⟩:∃ r,znO (znI ys) (errE ys) bk p=r:=⟨_,rfl⟩;rw [hr] at HSb;have HR:=zh hr;clear hr
      cases r with
      | none =>
       go_wp2_with fail
       go_at_call 18;refine HSb.out.mono ?_;rintro e8 w8 ⟨⟨rfl,hx⟩,hb8⟩;unfold zor;have hN8:=HNx.out.below hb8 (zr _);obtain ⟨u0,u1,u2,u3⟩:=yc4 hN8;have uf:=hN8.free;obtain ⟨W9,hW9,hA,ho9⟩:=aft_no (w:=w7) (ys:=ys) (b:=bk) (t:=p.tick) hN8 hx;have HA:=zh hA;have Ho:=zh ((Only.of_below hb8).trans ho9);have HW9:=zh hW9;clear hb8 hN8 hW9 hA ho9 hx HSb;go_wp2_with fail
       go_meet;rw [<- HW9.out]
       exact ⟨_,_,_,_,rfl,rfl,HA.out,Ho.out⟩
      | some c =>
       obtain rfl:x=0:=sub_zero HR.out;obtain ⟨hcv,hcs,hct,hcok⟩:=sub_good HR.out HI7.out.ok ⟨d2,d3,d4⟩;go_wp2_with fail
       go_at_call 18;refine HSb.out.mono ?_;rintro e8 w8 ⟨⟨us,uc,up,rfl,hO⟩,hb8⟩;have hN8:=HNx.out.below hb8 (zr _);obtain ⟨u0,u1,u2,u3⟩:=yc4 hN8;have uf:=hN8.free;obtain ⟨m1,q1,rfl,-,-⟩:=Sl.form (Sl.of_own hO.sys);obtain ⟨m2,q2,rfl,-,-⟩:=Sl.form (Sl.of_own hO.scr);obtain ⟨m3,q3,rfl,-,-⟩:=Sl.form (Sl.of_own hO.pend);unfold bkV;obtain ⟨W9,hW9,hA,ho9⟩:=aft_yes (w:=w7) (b:=bk) (t:=p.tick) (l:=[]) (vd:=.slice none 0 0) hN8 hO.bk (own_ge hO.sys) (own_ge hO.scr) (own_ge hO.pend) hs7b hcok hcv (sl_nil _ 3) (.inl rfl) (fun _ h=>by cases h) hcs hct;have HA:=zh hA;have Ho:=zh ((Only.of_below hb8).trans ho9);have HW9:=zh hW9;clear hb8 hN8 hW9 hA ho9 hO hcok hcv hcs hct HSb;go_wp2_with fail
       go_meet;rw [<- HW9.out];exact ⟨_,_,_,_,rfl,rfl,HA.out,Ho.out⟩
    ·as_aux_lemma =>
      have HWd:=zh (withdraw_any (p:=p) (HG.out _ HI7.out.below) HI7.out.ok HI7.out.bk);unfold bkV at HWd;obtain ⟨⟨r,x⟩,hr⟩:∃ r,withdrawB (znI ys) (rOf (errE ys)) bk p=r:=⟨_,rfl⟩;rw [hr] at HWd;have HR:=zh hr;clear hr
      cases r with
      | none =>
       go_wp2_with fail
       go_at_call 19;refine HWd.out.mono ?_;rintro e8 w8 ⟨⟨rfl,hx⟩,hb8⟩;unfold zor;have hN8:=HNx.out.below hb8 (zr _);obtain ⟨u0,u1,u2,u3⟩:=yc4 hN8;have uf:=hN8.free;obtain ⟨W9,hW9,hA,ho9⟩:=aft_no (w:=w7) (ys:=ys) (b:=bk) (t:=p.tick) hN8 hx;have HA:=zh hA;have Ho:=zh ((Only.of_below hb8).trans ho9);have HW9:=zh hW9;clear hb8 hN8 hW9 hA ho9 hx HWd;go_wp2_with fail
       go_meet;rw [<- HW9.out]
       exact ⟨_,_,_,_,rfl,rfl,HA.out,Ho.out⟩
      | some c =>
       obtain ⟨hcv,hcs,hct,hcok⟩:=wd_good HR.out HI7.out.ok;go_wp2_with fail
       go_at_call 19;refine HWd.out.mono ?_;rintro e8 w8 ⟨⟨us,uc,up,rfl,hO⟩,hb8⟩;have hN8:=HNx.out.below hb8 (zr _);obtain ⟨u0,u1,u2,u3⟩:=yc4 hN8;have uf:=hN8.free;obtain ⟨m1,q1,rfl,-,-⟩:=Sl.form (Sl.of_own hO.sys);obtain ⟨m2,q2,rfl,-,-⟩:=Sl.form (Sl.of_own hO.scr);obtain ⟨m3,q3,rfl,-,-⟩:=Sl.form (Sl.of_own hO.pend);unfold bkV;obtain ⟨W9,hW9,hA,ho9⟩:=aft_yes (w:=w7) (b:=bk) (t:=p.tick) (l:=[]) (vd:=.slice none 0 0) hN8 hO.bk (own_ge hO.sys) (own_ge hO.scr) (own_ge hO.pend) hs7b hcok hcv (sl_nil _ 3) (.inl rfl) (fun _ h=>by cases h) hcs hct;have HA:=zh hA;have Ho:=zh ((Only.of_below hb8).trans ho9);have HW9:=zh hW9;clear hb8 hN8 hW9 hA ho9 hO hcok hcv hcs hct HWd;go_wp2_with fail
       go_meet;rw [<- HW9.out];exact ⟨_,_,_,_,rfl,rfl,HA.out,Ho.out⟩
    ·as_aux_lemma =>
      have HAd:=zh (zq4 (t:=p.tick) (HG.out _ HI7.out.below) HI7.out.ok HI7.out.bk);unfold bkV at HAd;obtain ⟨⟨r,x⟩,hr⟩:∃ r,zoe (znI ys) (rOf (errE ys)) bk p.tick=r:=⟨_,rfl⟩;rw [hr] at HAd;have HR:=zh hr;clear hr
      cases r with
      | none =>
       go_wp2_with fail
       go_at_call 20;refine HAd.out.mono ?_;rintro e8 w8 ⟨⟨rfl,hx⟩,hb8⟩;unfold zor;have hN8:=HNx.out.below hb8 (zr _);obtain ⟨u0,u1,u2,u3⟩:=yc4 hN8;have uf:=hN8.free;obtain ⟨W9,hW9,hA,ho9⟩:=aft_no (w:=w7) (ys:=ys) (b:=bk) (t:=p.tick) hN8 hx;have HA:=zh hA;have Ho:=zh ((Only.of_below hb8).trans ho9);have HW9:=zh hW9;clear hb8 hN8 hW9 hA ho9 hx HAd;go_wp2_with fail
       go_meet;rw [<- HW9.out]
       exact ⟨_,_,_,_,rfl,rfl,HA.out,Ho.out⟩
      | some cl =>
       obtain ⟨c,dl⟩:=cl;obtain ⟨hcv,hcs,hct,hcok,hdl⟩:=ad_good HR.out HI7.out.ok d2;go_wp2_with fail
       go_at_call 20;refine HAd.out.mono ?_;rintro e8 w8 ⟨⟨us,uc,up,ul,rfl,r1,r2,⟨r3,r4⟩,r5⟩,hb8⟩;have hN8:=HNx.out.below hb8 (zr _);obtain ⟨u0,u1,u2,u3⟩:=yc4 hN8;have uf:=hN8.free;have hBk:=adv_bk r1 r2 ⟨r3,r4⟩;obtain ⟨m1,q1,rfl,-,-⟩:=Sl.form (Sl.of_own r1);obtain ⟨m2,q2,rfl,-,-⟩:=Sl.form (Sl.of_own r2);obtain ⟨m3,q3,rfl,-,-⟩:=Pts.form r3;obtain ⟨m4,q4,rfl,-,-⟩:=Sl.form (Sl.of_own r5);unfold bkV;obtain ⟨W9,hW9,hA,ho9⟩:=aft_yes (w:=w7) (b:=bk) (t:=p.tick) hN8 hBk (own_ge r1) (own_ge r2) (fun g e=>(r4 g e).1) hs7b hcok hcv (Sl.of_own r5) (.inr (own_ge r5)) hdl hcs hct;have HA:=zh hA;have Ho:=zh ((Only.of_below hb8).trans ho9);have HW9:=zh hW9;clear hb8 hN8 hW9 hA ho9 r1 r2 r3 r4 r5 hBk hcok hcv hcs hct hdl HAd;go_wp2_with fail
       go_meet;rw [<- HW9.out];exact ⟨_,_,_,_,rfl,rfl,HA.out,Ho.out⟩
   case rest =>
    obtain ⟨x,ad,nd,cd,rfl,rfl,hA,ho⟩:=hcut;obtain ⟨W9,hW9⟩:∃ W9,W9=wc:=⟨_,rfl⟩;subst hW9;have hs9:=ho.size;have Ho:=zh ho;have Hbr9:=zh (Hbr.out.trans (ho.below (B:=wr.heap.size) (fun g e=>by have e':g=W5.heap.size:=e;omega) (by omega)));have HD9:=zh (ho.own HD.out (show ¬ wr.heap.size=W5.heap.size by omega));have HI9:=zh (HI.out.low Hbr9.out);have Hs7:=zh (show W5.heap.size < w7.heap.size by omega);clear ho x0 x1 x2 x3 e1 e2 e3 HNx HD HI7 Hbr;rcases hA with ⟨hx,hv,hN⟩ | ⟨rfl,c,us,uc,up,dl,hN,hBk,hf1,hf2,hf3,hcok,hcv,hd,hd2,hdl,hcs,hct⟩
    ·as_aux_lemma =>
      cases hv;have hxb:(x != 0)=true:=by simpa using hx
      have HS0:=zh (fun W=>same_zero W);unfold zor at HS0;obtain ⟨u0,u1,u2,u3⟩:=yc4 hN;clear hN hx;go_wp2_with fail
      go_at_call 21;refine (HS0.out _).mono ?_;rintro e10 w10 ⟨rfl,hb10⟩;have HI10:=zh (HI9.out.low hb10);clear hb10 u0 u1 u2 u3 HS0;go_wp2_with fail
      go_roundw
      case rel=>exact ⟨k+1,bk,a1,a2,a3,k1,k2,k3,by omega,by go_num,HN,HI10⟩
      case measure=>simp [intOf];omega
    ·obtain ⟨m1,q1,rfl,-,-⟩:=hBk.sys.form;obtain ⟨m2,q2,rfl,-,-⟩:=hBk.scr.form;obtain ⟨m3,q3,rfl,-,-⟩:=hBk.pend.form;obtain ⟨ad2,cd2,hdf,hcd1,hcd2⟩:=hd.form;cases hdf;have hcl:c.scr.length=n4:=by rw [hcs,zpz];exact HN.out
     have HNx:=zh hN;have HBk:=zh hBk;have Hf1:=zh hf1;have Hf2:=zh hf2;have Hf3:=zh hf3;have Hcok:=zh hcok;have Hcv:=zh hcv;have Hd:=zh hd;have Hd2:=zh hd2;have Hdl:=zh hdl;have Hcs:=zh hcs;have Hct:=zh hct;have Hcl:=zh hcl;have hdc:(dl.length:Int)<=9223372036854775807:=by omega
     have hscr0:=HI9.out.scr;have hn4b:bk.scr.length=n4:=HN.out;rw [hn4b] at hscr0;have Hscr0:=zh hscr0
     have hgsl:∀ g,(Value.slice at4 n4 ct4).ownBlock=some g->w3.heap.size<=g/\g < wr.heap.size:=fun g e=>by
      have h1:=HI.out.scr;exact ⟨(h1.lt g e).1,(h1.lt g e).2⟩
     have Hgsl:=zh hgsl;clear hN hBk hf1 hf2 hf3 hcok hcv hd hd2 hdl hcs hct hcl hscr0 hn4b hgsl;go_wp2_with fail
     go_loopw [4,11,96,97,98,99,100,101,102,103,104,105,106,107,108,109,110,111,112,113,114,115,116,117,118,119,120,121,122,123,124,125,126,127,128,129,130,131,132,133,134,135,136,137,138,139,140] (fun _ t11 _ _ _ _ _ _ _ _ _ _ _ _ _ _ _ _ _ _ _ _ _ _ _ _ _ _ _ _ _ _ _ _ _ _ _ _ _ _ _ _ _ _ _ _ _ wr=>∃ m:Nat,m<=dl.length/\t11=.int .i64 m/\Hid (Only (fun g=>(Value.slice at4 n4 ct4).ownBlock=some g) W9 wr)/\Hid (wr.ownsRow w3.heap.size 9 1 (.slice at4 n4 ct4) n4 ((zn4 bk.scr (dl.take m)).map fun s=>Value.string (bstr s)))) (fun _ t11 _ _ _ _ _ _ _ _ _ _ _ _ _ _ _ _ _ _ _ _ _ _ _ _ _ _ _ _ _ _ _ _ _ _ _ _ _ _ _ _ _ _ _ _ _ _=>dl.length - (intOf t11).toNat)
     case atStart=>exact ⟨0,by omega,by first | rfl | go_num,zh (Only.refl _ _),Hscr0⟩
     case round =>
      obtain ⟨m,hm,rfl,HO,HS⟩:=hrel;by_cases hml:m < dl.length
      ·as_aux_lemma =>
        have hmi:(m:Int) < (dl.length:Int):=by omega
        obtain ⟨g2,o2,rfl,hg2,hc2⟩:=Hd.out.at (by omega)
        have hg2b:w7.heap.size<=g2:=by
         rcases Hd2.out with e | e
         ·omega
         ·exact e g2 rfl
        obtain ⟨f0,f1,f2⟩:=hc2 m hml;have hgn:¬ (Value.slice at4 n4 ct4).ownBlock=some g2:=fun e=>by have:=(Hgsl.out g2 e).2;have:=Hbr9.out.size;have:=Hs7.out;omega
        have f0:=HO.out.cell f0 hgn;have f1:=HO.out.cell f1 hgn;have f2:=HO.out.cell f2 hgn;obtain ⟨hs0,hs1,hs2⟩:=Hdl.out _ (List.getElem_mem hml);have e1:=(HO.out.own HD9.out (fun e=>by have:=(Hgsl.out _ e).2;omega)).cell (i:=1) rfl;have Htk:=zh (show (zn4 bk.scr (dl.take (m+1)))=(zn4 bk.scr (dl.take m)).set dl[m].slot.toNat dl[m].src from by rw [List.take_succ_eq_append_getElem hml,zrS];rfl);rw [HN.out] at hs1
        generalize dl[m]=y at *
        obtain ⟨yt,yo,yq⟩:=y
        simp only at *
        obtain ⟨yn,hyn⟩:∃ yn:Nat,yo=yn:=⟨yo.toNat,by omega⟩;subst hyn
        simp only [Int.toNat_natCast] at *
        obtain ⟨gs,hgs⟩:∃ gs,at4=some ⟨gs,0,none⟩:=by
         rcases HS.out.2 with ⟨e,h0⟩ | ⟨gs,cq,cu,e,-⟩
         ·omega
         ·cases e;exact ⟨gs,rfl⟩
        subst hgs;have gf:=zrx HS.out yn
        obtain ⟨gv,gc⟩:∃ gv,wr.cell? ⟨gs,yn,none⟩=some gv:=by
         obtain ⟨b9,off9,e9,-,hc9⟩:=Sl.at (by decide) (Sl.of_own HS.out) (by omega);cases e9;have hl9:yn < ((zn4 bk.scr (dl.take m)).map fun s=>Value.string (bstr s)).length:=by rw [List.length_map,zpz];have:=HN.out;omega
         exact ⟨_,(by have:=hc9 yn (by omega);rw [Nat.zero_add] at this;rw [this];exact List.getElem?_eq_getElem hl9)⟩
        have hyi:(yn:Int) < (n4:Int):=by omega
        have hy1:¬ (yn:Int) < 0:=by omega
        have hy2:¬ (yn:Int) >= (n4:Int):=by omega
        have hy3:¬ yt > p.tick:=by omega
        clear hc2 hs0 hs1 hs2 hgn;go_wp2_with fail
        refine zac (DrewOf _) (by kernel_rfl) (by kernel_rfl) (DrewOf.start _) ?_
        repeat
         try simp only [Act.put,zs1,zs3,zs2]
         apply stepsSeq.cons
         ·rintro w' ⟨nq,rfl⟩;simp only [Act.put,zs1,zs3,zs2];go_wp2_with (fail)
          first | exact ⟨rfl,nq,rfl⟩ | exact ⟨rfl,nq,(World.drewN_drewN _ _ _).symm⟩ | exact ⟨rfl,nq,by simp⟩
        try simp only [Act.put,zs1,zs3,zs2]
        refine stepsSeq.nil ?_;rintro w' ⟨nq,rfl⟩;go_wp2_with fail
        obtain ⟨W10,hW10⟩:∃ W10,W10=wr.drewN nq:=⟨_,rfl⟩;rw [<- hW10];have f1:W10.cell? ⟨g2,o2+m * 3+1,none⟩=some (.int .i64 yn):=by rw [hW10];exact f1
        have f2:W10.cell? ⟨g2,o2+m * 3+2,none⟩=some (.string (bstr yq)):=by rw [hW10];exact f2
        have gc:W10.cell? ⟨gs,yn,none⟩=some gv:=by rw [hW10];exact gc
        have gf:W10.frozen? ⟨gs,yn,none⟩=false:=by rw [hW10];exact gf
        have HO10:Hid (Only (fun g=>(Value.slice (some ⟨gs,0,none⟩) n4 ct4).ownBlock=some g) W9 W10):=zh (by rw [hW10];exact HO.out.drewN nq);have HS10:Hid (W10.ownsRow w3.heap.size 9 1 (.slice (some ⟨gs,0,none⟩) n4 ct4) n4 ((zn4 bk.scr (dl.take m)).map fun s=>Value.string (bstr s))):=zh (by rw [hW10];exact HS.out);clear f0 e1 hW10;refine zaW 12 (fun w'=>Below W10.heap.size W10 w') (by kernel_rfl) (by kernel_rfl) ((Below.refl _ _).drew) ?_;simp only [List.take_succ_cons,List.take_zero,List.drop_succ_cons,List.drop_zero]
        repeat
         try simp only [Act.put,zs1,zs3,zs2]
         apply stepsSeq.cons
         ·intro w' hb1;have Hb1':=zh hb1;have f1':=Below.keep hb1 f1;have f2':=Below.keep hb1 f2;have gc':=Below.keep hb1 gc;simp only [Act.put,zs1,zs3,zs2];go_wp2_with (fail)
          first | exact ⟨rfl,Hb1'.out⟩ | exact ⟨rfl,Hb1'.out.trans (hb2.mono Hb1'.out.size)⟩
        try simp only [Act.put,zs1,zs3,zs2]
        refine stepsSeq.nil ?_;intro w' hb1;have hS11:=zbu HS10.out hb1 (zr _);have gf:=zrx hS11 yn;have gc:=Below.keep hb1 gc;have HS12:=zh (zrw hS11 (j:=yn) (by omega) (.string (bstr yq)));have HO12:=zh ((HO10.out.trans (Only.of_below hb1)).setIn (g:=gs) (o:=yn) rfl (.string (bstr yq)));clear hS11 hb1;go_wp2_with fail
        go_roundw
        case rel=>exact ⟨m+1,by omega,by go_num,HO12,zh (by rw [Htk.out,List.map_set];exact HS12.out)⟩
        case measure=>simp [intOf];omega
      ·as_aux_lemma =>
        have hmi:¬ (m:Int) < (dl.length:Int):=by omega
        have hme:dl.take m=dl:=List.take_of_length_le (by omega);rw [hme,<- Hcs.out] at HS;have hgz:∀ g,(Value.slice at4 n4 ct4).ownBlock=some g->g < W5.heap.size:=fun g e=>by have:=(Hgsl.out g e).2;omega
        have hBk2:BkIn wr.heap.size wr ys c (.slice m1 ys.length q1) (.slice m2 c.scr.length q2) (.slice m3 c.pend.length q3):=by
         have hz:∀ g,w7.heap.size<=g->¬ (Value.slice at4 n4 ct4).ownBlock=some g:=fun g e e2=>by have:=hgz g e2;have:=Hs7.out;omega
         exact ⟨HO.out.sl HBk.out.sys (.inr fun g e=>hz g (Hf1.out g e)),HO.out.sl HBk.out.scr (.inr fun g e=>hz g (Hf2.out g e)),HO.out.sl HBk.out.pend (.inr fun g e=>hz g (Hf3.out g e)),HBk.out.l1.mono HO.out.size,HBk.out.l2.mono HO.out.size,HBk.out.l3.mono HO.out.size⟩
        have hbw:Below w.heap.size w wr:=HI9.out.below.trans (HO.out.below (B:=w.heap.size) (fun g e=>by have:=(Hgsl.out g e).1;have:=HI9.out.base;omega) HI9.out.below.size);have hN2:=HO.out.own HNx.out (fun e=>by have:=hgz _ e;omega);have hX2:=HO.out.own HI9.out.box (fun e=>own_off HI9.out.box HI9.out.scr (by decide) _ e rfl);have hsy:=HO.out.sl HI9.out.bk.sys HI9.out.apart;have hgb2:w.heap.size < W5.heap.size:=by omega
        have hs97:w7.heap.size<=wr.heap.size:=Nat.le_trans Ho.out.size HO.out.size;have hgbw:w.heap.size < W9.heap.size:=HI9.out.box.lt;obtain ⟨W10,hW10⟩:∃ W10,W10=wr:=⟨_,rfl⟩;rw [<- hW10] at hBk2 hbw hN2 hX2 hsy HS hs97 ⊢;have HN2:=zh hN2;have HX2:=zh hX2;have HSy:=zh hsy;have HBk2:=zh hBk2;have Hbw:=zh hbw;have Hgz:=zh hgz;have hst:=zh (zsf (seed:=1) (fuel:=100) (HG.out _ hbw) Hcok.out hBk2);rw [set_good Hcv.out (by decide) (by decide)] at hst;unfold bkV at hst;obtain ⟨x0,x1,x2,x3⟩:=yc4 hN2;clear hBk2 hbw hN2 hX2 hsy hgz hme hW10 HO HNx HI9 HD9;go_wp2_with fail
        go_at_call 22;refine hst.out.mono ?_;rintro e11 w11 ⟨⟨us,ul,rfl,hr1,hr2⟩,hb11⟩;obtain ⟨au,cu,rfl,-,-⟩:=Sl.form (Sl.of_own hr1);obtain ⟨aq,cq,rfl⟩:=hr2.len;obtain ⟨pn,hpn⟩:∃ pn,(c.scr.map fun s=>(znC s).prog).length=pn:=⟨_,rfl⟩;have Hpn:=zh hpn;have hpl:(pn:Int)<=16:=by rw [<- hpn,List.length_map];have:=Hcv.out.many;omega
        rw [hpn] at hr2 ⊢;clear hpn;obtain ⟨W11,hW11,hb12,hSt,hs11⟩:=box1 w11 [.slice au ys.length cu,.slice aq pn cq,.int .u64 1,.int .i64 100] 49;have hb10:Below W10.heap.size W10 W11:=hb11.trans (hb12.mono hb11.size);have HW11:=zh hW11;have HR1:Hid (Syss W11 ys (.slice au ys.length cu)):=zh (Syss.below (Sl.of_own hr1) hb12 (zr _));have HR2:=zh (hr2.below hb12);have HSt:=zh hSt;have HN3:=zh (HN2.out.below hb10 (zr _));have HX3:=zh (HX2.out.below hb10 (zr _));have HBk3:=zh ((HBk2.out.below hb10).mono hb10.size);have HSy3:Hid (Syss W11 ys (.slice a1 ys.length k1)):=zh (Syss.below HSy.out hb10 (zr _));have HS3:=zh (zbu HS.out hb10 (zr _));have Hbw3:=zh (Hbw.out.trans (hb10.mono Hbw.out.size));have hst2:=zh (zri (HG.out _ Hbw3.out) Hcok.out HBk3.out);rw [valid_iff.2 Hcv.out] at hst2;unfold bkV at hst2;have hs11b:=hb10.size;obtain ⟨x0,x1,x2,x3⟩:=yc4 HN3.out;clear hst hr1 hr2 hb11 hW11 hb12 hSt hs11 hb10 HN2 HX2 HBk2 HSy HS Hbw;go_upto_region 30 with (fail)
        rw [<- HW11.out];go_wp2_with fail
        go_at_call 15;refine hst2.out.mono ?_;rintro e12 w12 ⟨rfl,hb12⟩;obtain ⟨hz1,hz2⟩:=safe_set Hcv.out;have hwk:=zh (wkvalid_any (seed:=1) (fuel:=100) (Syss.below HR1.out hb12 (zr _)) Hcok.out.sys (HR2.out.below hb12) (base_valid Hcv.out.sys) (by rw [List.length_map];exact Hcv.out.many) ⟨by decide,by decide⟩ hz2 hz1);have Hz1:=zh hz1;obtain ⟨s0,s1,s2,s3⟩:=yc4 (HSt.out.below hb12 (zr _));have Hb12:=zh hb12;clear hst2 hz1 hz2 hb12 x0 x1 x2 x3;go_wp2_with fail
        go_at_call 23;refine hwk.out.mono ?_;rintro e13 w13 ⟨rfl,hb13⟩;have hb:=Hb12.out.trans (hb13.mono Hb12.out.size);have x2:=(HN3.out.below hb (zr _)).cell (i:=2) rfl;have htx:=zh (sameTxt_any (HBk3.out.below hb).scr (scr_row Hcl.out (zbu HS3.out hb (zr _))));have Hb13:=zh hb;clear hwk hb13 hb s0 s1 s2 s3;go_wp2_with fail
        go_at_call 24;refine htx.out.mono ?_;rintro e14 w14 ⟨rfl,hb14⟩;have hb:=Hb13.out.trans (hb14.mono Hb13.out.size);have x1:=(HN3.out.below hb (zr _)).cell (i:=1) rfl;have y1:=(HX3.out.below hb (zr _)).cell (i:=1) rfl;have hys:=zh (sameSys_any (HBk3.out.below hb).sys (Syss.below HSy3.out hb (zr _)));have Hb14:=zh hb;clear htx hb14 hb x2;go_wp2_with fail
        go_at_call 25;refine hys.out.mono ?_;rintro e15 w15 ⟨rfl,hb15⟩;have hb:=Hb14.out.trans (hb15.mono Hb14.out.size);have x0:=(HN3.out.below hb (zr _)).cell (i:=0) rfl;have y0:=(HX3.out.below hb (zr _)).cell (i:=0) rfl;have Hb15:=zh hb;have hct:¬ c.tick < bk.tick:=by have:=Hct.out;omega
        have hyl:(ys.length:Int)<=16:=by have:=zph Hcv.out.sys;omega
        clear hys hb15 hb x1 y1;go_wp2_with fail
        clear x0 y0 hct;go_loopw [4,14,180,181,182,183,184,185,186,187,188,189,190,191,192,193,194,195,196,197,198,199,200,201,202,203] (fun _ t14 _ _ _ _ _ _ _ _ _ _ _ _ _ _ _ _ _ _ _ _ _ _ _ _ wr=>∃ j:Nat,j<=ys.length/\t14=.int .i64 j/\Hid (Below W11.heap.size W11 wr)) (fun _ t14 _ _ _ _ _ _ _ _ _ _ _ _ _ _ _ _ _ _ _ _ _ _ _ _ _=>ys.length - (intOf t14).toNat)
        case atStart=>exact ⟨0,by omega,by first | rfl | go_num,Hb15⟩
        case round =>
         obtain ⟨j,hj,rfl,HL3⟩:=hrel;have s0:=(HSt.out.below HL3.out (zr _)).cell (i:=0) rfl;by_cases hjl:j < ys.length
         ·as_aux_lemma =>
           have hji:(j:Int) < (ys.length:Int):=by omega
           have s1:=(HSt.out.below HL3.out (zr _)).cell (i:=1) rfl;obtain ⟨g1,o1,rfl,hg1,hc1⟩:=(Syss.below HR1.out HL3.out (zr _)).at hjl;obtain ⟨c0,c1,c2,c3⟩:=hc1 j hjl;obtain ⟨hy0,P,hy1,hy2⟩:=Hz1.out _ (List.getElem_mem hjl);have hyl2:=(List.getElem?_eq_some_iff.1 hy1).1;obtain ⟨g2,o2,rfl,ac,cc,d0,d1,d2,d3,-⟩:=prgs_at (HR2.out.below HL3.out) hyl2;rw [(List.getElem?_eq_some_iff.1 hy1).2] at d0 d1 d2 d3;have HF:=zh (fun W=>zoR P ys[j] (.slice ac P.code.length cc) W ⟨_,_,_,rfl⟩);rw [hy2] at HF;unfold Sys.val zow at HF;rw [Hpn.out] at hyl2;clear hc1 hy1 hy2
           generalize ys[j]=y at *
           obtain ⟨nm,rd,wm,pg⟩:=y
           simp only at *
           obtain ⟨gN,hgN⟩:∃ gN:Nat,pg=gN:=⟨pg.toNat,by omega⟩;subst hgN
           simp only [Int.toNat_natCast] at *
           have hgl:(gN:Int) < (pn:Int):=by omega
           go_wp2_with fail
           refine zac (fun w'=>Below wr.heap.size wr w') (by kernel_rfl) (by kernel_rfl) ((Below.refl _ _).drew) ?_
           repeat
            try simp only [Act.put,zs1,zs3,zs2]
            apply stepsSeq.cons
            ·intro w' hb1;have Hb1':=zh hb1;have s0':=Below.keep hb1 s0;have s1':=Below.keep hb1 s1;have c0':=Below.keep hb1 c0;have c1':=Below.keep hb1 c1;have c2':=Below.keep hb1 c2;have c3':=Below.keep hb1 c3;have d0':=Below.keep hb1 d0;have d1':=Below.keep hb1 d1;have d2':=Below.keep hb1 d2;have d3':=Below.keep hb1 d3;simp only [Act.put,zs1,zs3,zs2];go_wp2_with (go_at_call 26;refine (HF.out _).mono ?_;rintro e2 w2 ⟨rfl,hb2⟩)
             first | exact ⟨rfl,Hb1'.out⟩ | exact ⟨rfl,Hb1'.out.trans (hb2.mono Hb1'.out.size)⟩
           try simp only [Act.put,zs1,zs3,zs2]
           refine stepsSeq.nil ?_;intro w' hb1;have HL4:=zh (HL3.out.trans (hb1.mono HL3.out.size));go_wp2_with fail
           go_roundw
           case rel=>exact ⟨j+1,by omega,by go_num,HL4⟩
           case measure=>simp [intOf];omega
         ·as_aux_lemma =>
           have hji:¬ (j:Int) < (ys.length:Int):=by omega
           have hN4:=HN3.out.below HL3.out (zr _);have hX4:=HX3.out.below HL3.out (zr _);have hB4:=(HBk3.out.below HL3.out).mono HL3.out.size;have hS4:=zbu HS3.out HL3.out (zr _);obtain ⟨x0,x1,x2,x3⟩:=yc4 hN4;obtain ⟨z0,z1,z2,z3⟩:=yc4 hX4;have zf:=hX4.free;obtain ⟨W20,hW20,hX20,hg20⟩:=set4 hX4 (.int .i64 c.tick) (.slice m1 ys.length q1) (.slice m2 c.scr.length q2) (.slice m3 c.pend.length q3);have ho20:Only (fun k=>k=w.heap.size) wr W20:=Only.of_grown hg20 (fun r e=>by cases e;rfl);have hzz:∀ g,w7.heap.size<=g->¬ g=w.heap.size:=fun g e e2=>by have:=Hs7.out;omega
           have hS20:=ho20.row hS4 (fun g e e2=>own_off hX4 hS4 (by decide) g e e2)
           have HI20:Hid (SafeI w W20 w.heap.size w3.heap.size ys c (.slice m1 ys.length q1) (.slice m2 c.scr.length q2) (.slice m3 c.pend.length q3) (.slice at4 n4 ct4)):=zh
            ⟨(Hbw3.out.trans (HL3.out.mono Hbw3.out.size)).trans (ho20.below (B:=w.heap.size) (fun k e=>by have e':k=w.heap.size:=e;omega) (by have:=Hbw3.out.size;have:=HL3.out.size;omega)),hX20,⟨ho20.sl hB4.sys (.inr fun g e=>hzz g (Hf1.out g e)),ho20.sl hB4.scr (.inr fun g e=>hzz g (Hf2.out g e)),ho20.sl hB4.pend (.inr fun g e=>hzz g (Hf3.out g e)),hB4.l1.mono ho20.size,hB4.l2.mono ho20.size,hB4.l3.mono ho20.size⟩,Hcok.out,Hcv.out,by rw [Hcl.out];exact hS20,.inr fun g e e2=>by have:=Hf1.out g e;have:=Hgz.out g e2;have:=Hs7.out;omega,HI.out.base,HI.out.lo⟩
           have HW20:=zh hW20;clear hN4 hX4 hB4 hS4 hW20 hX20 hg20 ho20 hS20;go_wp2_with fail
           rw [<- HW20.out];go_roundw
           case rel=>exact ⟨k+1,c,m1,m2,m3,q1,q2,q3,by omega,by go_num,Hcl,HI20⟩
           case measure=>simp [intOf];omega
  ·have hki:¬ (k:Int) < (l.length:Int):=by omega
   go_wp2_with fail
   go_ret;exact ⟨rfl,HI.out.below⟩
open Go.ChangeShapes Go.WideShapes Go.RowKit
set_option maxRecDepth 100000
variable {H : Type} {enc : TypeId × Value -> H} {w : World} {base : Nat} {spare : Nat -> Bool} {held : Bool}
theorem open_dl {fuel:Nat} {cs:List Value} {x:DataW H × List MemPlace} (h:DataW.trod enc Tryz.prog w base spare held fuel 27 cs=some x) :
  ∃ v l,cs=[v]/\Dos w l v/\∀ d ∈ l,d.ok:=by
 obtain ⟨v,l,ds,rfl,h1,h2,h3,h4⟩:=zlZ (α:=DoS) 4 (by omega) Tryz.underlying27 (by kernel_rfl) (fun l ds=>ds=l.flatMap DoS.cells/\∀ d ∈ l,d.ok) ⟨rfl,by simp⟩
  (fun a b c d g1 g2=>⟨by rw [g1.1,g2.1,List.flatMap_append],fun p hp=>(List.mem_append.1 hp).elim (g1.2 p) (g2.2 p)⟩) (fun n cs y hn hy=>by
  obtain ⟨xs,m,rfl,-,hl,hlen,hf⟩:=DataW.trod_struct Tryz.underlying34 hy;have hl2:cs.length=4:=hl.trans (by kernel_rfl)
  match xs,hlen with
  | [y0,y1],_ =>
  match cs,hl2 with
  | [c0,c1,c2,c3],_ =>
  have g0:=hf 0 _ rfl;have g1:=hf 1 _ rfl;have k1:Tryz.prog.cellsOf 3 = 1:=by kernel_rfl
  have k2:Tryz.prog.cellsOf 32 = 3:=by kernel_rfl
  simp [k1,k2] at g0 g1;obtain ⟨xs2,m2,rfl,-,-,hlen2,hf2⟩:=DataW.trod_struct Tryz.underlying32 g1
  match xs2,hlen2 with
  | [z0,z1,z2],_ =>
  have f0:=hf2 0 _ rfl;have f1:=hf2 1 _ rfl;have f2:=hf2 2 _ rfl;have k3:Tryz.prog.cellsOf 9 = 1:=by kernel_rfl
  simp [k1,k3] at f0 f1 f2;obtain ⟨k,e0,_,hk⟩:=DataW.trod_int Tryz.underlying3 g0;obtain ⟨p,e,hp⟩:=pt_of f0 f1 f2;cases e0;refine ⟨⟨k,p⟩,?_,fun d hd=>by rw [List.mem_singleton.1 hd];exact ⟨ziQ hk,hp⟩⟩;rw [show [Value.int .i64 k,c1,c2,c3]=.int .i64 k :: [c1,c2,c3] from rfl,e]
  simp [DoS.cells,Pt.cells]) h
 rw [h3] at h1;exact ⟨v,l,rfl,h1,h4⟩
theorem open_dos {r:Reach} {b0:Nat} {v:Value} {d:DataW H} {p:List MemPlace}
  (hv:Value.okWide Tryz.prog w r b0 27 v) (h:DataW.Trod enc Tryz.prog w base spare held 27 v d p):∃ l,(∀ d ∈ l,DoS.ok d)/\Dos w l v:=by
 obtain ⟨a,len,cap,rfl⟩:=okWide_slice Tryz.underlying27 hv;obtain ⟨fuel,hf⟩:=h;obtain ⟨v',l,e,ho,hs⟩:=open_dl hf;simp [Value.cells] at e;subst e;exact ⟨l,hs,ho⟩
end Go.Proofs.YtdhikpkecmaplaaGreatDoor
