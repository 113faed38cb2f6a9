/- The layer patch: Advance, walked. -/
import Derived.Test.YtdhikpkecmaplaaGreatDoorPtStMk
set_option linter.unusedSimpArgs false
set_option linter.unusedVariables false
set_option maxRecDepth 100000
set_option maxHeartbeats 4000000
namespace Go.Proofs.YtdhikpkecmaplaaGreatDoor
open Go.RowKit

def slLen : Value -> Nat
  | .slice _ n _ => n
  | _ => 0
theorem adv_no {base:Nat->Bool} {R:Int->List UInt8->Bool} {b:Bk} {t:Int} (h:znM base R b=false∨t < 0∨1073741824 < t):zoe base R b t=(none,2):=yP h
theorem zsJ {base:Nat->Bool} {R:Int->List UInt8->Bool} {b:Bk} {t:Int} (h:¬ (znM base R b=false∨t < 0∨1073741824 < t)) (h2:t < b.tick):zoe base R b t=(none,400):=by unfold zoe;rw [yN h,yP h2]
theorem ztB {base:Nat->Bool} {R:Int->List UInt8->Bool} {b:Bk} {t:Int} (h:¬ (znM base R b=false∨t < 0∨1073741824 < t)) (h2:¬ t < b.tick):zoe base R b t=(some (advB t b,upTo t b.pend),0):=by unfold zoe;rw [yN h,yN h2]
theorem zr1 {t:Int} {l:List Pt} {k:Nat} (hk:k<=l.length) (h1:∀ x ∈ l.take k,x.tick<=t) (h2:∀ h:k < l.length,t < l[k].tick):upTo t l=l.take k/\znZ t l=l.drop k:=by
 have e:(upTo t l).length=k:=by
  have:=zqQ (l:=l) (t:=t) (i:=if k < l.length then (k:Int) else -1) (by
   by_cases hlt:k < l.length
   ·rw [yP hlt];refine .inr ⟨k,hlt,rfl,by simpa using h2 hlt,?_⟩;rw [List.any_eq_false];intro x hx;have:=h1 x hx;simpa using this
   ·rw [yN hlt];refine .inl ⟨rfl,?_⟩;rw [List.any_eq_false];intro x hx;have:=h1 x (by rw [List.take_of_length_le (by omega)];exact hx)
    simpa using this)
  by_cases hlt:k < l.length
  ·rw [yP hlt,yN (by omega)] at this;omega
  ·rw [yN hlt,yP (by decide)] at this;omega
 obtain ⟨e1,e2⟩:=zro t l;rw [e] at e1 e2;exact ⟨e1.symm,e2.symm⟩
theorem Pts.drop {w:World} {l:List Pt} {g cap:Nat} (h:Pts w l (.slice (some ⟨g,0,none⟩) l.length cap)) {k:Nat} (hk:k < l.length):Pts w (l.drop k) (.slice (some ⟨g,k * 3,none⟩) (l.length - k) (cap - k)):=by
 obtain ⟨a',cap',e,h2,h3,h4,h5⟩:=h;cases e;have hlen:(l.drop k).length=l.length - k:=List.length_drop;refine ⟨_,cap - k,by rw [hlen],by omega,by omega,znR _,fun hn=>?_⟩;obtain ⟨b,off,eq,hc⟩:=h5 (by omega);cases eq;refine ⟨_,_,rfl,fun j hj=>?_⟩;rw [hlen] at hj;have:=hc (k * 3+j) (by omega);rw [Nat.zero_add] at this;rw [this];have e:znD l=znD (l.take k)++znD (l.drop k):=by rw [<- zox,List.take_append_drop]
 rw [e,List.getElem?_append_right (by rw [znR,List.length_take];omega),znR,List.length_take];congr 1
 omega
theorem ztC (w:World) (B:Nat) (a:Option Addr) (cap:Nat) (hc:cap<=9223372036854775807) (h:∀ g,(Value.slice a 0 cap).ownBlock=some g->B<=g/\∃ cur,w.heap[g]? = some (.cells cur 32 (0,0))):zpG w B [] (.slice a 0 cap):=
 ⟨⟨a,cap,rfl,Nat.zero_le _,hc,rfl,fun hn=>absurd hn (Nat.lt_irrefl 0)⟩,h⟩
theorem zq4 {w:World} {ys:List Sys} {b:Bk} {t:Int} {vs vc vp:Value} (hG:Glob w) (hOk:BkOk ys b) (hB:BkIn w.heap.size w ys b vs vc vp) :
  Calls Tryz.prog 20 #[bkV b vs vc vp,.int .i64 t] w fun e w'=>AdvE w w' ys e (zoe (znI ys) (rOf (errE ys)) b t)/\Below w.heap.size w w':=by
 obtain ⟨ay,cs,rfl,hcs1,hcs2⟩:=hB.sys.form;obtain ⟨ac,cc,rfl,hcc1,hcc2⟩:=hB.scr.form;obtain ⟨ap,cp,rfl,hcp1,hcp2⟩:=hB.pend.form;obtain ⟨W0,hW0,hb0,hX,hU,hs0⟩:=zqb w [.int .i64 b.tick,.slice ay ys.length cs,.slice ac b.scr.length cc,.slice ap b.pend.length cp] [.int .i64 0,.slice none 0 0,.slice none 0 0,.slice none 0 0] 26 26;have hs0a:W0.heap.size<=w.heap.size+2:=by omega
 have hs0b:w.heap.size+2<=W0.heap.size:=by omega
 clear hs0;have HVa:=zh (zri (hG.below hb0 hG.size) hOk ((hB.below hb0).mono (by omega)));have HB0:Hid (BkIn w.heap.size W0 ys b (.slice ay ys.length cs) (.slice ac b.scr.length cc) (.slice ap b.pend.length cp)):=zh (hB.below hb0);unfold bkV at HVa ⊢;obtain ⟨q,hq⟩:∃ q,znM (znI ys) (rOf (errE ys)) b=q:=⟨_,rfl⟩;have Hq:=zh hq;rw [hq] at HVa;obtain ⟨final,hfin⟩:∃ r,zoe (znI ys) (rOf (errE ys)) b t=r:=⟨_,rfl⟩;have Hfin:=zh hfin;rw [hfin];obtain ⟨x0,x1,x2,x3⟩:=yc4 hX;have HX:=zh hX;have HU:=zh hU;have Hb0:=zh hb0;have HW0:=zh hW0;clear hq hfin hG hOk hB hX hU hb0 hW0;go_enter Tryz.func20,Tryz.ntmps20
 go_upto_region 1 with (fail)
 rw [<- HW0.out];go_wp2_with fail
 go_at_call 15;refine HVa.out.mono ?_;rintro e1 w1 ⟨rfl,hb1⟩;have hs1:=hb1.size;have HX1:=zh (HX.out.below hb1 (zr _));have HU1:=zh (HU.out.below hb1 (zr _));have HB1:=zh (HB0.out.below (hb1.mono (by omega)));have Hb1:=zh (Hb0.out.trans (hb1.mono (by omega)));clear hb1 HX HU HB0 HVa x0 x1 x2 x3;obtain ⟨u0,u1,u2,u3⟩:=yc4 HU1.out;have uf:=HU1.out.free;obtain ⟨W9,hW9,hX9,hg9⟩:=set4 HU1.out (.int .i64 0) (.slice none 0 0) (.slice none 0 0) (.slice none 0 0);have HX9:=zh hX9;have HW9:=zh hW9;have Hb9:=zh (Hb1.out.trans (zbz (B:=w.heap.size) hg9 (by omega) (by omega)));clear hX9 hW9 hg9;have x0:=HX1.out.cell (i:=0) rfl;by_cases hbad:q=false∨t < 0∨1073741824 < t
 ·have Hf:Hid (final=(none,2)):=zh (by rw [<- Hfin.out];exact adv_no (by rw [Hq.out];exact hbad))
  have hcs:q=false∨(q=true/\t < 0)∨(q=true/\¬ t < 0/\1073741824 < t):=by
   cases q with
   | false=>exact .inl rfl
   | true =>
    rcases hbad with h | h | h
    ·cases h
    ·exact .inr (.inl ⟨rfl,h⟩)
    ·exact .inr (.inr ⟨rfl,by omega,h⟩)
  clear Hfin Hq hbad;rcases hcs with rfl | ⟨rfl,h1⟩ | ⟨rfl,h1,h2⟩
  all_goals
   go_wp2_with fail
   rw [<- HW9.out];obtain ⟨q0,q1,q2,q3⟩:=yc4 HX9.out;refine yE (v:=.tuple #[zor,.slice none 0 0,.int .i64 2]) (by simp [results,Tryz.results20,go_sem,q0,q1,q2,q3,zor]) rfl ⟨?_,Hb9.out⟩;rw [Hf.out];exact ⟨rfl,by decide⟩
 obtain rfl:q=true:=by cases q with | true=>rfl | false=>exact absurd (.inl rfl) hbad
 have hbad2:=zh hbad;have h1:¬ t < 0:=fun h=>hbad (.inr (.inl h))
 have h2:¬ 1073741824 < t:=fun h=>hbad (.inr (.inr h))
 clear hbad;by_cases hlate:t < b.tick
 ·have Hf:Hid (final=(none,400)):=zh (by rw [<- Hfin.out];exact zsJ (by rw [Hq.out];exact hbad2.out) hlate);clear Hfin Hq hbad2;go_wp2_with fail
  rw [<- HW9.out];obtain ⟨q0,q1,q2,q3⟩:=yc4 HX9.out;refine yE (v:=.tuple #[zor,.slice none 0 0,.int .i64 400]) (by simp [results,Tryz.results20,go_sem,q0,q1,q2,q3,zor]) rfl ⟨?_,Hb9.out⟩;rw [Hf.out];exact ⟨rfl,by decide⟩
 ·have Hf:Hid (final=(some (advB t b,upTo t b.pend),0)):=zh (by rw [<- Hfin.out];exact ztB (by rw [Hq.out];exact hbad2.out) hlate);have HVB:=zh (valid_iff.1 Hq.out);clear Hfin Hq hbad2 u0 u1 u2 u3 uf HX9 HW9 Hb9;have hy16:=zph HVB.out.sys;have hv1:=HVB.out.many;have hv2:=HVB.out.room;have HOw:=zh (zrn HB1.out (by omega) (by omega) (by omega) (by omega));unfold bkV at HOw;have x1:=HX1.out.cell (i:=1) rfl;have x2:=HX1.out.cell (i:=2) rfl;have x3:=HX1.out.cell (i:=3) rfl;go_upto_region 5 with (fail)
  go_wp2_with fail
  go_at_call 55;refine HOw.out.mono ?_;rintro e5 w5 ⟨⟨us,uc,up,rfl,hO5⟩,hb5⟩;obtain ⟨a5,k5,rfl,-,-⟩:=Sl.form (Sl.of_own hO5.sys);obtain ⟨a6,k6,rfl,-,-⟩:=Sl.form (Sl.of_own hO5.scr);obtain ⟨a7,k7,rfl,hk71,hk72⟩:=Sl.form (Sl.of_own hO5.pend);have hs5:=hb5.size;have hbx:=HX1.out.below hb5 (zr _);obtain ⟨b0,b1,b2,b3⟩:=yc4 hbx;have bf:=hbx.free;obtain ⟨W6,hW6,hX6,hg6⟩:=set4 hbx (.int .i64 b.tick) (.slice a5 ys.length k5) (.slice a6 b.scr.length k6) (.slice a7 b.pend.length k7);have ho6:Only (fun k=>k=w.heap.size) w5 W6:=Only.of_grown hg6 (fun r e=>by cases e;rfl);obtain ⟨W7,hW7,hX7,ho7⟩:∃ W7,W7=W6.setCell ⟨w.heap.size,0,none⟩ (.int .i64 t)/\OwnV W7 w.heap.size 26 [.int .i64 t,.slice a5 ys.length k5,.slice a6 b.scr.length k6,.slice a7 b.pend.length k7]/\Only (fun k=>k=w.heap.size) W6 W7:=⟨_,rfl,hX6.set 0 _,(Only.refl (fun k=>k=w.heap.size) W6).setIn rfl _⟩;have ho57:=ho6.trans ho7;have hs6:=ho6.size;have hs7:=ho7.size;have hr1:=ho57.row hO5.sys (fun g hg e=>by have:=(hO5.sys.lt g hg).1;omega);have hr2:=ho57.row hO5.scr (fun g hg e=>by have:=(hO5.scr.lt g hg).1;omega);have hr3:=ho57.row hO5.pend (fun g hg e=>by have:=(hO5.pend.lt g hg).1;omega)
  have HI:Hid (AIn w W7 ys b.scr b.pend t (.slice a5 ys.length k5) (.slice a6 b.scr.length k6) (.slice a7 b.pend.length k7) w.heap.size (w.heap.size+1) w1.heap.size W7.heap.size 0 (.slice a7 (b.pend.length - 0) (k7 - 0)) (.slice none 0 0)):=zh
   ⟨Hb1.out.trans ((hb5.mono (by omega)).trans (ho57.below (B:=w.heap.size) (fun k e=>by omega) (by omega))),hX7,ho57.own (HU1.out.below hb5 (zr _)) (by omega),hr1,hr2,hr3,⟨rfl,.inl ⟨rfl,rfl⟩⟩,fun g e=>(hr1.lt g e).2,fun g e=>(hr2.lt g e).2,fun g e=>(hr3.lt g e).2,zr _⟩
  have HA0:Hid (0 < b.pend.length->∃ g,a7=some ⟨g,0 * 3,none⟩/\(Value.slice a7 b.pend.length k7).ownBlock=some g):=zh (fun hn=>by
   rcases hr3.2 with ⟨-,e⟩ | ⟨g,c,cur,e,-⟩
   ·omega
   ·cases e;exact ⟨g,rfl,rfl⟩)
  have y0:=hX6.cell (i:=0) rfl;have yf:=hX6.free;have HW6:=zh hW6;have HW7:=zh hW7;clear hb5 hbx hO5 hW6 hX6 hg6 ho6 hW7 hX7 ho7 ho57 hr1 hr2 hr3 x0 x1 x2 x3 HOw HB1 HX1 HU1;go_upto_region 6 with (fail)
  rw [<- HW6.out];clear b0 b1 b2 b3 bf;go_upto_region 7 with (fail)
  rw [<- HW7.out];clear y0 yf;go_upto_region 8 with (fail)
  have hb1s:w.heap.size+2<=w1.heap.size:=by omega
  have hB12:w1.heap.size<=W7.heap.size:=by omega
  clear hs0a hs0b hs1 hs5 hs6 hs7;go_loopw [7,8,32,33,34,35,36,37,38,39,40,41,42,43,44,45,46,47,48,49,50,51,52,53,54,55,56,57,58,59,60,61,62,63] (fun t7 _ _ _ _ _ _ _ _ _ _ _ _ _ _ _ _ _ _ _ _ _ _ _ _ _ _ _ _ _ _ _ _ _ wr=>∃ (k:Nat) (ak ao:Option Addr) (ko:Nat),k<=b.pend.length/\t7=.slice ao k ko/\Hid (AIn w wr ys b.scr b.pend t (.slice a5 ys.length k5) (.slice a6 b.scr.length k6) (.slice a7 b.pend.length k7) w.heap.size (w.heap.size+1) w1.heap.size W7.heap.size k (.slice ak (b.pend.length - k) (k7 - k)) (.slice ao k ko))/\Hid (k < b.pend.length->∃ g,ak=some ⟨g,k * 3,none⟩/\(Value.slice a7 b.pend.length k7).ownBlock=some g)/\Hid (∀ x ∈ b.pend.take k,x.tick<=t)/\Hid (∀ g,(Value.slice ak (b.pend.length - k) (k7 - k)).ownBlock=some g->(Value.slice a7 b.pend.length k7).ownBlock=some g)) (fun t7 _ _ _ _ _ _ _ _ _ _ _ _ _ _ _ _ _ _ _ _ _ _ _ _ _ _ _ _ _ _ _ _ _ _=>b.pend.length - slLen t7)
  case atStart=>exact ⟨0,a7,none,0,by omega,rfl,HI,HA0,zh (fun x hx=>by simp at hx),zh (fun g h=>h)⟩
  case round =>
   obtain ⟨k,ak,ao,ko,hk,rfl,HR,HA,HT,HO⟩:=hrel;have x3:=HR.out.box.cell (i:=3) rfl;by_cases hkl:k < b.pend.length
   ·obtain ⟨g,rfl,hg⟩:=HA.out hkl
    obtain rfl:a7=some ⟨g,0,none⟩:=by
     rcases HR.out.row.2 with ⟨-,e⟩ | ⟨g1,c1,cur1,e,-⟩
     ·omega
     ·cases e;cases hg;rfl
    obtain ⟨gb,off,e0,hgw,hcell⟩:=Pts.at (l:=b.pend) (Sl.of_own HR.out.row) (by omega);cases e0;obtain ⟨c0,c1,c2⟩:=hcell k hkl;rw [Nat.zero_add] at c0 c1 c2;have Hdrop:=zh (fun (W:World) (h:W.ownsRow w1.heap.size 32 3 (.slice (some ⟨g,0,none⟩) b.pend.length k7) b.pend.length (znD b.pend))=>Pts.drop (l:=b.pend) (Sl.of_own h) hkl);obtain ⟨N,hN⟩:∃ N,b.pend.length - k=N:=⟨_,rfl⟩;obtain ⟨C,hC⟩:∃ C,k7 - k=C:=⟨_,rfl⟩;have hN1:0 < N:=by omega
    have hNC:N<=C:=by omega
    rw [hN,hC] at HR x3 Hdrop;have HNe:=zh hN;have HCe:=zh hC;have hN2:(0:Int) < (N:Int):=by omega
    obtain ⟨x,hx⟩:∃ x,b.pend[k]=x:=⟨_,rfl⟩;rw [hx] at c0 c1 c2;have Hx:=zh hx;obtain ⟨xt,xs,xsrc⟩:=x;simp only at c0 c1 c2;clear hx hN hC hcell;by_cases hle:xt<=t
    ·obtain ⟨hS0,hS1,-⟩:0<=xs/\xs < (b.scr.length:Int)/\True:=by
      obtain ⟨_,_,q3,q4,_,_⟩:=HVB.out.pend.1 _ (List.getElem_mem hkl);rw [Hx.out] at q3 q4;exact ⟨q3,q4,trivial⟩
     obtain ⟨gs,rfl⟩:∃ gs,a6=some ⟨gs,0,none⟩:=by
      rcases HR.out.scr.2 with ⟨-,e⟩ | ⟨g1,c1,cur1,e,-⟩
      ·omega
      ·cases e;exact ⟨g1,rfl⟩
     obtain ⟨W5,hW5,hb5,hX5,hs5⟩:=box1 wr [.int .i64 xt,.int .i64 xs,.string (bstr xsrc)] 32;have h5:=HR.out.alloc hb5;obtain ⟨W6,hW6,hs6⟩:∃ W6,W6=W5.setCell ⟨gs,xs.toNat,none⟩ (.string (bstr xsrc))/\W6.heap.size=W5.heap.size:=⟨_,rfl,by simp⟩;have hgs:=h5.scr.lt gs rfl;have ho56:Only (fun k=>k=gs) W5 W6:=by rw [hW6];exact (Only.refl (fun k=>k=gs) W5).setIn rfl _
     have hbx6:=ho56.own h5.box (by omega);have hX6:=ho56.own hX5 (by have:=h5.l2 gs rfl;have:=HR.out.b2;omega)
     obtain ⟨pv',hpv,hpvs⟩:∃ pv':Option Addr,(if C=1 then (.slice (some ⟨g,k * 3,none⟩) (N - 1) (C - 1):Value) else .slice (some ⟨g,k * 3+3,none⟩) (N - 1) (C - 1))=.slice pv' (N - 1) (C - 1)/\(1 < N->pv'=some ⟨g,(k+1) * 3,none⟩)/\(∀ g',(Value.slice pv' (N - 1) (C - 1)).ownBlock=some g'->g'=g):=by
      by_cases hc1:C=1
      ·exact ⟨some ⟨g,k * 3,none⟩,yP hc1,fun h=>by omega,fun g' e=>by cases e;rfl⟩
      ·exact ⟨some ⟨g,k * 3+3,none⟩,yN hc1,fun h=>by rw [Nat.succ_mul],fun g' e=>by cases e;rfl⟩
     obtain ⟨W7b,hW7b,hs7b⟩:∃ W7b,W7b=W6.setCell ⟨w.heap.size,3,none⟩ (.slice pv' (N - 1) (C - 1))/\W7b.heap.size=W6.heap.size:=⟨_,rfl,by simp⟩;have ho67:Only (fun k=>k=w.heap.size) W6 W7b:=by rw [hW7b];exact (Only.refl (fun k=>k=w.heap.size) W6).setIn rfl _
     have hX7:=ho67.own hX6 (by have:=HR.out.below.size;omega);have hout7:W7b.ownsRow W7.heap.size 32 3 (.slice ao k ko) k (znD (b.pend.take k)):=ho67.row (ho56.row h5.out (fun g hg e=>by have:=(h5.out.lt g hg).1;have:=h5.l2 gs rfl;omega)) (fun g hg e=>by have:=(h5.out.lt g hg).1;omega);have xb2:=h5.box.cell (i:=2) rfl;have xp1:=hX5.cell (i:=1) rfl;have xp2:=hX5.cell (i:=2) rfl
     have hcs:W5.cell? ⟨gs,xs.toNat,none⟩=some (.string (bstr ((zn4 b.scr (b.pend.take k)).getD xs.toNat []))):=by
      obtain ⟨b9,o9,e9,h9⟩:=Sl.at (by omega) (Sl.of_own h5.scr) (by omega);cases e9;have:=h9.2 xs.toNat (by omega);rw [Nat.zero_add] at this;rw [this,List.getElem?_map,List.getD_eq_getElem?_getD,yD (by rw [zpz];omega)];rfl
     have hfs:=zrx h5.scr xs.toNat;have xb3:=hbx6.cell (i:=3) rfl;have xbf:=hbx6.free;have HW5:=zh hW5;have HW6b:=zh hW6;have HW7b:=zh hW7b;have HX7:=zh hX7;have Hout7:=zh hout7;have H5:=zh h5;have Hs7:Hid (W7.heap.size<=W7b.heap.size):=zh (by have:=h5.b2;omega);have Hpvs:=zh (And.intro (fun h:1 < N=>hpvs.1 h) hpvs.2);clear hW5 hb5 hX5 hs5 h5 hW6 hs6 ho56 hbx6 hX6 hW7b hs7b ho67 hX7 hout7 hpvs hgs;go_upto_region 10 with (fail)
     rw [<- HW5.out];clear x3 c0 c1 c2;go_upto_region 11 with (fail)
     rw [<- HW6b.out];clear xb2 xp1 hcs hfs;by_cases hc1:C=1
     case' pos =>
      rw [yP hc1] at hpv;rw [show C - 1=0 by omega] at hpv HW7b Hpvs
     case' neg=>rw [yN hc1] at hpv
     all_goals
      cases hpv;go_upto_region 12 with (fail)
      rw [<- HW7b.out];clear xb3 xbf xp2;obtain ⟨z0,z1,z2⟩:=yc3 HX7.out;go_wp2_with (at_builtin;refine zbm rfl (.tmp 60) (.tmp 62) 24 rfl Hout7.out zpt Tryz.underlying24 rfl (by decide) rfl 1 1 rfl rfl rfl (by unfold maxLen;omega) (by omega) Hs7.out ?_;intro v9 w9 ho9 hg9 hb9;obtain ⟨a9,k9,rfl,-,-⟩:=Sl.form (Sl.of_own ho9);have Ho9:=zh ho9;have Hg9:=zh hg9;have Hb9:=zh hb9;clear ho9 hg9 hb9)
      have hstep:=AIn.step H5.out hkl (by omega) (by omega) (by omega) hB12 (by omega) (zr _) (by rw [Hx.out];exact hS0) (by rw [Hx.out];exact hS1) _ (by rw [HW7b.out,HW6b.out,Hx.out]) (by rw [Hx.out];exact Ho9.out) Hg9.out Hb9.out;have hNk:b.pend.length - (k+1)=N - 1:=by have:=HNe.out;omega
      have hCk:k7 - (k+1)=C - 1:=by have:=HCe.out;omega
      have Hstep:=zh hstep
      have Htk:Hid (∀ x ∈ b.pend.take (k+1),x.tick<=t):=zh (fun x hx=>by
       rw [List.take_succ_eq_append_getElem hkl] at hx;rcases List.mem_append.1 hx with hx | hx
       ·exact HT.out x hx
       ·obtain rfl:x=b.pend[k]:=by simpa using hx
        rw [Hx.out];exact hle)
      have HNk:=zh hNk;have HCk:=zh hCk;have Hg7:Hid ((Value.slice (some ⟨g,0,none⟩) b.pend.length k7).ownBlock=some g):=zh rfl;clear hstep hNk hCk z0 z1 z2;go_roundw
      case rel=>exact ⟨k+1,_,a9,k9,by omega,rfl,by rw [HNk.out,HCk.out];first | exact Hstep | (rw [show C - 1=0 by omega];exact Hstep),zh (fun h=>⟨g,Hpvs.out.1 (by have:=HNe.out;omega),Hg7.out⟩),Htk,zh (fun g' e=>by rw [HNk.out,HCk.out] at e;rw [Hpvs.out.2 g' (by first | exact e | (rw [show C - 1=0 by omega] at e;exact e))];exact Hg7.out)⟩
      case measure=>simp [slLen];omega
    ·have hb9:upTo t b.pend=b.pend.take k/\znZ t b.pend=b.pend.drop k:=zr1 (by omega) HT.out (fun h=>by rw [Hx.out];show t < xt;omega);obtain ⟨b0,b1,b2,b3⟩:=yc4 HR.out.box;have hres:=HR.out.res;obtain ⟨u0,u1,u2,u3⟩:=yc4 hres;have uf:=hres.free;obtain ⟨W10,hW10,hX10,hg10⟩:=set4 hres (.int .i64 t) (.slice a5 ys.length k5) (.slice a6 b.scr.length k6) (.slice (some ⟨g,k * 3,none⟩) (N) (C));have ho10:Only (fun k=>k=w.heap.size+1) wr W10:=Only.of_grown hg10 (fun r e=>by cases e;rfl);have hbw:=HR.out.below.size;have Hb10:=zh (HR.out.below.trans (ho10.below (B:=w.heap.size) (fun k e=>by omega) (by omega)));have Hr1:=zh (znE (ho10.row HR.out.sys (fun g hg e=>by have:=(HR.out.sys.lt g hg).1;omega)) (B':=w.heap.size) (by omega));have hr2:=znE (ho10.row HR.out.scr (fun g hg e=>by have:=(HR.out.scr.lt g hg).1;omega)) (B':=w.heap.size) (by omega);have hr3:=ho10.row HR.out.row (fun g hg e=>by have:=(HR.out.row.lt g hg).1;omega);have hr4:=znE (ho10.row HR.out.out (fun g hg e=>by have:=(HR.out.out.lt g hg).1;omega)) (B':=w.heap.size) (by omega);obtain ⟨e1,e2⟩:=hb9
     have Hs2:Hid (zpG W10 w.heap.size (znZ t b.pend) (.slice (some ⟨g,k * 3,none⟩) (N) (C))):=zh (by
      rw [e2];refine ⟨Hdrop.out _ hr3,fun g2 e3=>?_⟩;cases e3;rcases hr3.2 with ⟨e4,-⟩ | ⟨g1,c1,cur1,e4,h5,h6,-⟩
      ·cases e4
      ·have e6:g1=g:=by cases e4;rfl
       subst e6
       exact ⟨(show w.heap.size<=g1 by omega),cur1,h6⟩)
     have Hr2:Hid (W10.ownsRow w.heap.size 9 1 (.slice a6 b.scr.length k6) (zn4 b.scr (upTo t b.pend)).length ((zn4 b.scr (upTo t b.pend)).map fun s=>Value.string (bstr s))):=zh (by
      rw [zpz,e1]
      exact hr2)
     have Hr4:Hid (W10.ownsRow w.heap.size 32 3 (.slice ao k ko) (upTo t b.pend).length (znD (upTo t b.pend))):=zh (by
      rw [e1,show (b.pend.take k).length=k by rw [List.length_take];omega]
      exact hr4)
     have HX10:=zh hX10;have HW10:=zh hW10;clear hW10 hX10 hg10 ho10 hr2 hr3 hr4 hres HR HT HO HA e1 e2 HI HA0 HW6 HW7 HW0;go_wp2_with fail
     rw [<- HW10.out];obtain ⟨q0,q1,q2,q3⟩:=yc4 HX10.out;refine yE (v:=.tuple #[.agg #[.int .i64 t,.slice a5 ys.length k5,.slice a6 b.scr.length k6,.slice (some ⟨g,k * 3,none⟩) (N) (C)],.slice ao k ko,.int .i64 0]) (by simp [results,Tryz.results20,go_sem,q0,q1,q2,q3]) rfl ⟨?_,Hb10.out⟩;rw [Hf.out];refine ⟨.slice a5 ys.length k5,.slice a6 b.scr.length k6,.slice (some ⟨g,k * 3,none⟩) (N) (C),.slice ao k ko,rfl,Hr1.out,Hr2.out,Hs2.out,Hr4.out⟩
   ·obtain rfl:k=b.pend.length:=by omega
    have hN2:¬ (0:Int) < ((b.pend.length - b.pend.length:Nat):Int):=by omega
    rw [Nat.sub_self] at HR x3 HO;have hk7:k7 - b.pend.length<=9223372036854775807:=by omega
    generalize k7 - b.pend.length=C at HR x3 HO hk7;obtain ⟨b0,b1,b2,b3⟩:=yc4 HR.out.box;have hres:=HR.out.res;obtain ⟨u0,u1,u2,u3⟩:=yc4 hres;have uf:=hres.free;obtain ⟨W10,hW10,hX10,hg10⟩:=set4 hres (.int .i64 t) (.slice a5 ys.length k5) (.slice a6 b.scr.length k6) (.slice ak (0) (C));have ho10:Only (fun k=>k=w.heap.size+1) wr W10:=Only.of_grown hg10 (fun r e=>by cases e;rfl);have hbw:=HR.out.below.size;have Hb10:=zh (HR.out.below.trans (ho10.below (B:=w.heap.size) (fun k e=>by omega) (by omega)));have Hr1:=zh (znE (ho10.row HR.out.sys (fun g hg e=>by have:=(HR.out.sys.lt g hg).1;omega)) (B':=w.heap.size) (by omega));have hr2:=znE (ho10.row HR.out.scr (fun g hg e=>by have:=(HR.out.scr.lt g hg).1;omega)) (B':=w.heap.size) (by omega);have hr3:=ho10.row HR.out.row (fun g hg e=>by have:=(HR.out.row.lt g hg).1;omega);have hr4:=znE (ho10.row HR.out.out (fun g hg e=>by have:=(HR.out.out.lt g hg).1;omega)) (B':=w.heap.size) (by omega);obtain ⟨e1,e2⟩:=(zr1 (zr _) HT.out (fun h=>absurd h (Nat.lt_irrefl _)):upTo t b.pend=b.pend.take b.pend.length/\znZ t b.pend=b.pend.drop b.pend.length)
    have Hs2:Hid (zpG W10 w.heap.size (znZ t b.pend) (.slice ak (0) (C))):=zh (by
     rw [e2];rw [List.drop_length];refine ztC W10 _ ak C hk7 fun g2 e3=>?_
     have e5:=HO.out g2 e3;rcases hr3.2 with ⟨e4,-⟩ | ⟨g1,c1,cur1,e4,h5,h6,-⟩
     ·rw [e4] at e5;cases e5
     ·rw [e4] at e5;have e6:g1=g2:=by simpa [Value.ownBlock] using e5
      subst e6
      exact ⟨(show w.heap.size<=g1 by omega),cur1,h6⟩)
    have Hr2:Hid (W10.ownsRow w.heap.size 9 1 (.slice a6 b.scr.length k6) (zn4 b.scr (upTo t b.pend)).length ((zn4 b.scr (upTo t b.pend)).map fun s=>Value.string (bstr s))):=zh (by
     rw [zpz,e1]
     exact hr2)
    have Hr4:Hid (W10.ownsRow w.heap.size 32 3 (.slice ao b.pend.length ko) (upTo t b.pend).length (znD (upTo t b.pend))):=zh (by
     rw [e1,show (b.pend.take b.pend.length).length=b.pend.length by rw [List.length_take];omega]
     exact hr4)
    have HX10:=zh hX10;have HW10:=zh hW10;clear hW10 hX10 hg10 ho10 hr2 hr3 hr4 hres HR HT HO HA e1 e2 HI HA0 HW6 HW7 HW0;go_wp2_with fail
    rw [<- HW10.out];obtain ⟨q0,q1,q2,q3⟩:=yc4 HX10.out;refine yE (v:=.tuple #[.agg #[.int .i64 t,.slice a5 ys.length k5,.slice a6 b.scr.length k6,.slice ak (0) (C)],.slice ao b.pend.length ko,.int .i64 0]) (by simp [results,Tryz.results20,go_sem,q0,q1,q2,q3]) rfl ⟨?_,Hb10.out⟩;rw [Hf.out];refine ⟨.slice a5 ys.length k5,.slice a6 b.scr.length k6,.slice ak (0) (C),.slice ao b.pend.length ko,rfl,Hr1.out,Hr2.out,Hs2.out,Hr4.out⟩
end Go.Proofs.YtdhikpkecmaplaaGreatDoor
