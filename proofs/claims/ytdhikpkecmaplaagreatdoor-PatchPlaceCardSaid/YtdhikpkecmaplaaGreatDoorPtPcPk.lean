/- The statement PatchPlace, walked. -/
import Derived.Test.YtdhikpkecmaplaaGreatDoorAwSMk
import Derived.Test.YtdhikpkecmaplaaGreatDoorPlaceMPk
import Derived.Test.YtdhikpkecmaplaaGreatDoorPtSmPk
import Derived.Test.YtdhikpkecmaplaaGreatDoorPtWdPk
set_option linter.unusedSimpArgs false
set_option linter.unusedVariables false
set_option maxRecDepth 100000
set_option maxHeartbeats 3000000
namespace Go.Proofs.YtdhikpkecmaplaaGreatDoor
open Go.RowKit

theorem put_before {p:Pt} {l:List Pt} {k:Nat} (h:k < (upTo p.tick l).length) (h2:k < (zok p l).length):(zok p l)[k] ∈ l/\(zok p l)[k].tick<=p.tick:=by
 have hu:(upTo p.tick l).Sublist l:=List.takeWhile_sublist _;have e:(zok p l)[k]=(upTo p.tick l)[k]:=List.getElem_append_left h;rw [e];exact ⟨hu.subset (List.getElem_mem h),up_le (List.getElem_mem h)⟩
theorem put_self {p:Pt} {l:List Pt} (h2:(upTo p.tick l).length < (zok p l).length):(zok p l)[(upTo p.tick l).length]=p:=by
 have:=put_at (p:=p) (l:=l);rw [List.getElem?_eq_getElem h2] at this;exact Option.some.inj this
theorem put_after {p:Pt} {l:List Pt} (hp:l.Pairwise fun x y=>x.tick<=y.tick/\x.same y=false) (h2:(upTo p.tick l).length+1 < (zok p l).length):p.tick < (zok p l)[(upTo p.tick l).length+1].tick:=by
 refine zrR hp _ ?_;have h3:=zrk p l;have h4:=congrArg List.length (zpZ p.tick l);rw [List.length_append] at h4;have h5:0 < (znZ p.tick l).length:=by omega
 have e:(zok p l)[(upTo p.tick l).length+1]=(znZ p.tick l)[0]:=by
  refine (List.getElem_append_right (Nat.le_succ _)).trans ?_;simp
 rw [e];exact List.getElem_mem h5
theorem press_pos (s:List UInt8) (q:Bool):(cond q (znC s).line 0=0/\cond q (znC s).col 0=0)∨(0 < cond q (znC s).line 0/\0 < cond q (znC s).col 0):=by
 cases q with
 | false=>exact .inl ⟨rfl,rfl⟩
 | true =>
  cases hp:zbg s with
  | err a b c=>rw [zpI hp];exact parse_place hp
  | ok l =>
   cases hc:zol l with
   | err k=>rw [zpW hp hc];exact .inl ⟨rfl,rfl⟩
   | ok P=>rw [zpX hp hc];exact .inl ⟨rfl,rfl⟩
theorem sl_nil (w:World) (sz:Nat):Sl w sz 0 [] (.slice none 0 0):=⟨none,0,rfl,zr _,by decide,(Nat.zero_mul _).symm,fun hn=>absurd hn (Nat.lt_irrefl 0)⟩
theorem zero_in (w:World) (B:Nat):BkIn B w [] ⟨0,[],[]⟩ (.slice none 0 0) (.slice none 0 0) (.slice none 0 0):=⟨sl_nil w 4,sl_nil w 1,sl_nil w 3,.inl rfl,.inl rfl,.inl rfl⟩
theorem same_zero (w:World):Calls Tryz.prog 21 #[zor,zor] w (zbe true w):=by
 have h:=sameBk_any (b:=⟨0,[],[]⟩) (zero_in w 0) (zero_in w 0);unfold bkV at h;exact h
theorem patchPlace_any {w:World} {ys:List Sys} {b:Bk} {p:Pt} {vs vc vp:Value} (hG:Glob w) (hOk:BkOk ys b) (hB:BkIn w.heap.size w ys b vs vc vp) (hp:okI p.tick/\okI p.slot/\p.src.length<=9223372036854775807):Calls Tryz.prog 9 #[bkV b vs vc vp,p.val] w (zbe true w):=by
 obtain ⟨ay,cy,rfl,-,-⟩:=hB.sys.form;obtain ⟨ac,cc,rfl,-,-⟩:=hB.scr.form;obtain ⟨ap,cp,rfl,-,-⟩:=hB.pend.form;obtain ⟨hp1,hp2,hp3⟩:=hp;have Hp1:=zh hp1;have Hp2:=zh hp2;have HG:Hid (∀ W,Below w.heap.size w W->Glob W):=zh (fun W hb=>hG.below hb hG.size);have HB:Hid (∀ W,Below w.heap.size w W->BkIn W.heap.size W ys b (.slice ay ys.length cy) (.slice ac b.scr.length cc) (.slice ap b.pend.length cp)):=zh (fun W hb=>(hB.below hb).mono hb.size);have Hok:=zh hOk;have Hp3:=zh hp3;have HSm:Hid (∀ W,Below w.heap.size w W->Calls Tryz.prog 14 #[.agg #[.int .i64 b.tick,.slice ay ys.length cy,.slice ac b.scr.length cc,.slice ap b.pend.length cp]] W fun e w'=>SmallE ys.length b.scr.length b.pend.length e/\Below W.heap.size W w'):=zh (fun W hb=>small_any (zr _) (HB.out W hb) hOk);have HVl:Hid (∀ W,Below w.heap.size w W->Calls Tryz.prog 15 #[.agg #[.int .i64 b.tick,.slice ay ys.length cy,.slice ac b.scr.length cc,.slice ap b.pend.length cp]] W (zbe (znM (znI ys) (rOf (errE ys)) b) W)):=zh (fun W hb=>zri (HG.out W hb) hOk (HB.out W hb));have HSz:Hid ((bstr p.src).size=p.src.length):=zh (zcQ _);have hsz1:((bstr p.src).size:Int)<=9223372036854775807:=by rw [HSz.out];omega
 obtain ⟨W0,hW0,hb0,hX,hY,hs0⟩:=zqb w [.int .i64 b.tick,.slice ay ys.length cy,.slice ac b.scr.length cc,.slice ap b.pend.length cp] [.int .i64 p.tick,.int .i64 p.slot,.string (bstr p.src)] 26 32;have HAw:=zh (zqE (HG.out W0 hb0));have HW0:=zh hW0;have HX:=zh hX;have HY:=zh hY;have Hb0:=zh hb0;unfold bkV Pt.val;clear hG hOk hB hW0 hX hY hb0 hs0 hp3;go_enter Tryz.func9,Tryz.ntmps9
 go_upto_region 1 with (fail)
 rw [<- HW0.out];go_wp2_with fail
 go_at_call 13;refine HAw.out.mono ?_;rintro e1 w1 ⟨rfl,hb⟩;have Hb1:=zh (Hb0.out.trans (hb.mono Hb0.out.size));have HX:=zh (HX.out.below hb (zr _));have HY:=zh (HY.out.below hb (zr _));clear hb Hb0;obtain ⟨x0,x1,x2,x3⟩:=yc4 HX.out;obtain ⟨y0,y1,y2⟩:=yc3 HY.out;go_wp2_with fail
 refine (HSm.out _ Hb1.out).mono ?_;rintro e2 w2 ⟨⟨q,rfl,hq⟩,hb⟩;have Hb2:=zh (Hb1.out.trans (hb.mono Hb1.out.size));have HX:=zh (HX.out.below hb (zr _));have HY:=zh (HY.out.below hb (zr _));clear hb Hb1 x0 x1 x2 x3 y0 y1 y2;obtain ⟨x0,x1,x2,x3⟩:=yc4 HX.out;obtain ⟨y0,y1,y2⟩:=yc3 HY.out
 cases q with
 | false =>
  go_wp2_with fail
  go_ret
  exact ⟨rfl,Hb2.out⟩
 | true =>
 obtain ⟨hq1,hq2,hq3⟩:=hq rfl;clear hq;by_cases hlong:((bstr p.src).size:Int) > 1000
 ·go_wp2_with fail
  go_ret;exact ⟨rfl,Hb2.out⟩
 go_wp2_with fail
 refine (HVl.out _ Hb2.out).mono ?_;rintro e3 w3 ⟨rfl,hb⟩;have Hb3:=zh (Hb2.out.trans (hb.mono Hb2.out.size));have HX:=zh (HX.out.below hb (zr _));have HY:=zh (HY.out.below hb (zr _));clear hb Hb2 x0 x1 x2 x3 y0 y1 y2;obtain ⟨x0,x1,x2,x3⟩:=yc4 HX.out;obtain ⟨y0,y1,y2⟩:=yc3 HY.out;obtain ⟨q,hq⟩:∃ q,znM (znI ys) (rOf (errE ys)) b=q:=⟨_,rfl⟩;rw [hq]
 cases q with
 | false =>
  go_wp2_with fail
  go_ret
  exact ⟨rfl,Hb3.out⟩
 | true =>
 have HV:=zh hq;clear hq;have HX0lt3:w.heap.size+2<=w3.heap.size:=by have:=HY.out.lt;omega
 obtain ⟨⟨r,q,x⟩,hr⟩:∃ r,znO (znI ys) (errE ys) b p=r:=⟨_,rfl⟩;have HSb:=zh (zpw (HG.out _ Hb3.out) Hok.out Hp3.out (HB.out _ Hb3.out));rw [hr] at HSb;unfold bkV Pt.val at HSb;have HR:=zh hr;clear hr
 cases r with
 | none =>
  go_wp2_with fail
  go_at_call 18;refine HSb.out.mono ?_;rintro e4 w4 ⟨⟨rfl,hx⟩,hb⟩;have hLC:=press_pos p.src q
  generalize cond q (znC p.src).line 0=L at *
  generalize cond q (znC p.src).col 0=C at *
  obtain ⟨W4,hW,hb2,hU,hP,hs⟩:=zqb w4 [.int .i64 0,.slice none 0 0,.slice none 0 0,.slice none 0 0] [.int .i64 L,.int .i64 C] 26 38;have HW4:=zh hW;have Hb4:=zh ((Hb3.out.trans (hb.mono Hb3.out.size)).trans (hb2.mono (Nat.le_trans Hb3.out.size hb.size)));have HU:=zh hU;have HP:=zh hP;have hxb:(x != 0)=true:=by simpa using hx
  have HLC:=zh hLC;clear hW hb hb2 hU hP hs x0 x1 x2 x3 y0 y1 y2 Hb3 HSb HR hx hLC HX HY;unfold zor;go_upto_region 6 with (fail)
  rw [<- HW4.out];obtain ⟨u0,u1,u2,u3⟩:=yc4 HU.out;have HS0:=zh (fun W=>same_zero W);unfold zor at HS0;go_wp2_with fail
  go_at_call 21;refine (HS0.out _).mono ?_;rintro e5 w5 ⟨rfl,hb⟩;have Hb5:=zh (Hb4.out.trans (hb.mono Hb4.out.size));obtain ⟨p0,p1⟩:=yc2 (HP.out.below hb (zr _));clear hb u0 u1 u2 u3 HS0;rcases HLC.out with ⟨rfl,rfl⟩ | ⟨hL,hC⟩
  ·go_wp2_with fail
   go_ret;exact ⟨rfl,Hb5.out⟩
  ·have hL0:¬ L=0:=by omega
   have hL1:L > 0:=hL;have hC1:C > 0:=hC;go_wp2_with fail
   go_ret
   exact ⟨by first | rfl | simp,Hb5.out⟩
 | some c =>
 obtain rfl:x=0:=by
  have:=HR.out;unfold znO at this;split at this
  ·cases this
  ·split at this
   ·cases this
   ·split at this
    ·cases this
    ·split at this
     ·cases this
     ·split at this
      ·cases this
      ·split at this
       ·cases this
       ·cases this;rfl
 obtain ⟨hvb,hvc,hcb,hno,-,-,-,-,-⟩:=zqF HR.out;obtain ⟨hl1,hl2,hl3,hl4⟩:=place_law HR.out
 have hokc:BkOk ys c:=by
  subst hcb;refine ⟨Hok.out.sys,Hok.out.tick,Hok.out.scr,fun z hz=>?_⟩;rcases mem_put.1 hz with rfl | hz
  ·exact ⟨Hp1.out,Hp2.out,Hp3.out⟩
  ·exact Hok.out.pend z hz
 have hcl:c.pend=zok p b.pend:=by rw [hcb]
 have hct:c.tick=b.tick:=by rw [hcb]
 have HSb2:Hid (∀ W us uc up,Below w.heap.size w W->BkIn W.heap.size W ys c us uc up->_):=zh (fun W us uc up (hb:Below w.heap.size w W) (h:BkIn W.heap.size W ys c us uc up)=>zpw (HG.out W hb) hokc Hp3.out h);rw [hl1] at HSb2;have HWd1:Hid (∀ W us uc up,Below w.heap.size w W->BkIn W.heap.size W ys c us uc up->_):=zh (fun W us uc up (hb:Below w.heap.size w W) (h:BkIn W.heap.size W ys c us uc up)=>withdraw_any (p:=p) (HG.out W hb) hokc h);rw [hl2] at HWd1;have HWd2:Hid (∀ W us uc up,Below w.heap.size w W->BkIn W.heap.size W ys b us uc up->_):=zh (fun W us uc up (hb:Below w.heap.size w W) (h:BkIn W.heap.size W ys b us uc up)=>withdraw_any (p:=p) (HG.out W hb) Hok.out h);rw [hl3] at HWd2;have HSame:=zh (fun W us uc up (hb:Below w.heap.size w W) (h:BkIn W.heap.size W ys b us uc up)=>sameBk_any h (HB.out W hb));unfold bkV Pt.val at HSb2;unfold bkV at HWd1 HWd2 HSame;have Hno:=zh hno;have Hpw:=zh hvb.pend.2;have Hcl:=zh hcl;have Hlen:=zh hl4;have hroom:=hvc.room;rw [hct] at HSb2 HWd1;clear hvb hvc hcb hno hl1 hl2 hl3 hl4 hokc hcl;go_wp2_with fail
 go_at_call 18;refine HSb.out.mono ?_;rintro e4 w4 ⟨hE,hb⟩;obtain ⟨us,uc,up,he,hO⟩:=hE;unfold bkV at he;rw [hct] at he;subst he;clear hct;obtain ⟨a1,k1,rfl,-,-⟩:=Sl.form (Sl.of_own hO.sys);obtain ⟨a2,k2,rfl,-,-⟩:=Sl.form (Sl.of_own hO.scr);obtain ⟨a3,k3,rfl,-,-⟩:=Sl.form (Sl.of_own hO.pend);have hN:=hO.bk;obtain ⟨W4,hW,hb2,hU,hP,hs⟩:=zqb w4 [.int .i64 b.tick,.slice a1 ys.length k1,.slice a2 c.scr.length k2,.slice a3 c.pend.length k3] [.int .i64 0,.int .i64 0] 26 38;have HW4:=zh hW;have Hb4:=zh ((Hb3.out.trans (hb.mono Hb3.out.size)).trans (hb2.mono (Nat.le_trans Hb3.out.size hb.size)));have HX:=zh ((HX.out.below hb (zr _)).below hb2 (zr _));have HY:=zh ((HY.out.below hb (zr _)).below hb2 (zr _));have HU:=zh hU;have HP:=zh hP;have HN:Hid (∀ W,Below W4.heap.size W4 W->BkIn W.heap.size W ys c (.slice a1 ys.length k1) (.slice a2 c.scr.length k2) (.slice a3 c.pend.length k3)):=zh (fun W h=>(((hN.below hb2).mono hb2.size).below h).mono h.size);have hs4:w4.heap.size+2<=W4.heap.size:=by omega
 have hlt4:w.heap.size+2<=w4.heap.size:=by have:=hb.size;have:=HX0lt3;omega
 clear hW hb hb2 hU hP hs x0 x1 x2 x3 y0 y1 y2 Hb3 HSb HR hO hN;go_upto_region 6 with (fail)
 rw [<- HW4.out];obtain ⟨u0,u1,u2,u3⟩:=yc4 HU.out;obtain ⟨y0,y1,y2⟩:=yc3 HY.out;have hS5:=HSb2.out W4 _ _ _ Hb4.out (HN.out _ (Below.refl _ _));go_wp2_with fail
 go_at_call 18;refine hS5.mono ?_;rintro e5 w5 ⟨⟨rfl,-⟩,hb⟩;clear hS5;unfold zor;simp only [cond_false];obtain ⟨W5,hW,hb2,-,-,hs⟩:=zqb w5 [.int .i64 0,.slice none 0 0,.slice none 0 0,.slice none 0 0] [.int .i64 0,.int .i64 0] 26 38;have HW5:=zh hW;have hb45:Below W4.heap.size W4 W5:=hb.trans (hb2.mono hb.size);have Hb45:=zh hb45;have Hb5:=zh (Hb4.out.trans (hb45.mono Hb4.out.size));have u0:=Below.keep hb45 u0;have u1:=Below.keep hb45 u1;have u2:=Below.keep hb45 u2;have u3:=Below.keep hb45 u3;have y0:=Below.keep hb45 y0;have y1:=Below.keep hb45 y1;have hS6:=HWd1.out W5 _ _ _ Hb5.out (HN.out _ hb45);clear hW hb hb2 hs y2 HSb2 hb45;go_upto_region 9 with (fail)
 rw [<- HW5.out];go_wp2_with fail
 go_at_call 19;refine hS6.mono ?_;rintro e6 w6 ⟨⟨vs,vc,vp,rfl,hO⟩,hb⟩;unfold bkV;clear hS6;obtain ⟨b1,m1,rfl,-,-⟩:=Sl.form (Sl.of_own hO.sys);obtain ⟨b2,m2,rfl,-,-⟩:=Sl.form (Sl.of_own hO.scr);obtain ⟨b3,m3,rfl,-,-⟩:=Sl.form (Sl.of_own hO.pend);have hN:=hO.bk;obtain ⟨W6,hW,hb2,hV,hs⟩:=box1 w6 [.int .i64 b.tick,.slice b1 ys.length m1,.slice b2 b.scr.length m2,.slice b3 b.pend.length m3] 26;have HW6:=zh hW;have hb56:Below W5.heap.size W5 W6:=hb.trans (hb2.mono hb.size);have hb46:Below W4.heap.size W4 W6:=Hb45.out.trans (hb56.mono Hb45.out.size);have Hb46:=zh hb46;have Hb6:=zh (Hb4.out.trans (hb46.mono Hb4.out.size));have HV:=zh hV;have HM:Hid (∀ W,Below W6.heap.size W6 W->BkIn W.heap.size W ys b (.slice b1 ys.length m1) (.slice b2 b.scr.length m2) (.slice b3 b.pend.length m3)):=zh (fun W h=>(((hN.below hb2).mono hb2.size).below h).mono h.size);have y0:=Below.keep hb56 y0;have y1:=Below.keep hb56 y1;obtain ⟨v0,v1,v2,v3⟩:=yc4 hV;have hS7:=HWd2.out W6 _ _ _ Hb6.out (HM.out _ (Below.refl _ _));clear hW hb hb2 hs u0 u1 u2 u3 hV hN hO HWd1 hb56 hb46;go_upto_region 10 with (fail)
 rw [<- HW6.out];go_wp2_with fail
 go_at_call 19;refine hS7.mono ?_;rintro e7 w7 ⟨⟨rfl,-⟩,hb⟩;clear hS7;unfold zor;obtain ⟨W7,hW,hb2,-,hs⟩:=box1 w7 [.int .i64 0,.slice none 0 0,.slice none 0 0,.slice none 0 0] 26;have HW7:=zh hW;have hb67:Below W6.heap.size W6 W7:=hb.trans (hb2.mono hb.size);have Hb67:=zh hb67;have hb47:Below W4.heap.size W4 W7:=Hb46.out.trans (hb67.mono Hb46.out.size);have Hb47:=zh hb47;have Hb7:=zh (Hb4.out.trans (hb47.mono Hb4.out.size));have v0:=Below.keep hb67 v0;have v1:=Below.keep hb67 v1;have v2:=Below.keep hb67 v2;have v3:=Below.keep hb67 v3;obtain ⟨p0,p1⟩:=yc2 (HP.out.below hb47 (zr _));obtain ⟨x0,x1,x2,x3⟩:=yc4 (HX.out.below hb47 (zr _));have hS8:=HSame.out W7 _ _ _ Hb7.out (HM.out _ hb67);clear hW hb hb2 hs y0 y1 HWd2 hb67 hb47;go_upto_region 11 with (fail)
 rw [<- HW7.out];go_wp2_with fail
 go_at_call 21;refine hS8.mono ?_;rintro e8 w8 ⟨rfl,hb⟩;have hb48:Below W4.heap.size W4 w8:=Hb47.out.trans (hb.mono Hb47.out.size);have HU8:=zh (HU.out.below hb48 (zr _));have HX8:=zh (HX.out.below hb48 (zr _));have HY8:=zh (HY.out.below hb48 (zr _));have HN8:Hid (Pts w8 c.pend (.slice a3 c.pend.length k3)):=zh (HN.out _ hb48).pend;have Hb8:=zh (Hb4.out.trans (hb48.mono Hb4.out.size));have u3:=HU8.out.cell (i:=3) rfl;have x3:=HX8.out.cell (i:=3) rfl;obtain ⟨N,hN⟩:∃ N,c.pend.length=N:=⟨_,rfl⟩;have HNl:=zh hN;have hNb:N=b.pend.length+1:=by rw [<- hN];exact Hlen.out
 rw [hN] at u3 hroom;have hNi:IntKind.i64.wrap ((b.pend.length:Int)+1)=(N:Int):=by rw [IntKind.wrap_i64];omega
 have HNb:=zh hNb;obtain ⟨K,hK⟩:∃ K,(upTo p.tick b.pend).length=K:=⟨_,rfl⟩
 have hKN:K < N:=by
  have h3:=zrk p b.pend;rw [<- Hcl.out] at h3;have h4:=congrArg List.length (zpZ p.tick b.pend);rw [List.length_append] at h4;omega
 have HK:=zh hK;have hNs:(N:Int)<=100:=by omega
 clear hb hS8 hb48 v0 v1 v2 v3 p0 p1 x0 x1 x2 HSame HM HN HX HU HP hNb hN hK hroom;go_wp2_with fail
 go_loopw [4,15,16,116,117,118,119,120,121,122,123,124,125,126,127,128,129,130,131,132,133,134,135,136,137,138,139,140,141,142,143,144,145,146,147,148,149,150,151,152,153,154,155,156,157,158,159,160,161,162,163,164] (fun _ t15 _ _ _ _ _ _ _ _ _ _ _ _ _ _ _ _ _ _ _ _ _ _ _ _ _ _ _ _ _ _ _ _ _ _ _ _ _ _ _ _ _ _ _ _ _ _ _ _ _ _ wr=>∃ k:Nat,k<=K/\t15=.int .i64 k/\Hid (Below w8.heap.size w8 wr)) (fun _ t15 _ _ _ _ _ _ _ _ _ _ _ _ _ _ _ _ _ _ _ _ _ _ _ _ _ _ _ _ _ _ _ _ _ _ _ _ _ _ _ _ _ _ _ _ _ _ _ _ _ _ _=>N - (intOf t15).toNat)
 case atStart=>exact ⟨0,by omega,by first | rfl | go_num,zh (Below.refl _ _)⟩
 case round =>
  obtain ⟨k,hk,rfl,HL⟩:=hrel;clear u3 x3 hNi;have hkN:k < c.pend.length:=by rw [HNl.out];omega
  have u3:=(HU8.out.below HL.out (zr _)).cell (i:=3) rfl;rw [HNl.out] at u3;obtain ⟨y0,y1,y2⟩:=yc3 (HY8.out.below HL.out (zr _));obtain ⟨g1,o1,rfl,hg1,hc1⟩:=(HN8.out.below HL.out (zr _)).at (by omega);have Hc1:=zh hc1;obtain ⟨c0,c1,c2⟩:=hc1 k hkN;clear hc1;have hki:(k:Int) < (N:Int):=by omega
  by_cases hkK:k < K
  ·have hbf:c.pend[k] ∈ b.pend:=by
    have h9:k < (zok p b.pend).length:=by rw [<- Hcl.out];exact hkN
    have e9:c.pend[k]=(zok p b.pend)[k]:=by congr 1 <;> exact Hcl.out
    rw [e9];exact (put_before (by rw [HK.out];exact hkK) h9).1
   have hsm:=Hno.out _ hbf;have hns:¬ (c.pend[k].tick=p.tick/\c.pend[k].slot=p.slot):=fun e=>by rw [Pt.same_iff.2 e] at hsm;cases hsm
   obtain ⟨W9,hW9,hb9,hV,hs9⟩:=box1 wr [.int .i64 c.pend[k].tick,.int .i64 c.pend[k].slot,.string (bstr c.pend[k].src)] 32;have HW9:=zh hW9;have HL9:=zh (HL.out.trans (hb9.mono HL.out.size));obtain ⟨v0,v1,v2⟩:=yc3 hV;have y0':=Below.keep hb9 y0;have y1':=Below.keep hb9 y1;have y2':=Below.keep hb9 y2;clear hbf hsm hW9 hb9 hV hs9
   generalize c.pend[k]=xk at *
   go_upto_region 17 with (fail)
   rw [<- HW9.out];clear y0 y1 y2 c0 c1 c2 u3;by_cases h1:xk.tick=p.tick
   ·have h2:¬ xk.slot=p.slot:=fun e=>hns ⟨h1,e⟩
    clear hns;go_wp2_with fail
    go_roundw
    case rel=>exact ⟨k+1,by omega,by go_num,HL9⟩
    case measure=>simp [intOf];omega
   ·clear hns;go_wp2_with fail
    go_roundw
    case rel=>exact ⟨k+1,by omega,by go_num,HL9⟩
    case measure=>simp [intOf];omega
  ·obtain rfl:k=K:=by omega
   have hself:c.pend[k]=p:=by
    have h9:(upTo p.tick b.pend).length < (zok p b.pend).length:=by rw [<- Hcl.out,HK.out];exact hkN
    have h8:=put_self h9;have e9:c.pend[k]? = (zok p b.pend)[(upTo p.tick b.pend).length]?:=by rw [Hcl.out,HK.out]
    rw [List.getElem?_eq_getElem hkN,List.getElem?_eq_getElem h9,h8] at e9;exact Option.some.inj e9
   rw [hself] at c0 c1 c2;obtain ⟨W9,hW9,hb9,hV,hs9⟩:=box1 wr [.int .i64 p.tick,.int .i64 p.slot,.string (bstr p.src)] 32;have HW9:=zh hW9;have HL9:=zh (Hb8.out.trans ((HL.out.trans (hb9.mono HL.out.size)).mono Hb8.out.size));have Hb9:=zh hb9;obtain ⟨v0,v1,v2⟩:=yc3 hV;have y0':=Below.keep hb9 y0;have y1':=Below.keep hb9 y1;have y2':=Below.keep hb9 y2;have u3':=Below.keep hb9 u3;clear hself hW9 hb9 hV hs9;go_upto_region 17 with (fail)
   rw [<- HW9.out];clear y0 y1 y2 c0 c1 c2 u3
   have hbef:∀ h:0 < k,∃ T:Int,T<=p.tick/\W9.cell? ⟨g1,o1+(k - 1) * 3,none⟩=some (.int .i64 T):=fun h=>by
    have h8:k - 1 < c.pend.length:=by omega
    refine ⟨_,?_,Below.keep Hb9.out (Hc1.out (k - 1) h8).1⟩;have h9:k - 1 < (zok p b.pend).length:=by rw [<- Hcl.out];exact h8
    have e9:c.pend[k - 1]=(zok p b.pend)[k - 1]:=by congr 1 <;> exact Hcl.out
    rw [e9];exact (put_before (by rw [HK.out];omega) h9).2
   have haft:∀ h:k+1 < N,∃ T:Int,p.tick < T/\W9.cell? ⟨g1,o1+(k+1) * 3,none⟩=some (.int .i64 T):=fun h=>by
    have h8:k+1 < c.pend.length:=by rw [HNl.out];exact h
    refine ⟨_,?_,Below.keep Hb9.out (Hc1.out (k+1) h8).1⟩;have h9:(upTo p.tick b.pend).length+1 < (zok p b.pend).length:=by rw [<- Hcl.out,HK.out];exact h8
    have e9:c.pend[k+1]? = (zok p b.pend)[(upTo p.tick b.pend).length+1]?:=by rw [Hcl.out,HK.out]
    rw [List.getElem?_eq_getElem h8,List.getElem?_eq_getElem h9] at e9;rw [Option.some.inj e9];exact put_after Hpw.out h9
   have Hbef:=zh hbef;have Haft:=zh haft;clear hbef haft;have hw1:IntKind.i64.wrap ((k:Int)+1)=(k:Int)+1:=by rw [IntKind.wrap_i64];omega
   have hw2:IntKind.i64.wrap ((k:Int) - 1)=(k:Int) - 1:=by rw [IntKind.wrap_i64];omega
   go_wp2_with fail
   rcases Nat.eq_zero_or_pos k with hk0 | hk0
   case' inl =>
    have hz:((k:Int) == 0)=true:=by simp [hk0]
   case' inr =>
    have hz:((k:Int) == 0)=false:=by simp;omega
    obtain ⟨T,hT,t0⟩:=Hbef.out hk0;have hi1:(0:Int)<=(k:Int) - 1:=by omega
    have hi2:(k:Int) - 1 < (N:Int):=by omega
    have hi3:((k:Int) - 1).toNat=k - 1:=by omega
   all_goals
    clear hk0;rcases Nat.lt_or_ge (k+1) N with hkn | hkn
    ·have hq:((k:Int)+1 == (N:Int))=false:=by simp;omega
     obtain ⟨T2,hT2,t1⟩:=Haft.out hkn;have hj1:(0:Int)<=(k:Int)+1:=by omega
     have hj2:(k:Int)+1 < (N:Int):=by omega
     have hj3:((k:Int)+1).toNat=k+1:=by omega
     have hT3:T2 > p.tick:=hT2;clear hkn hT2;refine zac (DrewOf _) (by kernel_rfl) (by kernel_rfl) (DrewOf.start _) ?_
     repeat
      try simp only [Act.put,zs1,zs3,zs2]
      apply stepsSeq.cons
      ·rintro w' ⟨nq,rfl⟩;simp only [Act.put,zs1,zs3,zs2];go_wp2_with (fail)
       first | exact ⟨rfl,nq,rfl⟩ | exact ⟨rfl,nq,(World.drewN_drewN _ _ _).symm⟩ | exact ⟨rfl,nq,by simp⟩
     try simp only [Act.put,zs1,zs3,zs2]
     refine stepsSeq.nil ?_;rintro w' ⟨nq,rfl⟩;go_wp2_with fail
     go_ret;exact ⟨rfl,HL9.out.trans (c:=W9.drewN nq) ⟨rfl,rfl,rfl,zr _,fun _ _=>rfl⟩⟩
    ·have hq:((k:Int)+1 == (N:Int))=true:=by simp;omega
     clear hkn;refine zac (DrewOf _) (by kernel_rfl) (by kernel_rfl) (DrewOf.start _) ?_
     repeat
      try simp only [Act.put,zs1,zs3,zs2]
      apply stepsSeq.cons
      ·rintro w' ⟨nq,rfl⟩;simp only [Act.put,zs1,zs3,zs2];go_wp2_with (fail)
       first | exact ⟨rfl,nq,rfl⟩ | exact ⟨rfl,nq,(World.drewN_drewN _ _ _).symm⟩ | exact ⟨rfl,nq,by simp⟩
     try simp only [Act.put,zs1,zs3,zs2]
     refine stepsSeq.nil ?_;rintro w' ⟨nq,rfl⟩;go_wp2_with fail
     go_ret;exact ⟨rfl,HL9.out.trans (c:=W9.drewN nq) ⟨rfl,rfl,rfl,zr _,fun _ _=>rfl⟩⟩
end Go.Proofs.YtdhikpkecmaplaaGreatDoor
