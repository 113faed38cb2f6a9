/- The program's Compile, walked. -/
import Derived.Test.YtdeneckmoejcfaaPMaskZs
import Derived.Test.YtdeneckmoejcfaaQRightZs
import Derived.Test.YtdeneckmoejcfaaSoundSZs
import Derived.Test.YtdeneckmoejcfaaTransYZs
set_option linter.unusedSimpArgs false
set_option linter.unusedVariables false
set_option maxRecDepth 100000
set_option maxHeartbeats 4000000
namespace Go.Proofs.Ytdeneckmoejcfaa
open Go.RowKit

def ts0 : TS := ⟨[], [], 0, 0⟩
def znX (s : TS) : TS := if 4000 < s.code.length then s.fail 3 else s
theorem zsE (l:List St) (h:zaJ 40 l=true) :
  ((znX ((tSs l ts0).back 0)).e≠0->zol l=.err (znX ((tSs l ts0).back 0)).e/\((znX ((tSs l ts0).back 0)).e=130∨(znX ((tSs l ts0).back 0)).e=131∨(znX ((tSs l ts0).back 0)).e=132∨(znX ((tSs l ts0).back 0)).e=5∨(znX ((tSs l ts0).back 0)).e=3)) /\
  ((znX ((tSs l ts0).back 0)).e=0->(znX ((tSs l ts0).back 0)).code.length<=4000/\zol l=.ok ⟨(znX ((tSs l ts0).back 0)).code,((znX ((tSs l ts0).back 0)).locals:Int),znW 4 (znX ((tSs l ts0).back 0)).code,znW 5 (znX ((tSs l ts0).back 0)).code⟩):=by
 have L:=zpn 40 l ts0 h
 generalize hs:tSs l ts0=s1 at *
 have hc:(s1.back 0).code=s1.code:=rfl;have hl:(s1.back 0).locals=s1.locals:=rfl;have hns:ts0.names=[]:=rfl;rw [hns] at L
 cases hcl:znQ [] l with
 | err k =>
  have he:s1.e=k:=L.bad rfl (zr _) k hcl;have hk:=zoT [] l k hcl
  have he2:(znX (s1.back 0)).e=k:=by
   unfold znX;split
   ·rw [TS.fail_keep (by show s1.e≠0;omega)];exact he
   ·exact he
  refine ⟨fun _=>⟨?_,by omega⟩,fun h0=>by omega⟩
  rw [zol,yP h,hcl,he2];rfl
 | ok r =>
  obtain ⟨a1,a2,a3⟩:=L.ok rfl (zr _) r hcl;have a2':s1.code=r.1:=by rw [a2];show znB [] r.1=_;exact zoQ _
  have a3':s1.locals=r.2:=by rw [a3];show max 0 r.2=_;omega
  by_cases hlong:4000 < s1.code.length
  ·have e1:znX (s1.back 0)=(s1.back 0).fail 3:=yP hlong;have e2:(znX (s1.back 0)).e=3:=by rw [e1];exact TS.fail_new a1 _
   refine ⟨fun _=>⟨?_,by omega⟩,fun h0=>by omega⟩;rw [zol,yP h,hcl,e2];show (if 4000 < r.1.length then CR.err 3 else _)=_;rw [yP (by rw [<- a2'];exact hlong)]
  ·have e1:znX (s1.back 0)=s1.back 0:=yN hlong;rw [e1];refine ⟨fun h0=>absurd a1 h0,fun _=>⟨by rw [hc];omega,?_⟩⟩;rw [zol,yP h,hcl,hc,hl,a2',a3'];show (if 4000 < r.1.length then CR.err 3 else _)=_;rw [yN (by rw [<- a2'];exact hlong)]
theorem TrC.init (w:World) (B:Nat) (hB:B<=w.heap.size):TrC (w.alloc (.cells #[.slice none 0 0,.int .i64 0,.int .u32 0,.int .u32 0,.slice none 0 0,.int .i64 0] 78)) w.heap.size B (.slice none 0 0) (.slice none 0 0) ts0:=
 ⟨OwnV.new _ _ _,World.ownsRow_nil _ _ _ _,World.ownsRow_nil _ _ _ _,hB,by simp [Value.ownBlock],by simp [Value.ownBlock],by simp [Value.ownBlock]⟩
theorem SsL.up {w:World} {B B':Nat} {l:List St} {v:Value} (h:SsL w B l v) (hB:B<=B'):SsL w B' l v:=by
 obtain ⟨cs,h1,h2,h3⟩:=h;exact ⟨cs,h1,h2.imp id fun h g hg=>Nat.lt_of_lt_of_le (h g hg) hB,h3.weak fun g _ hg=>Nat.lt_of_lt_of_le hg hB⟩
theorem zrX (l:List St) (v:Value) (w:World) (B:Nat) (hok:okSs l) (hsz:szSs l<=100000) (hL:SsL w B l v) (hB:B<=w.heap.size) :
  Calls Try.prog 24 #[v] w fun e w'=>ProgE 35 w w' e (zol l)/\Below w.heap.size w w':=by
 obtain ⟨a,cap,rfl,_,_⟩:=hL.form;obtain ⟨W1,hW1,hb1⟩:∃ W1,W1=w.alloc (.cells #[.slice none 0 0,.int .i64 0,.int .u32 0,.int .u32 0] 29)/\Below w.heap.size w W1:=⟨_,rfl,(yR _ _).alloc (zr _) _⟩;have hX:OwnV W1 w.heap.size 29 [.slice none 0 0,.int .i64 0,.int .u32 0,.int .u32 0]:=by rw [hW1];exact OwnV.new w _ _
 have hs1:=hb1.size;have hlt1:=hX.lt;have HP:=zh (zem l _ W1 B hok (hL.low (hb1.mono hB)) (by omega));have HLW:=zh (fun (W2:World) (hb:Below W1.heap.size W1 W2)=>hL.low ((hb1.trans (hb.mono hs1)).mono hB));have Hok:=zh hok;have HX:=zh hX;have Hb1:=zh hb1;have HW1:=zh hW1;obtain ⟨final,hfin⟩:∃ r,zol l=r:=⟨_,rfl⟩;have HF:Hid (final=zol l):=zh hfin.symm;rw [hfin];clear hfin hok hL hW1 hX hb1;obtain ⟨q,hq⟩:∃ q,zaJ 40 l=q:=⟨_,rfl⟩;have Hq:=zh hq;rw [hq] at HP;clear hq;go_enter Try.func24,Try.ntmps24
 go_upto_region 1 with (fail)
 rw [<- HW1.out];go_wp2_with fail
 refine HP.out.mono ?_;rintro e2 w2 ⟨rfl,hb2⟩;have HX2:=zh (HX.out.below hb2 (zr _));have Hb2:=zh (Hb1.out.trans (hb2.mono hs1));have hs2:=Hb2.out.size;have HL2:=zh (HLW.out w2 hb2);have hlt2:=HX2.out.lt;clear hb2 HX HP HLW;cases q
 ·obtain ⟨W3,hW3,hX3,hg3⟩:=set4 HX2.out (.slice none 0 0) (.int .i64 0) (.int .u32 0) (.int .u32 0);obtain ⟨x0,x1,x2,x3⟩:=yc4 HX2.out;have xf:=HX2.out.free;have HW3:=zh hW3;have HX3:=zh hX3;have Hg3:=zh hg3;have Hfz:Hid (final=.err 130):=zh (by rw [HF.out,zol,Hq.out];rfl);clear hW3 hX3 hg3;go_wp2_with fail
  rw [<- HW3.out];obtain ⟨y0,y1,y2,y3⟩:=yc4 HX3.out;refine yE (v:=.tuple #[zpM,.int .i64 130]) (by simp [results,Try.results24,go_sem,y0,y1,y2,y3,zpM]) rfl ?_;rw [Hfz.out];exact ⟨⟨rfl,by decide⟩,Hb2.out.trans (zbz Hg3.out (by omega) hs2)⟩
 ·obtain ⟨W3,hW3,hT3,hb3⟩:∃ W3,W3=w2.alloc (.cells #[.slice none 0 0,.int .i64 0,.int .u32 0,.int .u32 0,.slice none 0 0,.int .i64 0] 78)/\TrC W3 w2.heap.size w2.heap.size (.slice none 0 0) (.slice none 0 0) ts0/\Below w2.heap.size w2 W3:=⟨_,rfl,TrC.init w2 w2.heap.size (zr _),(yR _ _).alloc (zr _) _⟩;have hs3:=hb3.size;have HZ:=zh (zsp 40 l _ W3 w2.heap.size w2.heap.size _ _ ts0 Hq.out Hok.out ((HL2.out.low (hb3.mono (by omega))).up (by omega)) hs3 hT3 (by show 0+szSs l<=900000;omega) (by show 0+4 * szSs l<=900000;omega) (by show 0<=900000;omega));have HX3:=zh (HX2.out.below hb3 (zr _));have HT3:=zh hT3;have HF3:=zh (TrF.of_below w2.heap.size (.slice none 0 0) (.slice none 0 0) hb3);have HW3:=zh hW3;have Hlaw:=zh (zsE l Hq.out);obtain ⟨t,ht⟩:∃ t,t=w2.heap.size:=⟨_,rfl⟩;have htw:w.heap.size < t:=by omega
  have HxN:Hid (¬ TrS t (.slice none 0 0) (.slice none 0 0) w.heap.size):=zh (by
   rintro (h | h | h)
   ·omega
   ·cases h
   ·cases h)
  clear hT3 hb3 hW3 HL2;go_upto_region 4 with (fail)
  rw [<- HW3.out];rw [<- ht] at HZ HT3 HF3 ⊢;have Ht:=zh ht;have hs3t:t<=W3.heap.size:=by omega
  clear ht;go_wp2_with fail
  refine HZ.out.mono ?_;rintro e4 w4 ⟨rfl,vc,vn,hT4,hF4⟩;have hT5:TrC w4 t t vc vn ((tSs l ts0).back 0):=hT4;have HX4:=zh (hF4.own HX3.out HxN.out);have H0:=zh (HF3.out.trans hF4);have HT:=zh hT5;have hsw:t<=w4.heap.size:=yT hs3t hF4.size
  generalize hgs:(tSs l ts0).back 0=s1 at *
  have Hs2:Hid (znX s1=if 4000 < s1.code.length then s1.fail 3 else s1):=zh rfl
  generalize znX s1=s2 at *
  have HFa:=zh (zpy 3 w4 t t vc vn s1 hT5);obtain ⟨ac,capc,rfl,_,_⟩:=Sl.form (Sl.of_own hT5.code);obtain ⟨an,capn,rfl,_,_⟩:=Sl.form (Sl.of_own hT5.names);have z0:=hT5.blk.cell (i:=0) rfl;clear hgs hT4 hT5 hF4 HX3 HZ HT3 HF3
  have hcl:s1.code.length<=9223372036854775807:=by
   have:=HT.out.code.2;rcases this with ⟨-,h⟩ | ⟨g,cp,cur,hv,-,-,h1,h2,-⟩
   ·omega
   ·unfold maxLen at h2;omega
  by_cases hlong:4000 < s1.code.length
  case' neg =>
   have hli:¬ (s1.code.length:Int) > 4000:=by omega
   have hse:s2=s1:=by rw [Hs2.out,yN hlong]
   clear HFa Hs2;subst hse;have HT2:Hid (TrC w4 t t _ _ s2):=zh HT.out;clear HT;go_upto_region 7 with (fail)
  case' pos =>
   have hli:(s1.code.length:Int) > 4000:=by omega
   go_wp2_with fail
   refine HFa.out.mono ?_;rintro e5 w4 ⟨rfl,vc,vn,hT,hF⟩;have HT2:Hid (TrC w4 t t vc vn s2):=zh (by rw [Hs2.out,yP hlong];exact hT);replace H0:=zh (H0.out.trans hF);replace HX4:=zh (hF.own HX4.out.1 HX4.out.2);replace hsw:=yT hsw hF.size;clear HFa HT hT hF z0 Hs2;obtain ⟨ac,capc,rfl,_,_⟩:=Sl.form (Sl.of_own HT2.out.code);obtain ⟨an,capn,rfl,_,_⟩:=Sl.form (Sl.of_own HT2.out.names);go_upto_region 7 with (fail)
  all_goals
   have z5:=HT2.out.blk.cell (i:=5) rfl;obtain ⟨z0,z1⟩:=yc2 HT2.out.blk;have zf:=HT2.out.blk.free;have hne:w.heap.size≠t:=by omega
   have hB4:Below w.heap.size w w4:=Hb2.out.trans (((H0.out.only).below (B:=w.heap.size) (fun k hk=>by
    rcases hk with rfl | h | h
    ·omega
    ·cases h
    ·cases h) (by omega)))
   have HB4:=zh hB4;have hs4:=hB4.size;clear hB4;by_cases he:s2.e=0
   ·have hq:(s2.e != 0)=false:=by rw [he];rfl
    obtain ⟨hlc,hfc⟩:=Hlaw.out.2 he;have Hfz:Hid (final=.ok ⟨s2.code,(s2.locals:Int),znW 4 s2.code,znW 5 s2.code⟩):=zh (by rw [HF.out,hfc]);have HC:=zh HT2.out.code;have HM:=zh (zrq s2.code _ w4 (Sl.of_own HT2.out.code) (by omega));clear he Hlaw hfc;go_upto_region 9 with (fail)
    go_wp2_with fail
    refine HM.out.mono ?_;rintro e6 w6 ⟨rfl,hb6⟩;have HT6:=zh (HT2.out.grown hb6);have HX6:=zh (HX4.out.1.below hb6 (zr _));have HB6:=zh (HB4.out.trans (hb6.mono hs4));have hs6:=HB6.out.size;obtain ⟨z0,z1,z2,z3⟩:=yc4 HT6.out.blk;have zf:=HT6.out.blk.free;have HO6:=zh HT6.out.blk;clear hb6 HM;have hO7:=(HO6.out.set 2 (.int .u32 (w32 (znW 4 s2.code)))).set 3 (.int .u32 (w32 (znW 5 s2.code)));obtain ⟨W7,hW7,hg7⟩:∃ W7,W7=(w6.setCell ⟨t,2,none⟩ (.int .u32 (w32 (znW 4 s2.code)))).setCell ⟨t,3,none⟩ (.int .u32 (w32 (znW 5 s2.code)))/\w6.grownBy W7 (some t):=⟨_,rfl,zbc (zaY _ _ _ _) (zaY _ _ _ _)⟩;rw [<- hW7] at hO7;have hX7:OwnV W7 w.heap.size 29 [.slice none 0 0,.int .i64 0,.int .u32 0,.int .u32 0]:=HX6.out.grown hg7 (fun e=>by cases e;omega);have HC7:=zh (zn3 hg7 HT6.out.code (fun g hg e=>by cases e;exact HT6.out.tc hg));have HW7:=zh hW7;have HB7:=zh (HB6.out.trans (zbz hg7 (by omega) hs6));have hs7:=HB7.out.size;clear hW7 hg7;go_upto_region 10 with (fail)
    rw [<- HW7.out];obtain ⟨y0,y1,y2,y3⟩:=yc4 hO7;obtain ⟨W9,hW9,hX9,hg9⟩:=set4 hX7 (.slice ac s2.code.length capc) (.int .i64 s2.locals) (.int .u32 (w32 (znW 4 s2.code))) (.int .u32 (w32 (znW 5 s2.code)));obtain ⟨x0,x1,x2,x3⟩:=yc4 hX7;have xf:=hX7.free;have HW9:=zh hW9;have HX9:=zh hX9;have Hg9:=zh hg9;clear hW9 hX9 hg9 z0 z1 z2 z3;go_wp2_with fail
    rw [<- HW9.out];obtain ⟨v0,v1,v2,v3⟩:=yc4 HX9.out;refine yE (v:=.tuple #[zow ⟨s2.code,(s2.locals:Int),znW 4 s2.code,znW 5 s2.code⟩ (.slice ac s2.code.length capc),.int .i64 0]) (by simp [results,Try.results24,go_sem,v0,v1,v2,v3,zow]) rfl ?_;rw [Hfz.out];exact ⟨⟨_,rfl,znE (zn3 Hg9.out HC7.out (fun g hg e=>by cases e;have:=(HC7.out.lt _ hg).1;omega)) (by omega)⟩,HB7.out.trans (zbz Hg9.out (by omega) hs7)⟩
   ·have hq:(s2.e != 0)=true:=by rw [bne_iff_ne];exact he
    obtain ⟨hfc,hek⟩:=Hlaw.out.1 he;have Hfz:Hid (final=.err s2.e):=zh (by rw [HF.out,hfc]);have Hek:=zh hek;obtain ⟨x0,x1,x2,x3⟩:=yc4 HX4.out.1;have xf:=HX4.out.1.free;clear he Hlaw hfc hek;obtain ⟨W9,hW9,hX9,hg9⟩:=set4 HX4.out.1 (.slice none 0 0) (.int .i64 0) (.int .u32 0) (.int .u32 0);have HW9:=zh hW9;have HX9:=zh hX9;have Hg9:=zh hg9;clear hW9 hX9 hg9;go_wp2_with fail
    go_region_with (fail)
    all_goals
     go_wp2_with fail
     rw [<- HW9.out];obtain ⟨v0,v1,v2,v3⟩:=yc4 HX9.out.drew;refine yE (v:=.tuple #[zpM,.int .i64 s2.e]) (by simp [results,Try.results24,go_sem,v0,v1,v2,v3,zpM]) rfl ?_;rw [Hfz.out];exact ⟨⟨rfl,Hek.out⟩,(HB4.out.trans (zbz Hg9.out (by omega) hs4)).drew⟩
end Go.Proofs.Ytdeneckmoejcfaa
