/- marcheslaw13.compiles and CompileTells, walked. -/
import Derived.Test.YtdeneckmoejcfaaGivenZs
import Derived.Test.YtdeneckmoejcfaaLawKZs
import Derived.Test.YtdeneckmoejcfaaRCompZs
import Derived.Test.YtdeneckmoejcfaaTreeOZs
import Derived.Test.YtdeneckmoejcfaaWAwkZs
set_option linter.unusedSimpArgs false
set_option linter.unusedVariables false
set_option maxRecDepth 100000
set_option maxHeartbeats 4000000
namespace Go.Proofs.Ytdeneckmoejcfaa
open Go.RowKit
theorem compiles_any (l:List St) (v:Value) (w:World) (B:Nat) (hok:okSs l) (hsz:szSs l<=100000) (hL:SsL w B l v) (hB:B<=w.heap.size) :
  Calls Try.prog 13 #[v] w fun e w'=>e=.returned (.bool true)/\Below w.heap.size w w':=by
 obtain ⟨a,cap,rfl,_,_⟩:=hL.form;have HL:=zh hL;have Hok:=zh hok;have hlen:l.length<=100000:=yT (zs7 l) hsz;have HCp:=zh (copySs_any (szSs l+1) l _ w B (by omega) (by omega) hL hB);clear hL hok;go_enter Try.func13,Try.ntmps13
 go_wp2_with fail
 refine HCp.out.mono ?_;rintro e1 w1 ⟨⟨r1,cs1,rfl,hown,hX⟩,hb1⟩;obtain ⟨a1,c1,rfl,_,_⟩:=Sl.form (Sl.of_own hown);have HI1:=zh (ss_low hown hX);have HL1:=zh ((HL.out.low (hb1.mono hB)).up (B':=w1.heap.size) (by have:=hb1.size;omega));have HB1:=zh hb1;have hs1:=hb1.size;have HC:=zh (comp7_any l _ w1 w1.heap.size Hok.out hsz HI1.out (zr _));clear hown hX hb1 HCp;go_wp2_with fail
 refine HC.out.mono ?_;rintro e2 w2 ⟨⟨⟨s0,t0,rfl,hS⟩,-⟩,hb2⟩;obtain ⟨P,hP⟩:∃ P,P=resP (zol l):=⟨_,rfl⟩;obtain ⟨k0,hk0⟩:∃ k,k=resK (zol l):=⟨_,rfl⟩;have Hres:Hid (P=resP (zol l)/\k0=resK (zol l)):=zh ⟨hP,hk0⟩;have hlp:P.code.length<=4000:=by rw [hP];exact resP_len l
 rw [<- hP] at hS ⊢;rw [<- hk0];clear hP hk0;obtain ⟨W3,hW3,hX3,hb3⟩:∃ W,W=w2.alloc (.cells #[.slice s0 P.code.length t0,.int .i64 P.locals,.int .u32 (w32 P.reads),.int .u32 (w32 P.writes)] 29)/\OwnV W w2.heap.size 29 [.slice s0 P.code.length t0,.int .i64 P.locals,.int .u32 (w32 P.reads),.int .u32 (w32 P.writes)]/\Below w2.heap.size w2 W:=⟨_,rfl,OwnV.new _ _ _,(yR _ _).alloc (zr _) _⟩;have b13:Below w1.heap.size w1 W3:=hb2.trans (hb3.mono hb2.size);have HB13:=zh b13;have HS3:=zh (SlC.below hS hb3);have HX3:=zh hX3;have HW3:=zh hW3;have HR:=zh (rcomp_any l _ W3 w1.heap.size Hok.out hsz (HL1.out.low b13) b13.size);clear hW3 hX3 hb3 hS hb2 b13 HC;unfold zow;go_upto_region 3 with (fail)
 rw [<- HW3.out];clear HW3;go_wp2_with fail
 refine HR.out.mono ?_;rintro e4 w4 ⟨hp4,hb4⟩;obtain ⟨⟨s1,t1,rfl,hS⟩,-⟩:=prog_res hp4;rw [<- Hres.out.1] at hS ⊢;rw [<- Hres.out.2];obtain ⟨W5,hW5,hX5,hb5⟩:∃ W,W=w4.alloc (.cells #[.slice s1 P.code.length t1,.int .i64 P.locals,.int .u32 (w32 P.reads),.int .u32 (w32 P.writes)] 40)/\OwnV W w4.heap.size 40 [.slice s1 P.code.length t1,.int .i64 P.locals,.int .u32 (w32 P.reads),.int .u32 (w32 P.writes)]/\Below w4.heap.size w4 W:=⟨_,rfl,OwnV.new _ _ _,(yR _ _).alloc (zr _) _⟩;have b35:Below W3.heap.size W3 W5:=hb4.trans (hb5.mono hb4.size);have b15:Below w1.heap.size w1 W5:=HB13.out.trans (b35.mono HB13.out.size);have HB15:=zh b15;have HX5p:=zh (HX3.out.below b35 (zr _));have HX5q:=zh hX5;have HS5:=zh (SlC.below HS3.out b35);have HT5:=zh (SlC.below hS hb5);have HW5:=zh hW5;have hs5:=b15.size;clear hW5 hX5 hb5 hS hb4 b35 b15 HR HX3 HS3 HB13 hp4;unfold zow;go_upto_region 4 with (fail)
 rw [<- HW5.out];clear HW5;obtain ⟨x0,x1,x2,x3⟩:=yc4 HX5p.out;obtain ⟨y0,y1,y2,y3⟩:=yc4 HX5q.out
 have HTk:Hid (∀ W,Below W5.heap.size W5 W->Calls Try.prog 21 #[.agg #[.slice s1 P.code.length t1,.int .i64 P.locals,.int .u32 (w32 P.reads),.int .u32 (w32 P.writes)]] W fun e w'=>∃ (s2:Option Addr) (t2:Nat),e=.returned (.agg #[.slice s2 P.code.length t2,.int .i64 P.locals,.int .u32 (w32 P.reads),.int .u32 (w32 P.writes)])/\SlC w' P.code (.slice s2 P.code.length t2)/\Below W5.heap.size W5 w'):=zh (fun W hb=>(taken_any P (.slice s1 P.code.length t1) W (SlC.below HT5.out hb) (by omega)).mono fun e w' ⟨⟨v',he,hS⟩,hb'⟩=>by
  obtain ⟨s2,t2,rfl,_,_⟩:=Sl.form hS
  exact ⟨s2,t2,he,hS,hb.trans (hb'.mono hb.size)⟩)
 have HSm:Hid (∀ (s2:Option Addr) (t2:Nat) (W:World),Below W5.heap.size W5 W->SlC W P.code (.slice s2 P.code.length t2)->Calls Try.prog 25 #[.agg #[.slice s0 P.code.length t0,.int .i64 P.locals,.int .u32 (w32 P.reads),.int .u32 (w32 P.writes)],.agg #[.slice s2 P.code.length t2,.int .i64 P.locals,.int .u32 (w32 P.reads),.int .u32 (w32 P.writes)]] W fun e w'=>e=.returned (.bool true)/\Below W5.heap.size W5 w'):=zh (fun s2 t2 W hb hS=>(same_yes P (.slice s0 P.code.length t0) (.slice s2 P.code.length t2) W (SlC.below HS5.out hb) hS (by omega)).mono fun e w' ⟨he,hb'⟩=>⟨he,hb.trans (hb'.mono hb.size)⟩)
 have HSs:Hid (∀ W,Below W5.heap.size W5 W->Calls Try.prog 34 #[.slice a1 l.length c1,.slice a l.length cap] W fun e w'=>e=.returned (.bool true)/\Below W5.heap.size W5 w'):=zh (fun W hb=>by
  have hb1:Below w1.heap.size w1 W:=HB15.out.trans (hb.mono hs5);refine (zjX (szSs l+1) l _ _ W w1.heap.size (by omega) (HI1.out.low hb1) (HL1.out.low hb1) hb1.size).mono ?_;rintro e w' ⟨rfl,hb'⟩
  exact ⟨rfl,hb.trans (hb'.mono hb.size)⟩)
 go_region_held3 (fun w'=>w'.cell? ⟨w2.heap.size,0,none⟩=some (.slice s0 P.code.length t0)/\w'.cell? ⟨w2.heap.size,1,none⟩=some (.int .i64 P.locals)/\w'.cell? ⟨w2.heap.size,2,none⟩=some (.int .u32 (w32 P.reads))/\w'.cell? ⟨w2.heap.size,3,none⟩=some (.int .u32 (w32 P.writes))/\w'.cell? ⟨w4.heap.size,0,none⟩=some (.slice s1 P.code.length t1)/\w'.cell? ⟨w4.heap.size,1,none⟩=some (.int .i64 P.locals)/\w'.cell? ⟨w4.heap.size,2,none⟩=some (.int .u32 (w32 P.reads))/\w'.cell? ⟨w4.heap.size,3,none⟩=some (.int .u32 (w32 P.writes))) (go_keep) (first | (go_at_call 21;refine (HTk.out _ (by first | exact (yR _ _).drew | exact yR _ _)).mono ?_;rintro e6 w6 ⟨s2,t2,rfl,hS6,B6⟩;have f0:=Below.keep B6 x0;have f1:=Below.keep B6 x1;have f2:=Below.keep B6 x2;have f3:=Below.keep B6 x3;have g0:=Below.keep B6 y0;have g1:=Below.keep B6 y1;have g2:=Below.keep B6 y2;have g3:=Below.keep B6 y3) | (go_at_call 25;refine (HSm.out _ _ _ B6 hS6).mono ?_;rintro e7 w7 ⟨rfl,B7⟩;have f0:=Below.keep B7 x0;have f1:=Below.keep B7 x1;have f2:=Below.keep B7 x2;have f3:=Below.keep B7 x3;have g0:=Below.keep B7 y0;have g1:=Below.keep B7 y1;have g2:=Below.keep B7 y2;have g3:=Below.keep B7 y3) | (go_at_call 34;refine (HSs.out _ B7).mono ?_;rintro e8 w8 ⟨rfl,B8⟩;have f0:=Below.keep B8 x0;have f1:=Below.keep B8 x1;have f2:=Below.keep B8 x2;have f3:=Below.keep B8 x3;have g0:=Below.keep B8 y0;have g1:=Below.keep B8 y1;have g2:=Below.keep B8 y2;have g3:=Below.keep B8 y3))
 all_goals
  have HBf:Hid (Below w.heap.size w w8):=zh (HB1.out.trans ((HB15.out.trans (B8.mono hs5)).mono hs1));go_wp2_with fail
  go_ret;exact ⟨rfl,HBf.out⟩
end Go.Proofs.Ytdeneckmoejcfaa
