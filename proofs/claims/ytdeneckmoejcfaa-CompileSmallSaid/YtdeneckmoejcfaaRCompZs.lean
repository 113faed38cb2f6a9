/- marchesref13.Compile, walked. -/
import Derived.Test.YtdeneckmoejcfaaRListZs
import Derived.Test.YtdeneckmoejcfaaRMaskZs
import Derived.Test.YtdeneckmoejcfaaRightRZs
import Derived.Test.YtdeneckmoejcfaaSoundSZs
set_option linter.unusedSimpArgs false
set_option linter.unusedVariables false
set_option maxRecDepth 100000
set_option maxHeartbeats 1000000
namespace Go.Proofs.Ytdeneckmoejcfaa
open Go.RowKit

theorem rcomp_any (l:List St) (v:Value) (w:World) (B:Nat) (hok:okSs l) (hsz:szSs l<=100000) (hL:SsL w B l v) (hB:B<=w.heap.size) :
  Calls Try.prog 19 #[v] w fun e w'=>ProgE 47 w w' e (zol l)/\Below w.heap.size w w':=by
 obtain ⟨a,cap,rfl,_,_⟩:=hL.form;obtain ⟨W1,hW1,hb1⟩:∃ W1,W1=w.alloc (.cells #[.slice none 0 0,.int .i64 0,.int .u32 0,.int .u32 0] 40)/\Below w.heap.size w W1:=⟨_,rfl,(yR _ _).alloc (zr _) _⟩;have hX:OwnV W1 w.heap.size 40 [.slice none 0 0,.int .i64 0,.int .u32 0,.int .u32 0]:=by rw [hW1];exact OwnV.new w _ _
 have hs1:=hb1.size;have hlt1:=hX.lt;have HP:=zh (printable_any l _ W1 B hok (hL.low (hb1.mono hB)) (by omega));have HL:=zh (fun (W2:World) (hb:Below W1.heap.size W1 W2) (hf:zaJ 40 l=true)=>rlist_any 40 l _ W2 B [] (.slice none 0 0) hf hok hsz (hL.low ((hb1.trans (hb.mono hs1)).mono hB)) (by have:=hb.size;omega) (Sl.nil _ 1) (by simp;omega));have Hk:=zh (fun (r:znA × Nat) (h:znQ [] l=.ok r)=>codeL_ok [] l r h);have HX:=zh hX;have Hb1:=zh hb1;have HW1:=zh hW1;obtain ⟨final,hfin⟩:∃ r,zol l=r:=⟨_,rfl⟩;have HF:Hid (final=zol l):=zh hfin.symm;rw [hfin];clear hfin hok hL hW1 hX hb1;obtain ⟨q,hq⟩:∃ q,zaJ 40 l=q:=⟨_,rfl⟩;go_enter Try.func19,Try.ntmps19
 go_upto_region 1 with (fail)
 rw [<- HW1.out];rw [hq] at HP HL;have hfq:zol l=if q=true then (znQ [] l).andThen fun r=>if 4000 < r.1.length then .err 3 else .ok ⟨r.1,(r.2:Int),znW 4 r.1,znW 5 r.1⟩ else .err 130:=by rw [zol,hq]
 have Hfq:=zh hfq;clear hfq hq;go_wp2_with fail
 refine HP.out.mono ?_;rintro e2 w2 ⟨rfl,hb2⟩;have HX2:=zh (HX.out.below hb2 (zr _));have Hb2:=zh (Hb1.out.trans (hb2.mono hs1));have hs2:=Hb2.out.size;have HL2:=zh (HL.out w2 hb2);clear hb2 HX;cases q
 ·obtain ⟨W3,hW3,hX3,hg3⟩:=set4 HX2.out (.slice none 0 0) (.int .i64 0) (.int .u32 0) (.int .u32 0);obtain ⟨x0,x1,x2,x3⟩:=yc4 HX2.out;have xf:=HX2.out.free;have HW3:=zh hW3;have HX3:=zh hX3;have Hg3:=zh hg3;have Hfz:Hid (final=.err 130):=zh (by rw [HF.out,Hfq.out];rfl);clear hW3 hX3 hg3;go_wp2_with fail
  rw [<- HW3.out];obtain ⟨y0,y1,y2,y3⟩:=yc4 HX3.out;refine yE (v:=.tuple #[zpM,.int .i64 130]) (by simp [results,Try.results19,go_sem,y0,y1,y2,y3,zpM]) rfl ?_;rw [Hfz.out];exact ⟨⟨rfl,by decide⟩,Hb2.out.trans (zbz Hg3.out (by omega) hs2)⟩
 ·have HL3:=zh (HL2.out rfl);obtain ⟨r,hr⟩:∃ r,znQ [] l=r:=⟨_,rfl⟩;have Hr:=zh hr;rw [hr] at HL3 Hfq;have Hk2:Hid (∀ r',r=.ok r'->r'.1.length<=4 * szSs l):=zh (fun r' h=>(Hk.out r' (hr.trans h)).2.1);clear hr HL2;go_wp2_with fail
  refine HL3.out.mono ?_;rintro e3 w3 ⟨h3,hb3⟩;have HX3:=zh (HX2.out.below hb3 (zr _));have Hb3:=zh (Hb2.out.trans (hb3.mono hs2));have hs3:=Hb3.out.size;clear hb3 HL3 HL HP
  cases r with
  | err k =>
   obtain ⟨rfl,hk⟩:=h3;have Hfz:Hid (final=.err k):=zh (by rw [HF.out,Hfq.out];rfl);have hk0:k≠0:=by omega
   obtain ⟨W9,hW9,hX9,hg9⟩:=set4 HX3.out (.slice none 0 0) (.int .i64 0) (.int .u32 0) (.int .u32 0);obtain ⟨x0,x1,x2,x3⟩:=yc4 HX3.out;have xf:=HX3.out.free;have HW9:=zh hW9;have HX9:=zh hX9;have Hg9:=zh hg9;clear hW9 hX9 hg9;go_wp2_with fail
   rw [<- HW9.out];obtain ⟨y0,y1,y2,y3⟩:=yc4 HX9.out;refine yE (v:=.tuple #[zpM,.int .i64 k]) (by simp [results,Try.results19,go_sem,y0,y1,y2,y3,zpM]) rfl ?_;rw [Hfz.out]
   exact ⟨⟨rfl,by omega⟩,Hb3.out.trans (zbz Hg9.out (by omega) hs3)⟩
  | ok r =>
   obtain ⟨C,many⟩:=r;obtain ⟨vc,rfl,hC⟩:=h3;have hC:OwnC w3 w2.heap.size 47 vc C:=hC;have hlC:C.length<=4 * szSs l:=Hk2.out (C,many) rfl;have hslc:SlC w3 C vc:=hC.sl;obtain ⟨ac,capc,rfl,_,_⟩:=Sl.form hslc;have HC:=zh hC;have HM:=zh (rmasks_any C _ w3 hslc (by omega));clear hC hslc;by_cases hlong:4000 < C.length
   ·have Hfz:Hid (final=.err 3):=zh (by rw [HF.out,Hfq.out];simp [CR.andThen,hlong]);have hl1:(4000:Int) < (C.length:Int):=by omega
    obtain ⟨W9,hW9,hX9,hg9⟩:=set4 HX3.out (.slice none 0 0) (.int .i64 0) (.int .u32 0) (.int .u32 0);obtain ⟨x0,x1,x2,x3⟩:=yc4 HX3.out;have xf:=HX3.out.free;have HW9:=zh hW9;have HX9:=zh hX9;have Hg9:=zh hg9;clear hW9 hX9 hg9;go_wp2_with fail
    rw [<- HW9.out];obtain ⟨y0,y1,y2,y3⟩:=yc4 HX9.out;refine yE (v:=.tuple #[zpM,.int .i64 3]) (by simp [results,Try.results19,go_sem,y0,y1,y2,y3,zpM]) rfl ?_;rw [Hfz.out];exact ⟨⟨rfl,by decide⟩,Hb3.out.trans (zbz Hg9.out (by omega) hs3)⟩
   ·have Hfz:Hid (final=.ok ⟨C,(many:Int),znW 4 C,znW 5 C⟩):=zh (by rw [HF.out,Hfq.out];simp [CR.andThen,hlong]);have hl1:¬ (4000:Int) < (C.length:Int):=by omega
    have hl2:(C.length:Int)<=4000:=by omega
    go_wp2_with fail
    refine HM.out.mono ?_;rintro e4 w4 ⟨rfl,hw4⟩;subst hw4;obtain ⟨W9,hW9,hX9,hg9⟩:=set4 HX3.out (.slice ac C.length capc) (.int .i64 many) (.int .u32 (w32 (znW 4 C))) (.int .u32 (w32 (znW 5 C)));obtain ⟨x0,x1,x2,x3⟩:=yc4 HX3.out;have xf:=HX3.out.free;have HW9:=zh hW9;have HX9:=zh hX9;have Hg9:=zh hg9;clear hW9 hX9 hg9;go_wp2_with fail
    rw [<- HW9.out];obtain ⟨y0,y1,y2,y3⟩:=yc4 HX9.out;refine yE (v:=.tuple #[zow ⟨C,(many:Int),znW 4 C,znW 5 C⟩ (.slice ac C.length capc),.int .i64 0]) (by simp [results,Try.results19,go_sem,y0,y1,y2,y3,zow]) rfl ?_;rw [Hfz.out];exact ⟨⟨_,rfl,Only.row (S:=fun k=>k=w.heap.size) ⟨Hg9.out.os,Hg9.out.tape,Hg9.out.output,Hg9.out.size,fun k hk hne=>Hg9.out.block k hk (fun e=>hne (by cases e;rfl))⟩ (znE HC.out hs2) (fun g hg e=>by have:=(HC.out.lt g hg).1;have:=HX2.out.lt;omega)⟩,Hb3.out.trans (zbz Hg9.out (by omega) hs3)⟩
end Go.Proofs.Ytdeneckmoejcfaa
