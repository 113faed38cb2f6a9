/- marchesref13.Compile, walked. -/
import Derived.Test.YtdeneckmoejcfaaMaskMK
import Derived.Test.YtdeneckmoejcfaaRMaskK
import Derived.Test.YtdeneckmoejcfaaRListQK
import Derived.Test.YtdeneckmoejcfaaRightQK
import Derived.Test.YtdeneckmoejcfaaRParLK
import Derived.Test.YtdeneckmoejcfaaKitCK
set_option linter.unusedSimpArgs false
set_option linter.unusedVariables false
namespace Go.Proofs.Ytdeneckmoejcfaa
open Go.RowKit

set_option maxRecDepth 100000 in
set_option maxHeartbeats 1000000 in
theorem rcomp_any (l:List St) (v:Value) (w:World) (B:Nat) (hok:okSs l) (hsz:szSs l≤100000) (hL:SsL w B l v) (hB:B≤w.heap.size) :
    Calls Try.prog 19 #[v] w fun e w'=>ProgE 47 w w' e (compS l)∧Below w.heap.size w w':=by
  obtain ⟨a,cap,rfl,_,_⟩:=hL.form
  obtain ⟨W1,hW1,hb1⟩:∃ W1,W1=w.alloc (.cells #[.slice none 0 0,.int .i64 0,.int .u32 0,.int .u32 0] 40)∧Below w.heap.size w W1:=⟨_,rfl,(Below.refl _ _).alloc (Nat.le_refl _) _⟩
  have hX:OwnV W1 w.heap.size 40 [.slice none 0 0,.int .i64 0,.int .u32 0,.int .u32 0]:=by rw [hW1];exact OwnV.new w _ _
  have hs1:=hb1.size
  have hlt1:=hX.lt
  have HP:=Lib.hid (printable_any l _ W1 B hok (hL.low (hb1.mono hB)) (by omega))
  have HL:=Lib.hid (fun (W2:World) (hb:Below W1.heap.size W1 W2) (hf:rightS 40 l=true)=>rlist_any 40 l _ W2 B [] (.slice none 0 0) hf hok hsz (hL.low ((hb1.trans (hb.mono hs1)).mono hB)) (by have:=hb.size;omega) (Sl.nil _ 1) (by simp;omega))
  have Hk:=Lib.hid (fun (r:Code1 × Nat) (h:codeL [] l=.ok r)=>codeL_ok [] l r h)
  have HX:=Lib.hid hX
  have Hb1:=Lib.hid hb1
  have HW1:=Lib.hid hW1
  obtain ⟨final,hfin⟩:∃ r,compS l=r:=⟨_,rfl⟩
  have HF:Hid (final=compS l):=Lib.hid hfin.symm
  rw [hfin]
  clear hfin hok hL hW1 hX hb1
  obtain ⟨q,hq⟩:∃ q,rightS 40 l=q:=⟨_,rfl⟩
  go_enter Try.func19,Try.ntmps19
  go_upto_region 1 with (fail)
  rw [← HW1.out]
  rw [hq] at HP HL
  have hfq:compS l=if q=true then (codeL [] l).andThen fun r=>if 4000 < r.1.length then .err 3 else .ok ⟨r.1,(r.2:Int),maskC 4 r.1,maskC 5 r.1⟩ else .err 130:=by rw [compS,hq]
  have Hfq:=Lib.hid hfq
  clear hfq hq
  go_wp2_with fail
  refine HP.out.mono ?_
  rintro e2 w2 ⟨rfl,hb2⟩
  have HX2:=Lib.hid (HX.out.below hb2 (Nat.le_refl _))
  have Hb2:=Lib.hid (Hb1.out.trans (hb2.mono hs1))
  have hs2:=Hb2.out.size
  have HL2:=Lib.hid (HL.out w2 hb2)
  clear hb2 HX
  cases q
  · obtain ⟨W3,hW3,hX3,hg3⟩:=set4 HX2.out (.slice none 0 0) (.int .i64 0) (.int .u32 0) (.int .u32 0)
    have x0:=HX2.out.cell (i:=0) rfl
    have x1:=HX2.out.cell (i:=1) rfl
    have x2:=HX2.out.cell (i:=2) rfl
    have x3:=HX2.out.cell (i:=3) rfl
    have xf:=HX2.out.free
    have HW3:=Lib.hid hW3
    have HX3:=Lib.hid hX3
    have Hg3:=Lib.hid hg3
    have Hfz:Hid (final=.err 130):=Lib.hid (by rw [HF.out,Hfq.out];rfl)
    clear hW3 hX3 hg3
    go_wp2_with fail
    rw [← HW3.out]
    have y0:=HX3.out.cell (i:=0) rfl
    have y1:=HX3.out.cell (i:=1) rfl
    have y2:=HX3.out.cell (i:=2) rfl
    have y3:=HX3.out.cell (i:=3) rfl
    refine bodyPost_ret (v:=.tuple #[zeroP,.int .i64 130]) (by simp [results,Try.results19,go_sem,y0,y1,y2,y3,zeroP]) rfl ?_
    rw [Hfz.out]
    exact ⟨⟨rfl,by decide⟩,Hb2.out.trans (grown_below Hg3.out (by omega) hs2)⟩
  · have HL3:=Lib.hid (HL2.out rfl)
    obtain ⟨r,hr⟩:∃ r,codeL [] l=r:=⟨_,rfl⟩
    have Hr:=Lib.hid hr
    rw [hr] at HL3 Hfq
    have Hk2:Hid (∀ r',r=.ok r'→r'.1.length≤4 * szSs l):=Lib.hid (fun r' h=>(Hk.out r' (hr.trans h)).2.1)
    clear hr HL2
    go_wp2_with fail
    refine HL3.out.mono ?_
    rintro e3 w3 ⟨h3,hb3⟩
    have HX3:=Lib.hid (HX2.out.below hb3 (Nat.le_refl _))
    have Hb3:=Lib.hid (Hb2.out.trans (hb3.mono hs2))
    have hs3:=Hb3.out.size
    clear hb3 HL3 HL HP
    cases r with
    | err k =>
      obtain ⟨rfl,hk⟩:=h3
      have Hfz:Hid (final=.err k):=Lib.hid (by rw [HF.out,Hfq.out];rfl)
      have hk0:k≠0:=by omega
      obtain ⟨W9,hW9,hX9,hg9⟩:=set4 HX3.out (.slice none 0 0) (.int .i64 0) (.int .u32 0) (.int .u32 0)
      have x0:=HX3.out.cell (i:=0) rfl
      have x1:=HX3.out.cell (i:=1) rfl
      have x2:=HX3.out.cell (i:=2) rfl
      have x3:=HX3.out.cell (i:=3) rfl
      have xf:=HX3.out.free
      have HW9:=Lib.hid hW9
      have HX9:=Lib.hid hX9
      have Hg9:=Lib.hid hg9
      clear hW9 hX9 hg9
      go_wp2_with fail
      rw [← HW9.out]
      have y0:=HX9.out.cell (i:=0) rfl
      have y1:=HX9.out.cell (i:=1) rfl
      have y2:=HX9.out.cell (i:=2) rfl
      have y3:=HX9.out.cell (i:=3) rfl
      refine bodyPost_ret (v:=.tuple #[zeroP,.int .i64 k]) (by simp [results,Try.results19,go_sem,y0,y1,y2,y3,zeroP]) rfl ?_
      rw [Hfz.out]
      exact ⟨⟨rfl,by omega⟩,Hb3.out.trans (grown_below Hg9.out (by omega) hs3)⟩
    | ok r =>
      obtain ⟨C,many⟩:=r
      obtain ⟨vc,rfl,hC⟩:=h3
      have hC:OwnC w3 w2.heap.size 47 vc C:=hC
      have hlC:C.length≤4 * szSs l:=Hk2.out (C,many) rfl
      have hslc:SlC w3 C vc:=hC.sl
      obtain ⟨ac,capc,rfl,_,_⟩:=Sl.form hslc
      have HC:=Lib.hid hC
      have HM:=Lib.hid (rmasks_any C _ w3 hslc (by omega))
      clear hC hslc
      by_cases hlong:4000 < C.length
      · have Hfz:Hid (final=.err 3):=Lib.hid (by rw [HF.out,Hfq.out];simp [CR.andThen,hlong])
        have hl1:(4000:Int) < (C.length:Int):=by omega
        obtain ⟨W9,hW9,hX9,hg9⟩:=set4 HX3.out (.slice none 0 0) (.int .i64 0) (.int .u32 0) (.int .u32 0)
        have x0:=HX3.out.cell (i:=0) rfl
        have x1:=HX3.out.cell (i:=1) rfl
        have x2:=HX3.out.cell (i:=2) rfl
        have x3:=HX3.out.cell (i:=3) rfl
        have xf:=HX3.out.free
        have HW9:=Lib.hid hW9
        have HX9:=Lib.hid hX9
        have Hg9:=Lib.hid hg9
        clear hW9 hX9 hg9
        go_wp2_with fail
        rw [← HW9.out]
        have y0:=HX9.out.cell (i:=0) rfl
        have y1:=HX9.out.cell (i:=1) rfl
        have y2:=HX9.out.cell (i:=2) rfl
        have y3:=HX9.out.cell (i:=3) rfl
        refine bodyPost_ret (v:=.tuple #[zeroP,.int .i64 3]) (by simp [results,Try.results19,go_sem,y0,y1,y2,y3,zeroP]) rfl ?_
        rw [Hfz.out]
        exact ⟨⟨rfl,by decide⟩,Hb3.out.trans (grown_below Hg9.out (by omega) hs3)⟩
      · have Hfz:Hid (final=.ok ⟨C,(many:Int),maskC 4 C,maskC 5 C⟩):=Lib.hid (by rw [HF.out,Hfq.out];simp [CR.andThen,hlong])
        have hl1:¬ (4000:Int) < (C.length:Int):=by omega
        have hl2:(C.length:Int)≤4000:=by omega
        go_wp2_with fail
        refine HM.out.mono ?_
        rintro e4 w4 ⟨rfl,hw4⟩
        subst hw4
        obtain ⟨W9,hW9,hX9,hg9⟩:=set4 HX3.out (.slice ac C.length capc) (.int .i64 many) (.int .u32 (w32 (maskC 4 C))) (.int .u32 (w32 (maskC 5 C)))
        have x0:=HX3.out.cell (i:=0) rfl
        have x1:=HX3.out.cell (i:=1) rfl
        have x2:=HX3.out.cell (i:=2) rfl
        have x3:=HX3.out.cell (i:=3) rfl
        have xf:=HX3.out.free
        have HW9:=Lib.hid hW9
        have HX9:=Lib.hid hX9
        have Hg9:=Lib.hid hg9
        clear hW9 hX9 hg9
        go_wp2_with fail
        rw [← HW9.out]
        have y0:=HX9.out.cell (i:=0) rfl
        have y1:=HX9.out.cell (i:=1) rfl
        have y2:=HX9.out.cell (i:=2) rfl
        have y3:=HX9.out.cell (i:=3) rfl
        refine bodyPost_ret (v:=.tuple #[progV ⟨C,(many:Int),maskC 4 C,maskC 5 C⟩ (.slice ac C.length capc),.int .i64 0]) (by simp [results,Try.results19,go_sem,y0,y1,y2,y3,progV]) rfl ?_
        rw [Hfz.out]
        exact ⟨⟨_,rfl,Only.row (S:=fun k=>k=w.heap.size) ⟨Hg9.out.os,Hg9.out.tape,Hg9.out.output,Hg9.out.size,fun k hk hne=>Hg9.out.block k hk (fun e=>hne (by cases e;rfl))⟩ (own_mono' HC.out hs2) (fun g hg e=>by have:=(HC.out.lt g hg).1;have:=HX2.out.lt;omega)⟩,Hb3.out.trans (grown_below Hg9.out (by omega) hs3)⟩
end Go.Proofs.Ytdeneckmoejcfaa
