/- The program's parser: level and expr, walked. -/
import Derived.Test.YtdhikpkecmaplaaGreatDoorPaGMk
import Derived.Deep.DeepCutAuto
import Derived.Laws.OwnMore
set_option linter.unusedSimpArgs false
set_option linter.unusedVariables false
set_option maxRecDepth 100000
set_option maxHeartbeats 4000000
namespace Go.Proofs.YtdhikpkecmaplaaGreatDoor
open Go.RowKit

def LevC (l : List Tok) (p : Nat) (v : Value) (i : Nat) (n : Nat) (D : Nat -> Nat -> PR Ex) : Prop := ∀ j o W, i <= j -> o <= 300 -> PSt W p v l j o -> Calls Tryz.prog 170 #[.pointer (some ⟨p, 0, none⟩), .int .i64 n] W (RdE l p v o W (ExN W.heap.size) (D j o))
theorem zhq (caps:Array Value) (W:World):(callFunc 210 caps).run Tryz.prog W=.ok (.enter 210 caps) W:=(enters_of (P:=Tryz.prog) Tryz.func210 (by kernel_rfl) rfl) caps W
theorem zj8 {w:World} {p b0 b1 n:Nat} {v:Value} {l:List Tok} {i o:Nat} (hn:n < 5) (h:PSt w p v l i o) (ho:o<=300) (h0:OwnV w b0 122 [.pointer (some ⟨p,0,none⟩)]) (h1:OwnV w b1 3 [.int .i64 n]) (D:Nat->Nat->PR Ex) (hD:LevC l p v i (n+1) D) :
  Calls Tryz.prog 210 #[.pointer (some ⟨b0,0,none⟩),.pointer (some ⟨b1,0,none⟩)] w (RdE l p v o w (ExN w.heap.size) (D i o)):=by
 obtain ⟨W1,hW1,hb1,hR1⟩:∃ W1,W1=w.alloc (.cells #[.int .u8 0,.int .i64 0,.string { data:=#[] },.slice none 0 0] 193)/\Below w.heap.size w W1/\OwnV W1 w.heap.size 193 zeroE:=⟨_,rfl,(yR _ _).alloc (zr _) _,OwnV.new _ _ _⟩;have HC:=zh (hD i o W1 (zr _) ho (h.below hb1));have x0:=(h0.below hb1 (zr _)).cell (i:=0) rfl;have y0:=(h1.below hb1 (zr _)).cell (i:=0) rfl;have hn2:(n:Int) < 5:=by omega
 have hlt:=h.lt;have hv:=zao h;have HW1:=zh hW1;have Hb1:=zh hb1;have HR1:=zh hR1;clear hW1 hb1 hR1 h h0 h1 hD
 generalize D i o=R at *
 go_enter Tryz.func210,Tryz.ntmps210
 go_upto_region 1 with (fail)
 rw [<- HW1.out];go_wp2_with fail
 go_at_call 170;refine HC.out.mono ?_;intro e4 w4 he4;clear HC
 cases R with
 | err a c =>
  obtain ⟨he4,hT4⟩:=he4;unfold Bad at he4;subst he4;have HT4:=zh hT4;clear hT4;go_wp2_with fail
  exact ⟨rfl,rfl,(Turns.below Hb1.out).trans HT4.out⟩
 | ok x j =>
  obtain ⟨u,rfl,⟨cs4,rfl,hX4⟩,hP4,hT4⟩:=he4;obtain ⟨op4,n4,name4,args4⟩:=x;obtain ⟨aa,cp,rfl⟩:=hX4.form1;have hR4:=hT4.own HR1.out (by omega);obtain ⟨b0,b1,b2,b3⟩:=yc4 hR4;have bf:=hR4.free;have HX4:=zh hX4;have HP4:=zh hP4;have HT4:=zh ((Turns.below Hb1.out).trans hT4);have Hlt1:=zh HR1.out.lt;clear hR4 hX4 hP4 hT4 x0 y0;go_wp2_with fail
  refine yE (v:=.agg #[.int .u8 op4,.int .i64 n4,.string (bstr name4),.slice aa args4.length cp]) (by simp [results,Tryz.results210,go_sem,b0,b1,b2,b3]) rfl ⟨_,rfl,⟨_,rfl,?_⟩,?_,?_⟩
  ·have hP:¬ (W1.heap.size<=w.heap.size):=by have:=Hlt1.out;omega
   exact ((((HX4.out.set hP).set hP).set hP).set hP).weak fun b _ h=>by have:=Hlt1.out;omega
  ·exact HP4.out.only (S:=fun b=>b=w.heap.size) (((((Turns.refl w.heap.size w4).set _ _).set _ _).set _ _).set _ _) (by omega) (fun b hb=>by have:=hv b hb;omega)
  ·exact (((HT4.out.setNew (zr _) _).setNew (zr _) _).setNew (zr _) _).setNew (zr _) _
theorem zg7 (n:Nat) (hn:n < 5) (g:Nat) (u:World):(Instr.index 234 (.agg #[.slice (some ⟨g+1,0,none⟩) 1 1,.slice (some ⟨g+1+1,0,none⟩) 1 1,.slice (some ⟨g+1+1+1,0,none⟩) 6 6,.slice (some ⟨g+1+1+1+1,0,none⟩) 2 2,.slice (some ⟨g+1+1+1+1+1,0,none⟩) 3 3]) (.int .i64 n)).run Tryz.prog u=.ok (.slice (some ⟨g+1+n,0,none⟩) (lvl n).length (lvl n).length) u:=by
 have:n=0∨n=1∨n=2∨n=3∨n=4:=by omega
 rcases this with rfl | rfl | rfl | rfl | rfl <;> (unfold Instr.index;simp [go_sem,asAgg,Tryz.underlying234,lvl])
theorem zc2 {l:List Tok} {p:Nat} {v:Value} (hE:PEnv l) {i n:Nat} (hn:n < 5) (D:Nat->Nat->PR Ex) (hmon:∀ j o x m,D j o=.ok x m->j < m) (hD:LevC l p v i (n+1) D):LevC l p v i n (fun j o=>(D j o).andThen fun x m=>zbl l D (n+1) (l.length+1 - m) x m o):=by
 intro i1 o w hi1 ho h;have hlt:=h.lt;have hv:=zao h
 have HC:Hid (∀ (g:Nat) (b0 b1:Nat) (W:World),PSt W p v l i1 o->OwnV W b0 122 [.pointer (some ⟨p,0,none⟩)]->OwnV W b1 3 [.int .i64 n]->b0≠p->b1≠p->OwnV W g 272 (sgC (lvl n))->g≠p->Calls Tryz.prog 209 #[.pointer (some ⟨p,0,none⟩),.bool ((n:Int) == 2),.func (.func 210) #[] #[.pointer (some ⟨b0,0,none⟩),.pointer (some ⟨b1,0,none⟩)],.slice (some ⟨g,0,none⟩) (lvl n).length (lvl n).length] W (RdE l p v o W (ExN W.heap.size) ((D i1 o).andThen fun x m=>zbl l D (n+1) (l.length+1 - m) x m o))):=
  zh (fun g b0 b1 W hP h0 h1 n0 n1 hg hgp=>zlu hP hE hn _ (by rw [beq_iff_eq];omega) hg hgp _ _ D (zhq _) (fun j x m=>hmon j o x m) (fun j W' hj hT hP'=>zj8 hn hP' ho (hT.own h0 n0) (hT.own h1 n1) D (fun j' o' W'' hj' ho' hP''=>hD j' o' W'' (by omega) ho' hP'')))
 show Calls _ _ _ _ (RdE l p v o w (ExN w.heap.size) ((D i1 o).andThen fun x m=>zbl l D (n+1) (l.length+1 - m) x m o))
 generalize ((D i1 o).andThen fun x m=>zbl l D (n+1) (l.length+1 - m) x m o)=R at *
 have HLv:=zh za7;have hn5:((n:Int) == 5)=false:=by rw [beq_eq_false_iff_ne];omega
 have hmf:=zmf Tryz.prog
 obtain ⟨W1,hW1,hb1,hA1,hN1,hR1⟩:∃ W1,W1=((w.alloc (.cells #[.pointer (some ⟨p,0,none⟩)] 122)).alloc (.cells #[.int .i64 n] 3)).alloc (.cells #[.int .u8 0,.int .i64 0,.string { data:=#[] },.slice none 0 0] 193)/\Below w.heap.size w W1/\OwnV W1 w.heap.size 122 [.pointer (some ⟨p,0,none⟩)]/\OwnV W1 (w.heap.size+1) 3 [.int .i64 n]/\OwnV W1 (w.heap.size+1+1) 193 zeroE:=
  ⟨_,rfl,(((yR _ _).alloc (zr _) _).alloc (by simp) _).alloc (by simp;omega) _,((OwnV.new _ _ _).alloc _).alloc _,(za6 _ _ _ (by simp)).alloc _,za6 _ _ _ (by simp)⟩
 have a0:=hA1.cell (i:=0) rfl;have c0:=hN1.cell (i:=0) rfl;have HW1:=zh hW1;have Hb1:=zh hb1;have HA1:=zh hA1;have HN1:=zh hN1;have HR1:=zh hR1;have H1:=zh (h.below hb1);have hp1:=hN1.lt;clear hW1 hb1 hA1 hN1 hR1 h hD;go_enter Tryz.func170,Tryz.ntmps170
 go_upto_region 1 with (fail)
 rw [<- HW1.out];go_cut [8] (fun t8 wx=>t8=.bool false/\Below W1.heap.size W1 wx)
 case first =>
  go_region_with ((go_at_call 142;refine (HLv.out _).mono ?_;rintro e2 w2 ⟨rfl,-,hb2⟩;have hb12:Below W1.heap.size W1 w2:=Below.trans (b:=W1.drew) (yR _ _).drew hb2;have c0:=Below.keep hb12 c0))
  all_goals
   go_wp2_with fail
   go_meet;exact ⟨rfl,hb12⟩
 case rest =>
  obtain ⟨rfl,hb12⟩:=hcut;obtain ⟨w2,hw2⟩:∃ w2,w2=wc:=⟨_,rfl⟩;subst hw2;have HA2:=zh (HA1.out.below hb12 (zr _));have HN2:=zh (HN1.out.below hb12 (zr _));have HR2:=zh (HR1.out.below hb12 (zr _));have H2:=zh (H1.out.below hb12);have Hb2:=zh (Hb1.out.trans (hb12.mono Hb1.out.size));have a2:=HA2.out.cell (i:=0) rfl;have c2:=HN2.out.cell (i:=0) rfl;clear hb12 a0 c0;have hp2:=HR2.out.lt;go_wp2_with fail
  refine zc7 7 [0,0,0,0,3,0,4] (fun b w'=>Below w2.heap.size w2 w'/\(b=false->w'=w2.drew)/\(b=true->OwnV w' (w2.heap.size+1+n) 272 (sgC (lvl n)))) (by kernel_rfl) (by kernel_rfl) ⟨(yR _ _).drew,fun _=>rfl,fun h=>by cases h⟩ ?_;simp only [List.take_succ_cons,List.take_zero,List.drop_succ_cons,List.drop_zero];try simp only [Act.put,zs1,zs3,zs2]
  apply stepsSeq2.val
  ·rintro b w' hE;have HE:=zh hE;have a2':=Below.keep hE.1 a2;have c2':=Below.keep hE.1 c2;clear hE;try simp only [Act.put,zs1,zs3,zs2]
   go_wp2;exact ⟨rfl,HE.out⟩
  try simp only [Act.put,zs1,zs3,zs2]
  apply stepsSeq2.val
  ·rintro b w' hE;have HE:=zh hE;have a2':=Below.keep hE.1 a2;have c2':=Below.keep hE.1 c2;clear hE;try simp only [Act.put,zs1,zs3,zs2]
   go_wp2;exact ⟨rfl,HE.out⟩
  try simp only [Act.put,zs1,zs3,zs2]
  apply stepsSeq2.val
  ·rintro b w' hE;have HE:=zh hE;have a2':=Below.keep hE.1 a2;have c2':=Below.keep hE.1 c2;clear hE;try simp only [Act.put,zs1,zs3,zs2]
   go_wp2;exact ⟨rfl,HE.out⟩
  try simp only [Act.put,zs1,zs3,zs2]
  apply stepsSeq2.val
  ·rintro b w' hE;have HE:=zh hE;have a2':=Below.keep hE.1 a2;have c2':=Below.keep hE.1 c2;clear hE;try simp only [Act.put,zs1,zs3,zs2]
   go_wp2;exact ⟨rfl,HE.out⟩
  try simp only [Act.put,zs1,zs3,zs2]
  apply stepsSeq2.mem
  ·rintro w' ⟨-,hE0,-⟩;obtain rfl:=hE0 rfl;try simp only [Act.put,zs1,zs3,zs2]
   go_wp2_with fail
   go_at_call 142;refine (HLv.out _).mono ?_;rintro e3 w3 ⟨rfl,hs3,hb3⟩;have Hs3:=zh hs3;have Hb3:=zh hb3;clear hs3 hb3;go_wp2;exact ⟨rfl,Below.trans (b:=w2.drew) (yR _ _).drew Hb3.out,fun h=>(by cases h),fun _=>Hs3.out n hn⟩
  try simp only [Act.put,zs1,zs3,zs2]
  apply stepsSeq2.val
  ·rintro b w' hE;have HE:=zh hE;have a2':=Below.keep hE.1 a2;have c2':=Below.keep hE.1 c2;clear hE;try simp only [Act.put,zs1,zs3,zs2]
   go_wp2;exact ⟨rfl,HE.out⟩
  try simp only [Act.put,zs1,zs3,zs2]
  apply stepsSeq2.back
  ·rintro w' hE;have HE:=zh hE;clear hE;have hix:=zg7 n hn w2.heap.size;try simp only [Act.put,zs1,zs3,zs2]
   go_wp2;first | exact ⟨rfl,HE.out⟩ | exact ⟨rfl,HE.out.1,HE.out.2.2 trivial⟩
  try simp only [Act.put,zs1,zs3,zs2]
  refine stepsSeq2.nil ?_;rintro w3 ⟨hb23,-,hE1⟩;have hgO:=hE1 (by trivial);have HC3:=zh (HC.out (w2.heap.size+1+n) _ _ w3 (H2.out.below hb23) (HA2.out.below hb23 (zr _)) (HN2.out.below hb23 (zr _)) (by omega) (by omega) hgO (by omega));have HR3:=zh (HR2.out.below hb23 (zr _));have Hb3:=zh (Hb2.out.trans (hb23.mono Hb2.out.size));have Hsz3:Hid (w2.heap.size<=w3.heap.size):=zh hb23.size;clear hb23 hE1 hgO HC HLv a2 c2;try simp only [Act.put,zs1,zs3,zs2]
  go_wp2_with fail
  go_at_call 209;refine HC3.out.mono ?_;intro e4 w4 he4;clear HC3
  cases R with
  | err a c =>
   obtain ⟨he4,hT4⟩:=he4;unfold Bad at he4;subst he4;have HT4:=zh hT4;clear hT4;go_wp2_with fail
   exact ⟨rfl,rfl,(Turns.below Hb3.out).trans HT4.out⟩
  | ok x j =>
   obtain ⟨u,rfl,⟨cs4,rfl,hX4⟩,hP4,hT4⟩:=he4;obtain ⟨op4,n4,name4,args4⟩:=x;obtain ⟨aa,cp,rfl⟩:=hX4.form1;have hR4:=hT4.own HR3.out (by omega);obtain ⟨r0,r1,r2,r3⟩:=yc4 hR4;have rf:=hR4.free;have HX4:=zh hX4;have HP4:=zh hP4;have HT4:=zh ((Turns.below Hb3.out).trans hT4);clear hX4 hP4 hT4 hR4;go_wp2_with fail
   refine yE (v:=.agg #[.int .u8 op4,.int .i64 n4,.string (bstr name4),.slice aa args4.length cp]) (by simp [results,Tryz.results170,go_sem,r0,r1,r2,r3]) rfl ⟨_,rfl,⟨_,rfl,?_⟩,?_,?_⟩
   ·have hP:¬ (w3.heap.size<=w.heap.size+1+1):=by have:=Hsz3.out;omega
    exact ((((HX4.out.set hP).set hP).set hP).set hP).weak fun b _ h=>by have:=Hsz3.out;omega
   ·exact HP4.out.only (S:=fun b=>b=w.heap.size+1+1) (((((Turns.refl (w.heap.size+1+1) w4).set _ _).set _ _).set _ _).set _ _) (by omega) (fun b hb=>by have:=hv b hb;omega)
   ·exact (((HT4.out.setNew (by omega) _).setNew (by omega) _).setNew (by omega) _).setNew (by omega) _
theorem zj9 {l:List Tok} {p:Nat} {v:Value} {i:Nat} (D:Nat->Nat->PR Ex) (hU:∀ j o W,i<=j->o<=300->PSt W p v l j o->Calls Tryz.prog 208 #[.pointer (some ⟨p,0,none⟩)] W (RdE l p v o W (ExN W.heap.size) (D j o))):LevC l p v i 5 D:=by
 intro i1 o w hi1 ho h;have hlt:=h.lt;have hv:=zao h;have HU:Hid (∀ W,PSt W p v l i1 o->Calls Tryz.prog 208 #[.pointer (some ⟨p,0,none⟩)] W (RdE l p v o W (ExN W.heap.size) (D i1 o))):=zh (fun W hP=>hU i1 o W hi1 ho hP)
 generalize D i1 o=R at *
 have HLv:=zh za7
 obtain ⟨W1,hW1,hb1,hA1,hN1,hR1⟩:∃ W1,W1=((w.alloc (.cells #[.pointer (some ⟨p,0,none⟩)] 122)).alloc (.cells #[.int .i64 5] 3)).alloc (.cells #[.int .u8 0,.int .i64 0,.string { data:=#[] },.slice none 0 0] 193)/\Below w.heap.size w W1/\OwnV W1 w.heap.size 122 [.pointer (some ⟨p,0,none⟩)]/\OwnV W1 (w.heap.size+1) 3 [.int .i64 5]/\OwnV W1 (w.heap.size+1+1) 193 zeroE:=
  ⟨_,rfl,(((yR _ _).alloc (zr _) _).alloc (by simp) _).alloc (by simp;omega) _,((OwnV.new _ _ _).alloc _).alloc _,(za6 _ _ _ (by simp)).alloc _,za6 _ _ _ (by simp)⟩
 have a0:=hA1.cell (i:=0) rfl;have c0:=hN1.cell (i:=0) rfl;have HW1:=zh hW1;have Hb1:=zh hb1;have HA1:=zh hA1;have HR1:=zh hR1;have H1:=zh (h.below hb1);clear hW1 hb1 hA1 hN1 hR1 h hU;go_enter Tryz.func170,Tryz.ntmps170
 go_upto_region 1 with (fail)
 rw [<- HW1.out];go_cut [8] (fun t8 wx=>t8=.bool true/\Below W1.heap.size W1 wx)
 case first =>
  go_region_with ((go_at_call 142;refine (HLv.out _).mono ?_;rintro e2 w2 ⟨rfl,-,hb2⟩;have hb12:Below W1.heap.size W1 w2:=Below.trans (b:=W1.drew) (yR _ _).drew hb2;have c0:=Below.keep hb12 c0))
  all_goals
   go_wp2_with fail
   go_meet;exact ⟨rfl,hb12⟩
 case rest =>
  obtain ⟨rfl,hb12⟩:=hcut;obtain ⟨w2,hw2⟩:∃ w2,w2=wc:=⟨_,rfl⟩;subst hw2;have HA2:=zh (HA1.out.below hb12 (zr _));have HR2:=zh (HR1.out.below hb12 (zr _));have HU2:=zh (HU.out _ (H1.out.below hb12));have Hb2:=zh (Hb1.out.trans (hb12.mono Hb1.out.size));have a2:=HA2.out.cell (i:=0) rfl;have hp2:=HR2.out.lt;clear hb12 a0 c0 HU HLv;go_wp2_with fail
  go_at_call 208;refine HU2.out.mono ?_;intro e4 w4 he4;clear HU2
  cases R with
  | err a c =>
   obtain ⟨he4,hT4⟩:=he4;unfold Bad at he4;subst he4;have HT4:=zh hT4;clear hT4;go_wp2_with fail
   exact ⟨rfl,rfl,(Turns.below Hb2.out).trans HT4.out⟩
  | ok x j =>
   obtain ⟨u,rfl,⟨cs4,rfl,hX4⟩,hP4,hT4⟩:=he4;obtain ⟨op4,n4,name4,args4⟩:=x;obtain ⟨aa,cp,rfl⟩:=hX4.form1;have hR4:=hT4.own HR2.out (by omega);obtain ⟨r0,r1,r2,r3⟩:=yc4 hR4;have rf:=hR4.free;have HX4:=zh hX4;have HP4:=zh hP4;have HT4:=zh ((Turns.below Hb2.out).trans hT4);clear hX4 hP4 hT4 hR4;go_wp2_with fail
   refine yE (v:=.agg #[.int .u8 op4,.int .i64 n4,.string (bstr name4),.slice aa args4.length cp]) (by simp [results,Tryz.results170,go_sem,r0,r1,r2,r3]) rfl ⟨_,rfl,⟨_,rfl,?_⟩,?_,?_⟩
   ·have hP:¬ (w2.heap.size<=w.heap.size+1+1):=by omega
    exact ((((HX4.out.set hP).set hP).set hP).set hP).weak fun b _ h=>by omega
   ·exact HP4.out.only (S:=fun b=>b=w.heap.size+1+1) (((((Turns.refl (w.heap.size+1+1) w4).set _ _).set _ _).set _ _).set _ _) (by omega) (fun b hb=>by have:=hv b hb;omega)
   ·exact (((HT4.out.setNew (by omega) _).setNew (by omega) _).setNew (by omega) _).setNew (by omega) _
theorem zm9 {l:List Tok} {p:Nat} {v:Value} {i o:Nat} {w:World} (h:PSt w p v l i o) (ho:o<=300) (D:Nat->Nat->PR Ex) (hD:LevC l p v i 0 D) :
  Calls Tryz.prog 130 #[.pointer (some ⟨p,0,none⟩)] w (RdE l p v o w (ExN w.heap.size) (D i o)):=by
 obtain ⟨W1,hW1,hb1,hR1⟩:∃ W1,W1=w.alloc (.cells #[.int .u8 0,.int .i64 0,.string { data:=#[] },.slice none 0 0] 193)/\Below w.heap.size w W1/\OwnV W1 w.heap.size 193 zeroE:=⟨_,rfl,(yR _ _).alloc (zr _) _,OwnV.new _ _ _⟩;have HC:=zh (hD i o W1 (zr _) ho (h.below hb1));have hlt:=h.lt;have hv:=zao h;have HW1:=zh hW1;have Hb1:=zh hb1;have HR1:=zh hR1;clear hW1 hb1 hR1 h hD
 generalize D i o=R at *
 go_enter Tryz.func130,Tryz.ntmps130
 go_upto_region 1 with (fail)
 rw [<- HW1.out];go_wp2_with fail
 go_at_call 170;refine HC.out.mono ?_;intro e4 w4 he4;clear HC
 cases R with
 | err a c =>
  obtain ⟨he4,hT4⟩:=he4;unfold Bad at he4;subst he4;have HT4:=zh hT4;clear hT4;go_wp2_with fail
  exact ⟨rfl,rfl,(Turns.below Hb1.out).trans HT4.out⟩
 | ok x j =>
  obtain ⟨u,rfl,⟨cs4,rfl,hX4⟩,hP4,hT4⟩:=he4;obtain ⟨op4,n4,name4,args4⟩:=x;obtain ⟨aa,cp,rfl⟩:=hX4.form1;have hR4:=hT4.own HR1.out (by omega);obtain ⟨r0,r1,r2,r3⟩:=yc4 hR4;have rf:=hR4.free;have HX4:=zh hX4;have HP4:=zh hP4;have HT4:=zh ((Turns.below Hb1.out).trans hT4);have Hlt1:=zh HR1.out.lt;clear hX4 hP4 hT4 hR4;go_wp2_with fail
  refine yE (v:=.agg #[.int .u8 op4,.int .i64 n4,.string (bstr name4),.slice aa args4.length cp]) (by simp [results,Tryz.results130,go_sem,r0,r1,r2,r3]) rfl ⟨_,rfl,⟨_,rfl,?_⟩,?_,?_⟩
  ·have hP:¬ (W1.heap.size<=w.heap.size):=by have:=Hlt1.out;omega
   exact ((((HX4.out.set hP).set hP).set hP).set hP).weak fun b _ h=>by have:=Hlt1.out;omega
  ·exact HP4.out.only (S:=fun b=>b=w.heap.size) (((((Turns.refl w.heap.size w4).set _ _).set _ _).set _ _).set _ _) (by omega) (fun b hb=>by have:=hv b hb;omega)
  ·exact (((HT4.out.setNew (zr _) _).setNew (zr _) _).setNew (zr _) _).setNew (zr _) _
def XsV (m : Nat) (W : World) (xs : List Ex) (u : Value) : Prop := ∃ cs, W.ownsRow m 193 4 u xs.length cs /\ ExsC W (fun b => m <= b /\ u.ownBlock ≠ some b) xs cs
def XsBox (m gl : Nat) (W : World) (xs : List Ex) : Prop := ∃ u, OwnV W gl 182 [u] /\ XsV m W xs u
theorem XsV.only {S:Nat->Prop} {m:Nat} {W W':World} {xs:List Ex} {u:Value} (h:XsV m W xs u) (ho:Only S W W') (hS:∀ b,S b->b < m):XsV m W' xs u:=by
 obtain ⟨cs,h1,h2⟩:=h;refine ⟨cs,ho.row h1 (fun g hg hs=>by have:=(h1.lt g hg).1;have:=hS g hs;omega),?_⟩;clear h1
 induction h2 with
 | nil=>exact .nil
 | cons g1 g2 _ _ ih1 ih2=>exact .cons (ho.sl g1 (g2.imp id fun k b hb hs=>by have:=(k b hb).1;have:=hS b hs;omega)) g2 ih1 ih2
theorem XsBox.turns {m gl p:Nat} {W W':World} {xs:List Ex} (h:XsBox m gl W xs) (ht:Turns p W W') (hp:p < m) (hg:gl≠p):XsBox m gl W' xs:=by
 obtain ⟨u,hO,hX⟩:=h;exact ⟨u,ht.own hO hg,hX.only ht (fun b e=>by cases e;exact hp)⟩
theorem zeg {w:World} {m m':Nat} {e:TypeId} {sz n:Nat} {v:Value} {cs:List Value} (h:w.ownsRow m e sz v n cs) (hm:m'<=m):w.ownsRow m' e sz v n cs:=by
 refine ⟨h.1,h.2.imp id ?_⟩;rintro ⟨g,cap,cur,e1,e2,r⟩;exact ⟨g,cap,cur,e1,by omega,r⟩
theorem XsV.low {m m':Nat} {W:World} {xs:List Ex} {u:Value} (h:XsV m W xs u) (hm:m'<=m):XsV m' W xs u:=by
 obtain ⟨cs,h1,h2⟩:=h;exact ⟨cs,zeg h1 hm,h2.weak fun b _ k=>⟨by omega,k.2⟩⟩
theorem zcd {w:World} {m:Nat} {e:TypeId} {sz k:Nat} {v:Value} {cs:List Value} (h:w.ownsRow m e sz v (k+1) cs):∃ g cap,v=.slice (some ⟨g,0,none⟩) (k+1) cap/\m<=g:=by
 rcases h.2 with ⟨_,h0⟩ | ⟨g,cap,cur,e1,e2,_⟩
 ·omega
 ·exact ⟨g,cap,e1,e2⟩
theorem zcw {w:World} {g:Nat} {e:TypeId} {cs:List Value} (h:OwnV w g e cs) {sz n cap:Nat} (hl:cs.length=n * sz) (hn:n<=cap) (hm:cap<=9223372036854775807):Sl w sz n cs (.slice (some ⟨g,0,none⟩) n cap):=
 ⟨some ⟨g,0,none⟩,cap,rfl,hn,hm,hl,fun _=>⟨g,0,rfl,fun j hj=>by rw [Nat.zero_add,h.cell (yD (by omega)),yD (by omega)]⟩⟩
theorem zd1:zeroE.all (fun u=>u.oneCell')=true:=rfl
theorem zez {w:World} {m g k cap:Nat} {cs:List Value} (h:w.ownsRow m 193 4 (.slice (some ⟨g,0,none⟩) (k+1) cap) (k+1) (cs++zeroE)) :
  w.cell? ⟨g,k * 4,none⟩=some (.int .u8 0)/\w.cell? ⟨g,k * 4+1,none⟩=some (.int .i64 0)/\w.cell? ⟨g,k * 4+2,none⟩=some (.string { data:=#[] })/\w.cell? ⟨g,k * 4+3,none⟩=some (.slice none 0 0):=by
 have hl:cs.length=k * 4:=by
  have:=h.1;rw [yA] at this;have:zeroE.length=4:=rfl;omega
 refine ⟨?_,?_,?_,?_⟩
 all_goals
  rw [h.cellAt _ (by omega),List.getElem?_append_right (by omega),hl];simp [zeroE]
theorem zmv (cs:List Value) (z0 z1 z2 z3 a b c d:Value) (k:Nat) (hk:cs.length=k):((((cs++[z0,z1,z2,z3]).set k a).set (k+1) b).set (k+2) c).set (k+3) d=cs++[a,b,c,d]:=by
 subst hk;rw [List.set_append_right _ _ (by omega),List.set_append_right _ _ (by omega),List.set_append_right _ _ (by omega),List.set_append_right _ _ (by omega)];simp
theorem zg8 {w:World} {m g j cap:Nat} {cs:List Value} {z0 z1 z2 z3:Value} (h:w.ownsRow m 193 4 (.slice (some ⟨g,0,none⟩) (j+1) cap) (j+1) (cs++[z0,z1,z2,z3])) (hc:cs.length=j * 4) (a b c d:Value) :
  ((((w.setCell ⟨g,j * 4,none⟩ a).setCell ⟨g,j * 4+1,none⟩ b).setCell ⟨g,j * 4+2,none⟩ c).setCell ⟨g,j * 4+3,none⟩ d).ownsRow m 193 4 (.slice (some ⟨g,0,none⟩) (j+1) cap) (j+1) (cs++[a,b,c,d]):=by
 have:=((((h.stored (j * 4) a).1.stored (j * 4+1) b).1.stored (j * 4+2) c).1.stored (j * 4+3) d).1;rwa [zmv _ _ _ _ _ _ _ _ _ _ hc] at this
theorem ExsC.only {S P:Nat->Prop} {w w':World} {xs:List Ex} {cs:List Value} (h:ExsC w P xs cs) (ho:Only S w w') (hS:∀ b,P b->¬ S b):ExsC w' P xs cs:=by
 induction h with
 | nil=>exact .nil
 | cons g1 g2 _ _ ih1 ih2=>exact .cons (ho.sl g1 (g2.imp id fun k b hb=>hS b (k b hb))) g2 ih1 ih2
theorem zjE {wr w5 X w6:World} {m p k:Nat} {u u':Value} {x:Ex} {xs:List Ex} {cs cx:List Value} (hR:wr.ownsRow m 193 4 u k cs) (hX:ExsC wr (fun b=>m<=b/\u.ownBlock≠some b) xs cs) (hT:Turns p wr w5) (hp:p < m) (hX5:ExsC w5 (fun b=>wr.heap.size<=b) [x] cx) (hm:m<=wr.heap.size)
  (hb:Below w5.heap.size w5 X) (hg:X.grownBy w6 u.ownBlock) (hat:u'.ownBlock=u.ownBlock∨∃ g,u'.ownBlock=some g/\X.heap.size<=g):ExsC w6 (fun b=>m<=b/\u'.ownBlock≠some b) (xs++[x]) (cs++cx):=by
 have h1:ExsC w5 (fun b=>m<=b/\u.ownBlock≠some b) (xs++[x]) (cs++cx):=(hX.only hT (fun b h e=>by have:=h.1;omega)).append (hX5.weak fun b _ h=>⟨yT hm h,fun e=>by have:=(hR.lt b e).2;omega⟩)
 have h2:ExsC w5 (fun b=>(m<=b/\u'.ownBlock≠some b)/\u.ownBlock≠some b) (xs++[x]) (cs++cx):=h1.weak fun b hlt h=>⟨⟨h.1,fun e=>by
  rcases hat with h' | ⟨g,h',hge⟩
  ·rw [h'] at e;exact h.2 e
  ·rw [h'] at e;cases e;have:=hb.size;omega⟩,h.2⟩
 exact ((h2.under hb (zr _)).grown hg (fun b e h=>h.2 e)).weak fun b _ h=>h.1
theorem zdj {w wr w5 X w6 W7:World} {p gl g6 k cap6 j2 o1:Nat} {u v a b c d:Value} {l:List Tok} {x:Ex} {xs:List Ex} {cs:List Value} (hT1:Only (fun b=>b=p∨b=gl) w wr) (hp:p < w.heap.size) (hgl:gl < w.heap.size) (n3:gl≠p) (hv:∀ b,v.ownBlock=some b->b < w.heap.size) (hvl:∀ b,v.ownBlock=some b->b≠gl)
  (hR1:wr.ownsRow w.heap.size 193 4 u k cs) (hX1:ExsC wr (fun b=>w.heap.size<=b/\u.ownBlock≠some b) xs cs) (hT5:Turns p wr w5) (hP5:PSt w5 p v l j2 o1) (hX5:ExsC w5 (fun b=>wr.heap.size<=b) [x] [a,b,c,d]) (hL5:OwnV w5 gl 182 [u])
  (hb:Below w5.heap.size w5 X) (hg:X.grownBy w6 u.ownBlock) (hat:(Value.slice (some ⟨g6,0,none⟩) (k+1) cap6).ownBlock=u.ownBlock∨∃ g,(Value.slice (some ⟨g6,0,none⟩) (k+1) cap6).ownBlock=some g/\X.heap.size<=g) (hown:w6.ownsRow w.heap.size 193 4 (.slice (some ⟨g6,0,none⟩) (k+1) cap6) (k+1) (cs++zeroE))
  (hW:W7=(((((w6.setCell ⟨g6,k * 4,none⟩ a).setCell ⟨g6,k * 4+1,none⟩ b).setCell ⟨g6,k * 4+2,none⟩ c).setCell ⟨g6,k * 4+3,none⟩ d).setCell ⟨gl,0,none⟩ (.slice (some ⟨g6,0,none⟩) (k+1) cap6))∨W7=(((((w6.setCell ⟨gl,0,none⟩ (.slice (some ⟨g6,0,none⟩) (k+1) cap6)).setCell ⟨g6,k * 4,none⟩ a).setCell ⟨g6,k * 4+1,none⟩ b).setCell ⟨g6,k * 4+2,none⟩ c).setCell ⟨g6,k * 4+3,none⟩ d)) :
  PSt W7 p v l j2 o1/\OwnV W7 gl 182 [.slice (some ⟨g6,0,none⟩) (k+1) cap6]/\W7.ownsRow w.heap.size 193 4 (.slice (some ⟨g6,0,none⟩) (k+1) cap6) (k+1) (cs++[a,b,c,d])/\ExsC W7 (fun b=>w.heap.size<=b/\(Value.slice (some ⟨g6,0,none⟩) (k+1) cap6).ownBlock≠some b) (xs++[x]) (cs++[a,b,c,d])/\Only (fun b=>b=p∨b=gl) w W7:=by
 have hsz:=hT1.size;have hu:∀ g,u.ownBlock=some g->w.heap.size<=g:=fun g e=>(hR1.lt g e).1
 have hg6:w.heap.size<=g6:=(hown.lt g6 rfl).1;have h56:Only (fun b=>u.ownBlock=some b) w5 w6:=(Only.of_below hb).trans (Only.of_grown hg (fun g e=>e))
 have h67:Only (fun b=>b=g6∨b=gl) w6 W7:=by
  rcases hW with rfl | rfl
  ·exact Only.setCell (Only.setCell (Only.setCell (Only.setCell (Only.setCell (Only.refl _ w6) (.inr (.inl rfl)) _) (.inr (.inl rfl)) _) (.inr (.inl rfl)) _) (.inr (.inl rfl)) _) (.inr (.inr rfl)) _
  ·exact Only.setCell (Only.setCell (Only.setCell (Only.setCell (Only.setCell (Only.refl _ w6) (.inr (.inr rfl)) _) (.inr (.inl rfl)) _) (.inr (.inl rfl)) _) (.inr (.inl rfl)) _) (.inr (.inl rfl)) _
 have hcl:cs.length=k * 4:=hR1.1;have hL6:OwnV w6 gl 182 [u]:=h56.own hL5 (fun e=>by have:=hu _ e;omega)
 refine ⟨(hP5.only h56 (fun e=>by have:=hu _ e;omega) (fun g e e2=>by have:=hu _ e2;have:=hv g e;omega)).only h67 (fun e=>by rcases e with e | e <;> omega) (fun g e e2=>e2.elim (fun e2=>by have:=hv g e;omega) (hvl g e)),?_,?_,(zjE hR1 hX1 hT5 hp hX5 hsz hb hg hat).only h67 (fun b h e=>by
   rcases e with e | e
   ·exact h.2 (by rw [e];rfl)
   ·have:=h.1;omega),?_⟩
 ·rcases hW with rfl | rfl
  ·exact ((((hL6.set_ne (by omega) _).set_ne (by omega) _).set_ne (by omega) _).set_ne (by omega) _).set 0 _
  ·exact ((((hL6.set 0 _).set_ne (by omega) _).set_ne (by omega) _).set_ne (by omega) _).set_ne (by omega) _
 ·rcases hW with rfl | rfl
  ·exact Only.row (S:=fun b=>b=gl) (Only.setCell (Only.refl _ _) (.inr (Eq.refl gl)) _) (zg8 hown hcl a b c d) (fun g e e2=>by have:=(hown.lt g e).1;omega)
  ·exact zg8 (Only.row (S:=fun b=>b=gl) (Only.setCell (Only.refl _ _) (.inr (Eq.refl gl)) _) hown (fun g e e2=>by have:=(hown.lt g e).1;omega)) hcl a b c d
 ·exact ((hT1.trans (hT5.mono fun _ _ e=>.inl e)).transNew h56 (fun i e=>.inr (hu i e))).transNew h67 (fun i e=>by
   rcases e with e | e
   ·exact .inr (by omega)
   ·exact .inl (.inr e))
end Go.Proofs.YtdhikpkecmaplaaGreatDoor
