/- The layer patch: Withdraw, walked. -/
import Derived.Test.YtdhikpkecmaplaaGreatDoorPtDlPk
import Derived.Test.YtdhikpkecmaplaaGreatDoorPtStMk
set_option linter.unusedSimpArgs false
set_option linter.unusedVariables false
set_option maxRecDepth 100000
set_option maxHeartbeats 4000000
namespace Go.Proofs.YtdhikpkecmaplaaGreatDoor
open Go.RowKit

theorem erase_at {α:Type} {q:α->Bool}:∀ (l:List α) (k:Nat) (h:k < l.length),q l[k]=true->(l.take k).any q=false->l.take k++l.drop (k+1)=l.eraseP q:=by
 intro l
 induction l with
 | nil=>intro k h;simp at h
 | cons x r ih =>
  intro k h h1 h2
  cases k with
  | zero=>rw [List.eraseP_cons_of_pos (by exact h1)];rfl
  | succ k =>
   rw [List.take_succ_cons,List.any_cons,Bool.or_eq_false_iff] at h2;rw [List.take_succ_cons,List.drop_succ_cons,List.eraseP_cons_of_neg (by rw [h2.1];decide),List.cons_append];congr 1
   exact ih k (by simpa using h) (by simpa using h1) h2.2
def WdE (w w' : World) (ys : List Sys) (e : Ending) : Option Bk × Int -> Prop
  | (none, x) => e = .returned (.tuple #[zor, .int .i64 x]) /\ x ≠ 0
  | (some c, _) => ∃ us uc up, e = .returned (.tuple #[bkV c us uc up, .int .i64 0]) /\ BkOwn w.heap.size w' ys c us uc up
theorem wd_bad {base:Nat->Bool} {R:Int->List UInt8->Bool} {b:Bk} {p:Pt} (h:znM base R b=false):withdrawB base R b p=(none,2):=if_pos h
theorem wd_none {base:Nat->Bool} {R:Int->List UInt8->Bool} {b:Bk} {p:Pt} (h:znM base R b=true) (g:(b.pend.any fun x=>x.same p)=false):withdrawB base R b p=(none,6):=by
 unfold withdrawB;rw [if_neg (by rw [h];decide),if_pos g]
theorem wd_ok {base:Nat->Bool} {R:Int->List UInt8->Bool} {b:Bk} {p:Pt} (h:znM base R b=true) (g:(b.pend.any fun x=>x.same p)=true):withdrawB base R b p=(some { b with pend:=b.pend.eraseP fun x=>x.same p },0):=by
 unfold withdrawB;rw [if_neg (by rw [h];decide),if_neg (by rw [g];decide)]
theorem withdraw_any {w:World} {ys:List Sys} {b:Bk} {p:Pt} {vs vc vp:Value} (hG:Glob w) (hOk:BkOk ys b) (hB:BkIn w.heap.size w ys b vs vc vp) :
  Calls Tryz.prog 19 #[bkV b vs vc vp,.int .i64 p.tick,.int .i64 p.slot] w fun e w'=>WdE w w' ys e (withdrawB (znI ys) (rOf (errE ys)) b p)/\Below w.heap.size w w':=by
 obtain ⟨ay,cs,rfl,hcs1,hcs2⟩:=hB.sys.form;obtain ⟨ac,cc,rfl,hcc1,hcc2⟩:=hB.scr.form;obtain ⟨ap,cp,rfl,hcp1,hcp2⟩:=hB.pend.form;obtain ⟨W0,hW0,hb0,hX,hU,hs0⟩:=zqb w [.int .i64 b.tick,.slice ay ys.length cs,.slice ac b.scr.length cc,.slice ap b.pend.length cp] [.int .i64 0,.slice none 0 0,.slice none 0 0,.slice none 0 0] 26 26;have hs0a:W0.heap.size<=w.heap.size+2:=by omega
 have hs0b:w.heap.size+2<=W0.heap.size:=by omega
 clear hs0;have HVa:=zh (zri (hG.below hb0 hG.size) hOk ((hB.below hb0).mono (by omega)));have HB0:Hid (BkIn w.heap.size W0 ys b (.slice ay ys.length cs) (.slice ac b.scr.length cc) (.slice ap b.pend.length cp)):=zh (hB.below hb0);have HF:=zh (fun (W:World) (h:BkIn w.heap.size W ys b (.slice ay ys.length cs) (.slice ac b.scr.length cc) (.slice ap b.pend.length cp))=>zr7 (w:=W) (tick:=p.tick) (slot:=p.slot) (t:=b.tick) h.pend (Sl.isSl h.scr) (Sl.isSl h.sys) p.src);unfold bkV at HVa ⊢;obtain ⟨q,hq⟩:∃ q,znM (znI ys) (rOf (errE ys)) b=q:=⟨_,rfl⟩;have Hq:=zh hq;rw [hq] at HVa;obtain ⟨final,hfin⟩:∃ r,withdrawB (znI ys) (rOf (errE ys)) b p=r:=⟨_,rfl⟩;have Hfin:=zh hfin;rw [hfin];obtain ⟨x0,x1,x2,x3⟩:=yc4 hX;have HX:=zh hX;have HU:=zh hU;have Hb0:=zh hb0;have HW0:=zh hW0;clear hq hfin hG hOk hB hX hU hb0 hW0;go_enter Tryz.func19,Tryz.ntmps19
 go_upto_region 1 with (fail)
 rw [<- HW0.out];go_wp2_with fail
 go_at_call 15;refine HVa.out.mono ?_;rintro e1 w1 ⟨rfl,hb1⟩;have hs1:=hb1.size;have HX1:=zh (HX.out.below hb1 (zr _));have HU1:=zh (HU.out.below hb1 (zr _));have HB1:=zh (HB0.out.below (hb1.mono (by omega)));have Hb1:=zh (Hb0.out.trans (hb1.mono (by omega)));clear hb1 HX HU HB0 HVa x0 x1 x2 x3
 cases q with
 | false =>
  have Hf:Hid (final=(none,2)):=zh (by rw [<- Hfin.out];exact wd_bad Hq.out);obtain ⟨u0,u1,u2,u3⟩:=yc4 HU1.out;have uf:=HU1.out.free;obtain ⟨W9,hW9,hX9,hg9⟩:=set4 HU1.out (.int .i64 0) (.slice none 0 0) (.slice none 0 0) (.slice none 0 0);have HX9:=zh hX9;have HW9:=zh hW9;have Hb9:=zh (Hb1.out.trans (zbz (B:=w.heap.size) hg9 (by omega) (by omega)));clear hX9 hW9 hg9 Hfin Hq;go_wp2_with fail
  rw [<- HW9.out];obtain ⟨q0,q1,q2,q3⟩:=yc4 HX9.out;refine bodyPost_ret (v:=.tuple #[zor,.int .i64 2]) (by simp [results,Tryz.results19,go_sem,q0,q1,q2,q3,zor]) rfl ⟨?_,Hb9.out⟩;rw [Hf.out]
  exact ⟨rfl,by decide⟩
 | true =>
 obtain ⟨x0,x1,x2,x3⟩:=yc4 HX1.out;go_wp2_with fail
 go_at_call 53;refine (HF.out _ HB1.out).mono ?_;rintro e2 w2 ⟨⟨i,rfl,hi⟩,hb2⟩;have hs2:=hb2.size;have HX2:=zh (HX1.out.below hb2 (zr _));have HU2:=zh (HU1.out.below hb2 (zr _));have HB2:=zh (HB1.out.below (hb2.mono (by omega)));have Hb2:=zh (Hb1.out.trans (hb2.mono (by omega)));clear hb2 HX1 HU1 HB1 HF x0 x1 x2 x3 Hb1;rcases hi with ⟨rfl,hany⟩ | ⟨k,hk,rfl,hq1,hq2⟩
 ·have Hf:Hid (final=(none,6)):=zh (by rw [<- Hfin.out];exact wd_none Hq.out hany);obtain ⟨u0,u1,u2,u3⟩:=yc4 HU2.out;have uf:=HU2.out.free;obtain ⟨W9,hW9,hX9,hg9⟩:=set4 HU2.out (.int .i64 0) (.slice none 0 0) (.slice none 0 0) (.slice none 0 0);have HX9:=zh hX9;have HW9:=zh hW9;have Hb9:=zh (Hb2.out.trans (zbz (B:=w.heap.size) hg9 (by omega) (by omega)));clear hX9 hW9 hg9 Hfin Hq hany;go_wp2_with fail
  rw [<- HW9.out];obtain ⟨q0,q1,q2,q3⟩:=yc4 HX9.out;refine bodyPost_ret (v:=.tuple #[zor,.int .i64 6]) (by simp [results,Tryz.results19,go_sem,q0,q1,q2,q3,zor]) rfl ⟨?_,Hb9.out⟩;rw [Hf.out];exact ⟨rfl,by decide⟩
 ·have hany:(b.pend.any fun x=>x.same p)=true:=List.any_eq_true.2 ⟨b.pend[k],List.getElem_mem hk,hq1⟩;have HE:Hid (b.pend.take k++b.pend.drop (k+1)=b.pend.eraseP fun x=>x.same p):=zh (erase_at b.pend k hk hq1 hq2);have Hf:Hid (final=(some { b with pend:=b.pend.eraseP fun x=>x.same p },0)):=zh (by rw [<- Hfin.out];exact wd_ok Hq.out hany);have hv:=valid_iff.1 Hq.out;have hy16:=zph hv.sys;have hv1:=hv.many;have hv2:=hv.room;have HOw:=zh (zrn (HB2.out.mono (by omega)) (zr _) (by omega) (by omega) (by omega));unfold bkV at HOw;obtain ⟨x0,x1,x2,x3⟩:=yc4 HX2.out;have hk0:¬ (k:Int) < 0:=by omega
  clear Hfin Hq hv hany hq1 hq2;go_wp2_with fail
  go_at_call 55;refine HOw.out.mono ?_;rintro e5 w5 ⟨⟨us,uc,up,rfl,hO5⟩,hb5⟩;obtain ⟨a5,k5,rfl,-,-⟩:=Sl.form (Sl.of_own hO5.sys);obtain ⟨a6,k6,rfl,-,-⟩:=Sl.form (Sl.of_own hO5.scr);obtain ⟨a7,k7,rfl,-,-⟩:=Sl.form (Sl.of_own hO5.pend);have hs5:=hb5.size;have hbx:=HX2.out.below hb5 (zr _);obtain ⟨b0,b1,b2,b3⟩:=yc4 hbx;have bf:=hbx.free;obtain ⟨W6,hW6,hX6,hg6⟩:=set4 hbx (.int .i64 b.tick) (.slice a5 ys.length k5) (.slice a6 b.scr.length k6) (.slice a7 b.pend.length k7);have ho6:Only (fun k=>k=w.heap.size) w5 W6:=Only.of_grown hg6 (fun r e=>by cases e;rfl);have hs6:=ho6.size
  have HO6:Hid (BkOwn w2.heap.size W6 ys b (.slice a5 ys.length k5) (.slice a6 b.scr.length k6) (.slice a7 b.pend.length k7)):=zh
   ⟨ho6.row hO5.sys (fun g hg e=>by have:=(hO5.sys.lt g hg).1;omega),ho6.row hO5.scr (fun g hg e=>by have:=(hO5.scr.lt g hg).1;omega),ho6.row hO5.pend (fun g hg e=>by have:=(hO5.pend.lt g hg).1;omega)⟩
  have HX6:=zh hX6;have HU6:=zh (ho6.own (HU2.out.below hb5 (zr _)) (by omega));have Hb6:=zh (Hb2.out.trans ((hb5.mono (by omega)).trans (ho6.below (B:=w.heap.size) (fun k e=>by omega) (by omega))));have HW6:=zh hW6;clear hb5 hbx hO5 hW6 hX6 hg6 ho6 HU2 Hb2 x0 x1 x2 x3 HOw HX2;go_upto_region 7 with (fail)
  rw [<- HW6.out];clear b0 b1 b2 b3 bf;have HD:=zh (delete_any HO6.out.pend (by omega) (by omega) hk);have x3:=HX6.out.cell (i:=3) rfl;have hkw:IntKind.i64.wrap ((k:Int)+1)=(k:Int)+1:=by rw [IntKind.wrap_i64];omega
  go_wp2_with fail
  go_at_call 59;refine HD.out.mono ?_;rintro e9 w9 ⟨⟨v9,rfl,ho9⟩,hb9,hg9⟩;rw [HE.out] at ho9;obtain ⟨a9,k9,rfl,-,-⟩:=Sl.form (Sl.of_own ho9);have hs9:=hb9.size;have hX9:=zo8 HX6.out hg9 (fun e=>by have:=(HO6.out.pend.lt _ e).1;omega);have hU9:=zo8 HU6.out hg9 (fun e=>by have:=(HO6.out.pend.lt _ e).1;omega);have hS9:=zn3 hg9 HO6.out.sys (zpd HO6.out.sys HO6.out.pend (by decide));have hC9:=zn3 hg9 HO6.out.scr (zpd HO6.out.scr HO6.out.pend (by decide));have b3:=hX9.cell (i:=3) rfl;have bf:=hX9.free;obtain ⟨N,hN⟩:∃ N,(b.pend.eraseP fun x=>x.same p).length=N:=⟨_,rfl⟩;have HN:=zh hN;rw [hN] at ho9 ⊢;obtain ⟨W10,hW10,hX10,ho10⟩:∃ W10,W10=w9.setCell ⟨w.heap.size,3,none⟩ (.slice a9 N k9)/\OwnV W10 w.heap.size 26 [.int .i64 b.tick,.slice a5 ys.length k5,.slice a6 b.scr.length k6,.slice a9 N k9]/\Only (fun k=>k=w.heap.size) w9 W10:=⟨_,rfl,hX9.set 3 _,(Only.refl (fun k=>k=w.heap.size) w9).setIn rfl _⟩;have hs10:=ho10.size;have hb10:=Hb6.out.trans ((hb9.mono (by omega)).trans (ho10.below (B:=w.heap.size) (fun k e=>by omega) (by omega)));have hr1:=ho10.row hS9 (fun g hg e=>by have:=(hS9.lt g hg).1;omega);have hr2:=ho10.row hC9 (fun g hg e=>by have:=(hC9.lt g hg).1;omega);have hr3:=ho10.row ho9 (fun g hg e=>by have:=(ho9.lt g hg).1;omega);have hU10:=ho10.own hU9 (by omega);have HW10:=zh hW10;have HX10:=zh hX10;clear hW10 ho10 hb9 hg9 hS9 hC9 ho9 hX9 hU9 hX10 x3 hN;go_upto_region 8 with (fail)
  rw [<- HW10.out];clear b3 bf;obtain ⟨b0,b1,b2,b3⟩:=yc4 HX10.out;obtain ⟨u0,u1,u2,u3⟩:=yc4 hU10;have uf:=hU10.free;obtain ⟨W11,hW11,hU11,hg11⟩:=set4 hU10 (.int .i64 b.tick) (.slice a5 ys.length k5) (.slice a6 b.scr.length k6) (.slice a9 N k9);have ho11:Only (fun k=>k=w.heap.size+1) W10 W11:=Only.of_grown hg11 (fun r e=>by cases e;rfl);have Hr1:=zh (znE (ho11.row hr1 (fun g hg e=>by have:=(hr1.lt g hg).1;omega)) (B':=w.heap.size) (by omega));have Hr2:=zh (znE (ho11.row hr2 (fun g hg e=>by have:=(hr2.lt g hg).1;omega)) (B':=w.heap.size) (by omega));have Hr3:=zh (znE (ho11.row hr3 (fun g hg e=>by have:=(hr3.lt g hg).1;omega)) (B':=w.heap.size) (by omega));have Hb11:=zh (hb10.trans (ho11.below (B:=w.heap.size) (fun k e=>by omega) (by omega)));have HW11:=zh hW11;have HU11:=zh hU11;clear hW11 hU11 hb10 hg11 ho11 hr1 hr2 hr3 hU10;go_wp2_with fail
  rw [<- HW11.out];obtain ⟨q0,q1,q2,q3⟩:=yc4 HU11.out;refine bodyPost_ret (v:=.tuple #[.agg #[.int .i64 b.tick,.slice a5 ys.length k5,.slice a6 b.scr.length k6,.slice a9 N k9],.int .i64 0]) (by simp [results,Tryz.results19,go_sem,q0,q1,q2,q3]) rfl ⟨?_,Hb11.out⟩;rw [Hf.out];exact ⟨_,_,_,rfl,Hr1.out,Hr2.out,by rw [show (Bk.pend _).length=N from HN.out];exact Hr3.out⟩
end Go.Proofs.YtdhikpkecmaplaaGreatDoor
