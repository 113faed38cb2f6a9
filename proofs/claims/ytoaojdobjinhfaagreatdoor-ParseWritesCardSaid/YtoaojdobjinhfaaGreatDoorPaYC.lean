/- The program's parser: statement, its greater cases. Printed by gen_pstmt.py. -/
import Derived.Test.YtoaojdobjinhfaaGreatDoorPaRC
import Derived.Test.YtoaojdobjinhfaaGreatDoorPaUC
set_option linter.unusedSimpArgs false
set_option linter.unusedVariables false
set_option maxRecDepth 100000
set_option maxHeartbeats 2000000
namespace Go.Proofs.YtoaojdobjinhfaaGreatDoor
open Go.RowKit

theorem zmy {w:World} {p:Nat} {v:Value} {l:List Tok} {i o:Nat} (h:PSt w p v l i o) (hE:PEnv l) (ho:o≤300) (f:Nat) (hk1:(zaa l i).kind=1) (hS:(zaa l i).text=[105,102]) (hB:∀ W,PSt W p v l i o→Calls Tryz.prog 129 #[.pointer (some ⟨p,0,none⟩)] W (RdE l p v o W (StN W.heap.size) (zau l (zan l f) (l.length+1 - i) i o))) :
  Calls Tryz.prog 91 #[.pointer (some ⟨p,0,none⟩)] w (RdE l p v o w (StN w.heap.size) (zan l (f+1) i o)):=by
 have hf:zan l (f+1) i o=zau l (zan l f) (l.length+1 - i) i o:=by
  rw [zan,if_neg (by rw [hk1];decide),if_neg (by rw [hS];decide),if_neg (by rw [hS];decide),if_pos (by rw [hS];decide)]
 rw [hf];clear hf;have HBr:=zh hB;have HK:Hid (∀ w:World,_):=zh (fun w:World=>za5 (zaa l i).text w);rw [show zap (zaa l i).text=0 from by rw [hS];decide] at HK;have e0:=zal (zaa l i).text [108,101,116];rw [show decide ((zaa l i).text=[108,101,116])=false from by rw [hS];decide] at e0;have e1:=zal (zaa l i).text [105,102];rw [show decide ((zaa l i).text=[105,102])=true from by rw [hS];decide] at e1;have e2:=zal (zaa l i).text [119,104,105,108,101];rw [show decide ((zaa l i).text=[119,104,105,108,101])=false from by rw [hS];decide] at e2;have e3:=zal (zaa l i).text [115,116,111,112];rw [show decide ((zaa l i).text=[115,116,111,112])=false from by rw [hS];decide] at e3;have e4:=zal (zaa l i).text [102,97,105,108];rw [show decide ((zaa l i).text=[102,97,105,108])=false from by rw [hS];decide] at e4;have hlt:=h.lt;have hv:=zao h;have hi2:(i:Int)≤16385:=by have:=h.here;have:=hE.small;omega
 obtain ⟨W0,hW0,hb0,hB0⟩:∃ W0,W0=w.alloc (.cells #[.int .u8 0,.int .i64 0,.string { data:=#[] },.slice none 0 0,.slice none 0 0,.slice none 0 0] 56)∧Below w.heap.size w W0∧OwnV W0 w.heap.size 56 zeroT:=⟨_,rfl,(Below.refl _ _).alloc (zr _) _,OwnV.new _ _ _⟩;have HN:=zh (zaQ (h.below hb0) hE);have H0:=zh (h.below hb0);have HW0:=zh hW0;have Hb0:=zh hb0;have HB0:=zh hB0
 generalize zau l (zan l f) (l.length+1 - i) i o=R at *
 have Hk1:=zh hk1;clear hk1 hS hB;clear hW0 hb0 hB0 h hE
 generalize zaa l i=T at *
 go_enter Tryz.func91,Tryz.ntmps91
 go_upto_region 1 with (fail)
 rw [← HW0.out];go_wp2_with fail
 go_at_call 89;refine HN.out.mono ?_;rintro e1 w1 ⟨rfl,hb1⟩;obtain ⟨W2,hW2,hb2,hT2⟩:∃ W2,W2=w1.alloc (.cells #[.int .u8 T.kind,.string (bstr T.text),.int .i64 T.n,.int .i64 T.line,.int .i64 T.col] 51)∧Below w1.heap.size w1 W2∧OwnV W2 w1.heap.size 51 [.int .u8 T.kind,.string (bstr T.text),.int .i64 T.n,.int .i64 T.line,.int .i64 T.col]:=⟨_,rfl,(Below.refl _ _).alloc (zr _) _,OwnV.new _ _ _⟩;have hs1:=hb1.size;have H2:=(H0.out.below hb1).below hb2;have hB2:=(HB0.out.below hb1 (zr _)).below hb2 (zr _);have hb02:=hb1.trans (hb2.mono hs1);have HW2:=zh hW2;have HH2:=zh H2;have HB2:=zh hB2;have HTk:=zh hT2;have hlt0:=HB0.out.lt;have Hb2:=zh (Hb0.out.trans (hb02.mono Hb0.out.size));have k0:=hT2.cell (i:=0) rfl;have k1:=hT2.cell (i:=1) rfl;have hlw:w1.heap.size < W2.heap.size:=hT2.lt;have hp1:p < W0.heap.size:=H0.out.lt;clear hW2 hb1 hb2 H2 hB2 hT2 hb02 HN;go_upto_region 2 with (fail)
 rw [← HW2.out];have hk3:(T.kind != 1)=false:=by simp [Hk1.out]
 go_wp2_with fail
 go_at_call 23;refine (HK.out _).mono ?_;rintro e4 w4 ⟨rfl,hb4⟩;have HH4:=zh (HH2.out.below hb4);have HB4:=zh (HB2.out.below hb4 (zr _));have HTk4:=zh (HTk.out.below hb4 (zr _));have Hb4:=zh (Hb2.out.trans (hb4.mono Hb2.out.size));have k1:=HTk4.out.cell (i:=1) rfl;have x1:=HH4.out.blk.cell (i:=1) rfl;have xf:=HH4.out.blk.free;have hs4:=HB4.out.lt;have hp4:=HH4.out.lt;clear hb4 x1 xf k0;go_upto_region 15 with (fail)
 clear k1;go_wp2_with fail
 go_at_call 129;refine (HBr.out _ HH4.out).mono ?_;intro e6 w6 he6;clear HBr
 cases R with
 | err a c =>
  obtain ⟨he6,hT6⟩:=he6;unfold Bad at he6;subst he6;have HT6:=zh hT6;clear hT6;go_wp2_with fail
  exact ⟨rfl,rfl,(Turns.below Hb4.out).trans HT6.out⟩
 | ok x j =>
  obtain ⟨u6,rfl,⟨cs6,rfl,hX6⟩,hP6,hT6⟩:=he6;obtain ⟨op,n,name,es,bo,el⟩:=x;obtain ⟨ae,pe,ab,pb,al,pl,rfl⟩:=hX6.form1;have hR6:=hT6.own HB4.out (by omega);have b0:=hR6.cell (i:=0) rfl;have b1:=hR6.cell (i:=1) rfl;have b2:=hR6.cell (i:=2) rfl;have b3:=hR6.cell (i:=3) rfl;have b4:=hR6.cell (i:=4) rfl;have b5:=hR6.cell (i:=5) rfl;have bf:=hR6.free;have HX6:=zh hX6;have HP6:=zh hP6;have HT6:Hid (Turns p w w6):=zh ((Turns.below Hb4.out).trans hT6);clear hX6 hP6 hT6 hR6;go_wp2_with fail
  refine bodyPost_ret (v:=.agg #[.int .u8 op,.int .i64 n,.string (bstr name),.slice ae es.length pe,.slice ab bo.length pb,.slice al el.length pl]) (by simp [results,Tryz.results91,go_sem,b0,b1,b2,b3,b4,b5]) rfl ⟨_,rfl,⟨_,rfl,?_⟩,?_,?_⟩
  ·exact (HX6.out.only (S:=fun b=>b=w.heap.size) (((((((Turns.refl w.heap.size w6).set _ _).set _ _).set _ _).set _ _).set _ _).set _ _) (fun b hb e=>by first | omega | (have:=hb.1;omega))).weak fun b _ hb=>by first | omega | (have:=hb.1;omega)
  ·exact HP6.out.only (S:=fun b=>b=w.heap.size) (((((((Turns.refl w.heap.size w6).set _ _).set _ _).set _ _).set _ _).set _ _).set _ _) (by omega) (fun b hb e=>by have:=hv b hb;omega)
  ·exact (((((HT6.out.setNew (zr _) _).setNew (zr _) _).setNew (zr _) _).setNew (zr _) _).setNew (zr _) _).setNew (zr _) _
theorem zi3 {w:World} {p:Nat} {v:Value} {l:List Tok} {i o:Nat} (h:PSt w p v l i o) (hE:PEnv l) (ho:o≤300) (f:Nat) (hk1:(zaa l i).kind=1) (hS:(zaa l i).text=[119,104,105,108,101]) (hB:∀ j W,i < j→PSt W p v l j o→Calls Tryz.prog 130 #[.pointer (some ⟨p,0,none⟩)] W (RdE l p v o W (TsV W.heap.size) (zaB l (zan l f) j o))) :
  Calls Tryz.prog 91 #[.pointer (some ⟨p,0,none⟩)] w (RdE l p v o w (StN w.heap.size) (zan l (f+1) i o)):=by
 have hw:isS l i [119,104,105,108,101]=true:=by unfold isS;rw [hk1,hS];decide
 have hf:zan l (f+1) i o=(zad l (zaA l) (i+1) o [40] [41] 1).andThen fun x j=>(zaB l (zan l f) j o).andThen fun body k=>.ok (.mk 5 0 [] x body []) k:=by
  rw [zan,if_neg (by rw [hk1];decide),if_neg (by rw [hS];decide),if_neg (by rw [hS];decide),if_pos (by rw [hS];decide)];obtain ⟨g,hg⟩:∃ g,l.length+1 - i=g+1:=⟨l.length - i,by have:=h.here;omega⟩;rw [hg,zau,hw];rfl
 obtain ⟨final,hfin⟩:∃ r,((zad l (zaA l) (i+1) o [40] [41] 1).andThen fun x j=>(zaB l (zan l f) j o).andThen fun body k=>PR.ok (St.mk 5 0 [] x body []) k)=r:=⟨_,rfl⟩;rw [hf,hfin];have Hf:=zh hfin;clear hf hfin hw;have hnx:=hE.good.next h.here (by rw [hk1];decide);have hmi:∀ xs j,zad l (zaA l) (i+1) o [40] [41] 1=.ok xs j→i+1 < j:=fun xs j e=>zb2 (zb3 l) e
 have HK:Hid (∀ w:World,_):=zh (fun w:World=>za5 (zaa l i).text w);rw [show zap (zaa l i).text=0 from by rw [hS];decide] at HK;have e0:=zal (zaa l i).text [108,101,116];rw [show decide ((zaa l i).text=[108,101,116])=false from by rw [hS];decide] at e0;have e1:=zal (zaa l i).text [105,102];rw [show decide ((zaa l i).text=[105,102])=false from by rw [hS];decide] at e1;have e2:=zal (zaa l i).text [119,104,105,108,101];rw [show decide ((zaa l i).text=[119,104,105,108,101])=true from by rw [hS];decide] at e2;have e3:=zal (zaa l i).text [115,116,111,112];rw [show decide ((zaa l i).text=[115,116,111,112])=false from by rw [hS];decide] at e3;have e4:=zal (zaa l i).text [102,97,105,108];rw [show decide ((zaa l i).text=[102,97,105,108])=false from by rw [hS];decide] at e4;have hlt:=h.lt;have hv:=zao h;have hi2:(i:Int)≤16385:=by have:=h.here;have:=hE.small;omega
 obtain ⟨W0,hW0,hb0,hB0⟩:∃ W0,W0=w.alloc (.cells #[.int .u8 0,.int .i64 0,.string { data:=#[] },.slice none 0 0,.slice none 0 0,.slice none 0 0] 56)∧Below w.heap.size w W0∧OwnV W0 w.heap.size 56 zeroT:=⟨_,rfl,(Below.refl _ _).alloc (zr _) _,OwnV.new _ _ _⟩;have HN:=zh (zaQ (h.below hb0) hE);have H0:=zh (h.below hb0);have HW0:=zh hW0;have Hb0:=zh hb0;have HB0:=zh hB0;have HWi:Hid (∀ W gp,PSt W p v l (i+1) o→OwnV W gp 54 (List.replicate 1 (zbs p))→gp≠p→Calls Tryz.prog 126 #[.pointer (some ⟨p,0,none⟩),.string { data:=#[40] },.string { data:=#[41] },.slice (some ⟨gp,0,none⟩) 1 1] W (RdE l p v o W (XsV W.heap.size) (zad l (zaA l) (i+1) o [40] [41] 1))):=zh (fun W gp hP hg hn=>zei (start:=[40]) (stop:=[41]) hP hE ho (by simp [zeB]) hg hn);have hmf:=zmf Tryz.prog
 have HBl:=zh hB
 generalize zad l (zaA l) (i+1) o [40] [41] 1=R at *
 have Hk1:=zh hk1;clear hk1 hS hB;clear hW0 hb0 hB0 h hE
 generalize zaa l i=T at *
 go_enter Tryz.func91,Tryz.ntmps91
 go_upto_region 1 with (fail)
 rw [← HW0.out];go_wp2_with fail
 go_at_call 89;refine HN.out.mono ?_;rintro e1 w1 ⟨rfl,hb1⟩;obtain ⟨W2,hW2,hb2,hT2⟩:∃ W2,W2=w1.alloc (.cells #[.int .u8 T.kind,.string (bstr T.text),.int .i64 T.n,.int .i64 T.line,.int .i64 T.col] 51)∧Below w1.heap.size w1 W2∧OwnV W2 w1.heap.size 51 [.int .u8 T.kind,.string (bstr T.text),.int .i64 T.n,.int .i64 T.line,.int .i64 T.col]:=⟨_,rfl,(Below.refl _ _).alloc (zr _) _,OwnV.new _ _ _⟩;have hs1:=hb1.size;have H2:=(H0.out.below hb1).below hb2;have hB2:=(HB0.out.below hb1 (zr _)).below hb2 (zr _);have hb02:=hb1.trans (hb2.mono hs1);have HW2:=zh hW2;have HH2:=zh H2;have HB2:=zh hB2;have HTk:=zh hT2;have hlt0:=HB0.out.lt;have Hb2:=zh (Hb0.out.trans (hb02.mono Hb0.out.size));have k0:=hT2.cell (i:=0) rfl;have k1:=hT2.cell (i:=1) rfl;have hlw:w1.heap.size < W2.heap.size:=hT2.lt;have hp1:p < W0.heap.size:=H0.out.lt;clear hW2 hb1 hb2 H2 hB2 hT2 hb02 HN;go_upto_region 2 with (fail)
 rw [← HW2.out];have hk3:(T.kind != 1)=false:=by simp [Hk1.out]
 go_wp2_with fail
 go_at_call 23;refine (HK.out _).mono ?_;rintro e4 w4 ⟨rfl,hb4⟩;have HH4:=zh (HH2.out.below hb4);have HB4:=zh (HB2.out.below hb4 (zr _));have HTk4:=zh (HTk.out.below hb4 (zr _));have Hb4:=zh (Hb2.out.trans (hb4.mono Hb2.out.size));have k1:=HTk4.out.cell (i:=1) rfl;have x1:=HH4.out.blk.cell (i:=1) rfl;have xf:=HH4.out.blk.free;have hs4:=HB4.out.lt;have hp4:=HH4.out.lt;obtain ⟨W5,hW5,hP5,hT5⟩:∃ W5,W5=w4.setCell ⟨p,1,none⟩ (.int .i64 ((i:Int)+1))∧PSt W5 p v l (i+1) o∧Turns p w4 W5:=⟨_,rfl,HH4.out.step hnx,(Turns.refl _ _).set _ _⟩;have hB5:=hT5.own HB4.out (by omega);have hTk5:=hT5.own HTk4.out (by omega);have HW5:=zh hW5;have HP5:=zh hP5;have HT5:=zh ((Turns.below Hb4.out).trans hT5);have HB5:=zh hB5;have HTk5:=zh hTk5;have hs5:=hB5.lt;have hp5:=hP5.lt;clear hW5 hP5 hT5 hB5 hTk5 hb4;obtain ⟨W6,hW6,hb6,hG6⟩:∃ W6,W6=W5.alloc (.cells #[.func (.func 65) #[.pointer (some ⟨p,0,none⟩)] #[]] 54)∧Below W5.heap.size W5 W6∧OwnV W6 W5.heap.size 54 (List.replicate 1 (zbs p)):=⟨_,rfl,(Below.refl _ _).alloc (zr _) _,OwnV.new _ _ _⟩;have HC:=zh (HWi.out W6 W5.heap.size (HP5.out.below hb6) hG6 (by omega));have HB6:=zh (HB5.out.below hb6 (zr _));have HT6:Hid (Turns p w W6):=zh (HT5.out.trans (Turns.below hb6));have HW6:=zh hW6;have hs6:W5.heap.size < W6.heap.size:=hG6.lt;clear hW6 hb6 hG6 HWi;go_upto_region 18 with (fail)
 rw [← HW5.out];clear x1 xf k0 k1;go_wp2_with fail
 rw [← HW6.out];go_at_call 126;refine HC.out.mono ?_;intro e7 w7 he7;clear HC
 cases R with
 | err a c =>
  obtain ⟨he7,hT7⟩:=he7;unfold Bad at he7;subst he7;have HT7:=zh hT7;clear hT7;have Hf1:Hid (.err a c=final):=Hf;go_wp2_with fail
  refine ⟨rfl,?_⟩;rw [← Hf1.out]
  exact ⟨rfl,HT6.out.trans HT7.out⟩
 | ok xs j =>
  have hj:=hmi xs j rfl;have Hf1:Hid ((zaB l (zan l f) j o).andThen (fun body k=>.ok (.mk 5 0 [] xs body []) k)=final):=Hf;obtain ⟨u7,rfl,⟨cs7,hR7,hX7⟩,hP7,hT7⟩:=he7;have hs7:=hT7.size
  have hX7':StsC w7 (fun b=>W6.heap.size≤b∧b≠w7.heap.size) [.mk 5 0 [] xs [] []] [.int .u8 5,.int .i64 0,.string { data:=#[] },u7,.slice none 0 0,.slice none 0 0]:=
   .cons (name:=[]) (Sl.of_own hR7) (.inr fun g e=>⟨(hR7.lt g e).1,by have:=(hR7.lt g e).2;omega⟩) (hX7.weak fun b hlt hb=>⟨hb.1,by omega⟩) (Sl.nil _ 6) (.inl rfl) .nil (Sl.nil _ 6) (.inl rfl) .nil .nil
  obtain ⟨ua,cap,rfl,-,-⟩:=Sl.form (Sl.of_own hR7);have hB7:=hT7.own HB6.out (by omega);obtain ⟨W8,hW8,hb8,hO8⟩:∃ W8,W8=w7.alloc (.cells #[.int .u8 5,.int .i64 0,.string { data:=#[] },.slice ua xs.length cap,.slice none 0 0,.slice none 0 0] 56)∧Below w7.heap.size w7 W8∧OwnV W8 w7.heap.size 56 [.int .u8 5,.int .i64 0,.string { data:=#[] },.slice ua xs.length cap,.slice none 0 0,.slice none 0 0]:=⟨_,rfl,(Below.refl _ _).alloc (zr _) _,OwnV.new _ _ _⟩;have HC:=zh (HBl.out j W8 (by omega) (hP7.below hb8));have HB8:=zh (hB7.below hb8 (zr _));have HX8:=zh (hX7'.under hb8 (zr _));have HT8:Hid (Turns p w W8):=zh ((HT6.out.trans hT7).trans (Turns.below hb8));have HW8:=zh hW8;have HO8:=zh hO8;have hs8:w7.heap.size < W8.heap.size:=hO8.lt
  generalize zaB l (zan l f) j o=R2 at *
  clear hR7 hX7 hX7' hP7 hT7 hB7 hW8 hb8 hO8 HBl;go_upto_region 19 with (fail)
  rw [← HW8.out];go_wp2_with fail
  go_at_call 130;refine HC.out.mono ?_;intro e9 w9 he9;clear HC
  cases R2 with
  | err a c =>
   obtain ⟨he9,hT9⟩:=he9;unfold Bad at he9;subst he9;have HT9:=zh hT9;clear hT9;have Hf2:Hid (.err a c=final):=Hf1;go_wp2_with fail
   refine ⟨rfl,?_⟩;rw [← Hf2.out]
   exact ⟨rfl,HT8.out.trans HT9.out⟩
  | ok body k =>
   have Hf2:Hid (.ok (.mk 5 0 [] xs body []) k=final):=Hf1;obtain ⟨u9,rfl,⟨cs9,hR9,hX9⟩,hP9,hT9⟩:=he9;have hs9:=hT9.size;have hO9:=hT9.own HO8.out (by omega);have hX9':=zin (HX8.out.only hT9 (fun b hb e=>by have:=hb.1;omega)) (body:=body) (Sl.of_own hR9) (.inr fun g e=>⟨by have:=(hR9.lt g e).1;omega,by have:=(hR9.lt g e).1;omega⟩) (hX9.weak fun b hlt hb=>⟨by have:=hb.1;omega,by have:=hb.1;omega⟩);obtain ⟨ub,capb,rfl,-,-⟩:=Sl.form (Sl.of_own hR9);have hB9:=hT9.own HB8.out (by omega);have y4:=hO9.cell (i:=4) rfl;have yf:=hO9.free;obtain ⟨W10,hW10,hT10⟩:∃ W10,W10=w9.setCell ⟨w7.heap.size,4,none⟩ (.slice ub body.length capb)∧Only (fun b=>b=w7.heap.size) w9 W10:=⟨_,rfl,(Turns.refl _ _).set _ _⟩;have hO10:OwnV W10 w7.heap.size 56 [.int .u8 5,.int .i64 0,.string { data:=#[] },.slice ua xs.length cap,.slice ub body.length capb,.slice none 0 0]:=by rw [hW10];exact hO9.set 4 _
   have HP10:=zh (hP9.only hT10 (by omega) (fun b hb e=>by have:=hv b hb;omega));have hB10:=hT10.own hB9 (by omega);have HX10:=zh (hX9'.only hT10 (fun b hb e=>hb.2 e));have HT10:Hid (Turns p w W10):=zh ((HT8.out.trans hT9).transNew hT10 (fun b e=>.inr (by omega)));have HW10:=zh hW10;have hs10:=hT10.size;have x0:=hO10.cell (i:=0) rfl;have x1:=hO10.cell (i:=1) rfl;have x2:=hO10.cell (i:=2) rfl;have x3:=hO10.cell (i:=3) rfl;have x4:=hO10.cell (i:=4) rfl;have x5:=hO10.cell (i:=5) rfl;have b0:=hB10.cell (i:=0) rfl;have b1:=hB10.cell (i:=1) rfl;have b2:=hB10.cell (i:=2) rfl;have b3:=hB10.cell (i:=3) rfl;have b4:=hB10.cell (i:=4) rfl;have b5:=hB10.cell (i:=5) rfl;have bf:=hB10.free;clear hR9 hX9 hX9' hP9 hT9 hB9 hW10 hT10 hO9 hO10 hB10;go_upto_region 20 with (fail)
   rw [← HW10.out];clear y4 yf;go_wp2_with fail
   rw [← Hf2.out];refine bodyPost_ret (v:=.agg #[.int .u8 5,.int .i64 0,.string { data:=#[] },.slice ua xs.length cap,.slice ub body.length capb,.slice none 0 0]) (by simp [results,Tryz.results91,go_sem,b0,b1,b2,b3,b4,b5]) rfl ⟨_,rfl,⟨_,rfl,?_⟩,?_,?_⟩
   ·exact (HX10.out.only (S:=fun b=>b=w.heap.size) (((((((Turns.refl w.heap.size W10).set _ _).set _ _).set _ _).set _ _).set _ _).set _ _) (fun b hb e=>by first | omega | (have:=hb.1;omega))).weak fun b _ hb=>by first | omega | (have:=hb.1;omega)
   ·exact HP10.out.only (S:=fun b=>b=w.heap.size) (((((((Turns.refl w.heap.size W10).set _ _).set _ _).set _ _).set _ _).set _ _).set _ _) (by omega) (fun b hb e=>by have:=hv b hb;omega)
   ·exact (((((HT10.out.setNew (zr _) _).setNew (zr _) _).setNew (zr _) _).setNew (zr _) _).setNew (zr _) _).setNew (zr _) _
theorem zlC {w:World} {p:Nat} {v:Value} {l:List Tok} {i o:Nat} (h:PSt w p v l i o) (hE:PEnv l) (ho:o≤300) (f:Nat) (hk1:(zaa l i).kind=1) (hK:0 < zap (zaa l i).text) :
  Calls Tryz.prog 91 #[.pointer (some ⟨p,0,none⟩)] w (RdE l p v o w (StN w.heap.size) (zan l (f+1) i o)):=by
 have hf:zan l (f+1) i o=(zad l (zaA l) (i+1) o [91] [93] 1).andThen fun xs j=>(zaz l j o).map fun y=>.mk 3 (zap (zaa l i).text) [] (xs++[y]) [] []:=by
  rw [zan,if_neg (by rw [hk1];decide),if_pos hK]
 obtain ⟨final,hfin⟩:∃ r,((zad l (zaA l) (i+1) o [91] [93] 1).andThen fun xs j=>(zaz l j o).map fun y=>St.mk 3 (zap (zaa l i).text) [] (xs++[y]) [] [])=r:=⟨_,rfl⟩;rw [hf,hfin];have Hf:=zh hfin;clear hf hfin;have hnx:=hE.good.next h.here (by rw [hk1];decide);have hk10:=zdg (zaa l i).text;have hli:∀ xs j,zad l (zaA l) (i+1) o [91] [93] 1=.ok xs j→xs.length=1:=fun xs j e=>zdC e
 have HK:Hid (∀ w:World,_):=zh (fun w:World=>za5 (zaa l i).text w);have hlt:=h.lt;have hv:=zao h;have hi2:(i:Int)≤16385:=by have:=h.here;have:=hE.small;omega
 obtain ⟨W0,hW0,hb0,hB0⟩:∃ W0,W0=w.alloc (.cells #[.int .u8 0,.int .i64 0,.string { data:=#[] },.slice none 0 0,.slice none 0 0,.slice none 0 0] 56)∧Below w.heap.size w W0∧OwnV W0 w.heap.size 56 zeroT:=⟨_,rfl,(Below.refl _ _).alloc (zr _) _,OwnV.new _ _ _⟩;have HN:=zh (zaQ (h.below hb0) hE);have H0:=zh (h.below hb0);have HW0:=zh hW0;have Hb0:=zh hb0;have HB0:=zh hB0;have HWi:Hid (∀ W gp,PSt W p v l (i+1) o→OwnV W gp 54 (List.replicate 1 (zbs p))→gp≠p→Calls Tryz.prog 126 #[.pointer (some ⟨p,0,none⟩),.string { data:=#[91] },.string { data:=#[93] },.slice (some ⟨gp,0,none⟩) 1 1] W (RdE l p v o W (XsV W.heap.size) (zad l (zaA l) (i+1) o [91] [93] 1))):=zh (fun W gp hP hg hn=>zei (start:=[91]) (stop:=[93]) hP hE ho (by simp [zeB]) hg hn);have hmf:=zmf Tryz.prog
 have HV:Hid (∀ k W,PSt W p v l k o→Calls Tryz.prog 127 #[.pointer (some ⟨p,0,none⟩)] W (RdE l p v o W (ExN W.heap.size) (zaz l k o))):=zh (fun k W hP=>zeh hP hE ho)
 generalize zad l (zaA l) (i+1) o [91] [93] 1=R at *
 have Hk1:=zh hk1;clear hk1;clear hW0 hb0 hB0 h hE
 generalize zaa l i=T at *
 go_enter Tryz.func91,Tryz.ntmps91
 go_upto_region 1 with (fail)
 rw [← HW0.out];go_wp2_with fail
 go_at_call 89;refine HN.out.mono ?_;rintro e1 w1 ⟨rfl,hb1⟩;obtain ⟨W2,hW2,hb2,hT2⟩:∃ W2,W2=w1.alloc (.cells #[.int .u8 T.kind,.string (bstr T.text),.int .i64 T.n,.int .i64 T.line,.int .i64 T.col] 51)∧Below w1.heap.size w1 W2∧OwnV W2 w1.heap.size 51 [.int .u8 T.kind,.string (bstr T.text),.int .i64 T.n,.int .i64 T.line,.int .i64 T.col]:=⟨_,rfl,(Below.refl _ _).alloc (zr _) _,OwnV.new _ _ _⟩;have hs1:=hb1.size;have H2:=(H0.out.below hb1).below hb2;have hB2:=(HB0.out.below hb1 (zr _)).below hb2 (zr _);have hb02:=hb1.trans (hb2.mono hs1);have HW2:=zh hW2;have HH2:=zh H2;have HB2:=zh hB2;have HTk:=zh hT2;have hlt0:=HB0.out.lt;have Hb2:=zh (Hb0.out.trans (hb02.mono Hb0.out.size));have k0:=hT2.cell (i:=0) rfl;have k1:=hT2.cell (i:=1) rfl;have hlw:w1.heap.size < W2.heap.size:=hT2.lt;have hp1:p < W0.heap.size:=H0.out.lt;clear hW2 hb1 hb2 H2 hB2 hT2 hb02 HN;go_upto_region 2 with (fail)
 rw [← HW2.out]
 generalize zap T.text=K at *
 have hKp:(K:Int) > 0:=by omega
 have hK1:(0:Int) < (K:Int):=by omega
 have hK10:(K:Int)≤10:=by omega
 have hk3:(T.kind != 1)=false:=by simp [Hk1.out]
 go_wp2_with fail
 go_at_call 23;refine (HK.out _).mono ?_;rintro e4 w4 ⟨rfl,hb4⟩;have HH4:=zh (HH2.out.below hb4);have HB4:=zh (HB2.out.below hb4 (zr _));have HTk4:=zh (HTk.out.below hb4 (zr _));have Hb4:=zh (Hb2.out.trans (hb4.mono Hb2.out.size));have k1:=HTk4.out.cell (i:=1) rfl;have x1:=HH4.out.blk.cell (i:=1) rfl;have xf:=HH4.out.blk.free;have hs4:=HB4.out.lt;have hp4:=HH4.out.lt;obtain ⟨W5,hW5,hP5,hT5⟩:∃ W5,W5=w4.setCell ⟨p,1,none⟩ (.int .i64 ((i:Int)+1))∧PSt W5 p v l (i+1) o∧Turns p w4 W5:=⟨_,rfl,HH4.out.step hnx,(Turns.refl _ _).set _ _⟩;have hB5:=hT5.own HB4.out (by omega);have hTk5:=hT5.own HTk4.out (by omega);have HW5:=zh hW5;have HP5:=zh hP5;have HT5:=zh ((Turns.below Hb4.out).trans hT5);have HB5:=zh hB5;have HTk5:=zh hTk5;have hs5:=hB5.lt;have hp5:=hP5.lt;clear hW5 hP5 hT5 hB5 hTk5 hb4;obtain ⟨W6,hW6,hb6,hG6⟩:∃ W6,W6=W5.alloc (.cells #[.func (.func 65) #[.pointer (some ⟨p,0,none⟩)] #[]] 54)∧Below W5.heap.size W5 W6∧OwnV W6 W5.heap.size 54 (List.replicate 1 (zbs p)):=⟨_,rfl,(Below.refl _ _).alloc (zr _) _,OwnV.new _ _ _⟩;have HC:=zh (HWi.out W6 W5.heap.size (HP5.out.below hb6) hG6 (by omega));have HB6:=zh (HB5.out.below hb6 (zr _));have HT6:Hid (Turns p w W6):=zh (HT5.out.trans (Turns.below hb6));have HW6:=zh hW6;have hs6:W5.heap.size < W6.heap.size:=hG6.lt;clear hW6 hb6 hG6 HWi;go_upto_region 7 with (fail)
 rw [← HW5.out];clear x1 xf k0 k1;go_wp2_with fail
 rw [← HW6.out];go_at_call 126;refine HC.out.mono ?_;intro e7 w7 he7;clear HC
 cases R with
 | err a c =>
  obtain ⟨he7,hT7⟩:=he7;unfold Bad at he7;subst he7;have HT7:=zh hT7;clear hT7;have Hf1:Hid (.err a c=final):=Hf;go_wp2_with fail
  refine ⟨rfl,?_⟩;rw [← Hf1.out]
  exact ⟨rfl,HT6.out.trans HT7.out⟩
 | ok xs j =>
  have hl1:xs.length≤1:=Nat.le_of_eq (hli xs j rfl);clear hli;have Hf1:Hid ((zaz l j o).map (fun y=>.mk 3 K [] (xs++[y]) [] [])=final):=Hf;obtain ⟨u7,rfl,⟨cs7,hR7,hX7⟩,hP7,hT7⟩:=he7;have hs7:=hT7.size;obtain ⟨ua,cap,rfl,-,-⟩:=Sl.form (Sl.of_own hR7);have HC:=zh (HV.out j w7 hP7);have HB7:=zh (hT7.own HB6.out (by omega));have HR7:=zh hR7;have HX7:=zh hX7;have HT7:Hid (Turns p w w7):=zh (HT6.out.trans hT7)
  generalize zaz l j o=R2 at *
  clear hR7 hX7 hP7 hT7 HV;go_wp2_with fail
  go_at_call 127;refine HC.out.mono ?_;intro e8 w8 he8;clear HC
  cases R2 with
  | err a c =>
   obtain ⟨he8,hT8⟩:=he8;unfold Bad at he8;subst he8;have HT8:=zh hT8;clear hT8;have Hf2:Hid (.err a c=final):=Hf1;go_wp2_with fail
   refine ⟨rfl,?_⟩;rw [← Hf2.out]
   exact ⟨rfl,HT7.out.trans HT8.out⟩
  | ok y k =>
   have Hf2:Hid (.ok (.mk 3 K [] (xs++[y]) [] []) k=final):=Hf1;obtain ⟨u8,rfl,⟨cs8,rfl,hX8⟩,hP8,hT8⟩:=he8;obtain ⟨op,n,name,args⟩:=y;obtain ⟨aa,cp,rfl⟩:=hX8.form1;have hs8:=hT8.size;have hR8:=hT8.row HR7.out (fun g hg e=>by have:=(HR7.out.lt g hg).1;omega);have HR8:=zh hR8;have HB8:=zh (hT8.own HB7.out (by omega));have HP8:=zh hP8;have HX8:=zh hX8;have HT8:=zh hT8;clear hX8 hP8 hT8;have hwK:IntKind.i64.wrap (K:Int)=K:=by simp [IntKind.wrap,IntKind.bits];omega
   have Hn:=zh (show p < w.heap.size∧w.heap.size < W6.heap.size∧W6.heap.size≤w7.heap.size∧w7.heap.size≤w8.heap.size from ⟨hlt,by omega,hs7,hs8⟩);go_wp2_with (at_builtin;apply zbj (s:=.tmp 35) (x:=.tmp 38) (t:=27) (hown:=hR8) (hi:=zbx) (ht:=Tryz.underlying27) (m:=1) (c:=1);(rfl);(decide);rfl;rfl;rfl;rfl;(unfold maxLen;omega);omega;omega;rotate_left;rfl;rfl;(intro v9 w9 hown9 hg9 hb9 hat9;obtain ⟨g9,cap9,rfl,hmg9⟩:=zcd hown9;have hR9:OwnV w9 w.heap.size 56 zeroT:=OwnV.grown HB8.out hg9 (fun e=>by have:=(HR8.out.lt _ e.symm).1;have:=Hn.out;omega);have b0:=hR9.cell (i:=0) rfl;have b1:=hR9.cell (i:=1) rfl;have b2:=hR9.cell (i:=2) rfl;have b3:=hR9.cell (i:=3) rfl;have b4:=hR9.cell (i:=4) rfl;have b5:=hR9.cell (i:=5) rfl;have bf:=hR9.free))
   have hXa:=zjE (p:=p) (X:=w8) HR7.out HX7.out HT8.out (by omega) HX8.out hs7 (Below.refl _ _) hg9 hat9;have hT9:Only (fun b=>(Value.slice ua xs.length cap).ownBlock=some b) w8 w9:=Only.of_grown hg9 (fun g e=>e);have hlow:∀ g,(Value.slice ua xs.length cap).ownBlock=some g→W6.heap.size≤g:=fun g e=>(HR8.out.lt g e).1
   have HX9:Hid (StsC w9 (fun b=>W6.heap.size≤b) [.mk 3 K [] (xs++[.mk op n name args]) [] []] [.int .u8 3,.int .i64 K,.string { data:=#[] },.slice (some ⟨g9,0,none⟩) (xs++[Ex.mk op n name args]).length cap9,.slice none 0 0,.slice none 0 0]):=zh (.cons (name:=[]) (by have:=Sl.of_own hown9;rwa [show xs.length+1=(xs++[Ex.mk op n name args]).length from by simp] at this) (.inr fun g e=>by cases e;exact hmg9) (hXa.weak fun b _ hb=>hb.1) (Sl.nil _ 6) (.inl rfl) .nil (Sl.nil _ 6) (.inl rfl) .nil .nil);rw [show (xs++[Ex.mk op n name args]).length=xs.length+1 from by simp] at HX9;have HP9:=zh (HP8.out.only hT9 (fun e=>by have:=hlow _ e;omega) (fun g e e2=>by have:=hlow _ e2;have:=hv g e;omega));have HT9:Hid (Turns p w w9):=zh ((HT7.out.trans HT8.out).transNew hT9 (fun b e=>.inr (by have:=hlow _ e;omega)));have hs9:=hT9.size;rw [← Hf2.out];refine bodyPost_ret (v:=.agg #[.int .u8 3,.int .i64 K,.string { data:=#[] },.slice (some ⟨g9,0,none⟩) (xs.length+1) cap9,.slice none 0 0,.slice none 0 0]) (by simp [results,Tryz.results91,go_sem,b0,b1,b2,b3,b4,b5]) rfl ⟨_,rfl,⟨_,rfl,?_⟩,?_,?_⟩
   ·exact (HX9.out.only (S:=fun b=>b=w.heap.size) (((((((Turns.refl w.heap.size w9).set _ _).set _ _).set _ _).set _ _).set _ _).set _ _) (fun b hb e=>by first | omega | (have:=hb.1;omega))).weak fun b _ hb=>by first | omega | (have:=hb.1;omega)
   ·exact HP9.out.only (S:=fun b=>b=w.heap.size) (((((((Turns.refl w.heap.size w9).set _ _).set _ _).set _ _).set _ _).set _ _).set _ _) (by omega) (fun b hb e=>by have:=hv b hb;omega)
   ·exact (((((HT9.out.setNew (zr _) _).setNew (zr _) _).setNew (zr _) _).setNew (zr _) _).setNew (zr _) _).setNew (zr _) _
theorem zlD {l:List Tok} {p:Nat} {v:Value} (hE:PEnv l):∀ (f i o:Nat) (w:World),l.length - i < f→o≤300→PSt w p v l i o →
  Calls Tryz.prog 91 #[.pointer (some ⟨p,0,none⟩)] w (RdE l p v o w (StN w.heap.size) (zan l f i o)):=by
 intro f
 induction f with
 | zero=>intro i o w h;omega
 | succ f ih =>
  intro i o w hf ho h;have hX:∀ i' o' W,i < i'→o'≤300→PSt W p v l i' o'→Calls Tryz.prog 91 #[.pointer (some ⟨p,0,none⟩)] W (RdE l p v o' W (StN W.heap.size) (zan l f i' o')):=fun i' o' W hi ho' hP=>ih i' o' W (by have:=hP.here;omega) ho' hP
  by_cases hk:(zaa l i).kind=1
  ·by_cases hK:0 < zap (zaa l i).text
   ·exact zlC h hE ho f hk hK
   ·by_cases h0:(zaa l i).text=[108,101,116]
    ·exact zly h hE ho f hk h0
    ·by_cases h1:(zaa l i).text=[105,102]
     ·exact zmy h hE ho f hk h1 (fun W hP=>zi2 hE (zan l f) (zdK l f) (l.length+1 - i) i o W (by have:=hP.here;omega) ho hP (by unfold isS;rw [hk,h1];decide) hX)
     ·by_cases h2:(zaa l i).text=[119,104,105,108,101]
      ·exact zi3 h hE ho f hk h2 (fun j W hj hP=>zgp hP hE ho (zan l f) (fun i' W' hi' ho2 hP'=>hX i' (o+1) W' (by omega) (by omega) hP') (zdK l f))
      ·by_cases h3:(zaa l i).text=[115,116,111,112]
       ·exact zkc h hE ho f hk h3
       ·by_cases h4:(zaa l i).text=[102,97,105,108]
        ·exact zkd h hE ho f hk h4
        ·exact zlz h hE ho f hk hK h0 h1 h2 h3 h4
  ·exact zlx h hE ho f hk
theorem zki {l:List Tok} {p:Nat} {v:Value} {i o:Nat} {w:World} (h:PSt w p v l i o) (hE:PEnv l) (ho:o≤300) :
  Calls Tryz.prog 91 #[.pointer (some ⟨p,0,none⟩)] w (RdE l p v o w (StN w.heap.size) (zcJ l i o)):=zlD hE (l.length+1 - i) i o w (by have:=h.here;omega) ho h
theorem zio {w:World} {p:Nat} {v:Value} {l:List Tok} {i:Nat} (h:PSt w p v l i 0) (hE:PEnv l) :
  Calls Tryz.prog 60 #[.pointer (some ⟨p,0,none⟩)] w (RdE l p v 0 w (TsV w.heap.size) (allS l (l.length+1 - i) [] i)):=by
 have hlt:=h.lt;have hv:=zao h;have hil:=h.here;have hsm:=hE.small;have H:=zh h;obtain ⟨final,hfin⟩:∃ r,allS l (l.length+1 - i) [] i=r:=⟨_,rfl⟩;have Hf:=zh hfin;rw [hfin];have f0:=zgk;clear h hfin;go_enter Tryz.func60,Tryz.ntmps60
 go_wp2_with fail
 go_loopg [3,4,5,6,7,8,9,10,11,12] (l.length - i) (fun g t3 _ _ _ _ _ _ _ _ _ wr=>∃ (k i' F:Nat) (xs:List St) (cs:List Value),g=l.length - i'∧i' < l.length∧l.length - i' < F∧xs.length=k∧k≤i'∧Hid (PSt wr p v l i' 0)∧Hid (wr.ownsRow w.heap.size 56 6 t3 k cs)∧Hid (StsC wr (fun b=>w.heap.size≤b∧t3.ownBlock≠some b) xs cs)∧Hid (allS l F xs i'=final)∧Hid (Turns p w wr))
 case atStart=>exact ⟨0,i,l.length+1 - i,[],[],rfl,hil,by omega,rfl,by omega,H,zh (World.ownsRow_nil _ _ _ _),zh .nil,Hf,zh (Only.refl _ _)⟩
 case round =>
  clear H Hf;obtain ⟨k,i',F,xs,cs,rfl,hil2,hF,hxs,hki,HP0,HR0,HX0,Hf,HT0⟩:=hrel;obtain ⟨F,rfl⟩:∃ F',F=F'+1:=⟨F - 1,by omega⟩;have Hf1:Hid ((if (zaa l i').kind=4 then .ok xs i' else (zcJ l i' 0).andThen fun x j=>allS l F (xs++[x]) j)=final):=zh (by rw [← Hf.out,allS]);have HN:=zh (zaQ HP0.out hE);have HS:Hid (∀ W,PSt W p v l i' 0→Calls Tryz.prog 91 #[.pointer (some ⟨p,0,none⟩)] W (RdE l p v 0 W (StN W.heap.size) (zcJ l i' 0))):=zh (fun W hP=>zki hP hE (by omega));have hmn:∀ x j,zcJ l i' 0=.ok x j→i' < j:=fun x j e=>zdK l _ _ _ _ _ e
  obtain ⟨q,hq⟩:∃ q,((zaa l i').kind != 4)=q:=⟨_,rfl⟩;have Hf2:Hid ((q=false→.ok xs i'=final)∧(q=true→(zcJ l i' 0).andThen (fun x j=>allS l F (xs++[x]) j)=final)):=zh ⟨fun e=>by rw [← Hf1.out,if_pos (by rw [e] at hq;simpa using hq)],fun e=>by rw [← Hf1.out,if_neg (by rw [e] at hq;simpa using hq)]⟩;obtain ⟨ua,cap,rfl,-,-⟩:=Sl.form (Sl.of_own HR0.out);clear Hf Hf1
  generalize zaa l i'=T at *
  generalize zcJ l i' 0=R at *
  go_wp2_with fail
  go_at_call 89;refine HN.out.mono ?_;rintro e1 w2 ⟨rfl,hb2⟩;have HP:=zh (HP0.out.below hb2);have HR:=zh (zbu HR0.out hb2 (zr _));have HXs:=zh (HX0.out.under hb2 (zr _));have HT:=zh (HT0.out.trans (Only.of_below hb2));have hsz2:=HT.out.size;clear HP0 HR0 HX0 HT0 HN hb2
  cases q with
  | false =>
   have Hf3:=zh (Hf2.out.1 rfl);clear Hf2;go_wp2_with fail
   rw [← Hf3.out]
   refine bodyPost_ret (v:=.slice ua k cap) (by simp [results,Tryz.results60,go_sem]) rfl ⟨_,rfl,⟨cs,by rw [hxs];exact HR.out,HXs.out⟩,HP.out,HT.out⟩
  | true =>
   have Hf3:=zh (Hf2.out.2 rfl);clear Hf2;go_wp2_with fail
   go_at_call 91;refine (HS.out _ HP.out).mono ?_;intro e5 w5 he5;clear HS
   cases R with
   | err a c =>
    obtain ⟨he5,hT5⟩:=he5;unfold Bad at he5;subst he5;have HT5:=zh hT5;have Hf4:Hid (.err a c=final):=Hf3;clear hT5;go_wp2_with fail
    refine ⟨rfl,?_⟩;rw [← Hf4.out]
    exact ⟨rfl,HT.out.trans HT5.out⟩
   | ok x j2 =>
    have hj12:=hmn x j2 rfl;obtain ⟨op5,n5,name5,es5,bo5,el5⟩:=x;have Hf4:Hid (allS l F (xs++[.mk op5 n5 name5 es5 bo5 el5]) j2=final):=Hf3;obtain ⟨u5,rfl,⟨cs5,rfl,hX5⟩,hP5,hT5⟩:=he5;obtain ⟨ae5,pe5,ab5,pb5,al5,pl5,rfl⟩:=hX5.form1;have hR5:w5.ownsRow w.heap.size 56 6 (.slice ua k cap) k cs:=hT5.row HR.out (fun g hg e=>by have:=(HR.out.lt g hg).1;omega);have hs5:=hT5.size;have hjl:=hP5.here;have hk2:k≤16385:=by omega
    have HX5:=zh hX5;have HP5:=zh hP5;have HT5:=zh hT5;have Hk:=zh (show xs.length=k∧k≤i'∧i' < j2∧l.length - i' < F+1∧j2 < l.length∧w.heap.size≤w2.heap.size from ⟨hxs,hki,hj12,hF,hjl,hsz2⟩);clear hmn Hf3 hX5 hP5 hT5 hxs hki hj12 hF hil hil2 hsm;go_wp2_with (at_builtin;apply zbj (s:=.tmp 8) (x:=.tmp 11) (t:=24) (hown:=hR5) (hi:=zfM) (ht:=Tryz.underlying24) (m:=1) (c:=1);(rfl);(decide);rfl;rfl;rfl;rfl;(unfold maxLen;omega);omega;omega;rotate_left;rfl;rfl;(intro v6 w6 hown6 hg6 hb6 hat6))
    obtain ⟨g6,cap6,rfl,hmg6⟩:=zcd hown6;go_roundg (l.length - j2)
    case measure=>have:=Hk.out;omega
    case rel =>
     have hk5:=Hk.out;have hT6:Only (fun b=>(Value.slice ua k cap).ownBlock=some b) w5 w6:=Only.of_grown hg6 (fun g e=>e);have hlow:∀ g,(Value.slice ua k cap).ownBlock=some g→w.heap.size≤g:=fun g e=>(hR5.lt g e).1
     exact ⟨k+1,j2,F,xs++[.mk op5 n5 name5 es5 bo5 el5],_,rfl,by omega,by omega,by rw [List.length_append,hk5.1];rfl,by omega,zh (HP5.out.only hT6 (fun e=>by have:=hlow _ e;omega) (fun g e e2=>by have:=hlow _ e2;have:=hv g e;omega)),zh hown6,zh (zjF (X:=w5) HR.out HXs.out HT5.out hlt HX5.out hk5.2.2.2.2.2 (Below.refl _ _) hg6 hat6),Hf4,zh ((HT.out.trans HT5.out).transNew hT6 (fun b e=>.inr (hlow _ e)))⟩
end Go.Proofs.YtoaojdobjinhfaaGreatDoor
