/- The program's parser: statement, its smaller cases. Printed by gen_pstmt.py. -/
import Derived.Test.YtoaojdobjinhfaaGreatDoorPaMC
import Derived.Test.YtoaojdobjinhfaaGreatDoorPaSC
set_option linter.unusedSimpArgs false
set_option linter.unusedVariables false
set_option maxRecDepth 100000
set_option maxHeartbeats 1000000
namespace Go.Proofs.YtoaojdobjinhfaaGreatDoor
open Go.RowKit

theorem zlx {w:World} {p:Nat} {v:Value} {l:List Tok} {i o:Nat} (h:PSt w p v l i o) (hE:PEnv l) (ho:o≤300) (f:Nat) (hk:(zaa l i).kind≠1) :
  Calls Tryz.prog 91 #[.pointer (some ⟨p,0,none⟩)] w (RdE l p v o w (StN w.heap.size) (zan l (f+1) i o)):=by
 rw [zan,if_pos hk];have hlt:=h.lt;have hv:=zao h;have hi2:(i:Int)≤16385:=by have:=h.here;have:=hE.small;omega
 obtain ⟨W0,hW0,hb0,hB0⟩:∃ W0,W0=w.alloc (.cells #[.int .u8 0,.int .i64 0,.string { data:=#[] },.slice none 0 0,.slice none 0 0,.slice none 0 0] 56)∧Below w.heap.size w W0∧OwnV W0 w.heap.size 56 zeroT:=⟨_,rfl,(Below.refl _ _).alloc (zr _) _,OwnV.new _ _ _⟩;have HN:=zh (zaQ (h.below hb0) hE);have H0:=zh (h.below hb0);have HW0:=zh hW0;have Hb0:=zh hb0;have HB0:=zh hB0;have HF:Hid (∀ w',Below w.heap.size w w'→_):=zh (fun (w':World) (hb:Below w.heap.size w w')=>zcl (h.below hb) hE 120);have hk3:((zaa l i).kind != 1)=true:=by simpa using hk
 clear hk;clear hW0 hb0 hB0 h hE
 generalize zaa l i=T at *
 go_enter Tryz.func91,Tryz.ntmps91
 go_upto_region 1 with (fail)
 rw [← HW0.out];go_wp2_with fail
 go_at_call 89;refine HN.out.mono ?_;rintro e1 w1 ⟨rfl,hb1⟩;obtain ⟨W2,hW2,hb2,hT2⟩:∃ W2,W2=w1.alloc (.cells #[.int .u8 T.kind,.string (bstr T.text),.int .i64 T.n,.int .i64 T.line,.int .i64 T.col] 51)∧Below w1.heap.size w1 W2∧OwnV W2 w1.heap.size 51 [.int .u8 T.kind,.string (bstr T.text),.int .i64 T.n,.int .i64 T.line,.int .i64 T.col]:=⟨_,rfl,(Below.refl _ _).alloc (zr _) _,OwnV.new _ _ _⟩;have hs1:=hb1.size;have H2:=(H0.out.below hb1).below hb2;have hB2:=(HB0.out.below hb1 (zr _)).below hb2 (zr _);have hb02:=hb1.trans (hb2.mono hs1);have HW2:=zh hW2;have HH2:=zh H2;have HB2:=zh hB2;have HTk:=zh hT2;have hlt0:=HB0.out.lt;have Hb2:=zh (Hb0.out.trans (hb02.mono Hb0.out.size));have k0:=hT2.cell (i:=0) rfl;have k1:=hT2.cell (i:=1) rfl;have hlw:w1.heap.size < W2.heap.size:=hT2.lt;have hp1:p < W0.heap.size:=H0.out.lt;clear hW2 hb1 hb2 H2 hB2 hT2 hb02 HN;go_upto_region 2 with (fail)
 rw [← HW2.out];go_wp2_with fail
 go_at_call 90;refine (HF.out _ Hb2.out).mono ?_;rintro e4 w4 ⟨he4,hb4⟩;unfold Bad at he4;subst he4;have Hb4:=zh (Hb2.out.trans (hb4.mono Hb2.out.size));clear hb4;go_wp2_with fail
 exact ⟨rfl,rfl,Turns.below Hb4.out⟩
theorem zkc {w:World} {p:Nat} {v:Value} {l:List Tok} {i o:Nat} (h:PSt w p v l i o) (hE:PEnv l) (ho:o≤300) (f:Nat) (hk1:(zaa l i).kind=1) (hS:(zaa l i).text=[115,116,111,112]) :
  Calls Tryz.prog 91 #[.pointer (some ⟨p,0,none⟩)] w (RdE l p v o w (StN w.heap.size) (zan l (f+1) i o)):=by
 have hf:zan l (f+1) i o=(za0 l (i+1) [59]).andThen fun _ j=>.ok (.mk 6 0 [] [] [] []) j:=by
  rw [zan,if_neg (by rw [hk1];decide),if_neg (by rw [hS];decide),if_pos (by rw [hS];decide)];unfold za0;split
  ·rfl
  ·first | rfl | (rw [if_neg (by rw [hS];decide)];rfl)
 rw [hf];clear hf;have hnx:=hE.good.next h.here (by rw [hk1];decide);have HK:Hid (∀ w:World,_):=zh (fun w:World=>za5 (zaa l i).text w);rw [show zap (zaa l i).text=0 from by rw [hS];decide] at HK;have e0:=zal (zaa l i).text [108,101,116];rw [show decide ((zaa l i).text=[108,101,116])=false from by rw [hS];decide] at e0;have e1:=zal (zaa l i).text [105,102];rw [show decide ((zaa l i).text=[105,102])=false from by rw [hS];decide] at e1;have e2:=zal (zaa l i).text [119,104,105,108,101];rw [show decide ((zaa l i).text=[119,104,105,108,101])=false from by rw [hS];decide] at e2;have e3:=zal (zaa l i).text [115,116,111,112];rw [show decide ((zaa l i).text=[115,116,111,112])=true from by rw [hS];decide] at e3;have e4:=zal (zaa l i).text [102,97,105,108];rw [show decide ((zaa l i).text=[102,97,105,108])=false from by rw [hS];decide] at e4;have hlt:=h.lt;have hv:=zao h;have hi2:(i:Int)≤16385:=by have:=h.here;have:=hE.small;omega
 obtain ⟨W0,hW0,hb0,hB0⟩:∃ W0,W0=w.alloc (.cells #[.int .u8 0,.int .i64 0,.string { data:=#[] },.slice none 0 0,.slice none 0 0,.slice none 0 0] 56)∧Below w.heap.size w W0∧OwnV W0 w.heap.size 56 zeroT:=⟨_,rfl,(Below.refl _ _).alloc (zr _) _,OwnV.new _ _ _⟩;have HN:=zh (zaQ (h.below hb0) hE);have H0:=zh (h.below hb0);have HW0:=zh hW0;have Hb0:=zh hb0;have HB0:=zh hB0;have HNd:Hid (∀ W,PSt W p v l (i+1) o→Calls Tryz.prog 131 #[.pointer (some ⟨p,0,none⟩),.string { data:=#[59] }] W (RdE l p v o W zgl (za0 l (i+1) [59]))):=zh (fun W hP=>zcv hP hE [59])
 generalize za0 l (i+1) [59]=R at *
 have Hk1:=zh hk1;clear hk1 hS;clear hW0 hb0 hB0 h hE
 generalize zaa l i=T at *
 go_enter Tryz.func91,Tryz.ntmps91
 go_upto_region 1 with (fail)
 rw [← HW0.out];go_wp2_with fail
 go_at_call 89;refine HN.out.mono ?_;rintro e1 w1 ⟨rfl,hb1⟩;obtain ⟨W2,hW2,hb2,hT2⟩:∃ W2,W2=w1.alloc (.cells #[.int .u8 T.kind,.string (bstr T.text),.int .i64 T.n,.int .i64 T.line,.int .i64 T.col] 51)∧Below w1.heap.size w1 W2∧OwnV W2 w1.heap.size 51 [.int .u8 T.kind,.string (bstr T.text),.int .i64 T.n,.int .i64 T.line,.int .i64 T.col]:=⟨_,rfl,(Below.refl _ _).alloc (zr _) _,OwnV.new _ _ _⟩;have hs1:=hb1.size;have H2:=(H0.out.below hb1).below hb2;have hB2:=(HB0.out.below hb1 (zr _)).below hb2 (zr _);have hb02:=hb1.trans (hb2.mono hs1);have HW2:=zh hW2;have HH2:=zh H2;have HB2:=zh hB2;have HTk:=zh hT2;have hlt0:=HB0.out.lt;have Hb2:=zh (Hb0.out.trans (hb02.mono Hb0.out.size));have k0:=hT2.cell (i:=0) rfl;have k1:=hT2.cell (i:=1) rfl;have hlw:w1.heap.size < W2.heap.size:=hT2.lt;have hp1:p < W0.heap.size:=H0.out.lt;clear hW2 hb1 hb2 H2 hB2 hT2 hb02 HN;go_upto_region 2 with (fail)
 rw [← HW2.out];have hk3:(T.kind != 1)=false:=by simp [Hk1.out]
 go_wp2_with fail
 go_at_call 23;refine (HK.out _).mono ?_;rintro e4 w4 ⟨rfl,hb4⟩;have HH4:=zh (HH2.out.below hb4);have HB4:=zh (HB2.out.below hb4 (zr _));have HTk4:=zh (HTk.out.below hb4 (zr _));have Hb4:=zh (Hb2.out.trans (hb4.mono Hb2.out.size));have k1:=HTk4.out.cell (i:=1) rfl;have x1:=HH4.out.blk.cell (i:=1) rfl;have xf:=HH4.out.blk.free;have hs4:=HB4.out.lt;have hp4:=HH4.out.lt;obtain ⟨W5,hW5,hP5,hT5⟩:∃ W5,W5=w4.setCell ⟨p,1,none⟩ (.int .i64 ((i:Int)+1))∧PSt W5 p v l (i+1) o∧Turns p w4 W5:=⟨_,rfl,HH4.out.step hnx,(Turns.refl _ _).set _ _⟩;have hB5:=hT5.own HB4.out (by omega);have hTk5:=hT5.own HTk4.out (by omega);have HW5:=zh hW5;have HP5:=zh hP5;have HT5:=zh ((Turns.below Hb4.out).trans hT5);have HB5:=zh hB5;have HTk5:=zh hTk5;have hs5:=hB5.lt;have hp5:=hP5.lt;clear hW5 hP5 hT5 hB5 hTk5 hb4;go_upto_region 24 with (fail)
 rw [← HW5.out];clear x1 xf k0 k1;go_wp2_with fail
 go_at_call 131;refine (HNd.out _ HP5.out).mono ?_;intro e6 w6 he6;clear HNd
 cases R with
 | err a c =>
  obtain ⟨he6,hT6⟩:=he6;unfold Bad at he6;subst he6;have HT6:=zh hT6;clear hT6;go_wp2_with fail
  exact ⟨rfl,rfl,HT5.out.trans HT6.out⟩
 | ok y j =>
  obtain ⟨u6,rfl,rfl,hP6,hT6⟩:=he6;have hR6:=hT6.own HB5.out (by omega);have k1:=(hT6.own HTk5.out (by omega)).cell (i:=1) rfl;have b0:=hR6.cell (i:=0) rfl;have b1:=hR6.cell (i:=1) rfl;have b2:=hR6.cell (i:=2) rfl;have b3:=hR6.cell (i:=3) rfl;have b4:=hR6.cell (i:=4) rfl;have b5:=hR6.cell (i:=5) rfl;have bf:=hR6.free;have HP6:=zh hP6;have HT6:=zh (HT5.out.trans hT6);clear hP6 hT6 hR6;go_wp2_with fail
  refine bodyPost_ret (v:=.agg #[.int .u8 6,.int .i64 0,.string { data:=#[] },.slice none 0 0,.slice none 0 0,.slice none 0 0]) (by simp [results,Tryz.results91,go_sem,b0,b1,b2,b3,b4,b5]) rfl ⟨_,rfl,⟨_,rfl,.cons (name:=[]) (Sl.nil _ 4) (.inl rfl) .nil (Sl.nil _ 6) (.inl rfl) .nil (Sl.nil _ 6) (.inl rfl) .nil .nil⟩,?_,?_⟩
  ·exact HP6.out.only (S:=fun b=>b=w.heap.size) (((((((Turns.refl w.heap.size w6).set _ _).set _ _).set _ _).set _ _).set _ _).set _ _) (by omega) (fun b hb=>by have:=hv b hb;omega)
  ·exact (((((HT6.out.setNew (zr _) _).setNew (zr _) _).setNew (zr _) _).setNew (zr _) _).setNew (zr _) _).setNew (zr _) _
theorem zkd {w:World} {p:Nat} {v:Value} {l:List Tok} {i o:Nat} (h:PSt w p v l i o) (hE:PEnv l) (ho:o≤300) (f:Nat) (hk1:(zaa l i).kind=1) (hS:(zaa l i).text=[102,97,105,108]) :
  Calls Tryz.prog 91 #[.pointer (some ⟨p,0,none⟩)] w (RdE l p v o w (StN w.heap.size) (zan l (f+1) i o)):=by
 have hf:zan l (f+1) i o=(za0 l (i+1) [59]).andThen fun _ j=>.ok (.mk 7 0 [] [] [] []) j:=by
  rw [zan,if_neg (by rw [hk1];decide),if_neg (by rw [hS];decide),if_pos (by rw [hS];decide)];unfold za0;split
  ·rfl
  ·first | rfl | (rw [if_neg (by rw [hS];decide)];rfl)
 rw [hf];clear hf;have hnx:=hE.good.next h.here (by rw [hk1];decide);have HK:Hid (∀ w:World,_):=zh (fun w:World=>za5 (zaa l i).text w);rw [show zap (zaa l i).text=0 from by rw [hS];decide] at HK;have e0:=zal (zaa l i).text [108,101,116];rw [show decide ((zaa l i).text=[108,101,116])=false from by rw [hS];decide] at e0;have e1:=zal (zaa l i).text [105,102];rw [show decide ((zaa l i).text=[105,102])=false from by rw [hS];decide] at e1;have e2:=zal (zaa l i).text [119,104,105,108,101];rw [show decide ((zaa l i).text=[119,104,105,108,101])=false from by rw [hS];decide] at e2;have e3:=zal (zaa l i).text [115,116,111,112];rw [show decide ((zaa l i).text=[115,116,111,112])=false from by rw [hS];decide] at e3;have e4:=zal (zaa l i).text [102,97,105,108];rw [show decide ((zaa l i).text=[102,97,105,108])=true from by rw [hS];decide] at e4;have hlt:=h.lt;have hv:=zao h;have hi2:(i:Int)≤16385:=by have:=h.here;have:=hE.small;omega
 obtain ⟨W0,hW0,hb0,hB0⟩:∃ W0,W0=w.alloc (.cells #[.int .u8 0,.int .i64 0,.string { data:=#[] },.slice none 0 0,.slice none 0 0,.slice none 0 0] 56)∧Below w.heap.size w W0∧OwnV W0 w.heap.size 56 zeroT:=⟨_,rfl,(Below.refl _ _).alloc (zr _) _,OwnV.new _ _ _⟩;have HN:=zh (zaQ (h.below hb0) hE);have H0:=zh (h.below hb0);have HW0:=zh hW0;have Hb0:=zh hb0;have HB0:=zh hB0;have HNd:Hid (∀ W,PSt W p v l (i+1) o→Calls Tryz.prog 131 #[.pointer (some ⟨p,0,none⟩),.string { data:=#[59] }] W (RdE l p v o W zgl (za0 l (i+1) [59]))):=zh (fun W hP=>zcv hP hE [59])
 generalize za0 l (i+1) [59]=R at *
 have Hk1:=zh hk1;clear hk1 hS;clear hW0 hb0 hB0 h hE
 generalize zaa l i=T at *
 go_enter Tryz.func91,Tryz.ntmps91
 go_upto_region 1 with (fail)
 rw [← HW0.out];go_wp2_with fail
 go_at_call 89;refine HN.out.mono ?_;rintro e1 w1 ⟨rfl,hb1⟩;obtain ⟨W2,hW2,hb2,hT2⟩:∃ W2,W2=w1.alloc (.cells #[.int .u8 T.kind,.string (bstr T.text),.int .i64 T.n,.int .i64 T.line,.int .i64 T.col] 51)∧Below w1.heap.size w1 W2∧OwnV W2 w1.heap.size 51 [.int .u8 T.kind,.string (bstr T.text),.int .i64 T.n,.int .i64 T.line,.int .i64 T.col]:=⟨_,rfl,(Below.refl _ _).alloc (zr _) _,OwnV.new _ _ _⟩;have hs1:=hb1.size;have H2:=(H0.out.below hb1).below hb2;have hB2:=(HB0.out.below hb1 (zr _)).below hb2 (zr _);have hb02:=hb1.trans (hb2.mono hs1);have HW2:=zh hW2;have HH2:=zh H2;have HB2:=zh hB2;have HTk:=zh hT2;have hlt0:=HB0.out.lt;have Hb2:=zh (Hb0.out.trans (hb02.mono Hb0.out.size));have k0:=hT2.cell (i:=0) rfl;have k1:=hT2.cell (i:=1) rfl;have hlw:w1.heap.size < W2.heap.size:=hT2.lt;have hp1:p < W0.heap.size:=H0.out.lt;clear hW2 hb1 hb2 H2 hB2 hT2 hb02 HN;go_upto_region 2 with (fail)
 rw [← HW2.out];have hk3:(T.kind != 1)=false:=by simp [Hk1.out]
 go_wp2_with fail
 go_at_call 23;refine (HK.out _).mono ?_;rintro e4 w4 ⟨rfl,hb4⟩;have HH4:=zh (HH2.out.below hb4);have HB4:=zh (HB2.out.below hb4 (zr _));have HTk4:=zh (HTk.out.below hb4 (zr _));have Hb4:=zh (Hb2.out.trans (hb4.mono Hb2.out.size));have k1:=HTk4.out.cell (i:=1) rfl;have x1:=HH4.out.blk.cell (i:=1) rfl;have xf:=HH4.out.blk.free;have hs4:=HB4.out.lt;have hp4:=HH4.out.lt;obtain ⟨W5,hW5,hP5,hT5⟩:∃ W5,W5=w4.setCell ⟨p,1,none⟩ (.int .i64 ((i:Int)+1))∧PSt W5 p v l (i+1) o∧Turns p w4 W5:=⟨_,rfl,HH4.out.step hnx,(Turns.refl _ _).set _ _⟩;have hB5:=hT5.own HB4.out (by omega);have hTk5:=hT5.own HTk4.out (by omega);have HW5:=zh hW5;have HP5:=zh hP5;have HT5:=zh ((Turns.below Hb4.out).trans hT5);have HB5:=zh hB5;have HTk5:=zh hTk5;have hs5:=hB5.lt;have hp5:=hP5.lt;clear hW5 hP5 hT5 hB5 hTk5 hb4;go_upto_region 24 with (fail)
 rw [← HW5.out];clear x1 xf k0 k1;go_wp2_with fail
 go_at_call 131;refine (HNd.out _ HP5.out).mono ?_;intro e6 w6 he6;clear HNd
 cases R with
 | err a c =>
  obtain ⟨he6,hT6⟩:=he6;unfold Bad at he6;subst he6;have HT6:=zh hT6;clear hT6;go_wp2_with fail
  exact ⟨rfl,rfl,HT5.out.trans HT6.out⟩
 | ok y j =>
  obtain ⟨u6,rfl,rfl,hP6,hT6⟩:=he6;have hR6:=hT6.own HB5.out (by omega);have k1:=(hT6.own HTk5.out (by omega)).cell (i:=1) rfl;have b0:=hR6.cell (i:=0) rfl;have b1:=hR6.cell (i:=1) rfl;have b2:=hR6.cell (i:=2) rfl;have b3:=hR6.cell (i:=3) rfl;have b4:=hR6.cell (i:=4) rfl;have b5:=hR6.cell (i:=5) rfl;have bf:=hR6.free;have HP6:=zh hP6;have HT6:=zh (HT5.out.trans hT6);clear hP6 hT6 hR6;go_wp2_with fail
  refine bodyPost_ret (v:=.agg #[.int .u8 7,.int .i64 0,.string { data:=#[] },.slice none 0 0,.slice none 0 0,.slice none 0 0]) (by simp [results,Tryz.results91,go_sem,b0,b1,b2,b3,b4,b5]) rfl ⟨_,rfl,⟨_,rfl,.cons (name:=[]) (Sl.nil _ 4) (.inl rfl) .nil (Sl.nil _ 6) (.inl rfl) .nil (Sl.nil _ 6) (.inl rfl) .nil .nil⟩,?_,?_⟩
  ·exact HP6.out.only (S:=fun b=>b=w.heap.size) (((((((Turns.refl w.heap.size w6).set _ _).set _ _).set _ _).set _ _).set _ _).set _ _) (by omega) (fun b hb=>by have:=hv b hb;omega)
  ·exact (((((HT6.out.setNew (zr _) _).setNew (zr _) _).setNew (zr _) _).setNew (zr _) _).setNew (zr _) _).setNew (zr _) _
theorem zly {w:World} {p:Nat} {v:Value} {l:List Tok} {i o:Nat} (h:PSt w p v l i o) (hE:PEnv l) (ho:o≤300) (f:Nat) (hk1:(zaa l i).kind=1) (hS:(zaa l i).text=[108,101,116]) :
  Calls Tryz.prog 91 #[.pointer (some ⟨p,0,none⟩)] w (RdE l p v o w (StN w.heap.size) (zan l (f+1) i o)):=by
 have hf:zan l (f+1) i o=(zcc l (i+1)).andThen fun s k=>(zaz l k o).map fun x=>.mk 1 0 s [x] [] []:=by
  rw [zan,if_neg (by rw [hk1];decide),if_neg (by rw [hS];decide),if_neg (by rw [hS];decide),if_neg (by rw [hS];decide),if_pos hS];unfold zcc;split <;> rfl
 obtain ⟨final,hfin⟩:∃ r,((zcc l (i+1)).andThen fun s k=>(zaz l k o).map fun x=>St.mk 1 0 s [x] [] [])=r:=⟨_,rfl⟩;rw [hf,hfin];have Hf:=zh hfin;clear hf hfin;have hnx:=hE.good.next h.here (by rw [hk1];decide);have HK:Hid (∀ w:World,_):=zh (fun w:World=>za5 (zaa l i).text w);rw [show zap (zaa l i).text=0 from by rw [hS];decide] at HK;have e0:=zal (zaa l i).text [108,101,116];rw [show decide ((zaa l i).text=[108,101,116])=true from by rw [hS];decide] at e0;have e1:=zal (zaa l i).text [105,102];rw [show decide ((zaa l i).text=[105,102])=false from by rw [hS];decide] at e1;have e2:=zal (zaa l i).text [119,104,105,108,101];rw [show decide ((zaa l i).text=[119,104,105,108,101])=false from by rw [hS];decide] at e2;have e3:=zal (zaa l i).text [115,116,111,112];rw [show decide ((zaa l i).text=[115,116,111,112])=false from by rw [hS];decide] at e3;have e4:=zal (zaa l i).text [102,97,105,108];rw [show decide ((zaa l i).text=[102,97,105,108])=false from by rw [hS];decide] at e4;have hlt:=h.lt;have hv:=zao h;have hi2:(i:Int)≤16385:=by have:=h.here;have:=hE.small;omega
 obtain ⟨W0,hW0,hb0,hB0⟩:∃ W0,W0=w.alloc (.cells #[.int .u8 0,.int .i64 0,.string { data:=#[] },.slice none 0 0,.slice none 0 0,.slice none 0 0] 56)∧Below w.heap.size w W0∧OwnV W0 w.heap.size 56 zeroT:=⟨_,rfl,(Below.refl _ _).alloc (zr _) _,OwnV.new _ _ _⟩;have HN:=zh (zaQ (h.below hb0) hE);have H0:=zh (h.below hb0);have HW0:=zh hW0;have Hb0:=zh hb0;have HB0:=zh hB0;have HNm:Hid (∀ W,PSt W p v l (i+1) o→Calls Tryz.prog 128 #[.pointer (some ⟨p,0,none⟩)] W (RdE l p v o W StrV (zcc l (i+1)))):=zh (fun W hP=>zfL hP hE);have HV:Hid (∀ k W,PSt W p v l k o→Calls Tryz.prog 127 #[.pointer (some ⟨p,0,none⟩)] W (RdE l p v o W (ExN W.heap.size) (zaz l k o))):=zh (fun k W hP=>zeh hP hE ho)
 generalize zcc l (i+1)=R at *
 have Hk1:=zh hk1;clear hk1 hS;clear hW0 hb0 hB0 h hE
 generalize zaa l i=T at *
 go_enter Tryz.func91,Tryz.ntmps91
 go_upto_region 1 with (fail)
 rw [← HW0.out];go_wp2_with fail
 go_at_call 89;refine HN.out.mono ?_;rintro e1 w1 ⟨rfl,hb1⟩;obtain ⟨W2,hW2,hb2,hT2⟩:∃ W2,W2=w1.alloc (.cells #[.int .u8 T.kind,.string (bstr T.text),.int .i64 T.n,.int .i64 T.line,.int .i64 T.col] 51)∧Below w1.heap.size w1 W2∧OwnV W2 w1.heap.size 51 [.int .u8 T.kind,.string (bstr T.text),.int .i64 T.n,.int .i64 T.line,.int .i64 T.col]:=⟨_,rfl,(Below.refl _ _).alloc (zr _) _,OwnV.new _ _ _⟩;have hs1:=hb1.size;have H2:=(H0.out.below hb1).below hb2;have hB2:=(HB0.out.below hb1 (zr _)).below hb2 (zr _);have hb02:=hb1.trans (hb2.mono hs1);have HW2:=zh hW2;have HH2:=zh H2;have HB2:=zh hB2;have HTk:=zh hT2;have hlt0:=HB0.out.lt;have Hb2:=zh (Hb0.out.trans (hb02.mono Hb0.out.size));have k0:=hT2.cell (i:=0) rfl;have k1:=hT2.cell (i:=1) rfl;have hlw:w1.heap.size < W2.heap.size:=hT2.lt;have hp1:p < W0.heap.size:=H0.out.lt;clear hW2 hb1 hb2 H2 hB2 hT2 hb02 HN;go_upto_region 2 with (fail)
 rw [← HW2.out];have hk3:(T.kind != 1)=false:=by simp [Hk1.out]
 go_wp2_with fail
 go_at_call 23;refine (HK.out _).mono ?_;rintro e4 w4 ⟨rfl,hb4⟩;have HH4:=zh (HH2.out.below hb4);have HB4:=zh (HB2.out.below hb4 (zr _));have HTk4:=zh (HTk.out.below hb4 (zr _));have Hb4:=zh (Hb2.out.trans (hb4.mono Hb2.out.size));have k1:=HTk4.out.cell (i:=1) rfl;have x1:=HH4.out.blk.cell (i:=1) rfl;have xf:=HH4.out.blk.free;have hs4:=HB4.out.lt;have hp4:=HH4.out.lt;obtain ⟨W5,hW5,hP5,hT5⟩:∃ W5,W5=w4.setCell ⟨p,1,none⟩ (.int .i64 ((i:Int)+1))∧PSt W5 p v l (i+1) o∧Turns p w4 W5:=⟨_,rfl,HH4.out.step hnx,(Turns.refl _ _).set _ _⟩;have hB5:=hT5.own HB4.out (by omega);have hTk5:=hT5.own HTk4.out (by omega);have HW5:=zh hW5;have HP5:=zh hP5;have HT5:=zh ((Turns.below Hb4.out).trans hT5);have HB5:=zh hB5;have HTk5:=zh hTk5;have hs5:=hB5.lt;have hp5:=hP5.lt;clear hW5 hP5 hT5 hB5 hTk5 hb4;go_upto_region 12 with (fail)
 rw [← HW5.out];clear x1 xf k0 k1;go_wp2_with fail
 go_at_call 128;refine (HNm.out _ HP5.out).mono ?_;intro e6 w6 he6;clear HNm
 cases R with
 | err a c =>
  obtain ⟨he6,hT6⟩:=he6;unfold Bad at he6;subst he6;have HT6:=zh hT6;clear hT6;have Hf1:Hid (.err a c=final):=Hf;go_wp2_with fail
  refine ⟨rfl,?_⟩;rw [← Hf1.out]
  exact ⟨rfl,HT5.out.trans HT6.out⟩
 | ok s k =>
  obtain ⟨u6,rfl,hs6,hP6,hT6⟩:=he6;unfold StrV at hs6;subst hs6;have HR6:=zh (hT6.own HB5.out (by omega));have HT6:=zh (HT5.out.trans hT6);have HC:=zh (HV.out k w6 hP6);have hs6:=HR6.out.lt;have Hf1:Hid ((zaz l k o).map (fun x=>.mk 1 0 s [x] [] [])=final):=Hf;generalize zaz l k o=R1 at HC Hf1;clear hP6 hT6 HV Hf;go_wp2_with fail
  go_at_call 127;refine HC.out.mono ?_;intro e7 w7 he7;clear HC
  cases R1 with
  | err a c =>
   obtain ⟨he7,hT7⟩:=he7;unfold Bad at he7;subst he7;have HT7:=zh hT7;clear hT7;have Hf2:Hid (.err a c=final):=Hf1;go_wp2_with fail
   refine ⟨rfl,?_⟩;rw [← Hf2.out]
   exact ⟨rfl,HT6.out.trans HT7.out⟩
  | ok x j =>
   have Hf2:Hid (.ok (.mk 1 0 s [x] [] []) j=final):=Hf1;obtain ⟨u7,rfl,⟨cs7,rfl,hX7⟩,hP7,hT7⟩:=he7;obtain ⟨op,n,name,args⟩:=x;obtain ⟨aa,cp,rfl⟩:=hX7.form1;obtain ⟨W8,hW8,hb8,hO8⟩:∃ W8,W8=w7.alloc (.cells #[.int .u8 op,.int .i64 n,.string (bstr name),.slice aa args.length cp] 29)∧Below w7.heap.size w7 W8∧OwnV W8 w7.heap.size 29 [.int .u8 op,.int .i64 n,.string (bstr name),.slice aa args.length cp]:=⟨_,rfl,(Below.refl _ _).alloc (zr _) _,OwnV.new _ _ _⟩;have hs7:=hT7.size;have hR8:=(hT7.own HR6.out (by omega)).alloc (.cells #[.int .u8 op,.int .i64 n,.string (bstr name),.slice aa args.length cp] 29);have b0:=hR8.cell (i:=0) rfl;have b1:=hR8.cell (i:=1) rfl;have b2:=hR8.cell (i:=2) rfl;have b3:=hR8.cell (i:=3) rfl;have b4:=hR8.cell (i:=4) rfl;have b5:=hR8.cell (i:=5) rfl;have bf:=hR8.free;have HSx:Hid (StsC W8 (fun b=>w6.heap.size≤b) [.mk 1 0 s [.mk op n name args] [] []] [.int .u8 1,.int .i64 0,.string (bstr s),.slice (some ⟨w7.heap.size,0,none⟩) 1 1,.slice none 0 0,.slice none 0 0]):=zh (.cons (zcw hO8 (n:=1) rfl (zr _) (by decide)) (.inr fun g hg=>by cases hg;exact hs7) (hX7.under hb8 (zr _)) (Sl.nil _ 6) (.inl rfl) .nil (Sl.nil _ 6) (.inl rfl) .nil .nil);have hR9:OwnV W8 w.heap.size 56 zeroT:=by rw [hW8];exact hR8
   have HR9:=zh hR9;have HW8:=zh hW8;have HP8:=zh (hP7.below hb8);have HT8:=zh ((HT6.out.trans hT7).trans (Turns.below hb8));clear hW8 hb8 hO8 hX7 hP7 hT7 hR8 hR9;go_wp2_with fail
   rw [← HW8.out,← Hf2.out];have c0:=HR9.out.cell (i:=0) rfl;have c1:=HR9.out.cell (i:=1) rfl;have c2:=HR9.out.cell (i:=2) rfl;have c3:=HR9.out.cell (i:=3) rfl;have c4:=HR9.out.cell (i:=4) rfl;have c5:=HR9.out.cell (i:=5) rfl;refine bodyPost_ret (v:=.agg #[.int .u8 1,.int .i64 0,.string (bstr s),.slice (some ⟨w7.heap.size,0,none⟩) 1 1,.slice none 0 0,.slice none 0 0]) (by simp [results,Tryz.results91,go_sem,c0,c1,c2,c3,c4,c5]) rfl ⟨_,rfl,⟨_,rfl,?_⟩,?_,?_⟩
   ·have hP:¬ (w6.heap.size≤w.heap.size):=by omega
    exact (HSx.out.only (S:=fun b=>b=w.heap.size) (((((((Turns.refl w.heap.size W8).set _ _).set _ _).set _ _).set _ _).set _ _).set _ _) (fun b hb e=>by omega)).weak fun b _ h=>by omega
   ·exact HP8.out.only (S:=fun b=>b=w.heap.size) (((((((Turns.refl w.heap.size W8).set _ _).set _ _).set _ _).set _ _).set _ _).set _ _) (by omega) (fun b hb=>by have:=hv b hb;omega)
   ·exact (((((HT8.out.setNew (zr _) _).setNew (zr _) _).setNew (zr _) _).setNew (zr _) _).setNew (zr _) _).setNew (zr _) _
theorem zlz {w:World} {p:Nat} {v:Value} {l:List Tok} {i o:Nat} (h:PSt w p v l i o) (hE:PEnv l) (ho:o≤300) (f:Nat) (hk1:(zaa l i).kind=1) (hK0:¬ 0 < zap (zaa l i).text) (h0:(zaa l i).text≠[108,101,116]) (h1:(zaa l i).text≠[105,102]) (h2:(zaa l i).text≠[119,104,105,108,101]) (h3:(zaa l i).text≠[115,116,111,112]) (h4:(zaa l i).text≠[102,97,105,108]) :
  Calls Tryz.prog 91 #[.pointer (some ⟨p,0,none⟩)] w (RdE l p v o w (StN w.heap.size) (zan l (f+1) i o)):=by
 have hf:zan l (f+1) i o=(zcc l i).andThen fun s k=>(zaz l k o).map fun x=>.mk 2 0 s [x] [] []:=by
  rw [zan,if_neg (by rw [hk1];decide),if_neg hK0,if_neg (by simp [h3,h4]),if_neg (by simp [h1,h2]),if_neg h0];unfold zcc;by_cases hn:zaP (zaa l i).text=false
  ·rw [if_pos hn,if_pos (.inr hn)];rfl
  ·rw [if_neg hn,if_neg (by rw [hk1];simpa using hn)];rfl
 obtain ⟨final,hfin⟩:∃ r,((zcc l i).andThen fun s k=>(zaz l k o).map fun x=>St.mk 2 0 s [x] [] [])=r:=⟨_,rfl⟩;rw [hf,hfin];have Hf:=zh hfin;clear hf hfin;have HK:Hid (∀ w:World,_):=zh (fun w:World=>za5 (zaa l i).text w);rw [show zap (zaa l i).text=0 from by omega] at HK;have e0:=zal (zaa l i).text [108,101,116];rw [show decide ((zaa l i).text=[108,101,116])=false from by simpa using h0] at e0;have e1:=zal (zaa l i).text [105,102];rw [show decide ((zaa l i).text=[105,102])=false from by simpa using h1] at e1;have e2:=zal (zaa l i).text [119,104,105,108,101];rw [show decide ((zaa l i).text=[119,104,105,108,101])=false from by simpa using h2] at e2;have e3:=zal (zaa l i).text [115,116,111,112];rw [show decide ((zaa l i).text=[115,116,111,112])=false from by simpa using h3] at e3;have e4:=zal (zaa l i).text [102,97,105,108];rw [show decide ((zaa l i).text=[102,97,105,108])=false from by simpa using h4] at e4;have hlt:=h.lt;have hv:=zao h;have hi2:(i:Int)≤16385:=by have:=h.here;have:=hE.small;omega
 obtain ⟨W0,hW0,hb0,hB0⟩:∃ W0,W0=w.alloc (.cells #[.int .u8 0,.int .i64 0,.string { data:=#[] },.slice none 0 0,.slice none 0 0,.slice none 0 0] 56)∧Below w.heap.size w W0∧OwnV W0 w.heap.size 56 zeroT:=⟨_,rfl,(Below.refl _ _).alloc (zr _) _,OwnV.new _ _ _⟩;have HN:=zh (zaQ (h.below hb0) hE);have H0:=zh (h.below hb0);have HW0:=zh hW0;have Hb0:=zh hb0;have HB0:=zh hB0;have HNm:Hid (∀ W,PSt W p v l i o→Calls Tryz.prog 128 #[.pointer (some ⟨p,0,none⟩)] W (RdE l p v o W StrV (zcc l i))):=zh (fun W hP=>zfL hP hE);have HV:Hid (∀ k W,PSt W p v l k o→Calls Tryz.prog 127 #[.pointer (some ⟨p,0,none⟩)] W (RdE l p v o W (ExN W.heap.size) (zaz l k o))):=zh (fun k W hP=>zeh hP hE ho)
 generalize zcc l i=R at *
 have Hk1:=zh hk1;clear hk1 hK0 h0 h1 h2 h3 h4;clear hW0 hb0 hB0 h hE
 generalize zaa l i=T at *
 go_enter Tryz.func91,Tryz.ntmps91
 go_upto_region 1 with (fail)
 rw [← HW0.out];go_wp2_with fail
 go_at_call 89;refine HN.out.mono ?_;rintro e1 w1 ⟨rfl,hb1⟩;obtain ⟨W2,hW2,hb2,hT2⟩:∃ W2,W2=w1.alloc (.cells #[.int .u8 T.kind,.string (bstr T.text),.int .i64 T.n,.int .i64 T.line,.int .i64 T.col] 51)∧Below w1.heap.size w1 W2∧OwnV W2 w1.heap.size 51 [.int .u8 T.kind,.string (bstr T.text),.int .i64 T.n,.int .i64 T.line,.int .i64 T.col]:=⟨_,rfl,(Below.refl _ _).alloc (zr _) _,OwnV.new _ _ _⟩;have hs1:=hb1.size;have H2:=(H0.out.below hb1).below hb2;have hB2:=(HB0.out.below hb1 (zr _)).below hb2 (zr _);have hb02:=hb1.trans (hb2.mono hs1);have HW2:=zh hW2;have HH2:=zh H2;have HB2:=zh hB2;have HTk:=zh hT2;have hlt0:=HB0.out.lt;have Hb2:=zh (Hb0.out.trans (hb02.mono Hb0.out.size));have k0:=hT2.cell (i:=0) rfl;have k1:=hT2.cell (i:=1) rfl;have hlw:w1.heap.size < W2.heap.size:=hT2.lt;have hp1:p < W0.heap.size:=H0.out.lt;clear hW2 hb1 hb2 H2 hB2 hT2 hb02 HN;go_upto_region 2 with (fail)
 rw [← HW2.out];have hk3:(T.kind != 1)=false:=by simp [Hk1.out]
 go_wp2_with fail
 go_at_call 23;refine (HK.out _).mono ?_;rintro e4 w4 ⟨rfl,hb4⟩;have HH4:=zh (HH2.out.below hb4);have HB4:=zh (HB2.out.below hb4 (zr _));have HTk4:=zh (HTk.out.below hb4 (zr _));have Hb4:=zh (Hb2.out.trans (hb4.mono Hb2.out.size));have k1:=HTk4.out.cell (i:=1) rfl;have x1:=HH4.out.blk.cell (i:=1) rfl;have xf:=HH4.out.blk.free;have hs4:=HB4.out.lt;have hp4:=HH4.out.lt;have HT5:Hid (Turns p w w4):=zh (Turns.below Hb4.out);have HB5:=HB4;clear hb4 x1 xf k0;go_upto_region 28 with (fail)
 clear k1;go_wp2_with fail
 go_at_call 128;refine (HNm.out _ HH4.out).mono ?_;intro e6 w6 he6;clear HNm
 cases R with
 | err a c =>
  obtain ⟨he6,hT6⟩:=he6;unfold Bad at he6;subst he6;have HT6:=zh hT6;clear hT6;have Hf1:Hid (.err a c=final):=Hf;go_wp2_with fail
  refine ⟨rfl,?_⟩;rw [← Hf1.out]
  exact ⟨rfl,HT5.out.trans HT6.out⟩
 | ok s k =>
  obtain ⟨u6,rfl,hs6,hP6,hT6⟩:=he6;unfold StrV at hs6;subst hs6;have HR6:=zh (hT6.own HB5.out (by omega));have HT6:=zh (HT5.out.trans hT6);have HC:=zh (HV.out k w6 hP6);have hs6:=HR6.out.lt;have Hf1:Hid ((zaz l k o).map (fun x=>.mk 2 0 s [x] [] [])=final):=Hf;generalize zaz l k o=R1 at HC Hf1;clear hP6 hT6 HV Hf;go_wp2_with fail
  go_at_call 127;refine HC.out.mono ?_;intro e7 w7 he7;clear HC
  cases R1 with
  | err a c =>
   obtain ⟨he7,hT7⟩:=he7;unfold Bad at he7;subst he7;have HT7:=zh hT7;clear hT7;have Hf2:Hid (.err a c=final):=Hf1;go_wp2_with fail
   refine ⟨rfl,?_⟩;rw [← Hf2.out]
   exact ⟨rfl,HT6.out.trans HT7.out⟩
  | ok x j =>
   have Hf2:Hid (.ok (.mk 2 0 s [x] [] []) j=final):=Hf1;obtain ⟨u7,rfl,⟨cs7,rfl,hX7⟩,hP7,hT7⟩:=he7;obtain ⟨op,n,name,args⟩:=x;obtain ⟨aa,cp,rfl⟩:=hX7.form1;obtain ⟨W8,hW8,hb8,hO8⟩:∃ W8,W8=w7.alloc (.cells #[.int .u8 op,.int .i64 n,.string (bstr name),.slice aa args.length cp] 29)∧Below w7.heap.size w7 W8∧OwnV W8 w7.heap.size 29 [.int .u8 op,.int .i64 n,.string (bstr name),.slice aa args.length cp]:=⟨_,rfl,(Below.refl _ _).alloc (zr _) _,OwnV.new _ _ _⟩;have hs7:=hT7.size;have hR8:=(hT7.own HR6.out (by omega)).alloc (.cells #[.int .u8 op,.int .i64 n,.string (bstr name),.slice aa args.length cp] 29);have b0:=hR8.cell (i:=0) rfl;have b1:=hR8.cell (i:=1) rfl;have b2:=hR8.cell (i:=2) rfl;have b3:=hR8.cell (i:=3) rfl;have b4:=hR8.cell (i:=4) rfl;have b5:=hR8.cell (i:=5) rfl;have bf:=hR8.free;have HSx:Hid (StsC W8 (fun b=>w6.heap.size≤b) [.mk 2 0 s [.mk op n name args] [] []] [.int .u8 2,.int .i64 0,.string (bstr s),.slice (some ⟨w7.heap.size,0,none⟩) 1 1,.slice none 0 0,.slice none 0 0]):=zh (.cons (zcw hO8 (n:=1) rfl (zr _) (by decide)) (.inr fun g hg=>by cases hg;exact hs7) (hX7.under hb8 (zr _)) (Sl.nil _ 6) (.inl rfl) .nil (Sl.nil _ 6) (.inl rfl) .nil .nil);have hR9:OwnV W8 w.heap.size 56 zeroT:=by rw [hW8];exact hR8
   have HR9:=zh hR9;have HW8:=zh hW8;have HP8:=zh (hP7.below hb8);have HT8:=zh ((HT6.out.trans hT7).trans (Turns.below hb8));clear hW8 hb8 hO8 hX7 hP7 hT7 hR8 hR9;go_wp2_with fail
   rw [← HW8.out,← Hf2.out];have c0:=HR9.out.cell (i:=0) rfl;have c1:=HR9.out.cell (i:=1) rfl;have c2:=HR9.out.cell (i:=2) rfl;have c3:=HR9.out.cell (i:=3) rfl;have c4:=HR9.out.cell (i:=4) rfl;have c5:=HR9.out.cell (i:=5) rfl;refine bodyPost_ret (v:=.agg #[.int .u8 2,.int .i64 0,.string (bstr s),.slice (some ⟨w7.heap.size,0,none⟩) 1 1,.slice none 0 0,.slice none 0 0]) (by simp [results,Tryz.results91,go_sem,c0,c1,c2,c3,c4,c5]) rfl ⟨_,rfl,⟨_,rfl,?_⟩,?_,?_⟩
   ·have hP:¬ (w6.heap.size≤w.heap.size):=by omega
    exact (HSx.out.only (S:=fun b=>b=w.heap.size) (((((((Turns.refl w.heap.size W8).set _ _).set _ _).set _ _).set _ _).set _ _).set _ _) (fun b hb e=>by omega)).weak fun b _ h=>by omega
   ·exact HP8.out.only (S:=fun b=>b=w.heap.size) (((((((Turns.refl w.heap.size W8).set _ _).set _ _).set _ _).set _ _).set _ _).set _ _) (by omega) (fun b hb=>by have:=hv b hb;omega)
   ·exact (((((HT8.out.setNew (zr _) _).setNew (zr _) _).setNew (zr _) _).setNew (zr _) _).setNew (zr _) _).setNew (zr _) _
end Go.Proofs.YtoaojdobjinhfaaGreatDoor
