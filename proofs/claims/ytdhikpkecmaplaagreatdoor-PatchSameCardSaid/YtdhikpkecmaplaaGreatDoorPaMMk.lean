/- The program's parser: operand, walked. -/
import Derived.Test.YtdhikpkecmaplaaGreatDoorPaKMk
set_option linter.unusedSimpArgs false
set_option linter.unusedVariables false
set_option maxRecDepth 100000
set_option maxHeartbeats 8000000
namespace Go.Proofs.YtdhikpkecmaplaaGreatDoor
open Go.RowKit

theorem operand_ret {tmps:Array Value} {w:World} {g:Nat} {a b c d:Value} (h:tmps[2]?.getD undef=.pointer (some ⟨g,0,none⟩)) (H:OwnV w g 193 [a,b,c,d]) :
  (results Tryz.f231 tmps).run Tryz.prog w=.ok (.agg #[a,b,c,d]) w:=by
 obtain ⟨b0,b1,b2,b3⟩:=yc4 H;simp [results,Tryz.results231,go_sem,h,b0,b1,b2,b3]
theorem word_cases (s:List UInt8):s=[116,105,99,107]∨s=[115,101,108,102]∨s=[114,97,110,100]∨s=[97,98,115]∨s=[109,105,110]∨s=[109,97,120]∨(s≠[116,105,99,107]/\s≠[115,101,108,102]/\s≠[114,97,110,100]/\s≠[97,98,115]/\s≠[109,105,110]/\s≠[109,97,120]):=by
 by_cases h1:s=[116,105,99,107]
 ·exact .inl h1
 by_cases h2:s=[115,101,108,102]
 ·exact .inr (.inl h2)
 by_cases h3:s=[114,97,110,100]
 ·exact .inr (.inr (.inl h3))
 by_cases h4:s=[97,98,115]
 ·exact .inr (.inr (.inr (.inl h4)))
 by_cases h5:s=[109,105,110]
 ·exact .inr (.inr (.inr (.inr (.inl h5))))
 by_cases h6:s=[109,97,120]
 ·exact .inr (.inr (.inr (.inr (.inr (.inl h6)))))
 exact .inr (.inr (.inr (.inr (.inr (.inr ⟨h1,h2,h3,h4,h5,h6⟩)))))
theorem ite_beq {α:Type} {a b:Int} {x y:α}:(if a=b then x else y)=if (a == b)=true then x else y:=by
 by_cases h:a=b
 ·rw [yP h,yP (by rw [beq_iff_eq];exact h)]
 ·rw [yN h,yN (by rw [beq_iff_eq];exact h)]
theorem word_facts {s t:List UInt8} (h:s=t) (q1 q2 q3 q4 q5 q6:Bool) (hq:decide (t=[116,105,99,107])=q1/\decide (t=[115,101,108,102])=q2/\decide (t=[114,97,110,100])=q3/\decide (t=[97,98,115])=q4/\decide (t=[109,105,110])=q5/\decide (t=[109,97,120])=q6) :
  ((bstr s).toList == [116,105,99,107])=q1/\((bstr s).toList == [115,101,108,102])=q2/\((bstr s).toList == [114,97,110,100])=q3/\((bstr s).toList == [97,98,115])=q4/\((bstr s).toList == [109,105,110])=q5/\((bstr s).toList == [109,97,120])=q6:=by
 subst h;simp only [zal];exact hq
theorem no_call {s:List UInt8} (h3:s≠[114,97,110,100]) (h4:s≠[97,98,115]) (h5:s≠[109,105,110]) (h6:s≠[109,97,120]):¬ 0 < zai s zoa 0:=by
 simp only [zoa,zai];rw [yN h3.symm,yN h4.symm,yN h5.symm,yN h6.symm];decide
theorem name_of {l:List Tok} {i:Nat} {s:List UInt8} (hs:(zaa l i).text=s) (hk:(zaa l i).kind=1):(if zaP s=false then (.err i 120:PR Ex) else .ok (.mk 2 0 s []) (i+1))=(zcc l i).map (fun s=>.mk 2 0 s []):=by
 subst hs;unfold zcc;by_cases hnm:zaP (zaa l i).text=false
 ·rw [yP hnm,yP (.inr hnm)];rfl
 ·rw [yN hnm,yN (by rw [hk];simpa using hnm)];rfl
theorem zih {w:World} {p:Nat} {v:Value} {l:List Tok} {i o:Nat} (h:PSt w p v l i o) (hE:PEnv l) (E:Nat->Nat->Nat->PR Ex) (hX:∀ i' o' W,i < i'->o'<=300->PSt W p v l i' o'->Calls Tryz.prog 130 #[.pointer (some ⟨p,0,none⟩)] W (RdE l p v o' W (ExN W.heap.size) (E i' o' 1))) (hmon:∀ i' o' x m,E i' o' 1=.ok x m->i' < m) (ho:o<=300) :
  Calls Tryz.prog 231 #[.pointer (some ⟨p,0,none⟩)] w (RdE l p v o w (ExN w.heap.size) (zah l E i o)):=by
 have hlt:=h.lt;have hv:=zao h;have hi2:(i:Int)<=16385:=by have:=h.here;have:=hE.small;omega
 have hmf:=zmf Tryz.prog
 obtain ⟨W0,hW0,hb0,hB0⟩:∃ W0,W0=w.alloc (.cells #[.int .u8 0,.int .i64 0,.string { data:=#[] },.slice none 0 0] 193)/\Below w.heap.size w W0/\OwnV W0 w.heap.size 193 zeroE:=⟨_,rfl,(yR _ _).alloc (zr _) _,OwnV.new _ _ _⟩;have HN:=zh (zaQ (h.below hb0) hE);have H0:=zh (h.below hb0);have HW0:=zh hW0;have Hb0:=zh hb0;have HB0:=zh hB0;obtain ⟨R,hR⟩:∃ R,zah l E i o=R:=⟨_,rfl⟩;obtain ⟨qp,hp⟩:∃ q,isS l i [40]=q:=⟨_,rfl⟩;have HR:Hid (zah l E i o=_):=zh (by unfold zah;rfl);rw [hR,hp] at HR;rw [hR];have HI:Hid (∀ w',Below w.heap.size w w'->Calls Tryz.prog 173 #[.pointer (some ⟨p,0,none⟩),.string { data:=#[40] }] w' fun e w''=>e=.returned (.bool qp)/\Below w'.heap.size w' w''):=zh (fun (w':World) (hb:Below w.heap.size w w')=>by have:=zbo (h.below hb) hE [40];rw [hp] at this;exact this);have HF:Hid (∀ w',Below w.heap.size w w'->_):=zh (fun (w':World) (hb:Below w.heap.size w w')=>zcl (h.below hb) hE 120);have HNm:Hid (∀ w',Below w.heap.size w w'->_):=zh (fun (w':World) (hb:Below w.heap.size w w')=>zfL (h.below hb) hE);have HK:Hid (∀ w:World,_):=zh (fun w:World=>za5 (zaa l i).text w);have Hnx:Hid ((zaa l i).kind≠4->i+1 < l.length):=zh (hE.good.next h.here);have Hno:Hid (∀ s,(zaa l i).text=s->(zaa l i).kind=1->_):=zh (fun s hs hk=>name_of hs hk);have HWi:Hid (∀ (W:World) (gp many i':Nat) (start stop:List UInt8),PSt W p v l i' o->OwnV W gp 225 (List.replicate many (zbs p))->gp≠p->many<=2->0 < many->i<=i'->Calls Tryz.prog 129 #[.pointer (some ⟨p,0,none⟩),.string (bstr start),.string (bstr stop),.slice (some ⟨gp,0,none⟩) many many] W (RdE l p v o W (XsV W.heap.size) (zad l E i' o start stop many))):=zh (fun W gp many i' start stop hb hg hn h1 h2 h3=>zce hb hE ho E hg hn h1 h2 (fun i' W' hi' ho2 hP'=>hX i' (o+1) W' (by omega) (by omega) hP') (fun i' x m=>hmon i' (o+1) x m));have HPw:Hid (∀ W,Below w.heap.size w W->PSt W p v l i o):=zh (fun W=>h.below);clear hW0 hb0 hB0 h hE hR hp hX hmon
 generalize zaa l i=T at *
 go_enter Tryz.func231,Tryz.ntmps231
 go_upto_region 1 with (fail)
 rw [<- HW0.out];go_wp2_with fail
 go_at_call 105;refine HN.out.mono ?_;rintro e1 w1 ⟨rfl,hb1⟩;obtain ⟨W2,hW2,hb2,hT2⟩:∃ W2,W2=w1.alloc (.cells #[.int .u8 T.kind,.string (bstr T.text),.int .i64 T.n,.int .i64 T.line,.int .i64 T.col] 180)/\Below w1.heap.size w1 W2/\OwnV W2 w1.heap.size 180 [.int .u8 T.kind,.string (bstr T.text),.int .i64 T.n,.int .i64 T.line,.int .i64 T.col]:=⟨_,rfl,(yR _ _).alloc (zr _) _,OwnV.new _ _ _⟩;have hs1:=hb1.size;have H2:=(H0.out.below hb1).below hb2;have hB2:=(HB0.out.below hb1 (zr _)).below hb2 (zr _);have hb02:=hb1.trans (hb2.mono hs1);have HW2:=zh hW2;have HH2:=zh H2;have HB2:=zh hB2;have HTk:=zh hT2;have hlt0:=HB0.out.lt;have Hb2:=zh (Hb0.out.trans (hb02.mono Hb0.out.size));have k0:=hT2.cell (i:=0) rfl;have hlw:w1.heap.size < W2.heap.size:=hT2.lt;have hp1:p < W0.heap.size:=H0.out.lt;obtain ⟨q2,hk2⟩:∃ q,(T.kind == 2)=q:=⟨_,rfl⟩;have HR2:Hid (R=if q2=true then .ok (.mk 1 T.n [] []) (i+1) else _):=zh (by rw [HR.out,<- hk2];exact ite_beq);clear hW2 hb1 hb2 H2 hB2 hT2 hb02 HN HR;go_upto_region 2 with (fail)
 rw [<- HW2.out]
 cases q2 with
 | true =>
  obtain ⟨W3,hW3,hP3,hT3⟩:∃ W3,W3=W2.setCell ⟨p,1,none⟩ (.int .i64 ((i:Int)+1))/\PSt W3 p v l (i+1) o/\Turns p W2 W3:=⟨_,rfl,HH2.out.step (Hnx.out (by rw [beq_iff_eq] at hk2;rw [hk2];decide)),(Turns.refl _ _).set _ _⟩;have x1:=HH2.out.blk.cell (i:=1) rfl;have xf:=HH2.out.blk.free;have hTk3:=hT3.own HTk.out (by omega);have hB3:=hT3.own HB2.out (by omega);have HB3:=zh hB3;have HW3:=zh hW3;have HP3:=zh hP3;have HT3:=zh ((Turns.below Hb2.out).trans hT3);have t2:=hTk3.cell (i:=2) rfl;obtain ⟨b0,b1,b2,b3⟩:=yc4 hB3;have bf:=hB3.free;clear hW3 hP3 hT3 hTk3 hB3;go_upto_region 4 with (fail)
  rw [<- HW3.out];clear k0 x1 xf;go_wp2_with fail
  exact yE (operand_ret rfl ((((HB3.out.set 0 _).set 1 _).set 2 _).set 3 _)) rfl (by rw [HR2.out,yP (by trivial)];exact ⟨_,rfl,zcx,HP3.out.only (S:=fun b=>b=w.heap.size) (((((Turns.refl w.heap.size W3).set _ _).set _ _).set _ _).set _ _) (by omega) (fun b hb=>by have:=hv b hb;omega),
   (((HT3.out.setNew (zr _) _).setNew (zr _) _).setNew (zr _) _).setNew (zr _) _⟩)
 | false =>
 rw [yN (by decide)] at HR2;go_wp2_with fail
 go_at_call 173;refine (HI.out _ Hb2.out).mono ?_;rintro e3 w3 ⟨rfl,hb3⟩;have HH3:=zh (HH2.out.below hb3);have HTk3:=zh (HTk.out.below hb3 (zr _));have HB3:=zh (HB2.out.below hb3 (zr _));have Hb3:=zh (Hb2.out.trans (hb3.mono Hb2.out.size));have hlw3:w1.heap.size < w3.heap.size:=HTk3.out.lt;have k0:=HTk3.out.cell (i:=0) rfl;clear hb3 HH2 HTk HB2 HI
 cases qp with
 | true =>
  obtain ⟨W4,hW4,hb4,hG4⟩:∃ W4,W4=w3.alloc (.cells #[.func (.func 130) #[.pointer (some ⟨p,0,none⟩)] #[]] 225)/\Below w3.heap.size w3 W4/\OwnV W4 w3.heap.size 225 (List.replicate 1 (zbs p)):=⟨_,rfl,(yR _ _).alloc (zr _) _,OwnV.new _ _ _⟩;have Hb4:=zh (Hb3.out.trans (hb4.mono Hb3.out.size));have HB4:=zh (HB3.out.below hb4 (zr _));have hs3:=HB3.out.lt;have hp3:=HH3.out.lt;have HC:=zh (HWi.out W4 _ 1 i [40] [41] (HPw.out W4 Hb4.out) hG4 (by omega) (by decide) (by decide) (zr _));have HW4:=zh hW4;have hs4:w.heap.size < W4.heap.size:=HB4.out.lt;have hlen:∀ xs j,zad l E i o [40] [41] 1=.ok xs j->xs.length=1:=fun xs j e=>zdC e
  have HR5:Hid (R=_):=zh (HR2.out.trans (yP rfl));clear hW4 hb4 hG4 HWi HR2
  generalize zad l E i o [40] [41] 1=R1 at *
  go_wp2_with (rw [<- HW4.out])
  go_at_call 129;try rw [<- HW4.out]
  refine HC.out.mono ?_;intro e5 w5 he5;clear HC
  cases R1 with
  | err a c =>
   obtain ⟨he5,hT5⟩:=he5;unfold Bad at he5;subst he5;have HT5:=zh hT5;clear hT5;go_wp2_with fail
   refine ⟨rfl,?_⟩;rw [HR5.out]
   exact ⟨rfl,(Turns.below Hb4.out).trans HT5.out⟩
  | ok xs j =>
   have hl1:=hlen xs j rfl
   obtain ⟨x,rfl⟩:∃ x,xs=[x]:=by
    match xs,hl1 with
    | [x],_=>exact ⟨x,rfl⟩
   obtain ⟨u,rfl,⟨cs,hR,hX5⟩,hP5,hT5⟩:=he5;obtain ⟨op,n,name,args⟩:=x;obtain ⟨aa,cp,rfl⟩:=hX5.form1;obtain ⟨g,cap,rfl,hmg⟩:=zcd (k:=0) hR;have c0:w5.cell? ⟨g,0,none⟩=some (.int .u8 op):=hR.cellAt 0 (by decide);have c1:w5.cell? ⟨g,1,none⟩=some (.int .i64 n):=hR.cellAt 1 (by decide);have c2:w5.cell? ⟨g,2,none⟩=some (.string (bstr name)):=hR.cellAt 2 (by decide);have c3:w5.cell? ⟨g,3,none⟩=some (.slice aa args.length cp):=hR.cellAt 3 (by decide);have HR4:=zh (hT5.own HB4.out (by omega));obtain ⟨b0,b1,b2,b3⟩:=yc4 HR4.out;have bf:=HR4.out.free;have HX5:=zh hX5;have HP5:=zh hP5;have HT5:=zh ((Turns.below Hb4.out).trans hT5);clear hX5 hP5 hT5 hR k0;go_wp2_with fail
   have hP:¬ (W4.heap.size<=w.heap.size/\(Value.slice (some ⟨g,0,none⟩) (0+1) cap).ownBlock≠some w.heap.size):=by omega
   exact yE (operand_ret rfl ((((HR4.out.set 0 _).set 1 _).set 2 _).set 3 _)) rfl (by rw [HR5.out];exact ⟨_,rfl,⟨_,rfl,((((HX5.out.set hP).set hP).set hP).set hP).weak fun b _ h=>by have:=h.1;omega⟩,
    HP5.out.only (S:=fun b=>b=w.heap.size) (((((Turns.refl w.heap.size w5).set _ _).set _ _).set _ _).set _ _) (by omega) (fun b hb=>by have:=hv b hb;omega),
    (((HT5.out.setNew (zr _) _).setNew (zr _) _).setNew (zr _) _).setNew (zr _) _⟩)
 | false =>
 rw [yN (by decide)] at HR2;by_cases hk1:T.kind=1
 ·have hk3:(T.kind != 1)=false:=by simp [hk1]
  have Hk1:=zh hk1;have hnx:=Hnx.out (by rw [hk1];decide);have HR3:Hid (R=_):=zh (HR2.out.trans (yN (fun h=>h hk1)));have k1:=HTk3.out.cell (i:=1) rfl;have hk10:=zdg T.text;obtain ⟨K,hK⟩:∃ K,zap T.text=K:=⟨_,rfl⟩;rw [hK] at HR3 HK hk10;have HKd:Hid (∀ s,T.text=s->zap s=K):=zh (fun s h=>by rw [<- h,hK]);clear hk1 HR2 hK;have hK10:(K:Int)<=10:=by omega
  go_wp2_with fail
  go_at_call 128;refine (HK.out _).mono ?_;rintro e4 w4 ⟨rfl,hb4⟩;have HH4:=zh (HH3.out.below hb4);have HB4:=zh (HB3.out.below hb4 (zr _));have HTk4:=zh (HTk3.out.below hb4 (zr _));have Hb4:=zh (Hb3.out.trans (hb4.mono Hb3.out.size));have k1:=HTk4.out.cell (i:=1) rfl;have x1:=HH4.out.blk.cell (i:=1) rfl;have xf:=HH4.out.blk.free;have hs4:=HB4.out.lt;have hp4:=HH4.out.lt;obtain ⟨W5,hW5,hP5,hT5⟩:∃ W5,W5=w4.setCell ⟨p,1,none⟩ (.int .i64 ((i:Int)+1))/\PSt W5 p v l (i+1) o/\Turns p w4 W5:=⟨_,rfl,HH4.out.step hnx,(Turns.refl _ _).set _ _⟩;have hB5:=hT5.own HB4.out (by omega);have hTk5:=hT5.own HTk4.out (by omega);have HB5:=zh hB5;have HW5:=zh hW5;have HP5:=zh hP5;have HT5:=zh ((Turns.below Hb4.out).trans hT5);have hs5:=hB5.lt;have hp5:=hP5.lt;obtain ⟨b0,b1,b2,b3⟩:=yc4 hB5;have bf:=hB5.free;have k1':=hTk5.cell (i:=1) rfl
  have Hbox:Hid (∀ (m:Nat) (start stop:List UInt8),m<=2->0 < m->∃ W6,Hid (W6=W5.alloc (.cells (List.replicate m (.func (.func 130) #[.pointer (some ⟨p,0,none⟩)] #[])).toArray 225))/\Hid (Calls Tryz.prog 129 #[.pointer (some ⟨p,0,none⟩),.string (bstr start),.string (bstr stop),.slice (some ⟨W5.heap.size,0,none⟩) m m] W6 (RdE l p v o W6 (XsV W6.heap.size) (zad l E (i+1) o start stop m)))/\Hid (OwnV W6 w.heap.size 193 zeroE)/\Hid (Turns p w W6)/\w.heap.size < W6.heap.size):=zh (fun m start stop h2 h0=>by
   obtain ⟨W6,hW6,hb6,hG6⟩:∃ W6,W6=W5.alloc (.cells (List.replicate m (.func (.func 130) #[.pointer (some ⟨p,0,none⟩)] #[])).toArray 225)/\Below W5.heap.size W5 W6/\OwnV W6 W5.heap.size 225 (List.replicate m (zbs p)):=⟨_,rfl,(yR _ _).alloc (zr _) _,OwnV.new _ _ _⟩;have hB6:=HB5.out.below hb6 (zr _)
   exact ⟨W6,zh hW6,zh (HWi.out W6 _ m (i+1) start stop (HP5.out.below hb6) hG6 (by omega) h2 h0 (by omega)),zh hB6,zh (HT5.out.trans (Turns.below hb6)),hB6.lt⟩)
  clear hW5 hP5 hT5 hB5 hTk5 hb4;by_cases hKp:0 < K
  focus
   have hKp1:(K:Int) > 0:=by omega
   have hK1:(0:Int) < (K:Int):=by omega
   have HR5:Hid (R=(zad l E (i+1) o [91] [93] 1).map (.mk 3 K [])):=zh (HR3.out.trans (yP hKp));clear HR3 HKd hKp;obtain ⟨W6,HW6,HC,HB6,HT6,hs6⟩:=Hbox.out 1 [91] [93] (by decide) (by decide);simp only [List.replicate_succ,List.replicate_zero] at HW6;clear Hbox;go_upto_region 12 with (fail)
   rw [<- HW5.out];clear x1 xf k0 k1;go_wp2_with fail
   rw [<- HW6.out];go_at_call 129
   generalize zad l E (i+1) o [91] [93] 1=R1 at *
  rotate_left
  obtain rfl:K=0:=by omega
  have HR4:Hid (R=_):=zh (HR3.out.trans (yN hKp));clear HR3 hKp;rcases word_cases T.text with hS | hS | hS | hS | hS | hS | ⟨n1,n2,n3,n4,n5,n6⟩
  focus
   obtain ⟨e1,e2,e3,e4,e5,e6⟩:=word_facts hS true false false false false false (by decide);have HR5:Hid (R=.ok (.mk 4 0 [] []) (i+1)):=zh (by rw [HR4.out,hS];rfl);clear HR4 hS
  rotate_left
  focus
   obtain ⟨e1,e2,e3,e4,e5,e6⟩:=word_facts hS false true false false false false (by decide);have HR5:Hid (R=.ok (.mk 5 0 [] []) (i+1)):=zh (by rw [HR4.out,hS];rfl);clear HR4 hS
  rotate_left
  focus
   obtain ⟨e1,e2,e3,e4,e5,e6⟩:=word_facts hS false false true false false false (by decide);have HR5:Hid (R=(zad l E (i+1) o [40] [41] 1).map (.mk 6 0 [])):=zh (by rw [HR4.out,hS];rfl);clear HR4 hS;obtain ⟨W6,HW6,HC,HB6,HT6,hs6⟩:=Hbox.out 1 [40] [41] (by decide) (by decide);simp only [List.replicate_succ,List.replicate_zero] at HW6;clear Hbox;go_upto_region 24 with (fail)
   rw [<- HW5.out];clear x1 xf k0 k1;go_wp2_with fail
   rw [<- HW6.out];go_at_call 129
   generalize zad l E (i+1) o [40] [41] 1=R1 at *
  rotate_left
  focus
   obtain ⟨e1,e2,e3,e4,e5,e6⟩:=word_facts hS false false false true false false (by decide);have HR5:Hid (R=(zad l E (i+1) o [40] [41] 1).map (.mk 9 0 [])):=zh (by rw [HR4.out,hS];rfl);clear HR4 hS;obtain ⟨W6,HW6,HC,HB6,HT6,hs6⟩:=Hbox.out 1 [40] [41] (by decide) (by decide);simp only [List.replicate_succ,List.replicate_zero] at HW6;clear Hbox;go_upto_region 24 with (fail)
   rw [<- HW5.out];clear x1 xf k0 k1;go_wp2_with fail
   rw [<- HW6.out];go_at_call 129
   generalize zad l E (i+1) o [40] [41] 1=R1 at *
  rotate_left
  focus
   obtain ⟨e1,e2,e3,e4,e5,e6⟩:=word_facts hS false false false false true false (by decide);have HR5:Hid (R=(zad l E (i+1) o [40] [41] 2).map (.mk 23 0 [])):=zh (by rw [HR4.out,hS];rfl);clear HR4 hS;obtain ⟨W6,HW6,HC,HB6,HT6,hs6⟩:=Hbox.out 2 [40] [41] (by decide) (by decide);simp only [List.replicate_succ,List.replicate_zero] at HW6;clear Hbox;go_upto_region 31 with (fail)
   rw [<- HW5.out];clear x1 xf k0 k1;go_wp2_with fail
   rw [<- HW6.out];go_at_call 129
   generalize zad l E (i+1) o [40] [41] 2=R1 at *
  rotate_left
  focus
   obtain ⟨e1,e2,e3,e4,e5,e6⟩:=word_facts hS false false false false false true (by decide);have HR5:Hid (R=(zad l E (i+1) o [40] [41] 2).map (.mk 24 0 [])):=zh (by rw [HR4.out,hS];rfl);clear HR4 hS;obtain ⟨W6,HW6,HC,HB6,HT6,hs6⟩:=Hbox.out 2 [40] [41] (by decide) (by decide);simp only [List.replicate_succ,List.replicate_zero] at HW6;clear Hbox;go_upto_region 31 with (fail)
   rw [<- HW5.out];clear x1 xf k0 k1;go_wp2_with fail
   rw [<- HW6.out];go_at_call 129
   generalize zad l E (i+1) o [40] [41] 2=R1 at *
  rotate_left
  ·have e1:=(zal T.text _).trans (decide_eq_false n1);have e2:=(zal T.text _).trans (decide_eq_false n2);have e3:=(zal T.text _).trans (decide_eq_false n3);have e4:=(zal T.text _).trans (decide_eq_false n4);have e5:=(zal T.text _).trans (decide_eq_false n5);have e6:=(zal T.text _).trans (decide_eq_false n6);have HR5:Hid (R=_):=zh (HR4.out.trans ((yN (no_call n3 n4 n5 n6)).trans ((yN n1).trans ((yN n2).trans (Hno.out T.text rfl Hk1.out)))));clear HR4 n1 n2 n3 n4 n5 n6 Hbox
   generalize zcc l i=R1 at *
   go_wp2_with fail
   go_at_call 132;refine (HNm.out _ Hb4.out).mono ?_;intro e5 w5 he5;clear HNm
   cases R1 with
   | err a c =>
    obtain ⟨he5,hT5⟩:=he5;unfold Bad at he5;subst he5;have HT5:=zh hT5;clear hT5;go_wp2_with fail
    refine ⟨rfl,?_⟩;rw [HR5.out]
    exact ⟨rfl,(Turns.below Hb4.out).trans HT5.out⟩
   | ok s j =>
    obtain ⟨u,rfl,hs,hP5,hT5⟩:=he5;unfold StrV at hs;subst hs;have HR4:=zh (hT5.own HB4.out (by omega));obtain ⟨b0,b1,b2,b3⟩:=yc4 HR4.out;have bf:=HR4.out.free;have HP5:=zh hP5;have HT5:=zh ((Turns.below Hb4.out).trans hT5);clear hP5 hT5 k0 k1;go_wp2_with fail
    exact yE (operand_ret rfl ((((HR4.out.set 0 _).set 1 _).set 2 _).set 3 _)) rfl (by rw [HR5.out];exact ⟨_,rfl,zcx,HP5.out.only (S:=fun b=>b=w.heap.size) (((((Turns.refl w.heap.size w5).set _ _).set _ _).set _ _).set _ _) (by omega) (fun b hb=>by have:=hv b hb;omega),
     (((HT5.out.setNew (zr _) _).setNew (zr _) _).setNew (zr _) _).setNew (zr _) _⟩)
  rotate_left
  iterate 2
   focus
    clear Hbox;go_upto_region 17 with (fail)
    rw [<- HW5.out];clear x1 xf k0 k1;go_wp2_with fail
    exact yE (operand_ret rfl ((((HB5.out.set 0 _).set 1 _).set 2 _).set 3 _)) rfl (by rw [HR5.out];exact ⟨_,rfl,zcx,HP5.out.only (S:=fun b=>b=w.heap.size) (((((Turns.refl w.heap.size W5).set _ _).set _ _).set _ _).set _ _) (by omega) (fun b hb=>by have:=hv b hb;omega),
     (((HT5.out.setNew (zr _) _).setNew (zr _) _).setNew (zr _) _).setNew (zr _) _⟩)
  all_goals
   refine HC.out.mono ?_;intro e7 w7 he7;clear HC bf
   cases R1 with
   | err a c =>
    obtain ⟨he7,hT7⟩:=he7;unfold Bad at he7;subst he7;have HT7:=zh hT7;clear hT7;go_wp2_with fail
    refine ⟨rfl,?_⟩;rw [HR5.out]
    exact ⟨rfl,HT6.out.trans HT7.out⟩
   | ok xs j =>
    obtain ⟨u,rfl,⟨cs,hR,hX7⟩,hP7,hT7⟩:=he7;obtain ⟨ua,cap,rfl,-,-⟩:=Sl.form (Sl.of_own hR);have HR4:=zh (hT7.own HB6.out (by omega));obtain ⟨b0,b1,b2,b3⟩:=yc4 HR4.out;have bf:=HR4.out.free;have HXx:=fun op K=>ExsC.cons (P:=fun b=>W6.heap.size<=b) (op:=op) (n:=K) (name:=[]) (Sl.of_own hR) (.inr fun g hg=>(hR.lt g hg).1) (hX7.weak fun b _ h=>h.1) .nil
    have HXx:=zh HXx;have HP7:=zh hP7;have HT7:=zh (HT6.out.trans hT7);clear hX7 hP7 hT7 hR;go_wp2_with fail
    have hP:¬ (W6.heap.size<=w.heap.size):=by omega
    exact yE (operand_ret rfl ((((HR4.out.set 0 _).set 1 _).set 2 _).set 3 _)) rfl (by rw [HR5.out];exact ⟨_,rfl,⟨_,rfl,(((((HXx.out _ _).set hP).set hP).set hP).set hP).weak fun b _ h=>by omega⟩,
     HP7.out.only (S:=fun b=>b=w.heap.size) (((((Turns.refl w.heap.size w7).set _ _).set _ _).set _ _).set _ _) (by omega) (fun b hb=>by have:=hv b hb;omega),
     (((HT7.out.setNew (zr _) _).setNew (zr _) _).setNew (zr _) _).setNew (zr _) _⟩)
 ·have hk3:(T.kind != 1)=true:=by simpa using hk1
  have HR3:Hid (R=_):=zh (HR2.out.trans (yP hk1));clear hk1 HR2;go_wp2_with fail
  go_at_call 106;refine (HF.out _ Hb3.out).mono ?_;rintro e4 w4 ⟨he4,hb4⟩;unfold Bad at he4;subst he4;have Hb4:=zh (Hb3.out.trans (hb4.mono Hb3.out.size));clear hb4;go_wp2_with fail
  refine ⟨rfl,?_⟩;rw [HR3.out];exact ⟨rfl,Turns.below Hb4.out⟩
theorem zlw {l:List Tok} {D:Nat->Nat->PR Ex} {s:Nat} (hD:∀ j o x m,D j o=.ok x m->j < m):∀ (f:Nat) (x:Ex) (i o:Nat) (y:Ex) (j:Nat),zbl l D s f x i o=.ok y j->i<=j:=by
 intro f
 induction f with
 | zero=>intro x i o y j h;cases h
 | succ f ih =>
  intro x i o y j h;rw [zbl] at h;split at h
  ·cases h;exact zr _
  ·obtain ⟨z,m,h1,h2⟩:=PR.bind_ok h;have:=hD _ _ _ _ h1;split at h2
   ·cases h2;omega
   ·have:=ih _ _ _ _ _ h2;omega
theorem zg9 {l:List Tok} {E:Nat->Nat->PR Ex} (hE:∀ i o x j,E i o=.ok x j->i < j):∀ (d i o:Nat) (x:Ex) (j:Nat),zbp l E d i o=.ok x j->i < j:=by
 intro d
 induction d with
 | zero=>intro i o x j h;exact zd5 (fun i o q x j h=>hE i o x j h) _ _ _ _ _ h
 | succ d ih =>
  intro i o x j h;rw [zbp] at h;obtain ⟨z,m,h1,h2⟩:=PR.bind_ok h;have:=ih _ _ _ _ h1;have:=zlw (fun j o x m=>ih j o x m) _ _ _ _ _ _ h2;omega
theorem zeZ (l:List Tok):∀ (f i o:Nat) (x:Ex) (j:Nat),zbI l f i o=.ok x j->i < j:=by
 intro f
 induction f with
 | zero=>intro i o x j h;cases h
 | succ f ih=>intro i o x j h;exact zg9 ih _ _ _ _ _ h
theorem ze0 {l:List Tok} {p:Nat} {v:Value} (hE:PEnv l):∀ (n i o g:Nat) (w:World),l.length+1 - i<=n->l.length+1 - i<=g->o<=300->PSt w p v l i o ->
  Calls Tryz.prog 130 #[.pointer (some ⟨p,0,none⟩)] w (RdE l p v o w (ExN w.heap.size) (zbI l g i o)):=by
 intro n
 induction n with
 | zero=>intro i o g w hn _ _ h;have:=h.here;omega
 | succ n ih =>
  intro i o g w hn hg ho h;rw [zeC l g i o hg]
  have hop:∀ j o' W,i<=j->o'<=300->PSt W p v l j o'->Calls Tryz.prog 231 #[.pointer (some ⟨p,0,none⟩)] W (RdE l p v o' W (ExN W.heap.size) (zah l (fun i o _=>zbI l (g - 1) i o) j o')):=
   fun j o' W hj ho' hP=>zih hP hE _ (fun i' o2 W' hi' ho2 hP'=>ih i' o2 (g - 1) W' (by omega) (by omega) ho2 hP') (fun i' o2 x m=>zeZ l (g - 1) i' o2 x m) ho'
  have hmon:∀ d j o' x m,zbp l (zbI l (g - 1)) d j o'=.ok x m->j < m:=fun d j o' x m=>zg9 (zeZ l (g - 1)) d j o' x m
  have h5:LevC l p v i 5 (zbp l (zbI l (g - 1)) 0):=zj9 _ (fun j o' W hj ho' hP=>by
   have hh:=hP.here;have:=zj7 hE (fun i o _=>zbI l (g - 1) i o) (l.length+1 - j) j o' W (by omega) ho' hP (fun j2 o2 W2 hj2 ho2 hP2=>hop j2 o2 W2 (by omega) ho2 hP2)
   exact this)
  have h4:LevC l p v i 4 (zbp l (zbI l (g - 1)) 1):=zc2 hE (by omega) _ (hmon 0) h5;have h3:LevC l p v i 3 (zbp l (zbI l (g - 1)) 2):=zc2 hE (by omega) _ (hmon 1) h4;have h2:LevC l p v i 2 (zbp l (zbI l (g - 1)) 3):=zc2 hE (by omega) _ (hmon 2) h3;have h1:LevC l p v i 1 (zbp l (zbI l (g - 1)) 4):=zc2 hE (by omega) _ (hmon 3) h2;have h0:LevC l p v i 0 (zbp l (zbI l (g - 1)) 5):=zc2 hE (by omega) _ (hmon 4) h1;exact zm9 h ho _ h0
theorem zka {w:World} {p:Nat} {v:Value} {l:List Tok} {i o:Nat} (h:PSt w p v l i o) (hE:PEnv l) (ho:o<=300) :
  Calls Tryz.prog 131 #[.pointer (some ⟨p,0,none⟩)] w (RdE l p v o w (ExN w.heap.size) ((za0 l i [61]).andThen fun _ k=>(zbv l k o).andThen fun x j=>(za0 l j [59]).andThen fun _ m=>.ok x m)):=by
 obtain ⟨final,hfin⟩:∃ r,((za0 l i [61]).andThen fun _ k=>(zbv l k o).andThen fun x j=>(za0 l j [59]).andThen fun _ m=>.ok x m)=r:=⟨_,rfl⟩;rw [hfin];have Hf:=zh hfin;clear hfin;have hlt:=h.lt;have hv:=zao h;obtain ⟨W0,hW0,hb0,hB0⟩:∃ W0,W0=w.alloc (.cells #[.int .u8 0,.int .i64 0,.string { data:=#[] },.slice none 0 0] 193)/\Below w.heap.size w W0/\OwnV W0 w.heap.size 193 zeroE:=⟨_,rfl,(yR _ _).alloc (zr _) _,OwnV.new _ _ _⟩;have HN:=zh (zcv (h.below hb0) hE [61]);have HX:Hid (∀ k W,PSt W p v l k o->Calls Tryz.prog 130 #[.pointer (some ⟨p,0,none⟩)] W (RdE l p v o W (ExN W.heap.size) (zbv l k o))):=zh (fun k W hP=>ze0 hE (l.length+1 - k) k o _ W (zr _) (zr _) ho hP);have HN2:Hid (∀ k W,PSt W p v l k o->Calls Tryz.prog 135 #[.pointer (some ⟨p,0,none⟩),.string { data:=#[59] }] W (RdE l p v o W zgl (za0 l k [59]))):=zh (fun k W hP=>zcv hP hE [59]);have HW0:=zh hW0;have Hb0:=zh hb0;have HB0:=zh hB0;clear hW0 hb0 hB0 h hE
 generalize za0 l i [61]=R0 at *
 go_enter Tryz.func131,Tryz.ntmps131
 go_upto_region 1 with (fail)
 rw [<- HW0.out];go_wp2_with fail
 go_at_call 135;refine HN.out.mono ?_;intro e1 w1 he1;clear HN
 cases R0 with
 | err a c =>
  obtain ⟨he1,hT1⟩:=he1;unfold Bad at he1;subst he1;have HT1:=zh hT1;clear hT1;go_wp2_with fail
  have Hf1:Hid (.err a c=final):=Hf;refine ⟨rfl,?_⟩;rw [<- Hf1.out]
  exact ⟨rfl,(Turns.below Hb0.out).trans HT1.out⟩
 | ok y k =>
  obtain ⟨u1,rfl,rfl,hP1,hT1⟩:=he1;have HB1:=zh (hT1.own HB0.out (by omega));have HT1:=zh ((Turns.below Hb0.out).trans hT1);have HC:=zh (HX.out k w1 hP1);have hs1:=HB1.out.lt;have Hf1:Hid ((zbv l k o).andThen (fun x j=>(za0 l j [59]).andThen fun _ m=>.ok x m)=final):=Hf;generalize zbv l k o=R1 at HC Hf1;clear hT1 HX Hf;go_wp2_with fail
  go_at_call 130;refine HC.out.mono ?_;intro e2 w2 he2;clear HC
  cases R1 with
  | err a c =>
   obtain ⟨he2,hT2⟩:=he2;unfold Bad at he2;subst he2;have HT2:=zh hT2;clear hT2;have Hf2:Hid (.err a c=final):=Hf1;go_wp2_with fail
   refine ⟨rfl,?_⟩;rw [<- Hf2.out]
   exact ⟨rfl,HT1.out.trans HT2.out⟩
  | ok x j =>
   obtain ⟨u,rfl,⟨cs,rfl,hX2⟩,hP2,hT2⟩:=he2;obtain ⟨op,n,name,args⟩:=x;obtain ⟨aa,cp,rfl⟩:=hX2.form1;have HB2:=hT2.own HB1.out (by omega);obtain ⟨W3,hW3,hb3,hO3⟩:∃ W3,W3=w2.alloc (.cells #[.int .u8 op,.int .i64 n,.string (bstr name),.slice aa args.length cp] 193)/\Below w2.heap.size w2 W3/\OwnV W3 w2.heap.size 193 [.int .u8 op,.int .i64 n,.string (bstr name),.slice aa args.length cp]:=⟨_,rfl,(yR _ _).alloc (zr _) _,OwnV.new _ _ _⟩;have HW3:=zh hW3;have HX3:=zh (hX2.under hb3 (zr _));have HB3:=zh (HB2.below hb3 (zr _));have HO3:=zh hO3;have HT3:=zh ((HT1.out.trans hT2).trans (Turns.below hb3));have HC:=zh (HN2.out j W3 (hP2.below hb3));have hs2:=hT2.size;have hs3:=hO3.lt;have Hf2:Hid ((za0 l j [59]).andThen (fun _ m=>.ok (.mk op n name args) m)=final):=Hf1;generalize za0 l j [59]=R2 at HC Hf2;clear hW3 hb3 hO3 hX2 hP2 hT2 HB2 HN2 Hf1;go_upto_region 3 with (fail)
   rw [<- HW3.out];go_wp2_with fail
   go_at_call 135;refine HC.out.mono ?_;intro e4 w4 he4;clear HC
   cases R2 with
   | err a c =>
    obtain ⟨he4,hT4⟩:=he4;unfold Bad at he4;subst he4;have HT4:=zh hT4;clear hT4;have Hf3:Hid (.err a c=final):=Hf2;go_wp2_with fail
    refine ⟨rfl,?_⟩;rw [<- Hf3.out]
    exact ⟨rfl,HT3.out.trans HT4.out⟩
   | ok y m =>
    obtain ⟨u4,rfl,rfl,hP4,hT4⟩:=he4;have Hf3:Hid (.ok (.mk op n name args) m=final):=Hf2;have hO4:=hT4.own HO3.out (by omega);have hR4:=hT4.own HB3.out (by omega);obtain ⟨o0,o1,o2,o3⟩:=yc4 hO4;obtain ⟨b0,b1,b2,b3⟩:=yc4 hR4;have bf:=hR4.free;have HX4:=zh (HX3.out.grown (Turns.grown (p:=p) hT4) (fun b e h=>by cases e;omega));have HP4:=zh hP4;have HT4:=zh (HT3.out.trans hT4);clear hP4 hT4 hO4 hR4;go_wp2_with fail
    rw [<- Hf3.out];refine yE (v:=.agg #[.int .u8 op,.int .i64 n,.string (bstr name),.slice aa args.length cp]) (by simp [results,Tryz.results131,go_sem,b0,b1,b2,b3]) rfl ⟨_,rfl,⟨_,rfl,?_⟩,?_,?_⟩
    ·have hP:¬ (w1.heap.size<=w.heap.size):=by omega
     exact ((((HX4.out.set hP).set hP).set hP).set hP).weak fun b _ h=>by omega
    ·exact HP4.out.only (S:=fun b=>b=w.heap.size) (((((Turns.refl w.heap.size w4).set _ _).set _ _).set _ _).set _ _) (by omega) (fun b hb=>by have:=hv b hb;omega)
    ·exact (((HT4.out.setNew (zr _) _).setNew (zr _) _).setNew (zr _) _).setNew (zr _) _
theorem zkb (l:List Tok) (i o:Nat):((za0 l i [61]).andThen fun _ k=>(zbv l k o).andThen fun x j=>(za0 l j [59]).andThen fun _ m=>.ok x m)=zaz l i o:=by
 rw [<- valueP];unfold za0;by_cases h:isS l i [61]=false
 ·rw [yP h,yP h];rfl
 ·rw [yN h,yN h];show (zbv l (i+1) o).andThen _=_;congr 1
  funext x j
  by_cases h2:isS l j [59]=false
  ·rw [yP h2,yP h2];rfl
  ·rw [yN h2,yN h2];rfl
theorem zeh {w:World} {p:Nat} {v:Value} {l:List Tok} {i o:Nat} (h:PSt w p v l i o) (hE:PEnv l) (ho:o<=300) :
  Calls Tryz.prog 131 #[.pointer (some ⟨p,0,none⟩)] w (RdE l p v o w (ExN w.heap.size) (zaz l i o)):=by
 have:=zka h hE ho;rw [zkb] at this;exact this
theorem zei {w:World} {p gp:Nat} {v:Value} {l:List Tok} {i o:Nat} {start stop:List UInt8} (h:PSt w p v l i o) (hE:PEnv l) (ho:o<=300) (hs:zeB stop)
  (hg:OwnV w gp 225 (List.replicate 1 (zbs p))) (n5:gp≠p) :
  Calls Tryz.prog 129 #[.pointer (some ⟨p,0,none⟩),.string (bstr start),.string (bstr stop),.slice (some ⟨gp,0,none⟩) 1 1] w (RdE l p v o w (XsV w.heap.size) (zad l (zaA l) i o start stop 1)):=by
 have:=zce (start:=start) (stop:=stop) h hE ho (fun i o _=>zbv l i o) hg n5 (by decide) (by decide) (fun i' W hi ho2 hP=>ze0 hE (l.length+1 - i') i' (o+1) _ W (zr _) (zr _) (by omega) hP) (fun i' x m=>zeZ l _ i' (o+1) x m);rw [znh l i o start stop 1 hs] at this;exact this
end Go.Proofs.YtdhikpkecmaplaaGreatDoor
