/- The program's parser: statement, walked: all cases. -/
import Derived.Test.YtdhikpkecmaplaaGreatDoorPaUMk
set_option linter.unusedSimpArgs false
set_option linter.unusedVariables false
set_option maxRecDepth 100000
set_option maxHeartbeats 8000000
namespace Go.Proofs.YtdhikpkecmaplaaGreatDoor
open Go.RowKit

theorem stmt_ret {tmps:Array Value} {w:World} {g:Nat} {a b c d e f:Value} (h:tmps[2]?.getD undef=.pointer (some ⟨g,0,none⟩)) (H:OwnV w g 184 [a,b,c,d,e,f]) :
  (results Tryz.f107 tmps).run Tryz.prog w=.ok (.agg #[a,b,c,d,e,f]) w:=by
 obtain ⟨b0,b1,b2,b3,b4,b5⟩:=yc6 H;simp [results,Tryz.results107,go_sem,h,b0,b1,b2,b3,b4,b5]
section
variable {W : World} {g p i o : Nat} {a b c d e f : Value}
theorem six_own {y:TypeId} {z0 z1 z2 z3 z4 z5:Value} (H:OwnV W g y [z0,z1,z2,z3,z4,z5]):OwnV ((((((W.setCell ⟨g,0,none⟩ a).setCell ⟨g,1,none⟩ b).setCell ⟨g,2,none⟩ c).setCell ⟨g,3,none⟩ d).setCell ⟨g,4,none⟩ e).setCell ⟨g,5,none⟩ f) g y [a,b,c,d,e,f]:=(((((H.set 0 _).set 1 _).set 2 _).set 3 _).set 4 _).set 5 _
theorem six_on:Only (fun b=>b=g) W ((((((W.setCell ⟨g,0,none⟩ a).setCell ⟨g,1,none⟩ b).setCell ⟨g,2,none⟩ c).setCell ⟨g,3,none⟩ d).setCell ⟨g,4,none⟩ e).setCell ⟨g,5,none⟩ f):=(((((Turns.refl g W).set _ _).set _ _).set _ _).set _ _).set _ _ |>.set _ _
theorem six_st {v:Value} {l:List Tok} (h:PSt W p v l i o) (hp:p≠g) (hv:∀ b,v.ownBlock=some b->b≠g):PSt ((((((W.setCell ⟨g,0,none⟩ a).setCell ⟨g,1,none⟩ b).setCell ⟨g,2,none⟩ c).setCell ⟨g,3,none⟩ d).setCell ⟨g,4,none⟩ e).setCell ⟨g,5,none⟩ f) p v l i o:=h.only six_on hp hv
theorem six_turns {w:World} (h:Turns p w W) (hg:w.heap.size<=g):Turns p w ((((((W.setCell ⟨g,0,none⟩ a).setCell ⟨g,1,none⟩ b).setCell ⟨g,2,none⟩ c).setCell ⟨g,3,none⟩ d).setCell ⟨g,4,none⟩ e).setCell ⟨g,5,none⟩ f):=h.transNew six_on (fun b e=>.inr (by omega))
end
theorem stmt_words {s t:List UInt8} (h:s=t) (q0 q1 q2 q3 q4:Bool) (hq:decide (t=[108,101,116])=q0/\decide (t=[105,102])=q1/\decide (t=[119,104,105,108,101])=q2/\decide (t=[115,116,111,112])=q3/\decide (t=[102,97,105,108])=q4) :
  ((bstr s).toList == [108,101,116])=q0/\((bstr s).toList == [105,102])=q1/\((bstr s).toList == [119,104,105,108,101])=q2/\((bstr s).toList == [115,116,111,112])=q3/\((bstr s).toList == [102,97,105,108])=q4:=by
 subst h;simp only [zal];exact hq
theorem stmt_cases (s:List UInt8):s=[108,101,116]∨s=[105,102]∨s=[119,104,105,108,101]∨s=[115,116,111,112]∨s=[102,97,105,108]∨(s≠[108,101,116]/\s≠[105,102]/\s≠[119,104,105,108,101]/\s≠[115,116,111,112]/\s≠[102,97,105,108]):=by
 by_cases h0:s=[108,101,116]
 ·exact .inl h0
 by_cases h1:s=[105,102]
 ·exact .inr (.inl h1)
 by_cases h2:s=[119,104,105,108,101]
 ·exact .inr (.inr (.inl h2))
 by_cases h3:s=[115,116,111,112]
 ·exact .inr (.inr (.inr (.inl h3)))
 by_cases h4:s=[102,97,105,108]
 ·exact .inr (.inr (.inr (.inr (.inl h4))))
 exact .inr (.inr (.inr (.inr (.inr ⟨h0,h1,h2,h3,h4⟩))))
theorem stop_spec {l:List Tok} {i:Nat} {op:Int}:(if isS l (i+1) [59]=false then (.err (i+1) 120:PR St) else .ok (.mk op 0 [] [] [] []) (i+2))=(za0 l (i+1) [59]).andThen fun _ j=>.ok (.mk op 0 [] [] [] []) j:=by
 unfold za0;split <;> rfl
theorem let_spec {l:List Tok} {i o:Nat}:(if (zaa l (i+1)).kind≠1∨zaP (zaa l (i+1)).text=false then (.err (i+1) 120:PR St) else (zaz l (i+2) o).map fun x=>.mk 1 0 (zaa l (i+1)).text [x] [] [])=(zcc l (i+1)).andThen fun s k=>(zaz l k o).map fun x=>.mk 1 0 s [x] [] []:=by
 unfold zcc;split <;> rfl
theorem set_spec {l:List Tok} {i o:Nat} {s:List UInt8} (hs:(zaa l i).text=s) (hk:(zaa l i).kind=1):(if zaP s=false then (.err i 120:PR St) else (zaz l (i+1) o).map fun x=>.mk 2 0 s [x] [] [])=(zcc l i).andThen fun s k=>(zaz l k o).map fun x=>.mk 2 0 s [x] [] []:=by
 subst hs;unfold zcc;by_cases hn:zaP (zaa l i).text=false
 ·rw [yP hn,yP (.inr hn)];rfl
 ·rw [yN hn,yN (by rw [hk];simpa using hn)];rfl
theorem while_spec {l:List Tok} {i o:Nat} {S:Nat->Nat->PR St} (hi:i < l.length) (hs:(zaa l i).text=[119,104,105,108,101]) (hk:(zaa l i).kind=1):zau l S (l.length+1 - i) i o=(zad l (zaA l) (i+1) o [40] [41] 1).andThen fun x j=>(zaB l S j o).andThen fun body k=>.ok (.mk 5 0 [] x body []) k:=by
 have hw:isS l i [119,104,105,108,101]=true:=by unfold isS;rw [hk,hs];decide
 obtain ⟨g,hg⟩:∃ g,l.length+1 - i=g+1:=⟨l.length - i,by omega⟩;rw [hg,zau,hw];rfl
theorem pstmt_step {w:World} {p:Nat} {v:Value} {l:List Tok} {i o:Nat} (h:PSt w p v l i o) (hE:PEnv l) (ho:o<=300) (f:Nat)
  (hBr:isS l i [105,102]=true->∀ W,PSt W p v l i o->Calls Tryz.prog 133 #[.pointer (some ⟨p,0,none⟩)] W (RdE l p v o W (StN W.heap.size) (zau l (zan l f) (l.length+1 - i) i o)))
  (hBl:∀ j W,i < j->PSt W p v l j o->Calls Tryz.prog 134 #[.pointer (some ⟨p,0,none⟩)] W (RdE l p v o W (TsV W.heap.size) (zaB l (zan l f) j o))) :
  Calls Tryz.prog 107 #[.pointer (some ⟨p,0,none⟩)] w (RdE l p v o w (StN w.heap.size) (zan l (f+1) i o)):=by
 have hlt:=h.lt;have hv:=zao h;have hi2:(i:Int)<=16385:=by have:=h.here;have:=hE.small;omega
 have hmf:=zmf Tryz.prog
 obtain ⟨W0,hW0,hb0,hB0⟩:∃ W0,W0=w.alloc (.cells #[.int .u8 0,.int .i64 0,.string { data:=#[] },.slice none 0 0,.slice none 0 0,.slice none 0 0] 184)/\Below w.heap.size w W0/\OwnV W0 w.heap.size 184 zeroT:=⟨_,rfl,(yR _ _).alloc (zr _) _,OwnV.new _ _ _⟩;have HN:=zh (zaQ (h.below hb0) hE);have H0:=zh (h.below hb0);have HW0:=zh hW0;have Hb0:=zh hb0;have HB0:=zh hB0;obtain ⟨final,hR⟩:∃ R,zan l (f+1) i o=R:=⟨_,rfl⟩;have HR:Hid (zan l (f+1) i o=_):=zh (by rw [zan]);rw [hR] at HR ⊢;have HF:Hid (∀ w',Below w.heap.size w w'->_):=zh (fun (w':World) (hb:Below w.heap.size w w')=>zcl (h.below hb) hE 120);have HK:Hid (∀ w:World,_):=zh (fun w:World=>za5 (zaa l i).text w);have Hnx:Hid ((zaa l i).kind≠4->i+1 < l.length):=zh (hE.good.next h.here);have HNd:Hid (∀ W,PSt W p v l (i+1) o->Calls Tryz.prog 135 #[.pointer (some ⟨p,0,none⟩),.string { data:=#[59] }] W (RdE l p v o W zgl (za0 l (i+1) [59]))):=zh (fun W hP=>zcv hP hE [59]);have HNm:Hid (∀ W j,PSt W p v l j o->_):=zh (fun W j hP=>zfL hP hE);have HV:Hid (∀ k W,PSt W p v l k o->Calls Tryz.prog 131 #[.pointer (some ⟨p,0,none⟩)] W (RdE l p v o W (ExN W.heap.size) (zaz l k o))):=zh (fun k W hP=>zeh hP hE ho);have HBr:Hid ((zaa l i).kind=1->(zaa l i).text=[105,102]->_):=zh (fun hk hs=>hBr (by unfold isS;rw [hk,hs];decide));have HBl:=zh hBl;have HWh:Hid ((zaa l i).text=[119,104,105,108,101]->(zaa l i).kind=1->_):=zh (fun hs hk=>while_spec (S:=zan l f) (o:=o) h.here hs hk);have HSe:Hid (∀ s,(zaa l i).text=s->(zaa l i).kind=1->_):=zh (fun s hs hk=>set_spec (o:=o) hs hk);have Hin:Hid (∀ (W:World) (gp:Nat) (start stop:List UInt8),zeB stop->PSt W p v l (i+1) o->OwnV W gp 225 (List.replicate 1 (zbs p))->gp≠p->Calls Tryz.prog 129 #[.pointer (some ⟨p,0,none⟩),.string (bstr start),.string (bstr stop),.slice (some ⟨gp,0,none⟩) 1 1] W (RdE l p v o W (XsV W.heap.size) (zad l (zaA l) (i+1) o start stop 1))):=zh (fun W gp start stop hs hP hg hn=>zei hP hE ho hs hg hn);clear hW0 hb0 hB0 h hE hR hBr hBl
 generalize zaa l i=T at *
 go_enter Tryz.func107,Tryz.ntmps107
 go_upto_region 1 with (fail)
 rw [<- HW0.out];go_wp2_with fail
 go_at_call 105;refine HN.out.mono ?_;rintro e1 w1 ⟨rfl,hb1⟩;obtain ⟨W2,hW2,hb2,hT2⟩:∃ W2,W2=w1.alloc (.cells #[.int .u8 T.kind,.string (bstr T.text),.int .i64 T.n,.int .i64 T.line,.int .i64 T.col] 180)/\Below w1.heap.size w1 W2/\OwnV W2 w1.heap.size 180 [.int .u8 T.kind,.string (bstr T.text),.int .i64 T.n,.int .i64 T.line,.int .i64 T.col]:=⟨_,rfl,(yR _ _).alloc (zr _) _,OwnV.new _ _ _⟩;have hs1:=hb1.size;have H2:=(H0.out.below hb1).below hb2;have hB2:=(HB0.out.below hb1 (zr _)).below hb2 (zr _);have hb02:=hb1.trans (hb2.mono hs1);have HW2:=zh hW2;have HH2:=zh H2;have HB2:=zh hB2;have HTk:=zh hT2;have hlt0:=HB0.out.lt;have Hb2:=zh (Hb0.out.trans (hb02.mono Hb0.out.size));obtain ⟨k0,k1⟩:=yc2 hT2;have hlw:w1.heap.size < W2.heap.size:=hT2.lt;have hp1:p < W0.heap.size:=H0.out.lt;clear hW2 hb1 hb2 H2 hB2 hT2 hb02 HN;go_upto_region 2 with (fail)
 rw [<- HW2.out];by_cases hk:T.kind=1
 ·have hk3:(T.kind != 1)=false:=by simp [hk]
  have Hk1:=zh hk;have hnx:=Hnx.out (by rw [hk];decide);have HR1:Hid (final=_):=zh (HR.out.trans (yN (fun e=>e hk)));have hk10:=zdg T.text;obtain ⟨K,hK⟩:∃ K,zap T.text=K:=⟨_,rfl⟩;rw [hK] at HR1 HK hk10;clear hk HR hK;have hK10:(K:Int)<=10:=by omega
  go_wp2_with fail
  go_at_call 128;refine (HK.out _).mono ?_;rintro e4 w4 ⟨rfl,hb4⟩;have HH4:=zh (HH2.out.below hb4);have HB4:=zh (HB2.out.below hb4 (zr _));have HTk4:=zh (HTk.out.below hb4 (zr _));have Hb4:=zh (Hb2.out.trans (hb4.mono Hb2.out.size));have k1:=HTk4.out.cell (i:=1) rfl;have x1:=HH4.out.blk.cell (i:=1) rfl;have xf:=HH4.out.blk.free;have hs4:=HB4.out.lt;have hp4:=HH4.out.lt;obtain ⟨W5,hW5,hP5,hT5⟩:∃ W5,W5=w4.setCell ⟨p,1,none⟩ (.int .i64 ((i:Int)+1))/\PSt W5 p v l (i+1) o/\Turns p w4 W5:=⟨_,rfl,HH4.out.step hnx,(Turns.refl _ _).set _ _⟩;have hB5:=hT5.own HB4.out (by omega);have hTk5:=hT5.own HTk4.out (by omega);have HW5:=zh hW5;have HP5:=zh hP5;have HT5:=zh ((Turns.below Hb4.out).trans hT5);have HB5:=zh hB5;have HTk5:=zh hTk5;have hs5:=hB5.lt;have hp5:=hP5.lt;clear hW5 hP5 hT5 hB5 hTk5 hb4
  have Hbox:Hid (∀ start stop:List UInt8,zeB stop->∃ W6,Hid (W6=W5.alloc (.cells #[.func (.func 130) #[.pointer (some ⟨p,0,none⟩)] #[]] 225))/\Hid (Calls Tryz.prog 129 #[.pointer (some ⟨p,0,none⟩),.string (bstr start),.string (bstr stop),.slice (some ⟨W5.heap.size,0,none⟩) 1 1] W6 (RdE l p v o W6 (XsV W6.heap.size) (zad l (zaA l) (i+1) o start stop 1)))/\Hid (OwnV W6 w.heap.size 184 zeroT)/\Hid (Turns p w W6)/\W5.heap.size < W6.heap.size):=zh (fun start stop hst=>by
   obtain ⟨W6,hW6,hb6,hG6⟩:∃ W6,W6=W5.alloc (.cells #[.func (.func 130) #[.pointer (some ⟨p,0,none⟩)] #[]] 225)/\Below W5.heap.size W5 W6/\OwnV W6 W5.heap.size 225 (List.replicate 1 (zbs p)):=⟨_,rfl,(yR _ _).alloc (zr _) _,OwnV.new _ _ _⟩
   exact ⟨W6,zh hW6,zh (Hin.out W6 _ start stop hst (HP5.out.below hb6) hG6 (by omega)),zh (HB5.out.below hb6 (zr _)),zh (HT5.out.trans (Turns.below hb6)),hG6.lt⟩)
  clear Hin;by_cases hKp:0 < K
  ·have hKp1:(K:Int) > 0:=by omega
   have hK1:(0:Int) < (K:Int):=by omega
   have HRw:Hid (final=_):=zh (HR1.out.trans (yP hKp));have hli:∀ xs j,zad l (zaA l) (i+1) o [91] [93] 1=.ok xs j->xs.length=1:=fun xs j e=>zdC e
   clear HR1 hKp;obtain ⟨W6,HW6,HC,HB6,HT6,hs6⟩:=Hbox.out [91] [93] (by simp [zeB]);clear Hbox;go_upto_region 7 with (fail)
   rw [<- HW5.out];clear x1 xf k0 k1;go_wp2_with fail
   rw [<- HW6.out];go_at_call 129;refine HC.out.mono ?_;intro e7 w7 he7;clear HC
   generalize zad l (zaA l) (i+1) o [91] [93] 1=R at *
   cases R with
   | err a c =>
    obtain ⟨he7,hT7⟩:=he7;unfold Bad at he7;subst he7;have HT7:=zh hT7;clear hT7;go_wp2_with fail
    refine ⟨rfl,?_⟩;rw [HRw.out]
    exact ⟨rfl,HT6.out.trans HT7.out⟩
   | ok xs j =>
    simp only [PR.andThen] at HRw;have hl1:xs.length<=1:=Nat.le_of_eq (hli xs j rfl);clear hli;obtain ⟨u7,rfl,⟨cs7,hR7,hX7⟩,hP7,hT7⟩:=he7;have hs7:=hT7.size;obtain ⟨ua,cap,rfl,-,-⟩:=Sl.form (Sl.of_own hR7);have HC:=zh (HV.out j w7 hP7);have HB7:=zh (hT7.own HB6.out (by omega));have HR7:=zh hR7;have HX7:=zh hX7;have HT7:Hid (Turns p w w7):=zh (HT6.out.trans hT7)
    generalize zaz l j o=R2 at *
    clear hR7 hX7 hP7 hT7 HV;go_wp2_with fail
    go_at_call 131;refine HC.out.mono ?_;intro e8 w8 he8;clear HC
    cases R2 with
    | err a c =>
     obtain ⟨he8,hT8⟩:=he8;unfold Bad at he8;subst he8;have HT8:=zh hT8;clear hT8;go_wp2_with fail
     refine ⟨rfl,?_⟩;rw [HRw.out]
     exact ⟨rfl,HT7.out.trans HT8.out⟩
    | ok y k =>
     obtain ⟨u8,rfl,⟨cs8,rfl,hX8⟩,hP8,hT8⟩:=he8;obtain ⟨op,n,name,args⟩:=y;obtain ⟨aa,cp,rfl⟩:=hX8.form1;have hs8:=hT8.size;have hR8:=hT8.row HR7.out (fun g hg e=>by have:=(HR7.out.lt g hg).1;omega);have HR8:=zh hR8;have HB8:=zh (hT8.own HB7.out (by omega));have HP8:=zh hP8;have HX8:=zh hX8;have HT8:=zh hT8;clear hX8 hP8 hT8;have hwK:IntKind.i64.wrap (K:Int)=K:=by simp [IntKind.wrap,IntKind.bits];omega
     have Hn:=zh (show p < w.heap.size/\w.heap.size < W6.heap.size/\W6.heap.size<=w7.heap.size/\w7.heap.size<=w8.heap.size from ⟨hlt,by omega,hs7,hs8⟩);go_wp2_with (at_builtin;apply zbj (s:=.tmp 35) (x:=.tmp 38) (t:=182) (hown:=hR8) (hi:=zbx) (ht:=Tryz.underlying182) (m:=1) (c:=1);(rfl);(decide);rfl;rfl;rfl;rfl;(unfold maxLen;omega);omega;omega;rotate_left;rfl;rfl;(intro v9 w9 hown9 hg9 hb9 hat9;obtain ⟨g9,cap9,rfl,hmg9⟩:=zcd hown9;have hR9:OwnV w9 w.heap.size 184 zeroT:=OwnV.grown HB8.out hg9 (fun e=>by have:=(HR8.out.lt _ e.symm).1;have:=Hn.out;omega);have HB9:=zh hR9;obtain ⟨b0,b1,b2,b3,b4,b5⟩:=yc6 hR9;have bf:=hR9.free))
     have hXa:=zjE (p:=p) (X:=w8) HR7.out HX7.out HT8.out (by omega) HX8.out hs7 (yR _ _) hg9 hat9;have hT9:Only (fun b=>(Value.slice ua xs.length cap).ownBlock=some b) w8 w9:=Only.of_grown hg9 (fun g e=>e);have hlow:∀ g,(Value.slice ua xs.length cap).ownBlock=some g->W6.heap.size<=g:=fun g e=>(HR8.out.lt g e).1
     have HX9:Hid (StsC w9 (fun b=>W6.heap.size<=b) [.mk 3 K [] (xs++[.mk op n name args]) [] []] [.int .u8 3,.int .i64 K,.string { data:=#[] },.slice (some ⟨g9,0,none⟩) (xs++[Ex.mk op n name args]).length cap9,.slice none 0 0,.slice none 0 0]):=zh (.cons (name:=[]) (by have:=Sl.of_own hown9;rwa [show xs.length+1=(xs++[Ex.mk op n name args]).length from by simp] at this) (.inr fun g e=>by cases e;exact hmg9) (hXa.weak fun b _ hb=>hb.1) (Sl.nil _ 6) (.inl rfl) .nil (Sl.nil _ 6) (.inl rfl) .nil .nil);rw [show (xs++[Ex.mk op n name args]).length=xs.length+1 from by simp] at HX9;have HP9:=zh (HP8.out.only hT9 (fun e=>by have:=hlow _ e;omega) (fun g e e2=>by have:=hlow _ e2;have:=hv g e;omega));have HT9:Hid (Turns p w w9):=zh ((HT7.out.trans HT8.out).transNew hT9 (fun b e=>.inr (by have:=hlow _ e;omega)));have hs9:=hT9.size;exact yE (stmt_ret rfl (six_own HB9.out)) rfl (by rw [HRw.out];exact ⟨_,rfl,⟨_,rfl,(HX9.out.only six_on (fun b hb e=>by omega)).weak fun b _ hb=>by omega⟩,six_st HP9.out (by omega) (fun b hb e=>by have:=hv b hb;omega),six_turns HT9.out (zr _)⟩)
  obtain rfl:K=0:=by omega
  have HR2:Hid (final=_):=zh (HR1.out.trans (yN hKp));clear HR1 hKp;rcases stmt_cases T.text with hS | hS | hS | hS | hS | ⟨n0,n1,n2,n3,n4⟩
  focus
   obtain ⟨e0,e1,e2,e3,e4⟩:=stmt_words hS true false false false false (by decide)
   have HRw:Hid (final=(zcc l (i+1)).andThen fun s k=>(zaz l k o).map fun x=>.mk 1 0 s [x] [] []):=zh (by
    rw [HR2.out,yN (by rw [hS];decide),yN (by rw [hS];decide),yP hS];exact let_spec)
   clear HR2 hS Hbox;go_upto_region 12 with (fail)
   rw [<- HW5.out];clear x1 xf k0 k1;go_wp2_with fail
   go_at_call 132;refine (HNm.out _ _ HP5.out).mono ?_
   generalize zcc l (i+1)=R at *
  rotate_left
  ·obtain ⟨e0,e1,e2,e3,e4⟩:=stmt_words hS false true false false false (by decide);have HRw:Hid (final=_):=zh (HR2.out.trans ((yN (by rw [hS];decide)).trans (yP (.inl hS))));have HBr:=HBr.out Hk1.out hS;have HBr:=zh HBr
   generalize zau l (zan l f) (l.length+1 - i) i o=R at *
   clear HR2 hS Hbox HW5 HP5 HT5 HB5 HTk5 hs5 hp5 x1 xf k0;go_upto_region 15 with (fail)
   clear k1;go_wp2_with fail
   go_at_call 133;refine (HBr.out _ HH4.out).mono ?_;intro e6 w6 he6;clear HBr
   cases R with
   | err a c =>
    obtain ⟨he6,hT6⟩:=he6;unfold Bad at he6;subst he6;have HT6:=zh hT6;clear hT6;go_wp2_with fail
    refine ⟨rfl,?_⟩;rw [HRw.out]
    exact ⟨rfl,(Turns.below Hb4.out).trans HT6.out⟩
   | ok x j =>
    obtain ⟨u6,rfl,⟨cs6,rfl,hX6⟩,hP6,hT6⟩:=he6;obtain ⟨op,n,name,es,bo,el⟩:=x;obtain ⟨ae,pe,ab,pb,al,pl,rfl⟩:=hX6.form1;have HB6:=zh (hT6.own HB4.out (by omega));obtain ⟨b0,b1,b2,b3,b4,b5⟩:=yc6 HB6.out;have bf:=HB6.out.free;have HX6:=zh hX6;have HP6:=zh hP6;have HT6:Hid (Turns p w w6):=zh ((Turns.below Hb4.out).trans hT6);clear hX6 hP6 hT6;go_wp2_with fail
    exact yE (stmt_ret rfl (six_own HB6.out)) rfl (by rw [HRw.out];exact ⟨_,rfl,⟨_,rfl,(HX6.out.only six_on (fun b hb e=>by omega)).weak fun b _ hb=>by omega⟩,six_st HP6.out (by omega) (fun b hb e=>by have:=hv b hb;omega),six_turns HT6.out (zr _)⟩)
  ·obtain ⟨e0,e1,e2,e3,e4⟩:=stmt_words hS false false true false false (by decide);have HRw:Hid (final=_):=zh (HR2.out.trans ((yN (by rw [hS];decide)).trans ((yP (.inr hS)).trans (HWh.out hS Hk1.out))));have hmi:∀ xs j,zad l (zaA l) (i+1) o [40] [41] 1=.ok xs j->i+1 < j:=fun xs j e=>zb2 (zb3 l) e
   clear HR2 hS;obtain ⟨W6,HW6,HC,HB6,HT6,hs6⟩:=Hbox.out [40] [41] (by simp [zeB]);clear Hbox;go_upto_region 18 with (fail)
   rw [<- HW5.out];clear x1 xf k0 k1;go_wp2_with fail
   rw [<- HW6.out];go_at_call 129;refine HC.out.mono ?_;intro e7 w7 he7;clear HC
   generalize zad l (zaA l) (i+1) o [40] [41] 1=R at *
   cases R with
   | err a c =>
    obtain ⟨he7,hT7⟩:=he7;unfold Bad at he7;subst he7;have HT7:=zh hT7;clear hT7;go_wp2_with fail
    refine ⟨rfl,?_⟩;rw [HRw.out]
    exact ⟨rfl,HT6.out.trans HT7.out⟩
   | ok xs j =>
    simp only [PR.andThen] at HRw;have hj:=hmi xs j rfl;obtain ⟨u7,rfl,⟨cs7,hR7,hX7⟩,hP7,hT7⟩:=he7;have hs7:=hT7.size
    have hX7':StsC w7 (fun b=>W6.heap.size<=b/\b≠w7.heap.size) [.mk 5 0 [] xs [] []] [.int .u8 5,.int .i64 0,.string { data:=#[] },u7,.slice none 0 0,.slice none 0 0]:=
     .cons (name:=[]) (Sl.of_own hR7) (.inr fun g e=>⟨(hR7.lt g e).1,by have:=(hR7.lt g e).2;omega⟩) (hX7.weak fun b hlt hb=>⟨hb.1,by omega⟩) (Sl.nil _ 6) (.inl rfl) .nil (Sl.nil _ 6) (.inl rfl) .nil .nil
    obtain ⟨ua,cap,rfl,-,-⟩:=Sl.form (Sl.of_own hR7);have hB7:=hT7.own HB6.out (by omega);obtain ⟨W8,hW8,hb8,hO8⟩:∃ W8,W8=w7.alloc (.cells #[.int .u8 5,.int .i64 0,.string { data:=#[] },.slice ua xs.length cap,.slice none 0 0,.slice none 0 0] 184)/\Below w7.heap.size w7 W8/\OwnV W8 w7.heap.size 184 [.int .u8 5,.int .i64 0,.string { data:=#[] },.slice ua xs.length cap,.slice none 0 0,.slice none 0 0]:=⟨_,rfl,(yR _ _).alloc (zr _) _,OwnV.new _ _ _⟩;have HC:=zh (HBl.out j W8 (by omega) (hP7.below hb8));have HB8:=zh (hB7.below hb8 (zr _));have HX8:=zh (hX7'.under hb8 (zr _));have HT8:Hid (Turns p w W8):=zh ((HT6.out.trans hT7).trans (Turns.below hb8));have HW8:=zh hW8;have HO8:=zh hO8;have hs8:w7.heap.size < W8.heap.size:=hO8.lt
    generalize zaB l (zan l f) j o=R2 at *
    clear hR7 hX7 hX7' hP7 hT7 hB7 hW8 hb8 hO8 HBl;go_upto_region 19 with (fail)
    rw [<- HW8.out];go_wp2_with fail
    go_at_call 134;refine HC.out.mono ?_;intro e9 w9 he9;clear HC
    cases R2 with
    | err a c =>
     obtain ⟨he9,hT9⟩:=he9;unfold Bad at he9;subst he9;have HT9:=zh hT9;clear hT9;go_wp2_with fail
     refine ⟨rfl,?_⟩;rw [HRw.out]
     exact ⟨rfl,HT8.out.trans HT9.out⟩
    | ok body k =>
     obtain ⟨u9,rfl,⟨cs9,hR9,hX9⟩,hP9,hT9⟩:=he9;have hs9:=hT9.size;have hO9:=hT9.own HO8.out (by omega);have hX9':=zin (HX8.out.only hT9 (fun b hb e=>by have:=hb.1;omega)) (body:=body) (Sl.of_own hR9) (.inr fun g e=>⟨by have:=(hR9.lt g e).1;omega,by have:=(hR9.lt g e).1;omega⟩) (hX9.weak fun b hlt hb=>⟨by have:=hb.1;omega,by have:=hb.1;omega⟩);obtain ⟨ub,capb,rfl,-,-⟩:=Sl.form (Sl.of_own hR9);have hB9:=hT9.own HB8.out (by omega);have y4:=hO9.cell (i:=4) rfl;have yf:=hO9.free;obtain ⟨W10,hW10,hT10⟩:∃ W10,W10=w9.setCell ⟨w7.heap.size,4,none⟩ (.slice ub body.length capb)/\Only (fun b=>b=w7.heap.size) w9 W10:=⟨_,rfl,(Turns.refl _ _).set _ _⟩;have hO10:OwnV W10 w7.heap.size 184 [.int .u8 5,.int .i64 0,.string { data:=#[] },.slice ua xs.length cap,.slice ub body.length capb,.slice none 0 0]:=by rw [hW10];exact hO9.set 4 _
     have HP10:=zh (hP9.only hT10 (by omega) (fun b hb e=>by have:=hv b hb;omega));have hB10:=hT10.own hB9 (by omega);have HX10:=zh (hX9'.only hT10 (fun b hb e=>hb.2 e));have HT10:Hid (Turns p w W10):=zh ((HT8.out.trans hT9).transNew hT10 (fun b e=>.inr (by omega)));have HW10:=zh hW10;have hs10:=hT10.size;obtain ⟨x0,x1,x2,x3,x4,x5⟩:=yc6 hO10;have HB10:=zh hB10;obtain ⟨b0,b1,b2,b3,b4,b5⟩:=yc6 hB10;have bf:=hB10.free;clear hR9 hX9 hX9' hP9 hT9 hB9 hW10 hT10 hO9 hO10 hB10;go_upto_region 20 with (fail)
     rw [<- HW10.out];clear y4 yf;go_wp2_with fail
     exact yE (stmt_ret rfl (six_own HB10.out)) rfl (by rw [HRw.out];exact ⟨_,rfl,⟨_,rfl,(HX10.out.only six_on (fun b hb e=>by have:=hb.1;omega)).weak fun b _ hb=>by have:=hb.1;omega⟩,six_st HP10.out (by omega) (fun b hb e=>by have:=hv b hb;omega),six_turns HT10.out (zr _)⟩)
  focus
   obtain ⟨e0,e1,e2,e3,e4⟩:=stmt_words hS false false false true false (by decide)
   have HRw:Hid (final=(za0 l (i+1) [59]).andThen fun _ j=>.ok (.mk 6 0 [] [] [] []) j):=zh (by
    rw [HR2.out,yP (.inl hS),hS];exact stop_spec)
   clear HR2 hS
  rotate_left
  focus
   obtain ⟨e0,e1,e2,e3,e4⟩:=stmt_words hS false false false false true (by decide)
   have HRw:Hid (final=(za0 l (i+1) [59]).andThen fun _ j=>.ok (.mk 7 0 [] [] [] []) j):=zh (by
    rw [HR2.out,yP (.inr hS),hS];exact stop_spec)
   clear HR2 hS
  rotate_left
  focus
   have e0:=(zal T.text _).trans (decide_eq_false n0);have e1:=(zal T.text _).trans (decide_eq_false n1);have e2:=(zal T.text _).trans (decide_eq_false n2);have e3:=(zal T.text _).trans (decide_eq_false n3);have e4:=(zal T.text _).trans (decide_eq_false n4);have HRw:Hid (final=_):=zh (HR2.out.trans ((yN (by rintro (h | h);exact n3 h;exact n4 h)).trans ((yN (by rintro (h | h);exact n1 h;exact n2 h)).trans ((yN n0).trans (HSe.out _ rfl Hk1.out)))));clear HR2 n0 n1 n2 n3 n4 Hbox HW5 HP5 HT5 HB5 HTk5 hs5 hp5 x1 xf k0;have HT5:Hid (Turns p w w4):=zh (Turns.below Hb4.out);have HB5:=HB4;go_upto_region 28 with (fail)
   clear k1;go_wp2_with fail
   go_at_call 132;refine (HNm.out _ _ HH4.out).mono ?_
   generalize zcc l i=R at *
  rotate_left
  rotate_left
  iterate 2
   focus
    clear Hbox;go_upto_region 24 with (fail)
    rw [<- HW5.out];clear x1 xf k0 k1
    generalize za0 l (i+1) [59]=R at *
    go_wp2_with fail
    go_at_call 135;refine (HNd.out _ HP5.out).mono ?_;intro e6 w6 he6;clear HNd
    cases R with
    | err a c =>
     obtain ⟨he6,hT6⟩:=he6;unfold Bad at he6;subst he6;have HT6:=zh hT6;clear hT6;go_wp2_with fail
     refine ⟨rfl,?_⟩;rw [HRw.out]
     exact ⟨rfl,HT5.out.trans HT6.out⟩
    | ok y j =>
     obtain ⟨u6,rfl,rfl,hP6,hT6⟩:=he6;have HB6:=zh (hT6.own HB5.out (by omega));have k1:=(hT6.own HTk5.out (by omega)).cell (i:=1) rfl;obtain ⟨b0,b1,b2,b3,b4,b5⟩:=yc6 HB6.out;have bf:=HB6.out.free;have HP6:=zh hP6;have HT6:=zh (HT5.out.trans hT6);clear hP6 hT6;go_wp2_with fail
     exact yE (stmt_ret rfl (six_own HB6.out)) rfl (by rw [HRw.out];exact ⟨_,rfl,⟨_,rfl,.cons (name:=[]) (Sl.nil _ 4) (.inl rfl) .nil (Sl.nil _ 6) (.inl rfl) .nil (Sl.nil _ 6) (.inl rfl) .nil .nil⟩,six_st HP6.out (by omega) (fun b hb e=>by have:=hv b hb;omega),six_turns HT6.out (zr _)⟩)
  all_goals
   intro e6 w6 he6;clear HNm
   cases R with
   | err a c =>
    obtain ⟨he6,hT6⟩:=he6;unfold Bad at he6;subst he6;have HT6:=zh hT6;clear hT6;go_wp2_with fail
    refine ⟨rfl,?_⟩;rw [HRw.out]
    exact ⟨rfl,HT5.out.trans HT6.out⟩
   | ok s k =>
    obtain ⟨u6,rfl,hs6,hP6,hT6⟩:=he6;unfold StrV at hs6;subst hs6;have HR6:=zh (hT6.own HB5.out (by omega));have HT6:=zh (HT5.out.trans hT6);have HC:=zh (HV.out k w6 hP6);have hs6:=HR6.out.lt;simp only [PR.andThen] at HRw;generalize zaz l k o=R1 at HC HRw;clear hP6 hT6 HV;go_wp2_with fail
    go_at_call 131;refine HC.out.mono ?_;intro e7 w7 he7;clear HC
    cases R1 with
    | err a c =>
     obtain ⟨he7,hT7⟩:=he7;unfold Bad at he7;subst he7;have HT7:=zh hT7;clear hT7;go_wp2_with fail
     refine ⟨rfl,?_⟩;rw [HRw.out]
     exact ⟨rfl,HT6.out.trans HT7.out⟩
    | ok x j =>
     obtain ⟨u7,rfl,⟨cs7,rfl,hX7⟩,hP7,hT7⟩:=he7;obtain ⟨op,n,name,args⟩:=x;obtain ⟨aa,cp,rfl⟩:=hX7.form1;obtain ⟨W8,hW8,hb8,hO8⟩:∃ W8,W8=w7.alloc (.cells #[.int .u8 op,.int .i64 n,.string (bstr name),.slice aa args.length cp] 193)/\Below w7.heap.size w7 W8/\OwnV W8 w7.heap.size 193 [.int .u8 op,.int .i64 n,.string (bstr name),.slice aa args.length cp]:=⟨_,rfl,(yR _ _).alloc (zr _) _,OwnV.new _ _ _⟩;have hs7:=hT7.size;have hR8:=(hT7.own HR6.out (by omega)).alloc (.cells #[.int .u8 op,.int .i64 n,.string (bstr name),.slice aa args.length cp] 193);obtain ⟨b0,b1,b2,b3,b4,b5⟩:=yc6 hR8;have bf:=hR8.free;have hR9:OwnV W8 w.heap.size 184 zeroT:=by rw [hW8];exact hR8
     have HSx:=fun z=>StsC.cons (w:=W8) (P:=fun b=>w6.heap.size<=b) (op:=z) (n:=0) (name:=s) (es:=[.mk op n name args]) (zcw hO8 (n:=1) rfl (zr _) (by decide)) (.inr fun g hg=>by cases hg;exact hs7) (hX7.under hb8 (zr _)) (Sl.nil _ 6) (.inl rfl) .nil (Sl.nil _ 6) (.inl rfl) .nil .nil
     have HSx:=zh HSx;have HR9:=zh hR9;have HW8:=zh hW8;have HP8:=zh (hP7.below hb8);have HT8:=zh ((HT6.out.trans hT7).trans (Turns.below hb8));clear hW8 hb8 hO8 hX7 hP7 hT7 hR8 hR9;go_wp2_with fail
     rw [<- HW8.out];exact yE (stmt_ret rfl (six_own HR9.out)) rfl (by rw [HRw.out];exact ⟨_,rfl,⟨_,rfl,((HSx.out _).only six_on (fun b hb e=>by omega)).weak fun b _ hb=>by omega⟩,six_st HP8.out (by omega) (fun b hb e=>by have:=hv b hb;omega),six_turns HT8.out (zr _)⟩)
 ·have hk3:(T.kind != 1)=true:=by simpa using hk
  have HRw:Hid (final=_):=zh (HR.out.trans (yP hk));clear hk HR;go_wp2_with fail
  go_at_call 106;refine (HF.out _ Hb2.out).mono ?_;rintro e4 w4 ⟨he4,hb4⟩;unfold Bad at he4;subst he4;have Hb4:=zh (Hb2.out.trans (hb4.mono Hb2.out.size));clear hb4;go_wp2_with fail
  refine ⟨rfl,?_⟩;rw [HRw.out];exact ⟨rfl,Turns.below Hb4.out⟩
end Go.Proofs.YtdhikpkecmaplaaGreatDoor
