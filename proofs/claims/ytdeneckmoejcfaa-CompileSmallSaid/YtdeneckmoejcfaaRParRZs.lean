/- The reference parser's statement, walked. -/
import Derived.Test.YtdeneckmoejcfaaOnlyZs
import Derived.Test.YtdeneckmoejcfaaRParPZs
set_option linter.unusedSimpArgs false
set_option linter.unusedVariables false
set_option maxRecDepth 100000
set_option maxHeartbeats 2000000
namespace Go.Proofs.Ytdeneckmoejcfaa
open Go.RowKit

theorem zca {w w':World} {row:Option Nat} (hg:w.grownBy w' row) {b i:Nat} (hlt:b < w.heap.size) (hne:some b≠row):w'.frozen? ⟨b,i,none⟩=w.frozen? ⟨b,i,none⟩:=by
 unfold World.frozen?;simp [hg.block b hlt hne]
theorem zmN (l:List Tok) (f i o:Nat) (v:Value) (w:World) (hT:Toks w l v) (hG:Good l) (hi:i < l.length) (hm:l.length<=1000000) (ho:o<=300) (hk:(zaa l i).kind=1) (hK:0 < zap (zaa l i).text) :
  Calls Try.prog 60 #[v,.int .i64 i,.int .i64 o] w fun e w'=>zb5 l i w w' e (zan l (f+1) i o)/\Below w.heap.size w w':=by
 have hn:=hG.next hi (by rw [hk];decide);have HT:=zh hT;have HK:Hid (∀ w:World,_):=zh (fun w:World=>zb6 (zaa l i).text w);have hk10:=zdg (zaa l i).text;have HN:Hid (∀ w',Below w.heap.size w w'->Calls Try.prog 78 #[v,.int .i64 ((i:Int)+1),.int .i64 o,.string { data:=#[91] },.string { data:=#[93] },.int .i64 1] w' fun e w''=>ExsE l (i+1) w' w'' e (zad l (zaA l) (i+1) o [91] [93] 1)/\Below w'.heap.size w' w''):=zh (fun (w':World) (hb:Below w.heap.size w w')=>zcz l (zaA l) v (i+1) o 1 [91] [93] w' (ze9 hG (by omega) _) (Sl.below (by omega) hT hb (zr _)) hG hn (by omega) ho (by omega) (by omega));have HV:Hid (∀ j,i < j->j < l.length->∀ w',Below w.heap.size w w'->Calls Try.prog 79 #[v,.int .i64 j,.int .i64 o] w' fun e w''=>zb4 l j w' w'' e (zaz l j o)/\Below w'.heap.size w' w''):=zh (fun j _ hj w' hb=>zeH l v hG (by omega) j o w' (Sl.below (by omega) hT hb (zr _)) hj ho)
 have HF:Hid (zan l (f+1) i o=(zad l (zaA l) (i+1) o [91] [93] 1).andThen fun xs j=>(zaz l j o).map fun y=>.mk 3 (zap (zaa l i).text) [] (xs++[y]) [] []):=zh (by
  rw [zan,yN (by rw [hk];decide),yP hK])
 have Hlen:Hid (∀ ys j,zad l (zaA l) (i+1) o [91] [93] 1=.ok ys j->ys.length=1):=zh (fun ys j h=>zdC h);obtain ⟨final,hfin⟩:∃ r,zan l (f+1) i o=r:=⟨_,rfl⟩;rw [hfin] at HF ⊢;obtain ⟨a,cap,rfl,hc1,hc2⟩:=Sl.form hT;obtain ⟨b,off,rfl,c0,c1,c2,c3,c4⟩:=zaF hT hi;have hi1:(i:Int) < l.length:=by omega
 have hi2:(i:Int)<=1000000:=by omega
 have lt1:b < w.heap.size:=World.block_lt_of_cell? w _ c0;have ne1:¬ b=w.heap.size:=by omega
 rw [hk] at c0;clear hfin hT hk
 generalize (zaa l i).text=S at *
 generalize (zaa l i).n=N at *
 generalize (zaa l i).line=L at *
 generalize (zaa l i).col=C at *
 generalize zap S=K at *
 generalize zad l (zaA l) (i+1) o [91] [93] 1=R1 at *
 have hK2:(K:Int) > 0:=by omega
 go_enter Try.func60,Try.ntmps60
 go_wp2_with fail
 obtain ⟨W0,hW0,hb0,hR0,hT0,hsz⟩:=zbD w zbh (Tok.cells ⟨1,S,N,L,C⟩) 59 108;simp only [zbh,Tok.cells] at hW0;rw [<- hW0];clear hW0 c0 c1 c2 c3 c4 ne1;have Hb0:=zh hb0;have HR0:Hid (OwnV W0 w.heap.size 59 zbh):=zh hR0;have HT0:=zh hT0;obtain ⟨t0,t1⟩:=yc2 hT0;clear hb0 hR0 hT0;go_at_call 77;refine (HK.out _).mono ?_;rintro e2 w2 ⟨rfl,hb2⟩;have Hb2:=zh (Hb0.out.trans (hb2.mono Hb0.out.size));have HR2:=zh (HR0.out.below hb2 (zr _));have HT2:=zh (HT0.out.below hb2 (zr _));have hsz2:=yT hsz hb2.size;clear hb2 t0 t1 HR0 HT0 Hb0 hsz;have t1:=HT2.out.cell (i:=1) rfl;go_wp2_with fail
 go_at_call 78;refine (HN.out _ Hb2.out).mono ?_;rintro e3 w3 ⟨he3,hb3⟩;have Hb3:=zh (Hb2.out.trans (hb3.mono Hb2.out.size));have HR3:=zh (HR2.out.below hb3 (zr _));have HT3:=zh (HT2.out.below hb3 (zr _));have hsz3:=yT hsz2 hb3.size;have hle23:=hb3.size;clear hb3 t1 HR2 HT2 Hb2 HN
 cases R1 with
 | err a c =>
  obtain ⟨rfl,hc,hal⟩:=he3;have Hf2:Hid (final=.err a c):=zh HF.out;have hc0:(c != 0)=true:=by rcases hc with rfl | rfl <;> rfl
  have Hc:=zh hc;clear hc;have hSx:=HR3.out;obtain ⟨x0,x1,x2,x3,x4,x5⟩:=yc6 hSx;have xf:=hSx.free;clear hSx;go_wp2_with fail
  refine yE (v:=.tuple #[.agg #[.int .u8 0,.int .i64 0,.string { data:=#[] },.slice none 0 0,.slice none 0 0,.slice none 0 0],.int .i64 a,.int .i64 c]) (by simp [results,Try.results60,go_sem,x0,x1,x2,x3,x4,x5]) rfl ⟨?_,((((((Hb3.out).setCell (zr _) _).setCell (zr _) _).setCell (zr _) _).setCell (zr _) _).setCell (zr _) _).setCell (zr _) _⟩;rw [Hf2.out]
  exact ⟨_,_,_,_,_,_,_,_,_,_,_,_,rfl,Hc.out,hal⟩
 | ok xs j =>
  obtain ⟨v3,rfl,⟨cs,hown,hX⟩,hij,hjl⟩:=he3;have hl1:=Hlen.out xs j rfl
  obtain ⟨xa,rfl⟩:∃ x,xs=[x]:=by
   match xs,hl1 with
   | [x],_=>exact ⟨x,rfl⟩
  have hown1:w3.ownsRow w2.heap.size 65 4 v3 1 cs:=hown;obtain ⟨a2,cap2,rfl,hca1,hca2⟩:=Sl.form (Sl.of_own hown1);have Hown:=zh hown1;have HX:=zh hX;have HV1:=zh (HV.out j (by omega) hjl);have HF2:Hid (final=(zaz l j o).map fun y=>.mk 3 K [] ([xa]++[y]) [] []):=zh HF.out
  generalize zaz l j o=R2 at *
  clear hown hown1 hX HF Hlen hl1 HV;go_wp2_with fail
  go_at_call 79;refine (HV1.out _ Hb3.out).mono ?_;rintro e4 w4 ⟨he4,hb4⟩;have Hb4:=zh (Hb3.out.trans (hb4.mono Hb3.out.size));have HR4:=zh (HR3.out.below hb4 (zr _));have HT4:=zh (HT3.out.below hb4 (zr _));have Hown4:=zh (zbu Hown.out hb4 (zr _));have HX4:=zh (HX.out.under hb4 (zr _));have hsz4:=yT hsz3 hb4.size;have hle24:w2.heap.size<=w4.heap.size:=yT hle23 hb4.size;have HP0:Hid (∀ (y:Ex) (cx:List Value) (W w7:World) (v':Value),ExsC w4 (fun g=>w3.heap.size<=g) [y] cx->Below w4.heap.size w4 W->W.grownBy w7 (Value.slice a2 1 cap2).ownBlock->(v'.ownBlock=(Value.slice a2 1 cap2).ownBlock∨∃ g,v'.ownBlock=some g/\W.heap.size<=g)->ExsC w7 (fun g=>w2.heap.size<=g) ([xa]++[y]) (cs++cx)):=zh (fun y cx W w7 v' hy hW hg hat=>(zfV Hown.out HX.out hb4 hy hle23 hW hg hat).weak1);clear hb4 HR3 HT3 Hb3 Hown HX
  cases R2 with
  | err a c =>
   obtain ⟨op,n,nm,ad,m,cp,rfl,hc,hal⟩:=he4;have Hf3:Hid (final=.err a c):=zh HF2.out;have Hc:=zh hc;clear hc;obtain ⟨W5,hW5,hX5,hb5⟩:∃ W5,W5=w4.alloc (.cells #[.int .u8 op,.int .i64 n,.string nm,.slice ad m cp] 65)/\OwnV W5 w4.heap.size 65 [.int .u8 op,.int .i64 n,.string nm,.slice ad m cp]/\Below w4.heap.size w4 W5:=⟨_,rfl,OwnV.new _ _ _,(yR _ _).alloc (zr _) _⟩;have HR5:=zh (HR4.out.below hb5 (zr _));have HT5:=zh (HT4.out.below hb5 (zr _));have Hown5:=zh (zbu Hown4.out hb5 (zr _));have Hb5:=zh (Hb4.out.trans (hb5.mono Hb4.out.size));have HW5:=zh hW5;have hX5':=zh hX5;have hsz5:=yT hsz4 hb5.size;clear hX5 hb5 hW5;have hwK:IntKind.i64.wrap (K:Int)=K:=by simp [IntKind.wrap,IntKind.bits];omega
   go_upto_region 9 with (fail)
   rw [<- HW5.out];have t1:=HT5.out.cell (i:=1) rfl;obtain ⟨y0,y1,y2,y3⟩:=yc4 hX5'.out;have hSx:=HR5.out;obtain ⟨x0,x1,x2,x3,x4,x5⟩:=yc6 hSx;have xf:=hSx.free;have lt2:w.heap.size < W5.heap.size:=by omega
   have lt3:w4.heap.size < W5.heap.size:=hX5'.out.lt;have lt4:w.heap.size+1 < W5.heap.size:=by omega
   have HownA:Hid (∀ w',Below W5.heap.size W5 w'->w'.ownsRow w2.heap.size 65 4 (.slice a2 1 cap2) 1 cs):=zh (fun w' hb=>zbu Hown5.out hb (zr _));have HbaseA:Hid (∀ w',Below W5.heap.size W5 w'->w2.heap.size<=w'.heap.size):=zh (fun w' hb=>by have:=hb.size;omega);have HszA:Hid (∀ w',Below W5.heap.size W5 w'->W5.heap.size<=w'.heap.size):=zh (fun w' hb=>hb.size);have HfrA:Hid (∀ w',Below W5.heap.size W5 w'->∀ i,w'.frozen? ⟨w.heap.size,i,none⟩=false):=zh (fun w' hb=>(HR5.out.below hb (zr _)).free);have HBA:Hid (∀ w',Below W5.heap.size W5 w'->Below w.heap.size w w'):=zh (fun w' hb=>Hb5.out.trans (hb.mono Hb5.out.size));have HszC:w.heap.size<=w2.heap.size:=by omega
   have HneT:Hid (some (w.heap.size+1)≠(Value.slice a2 1 cap2).ownBlock):=zh (fun e=>by have:=zck Hown4.out _ e.symm;omega);have HneR:Hid (some w.heap.size≠(Value.slice a2 1 cap2).ownBlock):=zh (fun e=>by have:=zck Hown4.out _ e.symm;omega);have HneG:Hid (some w4.heap.size≠(Value.slice a2 1 cap2).ownBlock):=zh (fun e=>by have:=(Hown4.out.lt _ e.symm).2;omega);have nn1:¬ w.heap.size=w4.heap.size:=by omega
   have nn2:¬ w4.heap.size=w.heap.size:=by omega
   have nn3:¬ w4.heap.size=w.heap.size+1:=by omega
   generalize w4.heap.size=gx at *
   clear hSx;go_region_held3 (fun w'=>w'.cell? ⟨w.heap.size+1,1,none⟩=some (.string (bstr S))/\w'.cell? ⟨gx,0,none⟩=some (.int .u8 op)/\w'.cell? ⟨gx,1,none⟩=some (.int .i64 n)/\w'.cell? ⟨gx,2,none⟩=some (.string nm)/\w'.cell? ⟨gx,3,none⟩=some (.slice ad m cp)) (go_keep) (first | (go_at_call 77;refine (HK.out _).mono ?_;rintro e6 w6 ⟨rfl,hb6⟩;have z0:=Below.keep hb6 (a:=⟨w.heap.size+1,1,none⟩) (v:=.string (bstr S)) (by go_keep);have z1:=Below.keep hb6 (a:=⟨gx,0,none⟩) (v:=.int .u8 op) (by go_keep);have z2:=Below.keep hb6 (a:=⟨gx,1,none⟩) (v:=.int .i64 n) (by go_keep);have z3:=Below.keep hb6 (a:=⟨gx,2,none⟩) (v:=.string nm) (by go_keep);have z4:=Below.keep hb6 (a:=⟨gx,3,none⟩) (v:=.slice ad m cp) (by go_keep);have z5:=Below.keep hb6 (a:=⟨w.heap.size,0,none⟩) (v:=.int .u8 0) (by go_keep);have z6:=Below.keep hb6 (a:=⟨w.heap.size,1,none⟩) (v:=.int .i64 0) (by go_keep);have z7:=Below.keep hb6 (a:=⟨w.heap.size,2,none⟩) (v:=.string { data:=#[] }) (by go_keep);have z8:=Below.keep hb6 (a:=⟨w.heap.size,3,none⟩) (v:=.slice none 0 0) (by go_keep);have z9:=Below.keep hb6 (a:=⟨w.heap.size,4,none⟩) (v:=.slice none 0 0) (by go_keep);have z10:=Below.keep hb6 (a:=⟨w.heap.size,5,none⟩) (v:=.slice none 0 0) (by go_keep);have zf:∀ i,w6.frozen? ⟨w.heap.size,i,none⟩=false:=fun i=>(hb6.frozen (p:=⟨w.heap.size,i,none⟩) (by first | exact lt2 | exact ql | (simp;omega))).trans (by first | exact HfrA.out _ ((yR _ _).drew) i | exact HfrA.out _ (((yR _ _).alloc (zr _) _).drew) i | exact qf i)) | (refine zaR rfl (.tmp 57) (.tmp 59) 57 rfl (HownA.out _ (((yR _ _).alloc (zr _) _).drew)) zbx Try.underlying57 rfl (by decide) rfl (zb7 (sz:=4) (n:=1) ((OwnV.new W5 65 [.int .u8 op,.int .i64 n,.string nm,.slice ad m cp]).below ((yR _ _).drew) (zr _)) rfl (zr _) (by decide)) rfl rfl (by unfold maxLen;omega) (by omega) (HbaseA.out _ (((yR _ _).alloc (zr _) _).drew)) ?_;intro v' w7 hown7 hg7 hb7 hat7;obtain ⟨a7,cap7,rfl,hc7,hc8⟩:=Sl.form (Sl.of_own hown7);have q0:=hg7.cell (a:=⟨w.heap.size+1,1,none⟩) (v:=.string (bstr S)) (by go_keep) HneT.out;have q1:=hg7.cell (a:=⟨gx,0,none⟩) (v:=.int .u8 op) (by go_keep) HneG.out;have q2:=hg7.cell (a:=⟨gx,1,none⟩) (v:=.int .i64 n) (by go_keep) HneG.out;have q3:=hg7.cell (a:=⟨gx,2,none⟩) (v:=.string nm) (by go_keep) HneG.out;have q4:=hg7.cell (a:=⟨gx,3,none⟩) (v:=.slice ad m cp) (by go_keep) HneG.out;have q5:=hg7.cell (a:=⟨w.heap.size,0,none⟩) (v:=.int .u8 0) (by go_keep) HneR.out;have q6:=hg7.cell (a:=⟨w.heap.size,1,none⟩) (v:=.int .i64 0) (by go_keep) HneR.out;have q7:=hg7.cell (a:=⟨w.heap.size,2,none⟩) (v:=.string { data:=#[] }) (by go_keep) HneR.out;have q8:=hg7.cell (a:=⟨w.heap.size,3,none⟩) (v:=.slice none 0 0) (by go_keep) HneR.out;have q9:=hg7.cell (a:=⟨w.heap.size,4,none⟩) (v:=.slice none 0 0) (by go_keep) HneR.out;have q10:=hg7.cell (a:=⟨w.heap.size,5,none⟩) (v:=.slice none 0 0) (by go_keep) HneR.out;have ql:w.heap.size < w7.heap.size:=Nat.lt_of_lt_of_le (Nat.lt_of_lt_of_le lt2 (HszA.out _ (((yR _ _).alloc (zr _) _).drew))) hg7.size;have qf:∀ i,w7.frozen? ⟨w.heap.size,i,none⟩=false:=fun i=>(zca hg7 (Nat.lt_of_lt_of_le lt2 (HszA.out _ (((yR _ _).alloc (zr _) _).drew))) HneR.out).trans (HfrA.out _ (((yR _ _).alloc (zr _) _).drew) i)) | (refine zaR rfl (.tmp 57) (.tmp 59) 57 rfl (HownA.out _ ((((yR _ _).drew).trans hb6).alloc (hb6.size) _)) zbx Try.underlying57 rfl (by decide) rfl (zb7 (sz:=4) (n:=1) (OwnV.new w6 65 [.int .u8 op,.int .i64 n,.string nm,.slice ad m cp]) rfl (zr _) (by decide)) rfl rfl (by unfold maxLen;omega) (by omega) (HbaseA.out _ ((((yR _ _).drew).trans hb6).alloc (hb6.size) _)) ?_;intro v' w7 hown7 hg7 hb7 hat7;obtain ⟨a7,cap7,rfl,hc7,hc8⟩:=Sl.form (Sl.of_own hown7);have q0:=hg7.cell (a:=⟨w.heap.size+1,1,none⟩) (v:=.string (bstr S)) (by go_keep) HneT.out;have q1:=hg7.cell (a:=⟨gx,0,none⟩) (v:=.int .u8 op) (by go_keep) HneG.out;have q2:=hg7.cell (a:=⟨gx,1,none⟩) (v:=.int .i64 n) (by go_keep) HneG.out;have q3:=hg7.cell (a:=⟨gx,2,none⟩) (v:=.string nm) (by go_keep) HneG.out;have q4:=hg7.cell (a:=⟨gx,3,none⟩) (v:=.slice ad m cp) (by go_keep) HneG.out;have q5:=hg7.cell (a:=⟨w.heap.size,0,none⟩) (v:=.int .u8 0) (by go_keep) HneR.out;have q6:=hg7.cell (a:=⟨w.heap.size,1,none⟩) (v:=.int .i64 0) (by go_keep) HneR.out;have q7:=hg7.cell (a:=⟨w.heap.size,2,none⟩) (v:=.string { data:=#[] }) (by go_keep) HneR.out;have q8:=hg7.cell (a:=⟨w.heap.size,3,none⟩) (v:=.slice none 0 0) (by go_keep) HneR.out;have q9:=hg7.cell (a:=⟨w.heap.size,4,none⟩) (v:=.slice none 0 0) (by go_keep) HneR.out;have q10:=hg7.cell (a:=⟨w.heap.size,5,none⟩) (v:=.slice none 0 0) (by go_keep) HneR.out;have ql:w.heap.size < w7.heap.size:=Nat.lt_of_lt_of_le (Nat.lt_of_lt_of_le lt2 (HszA.out _ ((((yR _ _).drew).trans hb6).alloc (hb6.size) _))) hg7.size;have qf:∀ i,w7.frozen? ⟨w.heap.size,i,none⟩=false:=fun i=>(zca hg7 (Nat.lt_of_lt_of_le lt2 (HszA.out _ ((((yR _ _).drew).trans hb6).alloc (hb6.size) _))) HneR.out).trans (HfrA.out _ ((((yR _ _).drew).trans hb6).alloc (hb6.size) _) i)) | (refine zaR rfl (.tmp 57) (.tmp 59) 57 rfl (HownA.out _ ((((yR _ _).alloc (zr _) _).drew).trans (hb6.mono (by simp)))) zbx Try.underlying57 rfl (by decide) rfl (zb7 (sz:=4) (n:=1) (((OwnV.new W5 65 [.int .u8 op,.int .i64 n,.string nm,.slice ad m cp]).below ((yR _ _).drew) (zr _)).below hb6 (zr _)) rfl (zr _) (by decide)) rfl rfl (by unfold maxLen;omega) (by omega) (HbaseA.out _ ((((yR _ _).alloc (zr _) _).drew).trans (hb6.mono (by simp)))) ?_;intro v' w7 hown7 hg7 hb7 hat7;obtain ⟨a7,cap7,rfl,hc7,hc8⟩:=Sl.form (Sl.of_own hown7);have q0:=hg7.cell (a:=⟨w.heap.size+1,1,none⟩) (v:=.string (bstr S)) (by go_keep) HneT.out;have q1:=hg7.cell (a:=⟨gx,0,none⟩) (v:=.int .u8 op) (by go_keep) HneG.out;have q2:=hg7.cell (a:=⟨gx,1,none⟩) (v:=.int .i64 n) (by go_keep) HneG.out;have q3:=hg7.cell (a:=⟨gx,2,none⟩) (v:=.string nm) (by go_keep) HneG.out;have q4:=hg7.cell (a:=⟨gx,3,none⟩) (v:=.slice ad m cp) (by go_keep) HneG.out;have q5:=hg7.cell (a:=⟨w.heap.size,0,none⟩) (v:=.int .u8 0) (by go_keep) HneR.out;have q6:=hg7.cell (a:=⟨w.heap.size,1,none⟩) (v:=.int .i64 0) (by go_keep) HneR.out;have q7:=hg7.cell (a:=⟨w.heap.size,2,none⟩) (v:=.string { data:=#[] }) (by go_keep) HneR.out;have q8:=hg7.cell (a:=⟨w.heap.size,3,none⟩) (v:=.slice none 0 0) (by go_keep) HneR.out;have q9:=hg7.cell (a:=⟨w.heap.size,4,none⟩) (v:=.slice none 0 0) (by go_keep) HneR.out;have q10:=hg7.cell (a:=⟨w.heap.size,5,none⟩) (v:=.slice none 0 0) (by go_keep) HneR.out;have ql:w.heap.size < w7.heap.size:=Nat.lt_of_lt_of_le (Nat.lt_of_lt_of_le lt2 (HszA.out _ ((((yR _ _).alloc (zr _) _).drew).trans (hb6.mono (by simp))))) hg7.size;have qf:∀ i,w7.frozen? ⟨w.heap.size,i,none⟩=false:=fun i=>(zca hg7 (Nat.lt_of_lt_of_le lt2 (HszA.out _ ((((yR _ _).alloc (zr _) _).drew).trans (hb6.mono (by simp))))) HneR.out).trans (HfrA.out _ ((((yR _ _).alloc (zr _) _).drew).trans (hb6.mono (by simp))) i)))
   all_goals
    go_wp2_with fail
    refine yE (v:=.tuple #[.agg #[.int .u8 3,.int .i64 K,.string { data:=#[] },.slice a7 2 cap7,.slice none 0 0,.slice none 0 0],.int .i64 a,.int .i64 c]) (by simp [results,Try.results60,go_sem,q5,q6,q7,q8,q9,q10]) rfl ⟨?_,?_⟩
    ·rw [Hf3.out];exact ⟨_,_,_,_,_,_,_,_,_,_,_,_,rfl,Hc.out,hal⟩
    ·first
      | exact (((((((HBA.out _ ((((yR _ _).drew).trans hb6).alloc hb6.size _)).trans (hb7.mono HszC)).setCell (zr _) _).setCell (zr _) _).setCell (zr _) _).setCell (zr _) _).setCell (zr _) _).setCell (zr _) _
      | exact (((((((HBA.out _ ((((yR _ _).alloc (zr _) _).drew).trans (hb6.mono (by simp)))).trans (hb7.mono HszC)).setCell (zr _) _).setCell (zr _) _).setCell (zr _) _).setCell (zr _) _).setCell (zr _) _).setCell (zr _) _
  | ok y j2 =>
   obtain ⟨v4,rfl,⟨cx,rfl,hY⟩,hij2,hjl2⟩:=he4;obtain ⟨op,n,name,args,ad,cp,rfl,rfl⟩:=hY.one;have Hf3:Hid (final=.ok (.mk 3 K [] ([xa]++[.mk op n name args]) [] []) j2):=zh HF2.out;have HY:=zh hY;clear hY;obtain ⟨W5,hW5,hX5,hb5⟩:∃ W5,W5=w4.alloc (.cells #[.int .u8 op,.int .i64 n,.string (bstr name),.slice ad args.length cp] 65)/\OwnV W5 w4.heap.size 65 [.int .u8 op,.int .i64 n,.string (bstr name),.slice ad args.length cp]/\Below w4.heap.size w4 W5:=⟨_,rfl,OwnV.new _ _ _,(yR _ _).alloc (zr _) _⟩;have HR5:=zh (HR4.out.below hb5 (zr _));have HT5:=zh (HT4.out.below hb5 (zr _));have Hown5:=zh (zbu Hown4.out hb5 (zr _));have Hb5:=zh (Hb4.out.trans (hb5.mono Hb4.out.size));have HW5:=zh hW5;have hX5':=zh hX5;have hsz5:=yT hsz4 hb5.size;have HP1:Hid (∀ (W w7:World) (v':Value),Below W5.heap.size W5 W->W.grownBy w7 (Value.slice a2 1 cap2).ownBlock->(v'.ownBlock=(Value.slice a2 1 cap2).ownBlock∨∃ g,v'.ownBlock=some g/\W.heap.size<=g)->ExsC w7 (fun g=>w2.heap.size<=g) ([xa]++[.mk op n name args]) (cs++[.int .u8 op,.int .i64 n,.string (bstr name),.slice ad args.length cp])):=zh (fun W w7 v' hW hg hat=>HP0.out _ _ W w7 v' HY.out (hb5.trans (hW.mono hb5.size)) hg hat);clear HP0 HY;clear hX5 hb5 hW5;have hwK:IntKind.i64.wrap (K:Int)=K:=by simp [IntKind.wrap,IntKind.bits];omega
   go_upto_region 9 with (fail)
   rw [<- HW5.out];have t1:=HT5.out.cell (i:=1) rfl;obtain ⟨y0,y1,y2,y3⟩:=yc4 hX5'.out;have hSx:=HR5.out;obtain ⟨x0,x1,x2,x3,x4,x5⟩:=yc6 hSx;have xf:=hSx.free;have lt2:w.heap.size < W5.heap.size:=by omega
   have lt3:w4.heap.size < W5.heap.size:=hX5'.out.lt;have lt4:w.heap.size+1 < W5.heap.size:=by omega
   have HownA:Hid (∀ w',Below W5.heap.size W5 w'->w'.ownsRow w2.heap.size 65 4 (.slice a2 1 cap2) 1 cs):=zh (fun w' hb=>zbu Hown5.out hb (zr _));have HbaseA:Hid (∀ w',Below W5.heap.size W5 w'->w2.heap.size<=w'.heap.size):=zh (fun w' hb=>by have:=hb.size;omega);have HszA:Hid (∀ w',Below W5.heap.size W5 w'->W5.heap.size<=w'.heap.size):=zh (fun w' hb=>hb.size);have HfrA:Hid (∀ w',Below W5.heap.size W5 w'->∀ i,w'.frozen? ⟨w.heap.size,i,none⟩=false):=zh (fun w' hb=>(HR5.out.below hb (zr _)).free);have HBA:Hid (∀ w',Below W5.heap.size W5 w'->Below w.heap.size w w'):=zh (fun w' hb=>Hb5.out.trans (hb.mono Hb5.out.size));have HszC:w.heap.size<=w2.heap.size:=by omega
   have HneT:Hid (some (w.heap.size+1)≠(Value.slice a2 1 cap2).ownBlock):=zh (fun e=>by have:=zck Hown4.out _ e.symm;omega);have HneR:Hid (some w.heap.size≠(Value.slice a2 1 cap2).ownBlock):=zh (fun e=>by have:=zck Hown4.out _ e.symm;omega);have HneG:Hid (some w4.heap.size≠(Value.slice a2 1 cap2).ownBlock):=zh (fun e=>by have:=(Hown4.out.lt _ e.symm).2;omega);have nn1:¬ w.heap.size=w4.heap.size:=by omega
   have nn2:¬ w4.heap.size=w.heap.size:=by omega
   have nn3:¬ w4.heap.size=w.heap.size+1:=by omega
   generalize w4.heap.size=gx at *
   clear hSx;go_region_held3 (fun w'=>w'.cell? ⟨w.heap.size+1,1,none⟩=some (.string (bstr S))/\w'.cell? ⟨gx,0,none⟩=some (.int .u8 op)/\w'.cell? ⟨gx,1,none⟩=some (.int .i64 n)/\w'.cell? ⟨gx,2,none⟩=some (.string (bstr name))/\w'.cell? ⟨gx,3,none⟩=some (.slice ad args.length cp)) (go_keep) (first | (go_at_call 77;refine (HK.out _).mono ?_;rintro e6 w6 ⟨rfl,hb6⟩;have z0:=Below.keep hb6 (a:=⟨w.heap.size+1,1,none⟩) (v:=.string (bstr S)) (by go_keep);have z1:=Below.keep hb6 (a:=⟨gx,0,none⟩) (v:=.int .u8 op) (by go_keep);have z2:=Below.keep hb6 (a:=⟨gx,1,none⟩) (v:=.int .i64 n) (by go_keep);have z3:=Below.keep hb6 (a:=⟨gx,2,none⟩) (v:=.string (bstr name)) (by go_keep);have z4:=Below.keep hb6 (a:=⟨gx,3,none⟩) (v:=.slice ad args.length cp) (by go_keep);have z5:=Below.keep hb6 (a:=⟨w.heap.size,0,none⟩) (v:=.int .u8 0) (by go_keep);have z6:=Below.keep hb6 (a:=⟨w.heap.size,1,none⟩) (v:=.int .i64 0) (by go_keep);have z7:=Below.keep hb6 (a:=⟨w.heap.size,2,none⟩) (v:=.string { data:=#[] }) (by go_keep);have z8:=Below.keep hb6 (a:=⟨w.heap.size,3,none⟩) (v:=.slice none 0 0) (by go_keep);have z9:=Below.keep hb6 (a:=⟨w.heap.size,4,none⟩) (v:=.slice none 0 0) (by go_keep);have z10:=Below.keep hb6 (a:=⟨w.heap.size,5,none⟩) (v:=.slice none 0 0) (by go_keep);have zf:∀ i,w6.frozen? ⟨w.heap.size,i,none⟩=false:=fun i=>(hb6.frozen (p:=⟨w.heap.size,i,none⟩) (by first | exact lt2 | exact ql | (simp;omega))).trans (by first | exact HfrA.out _ ((yR _ _).drew) i | exact HfrA.out _ (((yR _ _).alloc (zr _) _).drew) i | exact qf i)) | (refine zaR rfl (.tmp 57) (.tmp 59) 57 rfl (HownA.out _ (((yR _ _).alloc (zr _) _).drew)) zbx Try.underlying57 rfl (by decide) rfl (zb7 (sz:=4) (n:=1) ((OwnV.new W5 65 [.int .u8 op,.int .i64 n,.string (bstr name),.slice ad args.length cp]).below ((yR _ _).drew) (zr _)) rfl (zr _) (by decide)) rfl rfl (by unfold maxLen;omega) (by omega) (HbaseA.out _ (((yR _ _).alloc (zr _) _).drew)) ?_;intro v' w7 hown7 hg7 hb7 hat7;obtain ⟨a7,cap7,rfl,hc7,hc8⟩:=Sl.form (Sl.of_own hown7);have q0:=hg7.cell (a:=⟨w.heap.size+1,1,none⟩) (v:=.string (bstr S)) (by go_keep) HneT.out;have q1:=hg7.cell (a:=⟨gx,0,none⟩) (v:=.int .u8 op) (by go_keep) HneG.out;have q2:=hg7.cell (a:=⟨gx,1,none⟩) (v:=.int .i64 n) (by go_keep) HneG.out;have q3:=hg7.cell (a:=⟨gx,2,none⟩) (v:=.string (bstr name)) (by go_keep) HneG.out;have q4:=hg7.cell (a:=⟨gx,3,none⟩) (v:=.slice ad args.length cp) (by go_keep) HneG.out;have q5:=hg7.cell (a:=⟨w.heap.size,0,none⟩) (v:=.int .u8 0) (by go_keep) HneR.out;have q6:=hg7.cell (a:=⟨w.heap.size,1,none⟩) (v:=.int .i64 0) (by go_keep) HneR.out;have q7:=hg7.cell (a:=⟨w.heap.size,2,none⟩) (v:=.string { data:=#[] }) (by go_keep) HneR.out;have q8:=hg7.cell (a:=⟨w.heap.size,3,none⟩) (v:=.slice none 0 0) (by go_keep) HneR.out;have q9:=hg7.cell (a:=⟨w.heap.size,4,none⟩) (v:=.slice none 0 0) (by go_keep) HneR.out;have q10:=hg7.cell (a:=⟨w.heap.size,5,none⟩) (v:=.slice none 0 0) (by go_keep) HneR.out;have ql:w.heap.size < w7.heap.size:=Nat.lt_of_lt_of_le (Nat.lt_of_lt_of_le lt2 (HszA.out _ (((yR _ _).alloc (zr _) _).drew))) hg7.size;have qf:∀ i,w7.frozen? ⟨w.heap.size,i,none⟩=false:=fun i=>(zca hg7 (Nat.lt_of_lt_of_le lt2 (HszA.out _ (((yR _ _).alloc (zr _) _).drew))) HneR.out).trans (HfrA.out _ (((yR _ _).alloc (zr _) _).drew) i)) | (refine zaR rfl (.tmp 57) (.tmp 59) 57 rfl (HownA.out _ ((((yR _ _).drew).trans hb6).alloc (hb6.size) _)) zbx Try.underlying57 rfl (by decide) rfl (zb7 (sz:=4) (n:=1) (OwnV.new w6 65 [.int .u8 op,.int .i64 n,.string (bstr name),.slice ad args.length cp]) rfl (zr _) (by decide)) rfl rfl (by unfold maxLen;omega) (by omega) (HbaseA.out _ ((((yR _ _).drew).trans hb6).alloc (hb6.size) _)) ?_;intro v' w7 hown7 hg7 hb7 hat7;obtain ⟨a7,cap7,rfl,hc7,hc8⟩:=Sl.form (Sl.of_own hown7);have q0:=hg7.cell (a:=⟨w.heap.size+1,1,none⟩) (v:=.string (bstr S)) (by go_keep) HneT.out;have q1:=hg7.cell (a:=⟨gx,0,none⟩) (v:=.int .u8 op) (by go_keep) HneG.out;have q2:=hg7.cell (a:=⟨gx,1,none⟩) (v:=.int .i64 n) (by go_keep) HneG.out;have q3:=hg7.cell (a:=⟨gx,2,none⟩) (v:=.string (bstr name)) (by go_keep) HneG.out;have q4:=hg7.cell (a:=⟨gx,3,none⟩) (v:=.slice ad args.length cp) (by go_keep) HneG.out;have q5:=hg7.cell (a:=⟨w.heap.size,0,none⟩) (v:=.int .u8 0) (by go_keep) HneR.out;have q6:=hg7.cell (a:=⟨w.heap.size,1,none⟩) (v:=.int .i64 0) (by go_keep) HneR.out;have q7:=hg7.cell (a:=⟨w.heap.size,2,none⟩) (v:=.string { data:=#[] }) (by go_keep) HneR.out;have q8:=hg7.cell (a:=⟨w.heap.size,3,none⟩) (v:=.slice none 0 0) (by go_keep) HneR.out;have q9:=hg7.cell (a:=⟨w.heap.size,4,none⟩) (v:=.slice none 0 0) (by go_keep) HneR.out;have q10:=hg7.cell (a:=⟨w.heap.size,5,none⟩) (v:=.slice none 0 0) (by go_keep) HneR.out;have ql:w.heap.size < w7.heap.size:=Nat.lt_of_lt_of_le (Nat.lt_of_lt_of_le lt2 (HszA.out _ ((((yR _ _).drew).trans hb6).alloc (hb6.size) _))) hg7.size;have qf:∀ i,w7.frozen? ⟨w.heap.size,i,none⟩=false:=fun i=>(zca hg7 (Nat.lt_of_lt_of_le lt2 (HszA.out _ ((((yR _ _).drew).trans hb6).alloc (hb6.size) _))) HneR.out).trans (HfrA.out _ ((((yR _ _).drew).trans hb6).alloc (hb6.size) _) i)) | (refine zaR rfl (.tmp 57) (.tmp 59) 57 rfl (HownA.out _ ((((yR _ _).alloc (zr _) _).drew).trans (hb6.mono (by simp)))) zbx Try.underlying57 rfl (by decide) rfl (zb7 (sz:=4) (n:=1) (((OwnV.new W5 65 [.int .u8 op,.int .i64 n,.string (bstr name),.slice ad args.length cp]).below ((yR _ _).drew) (zr _)).below hb6 (zr _)) rfl (zr _) (by decide)) rfl rfl (by unfold maxLen;omega) (by omega) (HbaseA.out _ ((((yR _ _).alloc (zr _) _).drew).trans (hb6.mono (by simp)))) ?_;intro v' w7 hown7 hg7 hb7 hat7;obtain ⟨a7,cap7,rfl,hc7,hc8⟩:=Sl.form (Sl.of_own hown7);have q0:=hg7.cell (a:=⟨w.heap.size+1,1,none⟩) (v:=.string (bstr S)) (by go_keep) HneT.out;have q1:=hg7.cell (a:=⟨gx,0,none⟩) (v:=.int .u8 op) (by go_keep) HneG.out;have q2:=hg7.cell (a:=⟨gx,1,none⟩) (v:=.int .i64 n) (by go_keep) HneG.out;have q3:=hg7.cell (a:=⟨gx,2,none⟩) (v:=.string (bstr name)) (by go_keep) HneG.out;have q4:=hg7.cell (a:=⟨gx,3,none⟩) (v:=.slice ad args.length cp) (by go_keep) HneG.out;have q5:=hg7.cell (a:=⟨w.heap.size,0,none⟩) (v:=.int .u8 0) (by go_keep) HneR.out;have q6:=hg7.cell (a:=⟨w.heap.size,1,none⟩) (v:=.int .i64 0) (by go_keep) HneR.out;have q7:=hg7.cell (a:=⟨w.heap.size,2,none⟩) (v:=.string { data:=#[] }) (by go_keep) HneR.out;have q8:=hg7.cell (a:=⟨w.heap.size,3,none⟩) (v:=.slice none 0 0) (by go_keep) HneR.out;have q9:=hg7.cell (a:=⟨w.heap.size,4,none⟩) (v:=.slice none 0 0) (by go_keep) HneR.out;have q10:=hg7.cell (a:=⟨w.heap.size,5,none⟩) (v:=.slice none 0 0) (by go_keep) HneR.out;have ql:w.heap.size < w7.heap.size:=Nat.lt_of_lt_of_le (Nat.lt_of_lt_of_le lt2 (HszA.out _ ((((yR _ _).alloc (zr _) _).drew).trans (hb6.mono (by simp))))) hg7.size;have qf:∀ i,w7.frozen? ⟨w.heap.size,i,none⟩=false:=fun i=>(zca hg7 (Nat.lt_of_lt_of_le lt2 (HszA.out _ ((((yR _ _).alloc (zr _) _).drew).trans (hb6.mono (by simp))))) HneR.out).trans (HfrA.out _ ((((yR _ _).alloc (zr _) _).drew).trans (hb6.mono (by simp))) i)))
   all_goals
    go_wp2_with fail
    refine yE (v:=.tuple #[.agg #[.int .u8 3,.int .i64 K,.string { data:=#[] },.slice a7 2 cap7,.slice none 0 0,.slice none 0 0],.int .i64 j2,.int .i64 0]) (by simp [results,Try.results60,go_sem,q5,q6,q7,q8,q9,q10]) rfl ⟨?_,?_⟩
    ·rw [Hf3.out]
     have hE:ExsC w7 (fun g=>w2.heap.size<=g) ([xa]++[.mk op n name args]) (cs++[.int .u8 op,.int .i64 n,.string (bstr name),.slice ad args.length cp]):=by
      first
       | exact HP1.out _ _ _ ((((yR _ _).drew).trans hb6).alloc hb6.size _) hg7 hat7
       | exact HP1.out _ _ _ ((((yR _ _).alloc (zr _) _).drew).trans (hb6.mono (by simp))) hg7 hat7
     obtain ⟨W9,hW9,hg9,hz9⟩:=zkF w7 w.heap.size (.int .u8 3) (.int .i64 K) (.string { data:=#[] }) (.slice a7 2 cap7) (.slice none 0 0) (.slice none 0 0);rw [<- hW9];exact ⟨_,rfl,zc6 ((EsV.of_own (m:=w.heap.size+2) (xs:=[xa]++[.mk op n name args]) hown7 hE hsz2).grown hg9 (by omega)) (SsV.nil _ _) (SsV.nil _ _) (by omega),by omega,hjl2⟩
    ·first
      | exact (((((((HBA.out _ ((((yR _ _).drew).trans hb6).alloc hb6.size _)).trans (hb7.mono HszC)).setCell (zr _) _).setCell (zr _) _).setCell (zr _) _).setCell (zr _) _).setCell (zr _) _).setCell (zr _) _
      | exact (((((((HBA.out _ ((((yR _ _).alloc (zr _) _).drew).trans (hb6.mono (by simp)))).trans (hb7.mono HszC)).setCell (zr _) _).setCell (zr _) _).setCell (zr _) _).setCell (zr _) _).setCell (zr _) _).setCell (zr _) _
theorem zkG (l:List Tok) (hG:Good l) (hm:l.length<=1000000):∀ (f i o:Nat) (v:Value) (w:World),l.length - i < f->Toks w l v->i < l.length->o<=300 ->
  Calls Try.prog 60 #[v,.int .i64 i,.int .i64 o] w fun e w'=>zb5 l i w w' e (zan l f i o)/\Below w.heap.size w w':=by
 intro f
 induction f with
 | zero=>intro i o v w h;omega
 | succ f ih =>
  intro i o v w hf hT hi ho;have hS:StmtC l (zan l f) i:=fun k o v w h1 h2 h3 h4=>ih k o v w (by omega) h4 h2 h3
  by_cases hk:(zaa l i).kind=1
  ·by_cases hK:0 < zap (zaa l i).text
   ·exact zmN l f i o v w hT hG hi hm ho hk hK
   ·by_cases h1:(zaa l i).text=[115,116,111,112]
    ·exact zlT l f i o v w hT hG hi hm hk hK h1
    ·by_cases h2:(zaa l i).text=[102,97,105,108]
     ·exact zlU l f i o v w hT hG hi hm hk hK h2
     ·by_cases h3:(zaa l i).text=[105,102]
      ·exact znw l f i o v w hT hG hi hm ho hS hk hK h3
      ·by_cases h4:(zaa l i).text=[119,104,105,108,101]
       ·exact zkE l f i o v w hT hG hi hm ho hS hk hK h4
       ·by_cases h5:(zaa l i).text=[108,101,116]
        ·exact zmM l f i o v w hT hG hi hm ho hk hK h5
        ·exact zmL l f i o v w hT hG hi hm ho hk hK h1 h2 h3 h4 h5
  ·exact zmK l f i o v w hT hi hm hk
theorem zhB (l:List Tok) (hG:Good l) (hm:l.length<=1000000) (i o:Nat) (v:Value) (w:World) (hT:Toks w l v) (hi:i < l.length) (ho:o<=300) :
  Calls Try.prog 60 #[v,.int .i64 i,.int .i64 o] w fun e w'=>zb5 l i w w' e (zcJ l i o)/\Below w.heap.size w w':=
 zkG l hG hm (l.length+1 - i) i o v w (by omega) hT hi ho
theorem zgC:∀ (n:Nat) (bs:List UInt8),bs.length<=n->∀ (l c:Int),(∀ ts,lexF bs l c=.ok ts->ts.length<=bs.length+1)/\∀ a b e,lexF bs l c=.err a b e->e≠0:=by
 intro n
 induction n with
 | zero =>
  intro bs hb l c;obtain rfl:bs=[]:=List.eq_nil_of_length_eq_zero (by omega);rw [zda];refine ⟨fun ts h=>?_,fun a b e h=>by cases h⟩;cases h
  exact zr _
 | succ n ih =>
  intro bs hb l c;rw [zbY];have hsl:=zc9 bs false l c
  generalize (zam bs false l c).1=bs' at *
  generalize (zam bs false l c).2.1=l' at *
  generalize (zam bs false l c).2.2=c' at *
  rcases zet bs' l' c' with ⟨_,h1⟩ | ⟨code,_,h1,hc⟩ | ⟨t,ht,_,_,h2,h3,h1⟩
  ·rw [h1];refine ⟨fun ts h=>?_,fun a b e h=>by cases h⟩;cases h;simp
  ·rw [h1];refine ⟨fun ts h=>(by cases h),fun a b e h=>?_⟩;cases h;omega
  ·rw [h1];have ht1:1<=t.text.length:=List.length_pos_iff.2 ht.text;have hl:(bs'.drop t.text.length).length=bs'.length - t.text.length:=List.length_drop;obtain ⟨k1,k2⟩:=ih (bs'.drop t.text.length) (by omega) l' (c'+t.text.length)
   cases hr:lexF (bs'.drop t.text.length) l' (c'+t.text.length) with
   | err a b e =>
    rw [hr] at k2;refine ⟨fun ts h=>(by cases h),fun a' b' e' h=>?_⟩;cases h
    exact k2 _ _ _ rfl
   | ok m =>
    rw [hr] at k1;have:=k1 m rfl;refine ⟨fun ts h=>?_,fun a b e h=>by cases h⟩;cases h;simp only [yB];omega
theorem ziK {bs:List UInt8} {ts:List Tok} (h:lexS bs=.ok ts):ts.length<=16385:=by
 rw [zcO] at h;split at h
 ·cases h
 ·have:=(zgC _ bs (zr _) 1 1).1 ts h;omega
theorem zd9 {bs:List UInt8} {a b e:Int} (h:lexS bs=.err a b e):e≠0:=by
 rw [zcO] at h;split at h
 ·cases h;decide
 ·exact (zgC _ bs (zr _) 1 1).2 a b e h
theorem Good.pos {l:List Tok} (h:Good l):0 < l.length:=by
 obtain ⟨ts,t,rfl,_,_⟩:=h;simp
def ParE (w w' : World) (e : Ending) : ParR -> Prop
  | .ok xs => ∃ v, e = .returned (.tuple #[v, .int .i64 0, .int .i64 0, .int .i64 0]) /\ (∃ cs, w'.ownsRow w.heap.size 59 6 v xs.length cs /\ StsC w' (fun g => w.heap.size <= g) xs cs)
  | .err a b c => e = .returned (.tuple #[.slice none 0 0, .int .i64 a, .int .i64 b, .int .i64 c]) /\ c ≠ 0
theorem zmO {w:World} {B B':Nat} {e:TypeId} {sz:Nat} {v:Value} {n:Nat} {xs:List Value} (h:w.ownsRow B e sz v n xs) (hB:B'<=B):w.ownsRow B' e sz v n xs:=by
 obtain ⟨h1,h2⟩:=h;refine ⟨h1,?_⟩;rcases h2 with hn | ⟨g,cap,cur,hv,hg,r⟩
 ·exact .inl hn
 ·exact .inr ⟨g,cap,cur,hv,yT hB hg,r⟩
def PR.toPar (l : List Tok) : PR (List St) -> ParR
  | .ok xs _ => .ok xs
  | .err i c => .err (zaa l i).line (zaa l i).col c
theorem zlV (src:List UInt8):zbg src=match lexS src with
  | .err a b c=>.err a b c
  | .ok l=>(allS l (l.length+1) [] 0).toPar l:=by
 unfold zbg
 cases lexS src with
 | err a b c=>rfl
 | ok l=>cases h:allS l (l.length+1) [] 0 <;> (simp only [h];rfl)
theorem zfa (s:ByteArray) (w:World) (hs:s.size<=9223372036854775807) :
  Calls Try.prog 39 #[.string s] w fun e w'=>ParE w w' e (zbg s.data.toList)/\Below w.heap.size w w':=by
 have HL:Hid (Calls Try.prog 59 #[.string s] w _):=zh (zkB s w hs);obtain ⟨final,hfin⟩:∃ r,zbg s.data.toList=r:=⟨_,rfl⟩
 have HF:Hid (final=match lexS s.data.toList with
  | .err a b c=>.err a b c
  | .ok l=>(allS l (l.length+1) [] 0).toPar l):=zh (by rw [<- hfin];exact zlV _)
 rw [hfin];clear hfin
 cases hlx:lexS s.data.toList with
 | err a b c =>
  have hc0:=zd9 hlx;have hc1:(c != 0)=true:=by simpa using hc0
  rw [hlx] at HL HF;have Hf:Hid (final=.err a b c):=zh HF.out;have Hc0:=zh hc0;clear hlx hc0 HF;go_enter Try.func39,Try.ntmps39
  go_wp2_with fail
  go_at_call 59;refine HL.out.mono ?_;rintro e1 w1 ⟨he1,hb1⟩;obtain rfl:=he1;have Hb1:=zh hb1;clear hb1;go_wp2_with fail
  exact yE (v:=.tuple #[.slice none 0 0,.int .i64 a,.int .i64 b,.int .i64 c]) (by simp [results,Try.results39,go_sem]) rfl ⟨by rw [Hf.out];exact ⟨rfl,Hc0.out⟩,Hb1.out⟩
 | ok l =>
  have hG:=ziD hlx;have hlen:=ziK hlx;have hpos:=hG.pos;rw [hlx] at HL HF;have Hf:Hid (final=(allS l (l.length+1) [] 0).toPar l):=zh HF.out;clear hlx HF;go_enter Try.func39,Try.ntmps39
  go_wp2_with fail
  go_at_call 59;refine HL.out.mono ?_;rintro e1 w1 ⟨⟨v1,rfl,hT⟩,hb1⟩;have Hb1:=zh hb1;have HT:=zh hT;obtain ⟨ta,tcap,rfl,_,_⟩:=Sl.form hT;have hlw:=hb1.size;clear hb1 hT;go_wp2_with fail
  go_loopw [2,3,4,5,10,11,12,13,14,27,28,29,30,31,32,33,34,35,36,37,38,39,40,41,42,43,44,45,46,47,48,49,50,51,52,53,54,55,56,57] (fun _ _ _ _ t10 t11 _ _ _ _ _ _ _ _ _ _ _ _ _ _ _ _ _ _ _ _ _ _ _ _ _ _ _ _ _ _ _ _ _ _ wr=>∃ (k at':Nat) (F:Nat) (xs:List St) (cs:List Value),xs.length=k/\k<=at'/\at' < l.length/\l.length - at' < F/\t11=.int .i64 at'/\wr.ownsRow w1.heap.size 59 6 t10 k cs/\Hid (StsC wr (fun g=>w1.heap.size<=g/\t10.ownBlock≠some g) xs cs)/\Hid (final=(allS l F xs at').toPar l)/\Hid (Below w1.heap.size w1 wr)) (fun _ _ _ _ _ t11 _ _ _ _ _ _ _ _ _ _ _ _ _ _ _ _ _ _ _ _ _ _ _ _ _ _ _ _ _ _ _ _ _ _ _=>l.length - (intOf t11).toNat)
  case atStart=>exact ⟨0,0,l.length+1,[],[],rfl,by omega,by omega,by omega,by first | rfl | go_num,World.ownsRow_nil _ _ _ _,zh .nil,zh Hf.out,zh (yR _ _)⟩
  case round =>
   obtain ⟨k,at',F,xs,cs,hxs,hka,hal,hF,rfl,hown,HX,Hk,Hb⟩:=hrel;obtain ⟨F,rfl⟩:∃ F',F=F'+1:=⟨F - 1,by omega⟩;have HTr:Hid (Toks wr l (.slice ta l.length tcap)):=zh (Sl.below (by omega) HT.out Hb.out (zr _));obtain ⟨b,off,rfl,c0,c1,c2,c3,c4⟩:=zaF HTr.out hal;have hi1:(at':Int) < l.length:=by omega
   have hat2:(at':Int)<=1000000:=by omega
   have hlt1:wr.heap.size >= w1.heap.size:=Hb.out.size;obtain ⟨q,hq⟩:∃ q,((zaa l at').kind != 4)=q:=⟨_,rfl⟩
   have Hf2:Hid (final=((if q=false then .ok xs at' else (zcJ l at' 0).andThen fun x j=>allS l F (xs++[x]) j)).toPar l):=zh (by
     rw [Hk.out,allS];by_cases h:(zaa l at').kind=4
     ·have:q=false:=by rw [<- hq];simpa using h
      rw [yP h,yP this]
     ·have:q=true:=by rw [<- hq];simpa using h
      rw [yN h,yN (by rw [this];decide)])
   generalize hkd:(zaa l at').kind=kd at *
   clear hkd c1 c2 c3 c4 Hk
   cases q with
   | false =>
    have Hf3:Hid (final=.ok xs):=zh (by rw [Hf2.out,yP rfl];rfl);have HX2:Hid (StsC wr (fun g=>w.heap.size<=g) xs cs):=zh (HX.out.weak fun g _ h=>yT hlw h.1);have Hown:Hid (wr.ownsRow w.heap.size 59 6 u10 xs.length cs):=zh (by rw [hxs];exact zmO hown hlw);clear hown hxs HX Hf2;go_wp2_with fail
    exact yE (v:=.tuple #[u10,.int .i64 0,.int .i64 0,.int .i64 0]) (by simp [results,Try.results39,go_sem]) rfl ⟨by rw [Hf3.out];exact ⟨_,rfl,cs,Hown.out,HX2.out⟩,Hb1.out.trans (Hb.out.mono hlw)⟩
   | true =>
    have HK:Hid (final=(((zcJ l at' 0).andThen fun x j=>allS l F (xs++[x]) j)).toPar l):=zh (by rw [Hf2.out,yN (by decide)]);have HSt:=zh (zhB l hG (by omega) at' 0 _ wr HTr.out hal (by omega))
    generalize zcJ l at' 0=R at *
    clear Hf2;go_wp2_with fail
    go_at_call 60;refine HSt.out.mono ?_;rintro e1 w2 ⟨he1,hb2⟩;have Hb2:=zh hb2;have hs2:w1.heap.size<=w2.heap.size:=yT Hb.out.size hb2.size;clear hb2 c0
    cases R with
    | err a c =>
     obtain ⟨op,n,nm,a1,a2,a3,m1,m2,m3,p1,p2,p3,rfl,hc,hal2⟩:=he1;have Hf3:Hid (final=.err (zaa l a).line (zaa l a).col c):=zh HK.out;have hc0:(c != 0)=true:=by rcases hc with rfl | rfl <;> rfl
     have Hc:Hid (c≠0):=zh (by rcases hc with rfl | rfl <;> decide);have hT2:Toks w2 l (.slice (some ⟨b,off,none⟩) l.length tcap):=Sl.below (by omega) HTr.out Hb2.out (zr _);have hT3:=zh (Sl.below (by omega) hT2 ((yR _ _).alloc (zr _) (.cells #[.int .u8 op,.int .i64 n,.string nm,.slice a1 m1 p1,.slice a2 m2 p2,.slice a3 m3 p3] 59)) (zr _));obtain ⟨b',off',he,-,-,-,d3,d4⟩:=zaF hT3.out hal2;cases he;have hia:(a:Int) < l.length:=by omega
     clear hc hT2;go_wp2_with fail
     refine zac (DrewOf _) (by kernel_rfl) (by kernel_rfl) (DrewOf.start _) ?_
     repeat
      try simp only [Act.put,zs1,zs3,zs2]
      apply stepsSeq.cons
      ·rintro w' ⟨nq,rfl⟩;simp only [Act.put,zs1,zs3,zs2];go_wp2_with (fail)
       first | exact ⟨rfl,nq,rfl⟩ | exact ⟨rfl,nq,(World.drewN_drewN _ _ _).symm⟩ | exact ⟨rfl,nq,by simp⟩
     try simp only [Act.put,zs1,zs3,zs2]
     refine stepsSeq.nil ?_;rintro w' ⟨nq,rfl⟩;go_wp2_with fail
     exact yE (v:=.tuple #[.slice none 0 0,.int .i64 (zaa l a).line,.int .i64 (zaa l a).col,.int .i64 c]) (by simp [results,Try.results39,go_sem]) rfl ⟨by rw [Hf3.out];exact ⟨rfl,Hc.out⟩,Hb1.out.trans ((Below.drewN ((Hb.out.trans (Hb2.out.mono Hb.out.size)).alloc hs2 _) nq).mono hlw)⟩
    | ok x j2 =>
     obtain ⟨v2,rfl,⟨cs2,rfl,hX2⟩,hj2,hj3⟩:=he1;obtain ⟨op,n,name,es,body,els,ae,ab,al,pe,pb,pl,rfl,rfl⟩:=hX2.one;have Hf3:Hid (final=(allS l F (xs++[.mk op n name es body els]) j2).toPar l):=zh HK.out;have HX2:=zh hX2;have hown2:=(zbu hown Hb2.out (zr _)).alloc (.cells #[.int .u8 op,.int .i64 n,.string (bstr name),.slice ae es.length pe,.slice ab body.length pb,.slice al els.length pl] 59);have Hbw:=zh ((Hb.out.trans (Hb2.out.mono Hb.out.size)).alloc hs2 (.cells #[.int .u8 op,.int .i64 n,.string (bstr name),.slice ae es.length pe,.slice ab body.length pb,.slice al els.length pl] 59));clear hX2;go_wp2_with (at_builtin;refine zbj rfl (.tmp 53) (.tmp 55) 22 rfl hown2 zhj Try.underlying22 rfl (by decide) rfl 1 1 (by show Value.slice (some ⟨w2.heap.size+1,0,none⟩) 1 1=_;simp) rfl rfl (by unfold maxLen;omega) (by omega) Hbw.out.size ?_;intro v' w3 hown3 hg3 hb4 hat4)
     go_roundw
     case rel=>exact ⟨k+1,j2,F,xs++[.mk op n name es body els],cs++[.int .u8 op,.int .i64 n,.string (bstr name),.slice ae es.length pe,.slice ab body.length pb,.slice al els.length pl],by rw [yA];simp [hxs],by omega,hj3,by omega,rfl,hown3,zh (ziF hown HX.out Hb2.out HX2.out Hb.out.size ((yR _ _).alloc (zr _) _) hg3 hat4),Hf3,zh (Hbw.out.trans hb4)⟩
     case measure=>simp [intOf];omega
end Go.Proofs.Ytdeneckmoejcfaa
