/- The reference parser's statement, walked. -/
import Derived.Test.YtdeneckmoejcfaaRParOZs
set_option linter.unusedSimpArgs false
set_option linter.unusedVariables false
set_option maxRecDepth 100000
set_option maxHeartbeats 2000000
namespace Go.Proofs.Ytdeneckmoejcfaa
open Go.RowKit

theorem zmK (l:List Tok) (f i o:Nat) (v:Value) (w:World) (hT:Toks w l v) (hi:i < l.length) (hm:l.length<=1000000) (hk:(zaa l i).kind≠1) :
  Calls Try.prog 60 #[v,.int .i64 i,.int .i64 o] w fun e w'=>zb5 l i w w' e (zan l (f+1) i o)/\Below w.heap.size w w':=by
 have hf:zan l (f+1) i o=.err i 120:=by rw [zan,yP hk]
 rw [hf];have hk1:((zaa l i).kind != 1)=true:=by simpa using hk
 obtain ⟨a,cap,rfl,hc1,hc2⟩:=Sl.form hT;obtain ⟨b,off,rfl,c0,c1,c2,c3,c4⟩:=zaF hT hi;have hi1:(i:Int) < l.length:=by omega
 have hi2:(i:Int)<=1000000:=by omega
 have lt1:b < w.heap.size:=World.block_lt_of_cell? w _ c0;have ne1:¬ b=w.heap.size:=by omega
 clear hf hk hT
 generalize zaa l i=T at *
 go_enter Try.func60,Try.ntmps60
 go_upto_region 2 with (fail)
 obtain ⟨W0,hW0,hb0,hR0,hT0,hsz⟩:=zbD w zbh (Tok.cells T) 59 108;simp only [zbh,Tok.cells] at hW0;rw [<- hW0];clear hW0 c0 c1 c2 c3 c4 lt1 ne1;have Hb0:=zh hb0;have HR0:Hid (OwnV W0 w.heap.size 59 zbh):=zh hR0;have t0:=hT0.cell (i:=0) rfl;clear hb0 hR0 hT0;have hSx:=HR0.out;obtain ⟨x0,x1,x2,x3,x4,x5⟩:=yc6 hSx;have xf:=hSx.free;clear hSx;go_wp2_with fail
 refine yE (v:=.tuple #[.agg #[.int .u8 0,.int .i64 0,.string { data:=#[] },.slice none 0 0,.slice none 0 0,.slice none 0 0],.int .i64 i,.int .i64 120]) (by simp [results,Try.results60,go_sem,x0,x1,x2,x3,x4,x5]) rfl ⟨?_,((((((Hb0.out).setCell (zr _) _).setCell (zr _) _).setCell (zr _) _).setCell (zr _) _).setCell (zr _) _).setCell (zr _) _⟩;exact ⟨_,_,_,_,_,_,_,_,_,_,_,_,rfl,.inl rfl,hi⟩
theorem zlT (l:List Tok) (f i o:Nat) (v:Value) (w:World) (hT:Toks w l v) (hG:Good l) (hi:i < l.length) (hm:l.length<=1000000) (hk:(zaa l i).kind=1) (hK:¬ 0 < zap (zaa l i).text) (hw:(zaa l i).text=[115,116,111,112]) :
  Calls Try.prog 60 #[v,.int .i64 i,.int .i64 o] w fun e w'=>zb5 l i w w' e (zan l (f+1) i o)/\Below w.heap.size w w':=by
 have hn:=hG.next hi (by rw [hk];decide);have HT:=zh hT;have HK:Hid (∀ w:World,_):=zh (fun w:World=>zb6 (zaa l i).text w);have hK0:zap (zaa l i).text=0:=by omega
 rw [hK0] at HK;obtain ⟨q,hq⟩:∃ q,isS l (i+1) [59]=q:=⟨_,rfl⟩;have HI:Hid (∀ w',Below w.heap.size w w'->Calls Try.prog 80 #[v,.int .i64 ((i:Int)+1),.string { data:=#[59] }] w' fun e w''=>e=.returned (.bool q)/\w'=w''):=zbO (i:=i+1) hT hn hq
 have HF:Hid (zan l (f+1) i o=if q=false then .err (i+1) 120 else .ok (.mk 6 0 [] [] [] []) (i+2)):=zh (by
  rw [zan,yN (by rw [hk];decide),yN hK,yP (.inl hw),hq,hw]
  rfl)
 have hnx:q=true->i+2 < l.length:=fun h=>hG.is_next hn (by rw [hq,h])
 obtain ⟨final,hfin⟩:∃ r,zan l (f+1) i o=r:=⟨_,rfl⟩;rw [hfin] at HF ⊢;obtain ⟨a,cap,rfl,hc1,hc2⟩:=Sl.form hT;obtain ⟨b,off,rfl,c0,c1,c2,c3,c4⟩:=zaF hT hi;have hi1:(i:Int) < l.length:=by omega
 have hi2:(i:Int)<=1000000:=by omega
 have lt1:b < w.heap.size:=World.block_lt_of_cell? w _ c0;have ne1:¬ b=w.heap.size:=by omega
 rw [hk] at c0;rw [hw] at c1 HK;clear hfin hq hT hk hK hK0 hw
 generalize (zaa l i).n=N at *
 generalize (zaa l i).line=L at *
 generalize (zaa l i).col=C at *
 go_enter Try.func60,Try.ntmps60
 go_wp2_with fail
 obtain ⟨W0,hW0,hb0,hR0,hT0,hsz⟩:=zbD w zbh (Tok.cells ⟨1,[115,116,111,112],N,L,C⟩) 59 108;simp only [zbh,Tok.cells] at hW0;rw [<- hW0];clear hW0 c0 c1 c2 c3 c4 ne1;have Hb0:=zh hb0;have HR0:Hid (OwnV W0 w.heap.size 59 zbh):=zh hR0;have HT0:=zh hT0;obtain ⟨t0,t1⟩:=yc2 hT0;clear hb0 hR0 hT0;go_at_call 77;refine (HK.out _).mono ?_;rintro e2 w2 ⟨rfl,hb2⟩;have Hb2:=zh (Hb0.out.trans (hb2.mono Hb0.out.size));have HR2:=zh (HR0.out.below hb2 (zr _));have HT2:=zh (HT0.out.below hb2 (zr _));have hsz2:=yT hsz hb2.size;clear hb2 t0 t1 HR0 HT0 Hb0 hsz;have t1:w2.cell? ⟨w.heap.size+1,1,none⟩=some (.string { data:=#[115,116,111,112] }):=HT2.out.cell (i:=1) rfl
 cases q with
 | false =>
  have Hf2:Hid (final=.err (i+1) 120):=zh (by rw [HF.out,yP rfl]);clear HF;go_wp2_with fail
  go_at_call 80;refine (HI.out _ Hb2.out).mono ?_;rintro e3 w3 ⟨rfl,rfl⟩;have hSx:=HR2.out;obtain ⟨x0,x1,x2,x3,x4,x5⟩:=yc6 hSx;have xf:=hSx.free;clear hSx;go_wp2_with fail
  refine yE (v:=.tuple #[.agg #[.int .u8 0,.int .i64 0,.string { data:=#[] },.slice none 0 0,.slice none 0 0,.slice none 0 0],.int .i64 ((i:Int)+1),.int .i64 120]) (by simp [results,Try.results60,go_sem,x0,x1,x2,x3,x4,x5]) rfl ⟨?_,((((((Hb2.out).setCell (zr _) _).setCell (zr _) _).setCell (zr _) _).setCell (zr _) _).setCell (zr _) _).setCell (zr _) _⟩;rw [Hf2.out]
  exact ⟨_,_,_,_,_,_,_,_,_,_,_,_,rfl,.inl rfl,hn⟩
 | true =>
  have Hf2:Hid (final=.ok (.mk 6 0 [] [] [] []) (i+2)):=zh (by rw [HF.out,yN (by decide)]);have hn2:=hnx rfl;clear HF;go_wp2_with fail
  go_at_call 80;refine (HI.out _ Hb2.out).mono ?_;rintro e3 w3 ⟨rfl,rfl⟩;have hSx:=HR2.out;obtain ⟨x0,x1,x2,x3,x4,x5⟩:=yc6 hSx;have xf:=hSx.free;clear hSx;go_wp2_with fail
  refine yE (v:=.tuple #[.agg #[.int .u8 6,.int .i64 0,.string { data:=#[] },.slice none 0 0,.slice none 0 0,.slice none 0 0],.int .i64 ((i:Int)+2),.int .i64 0]) (by simp [results,Try.results60,go_sem,x0,x1,x2,x3,x4,x5]) rfl ⟨?_,((((((Hb2.out).setCell (zr _) _).setCell (zr _) _).setCell (zr _) _).setCell (zr _) _).setCell (zr _) _).setCell (zr _) _⟩;rw [Hf2.out];exact ⟨_,rfl,zc6 (EsV.nil _ _) (SsV.nil _ _) (SsV.nil _ _) (zr _),by omega,hn2⟩
theorem zlU (l:List Tok) (f i o:Nat) (v:Value) (w:World) (hT:Toks w l v) (hG:Good l) (hi:i < l.length) (hm:l.length<=1000000) (hk:(zaa l i).kind=1) (hK:¬ 0 < zap (zaa l i).text) (hw:(zaa l i).text=[102,97,105,108]) :
  Calls Try.prog 60 #[v,.int .i64 i,.int .i64 o] w fun e w'=>zb5 l i w w' e (zan l (f+1) i o)/\Below w.heap.size w w':=by
 have hn:=hG.next hi (by rw [hk];decide);have HT:=zh hT;have HK:Hid (∀ w:World,_):=zh (fun w:World=>zb6 (zaa l i).text w);have hK0:zap (zaa l i).text=0:=by omega
 rw [hK0] at HK;obtain ⟨q,hq⟩:∃ q,isS l (i+1) [59]=q:=⟨_,rfl⟩;have HI:Hid (∀ w',Below w.heap.size w w'->Calls Try.prog 80 #[v,.int .i64 ((i:Int)+1),.string { data:=#[59] }] w' fun e w''=>e=.returned (.bool q)/\w'=w''):=zbO (i:=i+1) hT hn hq
 have HF:Hid (zan l (f+1) i o=if q=false then .err (i+1) 120 else .ok (.mk 7 0 [] [] [] []) (i+2)):=zh (by
  rw [zan,yN (by rw [hk];decide),yN hK,yP (.inr hw),hq,hw]
  rfl)
 have hnx:q=true->i+2 < l.length:=fun h=>hG.is_next hn (by rw [hq,h])
 obtain ⟨final,hfin⟩:∃ r,zan l (f+1) i o=r:=⟨_,rfl⟩;rw [hfin] at HF ⊢;obtain ⟨a,cap,rfl,hc1,hc2⟩:=Sl.form hT;obtain ⟨b,off,rfl,c0,c1,c2,c3,c4⟩:=zaF hT hi;have hi1:(i:Int) < l.length:=by omega
 have hi2:(i:Int)<=1000000:=by omega
 have lt1:b < w.heap.size:=World.block_lt_of_cell? w _ c0;have ne1:¬ b=w.heap.size:=by omega
 rw [hk] at c0;rw [hw] at c1 HK;clear hfin hq hT hk hK hK0 hw
 generalize (zaa l i).n=N at *
 generalize (zaa l i).line=L at *
 generalize (zaa l i).col=C at *
 go_enter Try.func60,Try.ntmps60
 go_wp2_with fail
 obtain ⟨W0,hW0,hb0,hR0,hT0,hsz⟩:=zbD w zbh (Tok.cells ⟨1,[102,97,105,108],N,L,C⟩) 59 108;simp only [zbh,Tok.cells] at hW0;rw [<- hW0];clear hW0 c0 c1 c2 c3 c4 ne1;have Hb0:=zh hb0;have HR0:Hid (OwnV W0 w.heap.size 59 zbh):=zh hR0;have HT0:=zh hT0;obtain ⟨t0,t1⟩:=yc2 hT0;clear hb0 hR0 hT0;go_at_call 77;refine (HK.out _).mono ?_;rintro e2 w2 ⟨rfl,hb2⟩;have Hb2:=zh (Hb0.out.trans (hb2.mono Hb0.out.size));have HR2:=zh (HR0.out.below hb2 (zr _));have HT2:=zh (HT0.out.below hb2 (zr _));have hsz2:=yT hsz hb2.size;clear hb2 t0 t1 HR0 HT0 Hb0 hsz;have t1:w2.cell? ⟨w.heap.size+1,1,none⟩=some (.string { data:=#[102,97,105,108] }):=HT2.out.cell (i:=1) rfl
 cases q with
 | false =>
  have Hf2:Hid (final=.err (i+1) 120):=zh (by rw [HF.out,yP rfl]);clear HF;go_wp2_with fail
  go_at_call 80;refine (HI.out _ Hb2.out).mono ?_;rintro e3 w3 ⟨rfl,rfl⟩;have hSx:=HR2.out;obtain ⟨x0,x1,x2,x3,x4,x5⟩:=yc6 hSx;have xf:=hSx.free;clear hSx;go_wp2_with fail
  refine yE (v:=.tuple #[.agg #[.int .u8 0,.int .i64 0,.string { data:=#[] },.slice none 0 0,.slice none 0 0,.slice none 0 0],.int .i64 ((i:Int)+1),.int .i64 120]) (by simp [results,Try.results60,go_sem,x0,x1,x2,x3,x4,x5]) rfl ⟨?_,((((((Hb2.out).setCell (zr _) _).setCell (zr _) _).setCell (zr _) _).setCell (zr _) _).setCell (zr _) _).setCell (zr _) _⟩;rw [Hf2.out]
  exact ⟨_,_,_,_,_,_,_,_,_,_,_,_,rfl,.inl rfl,hn⟩
 | true =>
  have Hf2:Hid (final=.ok (.mk 7 0 [] [] [] []) (i+2)):=zh (by rw [HF.out,yN (by decide)]);have hn2:=hnx rfl;clear HF;go_wp2_with fail
  go_at_call 80;refine (HI.out _ Hb2.out).mono ?_;rintro e3 w3 ⟨rfl,rfl⟩;have hSx:=HR2.out;obtain ⟨x0,x1,x2,x3,x4,x5⟩:=yc6 hSx;have xf:=hSx.free;clear hSx;go_wp2_with fail
  refine yE (v:=.tuple #[.agg #[.int .u8 7,.int .i64 0,.string { data:=#[] },.slice none 0 0,.slice none 0 0,.slice none 0 0],.int .i64 ((i:Int)+2),.int .i64 0]) (by simp [results,Try.results60,go_sem,x0,x1,x2,x3,x4,x5]) rfl ⟨?_,((((((Hb2.out).setCell (zr _) _).setCell (zr _) _).setCell (zr _) _).setCell (zr _) _).setCell (zr _) _).setCell (zr _) _⟩;rw [Hf2.out];exact ⟨_,rfl,zc6 (EsV.nil _ _) (SsV.nil _ _) (SsV.nil _ _) (zr _),by omega,hn2⟩
theorem znw (l:List Tok) (f i o:Nat) (v:Value) (w:World) (hT:Toks w l v) (hG:Good l) (hi:i < l.length) (hm:l.length<=1000000) (ho:o<=300) (hS:StmtC l (zan l f) i) (hk:(zaa l i).kind=1) (hK:¬ 0 < zap (zaa l i).text) (hw:(zaa l i).text=[105,102]) :
  Calls Try.prog 60 #[v,.int .i64 i,.int .i64 o] w fun e w'=>zb5 l i w w' e (zan l (f+1) i o)/\Below w.heap.size w w':=by
 have hn:=hG.next hi (by rw [hk];decide);have HT:=zh hT;have HK:Hid (∀ w:World,_):=zh (fun w:World=>zb6 (zaa l i).text w);have hK0:zap (zaa l i).text=0:=by omega
 rw [hK0] at HK
 have HF:Hid (zan l (f+1) i o=zau l (zan l f) (l.length+1 - i) i o):=zh (by
  rw [zan,yN (by rw [hk];decide),yN hK,yN (by rw [hw];decide),yP (.inl hw)])
 have HBr:Hid (∀ w',Below w.heap.size w w'->_):=zh (fun (w':World) (hb:Below w.heap.size w w')=>zgB l (zan l f) v hG hm (l.length+1 - i) i o w' (by omega) hS (Sl.below (by omega) hT hb (zr _)) hn ho);rw [HF.out];obtain ⟨a,cap,rfl,hc1,hc2⟩:=Sl.form hT;obtain ⟨b,off,rfl,c0,c1,c2,c3,c4⟩:=zaF hT hi;have hi1:(i:Int) < l.length:=by omega
 have hi2:(i:Int)<=1000000:=by omega
 have lt1:b < w.heap.size:=World.block_lt_of_cell? w _ c0;have ne1:¬ b=w.heap.size:=by omega
 rw [hk] at c0;rw [hw] at c1 HK;clear HF hT hk hK hK0 hw hS
 generalize zau l (zan l f) (l.length+1 - i) i o=R at *
 generalize (zaa l i).n=N at *
 generalize (zaa l i).line=L at *
 generalize (zaa l i).col=C at *
 go_enter Try.func60,Try.ntmps60
 go_wp2_with fail
 obtain ⟨W0,hW0,hb0,hR0,hT0,hsz⟩:=zbD w zbh (Tok.cells ⟨1,[105,102],N,L,C⟩) 59 108;simp only [zbh,Tok.cells] at hW0;rw [<- hW0];clear hW0 c0 c1 c2 c3 c4 ne1;have Hb0:=zh hb0;have HR0:Hid (OwnV W0 w.heap.size 59 zbh):=zh hR0;have HT0:=zh hT0;obtain ⟨t0,t1⟩:=yc2 hT0;clear hb0 hR0 hT0;go_at_call 77;refine (HK.out _).mono ?_;rintro e2 w2 ⟨rfl,hb2⟩;have Hb2:=zh (Hb0.out.trans (hb2.mono Hb0.out.size));have HR2:=zh (HR0.out.below hb2 (zr _));have HT2:=zh (HT0.out.below hb2 (zr _));have hsz2:=yT hsz hb2.size;clear hb2 t0 t1 HR0 HT0 Hb0 hsz;have t1:w2.cell? ⟨w.heap.size+1,1,none⟩=some (.string { data:=#[105,102] }):=HT2.out.cell (i:=1) rfl;go_wp2_with fail
 go_at_call 81;refine (HBr.out _ Hb2.out).mono ?_;rintro e3 w3 ⟨he3,hb3⟩;have Hb3:=zh (Hb2.out.trans (hb3.mono Hb2.out.size));have HR3:=zh (HR2.out.below hb3 (zr _));have hsz3:=yT hsz2 hb3.size;clear hb3 t1 HR2 HT2 Hb2
 cases R with
 | err a c =>
  obtain ⟨op,n,nm,a5,a6,a7,m1,m2,m3,p1,p2,p3,rfl,hc,hal⟩:=he3;have Hc:=zh hc;clear hc;have hSx:=HR3.out;obtain ⟨x0,x1,x2,x3,x4,x5⟩:=yc6 hSx;have xf:=hSx.free;clear hSx;go_wp2_with fail
  refine yE (v:=.tuple #[.agg #[.int .u8 op,.int .i64 n,.string nm,.slice a5 m1 p1,.slice a6 m2 p2,.slice a7 m3 p3],.int .i64 a,.int .i64 c]) (by simp [results,Try.results60,go_sem,x0,x1,x2,x3,x4,x5]) rfl ⟨?_,((((((Hb3.out).setCell (zr _) _).setCell (zr _) _).setCell (zr _) _).setCell (zr _) _).setCell (zr _) _).setCell (zr _) _⟩
  exact ⟨_,_,_,_,_,_,_,_,_,_,_,_,rfl,Hc.out,hal⟩
 | ok x j =>
  obtain ⟨v3,rfl,⟨cs,rfl,hX⟩,hij,hjl⟩:=he3;obtain ⟨op,n,name,es,body2,els2,a5,a6,a7,p1,p2,p3,rfl,rfl⟩:=hX.one;have HX:=zh hX;clear hX;have hSx:=HR3.out;obtain ⟨x0,x1,x2,x3,x4,x5⟩:=yc6 hSx;have xf:=hSx.free;clear hSx;go_wp2_with fail
  refine yE (v:=.tuple #[.agg #[.int .u8 op,.int .i64 n,.string (bstr name),.slice a5 es.length p1,.slice a6 body2.length p2,.slice a7 els2.length p3],.int .i64 j,.int .i64 0]) (by simp [results,Try.results60,go_sem,x0,x1,x2,x3,x4,x5]) rfl ⟨?_,((((((Hb3.out).setCell (zr _) _).setCell (zr _) _).setCell (zr _) _).setCell (zr _) _).setCell (zr _) _).setCell (zr _) _⟩;obtain ⟨W9,hW9,hg9⟩:=set6 w3 w.heap.size (.int .u8 op) (.int .i64 n) (.string (bstr name)) (.slice a5 es.length p1) (.slice a6 body2.length p2) (.slice a7 els2.length p3);rw [<- hW9];refine ⟨_,rfl,⟨_,rfl,(HX.out.grown hg9 (fun g e h=>?_)).weak fun g _ h=>by omega⟩,hij,hjl⟩;cases e;omega
theorem zkE (l:List Tok) (f i o:Nat) (v:Value) (w:World) (hT:Toks w l v) (hG:Good l) (hi:i < l.length) (hm:l.length<=1000000) (ho:o<=300) (hS:StmtC l (zan l f) i) (hk:(zaa l i).kind=1) (hK:¬ 0 < zap (zaa l i).text) (hw:(zaa l i).text=[119,104,105,108,101]) :
  Calls Try.prog 60 #[v,.int .i64 i,.int .i64 o] w fun e w'=>zb5 l i w w' e (zan l (f+1) i o)/\Below w.heap.size w w':=by
 have hn:=hG.next hi (by rw [hk];decide);have HT:=zh hT;have HK:Hid (∀ w:World,_):=zh (fun w:World=>zb6 (zaa l i).text w);have hK0:zap (zaa l i).text=0:=by omega
 rw [hK0] at HK
 have HF:Hid (zan l (f+1) i o=zau l (zan l f) (l.length+1 - i) i o):=zh (by
  rw [zan,yN (by rw [hk];decide),yN hK,yN (by rw [hw];decide),yP (.inr hw)])
 have HBr:Hid (∀ w',Below w.heap.size w w'->_):=zh (fun (w':World) (hb:Below w.heap.size w w')=>zgB l (zan l f) v hG hm (l.length+1 - i) i o w' (by omega) hS (Sl.below (by omega) hT hb (zr _)) hn ho);rw [HF.out];obtain ⟨a,cap,rfl,hc1,hc2⟩:=Sl.form hT;obtain ⟨b,off,rfl,c0,c1,c2,c3,c4⟩:=zaF hT hi;have hi1:(i:Int) < l.length:=by omega
 have hi2:(i:Int)<=1000000:=by omega
 have lt1:b < w.heap.size:=World.block_lt_of_cell? w _ c0;have ne1:¬ b=w.heap.size:=by omega
 rw [hk] at c0;rw [hw] at c1 HK;clear HF hT hk hK hK0 hw hS
 generalize zau l (zan l f) (l.length+1 - i) i o=R at *
 generalize (zaa l i).n=N at *
 generalize (zaa l i).line=L at *
 generalize (zaa l i).col=C at *
 go_enter Try.func60,Try.ntmps60
 go_wp2_with fail
 obtain ⟨W0,hW0,hb0,hR0,hT0,hsz⟩:=zbD w zbh (Tok.cells ⟨1,[119,104,105,108,101],N,L,C⟩) 59 108;simp only [zbh,Tok.cells] at hW0;rw [<- hW0];clear hW0 c0 c1 c2 c3 c4 ne1;have Hb0:=zh hb0;have HR0:Hid (OwnV W0 w.heap.size 59 zbh):=zh hR0;have HT0:=zh hT0;obtain ⟨t0,t1⟩:=yc2 hT0;clear hb0 hR0 hT0;go_at_call 77;refine (HK.out _).mono ?_;rintro e2 w2 ⟨rfl,hb2⟩;have Hb2:=zh (Hb0.out.trans (hb2.mono Hb0.out.size));have HR2:=zh (HR0.out.below hb2 (zr _));have HT2:=zh (HT0.out.below hb2 (zr _));have hsz2:=yT hsz hb2.size;clear hb2 t0 t1 HR0 HT0 Hb0 hsz;have t1:w2.cell? ⟨w.heap.size+1,1,none⟩=some (.string { data:=#[119,104,105,108,101] }):=HT2.out.cell (i:=1) rfl;go_wp2_with fail
 go_at_call 81;refine (HBr.out _ Hb2.out).mono ?_;rintro e3 w3 ⟨he3,hb3⟩;have Hb3:=zh (Hb2.out.trans (hb3.mono Hb2.out.size));have HR3:=zh (HR2.out.below hb3 (zr _));have hsz3:=yT hsz2 hb3.size;clear hb3 t1 HR2 HT2 Hb2
 cases R with
 | err a c =>
  obtain ⟨op,n,nm,a5,a6,a7,m1,m2,m3,p1,p2,p3,rfl,hc,hal⟩:=he3;have Hc:=zh hc;clear hc;have hSx:=HR3.out;obtain ⟨x0,x1,x2,x3,x4,x5⟩:=yc6 hSx;have xf:=hSx.free;clear hSx;go_wp2_with fail
  refine yE (v:=.tuple #[.agg #[.int .u8 op,.int .i64 n,.string nm,.slice a5 m1 p1,.slice a6 m2 p2,.slice a7 m3 p3],.int .i64 a,.int .i64 c]) (by simp [results,Try.results60,go_sem,x0,x1,x2,x3,x4,x5]) rfl ⟨?_,((((((Hb3.out).setCell (zr _) _).setCell (zr _) _).setCell (zr _) _).setCell (zr _) _).setCell (zr _) _).setCell (zr _) _⟩
  exact ⟨_,_,_,_,_,_,_,_,_,_,_,_,rfl,Hc.out,hal⟩
 | ok x j =>
  obtain ⟨v3,rfl,⟨cs,rfl,hX⟩,hij,hjl⟩:=he3;obtain ⟨op,n,name,es,body2,els2,a5,a6,a7,p1,p2,p3,rfl,rfl⟩:=hX.one;have HX:=zh hX;clear hX;have hSx:=HR3.out;obtain ⟨x0,x1,x2,x3,x4,x5⟩:=yc6 hSx;have xf:=hSx.free;clear hSx;go_wp2_with fail
  refine yE (v:=.tuple #[.agg #[.int .u8 op,.int .i64 n,.string (bstr name),.slice a5 es.length p1,.slice a6 body2.length p2,.slice a7 els2.length p3],.int .i64 j,.int .i64 0]) (by simp [results,Try.results60,go_sem,x0,x1,x2,x3,x4,x5]) rfl ⟨?_,((((((Hb3.out).setCell (zr _) _).setCell (zr _) _).setCell (zr _) _).setCell (zr _) _).setCell (zr _) _).setCell (zr _) _⟩;obtain ⟨W9,hW9,hg9⟩:=set6 w3 w.heap.size (.int .u8 op) (.int .i64 n) (.string (bstr name)) (.slice a5 es.length p1) (.slice a6 body2.length p2) (.slice a7 els2.length p3);rw [<- hW9];refine ⟨_,rfl,⟨_,rfl,(HX.out.grown hg9 (fun g e h=>?_)).weak fun g _ h=>by omega⟩,hij,hjl⟩;cases e;omega
theorem zkF (W:World) (g:Nat) (v0 v1 v2 v3 v4 v5:Value) :
  ∃ W',W'=(((((W.setCell ⟨g,0,none⟩ v0).setCell ⟨g,1,none⟩ v1).setCell ⟨g,2,none⟩ v2).setCell ⟨g,3,none⟩ v3).setCell ⟨g,4,none⟩ v4).setCell ⟨g,5,none⟩ v5/\W.grownBy W' (some g)/\W'.heap.size=W.heap.size:=
 ⟨_,rfl,zbc (zbc (zbc (zbc (zbc (zaY _ _ _ _) (zaY _ _ _ _)) (zaY _ _ _ _)) (zaY _ _ _ _)) (zaY _ _ _ _)) (zaY _ _ _ _),by simp⟩
theorem zmL (l:List Tok) (f i o:Nat) (v:Value) (w:World) (hT:Toks w l v) (hG:Good l) (hi:i < l.length) (hm:l.length<=1000000) (ho:o<=300) (hk:(zaa l i).kind=1) (hK:¬ 0 < zap (zaa l i).text) (hw1:(zaa l i).text≠[115,116,111,112]) (hw2:(zaa l i).text≠[102,97,105,108]) (hw3:(zaa l i).text≠[105,102]) (hw4:(zaa l i).text≠[119,104,105,108,101]) (hw5:(zaa l i).text≠[108,101,116]) :
  Calls Try.prog 60 #[v,.int .i64 i,.int .i64 o] w fun e w'=>zb5 l i w w' e (zan l (f+1) i o)/\Below w.heap.size w w':=by
 have hn:=hG.next hi (by rw [hk];decide);have HT:=zh hT;have HK:Hid (∀ w:World,_):=zh (fun w:World=>zb6 (zaa l i).text w);have hK0:zap (zaa l i).text=0:=by omega
 rw [hK0] at HK;obtain ⟨q,hq⟩:∃ q,zaP (zaa l i).text=q:=⟨_,rfl⟩;have HNm:Hid (∀ w:World,_):=zh (fun w:World=>zfU (zaa l i).text w);rw [hq] at HNm;have HV:Hid (∀ w',Below w.heap.size w w'->Calls Try.prog 79 #[v,.int .i64 ((i:Int)+1),.int .i64 o] w' fun e w''=>zb4 l (i+1) w' w'' e (zaz l (i+1) o)/\Below w'.heap.size w' w''):=zh (fun w' hb=>zeH l v hG (by omega) (i+1) o w' (Sl.below (by omega) hT hb (zr _)) hn ho)
 have HF:Hid (zan l (f+1) i o=if q=false then .err i 120 else (zaz l (i+1) o).map fun x=>.mk 2 0 (zaa l i).text [x] [] []):=zh (by
  rw [zan,yN (by rw [hk];decide),yN hK,yN (fun h=>h.elim hw1 hw2),yN (fun h=>h.elim hw3 hw4),yN hw5,hq])
 have e1:=zal (zaa l i).text [115,116,111,112];have e2:=zal (zaa l i).text [102,97,105,108];have e3:=zal (zaa l i).text [105,102];have e4:=zal (zaa l i).text [119,104,105,108,101];have e5:=zal (zaa l i).text [108,101,116];rw [decide_eq_false hw1] at e1;rw [decide_eq_false hw2] at e2;rw [decide_eq_false hw3] at e3;rw [decide_eq_false hw4] at e4;rw [decide_eq_false hw5] at e5;obtain ⟨final,hfin⟩:∃ r,zan l (f+1) i o=r:=⟨_,rfl⟩;rw [hfin] at HF ⊢;obtain ⟨a,cap,rfl,hc1,hc2⟩:=Sl.form hT;obtain ⟨b,off,rfl,c0,c1,c2,c3,c4⟩:=zaF hT hi;have hi1:(i:Int) < l.length:=by omega
 have hi2:(i:Int)<=1000000:=by omega
 have lt1:b < w.heap.size:=World.block_lt_of_cell? w _ c0;have ne1:¬ b=w.heap.size:=by omega
 rw [hk] at c0;have HC1:=zh c1;have HC0:=zh c0;clear hfin hq hT hk hK hK0 hw1 hw2 hw3 hw4 hw5
 generalize (zaa l i).text=S at *
 generalize (zaa l i).n=N at *
 generalize (zaa l i).line=L at *
 generalize (zaa l i).col=C at *
 generalize zaz l (i+1) o=R at *
 go_enter Try.func60,Try.ntmps60
 go_wp2_with fail
 obtain ⟨W0,hW0,hb0,hR0,hT0,hsz⟩:=zbD w zbh (Tok.cells ⟨1,S,N,L,C⟩) 59 108;simp only [zbh,Tok.cells] at hW0;rw [<- hW0];clear hW0 c0 c1 c2 c3 c4 ne1;have Hb0:=zh hb0;have HR0:Hid (OwnV W0 w.heap.size 59 zbh):=zh hR0;have HT0:=zh hT0;obtain ⟨t0,t1⟩:=yc2 hT0;clear hb0 hR0 hT0;go_at_call 77;refine (HK.out _).mono ?_;rintro e2 w2 ⟨rfl,hb2⟩;have Hb2:=zh (Hb0.out.trans (hb2.mono Hb0.out.size));have HR2:=zh (HR0.out.below hb2 (zr _));have HT2:=zh (HT0.out.below hb2 (zr _));have hsz2:=yT hsz hb2.size;clear hb2 t0 t1 HR0 HT0 Hb0 hsz;have t1:=HT2.out.cell (i:=1) rfl;have c0:=Below.keep Hb2.out HC0.out;have c1:=Below.keep Hb2.out HC1.out;go_wp2_with fail
 go_at_call 68;refine (HNm.out _).mono ?_;rintro e3 w3 ⟨rfl,hb3⟩;have Hb3:=zh (Hb2.out.trans (hb3.mono Hb2.out.size));have HR3:=zh (HR2.out.below hb3 (zr _));have hsz3:=yT hsz2 hb3.size;clear hb3 t1 c0 c1 HR2 HT2 Hb2 hsz2
 cases q with
 | false =>
  have Hf2:Hid (final=.err i 120):=zh (by rw [HF.out,yP rfl]);clear HF;have hSx:=HR3.out;obtain ⟨x0,x1,x2,x3,x4,x5⟩:=yc6 hSx;have xf:=hSx.free;clear hSx;go_wp2_with fail
  refine yE (v:=.tuple #[.agg #[.int .u8 0,.int .i64 0,.string { data:=#[] },.slice none 0 0,.slice none 0 0,.slice none 0 0],.int .i64 i,.int .i64 120]) (by simp [results,Try.results60,go_sem,x0,x1,x2,x3,x4,x5]) rfl ⟨?_,((((((Hb3.out).setCell (zr _) _).setCell (zr _) _).setCell (zr _) _).setCell (zr _) _).setCell (zr _) _).setCell (zr _) _⟩;rw [Hf2.out]
  exact ⟨_,_,_,_,_,_,_,_,_,_,_,_,rfl,.inl rfl,hi⟩
 | true =>
  have HF2:Hid (final=R.map fun x=>.mk 2 0 S [x] [] []):=zh (by rw [HF.out,yN (by decide)]);clear HF;go_wp2_with fail
  go_at_call 79;refine (HV.out _ Hb3.out).mono ?_;rintro e4 w4 ⟨he4,hb4⟩;have Hb4:=zh (Hb3.out.trans (hb4.mono Hb3.out.size));have HR4:=zh (HR3.out.below hb4 (zr _));have hsz4:=yT hsz3 hb4.size;clear hb4 HR3 Hb3
  cases R with
  | err a c =>
   obtain ⟨op,n,nm,ad,m,cp,rfl,hc,hal⟩:=he4;have Hf3:Hid (final=.err a c):=zh HF2.out;have Hc:=zh hc;clear hc;obtain ⟨W5,hW5,hX5,hb5⟩:∃ W5,W5=w4.alloc (.cells #[.int .u8 op,.int .i64 n,.string nm,.slice ad m cp] 65)/\OwnV W5 w4.heap.size 65 [.int .u8 op,.int .i64 n,.string nm,.slice ad m cp]/\Below w4.heap.size w4 W5:=⟨_,rfl,OwnV.new _ _ _,(yR _ _).alloc (zr _) _⟩;have HR5:=zh (HR4.out.below hb5 (zr _));have Hb5:=zh (Hb4.out.trans (hb5.mono Hb4.out.size));have HW5:=zh hW5;have hX5':=zh hX5;have hsz5:=yT hsz4 hb5.size;clear hX5 hb5 hW5;go_upto_region 25 with (fail)
   rw [<- HW5.out];have c1:=Below.keep Hb5.out HC1.out;obtain ⟨y0,y1,y2,y3⟩:=yc4 hX5'.out;have hSx:=HR5.out;obtain ⟨x0,x1,x2,x3,x4,x5⟩:=yc6 hSx;have xf:=hSx.free;have lt2:w.heap.size < W5.heap.size:=by omega
   have lt3:w4.heap.size < W5.heap.size:=hX5'.out.lt;have lt4:b < W5.heap.size:=by omega
   have nb1:¬ w.heap.size=b:=by omega
   have nb2:¬ b=w.heap.size:=by omega
   have ng1:¬ w.heap.size=w4.heap.size:=by omega
   have ng2:¬ w4.heap.size=w.heap.size:=by omega
   generalize w4.heap.size=gx at *
   clear hSx;go_region_held3 (fun w'=>w'.cell? ⟨b,off+i * 5+1,none⟩=some (.string (bstr S))/\w'.cell? ⟨gx,0,none⟩=some (.int .u8 op)/\w'.cell? ⟨gx,1,none⟩=some (.int .i64 n)/\w'.cell? ⟨gx,2,none⟩=some (.string nm)/\w'.cell? ⟨gx,3,none⟩=some (.slice ad m cp)) (go_keep) (fail)
   clear y0 y1 y2 y3 c1;go_wp2_with fail
   refine yE (v:=.tuple #[.agg #[.int .u8 2,.int .i64 0,.string (bstr S),.slice (some ⟨W5.heap.size,0,none⟩) 1 1,.slice none 0 0,.slice none 0 0],.int .i64 a,.int .i64 c]) (by simp [results,Try.results60,go_sem,x0,x1,x2,x3,x4,x5,lt2]) rfl ⟨?_,?_⟩
   ·rw [Hf3.out];exact ⟨_,_,_,_,_,_,_,_,_,_,_,_,rfl,Hc.out,hal⟩
   ·exact (((((((Hb5.out.setCell (zr _) _).setCell (zr _) _).setCell (zr _) _).setCell (zr _) _).setCell (zr _) _).setCell (zr _) _).alloc (by simp;omega) _).drew
  | ok x j =>
   obtain ⟨v4,rfl,⟨cs,rfl,hX⟩,hij,hjl⟩:=he4;obtain ⟨op,n,name,args,ad,cp,rfl,rfl⟩:=hX.one;have Hf3:Hid (final=.ok (.mk 2 0 S [.mk op n name args] [] []) j):=zh HF2.out;have HX:=zh hX;clear hX;obtain ⟨W5,hW5,hX5,hb5⟩:∃ W5,W5=w4.alloc (.cells #[.int .u8 op,.int .i64 n,.string (bstr name),.slice ad args.length cp] 65)/\OwnV W5 w4.heap.size 65 [.int .u8 op,.int .i64 n,.string (bstr name),.slice ad args.length cp]/\Below w4.heap.size w4 W5:=⟨_,rfl,OwnV.new _ _ _,(yR _ _).alloc (zr _) _⟩;have HR5:=zh (HR4.out.below hb5 (zr _));have Hb5:=zh (Hb4.out.trans (hb5.mono Hb4.out.size));have HW5:=zh hW5;have hX5':=zh hX5;have hsz5:=yT hsz4 hb5.size;have HX5:=zh ((HX.out.under hb5 (zr _)).weak (Q:=fun g=>w.heap.size+2<=g) fun _ _ h=>yT hsz3 h);clear hX5 hb5 hW5;go_upto_region 25 with (fail)
   rw [<- HW5.out];have c1:=Below.keep Hb5.out HC1.out;obtain ⟨y0,y1,y2,y3⟩:=yc4 hX5'.out;have hSx:=HR5.out;obtain ⟨x0,x1,x2,x3,x4,x5⟩:=yc6 hSx;have xf:=hSx.free;have lt2:w.heap.size < W5.heap.size:=by omega
   have lt3:w4.heap.size < W5.heap.size:=hX5'.out.lt;have lt4:b < W5.heap.size:=by omega
   have nb1:¬ w.heap.size=b:=by omega
   have nb2:¬ b=w.heap.size:=by omega
   have ng1:¬ w.heap.size=w4.heap.size:=by omega
   have ng2:¬ w4.heap.size=w.heap.size:=by omega
   generalize w4.heap.size=gx at *
   clear hSx;go_region_held3 (fun w'=>w'.cell? ⟨b,off+i * 5+1,none⟩=some (.string (bstr S))/\w'.cell? ⟨gx,0,none⟩=some (.int .u8 op)/\w'.cell? ⟨gx,1,none⟩=some (.int .i64 n)/\w'.cell? ⟨gx,2,none⟩=some (.string (bstr name))/\w'.cell? ⟨gx,3,none⟩=some (.slice ad args.length cp)) (go_keep) (fail)
   clear y0 y1 y2 y3 c1;go_wp2_with fail
   refine yE (v:=.tuple #[.agg #[.int .u8 2,.int .i64 0,.string (bstr S),.slice (some ⟨W5.heap.size,0,none⟩) 1 1,.slice none 0 0,.slice none 0 0],.int .i64 j,.int .i64 0]) (by simp [results,Try.results60,go_sem,x0,x1,x2,x3,x4,x5,lt2]) rfl ⟨?_,?_⟩
   ·rw [Hf3.out];obtain ⟨W9,hW9,hg9,hz9⟩:=zkF W5 w.heap.size (.int .u8 2) (.int .i64 0) (.string (bstr S)) (.slice (some ⟨W5.heap.size,0,none⟩) 1 1) (.slice none 0 0) (.slice none 0 0);rw [<- hW9];have hO:OwnV (W9.alloc (.cells [.int .u8 op,.int .i64 n,.string (bstr name),.slice ad args.length cp].toArray 65)).drew W5.heap.size 65 [.int .u8 op,.int .i64 n,.string (bstr name),.slice ad args.length cp]:=by rw [<- hz9];exact OwnV.new W9 _ _
    have hE:=EsV.new (w2:=W9) (m:=w.heap.size+2) (((yR _ _).alloc (zr _) (.cells [.int .u8 op,.int .i64 n,.string (bstr name),.slice ad args.length cp].toArray 65)).drew) hO (HX5.out.grown hg9 (fun g e h=>by cases e;omega)) hsz5 (by simp);exact ⟨_,rfl,zc6 hE (SsV.nil _ _) (SsV.nil _ _) (by omega),by omega,hjl⟩
   ·exact (((((((Hb5.out.setCell (zr _) _).setCell (zr _) _).setCell (zr _) _).setCell (zr _) _).setCell (zr _) _).setCell (zr _) _).alloc (by simp;omega) _).drew
theorem zmM (l:List Tok) (f i o:Nat) (v:Value) (w:World) (hT:Toks w l v) (hG:Good l) (hi:i < l.length) (hm:l.length<=1000000) (ho:o<=300) (hk:(zaa l i).kind=1) (hK:¬ 0 < zap (zaa l i).text) (hw:(zaa l i).text=[108,101,116]) :
  Calls Try.prog 60 #[v,.int .i64 i,.int .i64 o] w fun e w'=>zb5 l i w w' e (zan l (f+1) i o)/\Below w.heap.size w w':=by
 have hn:=hG.next hi (by rw [hk];decide);have HT:=zh hT;have HK:Hid (∀ w:World,_):=zh (fun w:World=>zb6 (zaa l i).text w);have hK0:zap (zaa l i).text=0:=by omega
 rw [hK0] at HK;obtain ⟨qk,hqk⟩:∃ q,((zaa l (i+1)).kind != 1)=q:=⟨_,rfl⟩;obtain ⟨q,hq⟩:∃ q,zaP (zaa l (i+1)).text=q:=⟨_,rfl⟩;have HNm:Hid (∀ w:World,_):=zh (fun w:World=>zfU (zaa l (i+1)).text w);rw [hq] at HNm
 have hn2:qk=false->i+1+1 < l.length:=fun h=>hG.next hn (by
  rw [h] at hqk;rw [bne_eq_false_iff_eq] at hqk
  rw [hqk];decide)
 have HV:Hid (qk=false->∀ w',Below w.heap.size w w'->Calls Try.prog 79 #[v,.int .i64 ((i:Int)+1+1),.int .i64 o] w' fun e w''=>zb4 l (i+1+1) w' w'' e (zaz l (i+1+1) o)/\Below w'.heap.size w' w''):=zh (fun hk w' hb=>zeH l v hG (by omega) (i+1+1) o w' (Sl.below (by omega) hT hb (zr _)) (hn2 hk) ho)
 have HF:Hid (zan l (f+1) i o=if qk=true∨q=false then .err (i+1) 120 else (zaz l (i+1+1) o).map fun x=>.mk 1 0 (zaa l (i+1)).text [x] [] []):=zh (by
  rw [zan,yN (by rw [hk];decide),yN hK,yN (by rw [hw];decide),yN (by rw [hw];decide),yP hw,hq];by_cases h:(zaa l (i+1)).kind=1
  ·have e:qk=false:=by rw [<- hqk,bne_eq_false_iff_eq];exact h
   rw [e];by_cases h2:q=false
   ·rw [yP (.inr h2),yP (.inr h2)]
   ·rw [yN (fun x=>x.elim (fun y=>y h) h2),yN (fun x=>x.elim (fun y=>by cases y) h2)]
  ·have e:qk=true:=by rw [<- hqk,bne_iff_ne];exact h
   rw [yP (.inl h),yP (.inl e)])
 obtain ⟨final,hfin⟩:∃ r,zan l (f+1) i o=r:=⟨_,rfl⟩;rw [hfin] at HF ⊢;obtain ⟨a,cap,rfl,hc1,hc2⟩:=Sl.form hT;obtain ⟨b,off,rfl,c0,c1,c2,c3,c4⟩:=zaF hT hi;have hi1:(i:Int) < l.length:=by omega
 have hi2:(i:Int)<=1000000:=by omega
 have lt1:b < w.heap.size:=World.block_lt_of_cell? w _ c0;have ne1:¬ b=w.heap.size:=by omega
 rw [hk] at c0;rw [hw] at c1 HK;obtain ⟨b',off',eb,u0,u1,-,-,-⟩:=zaF hT hn;cases eb;have HU0:=zh u0;have HU1:=zh u1;have hi3:(i:Int)+1 < l.length:=by omega
 have ht:((i:Int)+1).toNat=i+1:=by omega
 have ht2:(0:Int)<=(i:Int)+1:=by omega
 have ht3:¬ ((i:Int)+1 < 0):=by omega
 clear hfin hq hT hk hK hK0 hw u0 u1
 generalize (zaa l i).n=N at *
 generalize (zaa l i).line=L at *
 generalize (zaa l i).col=C at *
 generalize (zaa l (i+1)).text=S2 at *
 generalize (zaa l (i+1)).kind=K2 at *
 generalize zaz l (i+1+1) o=R at *
 go_enter Try.func60,Try.ntmps60
 go_wp2_with fail
 obtain ⟨W0,hW0,hb0,hR0,hT0,hsz⟩:=zbD w zbh (Tok.cells ⟨1,[108,101,116],N,L,C⟩) 59 108;simp only [zbh,Tok.cells] at hW0;rw [<- hW0];clear hW0 c0 c1 c2 c3 c4 ne1;have Hb0:=zh hb0;have HR0:Hid (OwnV W0 w.heap.size 59 zbh):=zh hR0;have HT0:=zh hT0;obtain ⟨t0,t1⟩:=yc2 hT0;clear hb0 hR0 hT0;go_at_call 77;refine (HK.out _).mono ?_;rintro e2 w2 ⟨rfl,hb2⟩;have Hb2:=zh (Hb0.out.trans (hb2.mono Hb0.out.size));have HR2:=zh (HR0.out.below hb2 (zr _));have HT2:=zh (HT0.out.below hb2 (zr _));have hsz2:=yT hsz hb2.size;clear hb2 t0 t1 HR0 HT0 Hb0 hsz;have t1:w2.cell? ⟨w.heap.size+1,1,none⟩=some (.string { data:=#[108,101,116] }):=HT2.out.cell (i:=1) rfl;have c0:=Below.keep Hb2.out HU0.out;have c1:=Below.keep Hb2.out HU1.out
 cases qk with
 | true =>
  have Hf2:Hid (final=.err (i+1) 120):=zh (by rw [HF.out,yP (.inl rfl)]);clear HF hn2;have hSx:=HR2.out;obtain ⟨x0,x1,x2,x3,x4,x5⟩:=yc6 hSx;have xf:=hSx.free;clear hSx;go_wp2_with fail
  refine yE (v:=.tuple #[.agg #[.int .u8 0,.int .i64 0,.string { data:=#[] },.slice none 0 0,.slice none 0 0,.slice none 0 0],.int .i64 ((i:Int)+1),.int .i64 120]) (by simp [results,Try.results60,go_sem,x0,x1,x2,x3,x4,x5]) rfl ⟨?_,((((((Hb2.out).setCell (zr _) _).setCell (zr _) _).setCell (zr _) _).setCell (zr _) _).setCell (zr _) _).setCell (zr _) _⟩;rw [Hf2.out]
  exact ⟨_,_,_,_,_,_,_,_,_,_,_,_,rfl,.inl rfl,hn⟩
 | false =>
 have HV1:=zh (HV.out rfl);have hn3:=hn2 rfl;clear HV hn2;go_wp2_with fail
 go_at_call 68;refine (HNm.out _).mono ?_;rintro e3 w3 ⟨rfl,hb3⟩;have Hb3:=zh (Hb2.out.trans (hb3.mono Hb2.out.size));have HR3:=zh (HR2.out.below hb3 (zr _));have hsz3:=yT hsz2 hb3.size;clear hb3 t1 c0 c1 HR2 HT2 Hb2 hsz2
 cases q with
 | false =>
  have Hf2:Hid (final=.err (i+1) 120):=zh (by rw [HF.out,yP (.inr rfl)]);clear HF;have hSx:=HR3.out;obtain ⟨x0,x1,x2,x3,x4,x5⟩:=yc6 hSx;have xf:=hSx.free;clear hSx;go_wp2_with fail
  refine yE (v:=.tuple #[.agg #[.int .u8 0,.int .i64 0,.string { data:=#[] },.slice none 0 0,.slice none 0 0,.slice none 0 0],.int .i64 ((i:Int)+1),.int .i64 120]) (by simp [results,Try.results60,go_sem,x0,x1,x2,x3,x4,x5]) rfl ⟨?_,((((((Hb3.out).setCell (zr _) _).setCell (zr _) _).setCell (zr _) _).setCell (zr _) _).setCell (zr _) _).setCell (zr _) _⟩;rw [Hf2.out]
  exact ⟨_,_,_,_,_,_,_,_,_,_,_,_,rfl,.inl rfl,hn⟩
 | true =>
  have HF2:Hid (final=R.map fun x=>.mk 1 0 S2 [x] [] []):=zh (by rw [HF.out,yN (by decide)]);clear HF;go_wp2_with fail
  go_at_call 79;refine (HV1.out _ Hb3.out).mono ?_;rintro e4 w4 ⟨he4,hb4⟩;have Hb4:=zh (Hb3.out.trans (hb4.mono Hb3.out.size));have HR4:=zh (HR3.out.below hb4 (zr _));have hsz4:=yT hsz3 hb4.size;clear hb4 HR3 Hb3
  cases R with
  | err a c =>
   obtain ⟨op,n,nm,ad,m,cp,rfl,hc,hal⟩:=he4;have Hf3:Hid (final=.err a c):=zh HF2.out;have Hc:=zh hc;clear hc;obtain ⟨W5,hW5,hX5,hb5⟩:∃ W5,W5=w4.alloc (.cells #[.int .u8 op,.int .i64 n,.string nm,.slice ad m cp] 65)/\OwnV W5 w4.heap.size 65 [.int .u8 op,.int .i64 n,.string nm,.slice ad m cp]/\Below w4.heap.size w4 W5:=⟨_,rfl,OwnV.new _ _ _,(yR _ _).alloc (zr _) _⟩;have HR5:=zh (HR4.out.below hb5 (zr _));have Hb5:=zh (Hb4.out.trans (hb5.mono Hb4.out.size));have HW5:=zh hW5;have hX5':=zh hX5;have hsz5:=yT hsz4 hb5.size;clear hX5 hb5 hW5;go_upto_region 25 with (fail)
   rw [<- HW5.out];have c1:=Below.keep Hb5.out HU1.out;obtain ⟨y0,y1,y2,y3⟩:=yc4 hX5'.out;have hSx:=HR5.out;obtain ⟨x0,x1,x2,x3,x4,x5⟩:=yc6 hSx;have xf:=hSx.free;have lt2:w.heap.size < W5.heap.size:=by omega
   have lt3:w4.heap.size < W5.heap.size:=hX5'.out.lt;have lt4:b < W5.heap.size:=by omega
   have nb1:¬ w.heap.size=b:=by omega
   have nb2:¬ b=w.heap.size:=by omega
   have ng1:¬ w.heap.size=w4.heap.size:=by omega
   have ng2:¬ w4.heap.size=w.heap.size:=by omega
   generalize w4.heap.size=gx at *
   clear hSx;go_region_held3 (fun w'=>w'.cell? ⟨b,off+(i+1) * 5+1,none⟩=some (.string (bstr S2))/\w'.cell? ⟨gx,0,none⟩=some (.int .u8 op)/\w'.cell? ⟨gx,1,none⟩=some (.int .i64 n)/\w'.cell? ⟨gx,2,none⟩=some (.string nm)/\w'.cell? ⟨gx,3,none⟩=some (.slice ad m cp)) (go_keep) (fail)
   clear y0 y1 y2 y3 c1;go_wp2_with fail
   refine yE (v:=.tuple #[.agg #[.int .u8 1,.int .i64 0,.string (bstr S2),.slice (some ⟨W5.heap.size,0,none⟩) 1 1,.slice none 0 0,.slice none 0 0],.int .i64 a,.int .i64 c]) (by simp [results,Try.results60,go_sem,x0,x1,x2,x3,x4,x5,lt2]) rfl ⟨?_,?_⟩
   ·rw [Hf3.out];exact ⟨_,_,_,_,_,_,_,_,_,_,_,_,rfl,Hc.out,hal⟩
   ·exact (((((((Hb5.out.setCell (zr _) _).setCell (zr _) _).setCell (zr _) _).setCell (zr _) _).setCell (zr _) _).setCell (zr _) _).alloc (by simp;omega) _).drew
  | ok x j =>
   obtain ⟨v4,rfl,⟨cs,rfl,hX⟩,hij,hjl⟩:=he4;obtain ⟨op,n,name,args,ad,cp,rfl,rfl⟩:=hX.one;have Hf3:Hid (final=.ok (.mk 1 0 S2 [.mk op n name args] [] []) j):=zh HF2.out;have HX:=zh hX;clear hX;obtain ⟨W5,hW5,hX5,hb5⟩:∃ W5,W5=w4.alloc (.cells #[.int .u8 op,.int .i64 n,.string (bstr name),.slice ad args.length cp] 65)/\OwnV W5 w4.heap.size 65 [.int .u8 op,.int .i64 n,.string (bstr name),.slice ad args.length cp]/\Below w4.heap.size w4 W5:=⟨_,rfl,OwnV.new _ _ _,(yR _ _).alloc (zr _) _⟩;have HR5:=zh (HR4.out.below hb5 (zr _));have Hb5:=zh (Hb4.out.trans (hb5.mono Hb4.out.size));have HW5:=zh hW5;have hX5':=zh hX5;have hsz5:=yT hsz4 hb5.size;have HX5:=zh ((HX.out.under hb5 (zr _)).weak (Q:=fun g=>w.heap.size+2<=g) fun _ _ h=>yT hsz3 h);clear hX5 hb5 hW5;go_upto_region 25 with (fail)
   rw [<- HW5.out];have c1:=Below.keep Hb5.out HU1.out;obtain ⟨y0,y1,y2,y3⟩:=yc4 hX5'.out;have hSx:=HR5.out;obtain ⟨x0,x1,x2,x3,x4,x5⟩:=yc6 hSx;have xf:=hSx.free;have lt2:w.heap.size < W5.heap.size:=by omega
   have lt3:w4.heap.size < W5.heap.size:=hX5'.out.lt;have lt4:b < W5.heap.size:=by omega
   have nb1:¬ w.heap.size=b:=by omega
   have nb2:¬ b=w.heap.size:=by omega
   have ng1:¬ w.heap.size=w4.heap.size:=by omega
   have ng2:¬ w4.heap.size=w.heap.size:=by omega
   generalize w4.heap.size=gx at *
   clear hSx;go_region_held3 (fun w'=>w'.cell? ⟨b,off+(i+1) * 5+1,none⟩=some (.string (bstr S2))/\w'.cell? ⟨gx,0,none⟩=some (.int .u8 op)/\w'.cell? ⟨gx,1,none⟩=some (.int .i64 n)/\w'.cell? ⟨gx,2,none⟩=some (.string (bstr name))/\w'.cell? ⟨gx,3,none⟩=some (.slice ad args.length cp)) (go_keep) (fail)
   clear y0 y1 y2 y3 c1;go_wp2_with fail
   refine yE (v:=.tuple #[.agg #[.int .u8 1,.int .i64 0,.string (bstr S2),.slice (some ⟨W5.heap.size,0,none⟩) 1 1,.slice none 0 0,.slice none 0 0],.int .i64 j,.int .i64 0]) (by simp [results,Try.results60,go_sem,x0,x1,x2,x3,x4,x5,lt2]) rfl ⟨?_,?_⟩
   ·rw [Hf3.out];obtain ⟨W9,hW9,hg9,hz9⟩:=zkF W5 w.heap.size (.int .u8 1) (.int .i64 0) (.string (bstr S2)) (.slice (some ⟨W5.heap.size,0,none⟩) 1 1) (.slice none 0 0) (.slice none 0 0);rw [<- hW9];have hO:OwnV (W9.alloc (.cells [.int .u8 op,.int .i64 n,.string (bstr name),.slice ad args.length cp].toArray 65)).drew W5.heap.size 65 [.int .u8 op,.int .i64 n,.string (bstr name),.slice ad args.length cp]:=by rw [<- hz9];exact OwnV.new W9 _ _
    have hE:=EsV.new (w2:=W9) (m:=w.heap.size+2) (((yR _ _).alloc (zr _) (.cells [.int .u8 op,.int .i64 n,.string (bstr name),.slice ad args.length cp].toArray 65)).drew) hO (HX5.out.grown hg9 (fun g e h=>by cases e;omega)) hsz5 (by simp);exact ⟨_,rfl,zc6 hE (SsV.nil _ _) (SsV.nil _ _) (by omega),by omega,hjl⟩
   ·exact (((((((Hb5.out.setCell (zr _) _).setCell (zr _) _).setCell (zr _) _).setCell (zr _) _).setCell (zr _) _).setCell (zr _) _).alloc (by simp;omega) _).drew
end Go.Proofs.Ytdeneckmoejcfaa
