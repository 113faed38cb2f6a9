/- The program's parser: its state in memory, and what its readers are like; now, fail, is, need, take, walked. -/
import Derived.Test.YtdhikpkecmaplaaGreatDoorLexMMk
import Derived.Test.YtdhikpkecmaplaaGreatDoorOnlyMk
import Derived.Deep.CutBlock
set_option linter.unusedSimpArgs false
set_option linter.unusedVariables false
set_option maxRecDepth 100000
namespace Go.Proofs.YtdhikpkecmaplaaGreatDoor
open Go.RowKit

structure PSt (w : World) (p : Nat) (v : Value) (l : List Tok) (i o : Nat) : Prop where
  blk : OwnV w p 178 [v, .int .i64 i, .int .i64 o]
  toks : Toks w l v
  sep : ∀ g, v.ownBlock = some g -> g ≠ p
  here : i < l.length
abbrev Turns (p : Nat) (w w' : World) : Prop := Only (fun k => k = p) w w'
structure PEnv (l : List Tok) : Prop where
  good : Good l
  small : l.length <= 16385
  signs : ∀ i, (zaa l i).kind ≠ 4 -> (zaa l i).text ∈ signWords -> (zaa l i).kind = 3
def Bad (l : List Tok) (a : Nat) (c : Int) : Ending := .panicked [{ v := .iface 175 (.agg #[.int .i64 (zaa l a).line, .int .i64 (zaa l a).col, .int .i64 c]), recovered := false }]
def RdE {α : Type} (l : List Tok) (p : Nat) (v : Value) (o : Nat) (w : World) (V : World -> α -> Value -> Prop) (r : PR α) (e : Ending) (w' : World) : Prop :=
  match r with
  | .ok x j => ∃ u, e = .returned u /\ V w' x u /\ PSt w' p v l j o /\ Turns p w w'
  | .err a c => e = Bad l a c /\ Turns p w w'
theorem PSt.below {w w':World} {p:Nat} {v:Value} {l:List Tok} {i o:Nat} (h:PSt w p v l i o) (hb:Below w.heap.size w w'):PSt w' p v l i o:=
 ⟨h.blk.below hb (zr _),Sl.below (by omega) h.toks hb (zr _),h.sep,h.here⟩
theorem Toks.keep {w w':World} {l:List Tok} {v:Value} {p:Nat} (h:Toks w l v) (hs:∀ g,v.ownBlock=some g->g≠p) (ht:Turns p w w'):Toks w' l v:=ht.sl h (.inr hs)
theorem Turns.refl (p:Nat) (w:World):Turns p w w:=Only.refl _ _
theorem Turns.set {p:Nat} {a b:World} (h:Turns p a b) (o:Nat) (u:Value):Turns p a (b.setCell ⟨p,o,none⟩ u):=Only.setCell h (.inr rfl) u
theorem PSt.set {w:World} {p:Nat} {v:Value} {l:List Tok} {i o:Nat} (h:PSt w p v l i o) {j:Nat} (hj:j < l.length):PSt (w.setCell ⟨p,1,none⟩ (.int .i64 j)) p v l j o:=
 ⟨h.blk.set 1 _,h.toks.keep h.sep ((Turns.refl p w).set _ _),h.sep,hj⟩
theorem PSt.setO {w:World} {p:Nat} {v:Value} {l:List Tok} {i o:Nat} (h:PSt w p v l i o) (k:Nat):PSt (w.setCell ⟨p,2,none⟩ (.int .i64 k)) p v l i k:=
 ⟨h.blk.set 2 _,h.toks.keep h.sep ((Turns.refl p w).set _ _),h.sep,h.here⟩
theorem PSt.only {S:Nat->Prop} {w w':World} {p:Nat} {v:Value} {l:List Tok} {i o:Nat} (h:PSt w p v l i o) (ho:Only S w w') (hp:¬ S p) (hv:∀ g,v.ownBlock=some g->¬ S g):PSt w' p v l i o:=⟨ho.own h.blk hp,ho.sl h.toks (.inr hv),h.sep,h.here⟩
theorem PSt.lt {w:World} {p:Nat} {v:Value} {l:List Tok} {i o:Nat} (h:PSt w p v l i o):p < w.heap.size:=h.blk.lt
theorem Turns.below {p:Nat} {w w':World} (h:Below w.heap.size w w'):Turns p w w':=Only.of_below h
theorem zaQ {w:World} {p:Nat} {v:Value} {l:List Tok} {i o:Nat} (h:PSt w p v l i o) (hE:PEnv l) :
  Calls Tryz.prog 105 #[.pointer (some ⟨p,0,none⟩)] w fun e w'=>e=.returned (.agg #[.int .u8 (zaa l i).kind,.string (bstr (zaa l i).text),.int .i64 (zaa l i).n,.int .i64 (zaa l i).line,.int .i64 (zaa l i).col])/\Below w.heap.size w w':=by
 obtain ⟨a,cap,rfl,-,-⟩:=Sl.form h.toks;obtain ⟨b,off,rfl,c0,c1,c2,c3,c4⟩:=zaF h.toks h.here;have hi1:(i:Int) < l.length:=by have:=h.here;omega
 have hi0:(0:Int)<=i:=by omega
 have hi2:(l.length:Int)<=9223372036854775807:=by have:=hE.small;omega
 obtain ⟨x0,x1⟩:=yc2 h.blk;have hp:=h.lt;have hbn:b < w.heap.size:=World.block_lt_of_cell? w _ c0;clear h hE
 generalize zaa l i=T at *
 go_enter Tryz.func105,Tryz.ntmps105
 go_wp2_with fail
 go_region_held3 (fun w'=>w'.cell? ⟨p,0,none⟩=some (.slice (some ⟨b,off,none⟩) l.length cap)/\w'.cell? ⟨p,1,none⟩=some (.int .i64 i)/\w'.cell? ⟨b,off+i * 5,none⟩=some (.int .u8 T.kind)/\w'.cell? ⟨b,off+i * 5+1,none⟩=some (.string (bstr T.text))/\w'.cell? ⟨b,off+i * 5+2,none⟩=some (.int .i64 T.n)/\w'.cell? ⟨b,off+i * 5+3,none⟩=some (.int .i64 T.line)/\w'.cell? ⟨b,off+i * 5+4,none⟩=some (.int .i64 T.col)) (go_keep) (fail)
 go_wp2_with fail
 have hv:w.heap.size < w.heap.size+1:=by omega
 refine yE (v:=.agg #[.int .u8 T.kind,.string (bstr T.text),.int .i64 T.n,.int .i64 T.line,.int .i64 T.col]) (by simp [results,Tryz.results105,go_sem]) rfl ⟨rfl,((yR _ _).alloc (zr _) _).drew⟩
theorem zgk (a b c d e:Value) (u:World):(Instr.field 180 (.agg #[a,b,c,d,e]) 0).run Tryz.prog u=.ok a u:=by
 unfold Instr.field;simp [go_sem,asAgg,Tryz.underlying180]
theorem zlr (a b c d e:Value) (u:World):(Instr.field 180 (.agg #[a,b,c,d,e]) 1).run Tryz.prog u=.ok b u:=by
 unfold Instr.field;simp [go_sem,asAgg,Tryz.underlying180]
theorem tok_f3 (a b c d e:Value) (u:World):(Instr.field 180 (.agg #[a,b,c,d,e]) 3).run Tryz.prog u=.ok d u:=by
 unfold Instr.field;simp [go_sem,asAgg,Tryz.underlying180]
theorem tok_f4 (a b c d e:Value) (u:World):(Instr.field 180 (.agg #[a,b,c,d,e]) 4).run Tryz.prog u=.ok e u:=by
 unfold Instr.field;simp [go_sem,asAgg,Tryz.underlying180]
theorem zcl {w:World} {p:Nat} {v:Value} {l:List Tok} {i o:Nat} (h:PSt w p v l i o) (hE:PEnv l) (c:Int) :
  Calls Tryz.prog 106 #[.pointer (some ⟨p,0,none⟩),.int .i64 c] w fun e w'=>e=Bad l i c/\Below w.heap.size w w':=by
 have HN:=zh (zaQ h hE);have HN2:Hid (∀ w',Below w.heap.size w w'->_):=zh (fun (w':World) (hb:Below w.heap.size w w')=>zaQ (h.below hb) hE);clear h hE;unfold Bad
 generalize zaa l i=T at *
 have f3:=tok_f3;have f4:=tok_f4;go_enter Tryz.func106,Tryz.ntmps106
 go_wp2_with fail
 go_at_call 105;refine HN.out.mono ?_;rintro e1 w1 ⟨rfl,hb1⟩;have Hb1:=zh hb1;clear hb1;go_wp2_with fail
 go_at_call 105;refine (HN2.out _ Hb1.out).mono ?_;rintro e2 w2 ⟨rfl,hb2⟩;have Hb2:=zh (Hb1.out.trans (hb2.mono Hb1.out.size));clear hb2;go_wp2_with fail
 exact ⟨rfl,rfl,Hb2.out⟩
theorem zbo {w:World} {p:Nat} {v:Value} {l:List Tok} {i o:Nat} (h:PSt w p v l i o) (hE:PEnv l) (s:List UInt8) :
  Calls Tryz.prog 173 #[.pointer (some ⟨p,0,none⟩),.string (bstr s)] w fun e w'=>e=.returned (.bool (isS l i s))/\Below w.heap.size w w':=by
 have HN:=zh (zaQ h hE);have HN2:Hid (∀ w',Below w.heap.size w w'->_):=zh (fun (w':World) (hb:Below w.heap.size w w')=>zaQ (h.below hb) hE);obtain ⟨q,hq⟩:∃ q,isS l i s=q:=⟨_,rfl⟩
 have hq2:q=(((zaa l i).kind != 4) && (bstr (zaa l i).text).toList == (bstr s).toList):=by
  rw [<- hq];unfold isS;congr 1
  ·rw [Bool.eq_iff_iff];simp
  ·rw [Bool.eq_iff_iff,yQ];exact (zdP _ _).symm
 rw [hq];clear h hE hq
 generalize zaa l i=T at *
 generalize T.kind=K at *
 generalize bstr T.text=S1 at *
 generalize bstr s=S2 at *
 obtain ⟨q1,hq1⟩:∃ q,(K != 4)=q:=⟨_,rfl⟩;obtain ⟨q3,hq3⟩:∃ q,(S1.toList == S2.toList)=q:=⟨_,rfl⟩;rw [hq1,hq3] at hq2;subst hq2;have f0:=zgk;have f1:=zlr;go_enter Tryz.func173,Tryz.ntmps173
 go_wp2_with fail
 go_at_call 105;refine HN.out.mono ?_;rintro e1 w1 ⟨rfl,hb1⟩;have Hb1:=zh hb1;clear hb1;cases q1
 ·go_wp2_with fail
  go_ret;exact ⟨rfl,Hb1.out⟩
 ·go_wp2_with fail
  go_at_call 105;refine (HN2.out _ Hb1.out).mono ?_;rintro e2 w2 ⟨rfl,hb2⟩;have Hb2:=zh (Hb1.out.trans (hb2.mono Hb1.out.size));clear hb2;go_wp2_with fail
  go_ret;exact ⟨rfl,Hb2.out⟩
theorem PSt.step {w:World} {p:Nat} {v:Value} {l:List Tok} {i o:Nat} (h:PSt w p v l i o) (hj:i+1 < l.length):PSt (w.setCell ⟨p,1,none⟩ (.int .i64 ((i:Int)+1))) p v l (i+1) o:=h.set hj
def za0 (l : List Tok) (i : Nat) (s : List UInt8) : PR Unit := if isS l i s = false then .err i 120 else .ok () (i + 1)
def zgl (_ : World) (_ : Unit) (u : Value) : Prop := u = .tuple #[]
theorem zcv {w:World} {p:Nat} {v:Value} {l:List Tok} {i o:Nat} (h:PSt w p v l i o) (hE:PEnv l) (s:List UInt8) :
  Calls Tryz.prog 135 #[.pointer (some ⟨p,0,none⟩),.string (bstr s)] w (RdE l p v o w zgl (za0 l i s)):=by
 have HI:=zh (zbo h hE s);have HF:Hid (∀ w',Below w.heap.size w w'->_):=zh (fun (w':World) (hb:Below w.heap.size w w')=>zcl (h.below hb) hE 120);have H:=zh h;have hx:=hE.good.is_next h.here (s:=s);have hsm:=hE.small;have hh:=h.here;have hi2:(i:Int)<=16385:=by omega
 clear hsm hh;unfold za0
 generalize isS l i s=q at *
 clear h hE;cases q
 ·rw [yP rfl];go_enter Tryz.func135,Tryz.ntmps135
  go_wp2_with fail
  go_at_call 173;refine HI.out.mono ?_;rintro e1 w1 ⟨rfl,hb1⟩;have Hb1:=zh hb1;clear hb1;go_wp2_with fail
  go_at_call 106;refine (HF.out _ Hb1.out).mono ?_;rintro e2 w2 ⟨he2,hb2⟩;unfold Bad at he2;subst he2;have Hb2:=zh (Hb1.out.trans (hb2.mono Hb1.out.size));clear hb2;go_wp2_with fail
  exact ⟨rfl,rfl,Turns.below Hb2.out⟩
 ·rw [yN (by decide)];have hj:=hx rfl;go_enter Tryz.func135,Tryz.ntmps135
  go_wp2_with fail
  go_at_call 173;refine HI.out.mono ?_;rintro e1 w1 ⟨rfl,hb1⟩;have Hb1:=zh hb1;have H1:=zh (H.out.below hb1);clear hb1;have x1:=H1.out.blk.cell (i:=1) rfl;have xf:=H1.out.blk.free;go_wp2_with fail
  exact yE (results_none rfl _ _ _) rfl ⟨_,rfl,rfl,H1.out.step hj,(Turns.below Hb1.out).set _ _⟩
def TokV (l : List Tok) (i : Nat) (_ : World) (_ : Unit) (u : Value) : Prop := u = .agg #[.int .u8 (zaa l i).kind, .string (bstr (zaa l i).text), .int .i64 (zaa l i).n, .int .i64 (zaa l i).line, .int .i64 (zaa l i).col]
theorem zmu {w:World} {p:Nat} {v:Value} {l:List Tok} {i o:Nat} (h:PSt w p v l i o) (hE:PEnv l) (hj:i+1 < l.length) :
  Calls Tryz.prog 172 #[.pointer (some ⟨p,0,none⟩)] w (RdE l p v o w (TokV l i) (.ok () (i+1))):=by
 obtain ⟨a,cap,rfl,-,-⟩:=Sl.form h.toks;have hp:=h.lt;obtain ⟨W1,hW1,hb1⟩:∃ W1,W1=w.alloc (.cells #[.int .u8 0,.string { data:=#[] },.int .i64 0,.int .i64 0,.int .i64 0] 180)/\Below w.heap.size w W1:=⟨_,rfl,(yR _ _).alloc (zr _) _⟩;obtain ⟨W2,hW2,hT2⟩:∃ W2,W2=W1.setCell ⟨p,1,none⟩ (.int .i64 ((i:Int)+1))/\Turns p w W2:=⟨_,rfl,(Turns.below hb1).set _ _⟩;have h1:=h.below hb1;have h2:=h1.step hj;rw [<- hW2] at h2;have H2:=zh h2;have HW1:=zh hW1;have HW2:=zh hW2;have HT2:=zh hT2;obtain ⟨b0,off0,hab0,k0,-,-,-,-⟩:=zaF h.toks h.here;obtain ⟨b,off,hab,c0,c1,c2,c3,c4⟩:=zaF h2.toks h.here;have hbn0:b0 < w.heap.size:=World.block_lt_of_cell? _ _ k0
 obtain ⟨rfl,rfl⟩:b=b0/\off=off0:=by
  rw [hab] at hab0;injection hab0 with e1
  injection e1 with e2 e3
  exact ⟨e2,e3⟩
 subst hab;clear hab0;have hi1:(i:Int) < l.length:=by have:=h.here;omega
 have hi0:(0:Int)<=i:=by omega
 have hi2:(i:Int)<=16385:=by have:=h.here;have:=hE.small;omega
 have y1:=h1.blk.cell (i:=1) rfl;have yf:=h1.blk.free;have x0:=h2.blk.cell (i:=0) rfl;have x1:W2.cell? ⟨p,1,none⟩=some (.int .i64 ((i:Int)+1)):=h2.blk.cell (i:=1) rfl;have hn:w.heap.size < W2.heap.size:=by rw [hW2,hW1];simp
 have ho:OwnV W2 w.heap.size 180 [.int .u8 0,.string { data:=#[] },.int .i64 0,.int .i64 0,.int .i64 0]:=by
  have:OwnV W1 w.heap.size 180 [.int .u8 0,.string { data:=#[] },.int .i64 0,.int .i64 0,.int .i64 0]:=by rw [hW1];exact OwnV.new _ _ _
  rw [hW2];exact this.set_ne (by omega) _
 have of:=ho.free;obtain ⟨z0,z1,z2,z3,z4⟩:=yc5 ho;have hbo:¬ w.heap.size=b:=by omega
 have hbo2:¬ b=w.heap.size:=by omega
 have hpo:¬ w.heap.size=p:=by omega
 have hpo2:¬ p=w.heap.size:=by omega
 have hwr:IntKind.i64.wrap ((i:Int)+1 - 1)=(i:Int):=by rw [IntWalk.i64_in _ (by omega)];omega
 have hwr2:IntKind.i64.wrap (i:Int)=(i:Int):=IntWalk.i64_in _ (by omega);clear h h1 h2 hb1 hW1 hW2 hT2 ho hE k0;unfold TokV
 generalize zaa l i=T at *
 go_enter Tryz.func172,Tryz.ntmps172
 go_upto_region 1 with (fail)
 rw [<- HW1.out];go_upto_region 2 with (fail)
 rw [<- HW2.out];obtain ⟨g,hg⟩:∃ g,w.heap.size=g:=⟨_,rfl⟩;rw [hg] at hp hbn0 hn of z0 z1 z2 z3 z4 hbo hbo2 hpo hpo2 ⊢;have HG:=zh hg;clear hg;go_region_held3 (fun w'=>w'.cell? ⟨p,0,none⟩=some (.slice (some ⟨b,off,none⟩) l.length cap)/\w'.cell? ⟨p,1,none⟩=some (.int .i64 ((i:Int)+1))/\w'.cell? ⟨b,off+i * 5,none⟩=some (.int .u8 T.kind)/\w'.cell? ⟨b,off+i * 5+1,none⟩=some (.string (bstr T.text))/\w'.cell? ⟨b,off+i * 5+2,none⟩=some (.int .i64 T.n)/\w'.cell? ⟨b,off+i * 5+3,none⟩=some (.int .i64 T.line)/\w'.cell? ⟨b,off+i * 5+4,none⟩=some (.int .i64 T.col)) (go_keep) (fail)
 rename_i hHeld
 clear hHeld;go_wp2_with fail
 refine yE (v:=.agg #[.int .u8 T.kind,.string (bstr T.text),.int .i64 T.n,.int .i64 T.line,.int .i64 T.col]) (by simp [results,Tryz.results172,go_sem,hn,z0,z1,z2,z3,z4]) rfl ⟨_,rfl,rfl,?_,?_⟩
 ·refine H2.out.only (S:=fun k=>k=g) (((((((Turns.refl g W2).set _ _).set _ _).set _ _).set _ _).set _ _).drew) (fun e=>hpo e.symm) (fun b' hb'=>?_);cases hb';exact hbo2
 ·exact (((((HT2.out.setNew (by rw [HG.out];exact zr _) _).setNew (by rw [HG.out];exact zr _) _).setNew (by rw [HG.out];exact zr _) _).setNew (by rw [HG.out];exact zr _) _).setNew (by rw [HG.out];exact zr _) _).drew
def zcc (l : List Tok) (i : Nat) : PR (List UInt8) := if (zaa l i).kind ≠ 1 ∨ zaP (zaa l i).text = false then .err i 120 else .ok (zaa l i).text (i + 1)
def StrV (_ : World) (x : List UInt8) (u : Value) : Prop := u = .string (bstr x)
theorem zfL {w:World} {p:Nat} {v:Value} {l:List Tok} {i o:Nat} (h:PSt w p v l i o) (hE:PEnv l) :
  Calls Tryz.prog 132 #[.pointer (some ⟨p,0,none⟩)] w (RdE l p v o w StrV (zcc l i)):=by
 have HN:=zh (zaQ h hE);have HN2:Hid (∀ w',Below w.heap.size w w'->_):=zh (fun (w':World) (hb:Below w.heap.size w w')=>zaQ (h.below hb) hE);have HF:Hid (∀ w',Below w.heap.size w w'->_):=zh (fun (w':World) (hb:Below w.heap.size w w')=>zcl (h.below hb) hE 120);have HNm:Hid (∀ w':World,_):=zh (fun w':World=>zdr (zaa l i).text w');have HT:Hid ((zaa l i).kind=1->∀ w',Below w.heap.size w w'->_):=zh (fun (hk:(zaa l i).kind=1) (w':World) (hb:Below w.heap.size w w')=>zmu (h.below hb) hE (hE.good.next h.here (by rw [hk];decide)));unfold zcc;unfold TokV at HT;clear h hE
 generalize zaa l i=T at *
 have f0:=zgk;have f1:=zlr;by_cases hk:T.kind=1
 ·have hk2:(T.kind != 1)=false:=by simp [hk]
  have HT2:=zh (HT.out hk);clear HT
  generalize hS:T.text=S at *
  cases hn:zaP S with
  | false =>
   rw [yP (.inr rfl)];try rw [hn] at HNm
   clear hS hn hk;go_enter Tryz.func132,Tryz.ntmps132
   go_wp2_with fail
   go_at_call 105;refine HN.out.mono ?_;rintro e1 w1 ⟨rfl,hb1⟩;have Hb1:=zh hb1;clear hb1;go_wp2_with fail
   go_at_call 105;refine (HN2.out _ Hb1.out).mono ?_;rintro e2 w2 ⟨rfl,hb2⟩;have Hb2:=zh (Hb1.out.trans (hb2.mono Hb1.out.size));clear hb2;go_wp2_with fail
   go_at_call 171;refine (HNm.out _).mono ?_;rintro e3 w3 ⟨rfl,hb3⟩;have Hb3:=zh (Hb2.out.trans (hb3.mono Hb2.out.size));clear hb3;go_wp2_with fail
   go_at_call 106;refine (HF.out _ Hb3.out).mono ?_;rintro e4 w4 ⟨he4,hb4⟩;unfold Bad at he4;subst he4;have Hb4:=zh (Hb3.out.trans (hb4.mono Hb3.out.size));clear hb4;go_wp2_with fail
   exact ⟨rfl,rfl,Turns.below Hb4.out⟩
  | true =>
   rw [yN (by rw [hk];simp)];try rw [hn] at HNm
   clear hS hn hk;go_enter Tryz.func132,Tryz.ntmps132
   go_wp2_with fail
   go_at_call 105;refine HN.out.mono ?_;rintro e1 w1 ⟨rfl,hb1⟩;have Hb1:=zh hb1;clear hb1;go_wp2_with fail
   go_at_call 105;refine (HN2.out _ Hb1.out).mono ?_;rintro e2 w2 ⟨rfl,hb2⟩;have Hb2:=zh (Hb1.out.trans (hb2.mono Hb1.out.size));clear hb2;go_wp2_with fail
   go_at_call 171;refine (HNm.out _).mono ?_;rintro e3 w3 ⟨rfl,hb3⟩;have Hb3:=zh (Hb2.out.trans (hb3.mono Hb2.out.size));clear hb3;go_wp2_with fail
   go_at_call 172;refine (HT2.out _ Hb3.out).mono ?_;rintro e4 w4 ⟨u,rfl,rfl,hP,hT⟩;have HP:=zh hP;have HTn:=zh hT;clear hP hT;go_wp2_with fail
   exact yE (v:=.string (bstr S)) (by simp [results,Tryz.results132,go_sem]) rfl ⟨_,rfl,rfl,HP.out,(Turns.below Hb3.out).trans HTn.out⟩
 ·have hk2:(T.kind != 1)=true:=by simp [hk]
  rw [yP (.inl hk)];clear HT;go_enter Tryz.func132,Tryz.ntmps132
  go_wp2_with fail
  go_at_call 105;refine HN.out.mono ?_;rintro e1 w1 ⟨rfl,hb1⟩;have Hb1:=zh hb1;clear hb1;go_wp2_with fail
  go_at_call 106;refine (HF.out _ Hb1.out).mono ?_;rintro e4 w4 ⟨he4,hb4⟩;unfold Bad at he4;subst he4;have Hb4:=zh (Hb1.out.trans (hb4.mono Hb1.out.size));clear hb4;go_wp2_with fail
  exact ⟨rfl,rfl,Turns.below Hb4.out⟩
def OpE {α : Type} (l : List Tok) (p : Nat) (v : Value) (o : Nat) (S : Nat -> Prop) (w : World) (X : World -> α -> Prop) (r : PR α) (e : Ending) (w' : World) : Prop :=
  match r with
  | .ok x j => e = .returned (.tuple #[]) /\ X w' x /\ PSt w' p v l j o /\ Only S w w'
  | .err a c => e = Bad l a c /\ Only S w w'
theorem zdz {α:Type} {w:World} {p:Nat} {v:Value} {l:List Tok} {i o:Nat} (h:PSt w p v l i o) (hE:PEnv l) (ho:o<=300) (s:List UInt8) (k:Nat) (caps:Array Value) (S:Nat->Prop) (hS:S p) (X:World->α->Prop) (hX:∀ W W' x,X W x->Turns p W W'->X W' x) (r:PR α)
  (hk:∀ W,(callFunc k caps).run Tryz.prog W=.ok (.enter k caps) W)
  (hF:isS l i s=true->o < 200->∀ W,Turns p w W->PSt W p v l (i+1) (o+1)->Calls Tryz.prog k caps W (OpE l p v (o+1) S W X r)) :
  Calls Tryz.prog 168 #[.pointer (some ⟨p,0,none⟩),.string (bstr s),.func (.func k) #[] caps] w (OpE l p v o S w X ((zay l i s o).andThen fun _ _=>r)):=by
 have HI:=zh (zbo h hE s);have HFa:Hid (∀ c w',Below w.heap.size w w'->_):=zh (fun (c:Int) (w':World) (hb:Below w.heap.size w w')=>zcl (h.below hb) hE c);have H:=zh h;have HF:=zh hF;have hx:=hE.good.is_next h.here (s:=s);have hsm:=hE.small;have hh:=h.here;have hi2:(i:Int)<=16385:=by omega
 have ho2:(o:Int)<=300:=by omega
 clear hsm hh h hE hF;unfold zay
 generalize isS l i s=q at *
 cases q
 ·rw [yP rfl];go_enter Tryz.func168,Tryz.ntmps168
  go_wp2_with fail
  go_at_call 173;refine HI.out.mono ?_;rintro e1 w1 ⟨rfl,hb1⟩;have Hb1:=zh hb1;clear hb1;go_wp2_with fail
  go_at_call 106;refine (HFa.out 120 _ Hb1.out).mono ?_;rintro e2 w2 ⟨he2,hb2⟩;unfold Bad at he2;subst he2;have Hb2:=zh (Hb1.out.trans (hb2.mono Hb1.out.size));clear hb2;go_wp2_with fail
  exact ⟨rfl,rfl,Only.of_below Hb2.out⟩
 ·rw [yN (by decide)];have hj:=hx rfl;by_cases hot:200<=o
  ·rw [yP hot];have hot2:(200:Int)<=o:=by omega
   go_enter Tryz.func168,Tryz.ntmps168
   go_wp2_with fail
   go_at_call 173;refine HI.out.mono ?_;rintro e1 w1 ⟨rfl,hb1⟩;have Hb1:=zh hb1;have H1:=zh (H.out.below hb1);clear hb1;have x2:=H1.out.blk.cell (i:=2) rfl;go_wp2_with fail
   go_at_call 106;refine (HFa.out 121 _ Hb1.out).mono ?_;rintro e2 w2 ⟨he2,hb2⟩;unfold Bad at he2;subst he2;have Hb2:=zh (Hb1.out.trans (hb2.mono Hb1.out.size));clear hb2;go_wp2_with fail
   exact ⟨rfl,rfl,Only.of_below Hb2.out⟩
  ·rw [yN hot];have hot2:¬ (200:Int)<=o:=by omega
   have hot3:(o:Int) < 200:=by omega
   go_enter Tryz.func168,Tryz.ntmps168
   go_wp2_with fail
   go_at_call 173;refine HI.out.mono ?_;rintro e1 w1 ⟨rfl,hb1⟩;have Hb1:=zh hb1;have H1:=zh (H.out.below hb1);clear hb1;have x2:=H1.out.blk.cell (i:=2) rfl;have xf:=H1.out.blk.free;obtain ⟨W2,hW2,hP2,hT2⟩:∃ W2,W2=w1.setCell ⟨p,2,none⟩ (.int .i64 ((o:Int)+1))/\PSt W2 p v l i (o+1)/\Turns p w W2:=⟨_,rfl,H1.out.setO (o+1),(Turns.below Hb1.out).set _ _⟩;have HW2:=zh hW2;have HT2:=zh hT2;have HP3:=zh (hP2.step hj);have y1:=hP2.blk.cell (i:=1) rfl;have yf:=hP2.blk.free;clear hW2 hP2 hT2;go_upto_region 5 with (fail)
   rw [<- HW2.out];obtain ⟨W3,hW3,hT3⟩:∃ W3,W3=W2.setCell ⟨p,1,none⟩ (.int .i64 ((i:Int)+1))/\Turns p w W3:=⟨_,rfl,HT2.out.set _ _⟩;have HW3:=zh hW3;have HT3:=zh hT3;rw [<- hW3] at HP3;clear hW3 hT3 x2 xf;go_upto_region 6 with (fail)
   rw [<- HW3.out];clear y1 yf;have HC:=zh (HF.out (by trivial) (by omega) _ HT3.out HP3.out);go_wp2_with fail
   refine HC.out.mono ?_;intro e4 w4 he4
   cases r with
   | err a c =>
    obtain ⟨he4,ho4⟩:=he4;unfold Bad at he4;subst he4;have Ho4:=zh ho4;clear ho4;go_wp2_with fail
    exact ⟨rfl,rfl,(HT3.out.mono (fun k _ e=>by cases e;exact hS)).trans Ho4.out⟩
   | ok x j =>
    obtain ⟨rfl,hx4,hp4,ho4⟩:=he4;have HX4:=zh hx4;have HP4:=zh hp4;have Ho4:=zh ho4;have z2:w4.cell? ⟨p,2,none⟩=some (.int .i64 ((o:Int)+1)):=hp4.blk.cell (i:=2) rfl;have zf:=hp4.blk.free;have hwr:IntKind.i64.wrap ((o:Int)+1 - 1)=(o:Int):=by rw [IntWalk.i64_in _ (by omega)];omega
    have hwr2:IntKind.i64.wrap (o:Int)=(o:Int):=IntWalk.i64_in _ (by omega);clear hx4 hp4 ho4;go_wp2_with fail
    exact yE (results_none rfl _ _ _) rfl ⟨rfl,hX _ _ _ HX4.out ((Turns.refl p _).set _ _),HP4.out.setO o,((HT3.out.mono (fun k _ e=>by cases e;exact hS)).trans Ho4.out).setCell (.inr hS) _⟩
def lvl : Nat -> List (List UInt8 × Int)
  | 0 => [([124, 124], 22)]
  | 1 => [([38, 38], 21)]
  | 2 => [([60], 15), ([60, 61], 16), ([62], 17), ([62, 61], 18), ([61, 61], 19), ([33, 61], 20)]
  | 3 => [([43], 13), ([45], 14)]
  | 4 => [([42], 10), ([47], 11), ([37], 12)]
  | _ => []
def sgC (sg : List (List UInt8 × Int)) : List Value := sg.flatMap fun x => [.string (bstr x.1), .int .u8 x.2]
def SgV (w : World) (B : Nat) (sg : List (List UInt8 × Int)) (v : Value) : Prop := ∃ g, v = .slice (some ⟨g, 0, none⟩) sg.length sg.length /\ B <= g /\ OwnV w g 272 (sgC sg)
theorem SgV.only {S:Nat->Prop} {w w':World} {B:Nat} {sg:List (List UInt8 × Int)} {v:Value} (h:SgV w B sg v) (ho:Only S w w') (hS:∀ g,B<=g->¬ S g):SgV w' B sg v:=by
 obtain ⟨g,e,hg,hO⟩:=h;exact ⟨g,e,hg,ho.own hO (hS g hg)⟩
theorem za6 (w:World) (e:TypeId) (vs:List Value) {k:Nat} (hk:w.heap.size=k):OwnV (w.alloc (.cells vs.toArray e)) k e vs:=by
 subst hk;exact OwnV.new _ _ _
theorem za7 (w:World):Calls Tryz.prog 142 #[] w fun e w'=>e=.returned (.agg #[.slice (some ⟨w.heap.size+1,0,none⟩) 1 1,.slice (some ⟨w.heap.size+1+1,0,none⟩) 1 1,.slice (some ⟨w.heap.size+1+1+1,0,none⟩) 6 6,.slice (some ⟨w.heap.size+1+1+1+1,0,none⟩) 2 2,.slice (some ⟨w.heap.size+1+1+1+1+1,0,none⟩) 3 3])/\(∀ n,n < 5->OwnV w' (w.heap.size+1+n) 272 (sgC (lvl n)))/\Below w.heap.size w w':=by
 go_enter Tryz.func142,Tryz.ntmps142
 go_wp2;refine yE (v:=.agg #[.slice (some ⟨w.heap.size+1,0,none⟩) 1 1,.slice (some ⟨w.heap.size+1+1,0,none⟩) 1 1,.slice (some ⟨w.heap.size+1+1+1,0,none⟩) 6 6,.slice (some ⟨w.heap.size+1+1+1+1,0,none⟩) 2 2,.slice (some ⟨w.heap.size+1+1+1+1+1,0,none⟩) 3 3]) (by simp [results,Tryz.results142,go_sem]) rfl ⟨rfl,fun n hn=>?_,?_⟩
 ·have:n=0∨n=1∨n=2∨n=3∨n=4:=by omega
  rcases this with rfl | rfl | rfl | rfl | rfl
  ·exact ((((za6 _ 272 (sgC (lvl 0)) (by simp)).alloc _).alloc _).alloc _).alloc _
  ·exact (((za6 _ 272 (sgC (lvl 1)) (by simp)).alloc _).alloc _).alloc _
  ·exact ((za6 _ 272 (sgC (lvl 2)) (by simp)).alloc _).alloc _
  ·exact (za6 _ 272 (sgC (lvl 3)) (by simp)).alloc _
  ·exact za6 _ 272 (sgC (lvl 4)) (by simp)
 ·exact (((((((yR _ _).alloc (zr _) _).alloc (by simp) _).alloc (by simp;omega) _).alloc (by simp;omega) _).alloc (by simp;omega) _).alloc (by simp;omega) _)
theorem zj5 {w:World} {p g:Nat} {v:Value} {l:List Tok} {i o:Nat} (h:PSt w p v l i o) (hE:PEnv l) (hg:OwnV w g 122 [.pointer (some ⟨p,0,none⟩)]) (s:List UInt8) (op:Int) :
  Calls Tryz.prog 233 #[.agg #[.string (bstr s),.int .u8 op],.pointer (some ⟨g,0,none⟩)] w fun e w'=>e=.returned (.bool (isS l i s))/\Below w.heap.size w w':=by
 have hb:Below w.heap.size w (w.alloc (.cells #[.string (bstr s),.int .u8 op] 272)):=(yR _ _).alloc (zr _) _;have HI:Hid (∀ w',Below w.heap.size w w'->_):=zh (fun (w':World) (hb:Below w.heap.size w w')=>zbo (h.below hb) hE s);obtain ⟨W1,hW1,hb1,hX1⟩:∃ W1,W1=w.alloc (.cells #[.string (bstr s),.int .u8 op] 272)/\Below w.heap.size w W1/\OwnV W1 w.heap.size 272 [.string (bstr s),.int .u8 op]:=⟨_,rfl,hb,OwnV.new _ _ _⟩;have x0:=(hg.below hb1 (zr _)).cell (i:=0) rfl;have y0:=hX1.cell (i:=0) rfl;have HW1:=zh hW1;have Hb1:=zh hb1;clear hW1 hb1 hX1 hb h hg hE;go_enter Tryz.func233,Tryz.ntmps233
 go_upto_region 1 with (fail)
 rw [<- HW1.out];go_wp2_with fail
 go_at_call 173;refine (HI.out _ Hb1.out).mono ?_;rintro e2 w2 ⟨rfl,hb2⟩;have Hb2:=zh (Hb1.out.trans (hb2.mono Hb1.out.size));clear hb2;go_wp2_with fail
 go_ret;exact ⟨rfl,Hb2.out⟩
def SgAt (l : List Tok) (i : Nat) (sg : List (List UInt8 × Int)) (r : Int) : Prop :=
  (∃ (k : Nat) (x : List UInt8 × Int), r = k /\ sg[k]? = some x /\ isS l i x.1 = true) ∨ (r = -1 /\ ∀ x ∈ sg, isS l i x.1 = false)
theorem zgm {w:World} {g:Nat} {sg:List (List UInt8 × Int)} (h:OwnV w g 272 (sgC sg)) {k:Nat} (hk:k < sg.length):w.cell? ⟨g,k * 2,none⟩=some (.string (bstr sg[k].1))/\w.cell? ⟨g,k * 2+1,none⟩=some (.int .u8 sg[k].2):=by
 have h0:=zeW (fun x:List UInt8 × Int=>[Value.string (bstr x.1),Value.int .u8 x.2]) 2 (fun _=>rfl) sg k hk 0 (by omega);have h1:=zeW (fun x:List UInt8 × Int=>[Value.string (bstr x.1),Value.int .u8 x.2]) 2 (fun _=>rfl) sg k hk 1 (by omega);exact ⟨h.cell h0,h.cell h1⟩
theorem ziY {w:World} {p g:Nat} {v:Value} {l:List Tok} {i o:Nat} (h:PSt w p v l i o) (hE:PEnv l) (hg:OwnV w g 122 [.pointer (some ⟨p,0,none⟩)]) (sg:List (List UInt8 × Int)) (gs:Nat) (hs:OwnV w gs 272 (sgC sg)) (hl:sg.length<=100) :
  Calls Tryz.prog 232 #[.slice (some ⟨gs,0,none⟩) sg.length sg.length,.func (.func 233) #[] #[.pointer (some ⟨g,0,none⟩)]] w fun e w'=>(∃ r:Int,e=.returned (.int .i64 r)/\SgAt l i sg r)/\Below w.heap.size w w':=by
 have HF:Hid (∀ w' s op,Below w.heap.size w w'->_):=zh (fun (w':World) (s:List UInt8) (op:Int) (hb:Below w.heap.size w w')=>zj5 (h.below hb) hE (hg.below hb (zr _)) s op);have HS:=zh hs;clear h hE hg hs;have hl2:(sg.length:Int)<=100:=by omega
 go_enter Tryz.func232,Tryz.ntmps232
 go_wp2_with fail
 go_loopw [4,5,8,9,10,11,12,13,14,15,16,17,18] (fun _ _ t8 _ _ _ _ _ _ _ _ _ _ wr=>∃ k:Nat,k<=sg.length/\t8=.int .i64 k/\Hid (∀ x ∈ sg.take k,isS l i x.1=false)/\Hid (Below w.heap.size w wr)) (fun _ _ t8 _ _ _ _ _ _ _ _ _ _ _=>sg.length - (intOf t8).toNat)
 case atStart=>exact ⟨0,by omega,by first | rfl | go_num,zh (by simp),zh (yR _ _)⟩
 case round =>
  obtain ⟨k,hk,rfl,HA,HB⟩:=hrel;by_cases hkl:k < sg.length
  ·have hki:(k:Int) < (sg.length:Int):=by omega
   obtain ⟨c0,c1⟩:=zgm (HS.out.below HB.out (zr _)) hkl;have HI:=zh (HF.out wr sg[k].1 sg[k].2 HB.out);have hx:sg[k]? = some sg[k]:=yD hkl;have Hx:=zh hx
   have HA3:Hid (isS l i sg[k].1=false->∀ x ∈ sg.take (k+1),isS l i x.1=false):=zh (fun h0 x hx=>by
    rw [List.take_succ_eq_append_getElem hkl] at hx;rcases List.mem_append.1 hx with hx | hx
    ·exact HA.out x hx
    ·rw [List.mem_singleton] at hx;rw [hx];exact h0)
   clear hx
   generalize hX:sg[k]=X at *
   cases hq:isS l i X.1 with
   | true =>
    rw [hq] at HI;clear hX;go_wp2_with fail
    refine HI.out.mono ?_;rintro e2 w2 ⟨rfl,hb2⟩;have HB2:=zh (HB.out.trans (hb2.mono HB.out.size));clear hb2;go_wp2_with fail
    go_ret
    exact ⟨⟨k,rfl,.inl ⟨k,X,rfl,Hx.out,hq⟩⟩,HB2.out⟩
   | false =>
    rw [hq] at HI;clear hX;have HA2:=zh (HA3.out hq);clear HA3;go_wp2_with fail
    refine HI.out.mono ?_;rintro e2 w2 ⟨rfl,hb2⟩;have HB2:=zh (HB.out.trans (hb2.mono HB.out.size));clear hb2;go_wp2_with fail
    go_roundw
    case rel=>exact ⟨k+1,by omega,by go_num,HA2,HB2⟩
    case measure=>simp [intOf];omega
  ·have hki:¬ (k:Int) < (sg.length:Int):=by omega
   have hke:k=sg.length:=by omega
   have HA2:Hid (∀ x ∈ sg,isS l i x.1=false):=zh (by have:=HA.out;rw [hke,List.take_length] at this;exact this);clear HA;go_wp2_with fail
   go_ret;exact ⟨⟨-1,rfl,.inr ⟨rfl,HA2.out⟩⟩,HB.out⟩
end Go.Proofs.YtdhikpkecmaplaaGreatDoor
