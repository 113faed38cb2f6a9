/- The program's parser: its state in memory, and what its readers are like; now, fail, is, need, take, walked. -/
import Derived.Test.YtoaojdobjinhfaaGreatDoorOnlyPz
import Derived.Test.YtoaojdobjinhfaaGreatDoorRParAPz
import Derived.Deep.CutBlock
set_option linter.unusedSimpArgs false
set_option linter.unusedVariables false
set_option maxRecDepth 100000
namespace Go.Proofs.YtoaojdobjinhfaaGreatDoor
open Go.RowKit

structure PSt (w : World) (p : Nat) (v : Value) (l : List Tok) (i o : Nat) : Prop where
  blk : OwnV w p 116 [v, .int .i64 i, .int .i64 o]
  toks : Toks w l v
  sep : ∀ g, v.ownBlock = some g -> g ≠ p
  here : i < l.length
abbrev Turns (p : Nat) (w w' : World) : Prop := Only (fun k => k = p) w w'
structure PEnv (l : List Tok) : Prop where
  good : Good l
  small : l.length <= 16385
  signs : ∀ i, (zaa l i).kind ≠ 4 -> (zaa l i).text ∈ signWords -> (zaa l i).kind = 3
def Bad (l : List Tok) (a : Nat) (c : Int) : Ending := .panicked [{ v := .iface 113 (.agg #[.int .i64 (zaa l a).line, .int .i64 (zaa l a).col, .int .i64 c]), recovered := false }]
def RdE {α : Type} (l : List Tok) (p : Nat) (v : Value) (o : Nat) (w : World) (V : World -> α -> Value -> Prop) (r : PR α) (e : Ending) (w' : World) : Prop :=
  match r with
  | .ok x j => ∃ u, e = .returned u /\ V w' x u /\ PSt w' p v l j o /\ Turns p w w'
  | .err a c => e = Bad l a c /\ Turns p w w'
theorem PSt.below{w w':World}{p:Nat}{v:Value}{l:List Tok}{i o:Nat}(h:PSt w p v l i o)(d:Below w.heap.size w w'):PSt w' p v l i o:=
 ⟨h.blk.below d (zr _),Sl.below (by omega) h.toks d (zr _),h.sep,h.here⟩
theorem Toks.keep{w w':World}{l:List Tok}{v:Value}{p:Nat}(h:Toks w l v)(d:∀g,v.ownBlock=some g->g≠p)(ht:Turns p w w'):Toks w' l v:=ht.sl h (.inr d)
theorem Turns.refl(p:Nat)(w:World):Turns p w w:=Only.refl _ _
theorem Turns.set{p:Nat}{a b:World}(h:Turns p a b)(o:Nat)(u:Value):Turns p a (b.setCell ⟨p,o,none⟩ u):=Only.setCell h (.inr rfl) u
theorem PSt.set{w:World}{p:Nat}{v:Value}{l:List Tok}{i o:Nat}(h:PSt w p v l i o){j:Nat}(d:j<l.length):PSt (w.setCell ⟨p,1,none⟩ (.int .i64 j)) p v l j o:=
 ⟨h.blk.set 1 _,h.toks.keep h.sep ((Turns.refl p w).set _ _),h.sep,d⟩
theorem PSt.setO{w:World}{p:Nat}{v:Value}{l:List Tok}{i o:Nat}(h:PSt w p v l i o)(k:Nat):PSt (w.setCell ⟨p,2,none⟩ (.int .i64 k)) p v l i k:=
 ⟨h.blk.set 2 _,h.toks.keep h.sep ((Turns.refl p w).set _ _),h.sep,h.here⟩
theorem PSt.only{S:Nat->Prop}{w w':World}{p:Nat}{v:Value}{l:List Tok}{i o:Nat}(h:PSt w p v l i o)(d:Only S w w')(hp:¬S p)(f:∀g,v.ownBlock=some g->¬S g):PSt w' p v l i o:=⟨d.own h.blk hp,d.sl h.toks (.inr f),h.sep,h.here⟩
theorem PSt.lt{w:World}{p:Nat}{v:Value}{l:List Tok}{i o:Nat}(h:PSt w p v l i o):p<w.heap.size:=h.blk.lt
theorem Turns.below{p:Nat}{w w':World}(h:Below w.heap.size w w'):Turns p w w':=Only.of_below h
theorem zaQ{w:World}{p:Nat}{v:Value}{l:List Tok}{i o:Nat}(h:PSt w p v l i o)(f:PEnv l) :
  Calls Tryz.prog 89 #[.pointer (some ⟨p,0,none⟩)] w fun e w'=>e=.returned (.agg #[.int .u8 (zaa l i).kind,.string (bstr (zaa l i).text),.int .i64 (zaa l i).n,.int .i64 (zaa l i).line,.int .i64 (zaa l i).col])/\Below w.heap.size w w':=by
 obtain⟨a,cap,rfl,-,-⟩:=Sl.form h.toks;obtain⟨b,d,rfl,u,C,D,B,y⟩:=zaF h.toks h.here;have j:(i:Int)<l.length:=by have:=h.here;omega
 have m:(0:Int)<=i:=by omega
 have q:(l.length:Int)<=9223372036854775807:=by have:=f.small;omega
 obtain⟨A,E⟩:=yc2 h.blk;have hp:=h.lt;have g:b<w.heap.size:=World.block_lt_of_cell? w _ u;clear h f
 generalize zaa l i=T at *
 go_enter Tryz.func89,Tryz.ntmps89
 go_wp2_with fail
 go_region_held3 (fun w'=>w'.cell? ⟨p,0,none⟩=some (.slice (some ⟨b,d,none⟩) l.length cap)/\w'.cell? ⟨p,1,none⟩=some (.int .i64 i)/\w'.cell? ⟨b,d+i*5,none⟩=some (.int .u8 T.kind)/\w'.cell? ⟨b,d+i*5+1,none⟩=some (.string (bstr T.text))/\w'.cell? ⟨b,d+i*5+2,none⟩=some (.int .i64 T.n)/\w'.cell? ⟨b,d+i*5+3,none⟩=some (.int .i64 T.line)/\w'.cell? ⟨b,d+i*5+4,none⟩=some (.int .i64 T.col)) (go_keep) (fail)
 go_wp2_with fail
 have z:w.heap.size<w.heap.size+1:=by omega
 refine yE (v:=.agg #[.int .u8 T.kind,.string (bstr T.text),.int .i64 T.n,.int .i64 T.line,.int .i64 T.col]) (by simp[results,Tryz.results89,go_sem]) rfl ⟨rfl,((yR _ _).alloc (zr _) _).drew⟩
theorem zgk(a b c d e:Value)(u:World):(Instr.field 51 (.agg #[a,b,c,d,e]) 0).run Tryz.prog u=.ok a u:=by
 unfold Instr.field;simp[go_sem,asAgg,Tryz.underlying51]
theorem zlr(a b c d e:Value)(u:World):(Instr.field 51 (.agg #[a,b,c,d,e]) 1).run Tryz.prog u=.ok b u:=by
 unfold Instr.field;simp[go_sem,asAgg,Tryz.underlying51]
theorem tok_f3(a b c d e:Value)(u:World):(Instr.field 51 (.agg #[a,b,c,d,e]) 3).run Tryz.prog u=.ok d u:=by
 unfold Instr.field;simp[go_sem,asAgg,Tryz.underlying51]
theorem tok_f4(a b c d e:Value)(u:World):(Instr.field 51 (.agg #[a,b,c,d,e]) 4).run Tryz.prog u=.ok e u:=by
 unfold Instr.field;simp[go_sem,asAgg,Tryz.underlying51]
theorem zcl{w:World}{p:Nat}{v:Value}{l:List Tok}{i o:Nat}(h:PSt w p v l i o)(q:PEnv l)(c:Int) :
  Calls Tryz.prog 90 #[.pointer (some ⟨p,0,none⟩),.int .i64 c] w fun e w'=>e=Bad l i c/\Below w.heap.size w w':=by
 have y:=zh (zaQ h q);have m:Hid (∀w',Below w.heap.size w w'->_):=zh (fun(w':World) (u:Below w.heap.size w w')=>zaQ (h.below u) q);clear h q;unfold Bad
 generalize zaa l i=T at *
 have C:=tok_f3;have A:=tok_f4;go_enter Tryz.func90,Tryz.ntmps90
 go_wp2_with fail
 go_at_call 89;refine y.out.mono ?_;rintro B D⟨rfl,f⟩;have d:=zh f;clear f;go_wp2_with fail
 go_at_call 89;refine(m.out _ d.out).mono ?_;rintro z w2⟨rfl,g⟩;have j:=zh (d.out.trans (g.mono d.out.size));clear g;go_wp2_with fail
 exact⟨rfl,rfl,j.out⟩
theorem zbo{w:World}{p:Nat}{v:Value}{l:List Tok}{i o:Nat}(h:PSt w p v l i o)(y:PEnv l)(s:List UInt8) :
  Calls Tryz.prog 154 #[.pointer (some ⟨p,0,none⟩),.string (bstr s)] w fun e w'=>e=.returned (.bool (isS l i s))/\Below w.heap.size w w':=by
 have F:=zh (zaQ h y);have z:Hid (∀w',Below w.heap.size w w'->_):=zh (fun(w':World) (C:Below w.heap.size w w')=>zaQ (h.below C) y);obtain⟨q,B⟩:∃q,isS l i s=q:=⟨_,rfl⟩
 have j:q=(((zaa l i).kind != 4)&&(bstr (zaa l i).text).toList==(bstr s).toList):=by
  rw[<-B];unfold isS;congr 1
  ·rw[Bool.eq_iff_iff];simp
  ·rw[Bool.eq_iff_iff,yQ];exact(zdP _ _).symm
 rw[B];clear h y B
 generalize zaa l i=T at *
 generalize T.kind=K at *
 generalize bstr T.text=G at *
 generalize bstr s=E at *
 obtain⟨D,A⟩:∃q,(K != 4)=q:=⟨_,rfl⟩;obtain⟨H,u⟩:∃q,(G.toList==E.toList)=q:=⟨_,rfl⟩;rw[A,u] at j;subst j;have J:=zgk;have L:=zlr;go_enter Tryz.func154,Tryz.ntmps154
 go_wp2_with fail
 go_at_call 89;refine F.out.mono ?_;rintro M N⟨rfl,g⟩;have d:=zh g;clear g;cases D
 ·go_wp2_with fail
  go_ret;exact⟨rfl,d.out⟩
 ·go_wp2_with fail
  go_at_call 89;refine(z.out _ d.out).mono ?_;rintro I w2⟨rfl,f⟩;have m:=zh (d.out.trans (f.mono d.out.size));clear f;go_wp2_with fail
  go_ret;exact⟨rfl,m.out⟩
theorem PSt.step{w:World}{p:Nat}{v:Value}{l:List Tok}{i o:Nat}(h:PSt w p v l i o)(d:i+1<l.length):PSt (w.setCell ⟨p,1,none⟩ (.int .i64 ((i:Int)+1))) p v l (i+1) o:=h.set d
def za0 (l : List Tok) (i : Nat) (s : List UInt8) : PR Unit := if isS l i s = false then .err i 120 else .ok () (i + 1)
def zgl (_ : World) (_ : Unit) (u : Value) : Prop := u = .tuple #[]
theorem zcv{w:World}{p:Nat}{v:Value}{l:List Tok}{i o:Nat}(h:PSt w p v l i o)(m:PEnv l)(s:List UInt8) :
  Calls Tryz.prog 131 #[.pointer (some ⟨p,0,none⟩),.string (bstr s)] w (RdE l p v o w zgl (za0 l i s)):=by
 have A:=zh (zbo h m s);have B:Hid (∀w',Below w.heap.size w w'->_):=zh (fun(w':World) (E:Below w.heap.size w w')=>zcl (h.below E) m 120);have H:=zh h;have D:=m.good.is_next h.here (s:=s);have z:=m.small;have F:=h.here;have C:(i:Int)<=16385:=by omega
 clear z F;unfold za0
 generalize isS l i s=q at *
 clear h m;cases q
 ·rw[yP rfl];go_enter Tryz.func131,Tryz.ntmps131
  go_wp2_with fail
  go_at_call 154;refine A.out.mono ?_;rintro G I⟨rfl,d⟩;have f:=zh d;clear d;go_wp2_with fail
  go_at_call 90;refine(B.out _ f.out).mono ?_;rintro K w2⟨j,g⟩;unfold Bad at j;subst j;have u:=zh (f.out.trans (g.mono f.out.size));clear g;go_wp2_with fail
  exact⟨rfl,rfl,Turns.below u.out⟩
 ·rw[yN (by decide)];have J:=D rfl;go_enter Tryz.func131,Tryz.ntmps131
  go_wp2_with fail
  go_at_call 154;refine A.out.mono ?_;rintro G I⟨rfl,d⟩;have f:=zh d;have y:=zh (H.out.below d);clear d;have M:=y.out.blk.cell (i:=1) rfl;have L:=y.out.blk.free;go_wp2_with fail
  exact yE (results_none rfl _ _ _) rfl ⟨_,rfl,rfl,y.out.step J,(Turns.below f.out).set _ _⟩
def TokV (l : List Tok) (i : Nat) (_ : World) (_ : Unit) (u : Value) : Prop := u = .agg #[.int .u8 (zaa l i).kind, .string (bstr (zaa l i).text), .int .i64 (zaa l i).n, .int .i64 (zaa l i).line, .int .i64 (zaa l i).col]
theorem zmu{w:World}{p:Nat}{v:Value}{l:List Tok}{i o:Nat}(h:PSt w p v l i o)(W:PEnv l)(hj:i+1<l.length) :
  Calls Tryz.prog 153 #[.pointer (some ⟨p,0,none⟩)] w (RdE l p v o w (TokV l i) (.ok () (i+1))):=by
 obtain⟨a,cap,rfl,-,-⟩:=Sl.form h.toks;have hp:=h.lt;obtain⟨B,m,y⟩:∃B,B=w.alloc (.cells #[.int .u8 0,.string { data:=#[] },.int .i64 0,.int .i64 0,.int .i64 0] 51)/\Below w.heap.size w B:=⟨_,rfl,(yR _ _).alloc (zr _) _⟩;obtain⟨u,f,F⟩:∃u,u=B.setCell ⟨p,1,none⟩ (.int .i64 ((i:Int)+1))/\Turns p w u:=⟨_,rfl,(Turns.below y).set _ _⟩;have I:=h.below y;have z:=I.step hj;rw[<-f] at z;have H2:=zh z;have N:=zh m;have O:=zh f;have M:=zh F;obtain⟨R,D,j,k0,-,-,-,-⟩:=zaF h.toks h.here;obtain⟨b,d,E,c0,c1,c2,c3,c4⟩:=zaF z.toks h.here;have A:R<w.heap.size:=World.block_lt_of_cell? _ _ k0
 obtain⟨rfl,rfl⟩:b=R/\d=D:=by
  rw[E] at j;injection j with e1
  injection e1 with e2 e3
  exact⟨e2,e3⟩
 subst E;clear j;have ab:(i:Int)<l.length:=by have:=h.here;omega
 have ad:(0:Int)<=i:=by omega
 have aa:(i:Int)<=16385:=by have:=h.here;have:=W.small;omega
 have y1:=I.blk.cell (i:=1) rfl;have yf:=I.blk.free;have x0:=z.blk.cell (i:=0) rfl;have x1:u.cell? ⟨p,1,none⟩=some (.int .i64 ((i:Int)+1)):=z.blk.cell (i:=1) rfl;have X:w.heap.size<u.heap.size:=by rw[f,m];simp
 have L:OwnV u w.heap.size 51 [.int .u8 0,.string { data:=#[] },.int .i64 0,.int .i64 0,.int .i64 0]:=by
  have:OwnV B w.heap.size 51 [.int .u8 0,.string { data:=#[] },.int .i64 0,.int .i64 0,.int .i64 0]:=by rw[m];exact OwnV.new _ _ _
  rw[f];exact this.set_ne (by omega) _
 have of:=L.free;obtain⟨U,P,Q,Z,V⟩:=yc5 L;have K:¬w.heap.size=b:=by omega
 have q:¬b=w.heap.size:=by omega
 have H:¬w.heap.size=p:=by omega
 have G:¬p=w.heap.size:=by omega
 have ac:IntKind.i64.wrap ((i:Int)+1-1)=(i:Int):=by rw[IntWalk.i64_in _ (by omega)];omega
 have Y:IntKind.i64.wrap (i:Int)=(i:Int):=IntWalk.i64_in _ (by omega);clear h I z y m f F L W k0;unfold TokV
 generalize zaa l i=T at *
 go_enter Tryz.func153,Tryz.ntmps153
 go_upto_region 1 with(fail)
 rw[<-N.out];go_upto_region 2 with(fail)
 rw[<-O.out];obtain⟨g,J⟩:∃g,w.heap.size=g:=⟨_,rfl⟩;rw[J] at hp A X of U P Q Z V K q H G ⊢;have C:=zh J;clear J;go_region_held3 (fun w'=>w'.cell? ⟨p,0,none⟩=some (.slice (some ⟨b,d,none⟩) l.length cap)/\w'.cell? ⟨p,1,none⟩=some (.int .i64 ((i:Int)+1))/\w'.cell? ⟨b,d+i*5,none⟩=some (.int .u8 T.kind)/\w'.cell? ⟨b,d+i*5+1,none⟩=some (.string (bstr T.text))/\w'.cell? ⟨b,d+i*5+2,none⟩=some (.int .i64 T.n)/\w'.cell? ⟨b,d+i*5+3,none⟩=some (.int .i64 T.line)/\w'.cell? ⟨b,d+i*5+4,none⟩=some (.int .i64 T.col)) (go_keep) (fail)
 rename_i hHeld
 clear hHeld;go_wp2_with fail
 refine yE (v:=.agg #[.int .u8 T.kind,.string (bstr T.text),.int .i64 T.n,.int .i64 T.line,.int .i64 T.col]) (by simp[results,Tryz.results153,go_sem,X,U,P,Q,Z,V]) rfl ⟨_,rfl,rfl,?_,?_⟩
 ·refine H2.out.only (S:=fun k=>k=g) (((((((Turns.refl g u).set _ _).set _ _).set _ _).set _ _).set _ _).drew) (fun e=>H e.symm) (fun b' hb'=>?_);cases hb';exact q
 ·exact(((((M.out.setNew (by rw[C.out];exact zr _) _).setNew (by rw[C.out];exact zr _) _).setNew (by rw[C.out];exact zr _) _).setNew (by rw[C.out];exact zr _) _).setNew (by rw[C.out];exact zr _) _).drew
def zcc (l : List Tok) (i : Nat) : PR (List UInt8) := if (zaa l i).kind ≠ 1 ∨ zaP (zaa l i).text = false then .err i 120 else .ok (zaa l i).text (i + 1)
def StrV (_ : World) (x : List UInt8) (u : Value) : Prop := u = .string (bstr x)
theorem zfL{w:World}{p:Nat}{v:Value}{l:List Tok}{i o:Nat}(h:PSt w p v l i o)(D:PEnv l) :
  Calls Tryz.prog 128 #[.pointer (some ⟨p,0,none⟩)] w (RdE l p v o w StrV (zcc l i)):=by
 have K:=zh (zaQ h D);have F:Hid (∀w',Below w.heap.size w w'->_):=zh (fun(w':World) (E:Below w.heap.size w w')=>zaQ (h.below E) D);have L:Hid (∀w',Below w.heap.size w w'->_):=zh (fun(w':World) (E:Below w.heap.size w w')=>zcl (h.below E) D 120);have A:Hid (∀w':World,_):=zh (fun w':World=>zdr (zaa l i).text w');have G:Hid ((zaa l i).kind=1->∀w',Below w.heap.size w w'->_):=zh (fun(B:(zaa l i).kind=1) (w':World) (E:Below w.heap.size w w')=>zmu (h.below E) D (D.good.next h.here (by rw[B];decide)));unfold zcc;unfold TokV at G;clear h D
 generalize zaa l i=T at *
 have Y:=zgk;have Z:=zlr;by_cases B:T.kind=1
 ·have I:(T.kind != 1)=false:=by simp[B]
  have J:=zh (G.out B);clear G
  generalize hS:T.text=S at *
  cases hn:zaP S with
  | false =>
   rw[yP (.inr rfl)];try rw[hn] at A
   clear hS hn B;go_enter Tryz.func128,Tryz.ntmps128
   go_wp2_with fail
   go_at_call 89;refine K.out.mono ?_;rintro N O⟨rfl,f⟩;have d:=zh f;clear f;go_wp2_with fail
   go_at_call 89;refine(F.out _ d.out).mono ?_;rintro V w2⟨rfl,q⟩;have m:=zh (d.out.trans (q.mono d.out.size));clear q;go_wp2_with fail
   go_at_call 21;refine(A.out _).mono ?_;rintro U W⟨rfl,y⟩;have g:=zh (m.out.trans (y.mono m.out.size));clear y;go_wp2_with fail
   go_at_call 90;refine(L.out _ g.out).mono ?_;rintro R P⟨j,z⟩;unfold Bad at j;subst j;have C:=zh (g.out.trans (z.mono g.out.size));clear z;go_wp2_with fail
   exact⟨rfl,rfl,Turns.below C.out⟩
  | true =>
   rw[yN (by rw[B];simp)];try rw[hn] at A
   clear hS hn B;go_enter Tryz.func128,Tryz.ntmps128
   go_wp2_with fail
   go_at_call 89;refine K.out.mono ?_;rintro N O⟨rfl,f⟩;have d:=zh f;clear f;go_wp2_with fail
   go_at_call 89;refine(F.out _ d.out).mono ?_;rintro V w2⟨rfl,q⟩;have m:=zh (d.out.trans (q.mono d.out.size));clear q;go_wp2_with fail
   go_at_call 21;refine(A.out _).mono ?_;rintro U W⟨rfl,y⟩;have g:=zh (m.out.trans (y.mono m.out.size));clear y;go_wp2_with fail
   go_at_call 153;refine(J.out _ g.out).mono ?_;rintro R P⟨u,rfl,rfl,M,Q⟩;have X:=zh M;have H:=zh Q;clear M Q;go_wp2_with fail
   exact yE (v:=.string (bstr S)) (by simp[results,Tryz.results128,go_sem]) rfl ⟨_,rfl,rfl,X.out,(Turns.below g.out).trans H.out⟩
 ·have I:(T.kind != 1)=true:=by simp[B]
  rw[yP (.inl B)];clear G;go_enter Tryz.func128,Tryz.ntmps128
  go_wp2_with fail
  go_at_call 89;refine K.out.mono ?_;rintro N O⟨rfl,f⟩;have d:=zh f;clear f;go_wp2_with fail
  go_at_call 90;refine(L.out _ d.out).mono ?_;rintro R P⟨j,z⟩;unfold Bad at j;subst j;have C:=zh (d.out.trans (z.mono d.out.size));clear z;go_wp2_with fail
  exact⟨rfl,rfl,Turns.below C.out⟩
def OpE {α : Type} (l : List Tok) (p : Nat) (v : Value) (o : Nat) (S : Nat -> Prop) (w : World) (X : World -> α -> Prop) (r : PR α) (e : Ending) (w' : World) : Prop :=
  match r with
  | .ok x j => e = .returned (.tuple #[]) /\ X w' x /\ PSt w' p v l j o /\ Only S w w'
  | .err a c => e = Bad l a c /\ Only S w w'
theorem zdz{α:Type}{w:World}{p:Nat}{v:Value}{l:List Tok}{i o:Nat}(h:PSt w p v l i o)(O:PEnv l)(ho:o<=300)(s:List UInt8)(k:Nat)(g:Array Value)(S:Nat->Prop)(hS:S p)(X:World->α->Prop)(hX:∀W W' x,X W x->Turns p W W'->X W' x)(r:PR α)
  (hk:∀W,(callFunc k g).run Tryz.prog W=.ok (.enter k g) W)
  (hF:isS l i s=true->o<200->∀W,Turns p w W->PSt W p v l (i+1) (o+1)->Calls Tryz.prog k g W (OpE l p v (o+1) S W X r)) :
  Calls Tryz.prog 151 #[.pointer (some ⟨p,0,none⟩),.string (bstr s),.func (.func k) #[] g] w (OpE l p v o S w X ((zay l i s o).andThen fun _ _=>r)):=by
 have U:=zh (zbo h O s);have I:Hid (∀c w',Below w.heap.size w w'->_):=zh (fun(c:Int) (w':World) (hb:Below w.heap.size w w')=>zcl (h.below hb) O c);have H:=zh h;have HF:=zh hF;have hx:=O.good.is_next h.here (s:=s);have ab:=O.small;have hh:=h.here;have ag:(i:Int)<=16385:=by omega
 have af:(o:Int)<=300:=by omega
 clear ab hh h O hF;unfold zay
 generalize isS l i s=q at *
 cases q
 ·rw[yP rfl];go_enter Tryz.func151,Tryz.ntmps151
  go_wp2_with fail
  go_at_call 154;refine U.out.mono ?_;rintro e1 w1⟨rfl,d⟩;have f:=zh d;clear d;go_wp2_with fail
  go_at_call 90;refine(I.out 120 _ f.out).mono ?_;rintro e2 w2⟨y,u⟩;unfold Bad at y;subst y;have D:=zh (f.out.trans (u.mono f.out.size));clear u;go_wp2_with fail
  exact⟨rfl,rfl,Only.of_below D.out⟩
 ·rw[yN (by decide)];have hj:=hx rfl;by_cases M:200<=o
  ·rw[yP M];have L:(200:Int)<=o:=by omega
   go_enter Tryz.func151,Tryz.ntmps151
   go_wp2_with fail
   go_at_call 154;refine U.out.mono ?_;rintro e1 w1⟨rfl,d⟩;have f:=zh d;have Q:=zh (H.out.below d);clear d;have x2:=Q.out.blk.cell (i:=2) rfl;go_wp2_with fail
   go_at_call 90;refine(I.out 121 _ f.out).mono ?_;rintro e2 w2⟨y,u⟩;unfold Bad at y;subst y;have D:=zh (f.out.trans (u.mono f.out.size));clear u;go_wp2_with fail
   exact⟨rfl,rfl,Only.of_below D.out⟩
  ·rw[yN M];have L:¬(200:Int)<=o:=by omega
   have ac:(o:Int)<200:=by omega
   go_enter Tryz.func151,Tryz.ntmps151
   go_wp2_with fail
   go_at_call 154;refine U.out.mono ?_;rintro e1 w1⟨rfl,d⟩;have f:=zh d;have Q:=zh (H.out.below d);clear d;have x2:=Q.out.blk.cell (i:=2) rfl;have xf:=Q.out.blk.free;obtain⟨J,R,B,N⟩:∃J,J=w1.setCell ⟨p,2,none⟩ (.int .i64 ((o:Int)+1))/\PSt J p v l i (o+1)/\Turns p w J:=⟨_,rfl,Q.out.setO (o+1),(Turns.below f.out).set _ _⟩;have aa:=zh R;have Z:=zh N;have P:=zh (B.step hj);have y1:=B.blk.cell (i:=1) rfl;have yf:=B.blk.free;clear R B N;go_upto_region 5 with(fail)
   rw[<-aa.out];obtain⟨W3,E,G⟩:∃W3,W3=J.setCell ⟨p,1,none⟩ (.int .i64 ((i:Int)+1))/\Turns p w W3:=⟨_,rfl,Z.out.set _ _⟩;have V:=zh E;have C:=zh G;rw[<-E] at P;clear E G x2 xf;go_upto_region 6 with(fail)
   rw[<-V.out];clear y1 yf;have HC:=zh (HF.out (by trivial) (by omega) _ C.out P.out);go_wp2_with fail
   refine HC.out.mono ?_;intro e4 w4 m
   cases r with
   | err a c =>
    obtain⟨m,z⟩:=m;unfold Bad at m;subst m;have F:=zh z;clear z;go_wp2_with fail
    exact⟨rfl,rfl,(C.out.mono (fun k _ e=>by cases e;exact hS)).trans F.out⟩
   | ok x j =>
    obtain⟨rfl,K,A,z⟩:=m;have Y:=zh K;have T:=zh A;have F:=zh z;have z2:w4.cell? ⟨p,2,none⟩=some (.int .i64 ((o:Int)+1)):=A.blk.cell (i:=2) rfl;have zf:=A.blk.free;have ae:IntKind.i64.wrap ((o:Int)+1-1)=(o:Int):=by rw[IntWalk.i64_in _ (by omega)];omega
    have ad:IntKind.i64.wrap (o:Int)=(o:Int):=IntWalk.i64_in _ (by omega);clear K A z;go_wp2_with fail
    exact yE (results_none rfl _ _ _) rfl ⟨rfl,hX _ _ _ Y.out ((Turns.refl p _).set _ _),T.out.setO o,((C.out.mono (fun k _ e=>by cases e;exact hS)).trans F.out).setCell (.inr hS) _⟩
def lvl : Nat -> List (List UInt8 × Int)
  | 0 => [([124, 124], 22)]
  | 1 => [([38, 38], 21)]
  | 2 => [([60], 15), ([60, 61], 16), ([62], 17), ([62, 61], 18), ([61, 61], 19), ([33, 61], 20)]
  | 3 => [([43], 13), ([45], 14)]
  | 4 => [([42], 10), ([47], 11), ([37], 12)]
  | _ => []
def sgC (sg : List (List UInt8 × Int)) : List Value := sg.flatMap fun x => [.string (bstr x.1), .int .u8 x.2]
def SgV (w : World) (B : Nat) (sg : List (List UInt8 × Int)) (v : Value) : Prop := ∃ g, v = .slice (some ⟨g, 0, none⟩) sg.length sg.length /\ B <= g /\ OwnV w g 155 (sgC sg)
theorem SgV.only{S:Nat->Prop}{w w':World}{B:Nat}{sg:List (List UInt8 × Int)}{v:Value}(h:SgV w B sg v)(i:Only S w w')(hS:∀g,B<=g->¬S g):SgV w' B sg v:=by
 obtain⟨g,e,d,f⟩:=h;exact⟨g,e,d,i.own f (hS g d)⟩
theorem za6(w:World)(e:TypeId)(vs:List Value){k:Nat}(d:w.heap.size=k):OwnV (w.alloc (.cells vs.toArray e)) k e vs:=by
 subst d;exact OwnV.new _ _ _
theorem za7(w:World):Calls Tryz.prog 98 #[] w fun e w'=>e=.returned (.agg #[.slice (some ⟨w.heap.size+1,0,none⟩) 1 1,.slice (some ⟨w.heap.size+1+1,0,none⟩) 1 1,.slice (some ⟨w.heap.size+1+1+1,0,none⟩) 6 6,.slice (some ⟨w.heap.size+1+1+1+1,0,none⟩) 2 2,.slice (some ⟨w.heap.size+1+1+1+1+1,0,none⟩) 3 3])/\(∀n,n<5->OwnV w' (w.heap.size+1+n) 155 (sgC (lvl n)))/\Below w.heap.size w w':=by
 go_enter Tryz.func98,Tryz.ntmps98
 go_wp2;refine yE (v:=.agg #[.slice (some ⟨w.heap.size+1,0,none⟩) 1 1,.slice (some ⟨w.heap.size+1+1,0,none⟩) 1 1,.slice (some ⟨w.heap.size+1+1+1,0,none⟩) 6 6,.slice (some ⟨w.heap.size+1+1+1+1,0,none⟩) 2 2,.slice (some ⟨w.heap.size+1+1+1+1+1,0,none⟩) 3 3]) (by simp[results,Tryz.results98,go_sem]) rfl ⟨rfl,fun n hn=>?_,?_⟩
 ·have:n=0∨n=1∨n=2∨n=3∨n=4:=by omega
  rcases this with rfl|rfl|rfl|rfl|rfl
  ·exact((((za6 _ 155 (sgC (lvl 0)) (by simp)).alloc _).alloc _).alloc _).alloc _
  ·exact(((za6 _ 155 (sgC (lvl 1)) (by simp)).alloc _).alloc _).alloc _
  ·exact((za6 _ 155 (sgC (lvl 2)) (by simp)).alloc _).alloc _
  ·exact(za6 _ 155 (sgC (lvl 3)) (by simp)).alloc _
  ·exact za6 _ 155 (sgC (lvl 4)) (by simp)
 ·exact(((((((yR _ _).alloc (zr _) _).alloc (by simp) _).alloc (by simp;omega) _).alloc (by simp;omega) _).alloc (by simp;omega) _).alloc (by simp;omega) _)
theorem zj5{w:World}{p g:Nat}{v:Value}{l:List Tok}{i o:Nat}(h:PSt w p v l i o)(C:PEnv l)(B:OwnV w g 72 [.pointer (some ⟨p,0,none⟩)])(s:List UInt8)(op:Int) :
  Calls Tryz.prog 161 #[.agg #[.string (bstr s),.int .u8 op],.pointer (some ⟨g,0,none⟩)] w fun e w'=>e=.returned (.bool (isS l i s))/\Below w.heap.size w w':=by
 have y:Below w.heap.size w (w.alloc (.cells #[.string (bstr s),.int .u8 op] 155)):=(yR _ _).alloc (zr _) _;have D:Hid (∀w',Below w.heap.size w w'->_):=zh (fun(w':World) (y:Below w.heap.size w w')=>zbo (h.below y) C s);obtain⟨u,m,d,q⟩:∃u,u=w.alloc (.cells #[.string (bstr s),.int .u8 op] 155)/\Below w.heap.size w u/\OwnV u w.heap.size 155 [.string (bstr s),.int .u8 op]:=⟨_,rfl,y,OwnV.new _ _ _⟩;have F:=(B.below d (zr _)).cell (i:=0) rfl;have G:=q.cell (i:=0) rfl;have z:=zh m;have f:=zh d;clear m d q y h B C;go_enter Tryz.func161,Tryz.ntmps161
 go_upto_region 1 with(fail)
 rw[<-z.out];go_wp2_with fail
 go_at_call 154;refine(D.out _ f.out).mono ?_;rintro E w2⟨rfl,j⟩;have A:=zh (f.out.trans (j.mono f.out.size));clear j;go_wp2_with fail
 go_ret;exact⟨rfl,A.out⟩
def SgAt (l : List Tok) (i : Nat) (sg : List (List UInt8 × Int)) (r : Int) : Prop :=
  (∃ (k : Nat) (x : List UInt8 × Int), r = k /\ sg[k]? = some x /\ isS l i x.1 = true) ∨ (r = -1 /\ ∀ x ∈ sg, isS l i x.1 = false)
theorem zgm{w:World}{g:Nat}{sg:List (List UInt8 × Int)}(h:OwnV w g 155 (sgC sg)){k:Nat}(d:k<sg.length):w.cell? ⟨g,k*2,none⟩=some (.string (bstr sg[k].1))/\w.cell? ⟨g,k*2+1,none⟩=some (.int .u8 sg[k].2):=by
 have f:=zeW (fun x:List UInt8 × Int=>[Value.string (bstr x.1),Value.int .u8 x.2]) 2 (fun _=>rfl) sg k d 0 (by omega);have i:=zeW (fun x:List UInt8 × Int=>[Value.string (bstr x.1),Value.int .u8 x.2]) 2 (fun _=>rfl) sg k d 1 (by omega);exact⟨h.cell f,h.cell i⟩
theorem ziY{w:World}{p g:Nat}{v:Value}{l:List Tok}{i o:Nat}(h:PSt w p v l i o)(G:PEnv l)(C:OwnV w g 72 [.pointer (some ⟨p,0,none⟩)])(sg:List (List UInt8 × Int))(F:Nat)(D:OwnV w F 155 (sgC sg))(N:sg.length<=100) :
  Calls Tryz.prog 160 #[.slice (some ⟨F,0,none⟩) sg.length sg.length,.func (.func 161) #[] #[.pointer (some ⟨g,0,none⟩)]] w fun e w'=>(∃r:Int,e=.returned (.int .i64 r)/\SgAt l i sg r)/\Below w.heap.size w w':=by
 have I:Hid (∀w' s op,Below w.heap.size w w'->_):=zh (fun(w':World) (s:List UInt8) (op:Int) (E:Below w.heap.size w w')=>zj5 (h.below E) G (C.below E (zr _)) s op);have J:=zh D;clear h G C D;have K:(sg.length:Int)<=100:=by omega
 go_enter Tryz.func160,Tryz.ntmps160
 go_wp2_with fail
 go_loopw [4,5,8,9,10,11,12,13,14,15,16,17,18] (fun _ _ t8 _ _ _ _ _ _ _ _ _ _ wr=>∃k:Nat,k<=sg.length/\t8=.int .i64 k/\Hid (∀x∈sg.take k,isS l i x.1=false)/\Hid (Below w.heap.size w wr)) (fun _ _ t8 _ _ _ _ _ _ _ _ _ _ _=>sg.length-(intOf t8).toNat)
 case atStart=>exact⟨0,by omega,by first|rfl|go_num,zh (by simp),zh (yR _ _)⟩
 case round =>
  obtain⟨k,M,rfl,B,q⟩:=hrel;by_cases f:k<sg.length
  ·have A:(k:Int)<(sg.length:Int):=by omega
   obtain⟨O,P⟩:=zgm (J.out.below q.out (zr _)) f;have y:=zh (I.out wr sg[k].1 sg[k].2 q.out);have hx:sg[k]? = some sg[k]:=yD f;have L:=zh hx
   have u:Hid (isS l i sg[k].1=false->∀x∈sg.take (k+1),isS l i x.1=false):=zh (fun h0 x hx=>by
    rw[List.take_succ_eq_append_getElem f] at hx;rcases List.mem_append.1 hx with hx|hx
    ·exact B.out x hx
    ·rw[List.mem_singleton] at hx;rw[hx];exact h0)
   clear hx
   generalize hX:sg[k]=X at *
   cases hq:isS l i X.1 with
   | true =>
    rw[hq] at y;clear hX;go_wp2_with fail
    refine y.out.mono ?_;rintro H w2⟨rfl,d⟩;have m:=zh (q.out.trans (d.mono q.out.size));clear d;go_wp2_with fail
    go_ret
    exact⟨⟨k,rfl,.inl ⟨k,X,rfl,L.out,hq⟩⟩,m.out⟩
   | false =>
    rw[hq] at y;clear hX;have j:=zh (u.out hq);clear u;go_wp2_with fail
    refine y.out.mono ?_;rintro H w2⟨rfl,d⟩;have m:=zh (q.out.trans (d.mono q.out.size));clear d;go_wp2_with fail
    go_roundw
    case rel=>exact⟨k+1,by omega,by go_num,j,m⟩
    case measure=>simp[intOf];omega
  ·have A:¬(k:Int)<(sg.length:Int):=by omega
   have z:k=sg.length:=by omega
   have j:Hid (∀x∈sg,isS l i x.1=false):=zh (by have:=B.out;rw[z,List.take_length] at this;exact this);clear B;go_wp2_with fail
   go_ret;exact⟨⟨-1,rfl,.inr ⟨rfl,j.out⟩⟩,q.out⟩
end Go.Proofs.YtoaojdobjinhfaaGreatDoor
