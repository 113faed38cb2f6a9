/- A world that parts from another in some blocks alone, and in new ones. No program in it. -/
import Derived.Test.YtdeneckmoejcfaaRegionZs
import Derived.RangeFuncNested
import Derived.RangeFuncBound
import Derived.RangeFuncCalls
import Derived.RangeFuncLeaves
import Derived.OwnWalkIn
import Derived.TacticsInMore
import Derived.LoopNIn
import Derived.LoopIn
import Derived.OrdersIn
set_option linter.unusedSimpArgs false
set_option linter.unusedVariables false
namespace Go.Proofs.Ytdeneckmoejcfaa
open Go.RowKit

def DrewOf (w w' : World) : Prop := ∃ n, w' = w.drewN n
theorem DrewOf.start (w:World):DrewOf w w.drew:=⟨1,rfl⟩
theorem Below.drewN {B:Nat} {a b:World} (h:Below B a b) (n:Nat):Below B a (b.drewN n):=h.trans (b:=b) (c:=b.drewN n) ⟨rfl,rfl,rfl,zr _,fun _ _=>rfl⟩
structure Only (S : Nat -> Prop) (w w' : World) : Prop where
  os : w'.os = w.os
  tape : w'.tape = w.tape
  output : w'.output = w.output
  size : w.heap.size <= w'.heap.size
  block : ∀ k, k < w.heap.size -> ¬ S k -> w'.heap[k]? = w.heap[k]?
theorem Only.refl (S:Nat->Prop) (w:World):Only S w w:=⟨rfl,rfl,rfl,zr _,fun _ _ _=>rfl⟩
theorem Only.trans {S:Nat->Prop} {a b c:World} (h:Only S a b) (k:Only S b c):Only S a c:=
 ⟨k.os.trans h.os,k.tape.trans h.tape,k.output.trans h.output,yT h.size k.size,fun i hi hs=>(k.block i (Nat.lt_of_lt_of_le hi h.size) hs).trans (h.block i hi hs)⟩
theorem Only.mono {S T:Nat->Prop} {a b:World} (h:Only S a b) (hS:∀ k,k < a.heap.size->S k->T k):Only T a b:=
 ⟨h.os,h.tape,h.output,h.size,fun i hi hs=>h.block i hi fun hk=>hs (hS i hi hk)⟩
theorem Only.drewN {S:Nat->Prop} {a b:World} (h:Only S a b) (n:Nat):Only S a (b.drewN n):=⟨h.os,h.tape,h.output,h.size,h.block⟩
theorem Only.drew {S:Nat->Prop} {a b:World} (h:Only S a b):Only S a b.drew:=⟨h.os,h.tape,h.output,h.size,h.block⟩
theorem Only.of_below {S:Nat->Prop} {w w':World} (h:Below w.heap.size w w'):Only S w w':=⟨h.os,h.tape,h.output,h.size,fun k hk _=>h.block k hk⟩
theorem Only.setCell {S:Nat->Prop} {a b:World} (h:Only S a b) {p:Addr} (hp:a.heap.size<=p.block∨S p.block) (u:Value):Only S a (b.setCell p u):=by
 refine ⟨h.os,h.tape,h.output,?_,fun k hk hs=>?_⟩
 ·have:=((yR 0 b).setCell (p:=p) (Nat.zero_le _) u).size;exact yT h.size this
 ·rw [Below.heap_setCell b p u k (fun e=>by subst e;rcases hp with hp | hp;omega;exact hs hp)];exact h.block k hk hs
theorem Only.setIn {S:Nat->Prop} {a b:World} (h:Only S a b) {g o:Nat} (hg:S g) (u:Value):Only S a (b.setCell ⟨g,o,none⟩ u):=h.setCell (.inr hg) u
theorem Only.alloc {S:Nat->Prop} {a b:World} (h:Only S a b) (o:Obj):Only S a (b.alloc o):=by
 refine ⟨h.os,h.tape,h.output,?_,fun k hk hs=>?_⟩
 ·have:=h.size;simp;omega
 ·rw [Below.heap_alloc b o k (Nat.lt_of_lt_of_le hk h.size)];exact h.block k hk hs
theorem Only.of_grown {S:Nat->Prop} {a b:World} {row:Option Nat} (h:a.grownBy b row) (hr:∀ g,row=some g->S g):Only S a b:=
 ⟨h.os,h.tape,h.output,h.size,fun k hk hs=>h.block k hk fun e=>hs (hr k e.symm)⟩
theorem Only.below {S:Nat->Prop} {w w':World} (h:Only S w w') {B:Nat} (hS:∀ k,S k->B<=k) (hB:B<=w.heap.size):Below B w w':=
 ⟨h.os,h.tape,h.output,h.size,fun k hk=>h.block k (by omega) fun hs=>by have:=hS k hs;omega⟩
theorem Only.own {S:Nat->Prop} {w w':World} (h:Only S w w') {g:Nat} {e:TypeId} {vs:List Value} (ho:OwnV w g e vs) (hn:¬ S g):OwnV w' g e vs:=by
 have hl:=ho.lt
 unfold OwnV at *
 rw [h.block g hl hn];exact ho
theorem Only.row {S:Nat->Prop} {w w':World} (h:Only S w w') {base:Nat} {e:TypeId} {sz:Nat} {v:Value} {n:Nat} {xs:List Value} (ho:w.ownsRow base e sz v n xs) (hn:∀ g,v.ownBlock=some g->¬ S g):w'.ownsRow base e sz v n xs:=by
 obtain ⟨h1,h2⟩:=ho;refine ⟨h1,?_⟩;rcases h2 with h2 | ⟨g,cap,cur,rfl,hg,hh,rest⟩
 ·exact .inl h2
 ·exact .inr ⟨g,cap,cur,rfl,hg,by rw [h.block g (lt_of_block hh) (hn g rfl)];exact hh,rest⟩
theorem Only.cell {S:Nat->Prop} {w w':World} (h:Only S w w') {p:Addr} {v:Value} (hv:w.cell? p=some v) (hn:¬ S p.block):w'.cell? p=some v:=by
 rw [World.cell?_of_block (w:=w) (h.block p.block (World.block_lt_of_cell? w _ hv) hn)];exact hv
theorem Only.sl {S:Nat->Prop} {w w':World} (h:Only S w w') {sz n:Nat} {cs:List Value} {v:Value} (hs:Sl w sz n cs v) (hn:n=0∨∀ g,v.ownBlock=some g->¬ S g):Sl w' sz n cs v:=by
 obtain ⟨a,cap,rfl,h2,h3,h4,h5⟩:=hs;refine ⟨a,cap,rfl,h2,h3,h4,fun hp=>?_⟩;obtain ⟨b,off,rfl,hc⟩:=h5 hp;refine ⟨b,off,rfl,fun j hj=>?_⟩;have h1:cs[j]? = some (cs[j]'(by rw [h4];exact hj)):=yD _;rw [h1];refine h.cell ((hc j hj).trans h1) ?_;rcases hn with rfl | hn
 ·omega
 ·exact hn b rfl
theorem Only.grown {S:Nat->Prop} {a b c:World} (h:Only S a b) {row:Option Nat} (hg:b.grownBy c row) (hr:∀ r,row=some r->a.heap.size<=r):Only S a c:=by
 refine ⟨hg.os.trans h.os,hg.tape.trans h.tape,hg.output.trans h.output,yT h.size hg.size,fun k hk hs=>?_⟩;rw [hg.block k (Nat.lt_of_lt_of_le hk h.size) (fun e=>by have:=hr k e.symm;omega)];exact h.block k hk hs
theorem Only.transNew {S T:Nat->Prop} {a b c:World} (h:Only S a b) (k:Only T b c) (hT:∀ i,T i->S i∨a.heap.size<=i):Only S a c:=
 ⟨k.os.trans h.os,k.tape.trans h.tape,k.output.trans h.output,yT h.size k.size,fun i hi hs=>(k.block i (Nat.lt_of_lt_of_le hi h.size) (fun ht=>by rcases hT i ht with h1 | h1;exact hs h1;omega)).trans (h.block i hi hs)⟩
theorem OwnV.drewN {w:World} {g:Nat} {e:TypeId} {vs:List Value} (h:OwnV w g e vs) (n:Nat):OwnV (w.drewN n) g e vs:=h
theorem OwnV.drew {w:World} {g:Nat} {e:TypeId} {vs:List Value} (h:OwnV w g e vs):OwnV w.drew g e vs:=h
theorem OwnV.newAt {w:World} {g:Nat} (hg:g=w.heap.size) (e:TypeId) (vs:List Value):OwnV (w.alloc (.cells vs.toArray e)) g e vs:=by subst hg;exact OwnV.new w e vs
theorem OwnV.set_ne {w:World} {g:Nat} {e:TypeId} {vs:List Value} (h:OwnV w g e vs) {b o:Nat} (hne:g≠b) (v:Value):OwnV (w.setCell ⟨b,o,none⟩ v) g e vs:=by
 unfold OwnV at *
 rw [Below.heap_setCell w ⟨b,o,none⟩ v g hne];exact h
section
variable {P : Program} {ops : Array Oper} {a0 A : Act} {E : World -> Prop} {Q : Exit -> Act -> World -> Prop}
end
theorem zge {S:Nat->Prop} {W W':World} (h:Only S W W') (hS:∀ k,S k->∃ e vs,OwnV W k e vs) (B:Nat):KeepsFrom B W W':=by
 refine ⟨h.size,fun k o _ hk ho=>?_⟩;rw [h.block k (lt_of_block hk) (fun hs=>?_)]
 ·exact hk
 ·obtain ⟨e,vs,hv⟩:=hS k hs;unfold OwnV at hv;rw [hv] at hk;cases hk;cases ho
def Stays {β : Type} (B : Nat) (I : β -> World -> Prop) : Prop := ∀ s W W' row, I s W -> W.grownBy W' row -> (∀ r, row = some r -> B <= r) -> I s W'
theorem Stays.ownFrom {β:Type} {B:Nat} {I:β->World->Prop} (h:Stays B I):OwnFrom B I:=fun s W W' row hs hg hr=>h s W W' row hs hg fun r e=>(hr r e).1
def zqG {α : Type} (P : Program) (g : Nat) (lb : Array Value) (encs : α -> Array Value) (Kp : World -> World -> Prop) (S Sp : List α -> Prop) (w : World) : Prop :=
  ∀ (l : Nat) (J Jx : List α -> World -> Prop) (W : World), Below w.heap.size w W -> Stays W.heap.size J -> Stays W.heap.size Jx ->
    (∀ pre x W1, J pre W1 -> YieldAt Fence.wide 4 P l (encs x) W1 fun e W' => (e = .returned (.bool true) /\ J (pre ++ [x]) W' /\ Kp W1 W') ∨ (e = .returned (.bool false) /\ Jx (pre ++ [x]) W')) ->
    J [] W -> CallsIn Fence.wide 5 P g (#[.func (.yield l) #[] #[]] ++ lb) W fun e W' => (∃ v, e = .returned v) /\ ((∃ xs, S xs /\ J xs W') ∨ (∃ pre, Sp pre /\ Jx pre W'))
theorem zn1 {W' W:World} {B k:Nat} {o:Obj} {row:Option Nat} (h:W.heap[k]? = some o) (hg:W.grownBy W' row) (hr:∀ r,row=some r->B<=r) (hk:k < B):W'.heap[k]? = some o:=by
 rw [hg.block k (lt_of_block h) (fun e=>by have:=hr k e.symm;omega)];exact h
theorem zpP {P:Program} {α:Type} {g:Operand} {ps:Array Tmp} {assign body:Code} {Q:Exit->Act->World->Prop} {a:Act} {w:World} {gf:Nat} {lb:Array Value}
  (hg:a.eval g=.func (.func gf) #[] lb) (eg:∀ args w,(callFunc gf args).run P w=.ok (.enter gf args) w)
  {encs:α->Array Value} (hps:∀ x,(encs x).size=ps.size) {Kp:World->World->Prop} {S Sp:List α->Prop} (hseq:zqG P gf lb encs Kp S Sp w)
  (hKt:∀ {A B C:World},Kp A B->Kp B C->Kp A C) (hKb:∀ (W:World) (l:Nat) (o o':Obj),W.heap[l]? = some o->o.isCells=false->Kp W (W.putObj l o'))
  (I:List α->World->Prop) (Ix:Code->List α->World->Prop) (hI:Stays w.heap.size I) (hIx:∀ c,Stays w.heap.size (Ix c)) (h0:I [] w)
  (Ax:α->Act->World->Prop) (hAx:∀ x a',OwnFrom w.heap.size (fun (_:Unit) W=>Ax x a' W))
  (hassign:∀ (l:Nat) (pre:List α) (x:α) (W:World) (K:Act->World->Prop),I pre W->(∀ a' W',KeepsFrom w.heap.size W W'->Kp W W'->I pre W'->Ax x a' W'->K a' W') ->
   assign.wpIn (Fence.wide.inRound l) 4 P (Exit.then K (fun _ _ _=>False)) { tmps:=(ps.zip (encs x)).foldl (fun t (p,v)=>t.setIfInBounds p v) a.tmps,defers:=[] } W)
  (hbody:∀ (l:Nat) (pre:List α) (x:α) (a':Act) (W:World),I pre W->Ax x a' W->body.wpIn (Fence.wide.inRound l) 4 P (ownPostG w.heap.size Kp I Ix (pre++[x]) W) a' W)
  (hdone:∀ (D:Nat) (xs:List α) (W:World),w.heap.size<=D->S xs->I xs W->W.heap[D]? = some (.deferred (some []))->Q .normal { a with defers:={ target:=.collected D,args:=#[] } :: a.defers } W)
  (hstop:∀ (D:Nat) (c:Code) (pre:List α) (W:World),w.heap.size<=D->Sp pre->Ix c pre W->W.heap[D]? = some (.deferred (some []))->c.wp P Q { a with defers:={ target:=.collected D,args:=#[] } :: a.defers } W) :
  (Code.rangeFunc g ps assign body).wp P Q a w:=by
 refine (wpIn_wide (n:=6)).1 (wpIn_rangeFunc ?_);intro fn hfn;let rec_:LoopState->Option Code->Loop:=fun st pe=>{ state:=st,pending:=pe,fn,tmps:=a.tmps,params:=ps,assign,body,defers:=w.heap.size }
 obtain ⟨R,hR⟩:∃ R,R=rec_:=⟨_,rfl⟩
 -- the two blocks of book-keeping
 obtain ⟨W1,hW1⟩:∃ W1,W1=(w.alloc (.deferred (some []))).alloc (.loop (R .ready none)):=⟨_,rfl⟩;have sz:W1.heap.size=w.heap.size+2:=by rw [hW1];simp
 have bD:W1.heap[w.heap.size]? = some (.deferred (some [])):=by rw [hW1,Below.heap_alloc _ _ _ (by simp)];exact World.alloc_heap_new w _
 have bL:W1.heap[w.heap.size+1]? = some (.loop (R .ready none)):=by
  have:=World.alloc_heap_new (w.alloc (.deferred (some []))) (.loop (R .ready none));rw [World.size_alloc] at this;rw [hW1];exact this
 have hb1:Below w.heap.size w W1:=by rw [hW1];exact ((yR _ w).alloc (zr _) _).alloc (by simp) _
 have hI1:I [] W1:=by
  rw [hW1];exact hI _ _ _ none (hI _ _ _ none h0 (World.grownBy_alloc w _ none) (fun r e=>by cases e)) (World.grownBy_alloc _ _ none) (fun r e=>by cases e)
 let J:List α->World->Prop:=fun pre W=>I pre W/\W.heap[w.heap.size+1]? = some (.loop (R .ready none))/\W.heap[w.heap.size]? = some (.deferred (some []))
 let Jx:List α->World->Prop:=fun pre W=>∃ c,Ix c pre W/\W.heap[w.heap.size+1]? = some (.loop (R .done (some c)))/\W.heap[w.heap.size]? = some (.deferred (some []))
 have hJ:Stays W1.heap.size J:=fun s A B row ⟨h1,h2,h3⟩ hgr hr =>
  ⟨hI s A B row h1 hgr fun r e=>by have:=hr r e;omega,zn1 h2 hgr hr (by omega),zn1 h3 hgr hr (by omega)⟩
 have hJx:Stays W1.heap.size Jx:=fun s A B row ⟨c,h1,h2,h3⟩ hgr hr =>
  ⟨c,hIx c s A B row h1 hgr fun r e=>by have:=hr r e;omega,zn1 h2 hgr hr (by omega),zn1 h3 hgr hr (by omega)⟩
 have put:∀ {β:Type} {X:β->World->Prop} {s:β} {W:World} {o o':Obj},OwnFrom w.heap.size X->X s W->W.heap[w.heap.size+1]? = some o->o.isCells=false->X s (W.putObj (w.heap.size+1) o'):=fun hX hx ho hc=>hX.putObj _ hx (by omega) ho hc
 have round:∀ pre x W,J pre W->YieldAt Fence.wide 4 P (w.heap.size+1) (encs x) W fun e W'=>(e=.returned (.bool true)/\J (pre++[x]) W'/\Kp W W')∨(e=.returned (.bool false)/\Jx (pre++[x]) W'):=by
  rintro pre x W ⟨hi,hl,hk⟩;have hy:=run_yield (P:=P) (args:=encs x) hl (by rw [hR];exact hps x);rw [hR] at hy;refine ⟨fn,_,assign,body,hy,roundIn_of_wpIn hfn (hassign _ pre x W _ hi fun a' Wa hka hkp hia hax=>?_)⟩;have hl1:=hka.same _ _ (by omega) hl rfl;have hk1:=hka.same _ _ (zr _) hk rfl;refine ⟨_,run_beginRound hl1 (by rw [hR]),?_⟩;obtain ⟨W2,hW2⟩:∃ W2,W2=Wa.putObj (w.heap.size+1) (.loop { R .ready none with state:=.busy }):=⟨_,rfl⟩;have hl2:W2.heap[w.heap.size+1]? = some (.loop { R .ready none with state:=.busy }):=by rw [hW2];exact World.putObj_heap_same (lt_of_block hl1)
  have hk2:W2.heap[w.heap.size]? = some (.deferred (some [])):=by rw [hW2];exact (World.putObj_heap_other (by omega)).trans hk1
  have hp2:Kp Wa W2:=by rw [hW2];exact hKb _ _ _ _ hl1 rfl
  have hi2:I pre W2:=by rw [hW2];exact put hI.ownFrom hia hl1 rfl
  have ha2:Ax x a' W2:=by rw [hW2];exact put (s:=()) (hAx x a') hax hl1 rfl
  rw [<- hW2];refine wpIn_mono (hbody _ pre x a' W2 hi2 ha2) ?_
  have fin:∀ (jump:Option Code) (W3:World),KeepsFrom w.heap.size W2 W3->∃ W4,W4=W3.putObj (w.heap.size+1) (.loop (R (if jump.isNone then .ready else .done) jump))/\(Instr.endRound (w.heap.size+1) jump).run P W3=.ok (.bool jump.isNone) W4 /\
    W3.heap[w.heap.size+1]? = some (.loop { R .ready none with state:=.busy })/\W4.heap[w.heap.size+1]? = some (.loop (R (if jump.isNone then .ready else .done) jump))/\W4.heap[w.heap.size]? = some (.deferred (some [])):=by
   intro jump W3 hk3;have hl3:=hk3.same _ _ (by omega) hl2 rfl;have hrun:=run_endRound (P:=P) jump hl3;refine ⟨_,rfl,?_,hl3,World.putObj_heap_same (lt_of_block hl3),(World.putObj_heap_other (by omega)).trans (hk3.same _ _ (zr _) hk2 rfl)⟩;rw [hR] at hrun ⊢;exact hrun
  intro e a3 W3 hp
  cases e with
  | normal =>
   obtain ⟨h1,h2,h3⟩:=hp;obtain ⟨W4,e4,hr,hl3,hl4,hk4⟩:=fin none W3 h1
   exact ⟨_,W4,hr,.inl ⟨rfl,⟨by rw [e4];exact put hI.ownFrom h3 hl3 rfl,hl4,hk4⟩,hKt hkp (hKt (hKt hp2 h2) (by rw [e4];exact hKb _ _ _ _ hl3 rfl))⟩⟩
  | ret =>
   obtain ⟨h1,h2⟩:=hp;obtain ⟨W4,e4,hr,hl3,hl4,hk4⟩:=fin (some .ret) W3 h1
   exact ⟨_,W4,hr,.inr ⟨rfl,.ret,by rw [e4];exact put (hIx _).ownFrom h2 hl3 rfl,hl4,hk4⟩⟩
  | exit id =>
   obtain ⟨h1,h2⟩:=hp;obtain ⟨W4,e4,hr,hl3,hl4,hk4⟩:=fin (some (.exit id)) W3 h1
   exact ⟨_,W4,hr,.inr ⟨rfl,.exit id,by rw [e4];exact put (hIx _).ownFrom h2 hl3 rfl,hl4,hk4⟩⟩
  | goto t =>
   obtain ⟨h1,h2⟩:=hp;obtain ⟨W4,e4,hr,hl3,hl4,hk4⟩:=fin (some (.goto t)) W3 h1
   exact ⟨_,W4,hr,.inr ⟨rfl,.goto t,by rw [e4];exact put (hIx _).ownFrom h2 hl3 rfl,hl4,hk4⟩⟩
  | panic ch=>exact hp.elim
  | outgrown=>exact hp.elim
 have hcall:=hseq (w.heap.size+1) J Jx W1 hb1 hJ hJx round ⟨hI1,bL,bD⟩;refine ⟨w.heap.size+1,[{ target:=.collected w.heap.size,args:=#[] }],W1,{ target:=.fn (.func gf) lb,args:=#[.func (.yield (w.heap.size+1)) #[] #[]] },W1,gf,#[.func (.yield (w.heap.size+1)) #[] #[]]++lb,W1,?_,?_,fun _ _=>trivial,?_,(fun _=>by omega),?_⟩
 ·rw [hW1,hR];exact run_enterLoop_outer _ _ _ _ _
 ·simp only [resolve,hg];simp [go_sem]
 ·simp [invoke,go_sem,eg]
 ·refine hcall.mono ?_;rintro e W2 ⟨⟨v,rfl⟩,(⟨xs,hS,hi,hl,hk⟩ | ⟨pre,hSp,c,hi,hl,hk⟩)⟩
  ·refine ⟨none,_,by have:=run_endLoop (P:=P) hl (by rw [hR];simp [rec_]);rw [hR] at this;exact this,?_⟩;exact hdone _ xs _ (zr _) hS (put hI.ownFrom hi hl rfl) ((World.putObj_heap_other (by omega)).trans hk)
  ·refine ⟨some c,_,by have:=run_endLoop (P:=P) hl (by rw [hR];simp [rec_]);rw [hR] at this;exact this,?_⟩;exact wpIn_wide.2 (hstop _ c pre _ (zr _) hSp (put (hIx c).ownFrom hi hl rfl) ((World.putObj_heap_other (by omega)).trans hk))
end Go.Proofs.Ytdeneckmoejcfaa
