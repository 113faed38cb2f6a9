/- A world that parts from another in some blocks alone, and in new ones. No program in it. -/
import Derived.Test.YtdhikpkecmaplaaGreatDoorRegionMk
import Derived.RangeFuncNested
import Derived.RangeFuncBound
import Derived.RangeFuncCalls
import Derived.RangeFuncLeaves
import Derived.OwnWalkIn
import Derived.TacticsInMore
import Derived.LoopNIn
import Derived.LoopIn
import Derived.OrdersIn
set_option linter.unusedSimpArgs false
set_option linter.unusedVariables false
namespace Go.Proofs.YtdhikpkecmaplaaGreatDoor
open Go.RowKit

def DrewOf (w w' : World) : Prop := ∃ n, w' = w.drewN n
theorem DrewOf.start (w:World):DrewOf w w.drew:=⟨1,rfl⟩
theorem Below.drewN {B:Nat} {a b:World} (h:Below B a b) (n:Nat):Below B a (b.drewN n):=h.trans (b:=b) (c:=b.drewN n) ⟨rfl,rfl,rfl,zr _,fun _ _=>rfl⟩
structure Only (S : Nat -> Prop) (w w' : World) : Prop where
  os : w'.os = w.os
  tape : w'.tape = w.tape
  output : w'.output = w.output
  size : w.heap.size <= w'.heap.size
  block : ∀ k, k < w.heap.size -> ¬ S k -> w'.heap[k]? = w.heap[k]?
theorem Only.refl (S:Nat->Prop) (w:World):Only S w w:=⟨rfl,rfl,rfl,zr _,fun _ _ _=>rfl⟩
theorem Only.trans {S:Nat->Prop} {a b c:World} (h:Only S a b) (k:Only S b c):Only S a c:=
 ⟨k.os.trans h.os,k.tape.trans h.tape,k.output.trans h.output,yT h.size k.size,fun i hi hs=>(k.block i (Nat.lt_of_lt_of_le hi h.size) hs).trans (h.block i hi hs)⟩
theorem Only.mono {S T:Nat->Prop} {a b:World} (h:Only S a b) (hS:∀ k,k < a.heap.size->S k->T k):Only T a b:=
 ⟨h.os,h.tape,h.output,h.size,fun i hi hs=>h.block i hi fun hk=>hs (hS i hi hk)⟩
theorem Only.drewN {S:Nat->Prop} {a b:World} (h:Only S a b) (n:Nat):Only S a (b.drewN n):=⟨h.os,h.tape,h.output,h.size,h.block⟩
theorem Only.drew {S:Nat->Prop} {a b:World} (h:Only S a b):Only S a b.drew:=⟨h.os,h.tape,h.output,h.size,h.block⟩
theorem Only.of_below {S:Nat->Prop} {w w':World} (h:Below w.heap.size w w'):Only S w w':=⟨h.os,h.tape,h.output,h.size,fun k hk _=>h.block k hk⟩
theorem Only.setCell {S:Nat->Prop} {a b:World} (h:Only S a b) {p:Addr} (hp:a.heap.size<=p.block∨S p.block) (u:Value):Only S a (b.setCell p u):=by
 refine ⟨h.os,h.tape,h.output,?_,fun k hk hs=>?_⟩
 ·have:=((yR 0 b).setCell (p:=p) (Nat.zero_le _) u).size;exact yT h.size this
 ·rw [Below.heap_setCell b p u k (fun e=>by subst e;rcases hp with hp | hp;omega;exact hs hp)];exact h.block k hk hs
theorem Only.setNew {S:Nat->Prop} {a b:World} (h:Only S a b) {g o:Nat} (hg:a.heap.size<=g) (u:Value):Only S a (b.setCell ⟨g,o,none⟩ u):=h.setCell (.inl hg) u
theorem Only.setIn {S:Nat->Prop} {a b:World} (h:Only S a b) {g o:Nat} (hg:S g) (u:Value):Only S a (b.setCell ⟨g,o,none⟩ u):=h.setCell (.inr hg) u
theorem Only.alloc {S:Nat->Prop} {a b:World} (h:Only S a b) (o:Obj):Only S a (b.alloc o):=by
 refine ⟨h.os,h.tape,h.output,?_,fun k hk hs=>?_⟩
 ·have:=h.size;simp;omega
 ·rw [Below.heap_alloc b o k (Nat.lt_of_lt_of_le hk h.size)];exact h.block k hk hs
theorem Only.of_grown {S:Nat->Prop} {a b:World} {row:Option Nat} (h:a.grownBy b row) (hr:∀ g,row=some g->S g):Only S a b:=
 ⟨h.os,h.tape,h.output,h.size,fun k hk hs=>h.block k hk fun e=>hs (hr k e.symm)⟩
theorem Only.below {S:Nat->Prop} {w w':World} (h:Only S w w') {B:Nat} (hS:∀ k,S k->B<=k) (hB:B<=w.heap.size):Below B w w':=
 ⟨h.os,h.tape,h.output,h.size,fun k hk=>h.block k (by omega) fun hs=>by have:=hS k hs;omega⟩
theorem Only.own {S:Nat->Prop} {w w':World} (h:Only S w w') {g:Nat} {e:TypeId} {vs:List Value} (ho:OwnV w g e vs) (hn:¬ S g):OwnV w' g e vs:=by
 have hl:=ho.lt
 unfold OwnV at *
 rw [h.block g hl hn];exact ho
theorem Only.row {S:Nat->Prop} {w w':World} (h:Only S w w') {base:Nat} {e:TypeId} {sz:Nat} {v:Value} {n:Nat} {xs:List Value} (ho:w.ownsRow base e sz v n xs) (hn:∀ g,v.ownBlock=some g->¬ S g):w'.ownsRow base e sz v n xs:=by
 obtain ⟨h1,h2⟩:=ho;refine ⟨h1,?_⟩;rcases h2 with h2 | ⟨g,cap,cur,rfl,hg,hh,rest⟩
 ·exact .inl h2
 ·exact .inr ⟨g,cap,cur,rfl,hg,by rw [h.block g (lt_of_block hh) (hn g rfl)];exact hh,rest⟩
theorem Only.cell {S:Nat->Prop} {w w':World} (h:Only S w w') {p:Addr} {v:Value} (hv:w.cell? p=some v) (hn:¬ S p.block):w'.cell? p=some v:=by
 rw [World.cell?_of_block (w:=w) (h.block p.block (World.block_lt_of_cell? w _ hv) hn)];exact hv
theorem Only.sl {S:Nat->Prop} {w w':World} (h:Only S w w') {sz n:Nat} {cs:List Value} {v:Value} (hs:Sl w sz n cs v) (hn:n=0∨∀ g,v.ownBlock=some g->¬ S g):Sl w' sz n cs v:=by
 obtain ⟨a,cap,rfl,h2,h3,h4,h5⟩:=hs;refine ⟨a,cap,rfl,h2,h3,h4,fun hp=>?_⟩;obtain ⟨b,off,rfl,hc⟩:=h5 hp;refine ⟨b,off,rfl,fun j hj=>?_⟩;have h1:cs[j]? = some (cs[j]'(by rw [h4];exact hj)):=yD _;rw [h1];refine h.cell ((hc j hj).trans h1) ?_;rcases hn with rfl | hn
 ·omega
 ·exact hn b rfl
theorem Only.grown {S:Nat->Prop} {a b c:World} (h:Only S a b) {row:Option Nat} (hg:b.grownBy c row) (hr:∀ r,row=some r->a.heap.size<=r):Only S a c:=by
 refine ⟨hg.os.trans h.os,hg.tape.trans h.tape,hg.output.trans h.output,yT h.size hg.size,fun k hk hs=>?_⟩;rw [hg.block k (Nat.lt_of_lt_of_le hk h.size) (fun e=>by have:=hr k e.symm;omega)];exact h.block k hk hs
theorem Only.transNew {S T:Nat->Prop} {a b c:World} (h:Only S a b) (k:Only T b c) (hT:∀ i,T i->S i∨a.heap.size<=i):Only S a c:=
 ⟨k.os.trans h.os,k.tape.trans h.tape,k.output.trans h.output,yT h.size k.size,fun i hi hs=>(k.block i (Nat.lt_of_lt_of_le hi h.size) (fun ht=>by rcases hT i ht with h1 | h1;exact hs h1;omega)).trans (h.block i hi hs)⟩
theorem OwnV.drewN {w:World} {g:Nat} {e:TypeId} {vs:List Value} (h:OwnV w g e vs) (n:Nat):OwnV (w.drewN n) g e vs:=h
theorem OwnV.drew {w:World} {g:Nat} {e:TypeId} {vs:List Value} (h:OwnV w g e vs):OwnV w.drew g e vs:=h
theorem OwnV.newAt {w:World} {g:Nat} (hg:g=w.heap.size) (e:TypeId) (vs:List Value):OwnV (w.alloc (.cells vs.toArray e)) g e vs:=by subst hg;exact OwnV.new w e vs
theorem OwnV.set_ne {w:World} {g:Nat} {e:TypeId} {vs:List Value} (h:OwnV w g e vs) {b o:Nat} (hne:g≠b) (v:Value):OwnV (w.setCell ⟨b,o,none⟩ v) g e vs:=by
 unfold OwnV at *
 rw [Below.heap_setCell w ⟨b,o,none⟩ v g hne];exact h
def zek (ops : Array Oper) : Bool := ops.all fun o => match o.op with | .defer .. => false | _ => true
theorem zh9 {ops:Array Oper} (h:zek ops=true) {i:Nat} {o:Oper} (ho:ops[i]? = some o) (c:Call):o.op≠.defer c:=by
 unfold zek at h;rw [Array.all_eq_true_iff_forall_mem] at h;have:=h o (Array.mem_of_getElem? ho);intro e;rw [e] at this;cases this
theorem zlh {P:Program} {lp n:Nat} {row:String} {args:Array Value} {w:World} {R:Value->World->Prop} (h:Rows P row args w R):RowsIn (Fence.wide.inRound lp) n P row args w R:=by
 intro c cs _;obtain ⟨v,w',r,s⟩:=h c cs;exact ⟨v,w',r,stepsIn_wide.2 s⟩
section
variable {P : Program} {ops : Array Oper} {a0 A : Act} {E : World -> Prop} {Q : Exit -> Act -> World -> Prop}
theorem ziV {lp n:Nat} (hdep:zbJ ops=true) (hsel:Region.noSelect ops=true) (hA0:∀ t,(∀ (j:Nat) (o:Oper),ops[j]? = some o->o.dst≠some t)->a0.tmps[t]? = A.tmps[t]?)
  (hs:stepsOk P ops A E ops.toList) (hfin:∀ w,E w->Q .normal A w) (hahead:zba ops=true) (hnd:zek ops=true) :
  ∀ (fuel:Nat) (listed:Array Bool) (a:Act) (w:World),listed.size=ops.size->(listed.toList.count false<=fuel)->InvJ ops a0 A E listed a w->wpAnyIn (Fence.wide.inRound lp) n P .any ops Q fuel listed a w:=by
 have fin:∀ (listed:Array Bool) (a:Act) (w:World),listed.size=ops.size->InvJ ops a0 A E listed a w->Region.ready .any ops listed=[]->Q .normal a w:=by
  intro listed a w hls J hr;have hall:=zcU hahead listed hls hr
  have:a=A:=by
   have ht:a.tmps=A.tmps:=by
    apply Array.ext_getElem?;intro t;by_cases hw:∃ (j:Nat) (p:Oper),ops[j]? = some p/\p.dst=some t
    ·obtain ⟨j,p,hp,hd⟩:=hw;exact J.done t ⟨j,p,hp,hd,hall j (Array.getElem?_eq_some_iff.1 hp).1⟩
    ·rw [J.left t fun ⟨j,p,hp,hd,_⟩=>hw ⟨j,p,hp,hd⟩];exact hA0 t fun j p hp hd=>hw ⟨j,p,hp,hd⟩
   cases a;cases A;have:=J.defers;simp_all
  rw [this];exact hfin w J.world
 intro fuel
 induction fuel with
 | zero =>
  intro listed a w hls hc J
  have hr:Region.ready .any ops listed=[]:=by
   rw [List.eq_nil_iff_forall_not_mem];intro i hi;obtain ⟨hf,_⟩:=mem_ready.1 hi
   have hlt:i < listed.size:=by
    rcases Nat.lt_or_ge i listed.size with h | h
    ·exact h
    ·simp [Array.getElem?_eq_none h] at hf
   have h0:listed.toList.count false=0:=by omega
   rw [List.count_eq_zero] at h0;apply h0;have:listed[i]=false:=by simpa [hlt] using hf
   rw [<- this];simp
  exact ⟨hr,fin listed a w hls J hr⟩
 | succ fuel ih =>
  intro listed a w hls hc J;refine ⟨fin listed a w hls J,fun i hi=>?_⟩;obtain ⟨hf,o,ho,hall⟩:=mem_ready.1 hi;have hlt:i < listed.size:=by rw [hls];exact (Array.getElem?_eq_some_iff.1 ho).1
  have hcount:(listed.setIfInBounds i true).toList.count false<=fuel:=by
   have e1:listed[i]=false:=by simpa [hlt] using hf
   have e2:(listed.setIfInBounds i true).toList=listed.toList.set i true:=by simp
   rw [e2,List.count_set (by simpa using hlt)];have e3:listed.toList[i]'(by simpa using hlt)=false:=by simpa using e1
   rw [e3]
   have hpos:0 < listed.toList.count false:=by
    rw [List.count_pos_iff,<- e3];simp
   simp;simp at hc hpos;omega
  have next:∀ v w',A.put o.dst v=A->E w'->wpAnyIn (Fence.wide.inRound lp) n P .any ops Q fuel (listed.setIfInBounds i true) (a.put o.dst v) w':=fun v w' hA hE =>
   ih _ _ _ (by simpa using hls) hcount (J.put ho hls hA hE)
  have hmem:o ∈ ops.toList:=by
   have:=Array.mem_of_getElem? ho;simpa using this
  have h:=hs.get o hmem w J.world;have hev:∀ t ∈ o.looksAt ops,a.tmps[t]? = A.tmps[t]?:=fun t ht=>J.eval hdep hA0 ho hi ht
  have hexec:execOp a.eval o=execOp A.eval o:=execOp_congr o (fun cs b=>Region.noSelect_spec hsel i o cs b ho) fun x hx=>by
   cases x with
   | tmp t =>
    have:=hev t (List.mem_append_left _ (List.mem_filterMap.2 ⟨.tmp t,by simpa using hx,rfl⟩))
    simp [Act.eval,this]
   | _=>rfl
  have hwant:Region.wanted o (yielded ops a.tmps)=Region.wanted o (yielded ops A.tmps):=by
   unfold Region.wanted
   cases hg:o.guard with
   | none=>rfl
   | some gw =>
    obtain ⟨g,want⟩:=gw
    have:yielded ops a.tmps g=yielded ops A.tmps g:=by
     unfold yielded
     cases ht:(ops[g]?).bind (·.dst) with
     | none=>rfl
     | some t =>
      have:=hev t (List.mem_append_right _ (by simp [hg,ht]));simp [this]
    simp only [this]
  have hd0:∀ c,o.op≠.defer c:=zh9 hnd ho;unfold wpOpIn;simp only [ho];rw [hwant];simp only [wpList] at h;split
  ·rename_i hw
   rw [yP hw] at h;rcases h with h | ⟨_,a₀,w₀,hq⟩
   case inr=>exact hq.elim
   refine ⟨fun _ _=>trivial,?_⟩;rw [Oper.semAt_eq _ _ _ hd0];unfold Oper.wp at h;rw [hexec]
   generalize (execOp A.eval o).run P w=r at *
   cases r with
   | ok nx w' =>
    cases nx <;> simp only [Oper.upon] at h
    case value v=>exact next v w' h.1 h.2
    case skip=>exact next undef w' h.1 h.2
    case defer d =>
     exfalso;have:=congrArg Act.defers h.1;rw [zbq] at this;exact absurd this (by simp)
    case enter f args =>
     refine ⟨(fun hx=>by cases hx),CallsIn.inRound lp (callsIn_wide.2 (Calls.mono h fun e w'' he=>?_))⟩
     cases e with
     | returned v=>exact next v w'' he.1 he.2
     | panicked c=>exact he.elim
     | outgrown=>obtain ⟨_,_,hq⟩:=he;exact hq.elim
    case row row args=>exact ⟨(fun hx=>by cases hx),zlh (Rows.mono h fun v w'' he=>next v w'' he.1 he.2)⟩
   | halt x w'=>cases x <;> simp only [Oper.upon] at h <;> exact h.elim
  ·rename_i hw
   rw [yN hw] at h;exact ⟨fun _ _=>trivial,next undef w h.1 h.2⟩
theorem zfJ {lp n:Nat} {id:Nat} {l:List Oper} {w:World} (vs:List Value) (E:World->Prop) (hm:P.follows .mixedOrders=true)
  (hB:(zbJ l.toArray && (zba l.toArray && Region.noSelect l.toArray))=true) (hnd:zek l.toArray=true) (hE:E w.drew) (hs:stepsOk P l.toArray (fill a0 l vs) E l) (hfin:∀ w,E w->Q .normal (fill a0 l vs) w):(Code.region id l.toArray true).wpIn (Fence.wide.inRound lp) n P Q a0 w:=by
 rw [yC,yC] at hB;refine wpIn_region_any hm ?_;have hc:(Array.replicate l.toArray.size false).toList.count false<=l.toArray.size:=by simp
 refine ziV (a0:=a0) (A:=fill a0 l vs) (E:=E) hB.1 hB.2.2 (fun t ht=>?_) hs hfin hB.2.1 hnd _ _ _ _ (by simp) hc ?_
 ·refine (zb8 l a0 vs t fun o ho hd=>?_).symm;obtain ⟨j,hj,e⟩:=List.getElem_of_mem ho;exact ht j o (by simp [hj,e]) hd
 ·refine ⟨(zbS l a0 vs).symm,(zdl l a0 vs).symm,fun t ht=>?_,fun t _=>rfl,hE⟩;obtain ⟨j,o,_,_,hl⟩:=ht;rw [getD_replicate_false] at hl;cases hl
end
theorem zdY {P:Program} {lp n:Nat} {id:Nat} {l:List Oper} {a0:Act} {Q:Exit->Act->World->Prop} {w:World} (E:World->Prop) (hm:P.follows .mixedOrders=true)
  (hB:(zbJ l.toArray && (zba l.toArray && (Region.noSelect l.toArray && zcg l)))=true) (hnd:zek l.toArray=true) (hE:E w.drew) (hs:stepsSeq P l.toArray E (fun a=>∀ w,E w->Q .normal a w) l a0):(Code.region id l.toArray true).wpIn (Fence.wide.inRound lp) n P Q a0 w:=by
 rw [yC,yC,yC] at hB;obtain ⟨vs,h1,h2⟩:=ziN hB.1 hB.2.1 hB.2.2.1 hB.2.2.2 l [] a0 rfl hs;exact zfJ vs E hm (by rw [hB.1,hB.2.1,hB.2.2.1];rfl) hnd hE h2 h1
theorem OwnV.ofNon {W W':World} {g:Nat} {e:TypeId} {vs:List Value} (h:OwnV W g e vs) {row:Option Nat} (hg:W.grownBy W' row) (hr:∀ r,row=some r->∃ o:Obj,W.heap[r]? = some o/\o.isCells=false):OwnV W' g e vs:=
 h.grown hg (fun e=>by
  obtain ⟨o,ho,hc⟩:=hr g e.symm;unfold OwnV at h;rw [h] at ho;cases ho
  cases hc)
theorem zge {S:Nat->Prop} {W W':World} (h:Only S W W') (hS:∀ k,S k->∃ e vs,OwnV W k e vs) (B:Nat):KeepsFrom B W W':=by
 refine ⟨h.size,fun k o _ hk ho=>?_⟩;rw [h.block k (lt_of_block hk) (fun hs=>?_)]
 ·exact hk
 ·obtain ⟨e,vs,hv⟩:=hS k hs;unfold OwnV at hv;rw [hv] at hk;cases hk;cases ho
def Stays {β : Type} (B : Nat) (I : β -> World -> Prop) : Prop := ∀ s W W' row, I s W -> W.grownBy W' row -> (∀ r, row = some r -> B <= r) -> I s W'
theorem Stays.ownFrom {β:Type} {B:Nat} {I:β->World->Prop} (h:Stays B I):OwnFrom B I:=fun s W W' row hs hg hr=>h s W W' row hs hg fun r e=>(hr r e).1
def zqG {α : Type} (P : Program) (g : Nat) (lb : Array Value) (encs : α -> Array Value) (Kp : World -> World -> Prop) (S Sp : List α -> Prop) (w : World) : Prop :=
  ∀ (l : Nat) (J Jx : List α -> World -> Prop) (W : World), Below w.heap.size w W -> Stays W.heap.size J -> Stays W.heap.size Jx ->
    (∀ pre x W1, J pre W1 -> YieldAt Fence.wide 4 P l (encs x) W1 fun e W' => (e = .returned (.bool true) /\ J (pre ++ [x]) W' /\ Kp W1 W') ∨ (e = .returned (.bool false) /\ Jx (pre ++ [x]) W')) ->
    J [] W -> CallsIn Fence.wide 5 P g (#[.func (.yield l) #[] #[]] ++ lb) W fun e W' => (∃ v, e = .returned v) /\ ((∃ xs, S xs /\ J xs W') ∨ (∃ pre, Sp pre /\ Jx pre W'))
theorem zn1 {W' W:World} {B k:Nat} {o:Obj} {row:Option Nat} (h:W.heap[k]? = some o) (hg:W.grownBy W' row) (hr:∀ r,row=some r->B<=r) (hk:k < B):W'.heap[k]? = some o:=by
 rw [hg.block k (lt_of_block h) (fun e=>by have:=hr k e.symm;omega)];exact h
theorem zpP {P:Program} {α:Type} {g:Operand} {ps:Array Tmp} {assign body:Code} {Q:Exit->Act->World->Prop} {a:Act} {w:World} {gf:Nat} {lb:Array Value}
  (hg:a.eval g=.func (.func gf) #[] lb) (eg:∀ args w,(callFunc gf args).run P w=.ok (.enter gf args) w)
  {encs:α->Array Value} (hps:∀ x,(encs x).size=ps.size) {Kp:World->World->Prop} {S Sp:List α->Prop} (hseq:zqG P gf lb encs Kp S Sp w)
  (hKt:∀ {A B C:World},Kp A B->Kp B C->Kp A C) (hKb:∀ (W:World) (l:Nat) (o o':Obj),W.heap[l]? = some o->o.isCells=false->Kp W (W.putObj l o'))
  (I:List α->World->Prop) (Ix:Code->List α->World->Prop) (hI:Stays w.heap.size I) (hIx:∀ c,Stays w.heap.size (Ix c)) (h0:I [] w)
  (Ax:α->Act->World->Prop) (hAx:∀ x a',OwnFrom w.heap.size (fun (_:Unit) W=>Ax x a' W))
  (hassign:∀ (l:Nat) (pre:List α) (x:α) (W:World) (K:Act->World->Prop),I pre W->(∀ a' W',KeepsFrom w.heap.size W W'->Kp W W'->I pre W'->Ax x a' W'->K a' W') ->
   assign.wpIn (Fence.wide.inRound l) 4 P (Exit.then K (fun _ _ _=>False)) { tmps:=(ps.zip (encs x)).foldl (fun t (p,v)=>t.setIfInBounds p v) a.tmps,defers:=[] } W)
  (hbody:∀ (l:Nat) (pre:List α) (x:α) (a':Act) (W:World),I pre W->Ax x a' W->body.wpIn (Fence.wide.inRound l) 4 P (ownPostG w.heap.size Kp I Ix (pre++[x]) W) a' W)
  (hdone:∀ (D:Nat) (xs:List α) (W:World),w.heap.size<=D->S xs->I xs W->W.heap[D]? = some (.deferred (some []))->Q .normal { a with defers:={ target:=.collected D,args:=#[] } :: a.defers } W)
  (hstop:∀ (D:Nat) (c:Code) (pre:List α) (W:World),w.heap.size<=D->Sp pre->Ix c pre W->W.heap[D]? = some (.deferred (some []))->c.wp P Q { a with defers:={ target:=.collected D,args:=#[] } :: a.defers } W) :
  (Code.rangeFunc g ps assign body).wp P Q a w:=by
 refine (wpIn_wide (n:=6)).1 (wpIn_rangeFunc ?_);intro fn hfn;let rec_:LoopState->Option Code->Loop:=fun st pe=>{ state:=st,pending:=pe,fn,tmps:=a.tmps,params:=ps,assign,body,defers:=w.heap.size }
 obtain ⟨R,hR⟩:∃ R,R=rec_:=⟨_,rfl⟩
 -- the two blocks of book-keeping
 obtain ⟨W1,hW1⟩:∃ W1,W1=(w.alloc (.deferred (some []))).alloc (.loop (R .ready none)):=⟨_,rfl⟩;have sz:W1.heap.size=w.heap.size+2:=by rw [hW1];simp
 have bD:W1.heap[w.heap.size]? = some (.deferred (some [])):=by rw [hW1,Below.heap_alloc _ _ _ (by simp)];exact World.alloc_heap_new w _
 have bL:W1.heap[w.heap.size+1]? = some (.loop (R .ready none)):=by
  have:=World.alloc_heap_new (w.alloc (.deferred (some []))) (.loop (R .ready none));rw [World.size_alloc] at this;rw [hW1];exact this
 have hb1:Below w.heap.size w W1:=by rw [hW1];exact ((yR _ w).alloc (zr _) _).alloc (by simp) _
 have hI1:I [] W1:=by
  rw [hW1];exact hI _ _ _ none (hI _ _ _ none h0 (World.grownBy_alloc w _ none) (fun r e=>by cases e)) (World.grownBy_alloc _ _ none) (fun r e=>by cases e)
 let J:List α->World->Prop:=fun pre W=>I pre W/\W.heap[w.heap.size+1]? = some (.loop (R .ready none))/\W.heap[w.heap.size]? = some (.deferred (some []))
 let Jx:List α->World->Prop:=fun pre W=>∃ c,Ix c pre W/\W.heap[w.heap.size+1]? = some (.loop (R .done (some c)))/\W.heap[w.heap.size]? = some (.deferred (some []))
 have hJ:Stays W1.heap.size J:=fun s A B row ⟨h1,h2,h3⟩ hgr hr =>
  ⟨hI s A B row h1 hgr fun r e=>by have:=hr r e;omega,zn1 h2 hgr hr (by omega),zn1 h3 hgr hr (by omega)⟩
 have hJx:Stays W1.heap.size Jx:=fun s A B row ⟨c,h1,h2,h3⟩ hgr hr =>
  ⟨c,hIx c s A B row h1 hgr fun r e=>by have:=hr r e;omega,zn1 h2 hgr hr (by omega),zn1 h3 hgr hr (by omega)⟩
 have put:∀ {β:Type} {X:β->World->Prop} {s:β} {W:World} {o o':Obj},OwnFrom w.heap.size X->X s W->W.heap[w.heap.size+1]? = some o->o.isCells=false->X s (W.putObj (w.heap.size+1) o'):=fun hX hx ho hc=>hX.putObj _ hx (by omega) ho hc
 have round:∀ pre x W,J pre W->YieldAt Fence.wide 4 P (w.heap.size+1) (encs x) W fun e W'=>(e=.returned (.bool true)/\J (pre++[x]) W'/\Kp W W')∨(e=.returned (.bool false)/\Jx (pre++[x]) W'):=by
  rintro pre x W ⟨hi,hl,hk⟩;have hy:=run_yield (P:=P) (args:=encs x) hl (by rw [hR];exact hps x);rw [hR] at hy;refine ⟨fn,_,assign,body,hy,roundIn_of_wpIn hfn (hassign _ pre x W _ hi fun a' Wa hka hkp hia hax=>?_)⟩;have hl1:=hka.same _ _ (by omega) hl rfl;have hk1:=hka.same _ _ (zr _) hk rfl;refine ⟨_,run_beginRound hl1 (by rw [hR]),?_⟩;obtain ⟨W2,hW2⟩:∃ W2,W2=Wa.putObj (w.heap.size+1) (.loop { R .ready none with state:=.busy }):=⟨_,rfl⟩;have hl2:W2.heap[w.heap.size+1]? = some (.loop { R .ready none with state:=.busy }):=by rw [hW2];exact World.putObj_heap_same (lt_of_block hl1)
  have hk2:W2.heap[w.heap.size]? = some (.deferred (some [])):=by rw [hW2];exact (World.putObj_heap_other (by omega)).trans hk1
  have hp2:Kp Wa W2:=by rw [hW2];exact hKb _ _ _ _ hl1 rfl
  have hi2:I pre W2:=by rw [hW2];exact put hI.ownFrom hia hl1 rfl
  have ha2:Ax x a' W2:=by rw [hW2];exact put (s:=()) (hAx x a') hax hl1 rfl
  rw [<- hW2];refine wpIn_mono (hbody _ pre x a' W2 hi2 ha2) ?_
  have fin:∀ (jump:Option Code) (W3:World),KeepsFrom w.heap.size W2 W3->∃ W4,W4=W3.putObj (w.heap.size+1) (.loop (R (if jump.isNone then .ready else .done) jump))/\(Instr.endRound (w.heap.size+1) jump).run P W3=.ok (.bool jump.isNone) W4 /\
    W3.heap[w.heap.size+1]? = some (.loop { R .ready none with state:=.busy })/\W4.heap[w.heap.size+1]? = some (.loop (R (if jump.isNone then .ready else .done) jump))/\W4.heap[w.heap.size]? = some (.deferred (some [])):=by
   intro jump W3 hk3;have hl3:=hk3.same _ _ (by omega) hl2 rfl;have hrun:=run_endRound (P:=P) jump hl3;refine ⟨_,rfl,?_,hl3,World.putObj_heap_same (lt_of_block hl3),(World.putObj_heap_other (by omega)).trans (hk3.same _ _ (zr _) hk2 rfl)⟩;rw [hR] at hrun ⊢;exact hrun
  intro e a3 W3 hp
  cases e with
  | normal =>
   obtain ⟨h1,h2,h3⟩:=hp;obtain ⟨W4,e4,hr,hl3,hl4,hk4⟩:=fin none W3 h1
   exact ⟨_,W4,hr,.inl ⟨rfl,⟨by rw [e4];exact put hI.ownFrom h3 hl3 rfl,hl4,hk4⟩,hKt hkp (hKt (hKt hp2 h2) (by rw [e4];exact hKb _ _ _ _ hl3 rfl))⟩⟩
  | ret =>
   obtain ⟨h1,h2⟩:=hp;obtain ⟨W4,e4,hr,hl3,hl4,hk4⟩:=fin (some .ret) W3 h1
   exact ⟨_,W4,hr,.inr ⟨rfl,.ret,by rw [e4];exact put (hIx _).ownFrom h2 hl3 rfl,hl4,hk4⟩⟩
  | exit id =>
   obtain ⟨h1,h2⟩:=hp;obtain ⟨W4,e4,hr,hl3,hl4,hk4⟩:=fin (some (.exit id)) W3 h1
   exact ⟨_,W4,hr,.inr ⟨rfl,.exit id,by rw [e4];exact put (hIx _).ownFrom h2 hl3 rfl,hl4,hk4⟩⟩
  | goto t =>
   obtain ⟨h1,h2⟩:=hp;obtain ⟨W4,e4,hr,hl3,hl4,hk4⟩:=fin (some (.goto t)) W3 h1
   exact ⟨_,W4,hr,.inr ⟨rfl,.goto t,by rw [e4];exact put (hIx _).ownFrom h2 hl3 rfl,hl4,hk4⟩⟩
  | panic ch=>exact hp.elim
  | outgrown=>exact hp.elim
 have hcall:=hseq (w.heap.size+1) J Jx W1 hb1 hJ hJx round ⟨hI1,bL,bD⟩;refine ⟨w.heap.size+1,[{ target:=.collected w.heap.size,args:=#[] }],W1,{ target:=.fn (.func gf) lb,args:=#[.func (.yield (w.heap.size+1)) #[] #[]] },W1,gf,#[.func (.yield (w.heap.size+1)) #[] #[]]++lb,W1,?_,?_,fun _ _=>trivial,?_,(fun _=>by omega),?_⟩
 ·rw [hW1,hR];exact run_enterLoop_outer _ _ _ _ _
 ·simp only [resolve,hg];simp [go_sem]
 ·simp [invoke,go_sem,eg]
 ·refine hcall.mono ?_;rintro e W2 ⟨⟨v,rfl⟩,(⟨xs,hS,hi,hl,hk⟩ | ⟨pre,hSp,c,hi,hl,hk⟩)⟩
  ·refine ⟨none,_,by have:=run_endLoop (P:=P) hl (by rw [hR];simp [rec_]);rw [hR] at this;exact this,?_⟩;exact hdone _ xs _ (zr _) hS (put hI.ownFrom hi hl rfl) ((World.putObj_heap_other (by omega)).trans hk)
  ·refine ⟨some c,_,by have:=run_endLoop (P:=P) hl (by rw [hR];simp [rec_]);rw [hR] at this;exact this,?_⟩;exact wpIn_wide.2 (hstop _ c pre _ (zr _) hSp (put (hIx c).ownFrom hi hl rfl) ((World.putObj_heap_other (by omega)).trans hk))
end Go.Proofs.YtdhikpkecmaplaaGreatDoor
