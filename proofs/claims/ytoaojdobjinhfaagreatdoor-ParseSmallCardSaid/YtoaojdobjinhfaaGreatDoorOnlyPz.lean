/- A world that parts from another in some blocks alone, and in new ones. No program in it. -/
import Derived.Test.YtoaojdobjinhfaaGreatDoorRegionPz
import Derived.RangeFuncNested
import Derived.RangeFuncBound
import Derived.RangeFuncCalls
import Derived.RangeFuncLeaves
import Derived.OwnWalkIn
import Derived.TacticsInMore
import Derived.LoopNIn
import Derived.LoopIn
import Derived.OrdersIn
set_option linter.unusedSimpArgs false
set_option linter.unusedVariables false
namespace Go.Proofs.YtoaojdobjinhfaaGreatDoor
open Go.RowKit

def DrewOf (w w' : World) : Prop := ∃ n, w' = w.drewN n
theorem DrewOf.start(w:World):DrewOf w w.drew:=⟨1,rfl⟩
theorem Below.drewN{B:Nat}{a b:World}(h:Below B a b)(n:Nat):Below B a (b.drewN n):=h.trans (b:=b) (c:=b.drewN n) ⟨rfl,rfl,rfl,zr _,fun _ _=>rfl⟩
structure Only (S : Nat -> Prop) (w w' : World) : Prop where
  os : w'.os = w.os
  tape : w'.tape = w.tape
  output : w'.output = w.output
  size : w.heap.size <= w'.heap.size
  block : ∀ k, k < w.heap.size -> ¬ S k -> w'.heap[k]? = w.heap[k]?
theorem Only.refl(S:Nat->Prop)(w:World):Only S w w:=⟨rfl,rfl,rfl,zr _,fun _ _ _=>rfl⟩
theorem Only.trans{S:Nat->Prop}{a b c:World}(h:Only S a b)(k:Only S b c):Only S a c:=
 ⟨k.os.trans h.os,k.tape.trans h.tape,k.output.trans h.output,yT h.size k.size,fun i hi hs=>(k.block i (Nat.lt_of_lt_of_le hi h.size) hs).trans (h.block i hi hs)⟩
theorem Only.mono{S T:Nat->Prop}{a b:World}(h:Only S a b)(hS:∀k,k<a.heap.size->S k->T k):Only T a b:=
 ⟨h.os,h.tape,h.output,h.size,fun i hi hs=>h.block i hi fun hk=>hs (hS i hi hk)⟩
theorem Only.drewN{S:Nat->Prop}{a b:World}(h:Only S a b)(n:Nat):Only S a (b.drewN n):=⟨h.os,h.tape,h.output,h.size,h.block⟩
theorem Only.drew{S:Nat->Prop}{a b:World}(h:Only S a b):Only S a b.drew:=⟨h.os,h.tape,h.output,h.size,h.block⟩
theorem Only.of_below{S:Nat->Prop}{w w':World}(h:Below w.heap.size w w'):Only S w w':=⟨h.os,h.tape,h.output,h.size,fun k hk _=>h.block k hk⟩
theorem Only.setCell{S:Nat->Prop}{a b:World}(h:Only S a b){p:Addr}(hp:a.heap.size<=p.block∨S p.block)(u:Value):Only S a (b.setCell p u):=by
 refine⟨h.os,h.tape,h.output,?_,fun k hk hs=>?_⟩
 ·have:=((yR 0 b).setCell (p:=p) (Nat.zero_le _) u).size;exact yT h.size this
 ·rw[Below.heap_setCell b p u k (fun e=>by subst e;rcases hp with hp|hp;omega;exact hs hp)];exact h.block k hk hs
theorem Only.setNew{S:Nat->Prop}{a b:World}(h:Only S a b){g o:Nat}(d:a.heap.size<=g)(u:Value):Only S a (b.setCell ⟨g,o,none⟩ u):=h.setCell (.inl d) u
theorem Only.setIn{S:Nat->Prop}{a b:World}(h:Only S a b){g o:Nat}(d:S g)(u:Value):Only S a (b.setCell ⟨g,o,none⟩ u):=h.setCell (.inr d) u
theorem Only.alloc{S:Nat->Prop}{a b:World}(h:Only S a b)(o:Obj):Only S a (b.alloc o):=by
 refine⟨h.os,h.tape,h.output,?_,fun k hk hs=>?_⟩
 ·have:=h.size;simp;omega
 ·rw[Below.heap_alloc b o k (Nat.lt_of_lt_of_le hk h.size)];exact h.block k hk hs
theorem Only.of_grown{S:Nat->Prop}{a b:World}{row:Option Nat}(h:a.grownBy b row)(d:∀g,row=some g->S g):Only S a b:=
 ⟨h.os,h.tape,h.output,h.size,fun k hk hs=>h.block k hk fun e=>hs (d k e.symm)⟩
theorem Only.below{S:Nat->Prop}{w w':World}(h:Only S w w'){B:Nat}(hS:∀k,S k->B<=k)(d:B<=w.heap.size):Below B w w':=
 ⟨h.os,h.tape,h.output,h.size,fun k hk=>h.block k (by omega) fun hs=>by have:=hS k hs;omega⟩
theorem Only.own{S:Nat->Prop}{w w':World}(h:Only S w w'){g:Nat}{e:TypeId}{vs:List Value}(d:OwnV w g e vs)(f:¬S g):OwnV w' g e vs:=by
 have i:=d.lt
 unfold OwnV at *
 rw[h.block g i f];exact d
theorem Only.row{S:Nat->Prop}{w w':World}(h:Only S w w'){base:Nat}{e:TypeId}{sz:Nat}{v:Value}{n:Nat}{xs:List Value}(q:w.ownsRow base e sz v n xs)(u:∀g,v.ownBlock=some g->¬S g):w'.ownsRow base e sz v n xs:=by
 obtain⟨m,f⟩:=q;refine⟨m,?_⟩;rcases f with f|⟨g,cap,i,rfl,l,j,d⟩
 ·exact .inl f
 ·exact .inr ⟨g,cap,i,rfl,l,by rw[h.block g (lt_of_block j) (u g rfl)];exact j,d⟩
theorem Only.cell{S:Nat->Prop}{w w':World}(h:Only S w w'){p:Addr}{v:Value}(d:w.cell? p=some v)(f:¬S p.block):w'.cell? p=some v:=by
 rw[World.cell?_of_block (w:=w) (h.block p.block (World.block_lt_of_cell? w _ d) f)];exact d
theorem Only.sl{S:Nat->Prop}{w w':World}(h:Only S w w'){sz n:Nat}{cs:List Value}{v:Value}(q:Sl w sz n cs v)(f:n=0∨∀g,v.ownBlock=some g->¬S g):Sl w' sz n cs v:=by
 obtain⟨a,cap,rfl,m,u,l,z⟩:=q;refine⟨a,cap,rfl,m,u,l,fun hp=>?_⟩;obtain⟨b,d,rfl,y⟩:=z hp;refine⟨b,d,rfl,fun j hj=>?_⟩;have i:cs[j]? = some (cs[j]'(by rw[l];exact hj)):=yD _;rw[i];refine h.cell ((y j hj).trans i) ?_;rcases f with rfl|f
 ·omega
 ·exact f b rfl
theorem Only.grown{S:Nat->Prop}{a b c:World}(h:Only S a b){row:Option Nat}(d:b.grownBy c row)(f:∀r,row=some r->a.heap.size<=r):Only S a c:=by
 refine⟨d.os.trans h.os,d.tape.trans h.tape,d.output.trans h.output,yT h.size d.size,fun k hk hs=>?_⟩;rw[d.block k (Nat.lt_of_lt_of_le hk h.size) (fun e=>by have:=f k e.symm;omega)];exact h.block k hk hs
theorem Only.transNew{S T:Nat->Prop}{a b c:World}(h:Only S a b)(k:Only T b c)(f:∀i,T i->S i∨a.heap.size<=i):Only S a c:=
 ⟨k.os.trans h.os,k.tape.trans h.tape,k.output.trans h.output,yT h.size k.size,fun i hi hs=>(k.block i (Nat.lt_of_lt_of_le hi h.size) (fun ht=>by rcases f i ht with d|d;exact hs d;omega)).trans (h.block i hi hs)⟩
theorem OwnV.drewN{w:World}{g:Nat}{e:TypeId}{vs:List Value}(h:OwnV w g e vs)(n:Nat):OwnV (w.drewN n) g e vs:=h
theorem OwnV.drew{w:World}{g:Nat}{e:TypeId}{vs:List Value}(h:OwnV w g e vs):OwnV w.drew g e vs:=h
theorem OwnV.newAt{w:World}{g:Nat}(d:g=w.heap.size)(e:TypeId)(vs:List Value):OwnV (w.alloc (.cells vs.toArray e)) g e vs:=by subst d;exact OwnV.new w e vs
theorem OwnV.set_ne{w:World}{g:Nat}{e:TypeId}{vs:List Value}(h:OwnV w g e vs){b o:Nat}(d:g≠b)(v:Value):OwnV (w.setCell ⟨b,o,none⟩ v) g e vs:=by
 unfold OwnV at *
 rw[Below.heap_setCell w ⟨b,o,none⟩ v g d];exact h
def zek (ops : Array Oper) : Bool := ops.all fun o => match o.op with | .defer .. => false | _ => true
theorem zh9{ops:Array Oper}(h:zek ops=true){i:Nat}{o:Oper}(d:ops[i]? = some o)(c:Call):o.op≠.defer c:=by
 unfold zek at h;rw[Array.all_eq_true_iff_forall_mem] at h;have:=h o (Array.mem_of_getElem? d);intro e;rw[e] at this;cases this
theorem zlh{P:Program}{d n:Nat}{row:String}{args:Array Value}{w:World}{R:Value->World->Prop}(h:Rows P row args w R):RowsIn (Fence.wide.inRound d) n P row args w R:=by
 intro c cs _;obtain⟨v,w',r,s⟩:=h c cs;exact⟨v,w',r,stepsIn_wide.2 s⟩
section
variable {P : Program} {ops : Array Oper} {a0 A : Act} {E : World -> Prop} {Q : Exit -> Act -> World -> Prop}
theorem ziV{T n:Nat}(N:zbJ ops=true)(G:Region.noSelect ops=true)(H:∀t,(∀(j:Nat) (o:Oper),ops[j]? = some o->o.dst≠some t)->a0.tmps[t]? = A.tmps[t]?)
  (hs:stepsOk P ops A E ops.toList) (M:∀w,E w->Q .normal A w) (u:zba ops=true) (S:zek ops=true) :
  ∀(fuel:Nat) (l:Array Bool) (a:Act) (w:World),l.size=ops.size->(l.toList.count false<=fuel)->InvJ ops a0 A E l a w->wpAnyIn (Fence.wide.inRound T) n P .any ops Q fuel l a w:=by
 have fin:∀(l:Array Bool) (a:Act) (w:World),l.size=ops.size->InvJ ops a0 A E l a w->Region.ready .any ops l=[]->Q .normal a w:=by
  intro l a w m J R;have z:=zcU u l m R
  have:a=A:=by
   have ht:a.tmps=A.tmps:=by
    apply Array.ext_getElem?;intro t;by_cases D:∃(j:Nat) (p:Oper),ops[j]? = some p/\p.dst=some t
    ·obtain⟨j,p,hp,hd⟩:=D;exact J.done t ⟨j,p,hp,hd,z j (Array.getElem?_eq_some_iff.1 hp).1⟩
    ·rw[J.left t fun⟨j,p,hp,hd,_⟩=>D ⟨j,p,hp,hd⟩];exact H t fun j p hp hd=>D ⟨j,p,hp,hd⟩
   cases a;cases A;have:=J.defers;simp_all
  rw[this];exact M w J.world
 intro fuel
 induction fuel with
 | zero =>
  intro l a w m Z J
  have R:Region.ready .any ops l=[]:=by
   rw[List.eq_nil_iff_forall_not_mem];intro i hi;obtain⟨O,_⟩:=mem_ready.1 hi
   have q:i<l.size:=by
    rcases Nat.lt_or_ge i l.size with h|h
    ·exact h
    ·simp[Array.getElem?_eq_none h] at O
   have Y:l.toList.count false=0:=by omega
   rw[List.count_eq_zero] at Y;apply Y;have:l[i]=false:=by simpa[q] using O
   rw[<-this];simp
  exact⟨R,fin l a w m J R⟩
 | succ fuel ih =>
  intro l a w m Z J;refine⟨fin l a w m J,fun i hi=>?_⟩;obtain⟨O,o,B,z⟩:=mem_ready.1 hi;have q:i<l.size:=by rw[m];exact(Array.getElem?_eq_some_iff.1 B).1
  have y:(l.setIfInBounds i true).toList.count false<=fuel:=by
   have e1:l[i]=false:=by simpa[q] using O
   have e2:(l.setIfInBounds i true).toList=l.toList.set i true:=by simp
   rw[e2,List.count_set (by simpa using q)];have W:l.toList[i]'(by simpa using q)=false:=by simpa using e1
   rw[W]
   have I:0<l.toList.count false:=by
    rw[List.count_pos_iff,<-W];simp
   simp;simp at Z I;omega
  have next:∀v w',A.put o.dst v=A->E w'->wpAnyIn (Fence.wide.inRound T) n P .any ops Q fuel (l.setIfInBounds i true) (a.put o.dst v) w':=fun v w' hA hE =>
   ih _ _ _ (by simpa using m) y (J.put B m hA hE)
  have K:o∈ops.toList:=by
   have:=Array.mem_of_getElem? B;simpa using this
  have h:=hs.get o K w J.world;have L:∀t∈o.looksAt ops,a.tmps[t]? = A.tmps[t]?:=fun t ht=>J.eval N H B hi ht
  have C:execOp a.eval o=execOp A.eval o:=execOp_congr o (fun cs b=>Region.noSelect_spec G i o cs b B) fun x hx=>by
   cases x with
   | tmp t =>
    have:=L t (List.mem_append_left _ (List.mem_filterMap.2 ⟨.tmp t,by simpa using hx,rfl⟩))
    simp[Act.eval,this]
   | _=>rfl
  have F:Region.wanted o (yielded ops a.tmps)=Region.wanted o (yielded ops A.tmps):=by
   unfold Region.wanted
   cases hg:o.guard with
   | none=>rfl
   | some gw =>
    obtain⟨g,X⟩:=gw
    have:yielded ops a.tmps g=yielded ops A.tmps g:=by
     unfold yielded
     cases ht:(ops[g]?).bind (·.dst) with
     | none=>rfl
     | some t =>
      have:=L t (List.mem_append_right _ (by simp[hg,ht]));simp[this]
    simp only[this]
  have U:∀c,o.op≠.defer c:=zh9 S B;unfold wpOpIn;simp only[B];rw[F];simp only[wpList] at h;split
  ·rename_i D
   rw[yP D] at h;rcases h with h|⟨_,a₀,w₀,V⟩
   case inr=>exact V.elim
   refine⟨fun _ _=>trivial,?_⟩;rw[Oper.semAt_eq _ _ _ U];unfold Oper.wp at h;rw[C]
   generalize (execOp A.eval o).run P w=r at *
   cases r with
   | ok nx w' =>
    cases nx <;> simp only[Oper.upon] at h
    case value v=>exact next v w' h.1 h.2
    case skip=>exact next undef w' h.1 h.2
    case defer d =>
     exfalso;have:=congrArg Act.defers h.1;rw[zbq] at this;exact absurd this (by simp)
    case enter f args =>
     refine⟨(fun hx=>by cases hx),CallsIn.inRound T (callsIn_wide.2 (Calls.mono h fun e w'' he=>?_))⟩
     cases e with
     | returned v=>exact next v w'' he.1 he.2
     | panicked c=>exact he.elim
     | outgrown=>obtain⟨_,_,V⟩:=he;exact V.elim
    case row row args=>exact⟨(fun hx=>by cases hx),zlh (Rows.mono h fun v w'' he=>next v w'' he.1 he.2)⟩
   | halt x w'=>cases x <;> simp only[Oper.upon] at h <;> exact h.elim
  ·rename_i D
   rw[yN D] at h;exact⟨fun _ _=>trivial,next undef w h.1 h.2⟩
theorem zfJ{m n:Nat}{id:Nat}{l:List Oper}{w:World}(vs:List Value)(E:World->Prop)(y:P.follows .mixedOrders=true)
  (f:(zbJ l.toArray&&(zba l.toArray&&Region.noSelect l.toArray))=true) (g:zek l.toArray=true) (v:E w.drew) (q:stepsOk P l.toArray (fill a0 l vs) E l) (d:∀w,E w->Q .normal (fill a0 l vs) w):(Code.region id l.toArray true).wpIn (Fence.wide.inRound m) n P Q a0 w:=by
 rw[yC,yC] at f;refine wpIn_region_any y ?_;have u:(Array.replicate l.toArray.size false).toList.count false<=l.toArray.size:=by simp
 refine ziV (a0:=a0) (A:=fill a0 l vs) (E:=E) f.1 f.2.2 (fun t ht=>?_) q d f.2.1 g _ _ _ _ (by simp) u ?_
 ·refine(zb8 l a0 vs t fun o ho hd=>?_).symm;obtain⟨j,z,e⟩:=List.getElem_of_mem ho;exact ht j o (by simp[z,e]) hd
 ·refine⟨(zbS l a0 vs).symm,(zdl l a0 vs).symm,fun t ht=>?_,fun t _=>rfl,v⟩;obtain⟨j,o,_,_,i⟩:=ht;rw[getD_replicate_false] at i;cases i
end
theorem zdY{P:Program}{m n:Nat}{id:Nat}{l:List Oper}{a0:Act}{Q:Exit->Act->World->Prop}{w:World}(E:World->Prop)(u:P.follows .mixedOrders=true)
  (d:(zbJ l.toArray&&(zba l.toArray&&(Region.noSelect l.toArray&&zcg l)))=true) (f:zek l.toArray=true) (v:E w.drew) (i:stepsSeq P l.toArray E (fun a=>∀w,E w->Q .normal a w) l a0):(Code.region id l.toArray true).wpIn (Fence.wide.inRound m) n P Q a0 w:=by
 rw[yC,yC,yC] at d;obtain⟨vs,q,g⟩:=ziN d.1 d.2.1 d.2.2.1 d.2.2.2 l 0 a0 (fun j p hj=>by rw[Nat.zero_add];exact hj) i;exact zfJ vs E u (by rw[d.1,d.2.1,d.2.2.1];rfl) f v g q
theorem OwnV.ofNon{W f:World}{g:Nat}{e:TypeId}{vs:List Value}(h:OwnV W g e vs){row:Option Nat}(i:W.grownBy f row)(l:∀r,row=some r->∃o:Obj,W.heap[r]? = some o/\o.isCells=false):OwnV f g e vs:=
 h.grown i (fun e=>by
  obtain⟨o,d,j⟩:=l g e.symm;unfold OwnV at h;rw[h] at d;cases d
  cases j)
theorem zge{S:Nat->Prop}{W f:World}(h:Only S W f)(hS:∀k,S k->∃e vs,OwnV W k e vs)(B:Nat):KeepsFrom B W f:=by
 refine⟨h.size,fun k o _ hk ho=>?_⟩;rw[h.block k (lt_of_block hk) (fun hs=>?_)]
 ·exact hk
 ·obtain⟨e,vs,d⟩:=hS k hs;unfold OwnV at d;rw[d] at hk;cases hk;cases ho
end Go.Proofs.YtoaojdobjinhfaaGreatDoor
