/- A statement whose order Go leaves open, walked once: where every operation, done in the frame as it stands znZ the statement, gives the value that this frame holds, whatever was done before it. No condition of its own. -/
import Derived.Test.YtdhikpkecmaplaaGreatDoorLibMk
import Derived.StillTail
import Derived.Deep.RegionLaw
set_option linter.unusedSimpArgs false
set_option linter.unusedVariables false
namespace Go.Proofs.YtdhikpkecmaplaaGreatDoor
open Go.RowKit

def fill (a : Act) : List Oper -> List Value -> Act
  | o :: l, v :: vs => fill (a.put o.dst v) l vs
  | _, _ => a
theorem zfb (a:Act) (o:Oper) (l:List Oper) (v:Value) (vs:List Value):fill a (o :: l) (v :: vs)=fill (a.put o.dst v) l vs:=rfl
theorem zos (a:Act):fill a [] []=a:=rfl
def zbb (A : Act) (E : World -> Prop) : Exit -> Act -> World -> Prop
  | .normal, a, w => a = A /\ E w
  | _, _, _ => False
def zbJ (ops : Array Oper) : Bool :=
  (List.range ops.size).all fun i => match ops[i]? with
    | none => true
    | some o => (o.looksAt ops).all fun t => (List.range ops.size).all fun j => match ops[j]? with
      | none => true
      | some p => p.dst != some t || o.after.any fun e => e.on == j && Region.binds .any e
def zba (ops : Array Oper) : Bool :=
  (List.range ops.size).all fun i => match ops[i]? with
    | none => true
    | some o => o.after.all fun e => !Region.binds .any e || decide (e.on < i)
def stepsOk (P : Program) (ops : Array Oper) (A : Act) (E : World -> Prop) : List Oper -> Prop
  | [] => True
  | o :: l => (∀ w, E w -> wpList P ops (zbb A E) [o] A w) /\ stepsOk P ops A E l

theorem stepsOk.nil {P:Program} {ops:Array Oper} {A:Act} {E:World->Prop}:stepsOk P ops A E []:=trivial
theorem stepsOk.cons {P:Program} {ops:Array Oper} {A:Act} {E:World->Prop} {o:Oper} {l:List Oper} (h:∀ w,E w->wpList P ops (zbb A E) [o] A w) (h':stepsOk P ops A E l):stepsOk P ops A E (o :: l):=⟨h,h'⟩
theorem stepsOk.get {P:Program} {ops:Array Oper} {A:Act} {E:World->Prop}:∀ {l:List Oper},stepsOk P ops A E l->∀ o ∈ l,∀ w,E w->wpList P ops (zbb A E) [o] A w
 | [],_,o,h,_,_=>by cases h
 | p :: l,h,o,ho,w,hw=>by
  rcases List.mem_cons.1 ho with rfl | h'
  ·exact h.1 w hw
  ·exact stepsOk.get h.2 o h' w hw

def zen (ops : Array Oper) (listed : Array Bool) (t : Nat) : Prop := ∃ j o, ops[j]? = some o /\ o.dst = some t /\ listed.getD j false = true
structure InvJ (ops : Array Oper) (a0 A : Act) (E : World -> Prop) (listed : Array Bool) (a : Act) (w : World) : Prop where
  size : a.tmps.size = A.tmps.size
  defers : a.defers = A.defers
  done : ∀ t, zen ops listed t -> a.tmps[t]? = A.tmps[t]?
  left : ∀ t, ¬ zen ops listed t -> a.tmps[t]? = a0.tmps[t]?
  world : E w

theorem zcn {a:Act} {dst:Option Tmp} {v:Value} {t:Nat} (h:dst≠some t):(a.put dst v).tmps[t]? = a.tmps[t]?:=by
 cases dst with
 | none=>rfl
 | some d =>
  have hne:d≠t:=fun e=>h (by rw [e])
  simp [Act.put,Array.getElem?_setIfInBounds_ne hne]
theorem zbM {a:Act} {t:Nat} {v:Value} (h:t < a.tmps.size):(a.put (some t) v).tmps[t]? = some v:=by
 simp [Act.put,h]
theorem za8 (a:Act) (dst:Option Tmp) (v:Value):(a.put dst v).tmps.size=a.tmps.size:=by
 cases dst <;> simp [Act.put]
theorem zbq (a:Act) (dst:Option Tmp) (v:Value):(a.put dst v).defers=a.defers:=by
 cases dst <;> rfl

section
variable {P : Program} {ops : Array Oper} {a0 A : Act} {E : World -> Prop} {Q : Exit -> Act -> World -> Prop}

theorem zcA (h:zbJ ops=true) {i:Nat} {o:Oper} (ho:ops[i]? = some o) {t:Nat} (ht:t ∈ o.looksAt ops) {j:Nat} {p:Oper} (hp:ops[j]? = some p) (hd:p.dst=some t) :
  ∃ e ∈ o.after,Region.binds .any e=true/\e.on=j:=by
 unfold zbJ at h;rw [List.all_eq_true] at h;have h1:=h i (List.mem_range.2 (Array.getElem?_eq_some_iff.1 ho).1);simp only [ho] at h1;rw [List.all_eq_true] at h1;have h2:=h1 t ht;rw [List.all_eq_true] at h2;have h3:=h2 j (List.mem_range.2 (Array.getElem?_eq_some_iff.1 hp).1);simp only [hp,hd,bne_self_eq_false,Bool.false_or] at h3;obtain ⟨e,he,hb⟩:=Array.any_eq_true'.1 h3;simp only [Bool.and_eq_true,beq_iff_eq] at hb;exact ⟨e,he,hb.2,hb.1⟩
theorem zcU (h:zba ops=true) (listed:Array Bool) (hls:listed.size=ops.size) (hr:Region.ready .any ops listed=[]):∀ j,j < ops.size->listed.getD j false=true:=by
 intro j
 induction j using Nat.strongRecOn with
 | _ j ih =>
  intro hj
  cases hl:listed.getD j false with
  | true=>rfl
  | false =>
   exfalso;have hlt:j < listed.size:=by omega
   have:j ∈ Region.ready .any ops listed:=by
    refine mem_ready.2 ⟨by simpa [hlt] using hl,ops[j],Array.getElem?_eq_getElem hj,fun e he hb=>?_⟩;unfold zba at h;rw [List.all_eq_true] at h;have h1:=h j (List.mem_range.2 hj);rw [Array.getElem?_eq_getElem hj] at h1;simp only [Array.all_eq_true_iff_forall_mem] at h1;have h2:=h1 e he;rw [hb] at h2;have h3:e.on < j:=by simpa using h2
    exact ih e.on h3 (by omega)
   rw [hr] at this;cases this

theorem InvJ.put {listed:Array Bool} {a:Act} {w w':World} {i:Nat} {o:Oper} {v:Value} (J:InvJ ops a0 A E listed a w) (ho:ops[i]? = some o) (hls:listed.size=ops.size) (hA:A.put o.dst v=A) (hE:E w') :
  InvJ ops a0 A E (listed.setIfInBounds i true) (a.put o.dst v) w':=by
 have hi:i < listed.size:=by rw [hls];exact (Array.getElem?_eq_some_iff.1 ho).1
 refine ⟨by rw [za8];exact J.size,by rw [zbq];exact J.defers,fun t ht=>?_,fun t ht=>?_,hE⟩
 ·by_cases hd:o.dst=some t
  ·rw [hd] at hA ⊢;rcases Nat.lt_or_ge t a.tmps.size with hlt | hge
   ·rw [zbM hlt,<- hA,zbM (by rw [<- J.size];exact hlt)]
   ·rw [Array.getElem?_eq_none (by rw [za8];exact hge),Array.getElem?_eq_none (by rw [<- J.size];exact hge)]
  ·rw [zcn hd];refine J.done t ?_;obtain ⟨j,p,hp,hpd,hl⟩:=ht;refine ⟨j,p,hp,hpd,?_⟩;by_cases e:i=j
   ·subst e;rw [ho] at hp;cases hp;exact absurd hpd hd
   ·rwa [getD_set_ne false e] at hl
 ·have hd:o.dst≠some t:=fun hd=>ht ⟨i,o,ho,hd,by simp [hi]⟩
  rw [zcn hd];exact J.left t fun ⟨j,p,hp,hpd,hl⟩=>ht ⟨j,p,hp,hpd,getD_set_true hl⟩

theorem InvJ.eval {listed:Array Bool} {a:Act} {w:World} (J:InvJ ops a0 A E listed a w) (hdep:zbJ ops=true) (hA0:∀ t,(∀ (j:Nat) (o:Oper),ops[j]? = some o->o.dst≠some t)->a0.tmps[t]? = A.tmps[t]?)
  {i:Nat} {o:Oper} (ho:ops[i]? = some o) (hr:i ∈ Region.ready .any ops listed) {t:Nat} (ht:t ∈ o.looksAt ops):a.tmps[t]? = A.tmps[t]?:=by
 by_cases hw:∃ (j:Nat) (p:Oper),ops[j]? = some p/\p.dst=some t
 ·obtain ⟨j,p,hp,hd⟩:=hw;obtain ⟨e,he,hb,hej⟩:=zcA hdep ho ht hp hd;obtain ⟨_,o',ho',hall⟩:=mem_ready.1 hr;rw [ho] at ho';cases ho';exact J.done t ⟨j,p,hp,hd,by rw [<- hej];exact hall e he hb⟩
 ·rw [J.left t fun ⟨j,p,hp,hd,_⟩=>hw ⟨j,p,hp,hd⟩];exact hA0 t fun j p hp hd=>hw ⟨j,p,hp,hd⟩

theorem zlX (hdep:zbJ ops=true) (hsel:Region.noSelect ops=true) (hA0:∀ t,(∀ (j:Nat) (o:Oper),ops[j]? = some o->o.dst≠some t)->a0.tmps[t]? = A.tmps[t]?)
  (hs:stepsOk P ops A E ops.toList) (hfin:∀ w,E w->Q .normal A w) (hahead:zba ops=true) :
  ∀ (fuel:Nat) (listed:Array Bool) (a:Act) (w:World),listed.size=ops.size->(listed.toList.count false<=fuel)->InvJ ops a0 A E listed a w->wpAny P .any ops Q fuel listed a w:=by
 have fin:∀ (listed:Array Bool) (a:Act) (w:World),listed.size=ops.size->InvJ ops a0 A E listed a w->Region.ready .any ops listed=[]->Q .normal a w:=by
  intro listed a w hls J hr;have hall:=zcU hahead listed hls hr
  have:a=A:=by
   have ht:a.tmps=A.tmps:=by
    apply Array.ext_getElem?;intro t;by_cases hw:∃ (j:Nat) (p:Oper),ops[j]? = some p/\p.dst=some t
    ·obtain ⟨j,p,hp,hd⟩:=hw;exact J.done t ⟨j,p,hp,hd,hall j (Array.getElem?_eq_some_iff.1 hp).1⟩
    ·rw [J.left t fun ⟨j,p,hp,hd,_⟩=>hw ⟨j,p,hp,hd⟩];exact hA0 t fun j p hp hd=>hw ⟨j,p,hp,hd⟩
   cases a;cases A;have:=J.defers;simp_all
  rw [this];exact hfin w J.world
 intro fuel
 induction fuel with
 | zero =>
  intro listed a w hls hc J
  have hr:Region.ready .any ops listed=[]:=by
   rw [List.eq_nil_iff_forall_not_mem];intro i hi;obtain ⟨hf,_⟩:=mem_ready.1 hi
   have hlt:i < listed.size:=by
    rcases Nat.lt_or_ge i listed.size with h | h
    ·exact h
    ·simp [Array.getElem?_eq_none h] at hf
   have h0:listed.toList.count false=0:=by omega
   rw [List.count_eq_zero] at h0;apply h0;have:listed[i]=false:=by simpa [hlt] using hf
   rw [<- this];simp
  exact ⟨hr,fin listed a w hls J hr⟩
 | succ fuel ih =>
  intro listed a w hls hc J;refine ⟨fin listed a w hls J,fun i hi=>?_⟩;obtain ⟨hf,o,ho,hall⟩:=mem_ready.1 hi;have hlt:i < listed.size:=by rw [hls];exact (Array.getElem?_eq_some_iff.1 ho).1
  have hcount:(listed.setIfInBounds i true).toList.count false<=fuel:=by
   have e1:listed[i]=false:=by simpa [hlt] using hf
   have e2:(listed.setIfInBounds i true).toList=listed.toList.set i true:=by simp
   rw [e2,List.count_set (by simpa using hlt)];have e3:listed.toList[i]'(by simpa using hlt)=false:=by simpa using e1
   rw [e3]
   have hpos:0 < listed.toList.count false:=by
    rw [List.count_pos_iff,<- e3];simp
   simp;simp at hc hpos;omega
  have next:∀ v w',A.put o.dst v=A->E w'->wpAny P .any ops Q fuel (listed.setIfInBounds i true) (a.put o.dst v) w':=fun v w' hA hE =>
   ih _ _ _ (by simpa using hls) hcount (J.put ho hls hA hE)
  have hmem:o ∈ ops.toList:=by
   have:=Array.mem_of_getElem? ho;simpa using this
  have h:=hs.get o hmem w J.world;have hev:∀ t ∈ o.looksAt ops,a.tmps[t]? = A.tmps[t]?:=fun t ht=>J.eval hdep hA0 ho hi ht
  have hexec:execOp a.eval o=execOp A.eval o:=execOp_congr o (fun cs b=>Region.noSelect_spec hsel i o cs b ho) fun x hx=>by
   cases x with
   | tmp t =>
    have:=hev t (List.mem_append_left _ (List.mem_filterMap.2 ⟨.tmp t,by simpa using hx,rfl⟩))
    simp [Act.eval,this]
   | _=>rfl
  have hwant:Region.wanted o (yielded ops a.tmps)=Region.wanted o (yielded ops A.tmps):=by
   unfold Region.wanted
   cases hg:o.guard with
   | none=>rfl
   | some gw =>
    obtain ⟨g,want⟩:=gw
    have:yielded ops a.tmps g=yielded ops A.tmps g:=by
     unfold yielded
     cases ht:(ops[g]?).bind (·.dst) with
     | none=>rfl
     | some t =>
      have:=hev t (List.mem_append_right _ (by simp [hg,ht]));simp [this]
    simp only [this]
  unfold wpOp;simp only [ho];rw [hwant];simp only [wpList] at h;split
  ·rename_i hw
   rw [if_pos hw] at h;refine .inl ?_;rcases h with h | ⟨_,a₀,w₀,hq⟩
   case inr=>exact hq.elim
   unfold Oper.wp at *
   rw [hexec]
   generalize (execOp A.eval o).run P w=r at *
   cases r with
   | ok n w' =>
    cases n <;> simp only [Oper.upon] at h ⊢
    case value v=>exact next v w' h.1 h.2
    case skip=>exact next undef w' h.1 h.2
    case defer d =>
     exfalso;have:=congrArg Act.defers h.1;rw [zbq] at this;exact absurd this (by simp)
    case enter f args =>
     refine Calls.mono h fun e w'' he=>?_
     cases e with
     | returned v=>exact next v w'' he.1 he.2
     | panicked c=>exact he.elim
     | outgrown=>obtain ⟨_,_,hq⟩:=he;exact hq.elim
    case row row args=>exact Rows.mono h fun v w'' he=>next v w'' he.1 he.2
   | halt x w'=>cases x <;> simp only [Oper.upon] at h <;> exact h.elim
  ·rename_i hw
   rw [if_neg hw] at h;exact next undef w h.1 h.2

theorem zb8 (l:List Oper):∀ (a:Act) (vs:List Value) (t:Nat),(∀ o ∈ l,o.dst≠some t)->(fill a l vs).tmps[t]? = a.tmps[t]?:=by
 induction l with
 | nil=>intro a vs t _;cases vs <;> rfl
 | cons o l ih =>
  intro a vs t h
  cases vs with
  | nil=>rfl
  | cons v vs =>
   show (fill (a.put o.dst v) l vs).tmps[t]? = _;rw [ih _ _ _ (fun p hp=>h p (List.mem_cons_of_mem _ hp)),zcn (h o (List.mem_cons_self ..))]
theorem zbS (l:List Oper):∀ (a:Act) (vs:List Value),(fill a l vs).tmps.size=a.tmps.size:=by
 induction l with
 | nil=>intro a vs;cases vs <;> rfl
 | cons o l ih =>
  intro a vs
  cases vs with
  | nil=>rfl
  | cons v vs=>show (fill (a.put o.dst v) l vs).tmps.size=_;rw [ih,za8]
theorem zdl (l:List Oper):∀ (a:Act) (vs:List Value),(fill a l vs).defers=a.defers:=by
 induction l with
 | nil=>intro a vs;cases vs <;> rfl
 | cons o l ih =>
  intro a vs
  cases vs with
  | nil=>rfl
  | cons v vs=>show (fill (a.put o.dst v) l vs).defers=_;rw [ih,zbq]

theorem zgT {id:Nat} {l:List Oper} {w:World} (vs:List Value) (E:World->Prop) (hm:P.follows .mixedOrders=true)
  (hB:(zbJ l.toArray && (zba l.toArray && Region.noSelect l.toArray))=true) (hE:E w.drew) (hs:stepsOk P l.toArray (fill a0 l vs) E l) (hfin:∀ w,E w->Q .normal (fill a0 l vs) w):(Code.region id l.toArray true).wp P Q a0 w:=by
 rw [Bool.and_eq_true,Bool.and_eq_true] at hB;refine wp_region_any hm ?_;have hc:(Array.replicate l.toArray.size false).toList.count false<=l.toArray.size:=by simp
 refine zlX (a0:=a0) (A:=fill a0 l vs) (E:=E) hB.1 hB.2.2 (fun t ht=>?_) hs hfin hB.2.1 _ _ _ _ (by simp) hc ?_
 ·refine (zb8 l a0 vs t fun o ho hd=>?_).symm;obtain ⟨j,hj,e⟩:=List.getElem_of_mem ho;exact ht j o (by simp [hj,e]) hd
 ·refine ⟨(zbS l a0 vs).symm,(zdl l a0 vs).symm,fun t ht=>?_,fun t _=>rfl,hE⟩;obtain ⟨j,o,_,_,hl⟩:=ht;rw [getD_replicate_false] at hl;cases hl
end
def tmpl : List (Option Value) -> Nat -> (Nat -> Value) -> List Value
  | [], _, _ => []
  | some v :: l, n, X => v :: tmpl l (n + 1) X
  | none :: l, n, X => X n :: tmpl l (n + 1) X
theorem zot (n:Nat) (X:Nat->Value):tmpl [] n X=[]:=rfl
theorem zob (v:Value) (l:List (Option Value)) (n:Nat) (X:Nat->Value):tmpl (some v :: l) n X=v :: tmpl l (n+1) X:=rfl
theorem zoc (l:List (Option Value)) (n:Nat) (X:Nat->Value):tmpl (none :: l) n X=X n :: tmpl l (n+1) X:=rfl
def zkK (A : Act) (dst : Option Tmp) (w : World) (phi : Value -> World -> Prop) : Exit -> Act -> World -> Prop
  | .normal, a, w' => (∃ v, a = A.put dst v /\ phi v w') /\ Below w.heap.size w w'
  | _, _, _ => False
def zkL (o : Oper) (j : Nat) : Bool := o.after.any fun e => e.on == j && Region.binds .any e
def said (T : List (Option Value)) (phi : Nat -> Value -> World -> Prop) (i : Nat) (v : Value) (w : World) : Prop :=
  match T[i]? with
  | some (some u) => v = u
  | _ => phi i v w
def stepsRel (P : Program) (ops : Array Oper) (A : (Nat -> Value) -> Act) (T : List (Option Value)) (phi : Nat -> Value -> World -> Prop) (w0 : World) : Nat -> List Oper -> Prop
  | _, [] => True
  | i, o :: l => (∀ X w, Below w0.heap.size w0 w -> (∀ j, zkL o j = true -> phi j (X j) w) -> wpList P ops (zkK (A X) o.dst w (said T phi i)) [o] (A X) w) /\ stepsRel P ops A T phi w0 (i + 1) l
theorem stepsRel.nil {P:Program} {ops:Array Oper} {A:(Nat->Value)->Act} {T:List (Option Value)} {phi:Nat->Value->World->Prop} {w0:World} {i:Nat}:stepsRel P ops A T phi w0 i []:=trivial
theorem stepsRel.cons {P:Program} {ops:Array Oper} {A:(Nat->Value)->Act} {T:List (Option Value)} {phi:Nat->Value->World->Prop} {w0:World} {i:Nat} {o:Oper} {l:List Oper}
  (h:∀ X w,Below w0.heap.size w0 w->(∀ j,zkL o j=true->phi j (X j) w)->wpList P ops (zkK (A X) o.dst w (said T phi i)) [o] (A X) w) (h':stepsRel P ops A T phi w0 (i+1) l):stepsRel P ops A T phi w0 i (o :: l):=⟨h,h'⟩
theorem stepsRel.get {P:Program} {ops:Array Oper} {A:(Nat->Value)->Act} {T:List (Option Value)} {phi:Nat->Value->World->Prop} {w0:World}:∀ {l:List Oper} {k:Nat},stepsRel P ops A T phi w0 k l->∀ i o,l[i]? = some o ->
  ∀ X w,Below w0.heap.size w0 w->(∀ j,zkL o j=true->phi j (X j) w)->wpList P ops (zkK (A X) o.dst w (said T phi (k+i))) [o] (A X) w
 | [],_,_,i,o,h=>by simp at h
 | p :: l,k,hs,0,o,h=>by simp at h;subst h;exact hs.1
 | p :: l,k,hs,i+1,o,h=>by
  have:=stepsRel.get hs.2 i o (by simpa using h);rw [show k+(i+1)=k+1+i from by omega];exact this

theorem zo9:∀ (T:List (Option Value)) (n:Nat) (X:Nat->Value) (i:Nat),(tmpl T n X)[i]? = (T[i]?).map fun t=>t.getD (X (n+i))
 | [],_,_,i=>by simp [tmpl]
 | some v :: l,n,X,0=>rfl
 | none :: l,n,X,0=>rfl
 | some v :: l,n,X,i+1=>by rw [zob,List.getElem?_cons_succ,zo9 l,List.getElem?_cons_succ,show n+1+i=n+(i+1) from by omega]
 | none :: l,n,X,i+1=>by rw [zoc,List.getElem?_cons_succ,zo9 l,List.getElem?_cons_succ,show n+1+i=n+(i+1) from by omega]

def zcg : List Oper -> Bool
  | [] => true
  | o :: l => (match o.dst with | none => true | some d => l.all fun p => p.dst != some d) && zcg l
theorem zpN:∀ (l:List Oper) (a:Act) (vs:List Value) (i:Nat) (o:Oper) (t:Nat) (v:Value),zcg l=true->l[i]? = some o->o.dst=some t->vs[i]? = some v->t < a.tmps.size->(fill a l vs).tmps[t]? = some v
 | [],_,_,i,o,t,v,_,h,_,_,_=>by simp at h
 | p :: l,a,[],i,o,t,v,_,_,_,h,_=>by simp at h
 | p :: l,a,u :: vs,0,o,t,v,ho,h,hd,hv,ht=>by
  simp at h hv;subst h;subst hv;rw [zfb];simp only [zcg,hd,Bool.and_eq_true,List.all_eq_true] at ho
  rw [zb8 l _ vs t (fun q hq=>by simpa using ho.1 q hq),hd,zbM ht]
 | p :: l,a,u :: vs,i+1,o,t,v,ho,h,hd,hv,ht=>by
  rw [zfb];simp only [zcg,Bool.and_eq_true] at ho;exact zpN l _ vs i o t v ho.2 (by simpa using h) hd (by simpa using hv) (by rw [za8];exact ht)
theorem zcB:∀ (l:List Oper) (i j:Nat) (o p:Oper) (t:Nat),zcg l=true->l[i]? = some o->l[j]? = some p->o.dst=some t->p.dst=some t->i=j
 | [],i,_,_,_,_,_,h,_,_,_=>by simp at h
 | q :: l,0,0,_,_,_,_,_,_,_,_=>rfl
 | q :: l,0,j+1,o,p,t,ho,h1,h2,d1,d2=>by
  simp at h1 h2;subst h1;simp only [zcg,d1,Bool.and_eq_true,List.all_eq_true] at ho;have:=ho.1 p (List.mem_of_getElem? h2)
  simp [d2] at this
 | q :: l,i+1,0,o,p,t,ho,h1,h2,d1,d2=>by
  simp at h1 h2;subst h2;simp only [zcg,d2,Bool.and_eq_true,List.all_eq_true] at ho;have:=ho.1 o (List.mem_of_getElem? h1)
  simp [d1] at this
 | q :: l,i+1,j+1,o,p,t,ho,h1,h2,d1,d2=>by
  simp only [zcg,Bool.and_eq_true] at ho;have:=zcB l i j o p t ho.2 (by simpa using h1) (by simpa using h2) d1 d2;omega

structure InvR (l : List Oper) (a0 : Act) (T : List (Option Value)) (phi : Nat -> Value -> World -> Prop) (w0 : World) (listed : Array Bool) (X : Nat -> Value) (a : Act) (w : World) : Prop where
  size : a.tmps.size = a0.tmps.size
  defers : a.defers = a0.defers
  done : ∀ t, zen l.toArray listed t -> a.tmps[t]? = (fill a0 l (tmpl T 0 X)).tmps[t]?
  left : ∀ t, ¬ zen l.toArray listed t -> a.tmps[t]? = a0.tmps[t]?
  phi : ∀ j, listed.getD j false = true -> phi j (X j) w
  world : Below w0.heap.size w0 w

section
variable {P : Program} {l : List Oper} {a0 : Act} {T : List (Option Value)} {phi : Nat -> Value -> World -> Prop} {w0 : World} {Q : Exit -> Act -> World -> Prop}

theorem zsg (honce:zcg l=true) {X X':Nat->Value} {i:Nat} (hX:∀ j,j≠i->X' j=X j) {t:Nat} (ht:∀ o,l[i]? = some o->o.dst≠some t) (hlen:T.length=l.length) :
  (fill a0 l (tmpl T 0 X')).tmps[t]? = (fill a0 l (tmpl T 0 X)).tmps[t]?:=by
 by_cases hw:∃ (j:Nat) (p:Oper),l[j]? = some p/\p.dst=some t
 ·obtain ⟨j,p,hp,hd⟩:=hw;have hji:j≠i:=fun e=>by subst e;exact ht p hp hd
  have hjl:j < l.length:=(List.getElem?_eq_some_iff.1 hp).1;have hTj:T[j]? = some T[j]:=List.getElem?_eq_getElem (by omega);rcases Nat.lt_or_ge t a0.tmps.size with hlt | hge
  ·rw [zpN l a0 _ j p t (T[j].getD (X' (0+j))) honce hp hd (by rw [zo9,hTj];rfl) hlt,zpN l a0 _ j p t (T[j].getD (X (0+j))) honce hp hd (by rw [zo9,hTj];rfl) hlt,Nat.zero_add,hX j hji]
  ·rw [Array.getElem?_eq_none (by rw [zbS];exact hge),Array.getElem?_eq_none (by rw [zbS];exact hge)]
 ·rw [zb8 l a0 _ t (fun o ho hd=>by obtain ⟨j,hj,e⟩:=List.getElem_of_mem ho;exact hw ⟨j,o,by simp [hj,e],hd⟩),zb8 l a0 _ t (fun o ho hd=>by obtain ⟨j,hj,e⟩:=List.getElem_of_mem ho;exact hw ⟨j,o,by simp [hj,e],hd⟩)]

end
def zcK (a : Act) (dst : Option Tmp) (v : Value) (E : World -> Prop) : Exit -> Act -> World -> Prop
  | .normal, a', w => a' = a.put dst v /\ E w
  | _, _, _ => False
def stepsSeq (P : Program) (ops : Array Oper) (E : World -> Prop) (F : Act -> Prop) : List Oper -> Act -> Prop
  | [], a => F a
  | o :: l, a => ∃ v, (∀ w, E w -> wpList P ops (zcK a o.dst v E) [o] a w) /\ stepsSeq P ops E F l (a.put o.dst v)
theorem zcV {P:Program} {ops:Array Oper} {E:World->Prop} {o:Oper} {a:Act} {v:Value} {w:World} (h:wpList P ops (zbb (a.put o.dst v) E) [o] a w):wpList P ops (zcK a o.dst v E) [o] a w:=by
 have e:zbb (a.put o.dst v) E=zcK a o.dst v E:=by
  funext x a' w'
  cases x <;> rfl
 rw [<- e];exact h
theorem stepsSeq.cons {P:Program} {ops:Array Oper} {E:World->Prop} {F:Act->Prop} {o:Oper} {l:List Oper} {a:Act} {v:Value}
  (h:∀ w,E w->wpList P ops (zbb (a.put o.dst v) E) [o] a w) (h':stepsSeq P ops E F l (a.put o.dst v)):stepsSeq P ops E F (o :: l) a:=⟨v,fun w hw=>zcV (h w hw),h'⟩
theorem stepsSeq.nil {P:Program} {ops:Array Oper} {E:World->Prop} {F:Act->Prop} {a:Act} (h:F a):stepsSeq P ops E F [] a:=h

section
variable {P : Program} {E : World -> Prop}
theorem zec {ops:Array Oper} (hsel:Region.noSelect ops=true) {i:Nat} {o:Oper} (ho:ops[i]? = some o) {a A:Act} {v:Value} (hsz:a.tmps.size=A.tmps.size) (hev:∀ t ∈ o.looksAt ops,a.tmps[t]? = A.tmps[t]?) (hA:A.put o.dst v=A) {w:World}
  (h:wpList P ops (zcK a o.dst v E) [o] a w):wpList P ops (zbb A E) [o] A w:=by
 have hexec:execOp a.eval o=execOp A.eval o:=execOp_congr o (fun cs b=>Region.noSelect_spec hsel i o cs b ho) fun x hx=>by
  cases x with
  | tmp t =>
   have:=hev t (List.mem_append_left _ (List.mem_filterMap.2 ⟨.tmp t,by simpa using hx,rfl⟩))
   simp [Act.eval,this]
  | _=>rfl
 have hwant:Region.wanted o (yielded ops a.tmps)=Region.wanted o (yielded ops A.tmps):=by
  unfold Region.wanted
  cases hg:o.guard with
  | none=>rfl
  | some gw =>
   obtain ⟨g,want⟩:=gw
   have:yielded ops a.tmps g=yielded ops A.tmps g:=by
    unfold yielded
    cases ht:(ops[g]?).bind (·.dst) with
    | none=>rfl
    | some t =>
     have:=hev t (List.mem_append_right _ (by simp [hg,ht]));simp [this]
   simp only [this]
 have put_inj:∀ {u:Value},a.put o.dst u=a.put o.dst v->A.put o.dst u=A:=by
  intro u hu
  cases hd:o.dst with
  | none=>rfl
  | some d =>
   rw [hd] at hu hA;rcases Nat.lt_or_ge d a.tmps.size with hlt | hge
   ·have h1:=congrArg (fun x:Act=>x.tmps[d]?) hu;simp only [zbM hlt] at h1;cases h1;exact hA
   ·have hge':A.tmps.size<=d:=by omega
    simp [Act.put,Array.setIfInBounds,Nat.not_lt.2 hge']
 simp only [wpList] at h ⊢;rw [<- hwant];split
 ·rename_i hw
  rw [if_pos hw] at h;rcases h with h | ⟨hcut,a₀,w₀,hq⟩
  case inr=>exact hq.elim
  refine .inl ?_
  unfold Oper.wp at *
  rw [<- hexec]
  generalize (execOp a.eval o).run P w=r at *
  cases r with
  | ok n w' =>
   cases n <;> simp only [Oper.upon] at h ⊢
   case value u=>exact ⟨put_inj h.1,h.2⟩
   case skip=>exact ⟨put_inj h.1,h.2⟩
   case defer d =>
    exfalso;have:=congrArg Act.defers h.1;rw [zbq,zbq] at this;exact absurd this (by simp)
   case enter f args =>
    refine Calls.mono h fun e w'' he=>?_
    cases e with
    | returned u=>exact ⟨put_inj he.1,he.2⟩
    | panicked c=>exact he.elim
    | outgrown=>obtain ⟨_,_,hq⟩:=he;exact hq.elim
   case row row args=>exact Rows.mono h fun u w'' he=>⟨put_inj he.1,he.2⟩
  | halt x w'=>cases x <;> simp only [Oper.upon] at h <;> exact h.elim
 ·rename_i hw
  rw [if_neg hw] at h;exact ⟨put_inj h.1,h.2⟩

theorem ziN {l0:List Oper} {F:Act->Prop} (hdep:zbJ l0.toArray=true) (hahead:zba l0.toArray=true) (hsel:Region.noSelect l0.toArray=true) (honce:zcg l0=true) :
  ∀ (l pre:List Oper) (a:Act),pre++l=l0->stepsSeq P l0.toArray E F l a->∃ vs,F (fill a l vs)/\stepsOk P l0.toArray (fill a l vs) E l
 | [],pre,a,_,h=>⟨[],h,trivial⟩
 | o :: l,pre,a,hp,h=>by
  obtain ⟨v,h1,h2⟩:=h;obtain ⟨vs,h3,h4⟩:=ziN hdep hahead hsel honce l (pre++[o]) (a.put o.dst v) (by simpa using hp) h2;have hi:l0.toArray[pre.length]? = some o:=by subst hp;simp
  have hget:∀ j p,l0[j]? = some p->pre.length < j->p ∈ l:=by
   intro j p hj hlt;subst hp;rw [List.getElem?_append_right (by omega)] at hj;rw [show j - pre.length=(j - pre.length - 1)+1 from by omega,List.getElem?_cons_succ] at hj;exact List.mem_of_getElem? hj
  have hput:∀ t,o.dst=some t->∀ p ∈ l,p.dst≠some t:=by
   intro t ht p hpl hpd;obtain ⟨j,hj,e⟩:=List.getElem_of_mem hpl;have h1:l0[pre.length]? = some o:=by simpa using hi
   have h2:l0[pre.length+(j+1)]? = some p:=by
    subst hp;rw [List.getElem?_append_right (by omega)];simp [hj,e]
   have:=zcB l0 _ _ _ _ t honce h1 h2 ht hpd;omega
  refine ⟨v :: vs,h3,?_,h4⟩;intro w hw;rw [zfb];refine zec hsel hi (a:=a) (v:=v) (by rw [zbS,za8]) (fun t ht=>?_) ?_ (h1 w hw)
  · -- where it looks nothing from o on writes
   have hno:∀ p ∈ o :: l,p.dst≠some t:=by
    intro p hpl hpd;obtain ⟨j,hj,e⟩:=List.getElem_of_mem hpl
    have hjp:l0.toArray[pre.length+j]? = some p:=by
     subst hp;simp only [List.getElem?_toArray];rw [List.getElem?_append_right (by omega),Nat.add_sub_cancel_left,List.getElem?_eq_getElem hj,e]
    obtain ⟨ed,he,hb,hej⟩:=zcA hdep hi ht hjp hpd;unfold zba at hahead;rw [List.all_eq_true] at hahead;have h1:=hahead pre.length (List.mem_range.2 (Array.getElem?_eq_some_iff.1 hi).1);rw [hi] at h1;simp only [Array.all_eq_true_iff_forall_mem] at h1;have h2:=h1 ed he;rw [hb] at h2;have h3:ed.on < pre.length:=by simpa using h2
    omega
   rw [zb8 l _ vs t (fun p hp=>hno p (List.mem_cons_of_mem _ hp)),zcn (hno o (List.mem_cons_self ..))]
  ·cases hd:o.dst with
   | none=>rfl
   | some d =>
    have hsz:=zbS l (a.put (some d) v) vs;rcases Nat.lt_or_ge d a.tmps.size with hlt | hge
    ·have hg:=zb8 l (a.put (some d) v) vs d (hput d hd);rw [zbM hlt] at hg;have hlt':d < (fill (a.put (some d) v) l vs).tmps.size:=by rw [hsz,za8];exact hlt
     have hv:(fill (a.put (some d) v) l vs).tmps[d]=v:=by rw [Array.getElem?_eq_getElem hlt'] at hg;exact Option.some.inj hg
     generalize fill (a.put (some d) v) l vs=A at *
     have:(A.tmps.setIfInBounds d v)=A.tmps:=by
      apply Array.ext_getElem?;intro t;by_cases e:d=t
      ·subst e;simp [hlt',hv]
      ·rw [Array.getElem?_setIfInBounds_ne e]
     unfold Act.put;simp only [this]
    ·have hge':(fill (a.put (some d) v) l vs).tmps.size<=d:=by rw [hsz,za8];exact hge
     generalize fill (a.put (some d) v) l vs=A at *
     simp [Act.put,Array.setIfInBounds,Nat.not_lt.2 hge']

theorem zac {id:Nat} {l:List Oper} {a0:Act} {Q:Exit->Act->World->Prop} {w:World} (E:World->Prop) (hm:P.follows .mixedOrders=true)
  (hB:(zbJ l.toArray && (zba l.toArray && (Region.noSelect l.toArray && zcg l)))=true) (hE:E w.drew) (hs:stepsSeq P l.toArray E (fun a=>∀ w,E w->Q .normal a w) l a0):(Code.region id l.toArray true).wp P Q a0 w:=by
 rw [Bool.and_eq_true,Bool.and_eq_true,Bool.and_eq_true] at hB;obtain ⟨vs,h1,h2⟩:=ziN hB.1 hB.2.1 hB.2.2.1 hB.2.2.2 l [] a0 rfl hs;exact zgT vs E hm (by rw [hB.1,hB.2.1,hB.2.2.1];rfl) hE h2 h1
end
theorem zaR {P:Program} {ops:Array Oper} {o:Oper} {a:Act} {K:Act->World->Prop} {Q:Exit->Act->World->Prop} {E:Prop} {w:World} (hgd:o.guard=none) (s x:Operand) (t:TypeId)
  (ho:o.op=.call { callee:=.builtin .append,args:=#[s,x],argTypes:=#[t,t] })
  {base:Nat} {e:TypeId} {size:Nat} {v:Value} {n:Nat} {xs:List Value} (hown:w.ownsRow base e size v n xs) {z:Value} {bytes:Nat}
  (hi:(P.info? e).map (fun i=>(i.zero,i.size,i.bytes))=some (some z,size,bytes)) (ht:P.underlying t=some (.slice e)) (hzs:z.cells.size=size) (hsz:0 < size)
  (hs:a.eval s=v) {m:Nat} {cs:List Value} {v2:Value} (hsl:Sl w size m cs v2) (hx:a.eval x=v2) (h1:cs.all (fun u=>u.oneCell')=true)
  (h63:n+m<=maxLen) (hbytes:(n+m) * bytes<=140737488355328) (hbase:base<=w.heap.size)
  (h:∀ v' w',w'.ownsRow base e size v' (n+m) (xs++cs)->w.grownBy w' v.ownBlock->Below base w w'->(v'.ownBlock=v.ownBlock∨∃ g,v'.ownBlock=some g/\w.heap.size<=g)->K (a.put o.dst v') w') :
  if Region.wanted o (yielded ops a.tmps)=true then Oper.wp P o a w K Q else E:=by
 have hwant:Region.wanted o (yielded ops a.tmps)=true:=by simp [Region.wanted,hgd]
 rw [if_pos hwant];obtain ⟨i,hi,hz0,hz1,hz2⟩:=info_parts hi;obtain ⟨ad,cap,rfl,hmc,hcm,hcs,hcell⟩:=hsl;by_cases hm:0 < m
 ·obtain ⟨b,off,rfl,hc⟩:=hcell hm
  obtain ⟨v',w',hr,ho',hg,_,hat⟩:=run_append_own_at (P:=P) w base t o.type e i z size bytes ht hi hz0 hz1 hz2 hzs hsz v n xs hown ⟨b,off,none⟩ m cap cs hcs (by
   intro j u hu
   have hj:j < m * size:=by
    rcases Nat.lt_or_ge j (m * size) with h | h
    ·exact h
    ·rw [List.getElem?_eq_none (by omega)] at hu;cases hu
   have:(⟨b,off,none⟩:Addr).add j=⟨b,off+j,none⟩:=by unfold Addr.add;split <;> simp_all
   rw [this,hc j hj]
   exact hu) (fun u hu=>List.all_eq_true.1 h1 u hu) h63 hbytes hbase
  unfold Oper.wp execOp;simp only [ho,resolve,invoke,builtin,Sem.run_bind,Sem.run_pure,Result.andThen_ok,List.map_toArray,List.map_cons,List.map_nil,hs,hx,hr];exact h v' w' ho' hg (Below.of_grown hg hbase (fun k hk=>(hown.lt k hk).1)) (hat.imp id fun e=>⟨_,e,zr _⟩)
 ·obtain rfl:m=0:=by omega
  obtain rfl:cs=[]:=List.eq_nil_of_length_eq_zero (by simpa using hcs)
  have hf:∃ b cap',v=.slice b n cap'/\n<=cap':=by
   rcases hown.2 with ⟨rfl,rfl⟩ | ⟨g,cap',cur,rfl,_,_,hn,_⟩
   ·exact ⟨none,0,rfl,zr _⟩
   ·exact ⟨_,_,rfl,hn⟩
  obtain ⟨b,cap',hv,hnc⟩:=hf;unfold Oper.wp execOp;have hr:=zfH (P:=P) (w:=w) (t:=t) (ty:=o.type) ht hi b ad (c:=cap) hnc;simp only [ho,resolve,invoke,builtin,Sem.run_bind,Sem.run_pure,Result.andThen_ok,List.map_toArray,List.map_cons,List.map_nil,hs,hx,hv,hr];refine (h (.slice b n cap') w ?_ ⟨rfl,rfl,rfl,zr _,fun _ _ _=>rfl⟩ (Below.refl _ _) (.inl (by rw [hv])));rw [<- hv];simpa using hown
section
variable {P : Program} {ops : Array Oper} {a0 A : Act} {E : World -> Prop} {Q : Exit -> Act -> World -> Prop}

def zcy (n size : Nat) : Array Bool := ((List.range size).map fun i => decide (i < n)).toArray
theorem zfy {n:Nat} {listed:Array Bool} (inv:HeadInv .any ops n listed) (hall:∀ i,i < n->i < ops.size->listed.getD i true=true):listed=zcy n ops.size:=by
 apply Array.ext
 ·simp [zcy,inv.size]
 ·intro i h1 h2;have hs:i < ops.size:=by rw [<- inv.size];exact h1
  simp only [zcy,List.getElem_toArray,List.getElem_map,List.getElem_range];by_cases h:i < n
  ·have:=hall i h hs;simpa [h1,h] using this
  ·have:=inv.tail i (by omega) hs;simpa [h1,h] using this

theorem zkM {n:Nat} (hdep:zbJ ops=true) (hahead:zba ops=true) (hsel:Region.noSelect ops=true) (hsink:Region.sinkB .any ops n=true) (hchain:Region.chainB .any ops n=true) (hn:n < ops.size)
  (hA0:∀ t,(∀ (j:Nat) (o:Oper),j < n->ops[j]? = some o->o.dst≠some t)->a0.tmps[t]? = A.tmps[t]?)
  (hs:∀ (i:Nat) (o:Oper),i < n->ops[i]? = some o->∀ w,E w->wpList P ops (zbb A E) [o] A w)
  (hfin:∀ w,E w->wpAny P .any ops Q (ops.size - n) (zcy n ops.size) A w) :
  ∀ (fuel:Nat) (listed:Array Bool) (a:Act) (w:World),HeadInv .any ops n listed->listed.toList.count false=fuel->InvJ ops a0 A E listed a w->wpAny P .any ops Q fuel listed a w:=by
 have fin:∀ (listed:Array Bool) (a:Act) (w:World) (fuel:Nat),HeadInv .any ops n listed->listed.toList.count false=fuel->InvJ ops a0 A E listed a w->(∀ i,i < n->i < ops.size->listed.getD i true=true)->wpAny P .any ops Q fuel listed a w:=by
  intro listed a w fuel inv hc J hall;have hl:=zfy inv hall
  have hct:fuel=ops.size - n:=by
   rw [<- hc,hl];unfold zcy
   have:∀ m,((List.range m).map fun i=>decide (i < n)).count false=m - n:=by
    intro m
    induction m with
    | zero=>simp
    | succ m ih =>
     rw [List.range_succ,List.map_append,List.count_append,ih];by_cases h:m < n
     ·simp [h];omega
     ·simp [h];omega
   exact this _
  have:a=A:=by
   have ht:a.tmps=A.tmps:=by
    apply Array.ext_getElem?;intro t;by_cases hw:zen ops listed t
    ·exact J.done t hw
    ·rw [J.left t hw];refine hA0 t fun j o hj ho hd=>hw ⟨j,o,ho,hd,?_⟩
     have h1:=hall j hj (Array.getElem?_eq_some_iff.1 ho).1;have h2:j < listed.size:=by rw [inv.size];exact (Array.getElem?_eq_some_iff.1 ho).1
     simpa [h2] using h1
   cases a;cases A;have:=J.defers;simp_all
  rw [this,hl,hct];exact hfin w J.world
 intro fuel
 induction fuel with
 | zero =>
  intro listed a w inv hc J;exfalso;have h1:=inv.tail n (zr _) hn;rw [List.count_eq_zero] at hc;apply hc;have h2:n < listed.size:=by rw [inv.size];exact hn
  have:listed[n]=false:=by simpa [h2] using h1
  rw [<- this]
  simp
 | succ fuel ih =>
  intro listed a w inv hc J;by_cases hall:∀ i,i < n->i < ops.size->listed.getD i true=true
  ·exact fin listed a w _ inv hc J hall
  ·have hex:∃ i,i < n/\listed.getD i true=false:=by
    refine Classical.byContradiction fun hno=>hall fun i hi _=>?_
    rw [<- Bool.not_eq_false];exact fun h=>hno ⟨i,hi,h⟩
   obtain ⟨i0,hi0,hun0⟩:=hex;have htail:=tail_waits hsink hchain hn inv _ i0 rfl hi0 hun0;refine ⟨fun hr=>?_,fun i hi=>?_⟩
   ·exfalso;have:=zcU hahead listed inv.size hr i0 (by omega);rw [getD_both hun0] at this;cases this
   have hin:i < n:=by
    rcases Nat.lt_or_ge i n with h | h
    ·exact h
    ·exact absurd hi (htail i h)
   obtain ⟨hf,o,ho,hall'⟩:=mem_ready.1 hi;have hlt:i < listed.size:=by rw [inv.size];exact (Array.getElem?_eq_some_iff.1 ho).1
   have hcount:(listed.setIfInBounds i true).toList.count false=fuel:=by
    have e1:listed[i]=false:=by simpa [hlt] using hf
    have e2:(listed.setIfInBounds i true).toList=listed.toList.set i true:=by simp
    rw [e2,List.count_set (by simpa using hlt)];have e3:listed.toList[i]'(by simpa using hlt)=false:=by simpa using e1
    rw [e3]
    have hpos:0 < listed.toList.count false:=by
     rw [List.count_pos_iff,<- e3];simp
    simp;simp at hc hpos;omega
   have next:∀ v w',A.put o.dst v=A->E w'->wpAny P .any ops Q fuel (listed.setIfInBounds i true) (a.put o.dst v) w':=fun v w' hA hE =>
    ih _ _ _ (inv.set hi hin) hcount (J.put ho inv.size hA hE)
   have h:=hs i o hin ho w J.world;have hev:∀ t ∈ o.looksAt ops,a.tmps[t]? = A.tmps[t]?:=fun t ht=>J.eval hdep (fun t h=>hA0 t fun j p _ hp=>h j p hp) ho hi ht
   have hexec:execOp a.eval o=execOp A.eval o:=execOp_congr o (fun cs b=>Region.noSelect_spec hsel i o cs b ho) fun x hx=>by
    cases x with
    | tmp t =>
     have:=hev t (List.mem_append_left _ (List.mem_filterMap.2 ⟨.tmp t,by simpa using hx,rfl⟩))
     simp [Act.eval,this]
    | _=>rfl
   have hwant:Region.wanted o (yielded ops a.tmps)=Region.wanted o (yielded ops A.tmps):=by
    unfold Region.wanted
    cases hg:o.guard with
    | none=>rfl
    | some gw =>
     obtain ⟨g,want⟩:=gw
     have:yielded ops a.tmps g=yielded ops A.tmps g:=by
      unfold yielded
      cases ht:(ops[g]?).bind (·.dst) with
      | none=>rfl
      | some t =>
       have:=hev t (List.mem_append_right _ (by simp [hg,ht]));simp [this]
     simp only [this]
   unfold wpOp;simp only [ho];rw [hwant];simp only [wpList] at h;split
   ·rename_i hw
    rw [if_pos hw] at h;refine .inl ?_;rcases h with h | ⟨_,a₀,w₀,hq⟩
    case inr=>exact hq.elim
    unfold Oper.wp at *
    rw [hexec]
    generalize (execOp A.eval o).run P w=r at *
    cases r with
    | ok n w' =>
     cases n <;> simp only [Oper.upon] at h ⊢
     case value v=>exact next v w' h.1 h.2
     case skip=>exact next undef w' h.1 h.2
     case defer d =>
      exfalso;have:=congrArg Act.defers h.1;rw [zbq] at this;exact absurd this (by simp)
     case enter f args =>
      refine Calls.mono h fun e w'' he=>?_
      cases e with
      | returned v=>exact next v w'' he.1 he.2
      | panicked c=>exact he.elim
      | outgrown=>obtain ⟨_,_,hq⟩:=he;exact hq.elim
     case row row args=>exact Rows.mono h fun v w'' he=>next v w'' he.1 he.2
    | halt x w'=>cases x <;> simp only [Oper.upon] at h <;> exact h.elim
   ·rename_i hw
    rw [if_neg hw] at h;exact next undef w h.1 h.2
end

section
variable {P : Program} {E : World -> Prop}
theorem zjL {l0:List Oper} {F:Act->Prop} (hdep:zbJ l0.toArray=true) (hahead:zba l0.toArray=true) (hsel:Region.noSelect l0.toArray=true) (honce:zcg l0=true) (post:List Oper) :
  ∀ (l pre:List Oper) (a:Act),pre++l++post=l0->stepsSeq P l0.toArray E F l a->∃ vs,F (fill a l vs)/\stepsOk P l0.toArray (fill a l vs) E l
 | [],pre,a,_,h=>⟨[],h,trivial⟩
 | o :: l,pre,a,hp,h=>by
  obtain ⟨v,h1,h2⟩:=h;obtain ⟨vs,h3,h4⟩:=zjL hdep hahead hsel honce post l (pre++[o]) (a.put o.dst v) (by simpa using hp) h2;have hi:l0.toArray[pre.length]? = some o:=by subst hp;simp
  have hat:∀ j p,(o :: l)[j]? = some p->l0[pre.length+j]? = some p:=by
   intro j p hj;subst hp;have hlt:=(List.getElem?_eq_some_iff.1 hj).1;rw [List.append_assoc,List.getElem?_append_right (by omega),Nat.add_sub_cancel_left,List.getElem?_append_left hlt];exact hj
  have hput:∀ t,o.dst=some t->∀ p ∈ l,p.dst≠some t:=by
   intro t ht p hpl hpd;obtain ⟨j,hj,e⟩:=List.getElem_of_mem hpl;have h1:l0[pre.length]? = some o:=by simpa using hi
   have h2:=hat (j+1) p (by rw [List.getElem?_cons_succ,List.getElem?_eq_getElem hj,e]);have:=zcB l0 _ _ _ _ t honce h1 h2 ht hpd;omega
  refine ⟨v :: vs,h3,?_,h4⟩;intro w hw;rw [zfb];refine zec hsel hi (a:=a) (v:=v) (by rw [zbS,za8]) (fun t ht=>?_) ?_ (h1 w hw)
  ·have hno:∀ p ∈ o :: l,p.dst≠some t:=by
    intro p hpl hpd;obtain ⟨j,hj,e⟩:=List.getElem_of_mem hpl
    have hjp:l0.toArray[pre.length+j]? = some p:=by
     rw [List.getElem?_toArray];exact hat j p (by rw [List.getElem?_eq_getElem hj,e])
    obtain ⟨ed,he,hb,hej⟩:=zcA hdep hi ht hjp hpd;unfold zba at hahead;rw [List.all_eq_true] at hahead;have h1:=hahead pre.length (List.mem_range.2 (Array.getElem?_eq_some_iff.1 hi).1);rw [hi] at h1;simp only [Array.all_eq_true_iff_forall_mem] at h1;have h2:=h1 ed he;rw [hb] at h2;have h3:ed.on < pre.length:=by simpa using h2
    omega
   rw [zb8 l _ vs t (fun p hp=>hno p (List.mem_cons_of_mem _ hp)),zcn (hno o (List.mem_cons_self ..))]
  ·cases hd:o.dst with
   | none=>rfl
   | some d =>
    have hsz:=zbS l (a.put (some d) v) vs;rcases Nat.lt_or_ge d a.tmps.size with hlt | hge
    ·have hg:=zb8 l (a.put (some d) v) vs d (hput d hd);rw [zbM hlt] at hg;have hlt':d < (fill (a.put (some d) v) l vs).tmps.size:=by rw [hsz,za8];exact hlt
     have hv:(fill (a.put (some d) v) l vs).tmps[d]=v:=by rw [Array.getElem?_eq_getElem hlt'] at hg;exact Option.some.inj hg
     generalize fill (a.put (some d) v) l vs=A at *
     have:(A.tmps.setIfInBounds d v)=A.tmps:=by
      apply Array.ext_getElem?;intro t;by_cases e:d=t
      ·subst e;simp [hlt',hv]
      ·rw [Array.getElem?_setIfInBounds_ne e]
     unfold Act.put;simp only [this]
    ·have hge':(fill (a.put (some d) v) l vs).tmps.size<=d:=by rw [hsz,za8];exact hge
     generalize fill (a.put (some d) v) l vs=A at *
     simp [Act.put,Array.setIfInBounds,Nat.not_lt.2 hge']

def zhG (l : List Oper) (n : Nat) : Bool :=
  zbJ l.toArray && (zba l.toArray && (Region.noSelect l.toArray && (zcg l && (Region.sinkB .any l.toArray n && (Region.chainB .any l.toArray n && (decide (n < l.toArray.size) && Region.seqB .any l.toArray (l.drop n).length n (zcy n l.toArray.size)))))))
theorem zaW {id:Nat} {l:List Oper} {a0:Act} {Q:Exit->Act->World->Prop} {w:World} (n:Nat) (E:World->Prop) (hm:P.follows .mixedOrders=true)
  (hB:zhG l n=true) (hE:E w.drew) (hs:stepsSeq P l.toArray E (fun a=>∀ w,E w->wpList P l.toArray Q (l.drop n) a w) (l.take n) a0):(Code.region id l.toArray true).wp P Q a0 w:=by
 unfold zhG at hB;simp only [Bool.and_eq_true,decide_eq_true_eq] at hB;obtain ⟨hdep,hahead,hsel,honce,hsink,hchain,hn,hseq⟩:=hB;obtain ⟨vs,h1,h2⟩:=zjL hdep hahead hsel honce (l.drop n) (l.take n) [] a0 (by simp) hs;refine wp_region_any hm ?_
 have hget:∀ i o,i < n->l.toArray[i]? = some o->(l.take n)[i]? = some o:=fun i o hi ho=>by
  rw [List.getElem?_take,if_pos hi];simpa using ho
 have inv0:HeadInv .any l.toArray n (Array.replicate l.toArray.size false):=
  ⟨by simp,fun j oj _ hl=>(by rw [getD_replicate_false] at hl;cases hl),fun t _ ht=>getD_in (by simpa using ht) (getD_replicate_false _ _)⟩
 refine zkM (a0:=a0) (A:=fill a0 (l.take n) vs) (E:=E) hdep hahead hsel hsink hchain hn (fun t ht=>?_) (fun i o hi ho=>h2.get o (List.mem_of_getElem? (hget i o hi ho))) (fun w hw=>?_) _ _ _ _ inv0 (by simp) ?_
 ·refine (zb8 (l.take n) a0 vs t fun o ho hd=>?_).symm;obtain ⟨j,hj,e⟩:=List.getElem_of_mem ho;have hjn:j < n:=by simp at hj;omega
  refine ht j o hjn ?_ hd;rw [List.getElem_take] at e;have hjl:j < l.length:=by simp at hj;omega
  rw [List.getElem?_toArray,List.getElem?_eq_getElem hjl,e]
 ·have hsz:l.toArray.size - n=(l.drop n).length:=by simp
  rw [hsz];exact wpAny_of_seq (l.drop n) n _ _ _ (fun j=>by simp) hseq (h1 w hw)
 ·refine ⟨(zbS (l.take n) a0 vs).symm,(zdl (l.take n) a0 vs).symm,fun t ht=>?_,fun t _=>rfl,hE⟩;obtain ⟨j,o,_,_,hl⟩:=ht;rw [getD_replicate_false] at hl;cases hl
end
theorem zbX (s:ByteArray) (i j:Nat):(s.extract i j).data.toList=(s.data.toList.drop i).take (j - i):=by
 rw [ByteArray.data_extract,Array.toList_extract,List.extract_eq_take_drop]
end Go.Proofs.YtdhikpkecmaplaaGreatDoor
