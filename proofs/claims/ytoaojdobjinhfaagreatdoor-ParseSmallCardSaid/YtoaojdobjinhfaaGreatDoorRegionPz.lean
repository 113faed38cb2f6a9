/- Statements whose order Go leaves open: laws that walk their operations once (all values known; some open; in the order of the text; a call that panics; last operations in one order); and the reference lexer's sign. No condition of its own. -/
import Derived.Test.YtoaojdobjinhfaaGreatDoorLibPz
import Derived.StillTail
import Derived.Deep.RegionLaw
set_option linter.unusedSimpArgs false
set_option linter.unusedVariables false
set_option maxRecDepth 100000
set_option maxHeartbeats 1000000
namespace Go.Proofs.YtoaojdobjinhfaaGreatDoor
open Go.RowKit
def fill (a : Act) : List Oper -> List Value -> Act
  | o :: l, v :: vs => fill (a.put o.dst v) l vs
  | _, _ => a
theorem zfb(a:Act)(o:Oper)(l:List Oper)(v:Value)(vs:List Value):fill a (o::l) (v::vs)=fill (a.put o.dst v) l vs:=rfl
theorem zos(a:Act):fill a [] []=a:=rfl
def zbb (A : Act) (E : World -> Prop) : Exit -> Act -> World -> Prop
  | .normal, a, w => a = A /\ E w
  | _, _, _ => False
def zbJ (ops : Array Oper) : Bool :=
  (List.range ops.size).all fun i => match ops[i]? with
    | none => true
    | some o => (o.looksAt ops).all fun t => (List.range ops.size).all fun j => match ops[j]? with
      | none => true
      | some p => p.dst != some t || o.after.any fun e => e.on == j && Region.binds .any e
def zba (ops : Array Oper) : Bool :=
  (List.range ops.size).all fun i => match ops[i]? with
    | none => true
    | some o => o.after.all fun e => !Region.binds .any e || decide (e.on < i)
def stepsOk (P : Program) (ops : Array Oper) (A : Act) (E : World -> Prop) : List Oper -> Prop
  | [] => True
  | o :: l => (∀ w, E w -> wpList P ops (zbb A E) [o] A w) /\ stepsOk P ops A E l
theorem stepsOk.nil{P:Program}{ops:Array Oper}{A:Act}{E:World->Prop}:stepsOk P ops A E []:=trivial
theorem stepsOk.cons{P:Program}{ops:Array Oper}{A:Act}{E:World->Prop}{o:Oper}{l:List Oper}(h:∀w,E w->wpList P ops (zbb A E) [o] A w)(d:stepsOk P ops A E l):stepsOk P ops A E (o::l):=⟨h,d⟩
theorem stepsOk.get{P:Program}{ops:Array Oper}{A:Act}{E:World->Prop}:∀{l:List Oper},stepsOk P ops A E l->∀o∈l,∀w,E w->wpList P ops (zbb A E) [o] A w
 | [],_,o,h,_,_=>by cases h
 | p::l,h,o,ho,w,hw=>by
  rcases List.mem_cons.1 ho with rfl|d
  ·exact h.1 w hw
  ·exact stepsOk.get h.2 o d w hw
def zen (ops : Array Oper) (listed : Array Bool) (t : Nat) : Prop:= ∃ j o, ops[j]? = some o /\ o.dst = some t /\ listed.getD j false = true
structure InvJ (ops : Array Oper) (a0 A : Act) (E : World -> Prop) (listed : Array Bool) (a : Act) (w : World) : Prop where
  size : a.tmps.size = A.tmps.size
  defers : a.defers = A.defers
  done : ∀ t, zen ops listed t -> a.tmps[t]? = A.tmps[t]?
  left : ∀ t, ¬ zen ops listed t -> a.tmps[t]? = a0.tmps[t]?
  world : E w
theorem zcn{a:Act}{f:Option Tmp}{v:Value}{t:Nat}(h:f≠some t):(a.put f v).tmps[t]? = a.tmps[t]?:=by
 cases f with
 | none=>rfl
 | some d =>
  have g:d≠t:=fun e=>h (by rw[e])
  simp[Act.put,Array.getElem?_setIfInBounds_ne g]
theorem zbM{a:Act}{t:Nat}{v:Value}(h:t<a.tmps.size):(a.put (some t) v).tmps[t]? = some v:=by
 simp[Act.put,h]
theorem za8(a:Act)(d:Option Tmp)(v:Value):(a.put d v).tmps.size=a.tmps.size:=by
 cases d <;> simp[Act.put]
theorem zbq(a:Act)(d:Option Tmp)(v:Value):(a.put d v).defers=a.defers:=by
 cases d <;> rfl
section
variable {P : Program} {ops : Array Oper} {a0 A : Act} {E : World -> Prop} {Q : Exit -> Act -> World -> Prop}
theorem zcA(h:zbJ ops=true){i:Nat}{o:Oper}(m:ops[i]? = some o){t:Nat}(ht:t∈o.looksAt ops){j:Nat}{p:Oper}(hp:ops[j]? = some p)(u:p.dst=some t) :
  ∃e∈o.after,Region.binds .any e=true/\e.on=j:=by
 unfold zbJ at h;rw[List.all_eq_true] at h;have d:=h i (List.mem_range.2 (Array.getElem?_eq_some_iff.1 m).1);simp only[m] at d;rw[List.all_eq_true] at d;have g:=d t ht;rw[List.all_eq_true] at g;have l:=g j (List.mem_range.2 (Array.getElem?_eq_some_iff.1 hp).1);simp only[hp,u,bne_self_eq_false,Bool.false_or] at l;obtain⟨e,q,f⟩:=Array.any_eq_true'.1 l;simp only[yC,beq_iff_eq] at f;exact⟨e,q,f.2,f.1⟩
theorem zcU(h:zba ops=true)(d:Array Bool)(q:d.size=ops.size)(u:Region.ready .any ops d=[]):∀j,j<ops.size->d.getD j false=true:=by
 intro j
 induction j using Nat.strongRecOn with
 | _ j ih =>
  intro i
  cases hl:d.getD j false with
  | true=>rfl
  | false =>
   exfalso;have f:j<d.size:=by omega
   have:j∈Region.ready .any ops d:=by
    refine mem_ready.2 ⟨by simpa[f] using hl,ops[j],Array.getElem?_eq_getElem i,fun e he hb=>?_⟩;unfold zba at h;rw[List.all_eq_true] at h;have g:=h j (List.mem_range.2 i);rw[Array.getElem?_eq_getElem i] at g;simp only[Array.all_eq_true_iff_forall_mem] at g;have l:=g e he;rw[hb] at l;have m:e.on<j:=by simpa using l
    exact ih e.on m (by omega)
   rw[u] at this;cases this
theorem InvJ.put{d:Array Bool}{a:Act}{w w':World}{i:Nat}{o:Oper}{v:Value}(J:InvJ ops a0 A E d a w)(l:ops[i]? = some o)(m:d.size=ops.size)(q:A.put o.dst v=A)(u:E w') :
  InvJ ops a0 A E (d.setIfInBounds i true) (a.put o.dst v) w':=by
 have hi:i<d.size:=by rw[m];exact(Array.getElem?_eq_some_iff.1 l).1
 refine⟨by rw[za8];exact J.size,by rw[zbq];exact J.defers,fun t ht=>?_,fun t ht=>?_,u⟩
 ·by_cases hd:o.dst=some t
  ·rw[hd] at q ⊢;rcases Nat.lt_or_ge t a.tmps.size with f|g
   ·rw[zbM f,<-q,zbM (by rw[<-J.size];exact f)]
   ·rw[Array.getElem?_eq_none (by rw[za8];exact g),Array.getElem?_eq_none (by rw[<-J.size];exact g)]
  ·rw[zcn hd];refine J.done t ?_;obtain⟨j,p,hp,hpd,hl⟩:=ht;refine⟨j,p,hp,hpd,?_⟩;by_cases e:i=j
   ·subst e;rw[l] at hp;cases hp;exact absurd hpd hd
   ·rwa[getD_set_ne false e] at hl
 ·have hd:o.dst≠some t:=fun hd=>ht ⟨i,o,l,hd,by simp[hi]⟩
  rw[zcn hd];exact J.left t fun⟨j,p,hp,hpd,hl⟩=>ht ⟨j,p,hp,hpd,getD_set_true hl⟩
theorem InvJ.eval{d:Array Bool}{a:Act}{w:World}(J:InvJ ops a0 A E d a w)(l:zbJ ops=true)(q:∀t,(∀(j:Nat) (o:Oper),ops[j]? = some o->o.dst≠some t)->a0.tmps[t]? = A.tmps[t]?)
  {i:Nat} {o:Oper} (v:ops[i]? = some o) (B:i∈Region.ready .any ops d) {t:Nat} (ht:t∈o.looksAt ops):a.tmps[t]? = A.tmps[t]?:=by
 by_cases u:∃(j:Nat) (p:Oper),ops[j]? = some p/\p.dst=some t
 ·obtain⟨j,p,hp,hd⟩:=u;obtain⟨e,y,z,m⟩:=zcA l v ht hp hd;obtain⟨_,C,g,f⟩:=mem_ready.1 B;rw[v] at g;cases g;exact J.done t ⟨j,p,hp,hd,by rw[<-m];exact f e y z⟩
 ·rw[J.left t fun⟨j,p,hp,hd,_⟩=>u ⟨j,p,hp,hd⟩];exact q t fun j p hp hd=>u ⟨j,p,hp,hd⟩
theorem zea(d:Region.noSelect ops=true){i:Nat}{o:Oper}(l:ops[i]? = some o){a A:Act}(f:∀t∈o.looksAt ops,a.tmps[t]? = A.tmps[t]?):execOp a.eval o=execOp A.eval o/\Region.wanted o (yielded ops a.tmps)=Region.wanted o (yielded ops A.tmps):=by
 refine⟨execOp_congr o (fun cs b=>Region.noSelect_spec d i o cs b l) fun x hx=>?_,?_⟩
 ·cases x with
  | tmp t =>
   have:=f t (List.mem_append_left _ (List.mem_filterMap.2 ⟨.tmp t,by simpa using hx,rfl⟩))
   simp[Act.eval,this]
  | _=>rfl
 ·unfold Region.wanted
  cases hg:o.guard with
  | none=>rfl
  | some gw =>
   obtain⟨g,j⟩:=gw
   have:yielded ops a.tmps g=yielded ops A.tmps g:=by
    unfold yielded
    cases ht:(ops[g]?).bind (·.dst) with
    | none=>rfl
    | some t =>
     have:=f t (List.mem_append_right _ (by simp[hg,ht]));simp[this]
   simp only[this]
theorem op_move(l:Region.noSelect ops=true){i:Nat}{o:Oper}(y:ops[i]? = some o){a A:Act}(m:∀t∈o.looksAt ops,a.tmps[t]? = A.tmps[t]?){K Q:Exit->Act->World->Prop}{N:Act->World->Prop}{w:World}(h:wpList P ops K [o] A w)(z:∀X w',K .normal X w'->X.defers=A.defers)(u:∀X w',¬K .outgrown X w')
  (next:∀v w',K .normal (A.put o.dst v) w'->N (a.put o.dst v) w') (die:∀c w',K (.panic c) A w'->Q (.panic c) a w'):wpOp P ops Q i N a w:=by
 obtain⟨g,j⟩:=zea l y m;unfold wpOp;simp only[y];rw[j];simp only[wpList] at h;split
 ·rename_i hw
  rw[yP hw] at h;refine .inl ?_;rcases h with h|⟨_,B,C,q⟩
  case inr=>exact(u _ _ q).elim
  unfold Oper.wp at *
  rw[g]
  generalize (execOp A.eval o).run P w=r at *
  cases r with
  | ok n w' =>
   cases n <;> simp only[Oper.upon] at h ⊢
   case value v=>exact next v w' h
   case skip=>exact next undef w' h
   case defer d =>
    exfalso;have:=z _ _ h;rw[zbq] at this;exact absurd this (by simp)
   case enter f args =>
    refine Calls.mono h fun e w'' he=>?_
    cases e with
    | returned v=>exact next v w'' he
    | panicked c=>exact die c w'' he
    | outgrown=>obtain⟨_,_,q⟩:=he;exact(u _ _ q).elim
   case row row args=>exact Rows.mono h fun v w'' he=>next v w'' he
  | halt x w'=>cases x <;> simp only[Oper.upon] at h ⊢ <;> exact die _ _ h
 ·rename_i hw
  rw[yN hw] at h;exact next undef w h
theorem ready_count{d:Array Bool}(g:d.size=ops.size){i:Nat}(hi:i∈Region.ready .any ops d):(d.setIfInBounds i true).toList.count false+1=d.toList.count false:=by
 obtain⟨m,o,q,-⟩:=mem_ready.1 hi;have f:i<d.size:=by rw[g];exact(Array.getElem?_eq_some_iff.1 q).1
 have j:d.toList[i]'(by simpa using f)=false:=by simpa[f] using m
 rw[show(d.setIfInBounds i true).toList=d.toList.set i true by simp,List.count_set (by simpa using f),j];have l:0<d.toList.count false:=by rw[List.count_pos_iff,<-j];simp
 simp only[beq_self_eq_true,if_true,Bool.true_eq_false,beq_iff_eq,if_false];omega
theorem none_ready{d:Array Bool}(f:d.size=ops.size)(g:d.toList.count false<=0):Region.ready .any ops d=[]:=by
 rw[List.eq_nil_iff_forall_not_mem];intro i hi;have:=ready_count f hi;omega
theorem InvJ.done_all{d:Array Bool}{a:Act}{w:World}(J:InvJ ops a0 A E d a w)(g:∀t,(∀(j:Nat) (o:Oper),ops[j]? = some o->o.dst≠some t)->a0.tmps[t]? = A.tmps[t]?)(f:∀j,j<ops.size->d.getD j false=true):a=A:=by
 have ht:a.tmps=A.tmps:=by
  apply Array.ext_getElem?;intro t;by_cases i:∃(j:Nat) (p:Oper),ops[j]? = some p/\p.dst=some t
  ·obtain⟨j,p,hp,hd⟩:=i;exact J.done t ⟨j,p,hp,hd,f j (Array.getElem?_eq_some_iff.1 hp).1⟩
  ·rw[J.left t fun⟨j,p,hp,hd,_⟩=>i ⟨j,p,hp,hd⟩];exact g t fun j p hp hd=>i ⟨j,p,hp,hd⟩
 have:=J.defers;cases a;cases A;simp_all
theorem zlX(l:zbJ ops=true)(g:Region.noSelect ops=true)(m:∀t,(∀(j:Nat) (o:Oper),ops[j]? = some o->o.dst≠some t)->a0.tmps[t]? = A.tmps[t]?)
  (y:stepsOk P ops A E ops.toList) (q:∀w,E w->Q .normal A w) (f:zba ops=true) :
  ∀(fuel:Nat) (d:Array Bool) (a:Act) (w:World),d.size=ops.size->(d.toList.count false<=fuel)->InvJ ops a0 A E d a w->wpAny P .any ops Q fuel d a w:=by
 have fin:∀(d:Array Bool) (a:Act) (w:World),d.size=ops.size->InvJ ops a0 A E d a w->Region.ready .any ops d=[]->Q .normal a w:=by
  intro d a w hls J z;rw[J.done_all m (zcU f d hls z)];exact q w J.world
 intro fuel
 induction fuel with
 | zero=>exact fun d a w hls hc J=>⟨none_ready hls hc,fin d a w hls J (none_ready hls hc)⟩
 | succ fuel ih =>
  intro d a w hls hc J;refine⟨fin d a w hls J,fun i hi=>?_⟩;obtain⟨_,o,u,_⟩:=mem_ready.1 hi;have:=ready_count hls hi
  exact op_move g u (fun t ht=>J.eval l m u hi ht) (y.get o (by simpa using Array.mem_of_getElem? u) w J.world) (fun X w' h=>by rw[h.1]) (fun _ _ h=>h)
   (fun v w' h=>ih _ _ _ (by simpa using hls) (by omega) (J.put u hls h.1 h.2)) (fun _ _ h=>h.elim)
theorem zb8(l:List Oper):∀(a:Act) (vs:List Value) (t:Nat),(∀o∈l,o.dst≠some t)->(fill a l vs).tmps[t]? = a.tmps[t]?:=by
 induction l with
 | nil=>intro a vs t _;cases vs <;> rfl
 | cons o l ih =>
  intro a vs t h
  cases vs with
  | nil=>rfl
  | cons v vs =>
   show(fill (a.put o.dst v) l vs).tmps[t]? = _;rw[ih _ _ _ (fun p hp=>h p (List.mem_cons_of_mem _ hp)),zcn (h o (List.mem_cons_self ..))]
theorem zbS(l:List Oper):∀(a:Act) (vs:List Value),(fill a l vs).tmps.size=a.tmps.size:=by
 induction l with
 | nil=>intro a vs;cases vs <;> rfl
 | cons o l ih =>
  intro a vs
  cases vs with
  | nil=>rfl
  | cons v vs=>show(fill (a.put o.dst v) l vs).tmps.size=_;rw[ih,za8]
theorem zdl(l:List Oper):∀(a:Act) (vs:List Value),(fill a l vs).defers=a.defers:=by
 induction l with
 | nil=>intro a vs;cases vs <;> rfl
 | cons o l ih =>
  intro a vs
  cases vs with
  | nil=>rfl
  | cons v vs=>show(fill (a.put o.dst v) l vs).defers=_;rw[ih,zbq]
theorem zgT{id:Nat}{l:List Oper}{w:World}(vs:List Value)(E:World->Prop)(u:P.follows .mixedOrders=true)
  (f:(zbJ l.toArray&&(zba l.toArray&&Region.noSelect l.toArray))=true) (v:E w.drew) (i:stepsOk P l.toArray (fill a0 l vs) E l) (d:∀w,E w->Q .normal (fill a0 l vs) w):(Code.region id l.toArray true).wp P Q a0 w:=by
 rw[yC,yC] at f;refine wp_region_any u ?_;have q:(Array.replicate l.toArray.size false).toList.count false<=l.toArray.size:=by simp
 refine zlX (a0:=a0) (A:=fill a0 l vs) (E:=E) f.1 f.2.2 (fun t ht=>?_) i d f.2.1 _ _ _ _ (by simp) q ?_
 ·refine(zb8 l a0 vs t fun o ho hd=>?_).symm;obtain⟨j,m,e⟩:=List.getElem_of_mem ho;exact ht j o (by simp[m,e]) hd
 ·refine⟨(zbS l a0 vs).symm,(zdl l a0 vs).symm,fun t ht=>?_,fun t _=>rfl,v⟩;obtain⟨j,o,_,_,g⟩:=ht;rw[getD_replicate_false] at g;cases g
end
def tmpl : List (Option Value) -> Nat -> (Nat -> Value) -> List Value
  | [], _, _ => []
  | some v :: l, n, X => v :: tmpl l (n + 1) X
  | none :: l, n, X => X n :: tmpl l (n + 1) X
theorem zot(n:Nat)(X:Nat->Value):tmpl [] n X=[]:=rfl
theorem zob(v:Value)(l:List (Option Value))(n:Nat)(X:Nat->Value):tmpl (some v::l) n X=v::tmpl l (n+1) X:=rfl
theorem zoc(l:List (Option Value))(n:Nat)(X:Nat->Value):tmpl (none::l) n X=X n::tmpl l (n+1) X:=rfl
def zkL (o : Oper) (j : Nat) : Bool:= o.after.any fun e => e.on == j && Region.binds .any e
theorem zo9:∀(T:List (Option Value)) (n:Nat) (X:Nat->Value) (i:Nat),(tmpl T n X)[i]? = (T[i]?).map fun t=>t.getD (X (n+i))
 | [],_,_,i=>by simp[tmpl]
 | some v::l,n,X,0=>rfl
 | none::l,n,X,0=>rfl
 | some v::l,n,X,i+1=>by rw[zob,List.getElem?_cons_succ,zo9 l,List.getElem?_cons_succ,show n+1+i=n+(i+1) from by omega]
 | none::l,n,X,i+1=>by rw[zoc,List.getElem?_cons_succ,zo9 l,List.getElem?_cons_succ,show n+1+i=n+(i+1) from by omega]
def zcg : List Oper -> Bool
  | [] => true
  | o :: l => (match o.dst with | none => true | some d => l.all fun p => p.dst != some d) && zcg l
theorem zpN:∀(l:List Oper) (a:Act) (vs:List Value) (i:Nat) (o:Oper) (t:Nat) (v:Value),zcg l=true->l[i]? = some o->o.dst=some t->vs[i]? = some v->t<a.tmps.size->(fill a l vs).tmps[t]? = some v
 | [],_,_,i,o,t,v,_,h,_,_,_=>by simp at h
 | p::l,a,[],i,o,t,v,_,_,_,h,_=>by simp at h
 | p::l,a,u::vs,0,o,t,v,ho,h,hd,hv,ht=>by
  simp at h hv;subst h;subst hv;rw[zfb];simp only[zcg,hd,yC,List.all_eq_true] at ho
  rw[zb8 l _ vs t (fun q hq=>by simpa using ho.1 q hq),hd,zbM ht]
 | p::l,a,u::vs,i+1,o,t,v,ho,h,hd,hv,ht=>by
  rw[zfb];simp only[zcg,yC] at ho;exact zpN l _ vs i o t v ho.2 (by simpa using h) hd (by simpa using hv) (by rw[za8];exact ht)
theorem zcB:∀(l:List Oper) (i j:Nat) (o p:Oper) (t:Nat),zcg l=true->l[i]? = some o->l[j]? = some p->o.dst=some t->p.dst=some t->i=j
 | [],i,_,_,_,_,_,h,_,_,_=>by simp at h
 | q::l,0,0,_,_,_,_,_,_,_,_=>rfl
 | q::l,0,j+1,o,p,t,ho,h1,h2,d1,d2=>by
  simp at h1 h2;subst h1;simp only[zcg,d1,yC,List.all_eq_true] at ho;have:=ho.1 p (List.mem_of_getElem? h2)
  simp[d2] at this
 | q::l,i+1,0,o,p,t,ho,h1,h2,d1,d2=>by
  simp at h1 h2;subst h2;simp only[zcg,d2,yC,List.all_eq_true] at ho;have:=ho.1 o (List.mem_of_getElem? h1)
  simp[d1] at this
 | q::l,i+1,j+1,o,p,t,ho,h1,h2,d1,d2=>by
  simp only[zcg,yC] at ho;have:=zcB l i j o p t ho.2 (by simpa using h1) (by simpa using h2) d1 d2;omega
theorem put_self{A:Act}{f:Option Tmp}{v:Value}(h:∀d,f=some d->d<A.tmps.size->A.tmps[d]? = some v):A.put f v=A:=by
 cases hd:f with
 | none=>rfl
 | some d =>
  have:A.tmps.setIfInBounds d v=A.tmps:=by
   apply Array.ext_getElem?;intro t;by_cases e:d=t
   ·subst e;rcases Nat.lt_or_ge d A.tmps.size with g|i
    ·rw[h d hd g];simp[g]
    ·simp[Array.setIfInBounds,Nat.not_lt.2 i]
   ·rw[Array.getElem?_setIfInBounds_ne e]
  unfold Act.put;simp only[this]
def updX (X : Nat -> Value) (i : Nat) (v : Value) : Nat -> Value:= fun j => if j = i then v else X j
def zo2 (T : List (Option Value)) (phi : Nat -> (Nat -> Value) -> World -> Prop) (i : Nat) (X : Nat -> Value) (v : Value) (w : World) : Prop :=
  match T[i]? with
  | some (some u) => v = u
  | _ => phi i (updX X i v) w
def zqc (A : Act) (dst : Option Tmp) (g : World -> Prop) (phi : Value -> World -> Prop) : Exit -> Act -> World -> Prop
  | .normal, a, w' => (∃ v, a = A.put dst v /\ phi v w') /\ g w'
  | _, _, _ => False
def stepsG (P : Program) (ops : Array Oper) (A : (Nat -> Value) -> Act) (T : List (Option Value)) (phi : Nat -> (Nat -> Value) -> World -> Prop) (G : Nat -> World -> World -> Prop) (H : World -> Prop) : Nat -> List Oper -> Prop
  | _, [] => True
  | i, o :: l => (∀ X w, H w -> (∀ j, zkL o j = true -> phi j X w) -> wpList P ops (zqc (A X) o.dst (G i w) (zo2 T phi i X)) [o] (A X) w) /\ stepsG P ops A T phi G H (i + 1) l
theorem stepsG.nil{P:Program}{ops:Array Oper}{A:(Nat->Value)->Act}{T:List (Option Value)}{phi:Nat->(Nat->Value)->World->Prop}{G:Nat->World->World->Prop}{H:World->Prop}{i:Nat}:stepsG P ops A T phi G H i []:=trivial
theorem stepsG.cons{P:Program}{ops:Array Oper}{A:(Nat->Value)->Act}{T:List (Option Value)}{phi:Nat->(Nat->Value)->World->Prop}{G:Nat->World->World->Prop}{H:World->Prop}{i:Nat}{o:Oper}{l:List Oper}
  (h:∀X w,H w->(∀j,zkL o j=true->phi j X w)->wpList P ops (zqc (A X) o.dst (G i w) (zo2 T phi i X)) [o] (A X) w) (d:stepsG P ops A T phi G H (i+1) l):stepsG P ops A T phi G H i (o::l):=⟨h,d⟩
theorem stepsG.get{P:Program}{ops:Array Oper}{A:(Nat->Value)->Act}{T:List (Option Value)}{phi:Nat->(Nat->Value)->World->Prop}{G:Nat->World->World->Prop}{H:World->Prop}:∀{l:List Oper} {k:Nat},stepsG P ops A T phi G H k l->∀i o,l[i]? = some o ->
  ∀X w,H w->(∀j,zkL o j=true->phi j X w)->wpList P ops (zqc (A X) o.dst (G (k+i) w) (zo2 T phi (k+i) X)) [o] (A X) w
 | [],_,_,i,o,h=>by simp at h
 | p::l,k,hs,0,o,h=>by simp at h;subst h;exact hs.1
 | p::l,k,hs,i+1,o,h=>by
  have:=stepsG.get hs.2 i o (by simpa using h);rw[show k+(i+1)=k+1+i from by omega];exact this
section
variable {P : Program} {l : List Oper} {a0 : Act} {T : List (Option Value)} {phi : Nat -> (Nat -> Value) -> World -> Prop} {G : Nat -> World -> World -> Prop} {H : World -> Prop} {Q : Exit -> Act -> World -> Prop}
theorem zsg(d:zcg l=true){X u:Nat->Value}{i:Nat}(A:∀j,j≠i->u j=X j){t:Nat}(ht:∀o,l[i]? = some o->o.dst≠some t)(y:T.length=l.length) :
  (fill a0 l (tmpl T 0 u)).tmps[t]? = (fill a0 l (tmpl T 0 X)).tmps[t]?:=by
 by_cases w:∃(j:Nat) (p:Oper),l[j]? = some p/\p.dst=some t
 ·obtain⟨j,p,hp,hd⟩:=w;have q:j≠i:=fun e=>by subst e;exact ht p hp hd
  have z:j<l.length:=(List.getElem?_eq_some_iff.1 hp).1;have g:T[j]? = some T[j]:=yD (by omega);rcases Nat.lt_or_ge t a0.tmps.size with f|m
  ·rw[zpN l a0 _ j p t (T[j].getD (u (0+j))) d hp hd (by rw[zo9,g];rfl) f,zpN l a0 _ j p t (T[j].getD (X (0+j))) d hp hd (by rw[zo9,g];rfl) f,Nat.zero_add,A j q]
  ·rw[Array.getElem?_eq_none (by rw[zbS];exact m),Array.getElem?_eq_none (by rw[zbS];exact m)]
 ·rw[zb8 l a0 _ t (fun o ho hd=>by obtain⟨j,v,e⟩:=List.getElem_of_mem ho;exact w ⟨j,o,by simp[v,e],hd⟩),zb8 l a0 _ t (fun o ho hd=>by obtain⟨j,v,e⟩:=List.getElem_of_mem ho;exact w ⟨j,o,by simp[v,e],hd⟩)]
theorem ztJ(V:zbJ l.toArray=true)(C:zba l.toArray=true)(O:Region.noSelect l.toArray=true)(B:zcg l=true)(U:T.length=l.length)
  (hH:∀i w w',H w->G i w w'->H w') (aa:∀i j X w w',i≠j->phi j X w->H w->G i w w'->phi j X w') (W:∀i j X v w,i≠j->(∀o,l[j]? = some o->zkL o i=false)->phi j X w->phi j (updX X i v) w) (D:∀j X w,(T[j]?).join.isSome=true->phi j X w)
  (hs:stepsG P l.toArray (fun X=>fill a0 l (tmpl T 0 X)) T phi G H 0 l) (L:∀X w,H w->(∀j,j<l.length->phi j X w)->Q .normal (fill a0 l (tmpl T 0 X)) w) :
  ∀(fuel:Nat) (f:Array Bool) (X:Nat->Value) (a:Act) (w:World),f.size=l.toArray.size->(f.toList.count false<=fuel)->InvJ l.toArray a0 (fill a0 l (tmpl T 0 X)) H f a w->(∀j,f.getD j false=true->phi j X w)->(∀j o k,f.getD j false=true->l[j]? = some o->zkL o k=true->f.getD k false=true)->wpAny P .any l.toArray Q fuel f a w:=by
 have N:∀(X:Nat->Value) t,(∀(j:Nat) (o:Oper),l.toArray[j]? = some o->o.dst≠some t)->a0.tmps[t]? = (fill a0 l (tmpl T 0 X)).tmps[t]?:=fun X t ht=>(zb8 l a0 _ t fun o ho hd=>by obtain⟨j,hj,e⟩:=List.getElem_of_mem ho;exact ht j o (by simp[hj,e]) hd).symm
 intro fuel
 induction fuel with
 | zero =>
  intro f X a w y hc J z _;have hr:=none_ready y hc;refine⟨hr,?_⟩;have g:=zcU C f y hr;rw[J.done_all (N X) g]
  exact L X w J.world fun j hj=>z j (g j (by simpa using hj))
 | succ fuel ih =>
  intro f X a w y hc J z I;refine⟨fun hr=>?_,fun i hi=>?_⟩
  ·have g:=zcU C f y hr;rw[J.done_all (N X) g];exact L X w J.world fun j hj=>z j (g j (by simpa using hj))
  obtain⟨hf,o,ho,g⟩:=mem_ready.1 hi;have ac:i<l.length:=by simpa using(Array.getElem?_eq_some_iff.1 ho).1
  have S:i<f.size:=by rw[y];simpa using ac
  have M:l[i]? = some o:=by simpa using ho
  have Z:=ready_count y hi;have E:T[i]? = some T[i]:=yD (by omega);have A:f.getD i false=false:=by simpa[S] using hf
  have hw:∀k,zkL o k=true->f.getD k false=true:=fun k hk=>by
   obtain⟨e,he,F⟩:=Array.any_eq_true'.1 hk;simp only[yC,beq_iff_eq] at F;rw[<-F.1];exact g e he F.2
  have next:∀v w',zo2 T phi i X v w'->G i w w'->wpAny P .any l.toArray Q fuel (f.setIfInBounds i true) (a.put o.dst v) w':=by
   intro v w' m F;have hX:∀j,j≠i->updX X i v j=X j:=fun j hj=>yN hj
   have R:T[i].getD v=v:=by
    unfold zo2 at m;rw[E] at m
    cases hti:T[i] with
    | none=>rfl
    | some u=>rw[hti] at m;exact m.symm
   have J':InvJ l.toArray a0 (fill a0 l (tmpl T 0 (updX X i v))) H f a w:=by
    refine⟨by rw[J.size,zbS,zbS],by rw[J.defers,zdl,zdl],fun t ht=>?_,J.left,J.world⟩;rw[J.done t ht];obtain⟨j,p,hp,hd,hl⟩:=ht;refine(zsg B hX (fun q hq e=>?_) U).symm;have:=zcB l j i p q t B (by simpa using hp) hq hd e;rw[this,A] at hl;cases hl
   refine ih _ (updX X i v) _ _ (by simpa using y) (by omega) (J'.put ho y (put_self fun d hd hdl=>zpN l a0 _ i o d v B M hd (by rw[zo9,E,Nat.zero_add];simp only[show updX X i v i=v from yP rfl,Option.map_some,R]) (by rw[zbS] at hdl;exact hdl)) (hH i w w' J.world F)) (fun j hj=>?_) (fun j p k hj hp hk=>?_)
   ·by_cases e:j=i
    ·subst e;unfold zo2 at m;rw[E] at m
     cases hti:T[j] with
     | none=>rw[hti] at m;exact m
     | some u=>exact D j _ w' (by rw[E,hti];rfl)
    ·rw[getD_set_ne false (Ne.symm e)] at hj;refine W i j X v w' (Ne.symm e) (fun p hp=>?_) (aa i j _ _ _ (Ne.symm e) (z j hj) J.world F)
     cases hw:zkL p i with
     | false=>rfl
     | true=>rw[I j p i hj hp hw] at A;cases A
   ·by_cases ek:k=i
    ·subst ek;simp[S]
    ·rw[getD_set_ne false (Ne.symm ek)];by_cases e:j=i
     ·subst e;rw[M] at hp;cases hp;exact hw k hk
     ·rw[getD_set_ne false (Ne.symm e)] at hj;exact I j p k hj hp hk
  have h:=hs.get i o M X w J.world fun j hj=>z j (hw j hj)
  rw[Nat.zero_add] at h;refine op_move O ho (fun t ht=>J.eval V (N X) ho hi ht) h (fun Y w' hk=>by obtain⟨⟨u,e,-⟩,-⟩:=hk;rw[e,zbq]) (fun _ _ hk=>hk) (fun v w' hk=>?_) (fun _ _ hk=>hk.elim);obtain⟨⟨u,e,m⟩,F⟩:=hk
  have:a.put o.dst v=a.put o.dst u:=by
   cases hd:o.dst with
   | none=>rfl
   | some d =>
    rw[hd] at e;rcases Nat.lt_or_ge d a.tmps.size with K|ab
    ·have:=congrArg (fun a:Act=>a.tmps[d]?) e;rw[J.size] at K;simp only[zbM K] at this;cases this;rfl
    ·simp[Act.put,Array.setIfInBounds,Nat.not_lt.2 ab]
  rw[this];exact next u w' m F
theorem zoO{id:Nat}{w:World}(T:List (Option Value))(phi:Nat->(Nat->Value)->World->Prop)(G:Nat->World->World->Prop)(H:World->Prop)(D:P.follows .mixedOrders=true)
  (f:(zbJ l.toArray&&(zba l.toArray&&(Region.noSelect l.toArray&&zcg l)))=true) (g:T.length=l.length) (B:H w.drew)
  (A:∀i w w',H w->G i w w'->H w') (u:∀i j X w w',i≠j->phi j X w->H w->G i w w'->phi j X w') (m:∀i j X v w,i≠j->(∀o,l[j]? = some o->zkL o i=false)->phi j X w->phi j (updX X i v) w) (d:∀j X w,(T[j]?).join.isSome=true->phi j X w)
  (z:stepsG P l.toArray (fun X=>fill a0 l (tmpl T 0 X)) T phi G H 0 l) (q:∀X w',H w'->(∀j,j<l.length->phi j X w')->Q .normal (fill a0 l (tmpl T 0 X)) w'):(Code.region id l.toArray true).wp P Q a0 w:=by
 rw[yC,yC,yC] at f;refine wp_region_any D ?_;have C:(Array.replicate l.toArray.size false).toList.count false<=l.toArray.size:=by simp
 refine ztJ (a0:=a0) (T:=T) (phi:=phi) (G:=G) (H:=H) f.1 f.2.1 f.2.2.1 f.2.2.2 g A u m d z q _ _ (fun _=>undef) _ _ (by simp) C ⟨(zbS ..).symm,(zdl ..).symm,fun t ht=>?_,fun t _=>rfl,B⟩ (fun j hj=>?_) (fun j p k hj _ _=>?_)
 ·obtain⟨j,o,_,_,y⟩:=ht;rw[getD_replicate_false] at y;cases y
 all_goals
  rw[getD_replicate_false] at hj;cases hj
end
/-! the same where memory only grows and each thing said is said of one value -/
def stepsRel (P : Program) (ops : Array Oper) (A : (Nat -> Value) -> Act) (T : List (Option Value)) (phi : Nat -> Value -> World -> Prop) (w0 : World) : Nat -> List Oper -> Prop:= stepsG P ops A T (fun i X w => phi i (X i) w) (fun _ w w' => Below w.heap.size w w') (fun w => Below w0.heap.size w0 w)
section
variable {P : Program} {l : List Oper} {a0 : Act} {T : List (Option Value)} {phi : Nat -> Value -> World -> Prop} {Q : Exit -> Act -> World -> Prop}
theorem stepsRel.nil{ops:Array Oper}{A:(Nat->Value)->Act}{w0:World}{i:Nat}:stepsRel P ops A T phi w0 i []:=trivial
theorem stepsRel.cons{ops:Array Oper}{A:(Nat->Value)->Act}{w0:World}{i:Nat}{o:Oper}
  (h:∀X w,Below w0.heap.size w0 w->(∀j,zkL o j=true->phi j (X j) w)->wpList P ops (zqc (A X) o.dst (Below w.heap.size w) (zo2 T (fun i X w=>phi i (X i) w) i X)) [o] (A X) w) (d:stepsRel P ops A T phi w0 (i+1) l):stepsRel P ops A T phi w0 i (o::l):=⟨h,d⟩
theorem wp_region_rel{id:Nat}{w:World}(T:List (Option Value))(phi:Nat->Value->World->Prop)(z:P.follows .mixedOrders=true)
  (y:(zbJ l.toArray&&(zba l.toArray&&(Region.noSelect l.toArray&&zcg l)))=true) (f:T.length=l.length)
  (q:∀j v w w',phi j v w->Below w.heap.size w w'->phi j v w') (d:∀j v w,(T[j]?).join.isSome=true->phi j v w)
  (u:stepsRel P l.toArray (fun X=>fill a0 l (tmpl T 0 X)) T phi w.drew 0 l) (m:∀X w',Below w.drew.heap.size w.drew w'->(∀j,j<l.length->phi j (X j) w')->Q .normal (fill a0 l (tmpl T 0 X)) w'):(Code.region id l.toArray true).wp P Q a0 w:=
 zoO T (fun j X w=>phi j (X j) w) (fun _ w w'=>Below w.heap.size w w') (fun w'=>Below w.drew.heap.size w.drew w') z y f (yR _ _) (fun _ _ _ h g=>h.trans (g.mono h.size)) (fun _ j X _ _ _ hp _ g=>q j (X j) _ _ hp g) (fun i j X v w hij _ hp=>by rw[show updX X i v j=X j from yN (Ne.symm hij)];exact hp) (fun j X w h=>d j (X j) w h) u m
end
def zcK (a : Act) (dst : Option Tmp) (v : Value) (E : World -> Prop) : Exit -> Act -> World -> Prop
  | .normal, a', w => a' = a.put dst v /\ E w
  | _, _, _ => False
def stepsSeq (P : Program) (ops : Array Oper) (E : World -> Prop) (F : Act -> Prop) : List Oper -> Act -> Prop
  | [], a => F a
  | o :: l, a => ∃ v, (∀ w, E w -> wpList P ops (zcK a o.dst v E) [o] a w) /\ stepsSeq P ops E F l (a.put o.dst v)
theorem zcV{P:Program}{ops:Array Oper}{E:World->Prop}{o:Oper}{a:Act}{v:Value}{w:World}(h:wpList P ops (zbb (a.put o.dst v) E) [o] a w):wpList P ops (zcK a o.dst v E) [o] a w:=by
 have e:zbb (a.put o.dst v) E=zcK a o.dst v E:=by
  funext x a' w'
  cases x <;> rfl
 rw[<-e];exact h
theorem stepsSeq.cons{P:Program}{ops:Array Oper}{E:World->Prop}{F:Act->Prop}{o:Oper}{l:List Oper}{a:Act}{v:Value}
  (h:∀w,E w->wpList P ops (zbb (a.put o.dst v) E) [o] a w) (d:stepsSeq P ops E F l (a.put o.dst v)):stepsSeq P ops E F (o::l) a:=⟨v,fun w hw=>zcV (h w hw),d⟩
theorem stepsSeq.nil{P:Program}{ops:Array Oper}{E:World->Prop}{F:Act->Prop}{a:Act}(h:F a):stepsSeq P ops E F [] a:=h
section
variable {P : Program} {E : World -> Prop}
theorem zec{ops:Array Oper}(f:Region.noSelect ops=true){i:Nat}{o:Oper}(q:ops[i]? = some o){a A:Act}{v:Value}(z:a.tmps.size=A.tmps.size)(g:∀t∈o.looksAt ops,a.tmps[t]? = A.tmps[t]?)(m:A.put o.dst v=A){w:World}
  (h:wpList P ops (zcK a o.dst v E) [o] a w):wpList P ops (zbb A E) [o] A w:=by
 have h:=op_move (Q:=zbb A E) (N:=zbb A E .normal) f q (fun t ht=>(g t ht).symm) h (fun X w' hk=>by rw[hk.1,zbq]) (fun _ _ hk=>hk) (fun u w' hk=>⟨?_,hk.2⟩) (fun _ _ hk=>hk.elim)
 ·unfold wpOp at h;simp only[q] at h;simp only[wpList];exact h
 ·have y:=hk.1
  cases hd:o.dst with
  | none=>rfl
  | some d =>
   rw[hd] at y m;rcases Nat.lt_or_ge d a.tmps.size with j|B
   ·have l:=congrArg (fun x:Act=>x.tmps[d]?) y;simp only[zbM j] at l;cases l;exact m
   ·simp[Act.put,Array.setIfInBounds,Nat.not_lt.2 (show A.tmps.size<=d by omega)]
theorem op_free{f l:List Oper}(u:zbJ f.toArray=true)(d:zba f.toArray=true)(q:zcg f=true){k:Nat}{o:Oper}(g:∀j p,(o::l)[j]? = some p->f[k+j]? = some p):(∀t∈o.looksAt f.toArray,∀p∈o::l,p.dst≠some t)/\∀t,o.dst=some t->∀p∈l,p.dst≠some t:=by
 have hi:f.toArray[k]? = some o:=by simpa using g 0 o rfl
 constructor
 ·intro t ht p i m;obtain⟨j,y,e⟩:=List.getElem_of_mem i
  have w:f.toArray[k+j]? = some p:=by
   rw[List.getElem?_toArray];exact g j p (by rw[yD y,e])
  obtain⟨A,B,D,C⟩:=zcA u hi ht w m;unfold zba at d;rw[List.all_eq_true] at d;have v:=d k (List.mem_range.2 (Array.getElem?_eq_some_iff.1 hi).1);rw[hi] at v;simp only[Array.all_eq_true_iff_forall_mem] at v;have z:=v A B;rw[D] at z;have E:A.on<k:=by simpa using z
  omega
 ·intro t ht p i m;obtain⟨j,y,e⟩:=List.getElem_of_mem i;have:=zcB f _ _ _ _ t q (by simpa using hi) (g (j+1) p (by rw[List.getElem?_cons_succ,yD y,e])) ht m;omega
theorem zmP{l:List Oper}{a A:Act}{o:Oper}{v:Value}(g:A.tmps.size=(a.put o.dst v).tmps.size)(i:∀t,(∀p∈l,p.dst≠some t)->A.tmps[t]? = (a.put o.dst v).tmps[t]?)(f:∀d,o.dst=some d->∀p∈l,p.dst≠some d):A.put o.dst v=A:=
 put_self fun d hd hlt=>by
  rw[i d (f d hd),hd];rw[g,za8] at hlt;exact zbM hlt
theorem ziN{q:List Oper}{F:Act->Prop}(m:zbJ q.toArray=true)(d:zba q.toArray=true)(g:Region.noSelect q.toArray=true)(f:zcg q=true) :
  ∀(l:List Oper) (k:Nat) (a:Act),(∀j p,l[j]? = some p->q[k+j]? = some p)->stepsSeq P q.toArray E F l a->∃vs,F (fill a l vs)/\stepsOk P q.toArray (fill a l vs) E l
 | [],k,a,_,h=>⟨[],h,trivial⟩
 | o::l,k,a,hat,h=>by
  obtain⟨v,A,z⟩:=h;obtain⟨vs,B,C⟩:=ziN m d g f l (k+1) (a.put o.dst v) (fun j p hj=>by rw[Nat.add_assoc,Nat.add_comm 1 j];exact hat (j+1) p hj) z;obtain⟨u,y⟩:=op_free m d f hat;refine⟨v::vs,B,fun w hw=>?_,C⟩;rw[zfb];exact zec g (i:=k) (by simpa using hat 0 o rfl) (a:=a) (v:=v) (by rw[zbS,za8]) (fun t ht=>by rw[zb8 l _ vs t (fun p hp=>u t ht p (List.mem_cons_of_mem _ hp)),zcn (u t ht o (List.mem_cons_self ..))]) (zmP (zbS ..) (fun t ht=>zb8 l _ vs t ht) y) (A w hw)
theorem zac{id:Nat}{l:List Oper}{a0:Act}{Q:Exit->Act->World->Prop}{w:World}(E:World->Prop)(m:P.follows .mixedOrders=true)
  (d:(zbJ l.toArray&&(zba l.toArray&&(Region.noSelect l.toArray&&zcg l)))=true) (q:E w.drew) (g:stepsSeq P l.toArray E (fun a=>∀w,E w->Q .normal a w) l a0):(Code.region id l.toArray true).wp P Q a0 w:=by
 rw[yC,yC,yC] at d;obtain⟨vs,i,f⟩:=ziN d.1 d.2.1 d.2.2.1 d.2.2.2 l 0 a0 (fun j p hj=>by rw[Nat.zero_add];exact hj) g;exact zgT vs E m (by rw[d.1,d.2.1,d.2.2.1];rfl) q f i
end
theorem zaR{P:Program}{ops:Array Oper}{o:Oper}{a:Act}{K:Act->World->Prop}{Q:Exit->Act->World->Prop}{E:Prop}{w:World}(S:o.guard=none)(s x:Operand)(t:TypeId)
  (X:o.op=.call { callee:=.builtin .append,args:=#[s,x],argTypes:=#[t,t] })
  {base:Nat} {e:TypeId} {size:Nat} {v:Value} {n:Nat} {xs:List Value} (hown:w.ownsRow base e size v n xs) {z:Value} {f:Nat}
  (hi:(P.info? e).map (fun i=>(i.zero,i.size,i.bytes))=some (some z,size,f)) (ht:P.underlying t=some (.slice e)) (M:z.cells.size=size) (R:0<size)
  (W:a.eval s=v) {m:Nat} {cs:List Value} {v2:Value} (T:Sl w size m cs v2) (Y:a.eval x=v2) (h1:cs.all (fun u=>u.oneCell')=true)
  (O:n+m<=maxLen) (q:(n+m)*f<=140737488355328) (l:base<=w.heap.size)
  (h:∀C w',w'.ownsRow base e size C (n+m) (xs++cs)->w.grownBy w' v.ownBlock->Below base w w'->(C.ownBlock=v.ownBlock∨∃g,C.ownBlock=some g/\w.heap.size<=g)->K (a.put o.dst C) w') :
  if Region.wanted o (yielded ops a.tmps)=true then Oper.wp P o a w K Q else E:=by
 have B:Region.wanted o (yielded ops a.tmps)=true:=by simp[Region.wanted,S]
 rw[yP B];obtain⟨i,hi,H,J,L⟩:=info_parts hi;obtain⟨ad,cap,rfl,aa,Z,D,A⟩:=T;by_cases hm:0<m
 ·obtain⟨b,y,rfl,hc⟩:=A hm
  obtain⟨C,w',U,F,V,_,N⟩:=run_append_own_at (P:=P) w base t o.type e i z size f ht hi H J L M R v n xs hown ⟨b,y,none⟩ m cap cs D (by
   intro j u hu
   have hj:j<m*size:=by
    rcases Nat.lt_or_ge j (m*size) with h|h
    ·exact h
    ·rw[List.getElem?_eq_none (by omega)] at hu;cases hu
   have:(⟨b,y,none⟩:Addr).add j=⟨b,y+j,none⟩:=by unfold Addr.add;split <;> simp_all
   rw[this,hc j hj]
   exact hu) (fun u hu=>List.all_eq_true.1 h1 u hu) O q l
  unfold Oper.wp execOp;simp only[X,resolve,invoke,builtin,Sem.run_bind,Sem.run_pure,Result.andThen_ok,List.map_toArray,List.map_cons,List.map_nil,W,Y,U];exact h C w' F V (Below.of_grown V l (fun k hk=>(hown.lt k hk).1)) (N.imp id fun e=>⟨_,e,zr _⟩)
 ·obtain rfl:m=0:=by omega
  obtain rfl:cs=[]:=List.eq_nil_of_length_eq_zero (by simpa using D)
  have hf:∃b d,v=.slice b n d/\n<=d:=by
   rcases hown.2 with⟨rfl,rfl⟩|⟨g,d,ab,rfl,_,_,hn,_⟩
   ·exact⟨none,0,rfl,zr _⟩
   ·exact⟨_,_,rfl,hn⟩
  obtain⟨b,d,I,G⟩:=hf;unfold Oper.wp execOp;have U:=zfH (P:=P) (w:=w) (t:=t) (ty:=o.type) ht hi b ad (c:=cap) G;simp only[X,resolve,invoke,builtin,Sem.run_bind,Sem.run_pure,Result.andThen_ok,List.map_toArray,List.map_cons,List.map_nil,W,Y,I,U];refine(h (.slice b n d) w ?_ ⟨rfl,rfl,rfl,zr _,fun _ _ _=>rfl⟩ (yR _ _) (.inl (by rw[I])));rw[<-I];simpa using hown
def DieQ (a0 : Act) (Q : Exit -> Act -> World -> Prop) : Exit -> Act -> World -> Prop
  | .panic c, _, w => ∀ a, a.defers = a0.defers -> Q (.panic c) a w
  | _, _, _ => False
def stepsDie2 (P : Program) (ops : Array Oper) (E : Bool -> World -> Prop) (a0 : Act) (Q : Exit -> Act -> World -> Prop) : List Nat -> List Oper -> Act -> Prop
  | 0 :: fl, o :: l, a => ∃ v, (∀ b w, E b w -> wpList P ops (zcK a o.dst v (E b)) [o] a w) /\ stepsDie2 P ops E a0 Q fl l (a.put o.dst v)
  | 1 :: fl, o :: l, a => (∀ w, E true w -> wpList P ops (DieQ a0 Q) [o] a w) /\ stepsDie2 P ops E a0 Q fl l a
  | 5 :: fl, o :: l, a => (∀ b w, E b w -> wpList P ops (DieQ a0 Q) [o] a w) /\ stepsDie2 P ops E a0 Q fl l a
  | 3 :: fl, o :: l, a => ∃ v, (∀ w, E false w -> wpList P ops (zcK a o.dst v (E true)) [o] a w) /\ stepsDie2 P ops E a0 Q fl l (a.put o.dst v)
  | 4 :: fl, o :: l, a => ∃ v, (∀ w, E true w -> wpList P ops (zcK a o.dst v (E true)) [o] a w) /\ stepsDie2 P ops E a0 Q fl l (a.put o.dst v)
  | _ :: fl, _ :: l, a => stepsDie2 P ops E a0 Q fl l a
  | _, _, _ => True
def stepsD2 (P : Program) (ops : Array Oper) (E : Bool -> World -> Prop) (a0 : Act) (Q : Exit -> Act -> World -> Prop) (A : Act) : List Nat -> List Oper -> Prop
  | 0 :: fl, o :: l => (∀ b w, E b w -> wpList P ops (zbb A (E b)) [o] A w) /\ stepsD2 P ops E a0 Q A fl l
  | 1 :: fl, o :: l => (∀ w, E true w -> wpList P ops (DieQ a0 Q) [o] A w) /\ stepsD2 P ops E a0 Q A fl l
  | 5 :: fl, o :: l => (∀ b w, E b w -> wpList P ops (DieQ a0 Q) [o] A w) /\ stepsD2 P ops E a0 Q A fl l
  | 3 :: fl, o :: l => (∀ w, E false w -> wpList P ops (zbb A (E true)) [o] A w) /\ stepsD2 P ops E a0 Q A fl l
  | 4 :: fl, o :: l => (∀ w, E true w -> wpList P ops (zbb A (E true)) [o] A w) /\ stepsD2 P ops E a0 Q A fl l
  | _ :: fl, _ :: l => stepsD2 P ops E a0 Q A fl l
  | _, _ => True
def ziL (fl : List Nat) (ops : Array Oper) : Bool :=
  decide (fl.length = ops.size) && fl.all (fun k => decide (k <= 5)) && (fl.contains 1 || fl.contains 5) && decide (fl.count 3 <= 1) && (List.range ops.size).all fun i => match ops[i]? with
    | none => true
    | some o => (fl.getD i 0 != 2 || o.after.any fun e => Region.binds .any e && (fl.getD e.on 0 == 1 || fl.getD e.on 0 == 2 || fl.getD e.on 0 == 5)) && ((fl.getD i 0 != 1 && fl.getD i 0 != 4) || o.after.any fun e => Region.binds .any e && (fl.getD e.on 0 == 3 || fl.getD e.on 0 == 4))
def zbn (fl : List Nat) (listed : Array Bool) : Bool:= (List.range fl.length).any fun j => fl.getD j 0 == 3 && listed.getD j false
section
variable {P : Program} {E : Bool -> World -> Prop} {a0 : Act} {Q : Exit -> Act -> World -> Prop}
theorem stepsD2.get{ops:Array Oper}{A:Act}:∀{fl:List Nat} {l:List Oper},stepsD2 P ops E a0 Q A fl l->∀(i:Nat) (o:Oper) (k:Nat),fl[i]? = some k->l[i]? = some o->(k=0->∀b w,E b w->wpList P ops (zbb A (E b)) [o] A w)/\(k=1->∀w,E true w->wpList P ops (DieQ a0 Q) [o] A w)/\(k=3->∀w,E false w->wpList P ops (zbb A (E true)) [o] A w)/\(k=4->∀w,E true w->wpList P ops (zbb A (E true)) [o] A w)/\(k=5->∀b w,E b w->wpList P ops (DieQ a0 Q) [o] A w)
 | [],_,_,i,o,k,h1,_=>by simp at h1
 | _::_,[],_,i,o,k,_,h2=>by simp at h2
 | f::fl,p::l,h,0,o,k,h1,h2=>by
  simp only[List.getElem?_cons_zero,Option.some.injEq] at h1 h2;subst h1;subst h2;refine⟨fun e=>?_,fun e=>?_,fun e=>?_,fun e=>?_,fun e=>?_⟩
  all_goals(subst e;exact h.1)
 | f :: fl,p :: l,h,i+1,o,k,h1,h2=>by
  have d:stepsD2 P ops E a0 Q A fl l:=by
   match f,h with
   | 0,h=>exact h.2
   | 1,h=>exact h.2
   | 2,h=>exact h
   | 3,h=>exact h.2
   | 4,h=>exact h.2
   | 5,h=>exact h.2
   | n+6,h=>exact h
  exact stepsD2.get d i o k (by simpa using h1) (by simpa using h2)
theorem zjm{ops:Array Oper}{A:Act}(fl:List Nat):stepsD2 P ops E a0 Q A fl []:=by
 rcases fl with _|⟨_|_|_|_|_|_|n,fl⟩ <;> trivial
theorem zfW{ops:Array Oper}(d:Region.noSelect ops=true){i:Nat}{o:Oper}(g:ops[i]? = some o){a A:Act}(f:∀t∈o.looksAt ops,a.tmps[t]? = A.tmps[t]?){w:World}(h:wpList P ops (DieQ a0 Q) [o] a w):wpList P ops (DieQ a0 Q) [o] A w:=by
 have h:=op_move (Q:=DieQ a0 Q) (N:=DieQ a0 Q .normal) d g (fun t ht=>(f t ht).symm) h (fun _ _ h=>h.elim) (fun _ _ h=>h) (fun _ _ h=>h.elim) (fun _ _ h=>h);unfold wpOp at h;simp only[g] at h;simp only[wpList];exact h
theorem zdJ{u:List Oper}(B:zbJ u.toArray=true)(q:zba u.toArray=true)(z:Region.noSelect u.toArray=true)(y:zcg u=true) :
  ∀(fl:List Nat) (l:List Oper) (k:Nat) (a:Act),(∀j p,l[j]? = some p->u[k+j]? = some p)->stepsDie2 P u.toArray E a0 Q fl l a ->
   ∃A:Act,A.tmps.size=a.tmps.size/\A.defers=a.defers/\(∀t,(∀o∈l,o.dst≠some t)->A.tmps[t]? = a.tmps[t]?)/\stepsD2 P u.toArray E a0 Q A fl l
 | [],l,k,a,_,_=>⟨a,rfl,rfl,fun _ _=>rfl,by cases l <;> trivial⟩
 | _::_,[],k,a,_,_=>⟨a,rfl,rfl,fun _ _=>rfl,zjm _⟩
 | f :: fl,o :: l,k,a,hat,h=>by
  have hi:u.toArray[k]? = some o:=by simpa using hat 0 o rfl
  obtain⟨H,J⟩:=op_free B q y hat;have G:∀j p,l[j]? = some p->u[k+1+j]? = some p:=fun j p hj=>by rw[Nat.add_assoc,Nat.add_comm 1 j];exact hat (j+1) p hj
  have val:∀(v:Value),stepsDie2 P u.toArray E a0 Q fl l (a.put o.dst v)->∃A:Act,A.tmps.size=a.tmps.size/\A.defers=a.defers/\(∀t,(∀o'∈o::l,o'.dst≠some t)->A.tmps[t]? = a.tmps[t]?)/\stepsD2 P u.toArray E a0 Q A fl l/\∀(F:World->Prop) (w:World),wpList P u.toArray (zcK a o.dst v F) [o] a w->wpList P u.toArray (zbb A F) [o] A w:=by
   intro v C;obtain⟨A,g,m,d,i⟩:=zdJ B q z y fl l (k+1) (a.put o.dst v) G C;refine⟨A,by rw[g,za8],by rw[m,zbq],fun t ht=>?_,i,fun F w hw=>?_⟩
   ·rw[d t (fun p hp=>ht p (List.mem_cons_of_mem _ hp)),zcn (ht o (List.mem_cons_self ..))]
   ·refine zec z hi (a:=a) (v:=v) (by rw[g,za8]) (fun t ht=>?_) (zmP g d J) hw;rw[d t (fun p hp=>H t ht p (List.mem_cons_of_mem _ hp)),zcn (H t ht o (List.mem_cons_self ..))]
  have die:stepsDie2 P u.toArray E a0 Q fl l a->∃A:Act,A.tmps.size=a.tmps.size/\A.defers=a.defers/\(∀t,(∀o'∈o::l,o'.dst≠some t)->A.tmps[t]? = a.tmps[t]?)/\stepsD2 P u.toArray E a0 Q A fl l/\∀w:World,wpList P u.toArray (DieQ a0 Q) [o] a w->wpList P u.toArray (DieQ a0 Q) [o] A w:=by
   intro C;obtain⟨A,g,m,d,i⟩:=zdJ B q z y fl l (k+1) a G C;exact⟨A,g,m,fun t ht=>d t (fun p hp=>ht p (List.mem_cons_of_mem _ hp)),i,fun w hw=>zfW z hi (fun t ht=>(d t (fun p hp=>H t ht p (List.mem_cons_of_mem _ hp))).symm) hw⟩
  match f,h with
  | 0,h =>
   obtain⟨v,I,C⟩:=h;obtain⟨A,g,m,d,i,D⟩:=val v C
   exact⟨A,g,m,d,fun b w hw=>D _ w (I b w hw),i⟩
  | 3,h =>
   obtain⟨v,I,C⟩:=h;obtain⟨A,g,m,d,i,D⟩:=val v C
   exact⟨A,g,m,d,fun w hw=>D _ w (I w hw),i⟩
  | 4,h =>
   obtain⟨v,I,C⟩:=h;obtain⟨A,g,m,d,i,D⟩:=val v C
   exact⟨A,g,m,d,fun w hw=>D _ w (I w hw),i⟩
  | 1,h =>
   obtain⟨A,g,m,d,i,D⟩:=die h.2
   exact⟨A,g,m,d,fun w hw=>D w (h.1 w hw),i⟩
  | 5,h =>
   obtain⟨A,g,m,d,i,D⟩:=die h.2
   exact⟨A,g,m,d,fun b w hw=>D w (h.1 b w hw),i⟩
  | 2,h =>
   obtain⟨A,g,m,d,i,-⟩:=die h
   exact⟨A,g,m,d,i⟩
  | n+6,h =>
   obtain⟨A,g,m,d,i,-⟩:=die h;exact⟨A,g,m,d,i⟩
theorem zeb{fl:List Nat}{d:Array Bool}{i:Nat}(hi:i<d.size)(f:fl.getD i 0≠3):zbn fl (d.setIfInBounds i true)=zbn fl d:=by
 unfold zbn;congr 1
 funext j
 by_cases e:i=j
 ·subst e;have:(fl.getD i 0==3)=false:=by simpa using f
  rw[this];rfl
 ·rw[getD_set_ne false e]
theorem zdQ{fl:List Nat}{d:Array Bool}{i:Nat}(f:fl.getD i 0=3)(g:d.getD i false=true):zbn fl d=true:=by
 unfold zbn;rw[List.any_eq_true];refine⟨i,List.mem_range.2 ?_,by rw[f,g];rfl⟩;rcases Nat.lt_or_ge i fl.length with h|h
 ·exact h
 ·rw[List.getD_eq_getElem?_getD,List.getElem?_eq_none h] at f;cases f
theorem zhl{fl:List Nat}{d:Array Bool}{i:Nat}(z:fl.count 3<=1)(A:fl.getD i 0=3)(B:d.getD i false=false):zbn fl d=false:=by
 cases hp:zbn fl d with
 | false=>rfl
 | true =>
  exfalso;unfold zbn at hp;rw[List.any_eq_true] at hp;obtain⟨j,C,h⟩:=hp;simp only[yC,beq_iff_eq] at h;have q:i≠j:=fun e=>by subst e;rw[B] at h;cases h.2
  have v:∀(l:List Nat) (i j:Nat),i≠j->l.getD i 0=3->l.getD j 0=3->2<=l.count 3:=by
   intro l
   induction l with
   | nil=>intro i j _ h;simp at h
   | cons x r ih =>
    intro i j y u m
    have pos:∀k,r.getD k 0=3->1<=r.count 3:=by
     intro k g
     have f:k<r.length:=by
      rcases Nat.lt_or_ge k r.length with h|h
      ·exact h
      ·rw[List.getD_eq_getElem?_getD,List.getElem?_eq_none h] at g;cases g
     rw[List.getD_eq_getElem?_getD,yD f] at g;exact List.count_pos_iff.2 (by have:=List.getElem_mem f;simp only[Option.getD_some] at g;rw[g] at this;exact this)
    cases i with
    | zero =>
     cases j with
     | zero=>exact absurd rfl y
     | succ j =>
      have w:x=3:=u;have:=pos j m
      rw[w,List.count_cons_self];omega
    | succ i =>
     cases j with
     | zero =>
      have w:x=3:=m;have:=pos i u
      rw[w,List.count_cons_self];omega
     | succ j =>
      have:=ih i j (by omega) u m;rw[List.count_cons];omega
  have:=v fl i j q A h.1;omega
theorem zdh{ops:Array Oper}(d:Region.noSelect ops=true){a A:Act}{w:World}{i:Nat}{o:Oper}{F:World->Prop}(g:ops[i]? = some o)(f:∀t∈o.looksAt ops,a.tmps[t]? = A.tmps[t]?)(h:wpList P ops (zbb A F) [o] A w){K:Act->World->Prop}
  (next:∀v w',A.put o.dst v=A->F w'->K (a.put o.dst v) w'):wpOp P ops Q i K a w:=
 op_move d g f h (fun X w' h=>by rw[h.1]) (fun _ _ h=>h) (fun v w' h=>next v w' h.1 h.2) (fun _ _ h=>h.elim)
theorem ziM{ops:Array Oper}(d:Region.noSelect ops=true){a A:Act}{w:World}{i:Nat}{o:Oper}(j:ops[i]? = some o)(g:∀t∈o.looksAt ops,a.tmps[t]? = A.tmps[t]?)(f:a.defers=a0.defers)(h:wpList P ops (DieQ a0 Q) [o] A w){K:Act->World->Prop}:wpOp P ops Q i K a w:=
 op_move d j g h (fun _ _ h=>h.elim) (fun _ _ h=>h) (fun _ _ h=>h.elim) (fun _ _ h=>h a f)
def T0 (_ : World) : Prop:= True
theorem zkJ{ops:Array Oper}{A:Act}{fl:List Nat}(ab:zbJ ops=true)(G:zba ops=true)(l:Region.noSelect ops=true)(L:ziL fl ops=true)(ae:∀t,(∀(j:Nat) (o:Oper),ops[j]? = some o->o.dst≠some t)->a0.tmps[t]? = A.tmps[t]?)(Z:A.defers=a0.defers)
  (hs:stepsD2 P ops E a0 Q A fl ops.toList) :
  ∀(fuel:Nat) (d:Array Bool) (a:Act) (w:World),d.size=ops.size->d.toList.count false<=fuel->(∀j,d.getD j false=true->(fl.getD j 0=0∨fl.getD j 0=3∨fl.getD j 0=4)/\(fl.getD j 0=4->zbn fl d=true))->InvJ ops a0 A T0 d a w->E (zbn fl d) w->wpAny P .any ops Q fuel d a w:=by
 unfold ziL at L;simp only[yC,yQ] at L;obtain⟨⟨⟨⟨ak,aa⟩,g⟩,W⟩,T⟩:=L
 obtain⟨k,V,an⟩:∃k,k<ops.size/\(fl.getD k 0=1∨fl.getD k 0=5):=by
  rw[Bool.or_eq_true] at g;rcases g with g|g
  ·have y:(1:Nat)∈fl:=by simpa using g
   obtain⟨k,V,e⟩:=List.getElem_of_mem y;exact⟨k,by omega,.inl (by rw[List.getD_eq_getElem?_getD,yD V,e];rfl)⟩
  ·have y:(5:Nat)∈fl:=by simpa using g
   obtain⟨k,V,e⟩:=List.getElem_of_mem y;exact⟨k,by omega,.inr (by rw[List.getD_eq_getElem?_getD,yD V,e];rfl)⟩
 have u:∀(d:Array Bool),d.size=ops.size->(∀j,d.getD j false=true->(fl.getD j 0=0∨fl.getD j 0=3∨fl.getD j 0=4)/\(fl.getD j 0=4->zbn fl d=true))->Region.ready .any ops d=[]->False:=by
  intro d f F hr;have:=(F k (zcU G d f hr k V)).1;omega
 have H:∀(i:Nat) (o:Oper),ops[i]? = some o->∀d:Array Bool,(∀j,d.getD j false=true->(fl.getD j 0=0∨fl.getD j 0=3∨fl.getD j 0=4)/\(fl.getD j 0=4->zbn fl d=true))->i∈Region.ready .any ops d->fl.getD i 0≠2/\(fl.getD i 0=1∨fl.getD i 0=4->zbn fl d=true):=by
  intro i o q d F hr;rw[List.all_eq_true] at T;have y:=T i (List.mem_range.2 (Array.getElem?_eq_some_iff.1 q).1);rw[q] at y;simp only[yC] at y;obtain⟨y,h2⟩:=y;obtain⟨_,o',U,z⟩:=mem_ready.1 hr;rw[q] at U;cases U;constructor
  ·intro O;simp only[O,bne_self_eq_false,Bool.false_or] at y;obtain⟨e,he,R⟩:=Array.any_eq_true'.1 y;simp only[yC,Bool.or_eq_true,beq_iff_eq] at R;have:=(F e.on (z e he R.1)).1;omega
  ·intro O;have S:(fl.getD i 0 != 1&&fl.getD i 0 != 4)=false:=by rcases O with O|O <;> rw[O] <;> rfl
   rw[S,Bool.false_or] at h2;obtain⟨e,he,R⟩:=Array.any_eq_true'.1 h2;simp only[yC,Bool.or_eq_true,beq_iff_eq] at R;have hl:=z e he R.1;rcases R.2 with h|h
   ·exact zdQ h hl
   ·exact(F e.on hl).2 h
 intro fuel
 induction fuel with
 | zero =>
  intro d a w f hc F J I
  exact(u d f F (none_ready f hc)).elim
 | succ fuel ih =>
  intro d a w f hc F J I;refine⟨fun hr=>(u d f F hr).elim,fun i hi=>?_⟩;obtain⟨hf,o,q,z⟩:=mem_ready.1 hi;have B:i<d.size:=by rw[f];exact(Array.getElem?_eq_some_iff.1 q).1
  have aj:i<fl.length:=by omega
  have e1:d[i]=false:=by simpa[B] using hf
  have ad:d.getD i false=false:=by simp[B,e1]
  have ac:=ready_count f hi;have Y:(d.setIfInBounds i true).getD i false=true:=by simp[B]
  have D:fl[i]? = some (fl.getD i 0):=by rw[List.getD_eq_getElem?_getD,yD aj];rfl
  have m:=hs.get i o (fl.getD i 0) D (by simpa using q);have C:∀t∈o.looksAt ops,a.tmps[t]? = A.tmps[t]?:=fun t ht=>J.eval ab ae q hi ht
  obtain⟨ao,X⟩:=H i o q d F hi;have am:fl.getD i 0<=5:=of_decide_eq_true (List.all_eq_true.1 aa _ (List.mem_of_getElem? D));have M:fl.getD i 0=0∨fl.getD i 0=1∨fl.getD i 0=3∨fl.getD i 0=4∨fl.getD i 0=5:=by omega
  have next:∀(b:Bool),(fl.getD i 0=0∨fl.getD i 0=3∨fl.getD i 0=4)->zbn fl (d.setIfInBounds i true)=b->(zbn fl d=true->b=true)->(fl.getD i 0=4->b=true)->∀v w',A.put o.dst v=A->E b w'->wpAny P .any ops Q fuel (d.setIfInBounds i true) (a.put o.dst v) w':=by
   intro b ag N af ah v w' hA ai;refine ih _ _ _ (by simpa using f) (by omega) (fun j hjl=>?_) (J.put q f hA trivial) (by rw[N];exact ai);by_cases e:i=j
   ·subst e;exact⟨ag,fun h=>by rw[N];exact ah h⟩
   ·have:=F j (by rwa[getD_set_ne false e] at hjl);exact⟨this.1,fun h=>by rw[N];exact af (this.2 h)⟩
  rcases M with h0|y|S|h4|h5
  ·have K:=zeb (fl:=fl) B (by omega:fl.getD i 0≠3);exact zdh l q C (m.1 h0 _ w I) (next _ (.inl h0) K (fun h=>h) (fun h=>by omega))
  ·have hp:=X (.inl y);rw[hp] at I;exact ziM l q C (J.defers.trans Z) (m.2.1 y w I)
  ·have hp:=zhl W S ad;rw[hp] at I;exact zdh l q C (m.2.2.1 S w I) (next true (.inr (.inl S)) (zdQ S Y) (fun _=>rfl) (fun _=>rfl))
  ·have hp:=X (.inr h4);have K:=zeb (fl:=fl) B (by omega:fl.getD i 0≠3);rw[hp] at I K;exact zdh l q C (m.2.2.2.1 h4 w I) (next true (.inr (.inr h4)) K (fun _=>rfl) (fun _=>rfl))
  ·exact ziM l q C (J.defers.trans Z) (m.2.2.2.2 h5 _ w I)
theorem zdi{id:Nat}{l:List Oper}{w:World}(fl:List Nat)(E:Bool->World->Prop)(z:P.follows .mixedOrders=true)
  (d:(zbJ l.toArray&&(zba l.toArray&&(Region.noSelect l.toArray&&(zcg l&&ziL fl l.toArray))))=true) (B:E false w.drew) (v:stepsDie2 P l.toArray E a0 Q fl l a0):(Code.region id l.toArray true).wp P Q a0 w:=by
 rw[yC,yC,yC,yC] at d;obtain⟨A,g,f,q,m⟩:=zdJ d.1 d.2.1 d.2.2.1 d.2.2.2.1 fl l 0 a0 (fun j p hj=>by rw[Nat.zero_add];exact hj) v;refine wp_region_any z ?_;have y:(Array.replicate l.toArray.size false).toList.count false<=l.toArray.size:=by simp
 have i:zbn fl (Array.replicate l.toArray.size false)=false:=by
  unfold zbn;rw[List.any_eq_false];intro j _;rw[getD_replicate_false];simp
 refine zkJ (A:=A) (E:=E) d.1 d.2.1 d.2.2.1 d.2.2.2.2 (fun t ht=>?_) f m _ _ _ _ (by simp) y (fun j hj=>?_) ?_ (by rw[i];exact B)
 ·refine(q t fun o ho hd=>?_).symm;obtain⟨j,hj,e⟩:=List.getElem_of_mem ho;exact ht j o (by simp[hj,e]) hd
 ·rw[getD_replicate_false] at hj;cases hj
 ·refine⟨g.symm,f.symm,fun t ht=>?_,fun t _=>rfl,trivial⟩;obtain⟨j,o,_,_,u⟩:=ht;rw[getD_replicate_false] at u;cases u
end
section
variable {P : Program} {ops : Array Oper} {E : Bool -> World -> Prop} {a0 : Act} {Q : Exit -> Act -> World -> Prop} {fl : List Nat} {o : Oper} {l : List Oper} {a : Act}
theorem stepsDie2.val{v:Value}(h:∀b w,E b w->wpList P ops (zbb (a.put o.dst v) (E b)) [o] a w)(d:stepsDie2 P ops E a0 Q fl l (a.put o.dst v)):stepsDie2 P ops E a0 Q (0::fl) (o::l) a:=⟨v,fun b w hw=>zcV (h b w hw),d⟩
theorem stepsDie2.mem{v:Value}(h:∀w,E false w->wpList P ops (zbb (a.put o.dst v) (E true)) [o] a w)(d:stepsDie2 P ops E a0 Q fl l (a.put o.dst v)):stepsDie2 P ops E a0 Q (3::fl) (o::l) a:=⟨v,fun w hw=>zcV (h w hw),d⟩
theorem stepsDie2.back{v:Value}(h:∀w,E true w->wpList P ops (zbb (a.put o.dst v) (E true)) [o] a w)(d:stepsDie2 P ops E a0 Q fl l (a.put o.dst v)):stepsDie2 P ops E a0 Q (4::fl) (o::l) a:=⟨v,fun w hw=>zcV (h w hw),d⟩
theorem stepsDie2.die(h:∀w,E true w->wpList P ops (DieQ a0 Q) [o] a w)(d:stepsDie2 P ops E a0 Q fl l a):stepsDie2 P ops E a0 Q (1::fl) (o::l) a:=⟨h,d⟩
theorem stepsDie2.dies(h:∀b w,E b w->wpList P ops (DieQ a0 Q) [o] a w)(d:stepsDie2 P ops E a0 Q fl l a):stepsDie2 P ops E a0 Q (5::fl) (o::l) a:=⟨h,d⟩
theorem stepsDie2.skip(h:stepsDie2 P ops E a0 Q fl l a):stepsDie2 P ops E a0 Q (2::fl) (o::l) a:=h
theorem stepsDie2.done:stepsDie2 P ops E a0 Q [] [] a:=trivial
end
section
variable {P : Program} {ops : Array Oper}
def zcy (n size : Nat) : Array Bool:= ((List.range size).map fun i => decide (i < n)).toArray
theorem zfy{n:Nat}{d:Array Bool}(inv:HeadInv .any ops n d)(f:∀i,i<n->i<ops.size->d.getD i true=true):d=zcy n ops.size:=by
 apply Array.ext
 ·simp[zcy,inv.size]
 ·intro i g l;have j:i<ops.size:=by rw[<-inv.size];exact g
  simp only[zcy,List.getElem_toArray,List.getElem_map,List.getElem_range];by_cases h:i<n
  ·have:=f i h j;simpa[g,h] using this
  ·have:=inv.tail i (by omega) j;simpa[g,h] using this
end
def zhG (l : List Oper) (n : Nat) : Bool :=
  zbJ l.toArray && (zba l.toArray && (Region.noSelect l.toArray && (zcg l && (Region.sinkB .any l.toArray n && (Region.chainB .any l.toArray n && (decide (n < l.toArray.size) && Region.seqB .any l.toArray (l.drop n).length n (zcy n l.toArray.size)))))))
inductive Flag2 (E : Bool -> World -> Prop) (R : (World -> Prop) -> World -> Prop) : Nat -> Prop
  | any (h : ∀ b w, E b w -> R (E b) w) : Flag2 E R 0
  | mem (h : ∀ w, E false w -> R (E true) w) : Flag2 E R 3
  | back (h : ∀ w, E true w -> R (E true) w) : Flag2 E R 4
theorem Flag2.imp{E:Bool->World->Prop}{R R':(World->Prop)->World->Prop}{k:Nat}(h:Flag2 E R k)(hi:∀G w,R G w->R' G w):Flag2 E R' k:=by
 cases h with
 | any h=>exact .any fun b w hw=>hi _ _ (h b w hw)
 | mem h=>exact .mem fun w hw=>hi _ _ (h w hw)
 | back h=>exact .back fun w hw=>hi _ _ (h w hw)
def stepsSeq2 (P : Program) (ops : Array Oper) (E : Bool -> World -> Prop) (F : Act -> Prop) : List Nat -> List Oper -> Act -> Prop
  | [], [], a => F a
  | f :: fl, o :: l, a => ∃ v, Flag2 E (fun G w => wpList P ops (zcK a o.dst v G) [o] a w) f /\ stepsSeq2 P ops E F fl l (a.put o.dst v)
  | _, _, _ => False
def stepsOk2 (P : Program) (ops : Array Oper) (A : Act) (E : Bool -> World -> Prop) : List Nat -> List Oper -> Prop
  | f :: fl, o :: l => Flag2 E (fun G w => wpList P ops (zbb A G) [o] A w) f /\ stepsOk2 P ops A E fl l
  | _, _ => True
theorem stepsOk2.get{P:Program}{ops:Array Oper}{A:Act}{E:Bool->World->Prop}:∀{fl:List Nat} {l:List Oper},stepsOk2 P ops A E fl l->∀(i:Nat) (o:Oper) (k:Nat),fl[i]? = some k->l[i]? = some o->Flag2 E (fun G w=>wpList P ops (zbb A G) [o] A w) k
 | [],_,_,i,o,k,h1,_=>by simp at h1
 | _::_,[],_,i,o,k,_,h2=>by simp at h2
 | f::fl,p::l,h,0,o,k,h1,h2=>by
  simp only[List.getElem?_cons_zero,Option.some.injEq] at h1 h2;subst h1;subst h2
  exact h.1
 | f::fl,p::l,h,i+1,o,k,h1,h2=>stepsOk2.get h.2 i o k (by simpa using h1) (by simpa using h2)
def zhF (fl : List Nat) (ops : Array Oper) (n : Nat) : Bool :=
  decide (fl.length = n) && decide (fl.count 3 <= 1) && (List.range n).all fun i => match ops[i]? with
    | none => true
    | some o => fl.getD i 0 != 4 || o.after.any fun e => Region.binds .any e && (fl.getD e.on 0 == 3 || fl.getD e.on 0 == 4)
theorem stepsSeq2.imp{P:Program}{ops:Array Oper}{E:Bool->World->Prop}{F f:Act->Prop}(d:∀a,F a->f a):∀{fl:List Nat} {l:List Oper} {a:Act},stepsSeq2 P ops E F fl l a->stepsSeq2 P ops E f fl l a
 | [],[],a,h=>d a h
 | _::_,_::_,_,⟨v,h1,h2⟩=>⟨v,h1,stepsSeq2.imp d h2⟩
 | _::_,[],_,h=>h.elim
 | [],_::_,_,h=>h.elim
theorem stepsSeq.two{P:Program}{ops:Array Oper}{E:World->Prop}{F:Act->Prop}:∀{l:List Oper} {a:Act},stepsSeq P ops E F l a->stepsSeq2 P ops (fun _=>E) F (List.replicate l.length 0) l a
 | [],_,h=>h
 | _::_,_,⟨v,h1,h2⟩=>⟨v,.any fun _=>h1,stepsSeq.two h2⟩
section
variable {P : Program} {E : Bool -> World -> Prop}
theorem zjK{u:List Oper}{F:Act->Prop}(q:zbJ u.toArray=true)(d:zba u.toArray=true)(m:Region.noSelect u.toArray=true)(g:zcg u=true) :
  ∀(fl:List Nat) (l:List Oper) (k:Nat) (a:Act),(∀j p,l[j]? = some p->u[k+j]? = some p)->stepsSeq2 P u.toArray E F fl l a->∃vs,F (fill a l vs)/\stepsOk2 P u.toArray (fill a l vs) E fl l
 | [],[],_,a,_,h=>⟨[],h,trivial⟩
 | f::fl,[],_,a,_,h=>h.elim
 | [],o::l,_,a,_,h=>h.elim
 | f::fl,o::l,k,a,hat,h=>by
  obtain⟨v,B,A⟩:=h;obtain⟨vs,C,D⟩:=zjK q d m g fl l (k+1) (a.put o.dst v) (fun j p hj=>by rw[Nat.add_assoc,Nat.add_comm 1 j];exact hat (j+1) p hj) A;obtain⟨y,z⟩:=op_free q d g hat;refine⟨v::vs,C,B.imp fun G w hw=>?_,D⟩;rw[zfb];exact zec m (i:=k) (by simpa using hat 0 o rfl) (a:=a) (v:=v) (by rw[zbS,za8]) (fun t ht=>by rw[zb8 l _ vs t (fun p hp=>y t ht p (List.mem_cons_of_mem _ hp)),zcn (y t ht o (List.mem_cons_self ..))]) (zmP (zbS ..) (fun t ht=>zb8 l _ vs t ht) z) hw
theorem zjn{ops:Array Oper}{a0 A:Act}{Q:Exit->Act->World->Prop}{fl:List Nat}{n:Nat}(Z:zbJ ops=true)(u:zba ops=true)(g:Region.noSelect ops=true)(F:Region.sinkB .any ops n=true)(z:Region.chainB .any ops n=true)(hn:n<ops.size)
  (S:∀t,(∀(j:Nat) (o:Oper),j<n->ops[j]? = some o->o.dst≠some t)->a0.tmps[t]? = A.tmps[t]?)
  (I:zhF fl ops n=true) (hs:∀(i:Nat) (o:Oper),i<n->ops[i]? = some o->Flag2 E (fun G w=>wpList P ops (zbb A G) [o] A w) (fl.getD i 0))
  (X:∀b w,(3∈fl->b=true)->E b w->wpAny P .any ops Q (ops.size-n) (zcy n ops.size) A w) :
  ∀(fuel:Nat) (d:Array Bool) (a:Act) (w:World),HeadInv .any ops n d->d.toList.count false=fuel->(∀j,j<n->d.getD j false=true->fl.getD j 0=4->zbn fl d=true)->InvJ ops a0 A T0 d a w->E (zbn fl d) w->wpAny P .any ops Q fuel d a w:=by
 unfold zhF at I;simp only[yC,yQ] at I;obtain⟨⟨ak,U⟩,ac⟩:=I
 have fin:∀(d:Array Bool) (a:Act) (w:World) (fuel:Nat),HeadInv .any ops n d->d.toList.count false=fuel->InvJ ops a0 A T0 d a w->E (zbn fl d) w->(∀i,i<n->i<ops.size->d.getD i true=true)->wpAny P .any ops Q fuel d a w:=by
  intro d a w fuel inv N J C f
  have ae:3∈fl->zbn fl d=true:=by
   intro h3;obtain⟨k,hk,e⟩:=List.getElem_of_mem h3;have R:k<ops.size:=by omega
   have O:k<d.size:=by rw[inv.size];exact R
   refine zdQ (i:=k) (by rw[List.getD_eq_getElem?_getD,yD hk,e];rfl) ?_;have y:=f k (by omega) R;simpa[O] using y
  have T:=zfy inv f
  have af:fuel=ops.size-n:=by
   rw[<-N,T];unfold zcy
   have:∀m,((List.range m).map fun i=>decide (i<n)).count false=m-n:=by
    intro m
    induction m with
    | zero=>simp
    | succ m ih =>
     rw[List.range_succ,List.map_append,List.count_append,ih];by_cases h:m<n
     ·simp[h];omega
     ·simp[h];omega
   exact this _
  have:a=A:=by
   have ht:a.tmps=A.tmps:=by
    apply Array.ext_getElem?;intro t;by_cases hw:zen ops d t
    ·exact J.done t hw
    ·rw[J.left t hw];refine S t fun j o hj ho hd=>hw ⟨j,o,ho,hd,?_⟩
     have y:=f j hj (Array.getElem?_eq_some_iff.1 ho).1;have O:j<d.size:=by rw[inv.size];exact(Array.getElem?_eq_some_iff.1 ho).1
     simpa[O] using y
   cases a;cases A;have:=J.defers;simp_all
  rw[this,T,af];exact X _ w ae C
 intro fuel
 induction fuel with
 | zero =>
  intro d a w inv N hj J C;exfalso;have y:=inv.tail n (zr _) hn;rw[List.count_eq_zero] at N;apply N;have O:n<d.size:=by rw[inv.size];exact hn
  have:d[n]=false:=by simpa[O] using y
  rw[<-this]
  simp
 | succ fuel ih =>
  intro d a w inv N hj J C;by_cases f:∀i,i<n->i<ops.size->d.getD i true=true
  ·exact fin d a w _ inv N J C f
  ·have ag:∃i,i<n/\d.getD i true=false:=by
    refine Classical.byContradiction fun hno=>f fun i hi _=>?_
    rw[<-Bool.not_eq_false];exact fun h=>hno ⟨i,hi,h⟩
   obtain⟨i0,aj,D⟩:=ag;have L:=tail_waits F z hn inv _ i0 rfl aj D;refine⟨fun hr=>?_,fun i hi=>?_⟩
   ·exfalso;have:=zcU u d inv.size hr i0 (by omega);rw[getD_both D] at this;cases this
   have K:i<n:=by
    rcases Nat.lt_or_ge i n with h|h
    ·exact h
    ·exact absurd hi (L i h)
   obtain⟨hf,o,ho,M⟩:=mem_ready.1 hi;have l:i<d.size:=by rw[inv.size];exact(Array.getElem?_eq_some_iff.1 ho).1
   have aa:=ready_count inv.size hi;have H:∀t∈o.looksAt ops,a.tmps[t]? = A.tmps[t]?:=fun t ht=>J.eval Z (fun t h=>S t fun j p _ hp=>h j p hp) ho hi ht
   have e1:d[i]=false:=by simpa[l] using hf
   have ab:d.getD i false=false:=by simp[l,e1]
   have V:(d.setIfInBounds i true).getD i false=true:=by simp[l]
   have next:∀(b:Bool),zbn fl (d.setIfInBounds i true)=b->(zbn fl d=true->b=true)->(fl.getD i 0=4->b=true)->∀v w',A.put o.dst v=A->E b w'->wpAny P .any ops Q fuel (d.setIfInBounds i true) (a.put o.dst v) w':=by
    intro b Y ad ah v w' hA ai;refine ih _ _ _ (inv.set hi K) (by omega) (fun j hjn hjl h4=>?_) (J.put ho inv.size hA trivial) (by rw[Y];exact ai);rw[Y];by_cases e:i=j
    ·subst e;exact ah h4
    ·exact ad (hj j hjn (by rwa[getD_set_ne false e] at hjl) h4)
   have q:=hs i o K ho;generalize hg:fl.getD i 0=k at q next
   cases q with
   | any h =>
    have B:=zeb (fl:=fl) l (by rw[hg];decide:fl.getD i 0≠3)
    exact zdh g ho H (h _ w C) (next _ B (fun h=>h) (fun h=>by cases h))
   | mem h =>
    have hp:=zhl U hg ab;rw[hp] at C
    exact zdh g ho H (h w C) (next true (zdQ hg V) (fun _=>rfl) (fun _=>rfl))
   | back h =>
    have B:=zeb (fl:=fl) l (by rw[hg];decide:fl.getD i 0≠3)
    have hp:zbn fl d=true:=by
     have y:=List.all_eq_true.1 ac i (List.mem_range.2 K);rw[ho] at y;simp only[hg,bne_self_eq_false,Bool.false_or] at y;obtain⟨e,he,hb⟩:=Array.any_eq_true'.1 y;simp only[yC,Bool.or_eq_true,beq_iff_eq] at hb;have T:=M e he hb.1;rcases hb.2 with h|h
     ·exact zdQ h T
     ·refine hj e.on ?_ T h;rcases Nat.lt_or_ge e.on n with W|am
      ·exact W
      ·rw[List.getD_eq_getElem?_getD,List.getElem?_eq_none (by omega)] at h;cases h
    rw[hp] at C B;exact zdh g ho H (h w C) (next true B (fun _=>rfl) (fun _=>rfl))
theorem wp_region_tailA{id:Nat}{l:List Oper}{a0:Act}{Q:Exit->Act->World->Prop}{w:World}(n:Nat)(fl:List Nat)(E:Bool->World->Prop)(N:P.follows .mixedOrders=true)
  (y:(zhG l n&&zhF fl l.toArray n)=true) (O:E false w.drew) (K:stepsSeq2 P l.toArray E (fun a=>∀b w,(3∈fl->b=true)->E b w->wpList P l.toArray Q (l.drop n) a w) fl (l.take n) a0):(Code.region id l.toArray true).wp P Q a0 w:=by
 rw[yC] at y;obtain⟨y,f⟩:=y;unfold zhG at y;simp only[yC,yQ] at y;obtain⟨q,d,m,v,u,g,M,B⟩:=y;obtain⟨vs,L,J⟩:=zjK q d m v fl (l.take n) 0 a0 (fun j p hj=>by rw[Nat.zero_add];rw[List.getElem?_take] at hj;split at hj;exact hj;cases hj) K;refine wp_region_any N ?_
 have I:fl.length=n:=by
  unfold zhF at f;simp only[yC,yQ] at f;exact f.1.1
 have z:∀i o,i<n->l.toArray[i]? = some o->(l.take n)[i]? = some o:=fun i o hi ho=>by
  rw[List.getElem?_take,yP hi];simpa using ho
 have C:HeadInv .any l.toArray n (Array.replicate l.toArray.size false):=
  ⟨by simp,fun j oj _ hl=>(by rw[getD_replicate_false] at hl;cases hl),fun t _ ht=>getD_in (by simpa using ht) (getD_replicate_false _ _)⟩
 have H:zbn fl (Array.replicate l.toArray.size false)=false:=by
  unfold zbn;rw[List.any_eq_false];intro j _;rw[getD_replicate_false];simp
 refine zjn (a0:=a0) (A:=fill a0 (l.take n) vs) (E:=E) q d m u g M (fun t ht=>?_) f (fun i o hi ho=>J.get i o _ (by rw[List.getD_eq_getElem?_getD,yD (by omega)];rfl) (z i o hi ho)) (fun b w hb hw=>?_) _ _ _ _ C (by simp) (fun j _ hl=>by rw[getD_replicate_false] at hl;cases hl) ?_ (by rw[H];exact O)
 ·refine(zb8 (l.take n) a0 vs t fun o ho hd=>?_).symm;obtain⟨j,hj,e⟩:=List.getElem_of_mem ho;have F:j<n:=by simp at hj;omega
  refine ht j o F ?_ hd;rw[List.getElem_take] at e;have D:j<l.length:=by simp at hj;omega
  rw[List.getElem?_toArray,yD D,e]
 ·have G:l.toArray.size-n=(l.drop n).length:=by simp
  rw[G];exact wpAny_of_seq (l.drop n) n _ _ _ (fun j=>by simp) B (L b w hb hw)
 ·refine⟨(zbS (l.take n) a0 vs).symm,(zdl (l.take n) a0 vs).symm,fun t ht=>?_,fun t _=>rfl,trivial⟩;obtain⟨j,o,_,_,hl⟩:=ht;rw[getD_replicate_false] at hl;cases hl
theorem stepsSeq2.val{ops:Array Oper}{F:Act->Prop}{fl:List Nat}{o:Oper}{l:List Oper}{a:Act}{v:Value}(h:∀b w,E b w->wpList P ops (zbb (a.put o.dst v) (E b)) [o] a w)(d:stepsSeq2 P ops E F fl l (a.put o.dst v)):stepsSeq2 P ops E F (0::fl) (o::l) a:=⟨v,.any fun b w hw=>zcV (h b w hw),d⟩
theorem stepsSeq2.mem{ops:Array Oper}{F:Act->Prop}{fl:List Nat}{o:Oper}{l:List Oper}{a:Act}{v:Value}(h:∀w,E false w->wpList P ops (zbb (a.put o.dst v) (E true)) [o] a w)(d:stepsSeq2 P ops E F fl l (a.put o.dst v)):stepsSeq2 P ops E F (3::fl) (o::l) a:=⟨v,.mem fun w hw=>zcV (h w hw),d⟩
theorem stepsSeq2.back{ops:Array Oper}{F:Act->Prop}{fl:List Nat}{o:Oper}{l:List Oper}{a:Act}{v:Value}(h:∀w,E true w->wpList P ops (zbb (a.put o.dst v) (E true)) [o] a w)(d:stepsSeq2 P ops E F fl l (a.put o.dst v)):stepsSeq2 P ops E F (4::fl) (o::l) a:=⟨v,.back fun w hw=>zcV (h w hw),d⟩
theorem stepsSeq2.nil{ops:Array Oper}{F:Act->Prop}{a:Act}(h:F a):stepsSeq2 P ops E F [] [] a:=h
end
section
variable {P : Program}
theorem zc7{id:Nat}{l:List Oper}{a0:Act}{Q:Exit->Act->World->Prop}{w:World}(n:Nat)(fl:List Nat)(E:Bool->World->Prop)(f:P.follows .mixedOrders=true)
  (d:(zhG l n&&(zhF fl l.toArray n&&fl.contains 3))=true) (g:E false w.drew) (i:stepsSeq2 P l.toArray E (fun a=>∀w,E true w->wpList P l.toArray Q (l.drop n) a w) fl (l.take n) a0):(Code.region id l.toArray true).wp P Q a0 w:=by
 rw[yC,yC] at d;refine wp_region_tailA n fl E f (by rw[d.1,d.2.1];rfl) g (stepsSeq2.imp (fun a h b w hb hw=>?_) i);rw[hb (by simpa using d.2.2)] at hw;exact h w hw
theorem zaW{id:Nat}{l:List Oper}{a0:Act}{Q:Exit->Act->World->Prop}{w:World}(n:Nat)(E:World->Prop)(j:P.follows .mixedOrders=true)
  (d:zhG l n=true) (m:E w.drew) (f:stepsSeq P l.toArray E (fun a=>∀w,E w->wpList P l.toArray Q (l.drop n) a w) (l.take n) a0):(Code.region id l.toArray true).wp P Q a0 w:=by
 have q:n<l.toArray.size:=by
  unfold zhG at d;simp only[yC,yQ] at d;exact d.2.2.2.2.2.2.1
 have g:∀i,(List.replicate (l.take n).length 0).getD i 0=0:=fun i=>by
  rw[List.getD_eq_getElem?_getD,List.getElem?_replicate];split <;> rfl
 refine wp_region_tailA n (List.replicate (l.take n).length 0) (fun _=>E) j ?_ m (stepsSeq2.imp (fun a h b w _ hw=>h w hw) f.two);rw[d,Bool.true_and];unfold zhF;simp only[yC,yQ,List.all_eq_true];refine⟨⟨by simp at q ⊢;omega,by rw[List.count_replicate];simp⟩,fun i _=>?_⟩;split
 ·rfl
 ·rw[g];rfl
end
def oneStr : ByteArray := ⟨#[43, 45, 42, 47, 37, 60, 62, 33, 61, 40, 41, 91, 93, 123, 125, 44, 59]⟩
theorem zjo:oneStr.data.toList.map UInt8.toNat=zbt:=rfl
theorem zdD(a:Nat):a∈zbt ↔ ∃(j:Nat) (h:j<oneStr.size),oneStr[j].toNat=a:=by
 rw[<-zjo,List.mem_map];constructor
 ·rintro⟨x,f,rfl⟩;obtain⟨j,d,rfl⟩:=List.getElem_of_mem f;exact⟨j,d,rfl⟩
 ·rintro⟨j,h,rfl⟩;exact⟨oneStr[j],List.getElem_mem (l:=oneStr.data.toList) h,rfl⟩
theorem zbX(s:ByteArray)(i j:Nat):(s.extract i j).data.toList=(s.data.toList.drop i).take (j-i):=by
 rw[ByteArray.data_extract,Array.toList_extract,List.extract_eq_take_drop]
theorem two_of(a b:UInt8)(x y:UInt8):([a,b]==[x,y])=decide ((a.toNat,b.toNat)=(x.toNat,y.toNat)):=by
 rw[Bool.eq_iff_iff,beq_iff_eq,yQ];simp[UInt8.toNat_inj]
theorem zkN(s:ByteArray)(d:2<=s.size) :
  ∃p1 p2 p3 p4 p5 p6:Bool,((s.extract 0 2).toList==[61,61])=p1/\((s.extract 0 2).toList==[33,61])=p2/\((s.extract 0 2).toList==[60,61])=p3/\((s.extract 0 2).toList==[62,61])=p4/\((s.extract 0 2).toList==[38,38])=p5/\((s.extract 0 2).toList==[124,124])=p6 /\
   zag s.data.toList=if(p1||(p2||(p3||(p4||(p5||p6)))))=true then 2 else if(s[0]'(by omega)).toNat∈zbt then 1 else 0:=by
 refine⟨_,_,_,_,_,_,rfl,rfl,rfl,rfl,rfl,rfl,?_⟩;have j:s.data.toList.length=s.size:=zaq s
 have e0:s.data.toList=s[0]::s[1]::s.data.toList.drop 2:=by
  have f:=List.drop_eq_getElem_cons (l:=s.data.toList) (i:=0) (by omega);have d:=List.drop_eq_getElem_cons (l:=s.data.toList) (i:=1) (by omega);rw[List.drop_zero] at f;rw[f,d];rfl
 have g:(s.extract 0 2).toList=[s[0],s[1]]:=by
  rw[ByteArray.toList_eq,zbX,List.drop_zero,e0];rfl
 rw[g,e0];simp only[two_of,zag,zbB];simp only[List.mem_cons,List.not_mem_nil,or_false,Bool.or_eq_true,yQ];rfl
theorem zkO(s:ByteArray)(f:0<s.size)(g:s.size<2):zag s.data.toList=if(s[0]'f).toNat∈zbt then 1 else 0:=by
 have j:s.data.toList.length=s.size:=zaq s
 have e0:s.data.toList=[s[0]]:=by
  have d:=List.drop_eq_getElem_cons (l:=s.data.toList) (i:=0) (by omega);rw[List.drop_zero,List.drop_of_length_le (by omega)] at d;exact d
 rw[e0];rfl
theorem ziO (s : ByteArray) (w : World) (O : 0 < s.size) (Q : s.size <= 9223372036854775807) :
    Calls Tryz.prog 111 #[.string s] w fun e w' => e = .returned (.int .i64 (zag s.data.toList : Nat)) /\ Below w.heap.size w w' := by
  by_cases M : 2 <= s.size
  · have J : (2 : Int) <= s.size := by omega
    obtain⟨E, D, G, B, F, C, U, S, P, V, R, T, hp⟩ := zkN s M
    have g : (E||(D||(G||(B||(F||C))))) = true ∨ (E||(D||(G||(B||(F||C))))) = false := by cases(E||(D||(G||(B||(F||C))))) <;> simp
    rcases g with g|g
    · rw [g, yP rfl] at hp
      have y := zh hp
      clear hp
      cases E <;> cases D <;> cases G <;> cases B <;> cases F <;> cases C
      all_goals first
      |(exfalso; revert g; decide)
      | (clear g
         go_enter Tryz.func111, Tryz.ntmps111
         go_wp2
         go_ret
         exact⟨by rw[y.out]; rfl, yR _ _⟩)
    · rw [g, yN (by decide)] at hp
      have y := zh hp
      obtain⟨rfl, rfl, rfl, rfl, rfl, rfl⟩ : E = false /\ D = false /\ G = false /\ B = false /\ F = false /\ C = false := by revert g; cases E <;> cases D <;> cases G <;> cases B <;> cases F <;> cases C <;> decide
      clear hp g
      go_enter Tryz.func111, Tryz.ntmps111
      go_wp2
      go_loopw [2, 5, 33, 34, 35, 36, 37, 38, 39, 40, 41, 42, 43, 44] (fun _ t5 _ _ _ _ _ _ _ _ _ _ _ _ wr => ∃k : Nat, k <= 17 /\ t5 = .int .i64 k /\ Hid (∀(j : Nat) (h : j<oneStr.size), j<k -> oneStr[j].toNat ≠ s[0].toNat) /\ Below w.heap.size w wr) (fun _ t5 _ _ _ _ _ _ _ _ _ _ _ _ _ => 17-(intOf t5).toNat)
      case atStart => exact⟨0, by omega, rfl, zh (by intro j _ hj; omega), yR _ _⟩
      case round =>
        obtain⟨k, N, rfl, m, v⟩ := hrel
        by_cases z : k<17
        · have I : (k : Int) < 17 := by omega
          have i : k<oneStr.size := z
          obtain⟨q, L, u⟩ : ∃q : Bool,(s[0].toNat==(oneStr[k]'i).toNat) = q /\ (q = true ↔ oneStr[k].toNat = s[0].toNat) := ⟨_, rfl, by rw[beq_iff_eq]; exact eq_comm⟩
          have H := zh u
          have K := zh v
          have A : w.heap.size <= wr.heap.size := v.size
          clear u v
          unfold oneStr at L
          go_wp2
          refine zac (fun w' => Below wr.heap.size wr w') (by kernel_rfl) (by kernel_rfl) ((yR _ _).drew) ?_
          repeat
            try simp only[Act.put, zs1, zs3, zs2]
            apply stepsSeq.cons
            · intro w' f
              have d := zh f
              simp only[Act.put, zs1, zs3, zs2]
              go_wp2_with (fail)
              first|exact⟨rfl, d.out⟩|exact⟨rfl, d.out.trans (hb2.mono d.out.size)⟩
          try simp only[Act.put, zs1, zs3, zs2]
          refine stepsSeq.nil ?_
          intro w' f
          have l := zh (K.out.trans (f.mono A))
          clear f
          cases q
          · go_wp2
            go_roundw
            case rel =>
              refine⟨k + 1, by omega, by go_num, zh (fun j hj hjk => ?_), l.out⟩
              rcases Nat.lt_or_ge j k with h|h
              · exact m.out j hj h
              · obtain rfl : j = k := by omega
                intro e
                have := H.out.2 e
                cases this
            case measure => simp[intOf]; omega
          · go_wp2
            go_ret
            refine⟨?_, l.out⟩
            rw[y.out, yP ((zdD _).2 ⟨k, i, H.out.1 (by first|rfl|trivial)⟩)]
            rfl
        · obtain rfl : k = 17 := by omega
          go_wp2
          go_ret
          refine⟨?_, v⟩
          rw[y.out, yN (fun h => by obtain⟨j, hj, e⟩ := (zdD _).1 h; exact m.out j hj hj e)]
          rfl
  · have J : ¬ (2 : Int) <= s.size := by omega
    have y := zh (zkO s O (by omega))
    go_enter Tryz.func111, Tryz.ntmps111
    go_wp2
    go_loopw [2, 5, 33, 34, 35, 36, 37, 38, 39, 40, 41, 42, 43, 44] (fun _ t5 _ _ _ _ _ _ _ _ _ _ _ _ wr => ∃k : Nat, k <= 17 /\ t5 = .int .i64 k /\ Hid (∀(j : Nat) (h : j<oneStr.size), j<k -> oneStr[j].toNat ≠ s[0].toNat) /\ Below w.heap.size w wr) (fun _ t5 _ _ _ _ _ _ _ _ _ _ _ _ _ => 17-(intOf t5).toNat)
    case atStart => exact⟨0, by omega, rfl, zh (by intro j _ hj; omega), yR _ _⟩
    case round =>
      obtain⟨k, N, rfl, m, v⟩ := hrel
      by_cases z : k<17
      · have I : (k : Int) < 17 := by omega
        have i : k<oneStr.size := z
        obtain⟨q, L, u⟩ : ∃q : Bool,(s[0].toNat==(oneStr[k]'i).toNat) = q /\ (q = true ↔ oneStr[k].toNat = s[0].toNat) := ⟨_, rfl, by rw[beq_iff_eq]; exact eq_comm⟩
        have H := zh u
        have K := zh v
        have A : w.heap.size <= wr.heap.size := v.size
        clear u v
        unfold oneStr at L
        go_wp2
        refine zac (fun w' => Below wr.heap.size wr w') (by kernel_rfl) (by kernel_rfl) ((yR _ _).drew) ?_
        repeat
          try simp only[Act.put, zs1, zs3, zs2]
          apply stepsSeq.cons
          · intro w' f
            have d := zh f
            simp only[Act.put, zs1, zs3, zs2]
            go_wp2_with (fail)
            first|exact⟨rfl, d.out⟩|exact⟨rfl, d.out.trans (hb2.mono d.out.size)⟩
        try simp only[Act.put, zs1, zs3, zs2]
        refine stepsSeq.nil ?_
        intro w' f
        have l := zh (K.out.trans (f.mono A))
        clear f
        cases q
        · go_wp2
          go_roundw
          case rel =>
            refine⟨k + 1, by omega, by go_num, zh (fun j hj hjk => ?_), l.out⟩
            rcases Nat.lt_or_ge j k with h|h
            · exact m.out j hj h
            · obtain rfl : j = k := by omega
              intro e
              have := H.out.2 e
              cases this
          case measure => simp[intOf]; omega
        · go_wp2
          go_ret
          refine⟨?_, l.out⟩
          rw[y.out, yP ((zdD _).2 ⟨k, i, H.out.1 (by first|rfl|trivial)⟩)]
          rfl
      · obtain rfl : k = 17 := by omega
        go_wp2
        go_ret
        refine⟨?_, v⟩
        rw[y.out, yN (fun h => by obtain⟨j, hj, e⟩ := (zdD _).1 h; exact m.out j hj hj e)]
        rfl
end Go.Proofs.YtoaojdobjinhfaaGreatDoor
