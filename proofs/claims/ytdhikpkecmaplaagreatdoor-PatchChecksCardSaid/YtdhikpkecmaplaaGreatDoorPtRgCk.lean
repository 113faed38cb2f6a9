/- A statement whose order Go leaves open but for its last operations, which may write a variable that the first ones read. No condition of its own. -/
import Derived.Test.YtdhikpkecmaplaaGreatDoorRegionMk
set_option linter.unusedSimpArgs false
set_option linter.unusedVariables false
namespace Go.Proofs.YtdhikpkecmaplaaGreatDoor
open Go.RowKit

section
variable {P : Program} {ops : Array Oper} {a0 A : Act} {E : World -> Prop} {Q : Exit -> Act -> World -> Prop}
def depsH (ops : Array Oper) (n : Nat) : Bool :=
  (List.range n).all fun i => match ops[i]? with
    | none => true
    | some o => (o.looksAt ops).all fun t => (List.range n).all fun j => match ops[j]? with
      | none => true
      | some p => p.dst != some t || o.after.any fun e => e.on == j && Region.binds .any e
theorem depsH_spec {n:Nat} (h:depsH ops n=true) {i:Nat} {o:Oper} (hin:i < n) (ho:ops[i]? = some o) {t:Nat} (ht:t ∈ o.looksAt ops) {j:Nat} {p:Oper} (hjn:j < n) (hp:ops[j]? = some p) (hd:p.dst=some t) :
  ∃ e ∈ o.after,Region.binds .any e=true/\e.on=j:=by
 unfold depsH at h;rw [List.all_eq_true] at h;have h1:=h i (List.mem_range.2 hin);simp only [ho] at h1;rw [List.all_eq_true] at h1;have h2:=h1 t ht;rw [List.all_eq_true] at h2;have h3:=h2 j (List.mem_range.2 hjn);simp only [hp,hd,bne_self_eq_false,Bool.false_or] at h3;obtain ⟨e,he,hb⟩:=Array.any_eq_true'.1 h3;simp only [Bool.and_eq_true,beq_iff_eq] at hb;exact ⟨e,he,hb.2,hb.1⟩
theorem wpAny_headh {n:Nat} (hdep:depsH ops n=true) (hahead:zba ops=true) (hsel:Region.noSelect ops=true) (hsink:Region.sinkB .any ops n=true) (hchain:Region.chainB .any ops n=true) (hn:n < ops.size)
  (hA0:∀ t,(∀ (j:Nat) (o:Oper),j < n->ops[j]? = some o->o.dst≠some t)->a0.tmps[t]? = A.tmps[t]?)
  (hs:∀ (i:Nat) (o:Oper),i < n->ops[i]? = some o->∀ w,E w->wpList P ops (zbb A E) [o] A w)
  (hfin:∀ w,E w->wpAny P .any ops Q (ops.size - n) (zcy n ops.size) A w) :
  ∀ (fuel:Nat) (listed:Array Bool) (a:Act) (w:World),HeadInv .any ops n listed->listed.toList.count false=fuel->InvJ ops a0 A E listed a w->wpAny P .any ops Q fuel listed a w:=by
 have fin:∀ (listed:Array Bool) (a:Act) (w:World) (fuel:Nat),HeadInv .any ops n listed->listed.toList.count false=fuel->InvJ ops a0 A E listed a w->(∀ i,i < n->i < ops.size->listed.getD i true=true)->wpAny P .any ops Q fuel listed a w:=by
  intro listed a w fuel inv hc J hall;have hl:=zfy inv hall
  have hct:fuel=ops.size - n:=by
   rw [<- hc,hl];unfold zcy
   have:∀ m,((List.range m).map fun i=>decide (i < n)).count false=m - n:=by
    intro m
    induction m with
    | zero=>simp
    | succ m ih =>
     rw [List.range_succ,List.map_append,List.count_append,ih];by_cases h:m < n
     ·simp [h];omega
     ·simp [h];omega
   exact this _
  have:a=A:=by
   have ht:a.tmps=A.tmps:=by
    apply Array.ext_getElem?;intro t;by_cases hw:zen ops listed t
    ·exact J.done t hw
    ·rw [J.left t hw];refine hA0 t fun j o hj ho hd=>hw ⟨j,o,ho,hd,?_⟩
     have h1:=hall j hj (Array.getElem?_eq_some_iff.1 ho).1;have h2:j < listed.size:=by rw [inv.size];exact (Array.getElem?_eq_some_iff.1 ho).1
     simpa [h2] using h1
   cases a;cases A;have:=J.defers;simp_all
  rw [this,hl,hct];exact hfin w J.world
 intro fuel
 induction fuel with
 | zero =>
  intro listed a w inv hc J;exfalso;have h1:=inv.tail n (zr _) hn;rw [List.count_eq_zero] at hc;apply hc;have h2:n < listed.size:=by rw [inv.size];exact hn
  have:listed[n]=false:=by simpa [h2] using h1
  rw [<- this]
  simp
 | succ fuel ih =>
  intro listed a w inv hc J;by_cases hall:∀ i,i < n->i < ops.size->listed.getD i true=true
  ·exact fin listed a w _ inv hc J hall
  ·have hex:∃ i,i < n/\listed.getD i true=false:=by
    refine Classical.byContradiction fun hno=>hall fun i hi _=>?_
    rw [<- Bool.not_eq_false];exact fun h=>hno ⟨i,hi,h⟩
   obtain ⟨i0,hi0,hun0⟩:=hex;have htail:=tail_waits hsink hchain hn inv _ i0 rfl hi0 hun0;refine ⟨fun hr=>?_,fun i hi=>?_⟩
   ·exfalso;have:=zcU hahead listed inv.size hr i0 (by omega);rw [getD_both hun0] at this;cases this
   have hin:i < n:=by
    rcases Nat.lt_or_ge i n with h | h
    ·exact h
    ·exact absurd hi (htail i h)
   obtain ⟨hf,o,ho,hall'⟩:=mem_ready.1 hi;have hlt:i < listed.size:=by rw [inv.size];exact (Array.getElem?_eq_some_iff.1 ho).1
   have hcount:(listed.setIfInBounds i true).toList.count false=fuel:=by
    have e1:listed[i]=false:=by simpa [hlt] using hf
    have e2:(listed.setIfInBounds i true).toList=listed.toList.set i true:=by simp
    rw [e2,List.count_set (by simpa using hlt)];have e3:listed.toList[i]'(by simpa using hlt)=false:=by simpa using e1
    rw [e3]
    have hpos:0 < listed.toList.count false:=by
     rw [List.count_pos_iff,<- e3];simp
    simp;simp at hc hpos;omega
   have next:∀ v w',A.put o.dst v=A->E w'->wpAny P .any ops Q fuel (listed.setIfInBounds i true) (a.put o.dst v) w':=fun v w' hA hE =>
    ih _ _ _ (inv.set hi hin) hcount (J.put ho inv.size hA hE)
   have h:=hs i o hin ho w J.world
   have hev:∀ t ∈ o.looksAt ops,a.tmps[t]? = A.tmps[t]?:=fun t ht=>by
    by_cases hw:∃ (j:Nat) (p:Oper),j < n/\ops[j]? = some p/\p.dst=some t
    ·obtain ⟨j,p,hjn,hp,hd⟩:=hw;obtain ⟨e,he,hb,hej⟩:=depsH_spec hdep hin ho ht hjn hp hd;exact J.done t ⟨j,p,hp,hd,by rw [<- hej];exact hall' e he hb⟩
    ·rw [J.left t fun ⟨j,p,hp,hd,hl⟩=>by
      rcases Nat.lt_or_ge j n with h | h
      ·exact hw ⟨j,p,h,hp,hd⟩
      ·have h1:=inv.tail j h (Array.getElem?_eq_some_iff.1 hp).1;have h2:j < listed.size:=by rw [inv.size];exact (Array.getElem?_eq_some_iff.1 hp).1
       simp [h2] at h1 hl;rw [h1] at hl
       cases hl]
     exact hA0 t fun j p hj hp hd=>hw ⟨j,p,hj,hp,hd⟩
   have hexec:execOp a.eval o=execOp A.eval o:=execOp_congr o (fun cs b=>Region.noSelect_spec hsel i o cs b ho) fun x hx=>by
    cases x with
    | tmp t =>
     have:=hev t (List.mem_append_left _ (List.mem_filterMap.2 ⟨.tmp t,by simpa using hx,rfl⟩))
     simp [Act.eval,this]
    | _=>rfl
   have hwant:Region.wanted o (yielded ops a.tmps)=Region.wanted o (yielded ops A.tmps):=by
    unfold Region.wanted
    cases hg:o.guard with
    | none=>rfl
    | some gw =>
     obtain ⟨g,want⟩:=gw
     have:yielded ops a.tmps g=yielded ops A.tmps g:=by
      unfold yielded
      cases ht:(ops[g]?).bind (·.dst) with
      | none=>rfl
      | some t =>
       have:=hev t (List.mem_append_right _ (by simp [hg,ht]));simp [this]
     simp only [this]
   unfold wpOp;simp only [ho];rw [hwant];simp only [wpList] at h;split
   ·rename_i hw
    rw [if_pos hw] at h;refine .inl ?_;rcases h with h | ⟨_,a₀,w₀,hq⟩
    case inr=>exact hq.elim
    unfold Oper.wp at *
    rw [hexec]
    generalize (execOp A.eval o).run P w=r at *
    cases r with
    | ok n w' =>
     cases n <;> simp only [Oper.upon] at h ⊢
     case value v=>exact next v w' h.1 h.2
     case skip=>exact next undef w' h.1 h.2
     case defer d =>
      exfalso;have:=congrArg Act.defers h.1;rw [zbq] at this;exact absurd this (by simp)
     case enter f args =>
      refine Calls.mono h fun e w'' he=>?_
      cases e with
      | returned v=>exact next v w'' he.1 he.2
      | panicked c=>exact he.elim
      | outgrown=>obtain ⟨_,_,hq⟩:=he;exact hq.elim
     case row row args=>exact Rows.mono h fun v w'' he=>next v w'' he.1 he.2
    | halt x w'=>cases x <;> simp only [Oper.upon] at h <;> exact h.elim
   ·rename_i hw
    rw [if_neg hw] at h;exact next undef w h.1 h.2
end

section
variable {P : Program} {E : World -> Prop}
theorem seq_okh {l0:List Oper} {F:Act->Prop} {n:Nat} (hdep:depsH l0.toArray n=true) (hahead:zba l0.toArray=true) (hsel:Region.noSelect l0.toArray=true) (honce:zcg l0=true) (post:List Oper) :
  ∀ (l pre:List Oper) (a:Act),pre++l++post=l0->pre.length+l.length<=n->stepsSeq P l0.toArray E F l a->∃ vs,F (fill a l vs)/\stepsOk P l0.toArray (fill a l vs) E l
 | [],pre,a,_,_,h=>⟨[],h,trivial⟩
 | o :: l,pre,a,hp,hle,h=>by
  obtain ⟨v,h1,h2⟩:=h;obtain ⟨vs,h3,h4⟩:=seq_okh hdep hahead hsel honce post l (pre++[o]) (a.put o.dst v) (by simpa using hp) (by simp only [List.length_append,List.length_cons,List.length_nil] at hle ⊢;omega) h2;have hi:l0.toArray[pre.length]? = some o:=by subst hp;simp
  have hat:∀ j p,(o :: l)[j]? = some p->l0[pre.length+j]? = some p:=by
   intro j p hj;subst hp;have hlt:=(List.getElem?_eq_some_iff.1 hj).1;rw [List.append_assoc,List.getElem?_append_right (by omega),Nat.add_sub_cancel_left,List.getElem?_append_left hlt];exact hj
  have hput:∀ t,o.dst=some t->∀ p ∈ l,p.dst≠some t:=by
   intro t ht p hpl hpd;obtain ⟨j,hj,e⟩:=List.getElem_of_mem hpl;have h1:l0[pre.length]? = some o:=by simpa using hi
   have h2:=hat (j+1) p (by rw [List.getElem?_cons_succ,List.getElem?_eq_getElem hj,e]);have:=zcB l0 _ _ _ _ t honce h1 h2 ht hpd;omega
  refine ⟨v :: vs,h3,?_,h4⟩;intro w hw;rw [zfb];refine zec hsel hi (a:=a) (v:=v) (by rw [zbS,za8]) (fun t ht=>?_) ?_ (h1 w hw)
  ·have hno:∀ p ∈ o :: l,p.dst≠some t:=by
    intro p hpl hpd;obtain ⟨j,hj,e⟩:=List.getElem_of_mem hpl
    have hjp:l0.toArray[pre.length+j]? = some p:=by
     rw [List.getElem?_toArray];exact hat j p (by rw [List.getElem?_eq_getElem hj,e])
    obtain ⟨ed,he,hb,hej⟩:=depsH_spec hdep (by simp only [List.length_cons] at hle;omega) hi ht (by simp only [List.length_cons] at hle hj;omega) hjp hpd;unfold zba at hahead;rw [List.all_eq_true] at hahead;have h1:=hahead pre.length (List.mem_range.2 (Array.getElem?_eq_some_iff.1 hi).1);rw [hi] at h1;simp only [Array.all_eq_true_iff_forall_mem] at h1;have h2:=h1 ed he;rw [hb] at h2;have h3:ed.on < pre.length:=by simpa using h2
    omega
   rw [zb8 l _ vs t (fun p hp=>hno p (List.mem_cons_of_mem _ hp)),zcn (hno o (List.mem_cons_self ..))]
  ·cases hd:o.dst with
   | none=>rfl
   | some d =>
    have hsz:=zbS l (a.put (some d) v) vs;rcases Nat.lt_or_ge d a.tmps.size with hlt | hge
    ·have hg:=zb8 l (a.put (some d) v) vs d (hput d hd);rw [zbM hlt] at hg;have hlt':d < (fill (a.put (some d) v) l vs).tmps.size:=by rw [hsz,za8];exact hlt
     have hv:(fill (a.put (some d) v) l vs).tmps[d]=v:=by rw [Array.getElem?_eq_getElem hlt'] at hg;exact Option.some.inj hg
     generalize fill (a.put (some d) v) l vs=A at *
     have:(A.tmps.setIfInBounds d v)=A.tmps:=by
      apply Array.ext_getElem?;intro t;by_cases e:d=t
      ·subst e;simp [hlt',hv]
      ·rw [Array.getElem?_setIfInBounds_ne e]
     unfold Act.put;simp only [this]
    ·have hge':(fill (a.put (some d) v) l vs).tmps.size<=d:=by rw [hsz,za8];exact hge
     generalize fill (a.put (some d) v) l vs=A at *
     simp [Act.put,Array.setIfInBounds,Nat.not_lt.2 hge']

def tailH (l : List Oper) (n : Nat) : Bool :=
  depsH l.toArray n && (zba l.toArray && (Region.noSelect l.toArray && (zcg l && (Region.sinkB .any l.toArray n && (Region.chainB .any l.toArray n && (decide (n < l.toArray.size) && Region.seqB .any l.toArray (l.drop n).length n (zcy n l.toArray.size)))))))
theorem wp_region_tailh {id:Nat} {l:List Oper} {a0:Act} {Q:Exit->Act->World->Prop} {w:World} (n:Nat) (E:World->Prop) (hm:P.follows .mixedOrders=true)
  (hB:tailH l n=true) (hE:E w.drew) (hs:stepsSeq P l.toArray E (fun a=>∀ w,E w->wpList P l.toArray Q (l.drop n) a w) (l.take n) a0):(Code.region id l.toArray true).wp P Q a0 w:=by
 unfold tailH at hB;simp only [Bool.and_eq_true,decide_eq_true_eq] at hB;obtain ⟨hdep,hahead,hsel,honce,hsink,hchain,hn,hseq⟩:=hB;obtain ⟨vs,h1,h2⟩:=seq_okh hdep hahead hsel honce (l.drop n) (l.take n) [] a0 (by simp) (by simp;omega) hs;refine wp_region_any hm ?_
 have hget:∀ i o,i < n->l.toArray[i]? = some o->(l.take n)[i]? = some o:=fun i o hi ho=>by
  rw [List.getElem?_take,if_pos hi];simpa using ho
 have inv0:HeadInv .any l.toArray n (Array.replicate l.toArray.size false):=
  ⟨by simp,fun j oj _ hl=>(by rw [getD_replicate_false] at hl;cases hl),fun t _ ht=>getD_in (by simpa using ht) (getD_replicate_false _ _)⟩
 refine wpAny_headh (a0:=a0) (A:=fill a0 (l.take n) vs) (E:=E) hdep hahead hsel hsink hchain hn (fun t ht=>?_) (fun i o hi ho=>h2.get o (List.mem_of_getElem? (hget i o hi ho))) (fun w hw=>?_) _ _ _ _ inv0 (by simp) ?_
 ·refine (zb8 (l.take n) a0 vs t fun o ho hd=>?_).symm;obtain ⟨j,hj,e⟩:=List.getElem_of_mem ho;have hjn:j < n:=by simp at hj;omega
  refine ht j o hjn ?_ hd;rw [List.getElem_take] at e;have hjl:j < l.length:=by simp at hj;omega
  rw [List.getElem?_toArray,List.getElem?_eq_getElem hjl,e]
 ·have hsz:l.toArray.size - n=(l.drop n).length:=by simp
  rw [hsz];exact wpAny_of_seq (l.drop n) n _ _ _ (fun j=>by simp) hseq (h1 w hw)
 ·refine ⟨(zbS (l.take n) a0 vs).symm,(zdl (l.take n) a0 vs).symm,fun t ht=>?_,fun t _=>rfl,hE⟩;obtain ⟨j,o,_,_,hl⟩:=ht;rw [getD_replicate_false] at hl;cases hl
end
end Go.Proofs.YtdhikpkecmaplaaGreatDoor
