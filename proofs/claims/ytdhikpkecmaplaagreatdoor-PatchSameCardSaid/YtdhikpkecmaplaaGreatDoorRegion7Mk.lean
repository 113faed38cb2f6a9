/- A statement whose order is open, in which a call panics: whatever was done ahead of it, the panic is the same. No condition of its own. -/
import Derived.Test.YtdhikpkecmaplaaGreatDoorRegionMk
set_option linter.unusedSimpArgs false
set_option linter.unusedVariables false
namespace Go.Proofs.YtdhikpkecmaplaaGreatDoor
open Go.RowKit

def DieQ (a0 : Act) (Q : Exit -> Act -> World -> Prop) : Exit -> Act -> World -> Prop
  | .panic c, _, w => ∀ a, a.defers = a0.defers -> Q (.panic c) a w
  | _, _, _ => False
def stepsDie (P : Program) (ops : Array Oper) (E : World -> Prop) (a0 : Act) (Q : Exit -> Act -> World -> Prop) : List Nat -> List Oper -> Act -> Prop
  | 0 :: fl, o :: l, a => ∃ v, (∀ w, E w -> wpList P ops (zcK a o.dst v E) [o] a w) /\ stepsDie P ops E a0 Q fl l (a.put o.dst v)
  | 1 :: fl, o :: l, a => (∀ w, E w -> wpList P ops (DieQ a0 Q) [o] a w) /\ stepsDie P ops E a0 Q fl l a
  | _ :: fl, _ :: l, a => stepsDie P ops E a0 Q fl l a
  | _, _, _ => True
theorem stepsDie.val {P:Program} {ops:Array Oper} {E:World->Prop} {a0:Act} {Q:Exit->Act->World->Prop} {fl:List Nat} {o:Oper} {l:List Oper} {a:Act} {v:Value}
  (h:∀ w,E w->wpList P ops (zbb (a.put o.dst v) E) [o] a w) (h':stepsDie P ops E a0 Q fl l (a.put o.dst v)):stepsDie P ops E a0 Q (0 :: fl) (o :: l) a:=⟨v,fun w hw=>zcV (h w hw),h'⟩
theorem stepsDie.die {P:Program} {ops:Array Oper} {E:World->Prop} {a0:Act} {Q:Exit->Act->World->Prop} {fl:List Nat} {o:Oper} {l:List Oper} {a:Act}
  (h:∀ w,E w->wpList P ops (DieQ a0 Q) [o] a w) (h':stepsDie P ops E a0 Q fl l a):stepsDie P ops E a0 Q (1 :: fl) (o :: l) a:=⟨h,h'⟩
def zkH (fl : List Nat) (ops : Array Oper) : Bool :=
  decide (fl.length = ops.size) && fl.all (fun k => decide (k <= 2)) && fl.contains 1 && (List.range ops.size).all fun i => match ops[i]? with
    | none => true
    | some o => fl.getD i 0 != 2 || o.after.any fun e => Region.binds .any e && (fl.getD e.on 0 == 1 || fl.getD e.on 0 == 2)
def stepsD (P : Program) (ops : Array Oper) (E : World -> Prop) (a0 : Act) (Q : Exit -> Act -> World -> Prop) (A : Act) : List Nat -> List Oper -> Prop
  | 0 :: fl, o :: l => (∀ w, E w -> wpList P ops (zbb A E) [o] A w) /\ stepsD P ops E a0 Q A fl l
  | 1 :: fl, o :: l => (∀ w, E w -> wpList P ops (DieQ a0 Q) [o] A w) /\ stepsD P ops E a0 Q A fl l
  | _ :: fl, _ :: l => stepsD P ops E a0 Q A fl l
  | _, _ => True
section
variable {P : Program} {E : World -> Prop} {a0 : Act} {Q : Exit -> Act -> World -> Prop}
theorem stepsD.get {ops:Array Oper} {A:Act}:∀ {fl:List Nat} {l:List Oper},stepsD P ops E a0 Q A fl l->∀ (i:Nat) (o:Oper) (k:Nat),fl[i]? = some k->l[i]? = some o->(k=0->∀ w,E w->wpList P ops (zbb A E) [o] A w)/\(k=1->∀ w,E w->wpList P ops (DieQ a0 Q) [o] A w)
 | [],_,_,i,o,k,h1,_=>by simp at h1
 | _ :: _,[],_,i,o,k,_,h2=>by simp at h2
 | f :: fl,p :: l,h,0,o,k,h1,h2=>by
  simp only [List.getElem?_cons_zero,Option.some.injEq] at h1 h2;subst h1;subst h2;refine ⟨fun e=>?_,fun e=>?_⟩
  ·subst e;exact h.1
  ·subst e;exact h.1
 | f :: fl,p :: l,h,i+1,o,k,h1,h2=>by
  have h':stepsD P ops E a0 Q A fl l:=by
   match f,h with
   | 0,h=>exact h.2
   | 1,h=>exact h.2
   | n+2,h=>exact h
  exact stepsD.get h' i o k (by simpa using h1) (by simpa using h2)
theorem zea {ops:Array Oper} (hsel:Region.noSelect ops=true) {i:Nat} {o:Oper} (ho:ops[i]? = some o) {a A:Act} (hev:∀ t ∈ o.looksAt ops,a.tmps[t]? = A.tmps[t]?):execOp a.eval o=execOp A.eval o/\Region.wanted o (yielded ops a.tmps)=Region.wanted o (yielded ops A.tmps):=by
 refine ⟨execOp_congr o (fun cs b=>Region.noSelect_spec hsel i o cs b ho) fun x hx=>?_,?_⟩
 ·cases x with
  | tmp t =>
   have:=hev t (List.mem_append_left _ (List.mem_filterMap.2 ⟨.tmp t,by simpa using hx,rfl⟩))
   simp [Act.eval,this]
  | _=>rfl
 ·unfold Region.wanted
  cases hg:o.guard with
  | none=>rfl
  | some gw =>
   obtain ⟨g,want⟩:=gw
   have:yielded ops a.tmps g=yielded ops A.tmps g:=by
    unfold yielded
    cases ht:(ops[g]?).bind (·.dst) with
    | none=>rfl
    | some t =>
     have:=hev t (List.mem_append_right _ (by simp [hg,ht]));simp [this]
   simp only [this]
theorem zfW {ops:Array Oper} (hsel:Region.noSelect ops=true) {i:Nat} {o:Oper} (ho:ops[i]? = some o) {a A:Act} (hev:∀ t ∈ o.looksAt ops,a.tmps[t]? = A.tmps[t]?) {w:World}
  (h:wpList P ops (DieQ a0 Q) [o] a w):wpList P ops (DieQ a0 Q) [o] A w:=by
 obtain ⟨hexec,hwant⟩:=zea hsel ho hev;simp only [wpList] at h ⊢;rw [<- hwant];split
 ·rename_i hw
  rw [yP hw] at h;rcases h with h | ⟨hcut,a₀,w₀,hq⟩
  case inr=>exact hq.elim
  refine .inl ?_
  unfold Oper.wp at *
  rw [<- hexec]
  generalize (execOp a.eval o).run P w=r at *
  cases r with
  | ok n w' =>
   cases n <;> simp only [Oper.upon] at h ⊢
   case value u=>exact h.elim
   case skip=>exact h.elim
   case defer d=>exact h.elim
   case enter f args =>
    refine Calls.mono h fun e w'' he=>?_
    cases e with
    | returned u=>exact he.elim
    | panicked c=>exact he
    | outgrown=>obtain ⟨_,_,hq⟩:=he;exact hq.elim
   case row row args=>exact Rows.mono h fun u w'' he=>he.elim
  | halt x w'=>cases x <;> simp only [Oper.upon] at h ⊢ <;> first | exact h | exact h.elim
 ·rename_i hw
  rw [yN hw] at h;exact h.elim
theorem zkI {ops:Array Oper} {A:Act} (fl:List Nat):stepsD P ops E a0 Q A fl []:=by
 rcases fl with _ | ⟨_ | _ | n,fl⟩ <;> trivial
theorem zgD {l0:List Oper} (hdep:zbJ l0.toArray=true) (hahead:zba l0.toArray=true) (hsel:Region.noSelect l0.toArray=true) (honce:zcg l0=true) :
  ∀ (fl:List Nat) (l pre:List Oper) (a:Act),pre++l=l0->stepsDie P l0.toArray E a0 Q fl l a ->
   ∃ A:Act,A.tmps.size=a.tmps.size/\A.defers=a.defers/\(∀ t,(∀ o ∈ l,o.dst≠some t)->A.tmps[t]? = a.tmps[t]?)/\stepsD P l0.toArray E a0 Q A fl l
 | [],l,pre,a,_,_=>⟨a,rfl,rfl,fun _ _=>rfl,by cases l <;> trivial⟩
 | _ :: _,[],pre,a,_,_=>⟨a,rfl,rfl,fun _ _=>rfl,zkI _⟩
 | f :: fl,o :: l,pre,a,hp,h=>by
  have hi:l0.toArray[pre.length]? = some o:=by subst hp;simp
  have hno:∀ t ∈ o.looksAt l0.toArray,∀ p ∈ o :: l,p.dst≠some t:=by
   intro t ht p hpl hpd;obtain ⟨j,hj,e⟩:=List.getElem_of_mem hpl
   have hjp:l0.toArray[pre.length+j]? = some p:=by
    subst hp;simp only [List.getElem?_toArray];rw [List.getElem?_append_right (by omega),Nat.add_sub_cancel_left,yD hj,e]
   obtain ⟨ed,he,hb,hej⟩:=zcA hdep hi ht hjp hpd;unfold zba at hahead;rw [List.all_eq_true] at hahead;have h1:=hahead pre.length (List.mem_range.2 (Array.getElem?_eq_some_iff.1 hi).1);rw [hi] at h1;simp only [Array.all_eq_true_iff_forall_mem] at h1;have h2:=h1 ed he;rw [hb] at h2;have h3:ed.on < pre.length:=by simpa using h2
   omega
  match f,h with
  | 0,h =>
   obtain ⟨v,h1,h2⟩:=h;obtain ⟨A,hsz,hdf,hag,hst⟩:=zgD hdep hahead hsel honce fl l (pre++[o]) (a.put o.dst v) (by simpa using hp) h2;refine ⟨A,by rw [hsz,za8],by rw [hdf,zbq],fun t ht=>?_,?_,hst⟩
   ·rw [hag t (fun p hp=>ht p (List.mem_cons_of_mem _ hp)),zcn (ht o (List.mem_cons_self ..))]
   ·intro w hw;refine zec hsel hi (a:=a) (v:=v) (by rw [hsz,za8]) (fun t ht=>?_) ?_ (h1 w hw)
    ·rw [hag t (fun p hp=>hno t ht p (List.mem_cons_of_mem _ hp)),zcn (hno t ht o (List.mem_cons_self ..))]
    ·cases hd:o.dst with
     | none=>rfl
     | some d =>
      have hput:∀ p ∈ l,p.dst≠some d:=by
       intro p hpl hpd;obtain ⟨j,hj,e⟩:=List.getElem_of_mem hpl;have h1:l0[pre.length]? = some o:=by simpa using hi
       have h2:l0[pre.length+(j+1)]? = some p:=by
        subst hp;rw [List.getElem?_append_right (by omega)];simp [hj,e]
       have:=zcB l0 _ _ _ _ d honce h1 h2 hd hpd;omega
      have hg:=hag d hput;rw [hd] at hg;rcases Nat.lt_or_ge d a.tmps.size with hlt | hge
      ·rw [zbM hlt] at hg;have hlt':d < A.tmps.size:=by rw [hsz,za8];exact hlt
       have hv:A.tmps[d]=v:=by rw [Array.getElem?_eq_getElem hlt'] at hg;exact Option.some.inj hg
       have:A.tmps.setIfInBounds d v=A.tmps:=by
        apply Array.ext_getElem?;intro t;by_cases e:d=t
        ·subst e;simp [hlt',hv]
        ·rw [Array.getElem?_setIfInBounds_ne e]
       unfold Act.put;simp only [this]
      ·have hge':A.tmps.size<=d:=by rw [hsz,za8];exact hge
       simp [Act.put,Array.setIfInBounds,Nat.not_lt.2 hge']
  | 1,h =>
   obtain ⟨h1,h2⟩:=h;obtain ⟨A,hsz,hdf,hag,hst⟩:=zgD hdep hahead hsel honce fl l (pre++[o]) a (by simpa using hp) h2
   exact ⟨A,hsz,hdf,fun t ht=>hag t (fun p hp=>ht p (List.mem_cons_of_mem _ hp)),fun w hw=>zfW hsel hi (fun t ht=>(hag t (fun p hp=>hno t ht p (List.mem_cons_of_mem _ hp))).symm) (h1 w hw),hst⟩
  | n+2,h =>
   obtain ⟨A,hsz,hdf,hag,hst⟩:=zgD hdep hahead hsel honce fl l (pre++[o]) a (by simpa using hp) h;exact ⟨A,hsz,hdf,fun t ht=>hag t (fun p hp=>ht p (List.mem_cons_of_mem _ hp)),hst⟩
theorem zlW {ops:Array Oper} {A:Act} {fl:List Nat} (hdep:zbJ ops=true) (hahead:zba ops=true) (hsel:Region.noSelect ops=true) (hfl:zkH fl ops=true) (hA0:∀ t,(∀ (j:Nat) (o:Oper),ops[j]? = some o->o.dst≠some t)->a0.tmps[t]? = A.tmps[t]?) (hdf:A.defers=a0.defers)
  (hs:stepsD P ops E a0 Q A fl ops.toList) :
  ∀ (fuel:Nat) (listed:Array Bool) (a:Act) (w:World),listed.size=ops.size->listed.toList.count false<=fuel->(∀ j,listed.getD j false=true->fl.getD j 0=0)->InvJ ops a0 A E listed a w->wpAny P .any ops Q fuel listed a w:=by
 unfold zkH at hfl;simp only [yC,yQ] at hfl;obtain ⟨⟨⟨hlen,hle2⟩,hone⟩,hdp⟩:=hfl
 obtain ⟨k,hk,hk1⟩:∃ k,k < ops.size/\fl.getD k 0=1:=by
  have h1:(1:Nat) ∈ fl:=by simpa using hone
  obtain ⟨k,hk,e⟩:=List.getElem_of_mem h1;exact ⟨k,by omega,by rw [List.getD_eq_getElem?_getD,yD hk,e];rfl⟩
 have notall:∀ (listed:Array Bool),listed.size=ops.size->(∀ j,listed.getD j false=true->fl.getD j 0=0)->Region.ready .any ops listed=[]->False:=by
  intro listed hls hj hr;have:=hj k (zcU hahead listed hls hr k hk);omega
 have flagAt:∀ (i:Nat) (o:Oper),ops[i]? = some o->∀ listed:Array Bool,(∀ j,listed.getD j false=true->fl.getD j 0=0)->i ∈ Region.ready .any ops listed->fl.getD i 0≠2:=by
  intro i o ho listed hj hr e2;rw [List.all_eq_true] at hdp;have h1:=hdp i (List.mem_range.2 (Array.getElem?_eq_some_iff.1 ho).1);rw [ho] at h1;simp only [e2,bne_self_eq_false,Bool.false_or] at h1;obtain ⟨e,he,hb⟩:=Array.any_eq_true'.1 h1;simp only [yC,Bool.or_eq_true,beq_iff_eq] at hb;obtain ⟨_,o',ho',hall⟩:=mem_ready.1 hr;rw [ho] at ho';cases ho';have:=hj e.on (hall e he hb.1);omega
 intro fuel
 induction fuel with
 | zero =>
  intro listed a w hls hc hj J
  have hr:Region.ready .any ops listed=[]:=by
   rw [List.eq_nil_iff_forall_not_mem];intro i hi;obtain ⟨hf,_⟩:=mem_ready.1 hi
   have hlt:i < listed.size:=by
    rcases Nat.lt_or_ge i listed.size with h | h
    ·exact h
    ·simp [Array.getElem?_eq_none h] at hf
   have h0:listed.toList.count false=0:=by omega
   rw [List.count_eq_zero] at h0;apply h0;have:listed[i]=false:=by simpa [hlt] using hf
   rw [<- this];simp
  exact (notall listed hls hj hr).elim
 | succ fuel ih =>
  intro listed a w hls hc hj J;refine ⟨fun hr=>(notall listed hls hj hr).elim,fun i hi=>?_⟩;obtain ⟨hf,o,ho,hall⟩:=mem_ready.1 hi;have hlt:i < listed.size:=by rw [hls];exact (Array.getElem?_eq_some_iff.1 ho).1
  have hi2:i < fl.length:=by omega
  have hcount:(listed.setIfInBounds i true).toList.count false<=fuel:=by
   have e1:listed[i]=false:=by simpa [hlt] using hf
   have e2:(listed.setIfInBounds i true).toList=listed.toList.set i true:=by simp
   rw [e2,List.count_set (by simpa using hlt)];have e3:listed.toList[i]'(by simpa using hlt)=false:=by simpa using e1
   rw [e3]
   have hpos:0 < listed.toList.count false:=by
    rw [List.count_pos_iff,<- e3];simp
   simp;simp at hc hpos;omega
  have hflag:fl[i]? = some (fl.getD i 0):=by rw [List.getD_eq_getElem?_getD,yD hi2];rfl
  have hget:=hs.get i o (fl.getD i 0) hflag (by simpa using ho);have hev:∀ t ∈ o.looksAt ops,a.tmps[t]? = A.tmps[t]?:=fun t ht=>J.eval hdep hA0 ho hi ht
  obtain ⟨hexec,hwant⟩:=zea hsel ho hev;have hn2:=flagAt i o ho listed hj hi;have hlow:fl.getD i 0=0∨fl.getD i 0=1∨3<=fl.getD i 0:=by omega
  rcases hlow with h0 | h1 | h3
  ·have next:∀ v w',A.put o.dst v=A->E w'->wpAny P .any ops Q fuel (listed.setIfInBounds i true) (a.put o.dst v) w':=fun v w' hA hE =>
    ih _ _ _ (by simpa using hls) hcount (fun j hjl=>by
     by_cases e:i=j
     ·subst e;exact h0
     ·exact hj j (by rwa [getD_set_ne false e] at hjl)) (J.put ho hls hA hE)
   have h:=hget.1 h0 w J.world;unfold wpOp;simp only [ho];rw [hwant];simp only [wpList] at h;split
   ·rename_i hw
    rw [yP hw] at h;refine .inl ?_;rcases h with h | ⟨_,a₀,w₀,hq⟩
    case inr=>exact hq.elim
    unfold Oper.wp at *
    rw [hexec]
    generalize (execOp A.eval o).run P w=r at *
    cases r with
    | ok n w' =>
     cases n <;> simp only [Oper.upon] at h ⊢
     case value v=>exact next v w' h.1 h.2
     case skip=>exact next undef w' h.1 h.2
     case defer d =>
      exfalso;have:=congrArg Act.defers h.1;rw [zbq] at this;exact absurd this (by simp)
     case enter f args =>
      refine Calls.mono h fun e w'' he=>?_
      cases e with
      | returned v=>exact next v w'' he.1 he.2
      | panicked c=>exact he.elim
      | outgrown=>obtain ⟨_,_,hq⟩:=he;exact hq.elim
     case row row args=>exact Rows.mono h fun v w'' he=>next v w'' he.1 he.2
    | halt x w'=>cases x <;> simp only [Oper.upon] at h <;> exact h.elim
   ·rename_i hw
    rw [yN hw] at h;exact next undef w h.1 h.2
  ·have h:=hget.2 h1 w J.world;have hda:a.defers=a0.defers:=J.defers.trans hdf;unfold wpOp;simp only [ho];rw [hwant];simp only [wpList] at h;split
   ·rename_i hw
    rw [yP hw] at h;refine .inl ?_;rcases h with h | ⟨_,a₀,w₀,hq⟩
    case inr=>exact hq.elim
    unfold Oper.wp at *
    rw [hexec]
    generalize (execOp A.eval o).run P w=r at *
    cases r with
    | ok n w' =>
     cases n <;> simp only [Oper.upon] at h ⊢
     case value v=>exact h.elim
     case skip=>exact h.elim
     case defer d=>exact h.elim
     case enter f args =>
      refine Calls.mono h fun e w'' he=>?_
      cases e with
      | returned v=>exact he.elim
      | panicked c=>exact he a hda
      | outgrown=>obtain ⟨_,_,hq⟩:=he;exact hq.elim
     case row row args=>exact Rows.mono h fun v w'' he=>he.elim
    | halt x w'=>cases x <;> simp only [Oper.upon] at h ⊢ <;> first | exact h a hda | exact h.elim
   ·rename_i hw
    rw [yN hw] at h;exact h.elim
  ·exfalso;have h1:=List.all_eq_true.1 hle2 _ (List.mem_of_getElem? hflag);have:=of_decide_eq_true h1;omega
theorem zeL {id:Nat} {l:List Oper} {w:World} (fl:List Nat) (E:World->Prop) (hm:P.follows .mixedOrders=true)
  (hB:(zbJ l.toArray && (zba l.toArray && (Region.noSelect l.toArray && (zcg l && zkH fl l.toArray))))=true) (hE:E w.drew) (hs:stepsDie P l.toArray E a0 Q fl l a0):(Code.region id l.toArray true).wp P Q a0 w:=by
 rw [yC,yC,yC,yC] at hB;obtain ⟨A,hsz,hdf,hag,hst⟩:=zgD hB.1 hB.2.1 hB.2.2.1 hB.2.2.2.1 fl l [] a0 rfl hs;refine wp_region_any hm ?_;have hc:(Array.replicate l.toArray.size false).toList.count false<=l.toArray.size:=by simp
 refine zlW (A:=A) hB.1 hB.2.1 hB.2.2.1 hB.2.2.2.2 (fun t ht=>?_) hdf hst _ _ _ _ (by simp) hc (fun j hj=>?_) ?_
 ·refine (hag t fun o ho hd=>?_).symm;obtain ⟨j,hj,e⟩:=List.getElem_of_mem ho;exact ht j o (by simp [hj,e]) hd
 ·rw [getD_replicate_false] at hj;cases hj
 ·refine ⟨hsz.symm,hdf.symm,fun t ht=>?_,fun t _=>rfl,hE⟩;obtain ⟨j,o,_,_,hl⟩:=ht;rw [getD_replicate_false] at hl;cases hl
end
theorem stepsDie.skip {P:Program} {ops:Array Oper} {E:World->Prop} {a0:Act} {Q:Exit->Act->World->Prop} {fl:List Nat} {o:Oper} {l:List Oper} {a:Act} (h:stepsDie P ops E a0 Q fl l a):stepsDie P ops E a0 Q (2 :: fl) (o :: l) a:=h
theorem stepsDie.done {P:Program} {ops:Array Oper} {E:World->Prop} {a0:Act} {Q:Exit->Act->World->Prop} {a:Act}:stepsDie P ops E a0 Q [] [] a:=trivial
def stepsDie2 (P : Program) (ops : Array Oper) (E : Bool -> World -> Prop) (a0 : Act) (Q : Exit -> Act -> World -> Prop) : List Nat -> List Oper -> Act -> Prop
  | 0 :: fl, o :: l, a => ∃ v, (∀ b w, E b w -> wpList P ops (zcK a o.dst v (E b)) [o] a w) /\ stepsDie2 P ops E a0 Q fl l (a.put o.dst v)
  | 1 :: fl, o :: l, a => (∀ w, E true w -> wpList P ops (DieQ a0 Q) [o] a w) /\ stepsDie2 P ops E a0 Q fl l a
  | 5 :: fl, o :: l, a => (∀ b w, E b w -> wpList P ops (DieQ a0 Q) [o] a w) /\ stepsDie2 P ops E a0 Q fl l a
  | 3 :: fl, o :: l, a => ∃ v, (∀ w, E false w -> wpList P ops (zcK a o.dst v (E true)) [o] a w) /\ stepsDie2 P ops E a0 Q fl l (a.put o.dst v)
  | 4 :: fl, o :: l, a => ∃ v, (∀ w, E true w -> wpList P ops (zcK a o.dst v (E true)) [o] a w) /\ stepsDie2 P ops E a0 Q fl l (a.put o.dst v)
  | _ :: fl, _ :: l, a => stepsDie2 P ops E a0 Q fl l a
  | _, _, _ => True
def stepsD2 (P : Program) (ops : Array Oper) (E : Bool -> World -> Prop) (a0 : Act) (Q : Exit -> Act -> World -> Prop) (A : Act) : List Nat -> List Oper -> Prop
  | 0 :: fl, o :: l => (∀ b w, E b w -> wpList P ops (zbb A (E b)) [o] A w) /\ stepsD2 P ops E a0 Q A fl l
  | 1 :: fl, o :: l => (∀ w, E true w -> wpList P ops (DieQ a0 Q) [o] A w) /\ stepsD2 P ops E a0 Q A fl l
  | 5 :: fl, o :: l => (∀ b w, E b w -> wpList P ops (DieQ a0 Q) [o] A w) /\ stepsD2 P ops E a0 Q A fl l
  | 3 :: fl, o :: l => (∀ w, E false w -> wpList P ops (zbb A (E true)) [o] A w) /\ stepsD2 P ops E a0 Q A fl l
  | 4 :: fl, o :: l => (∀ w, E true w -> wpList P ops (zbb A (E true)) [o] A w) /\ stepsD2 P ops E a0 Q A fl l
  | _ :: fl, _ :: l => stepsD2 P ops E a0 Q A fl l
  | _, _ => True
def ziL (fl : List Nat) (ops : Array Oper) : Bool :=
  decide (fl.length = ops.size) && fl.all (fun k => decide (k <= 5)) && (fl.contains 1 || fl.contains 5) && decide (fl.count 3 = 1) && (List.range ops.size).all fun i => match ops[i]? with
    | none => true
    | some o => (fl.getD i 0 != 2 || o.after.any fun e => Region.binds .any e && (fl.getD e.on 0 == 1 || fl.getD e.on 0 == 2 || fl.getD e.on 0 == 5)) && ((fl.getD i 0 != 1 && fl.getD i 0 != 4) || o.after.any fun e => Region.binds .any e && (fl.getD e.on 0 == 3 || fl.getD e.on 0 == 4))
def zbn (fl : List Nat) (listed : Array Bool) : Bool := (List.range fl.length).any fun j => fl.getD j 0 == 3 && listed.getD j false
section
variable {P : Program} {E : Bool -> World -> Prop} {a0 : Act} {Q : Exit -> Act -> World -> Prop}
theorem stepsD2.get {ops:Array Oper} {A:Act}:∀ {fl:List Nat} {l:List Oper},stepsD2 P ops E a0 Q A fl l->∀ (i:Nat) (o:Oper) (k:Nat),fl[i]? = some k->l[i]? = some o->(k=0->∀ b w,E b w->wpList P ops (zbb A (E b)) [o] A w)/\(k=1->∀ w,E true w->wpList P ops (DieQ a0 Q) [o] A w)/\(k=3->∀ w,E false w->wpList P ops (zbb A (E true)) [o] A w)/\(k=4->∀ w,E true w->wpList P ops (zbb A (E true)) [o] A w)/\(k=5->∀ b w,E b w->wpList P ops (DieQ a0 Q) [o] A w)
 | [],_,_,i,o,k,h1,_=>by simp at h1
 | _ :: _,[],_,i,o,k,_,h2=>by simp at h2
 | f :: fl,p :: l,h,0,o,k,h1,h2=>by
  simp only [List.getElem?_cons_zero,Option.some.injEq] at h1 h2;subst h1;subst h2;refine ⟨fun e=>?_,fun e=>?_,fun e=>?_,fun e=>?_,fun e=>?_⟩
  all_goals (subst e;exact h.1)
 | f :: fl,p :: l,h,i+1,o,k,h1,h2=>by
  have h':stepsD2 P ops E a0 Q A fl l:=by
   match f,h with
   | 0,h=>exact h.2
   | 1,h=>exact h.2
   | 2,h=>exact h
   | 3,h=>exact h.2
   | 4,h=>exact h.2
   | 5,h=>exact h.2
   | n+6,h=>exact h
  exact stepsD2.get h' i o k (by simpa using h1) (by simpa using h2)
theorem zjm {ops:Array Oper} {A:Act} (fl:List Nat):stepsD2 P ops E a0 Q A fl []:=by
 rcases fl with _ | ⟨_ | _ | _ | _ | _ | _ | n,fl⟩ <;> trivial
theorem zmP {l:List Oper} {a A:Act} {o:Oper} {v:Value} (hsz:A.tmps.size=(a.put o.dst v).tmps.size) (hag:∀ t,(∀ p ∈ l,p.dst≠some t)->A.tmps[t]? = (a.put o.dst v).tmps[t]?) (hput:∀ d,o.dst=some d->∀ p ∈ l,p.dst≠some d):A.put o.dst v=A:=by
 cases hd:o.dst with
 | none=>rfl
 | some d =>
  have hg:=hag d (hput d hd);rw [hd] at hg;rw [za8] at hsz;rcases Nat.lt_or_ge d a.tmps.size with hlt | hge
  ·rw [zbM hlt] at hg;have hlt':d < A.tmps.size:=by rw [hsz];exact hlt
   have hv:A.tmps[d]=v:=by rw [Array.getElem?_eq_getElem hlt'] at hg;exact Option.some.inj hg
   have:A.tmps.setIfInBounds d v=A.tmps:=by
    apply Array.ext_getElem?;intro t;by_cases e:d=t
    ·subst e;simp [hlt',hv]
    ·rw [Array.getElem?_setIfInBounds_ne e]
   unfold Act.put;simp only [this]
  ·have hge':A.tmps.size<=d:=by rw [hsz];exact hge
   simp [Act.put,Array.setIfInBounds,Nat.not_lt.2 hge']
theorem zgE {ops:Array Oper} (hsel:Region.noSelect ops=true) {i:Nat} {o:Oper} (ho:ops[i]? = some o) {a A:Act} {v:Value} {F:World->Prop} (hsz:a.tmps.size=A.tmps.size) (hev:∀ t ∈ o.looksAt ops,a.tmps[t]? = A.tmps[t]?) (hA:A.put o.dst v=A) {w:World}
  (h:wpList P ops (zcK a o.dst v F) [o] a w):wpList P ops (zbb A F) [o] A w:=zec (E:=F) hsel ho hsz hev hA h
theorem zdJ {l0:List Oper} (hdep:zbJ l0.toArray=true) (hahead:zba l0.toArray=true) (hsel:Region.noSelect l0.toArray=true) (honce:zcg l0=true) :
  ∀ (fl:List Nat) (l pre:List Oper) (a:Act),pre++l=l0->stepsDie2 P l0.toArray E a0 Q fl l a ->
   ∃ A:Act,A.tmps.size=a.tmps.size/\A.defers=a.defers/\(∀ t,(∀ o ∈ l,o.dst≠some t)->A.tmps[t]? = a.tmps[t]?)/\stepsD2 P l0.toArray E a0 Q A fl l
 | [],l,pre,a,_,_=>⟨a,rfl,rfl,fun _ _=>rfl,by cases l <;> trivial⟩
 | _ :: _,[],pre,a,_,_=>⟨a,rfl,rfl,fun _ _=>rfl,zjm _⟩
 | f :: fl,o :: l,pre,a,hp,h=>by
  have hi:l0.toArray[pre.length]? = some o:=by subst hp;simp
  have hno:∀ t ∈ o.looksAt l0.toArray,∀ p ∈ o :: l,p.dst≠some t:=by
   intro t ht p hpl hpd;obtain ⟨j,hj,e⟩:=List.getElem_of_mem hpl
   have hjp:l0.toArray[pre.length+j]? = some p:=by
    subst hp;simp only [List.getElem?_toArray];rw [List.getElem?_append_right (by omega),Nat.add_sub_cancel_left,yD hj,e]
   obtain ⟨ed,he,hb,hej⟩:=zcA hdep hi ht hjp hpd;unfold zba at hahead;rw [List.all_eq_true] at hahead;have h1:=hahead pre.length (List.mem_range.2 (Array.getElem?_eq_some_iff.1 hi).1);rw [hi] at h1;simp only [Array.all_eq_true_iff_forall_mem] at h1;have h2:=h1 ed he;rw [hb] at h2;have h3:ed.on < pre.length:=by simpa using h2
   omega
  have hput:∀ d,o.dst=some d->∀ p ∈ l,p.dst≠some d:=by
   intro d hd p hpl hpd;obtain ⟨j,hj,e⟩:=List.getElem_of_mem hpl;have h1:l0[pre.length]? = some o:=by simpa using hi
   have h2:l0[pre.length+(j+1)]? = some p:=by
    subst hp;rw [List.getElem?_append_right (by omega)];simp [hj,e]
   have:=zcB l0 _ _ _ _ d honce h1 h2 hd hpd;omega
  have val:∀ (v:Value),stepsDie2 P l0.toArray E a0 Q fl l (a.put o.dst v)->∃ A:Act,A.tmps.size=a.tmps.size/\A.defers=a.defers/\(∀ t,(∀ o' ∈ o :: l,o'.dst≠some t)->A.tmps[t]? = a.tmps[t]?)/\stepsD2 P l0.toArray E a0 Q A fl l/\∀ (F:World->Prop) (w:World),wpList P l0.toArray (zcK a o.dst v F) [o] a w->wpList P l0.toArray (zbb A F) [o] A w:=by
   intro v h2;obtain ⟨A,hsz,hdf,hag,hst⟩:=zdJ hdep hahead hsel honce fl l (pre++[o]) (a.put o.dst v) (by simpa using hp) h2;refine ⟨A,by rw [hsz,za8],by rw [hdf,zbq],fun t ht=>?_,hst,fun F w hw=>?_⟩
   ·rw [hag t (fun p hp=>ht p (List.mem_cons_of_mem _ hp)),zcn (ht o (List.mem_cons_self ..))]
   ·refine zgE hsel hi (a:=a) (v:=v) (by rw [hsz,za8]) (fun t ht=>?_) (zmP hsz hag hput) hw;rw [hag t (fun p hp=>hno t ht p (List.mem_cons_of_mem _ hp)),zcn (hno t ht o (List.mem_cons_self ..))]
  match f,h with
  | 0,h =>
   obtain ⟨v,h1,h2⟩:=h;obtain ⟨A,hsz,hdf,hag,hst,hm⟩:=val v h2
   exact ⟨A,hsz,hdf,hag,fun b w hw=>hm _ w (h1 b w hw),hst⟩
  | 3,h =>
   obtain ⟨v,h1,h2⟩:=h;obtain ⟨A,hsz,hdf,hag,hst,hm⟩:=val v h2
   exact ⟨A,hsz,hdf,hag,fun w hw=>hm _ w (h1 w hw),hst⟩
  | 4,h =>
   obtain ⟨v,h1,h2⟩:=h;obtain ⟨A,hsz,hdf,hag,hst,hm⟩:=val v h2
   exact ⟨A,hsz,hdf,hag,fun w hw=>hm _ w (h1 w hw),hst⟩
  | 1,h =>
   obtain ⟨h1,h2⟩:=h;obtain ⟨A,hsz,hdf,hag,hst⟩:=zdJ hdep hahead hsel honce fl l (pre++[o]) a (by simpa using hp) h2
   exact ⟨A,hsz,hdf,fun t ht=>hag t (fun p hp=>ht p (List.mem_cons_of_mem _ hp)),fun w hw=>zfW hsel hi (fun t ht=>(hag t (fun p hp=>hno t ht p (List.mem_cons_of_mem _ hp))).symm) (h1 w hw),hst⟩
  | 2,h =>
   obtain ⟨A,hsz,hdf,hag,hst⟩:=zdJ hdep hahead hsel honce fl l (pre++[o]) a (by simpa using hp) h
   exact ⟨A,hsz,hdf,fun t ht=>hag t (fun p hp=>ht p (List.mem_cons_of_mem _ hp)),hst⟩
  | 5,h =>
   obtain ⟨h1,h2⟩:=h;obtain ⟨A,hsz,hdf,hag,hst⟩:=zdJ hdep hahead hsel honce fl l (pre++[o]) a (by simpa using hp) h2
   exact ⟨A,hsz,hdf,fun t ht=>hag t (fun p hp=>ht p (List.mem_cons_of_mem _ hp)),fun b w hw=>zfW hsel hi (fun t ht=>(hag t (fun p hp=>hno t ht p (List.mem_cons_of_mem _ hp))).symm) (h1 b w hw),hst⟩
  | n+6,h =>
   obtain ⟨A,hsz,hdf,hag,hst⟩:=zdJ hdep hahead hsel honce fl l (pre++[o]) a (by simpa using hp) h;exact ⟨A,hsz,hdf,fun t ht=>hag t (fun p hp=>ht p (List.mem_cons_of_mem _ hp)),hst⟩
theorem zeb {fl:List Nat} {listed:Array Bool} {i:Nat} (hi:i < listed.size) (h3:fl.getD i 0≠3):zbn fl (listed.setIfInBounds i true)=zbn fl listed:=by
 unfold zbn;congr 1
 funext j
 by_cases e:i=j
 ·subst e;have:(fl.getD i 0 == 3)=false:=by simpa using h3
  rw [this];rfl
 ·rw [getD_set_ne false e]
theorem zdQ {fl:List Nat} {listed:Array Bool} {i:Nat} (h3:fl.getD i 0=3) (hl:listed.getD i false=true):zbn fl listed=true:=by
 unfold zbn;rw [List.any_eq_true];refine ⟨i,List.mem_range.2 ?_,by rw [h3,hl];rfl⟩;rcases Nat.lt_or_ge i fl.length with h | h
 ·exact h
 ·rw [List.getD_eq_getElem?_getD,List.getElem?_eq_none h] at h3;cases h3
theorem zhl {fl:List Nat} {listed:Array Bool} {i:Nat} (hone:fl.count 3=1) (h3:fl.getD i 0=3) (hl:listed.getD i false=false):zbn fl listed=false:=by
 cases hp:zbn fl listed with
 | false=>rfl
 | true =>
  exfalso;unfold zbn at hp;rw [List.any_eq_true] at hp;obtain ⟨j,hj,h⟩:=hp;simp only [yC,beq_iff_eq] at h;have hne:i≠j:=fun e=>by subst e;rw [hl] at h;cases h.2
  have key:∀ (l:List Nat) (i j:Nat),i≠j->l.getD i 0=3->l.getD j 0=3->2<=l.count 3:=by
   intro l
   induction l with
   | nil=>intro i j _ h;simp at h
   | cons x r ih =>
    intro i j hij h1 h2
    have pos:∀ k,r.getD k 0=3->1<=r.count 3:=by
     intro k hk
     have hlt:k < r.length:=by
      rcases Nat.lt_or_ge k r.length with h | h
      ·exact h
      ·rw [List.getD_eq_getElem?_getD,List.getElem?_eq_none h] at hk;cases hk
     rw [List.getD_eq_getElem?_getD,yD hlt] at hk;exact List.count_pos_iff.2 (by have:=List.getElem_mem hlt;simp only [Option.getD_some] at hk;rw [hk] at this;exact this)
    cases i with
    | zero =>
     cases j with
     | zero=>exact absurd rfl hij
     | succ j =>
      have hx:x=3:=h1;have:=pos j h2
      rw [hx,List.count_cons_self];omega
    | succ i =>
     cases j with
     | zero =>
      have hx:x=3:=h2;have:=pos i h1
      rw [hx,List.count_cons_self];omega
     | succ j =>
      have:=ih i j (by omega) h1 h2;rw [List.count_cons];omega
  have:=key fl i j hne h3 h.1;omega
theorem zdh {ops:Array Oper} {a A:Act} {w:World} {i:Nat} {o:Oper} {F:World->Prop} (ho:ops[i]? = some o) (hexec:execOp a.eval o=execOp A.eval o) (hwant:Region.wanted o (yielded ops a.tmps)=Region.wanted o (yielded ops A.tmps)) (h:wpList P ops (zbb A F) [o] A w) {K:Act->World->Prop}
  (next:∀ v w',A.put o.dst v=A->F w'->K (a.put o.dst v) w'):wpOp P ops Q i K a w:=by
 unfold wpOp;simp only [ho];rw [hwant];simp only [wpList] at h;split
 ·rename_i hw
  rw [yP hw] at h;refine .inl ?_;rcases h with h | ⟨_,a₀,w₀,hq⟩
  case inr=>exact hq.elim
  unfold Oper.wp at *
  rw [hexec]
  generalize (execOp A.eval o).run P w=r at *
  cases r with
  | ok n w' =>
   cases n <;> simp only [Oper.upon] at h ⊢
   case value v=>exact next v w' h.1 h.2
   case skip=>exact next undef w' h.1 h.2
   case defer d =>
    exfalso;have:=congrArg Act.defers h.1;rw [zbq] at this;exact absurd this (by simp)
   case enter f args =>
    refine Calls.mono h fun e w'' he=>?_
    cases e with
    | returned v=>exact next v w'' he.1 he.2
    | panicked c=>exact he.elim
    | outgrown=>obtain ⟨_,_,hq⟩:=he;exact hq.elim
   case row row args=>exact Rows.mono h fun v w'' he=>next v w'' he.1 he.2
  | halt x w'=>cases x <;> simp only [Oper.upon] at h <;> exact h.elim
 ·rename_i hw
  rw [yN hw] at h;exact next undef w h.1 h.2
theorem ziM {ops:Array Oper} {a A:Act} {w:World} {i:Nat} {o:Oper} (ho:ops[i]? = some o) (hexec:execOp a.eval o=execOp A.eval o) (hwant:Region.wanted o (yielded ops a.tmps)=Region.wanted o (yielded ops A.tmps)) (hda:a.defers=a0.defers) (h:wpList P ops (DieQ a0 Q) [o] A w) {K:Act->World->Prop}:wpOp P ops Q i K a w:=by
 unfold wpOp;simp only [ho];rw [hwant];simp only [wpList] at h;split
 ·rename_i hw
  rw [yP hw] at h;refine .inl ?_;rcases h with h | ⟨_,a₀,w₀,hq⟩
  case inr=>exact hq.elim
  unfold Oper.wp at *
  rw [hexec]
  generalize (execOp A.eval o).run P w=r at *
  cases r with
  | ok n w' =>
   cases n <;> simp only [Oper.upon] at h ⊢
   case value v=>exact h.elim
   case skip=>exact h.elim
   case defer d=>exact h.elim
   case enter f args =>
    refine Calls.mono h fun e w'' he=>?_
    cases e with
    | returned v=>exact he.elim
    | panicked c=>exact he a hda
    | outgrown=>obtain ⟨_,_,hq⟩:=he;exact hq.elim
   case row row args=>exact Rows.mono h fun v w'' he=>he.elim
  | halt x w'=>cases x <;> simp only [Oper.upon] at h ⊢ <;> first | exact h a hda | exact h.elim
 ·rename_i hw
  rw [yN hw] at h;exact h.elim
def T0 (_ : World) : Prop := True
theorem zkJ {ops:Array Oper} {A:Act} {fl:List Nat} (hdep:zbJ ops=true) (hahead:zba ops=true) (hsel:Region.noSelect ops=true) (hfl:ziL fl ops=true) (hA0:∀ t,(∀ (j:Nat) (o:Oper),ops[j]? = some o->o.dst≠some t)->a0.tmps[t]? = A.tmps[t]?) (hdf:A.defers=a0.defers)
  (hs:stepsD2 P ops E a0 Q A fl ops.toList) :
  ∀ (fuel:Nat) (listed:Array Bool) (a:Act) (w:World),listed.size=ops.size->listed.toList.count false<=fuel->(∀ j,listed.getD j false=true->(fl.getD j 0=0∨fl.getD j 0=3∨fl.getD j 0=4)/\(fl.getD j 0=4->zbn fl listed=true))->InvJ ops a0 A T0 listed a w->E (zbn fl listed) w->wpAny P .any ops Q fuel listed a w:=by
 unfold ziL at hfl;simp only [yC,yQ] at hfl;obtain ⟨⟨⟨⟨hlen,hle2⟩,hone⟩,hcnt⟩,hdp⟩:=hfl
 obtain ⟨k,hk,hk1⟩:∃ k,k < ops.size/\(fl.getD k 0=1∨fl.getD k 0=5):=by
  rw [Bool.or_eq_true] at hone;rcases hone with hone | hone
  ·have h1:(1:Nat) ∈ fl:=by simpa using hone
   obtain ⟨k,hk,e⟩:=List.getElem_of_mem h1;exact ⟨k,by omega,.inl (by rw [List.getD_eq_getElem?_getD,yD hk,e];rfl)⟩
  ·have h1:(5:Nat) ∈ fl:=by simpa using hone
   obtain ⟨k,hk,e⟩:=List.getElem_of_mem h1;exact ⟨k,by omega,.inr (by rw [List.getD_eq_getElem?_getD,yD hk,e];rfl)⟩
 have notall:∀ (listed:Array Bool),listed.size=ops.size->(∀ j,listed.getD j false=true->(fl.getD j 0=0∨fl.getD j 0=3∨fl.getD j 0=4)/\(fl.getD j 0=4->zbn fl listed=true))->Region.ready .any ops listed=[]->False:=by
  intro listed hls hj hr;have:=(hj k (zcU hahead listed hls hr k hk)).1;omega
 have flagAt:∀ (i:Nat) (o:Oper),ops[i]? = some o->∀ listed:Array Bool,(∀ j,listed.getD j false=true->(fl.getD j 0=0∨fl.getD j 0=3∨fl.getD j 0=4)/\(fl.getD j 0=4->zbn fl listed=true))->i ∈ Region.ready .any ops listed->fl.getD i 0≠2/\(fl.getD i 0=1∨fl.getD i 0=4->zbn fl listed=true):=by
  intro i o ho listed hj hr;rw [List.all_eq_true] at hdp;have h1:=hdp i (List.mem_range.2 (Array.getElem?_eq_some_iff.1 ho).1);rw [ho] at h1;simp only [yC] at h1;obtain ⟨h1,h2⟩:=h1;obtain ⟨_,o',ho',hall⟩:=mem_ready.1 hr;rw [ho] at ho';cases ho';constructor
  ·intro e2;simp only [e2,bne_self_eq_false,Bool.false_or] at h1;obtain ⟨e,he,hb⟩:=Array.any_eq_true'.1 h1;simp only [yC,Bool.or_eq_true,beq_iff_eq] at hb;have:=(hj e.on (hall e he hb.1)).1;omega
  ·intro e2;have h3:(fl.getD i 0 != 1 && fl.getD i 0 != 4)=false:=by rcases e2 with e2 | e2 <;> rw [e2] <;> rfl
   rw [h3,Bool.false_or] at h2;obtain ⟨e,he,hb⟩:=Array.any_eq_true'.1 h2;simp only [yC,Bool.or_eq_true,beq_iff_eq] at hb;have hl:=hall e he hb.1;rcases hb.2 with h | h
   ·exact zdQ h hl
   ·exact (hj e.on hl).2 h
 intro fuel
 induction fuel with
 | zero =>
  intro listed a w hls hc hj J hE
  have hr:Region.ready .any ops listed=[]:=by
   rw [List.eq_nil_iff_forall_not_mem];intro i hi;obtain ⟨hf,_⟩:=mem_ready.1 hi
   have hlt:i < listed.size:=by
    rcases Nat.lt_or_ge i listed.size with h | h
    ·exact h
    ·simp [Array.getElem?_eq_none h] at hf
   have h0:listed.toList.count false=0:=by omega
   rw [List.count_eq_zero] at h0;apply h0;have:listed[i]=false:=by simpa [hlt] using hf
   rw [<- this];simp
  exact (notall listed hls hj hr).elim
 | succ fuel ih =>
  intro listed a w hls hc hj J hE;refine ⟨fun hr=>(notall listed hls hj hr).elim,fun i hi=>?_⟩;obtain ⟨hf,o,ho,hall⟩:=mem_ready.1 hi;have hlt:i < listed.size:=by rw [hls];exact (Array.getElem?_eq_some_iff.1 ho).1
  have hi2:i < fl.length:=by omega
  have e1:listed[i]=false:=by simpa [hlt] using hf
  have e1':listed.getD i false=false:=by simp [hlt,e1]
  have hcount:(listed.setIfInBounds i true).toList.count false<=fuel:=by
   have e2:(listed.setIfInBounds i true).toList=listed.toList.set i true:=by simp
   rw [e2,List.count_set (by simpa using hlt)];have e3:listed.toList[i]'(by simpa using hlt)=false:=by simpa using e1
   rw [e3]
   have hpos:0 < listed.toList.count false:=by
    rw [List.count_pos_iff,<- e3];simp
   simp;simp at hc hpos;omega
  have hset:(listed.setIfInBounds i true).getD i false=true:=by simp [hlt]
  have hflag:fl[i]? = some (fl.getD i 0):=by rw [List.getD_eq_getElem?_getD,yD hi2];rfl
  have hget:=hs.get i o (fl.getD i 0) hflag (by simpa using ho);have hev:∀ t ∈ o.looksAt ops,a.tmps[t]? = A.tmps[t]?:=fun t ht=>J.eval hdep hA0 ho hi ht
  obtain ⟨hexec,hwant⟩:=zea hsel ho hev;obtain ⟨hn2,hph⟩:=flagAt i o ho listed hj hi;have hfl4:fl.getD i 0<=5:=of_decide_eq_true (List.all_eq_true.1 hle2 _ (List.mem_of_getElem? hflag));have hcase:fl.getD i 0=0∨fl.getD i 0=1∨fl.getD i 0=3∨fl.getD i 0=4∨fl.getD i 0=5:=by omega
  have next:∀ (b:Bool),(fl.getD i 0=0∨fl.getD i 0=3∨fl.getD i 0=4)->zbn fl (listed.setIfInBounds i true)=b->(zbn fl listed=true->b=true)->(fl.getD i 0=4->b=true)->∀ v w',A.put o.dst v=A->E b w'->wpAny P .any ops Q fuel (listed.setIfInBounds i true) (a.put o.dst v) w':=by
   intro b hfi hpb hup h4b v w' hA hE';refine ih _ _ _ (by simpa using hls) hcount (fun j hjl=>?_) (J.put ho hls hA trivial) (by rw [hpb];exact hE');by_cases e:i=j
   ·subst e;exact ⟨hfi,fun h=>by rw [hpb];exact h4b h⟩
   ·have:=hj j (by rwa [getD_set_ne false e] at hjl);exact ⟨this.1,fun h=>by rw [hpb];exact hup (this.2 h)⟩
  rcases hcase with h0 | h1 | h3 | h4 | h5
  ·have hps:=zeb (fl:=fl) hlt (by omega:fl.getD i 0≠3);exact zdh ho hexec hwant (hget.1 h0 _ w hE) (next _ (.inl h0) hps (fun h=>h) (fun h=>by omega))
  ·have hp:=hph (.inl h1);rw [hp] at hE;exact ziM ho hexec hwant (J.defers.trans hdf) (hget.2.1 h1 w hE)
  ·have hp:=zhl hcnt h3 e1';rw [hp] at hE;exact zdh ho hexec hwant (hget.2.2.1 h3 w hE) (next true (.inr (.inl h3)) (zdQ h3 hset) (fun _=>rfl) (fun _=>rfl))
  ·have hp:=hph (.inr h4);have hps:=zeb (fl:=fl) hlt (by omega:fl.getD i 0≠3);rw [hp] at hE hps;exact zdh ho hexec hwant (hget.2.2.2.1 h4 w hE) (next true (.inr (.inr h4)) hps (fun _=>rfl) (fun _=>rfl))
  ·exact ziM ho hexec hwant (J.defers.trans hdf) (hget.2.2.2.2 h5 _ w hE)
theorem zdi {id:Nat} {l:List Oper} {w:World} (fl:List Nat) (E:Bool->World->Prop) (hm:P.follows .mixedOrders=true)
  (hB:(zbJ l.toArray && (zba l.toArray && (Region.noSelect l.toArray && (zcg l && ziL fl l.toArray))))=true) (hE:E false w.drew) (hs:stepsDie2 P l.toArray E a0 Q fl l a0):(Code.region id l.toArray true).wp P Q a0 w:=by
 rw [yC,yC,yC,yC] at hB;obtain ⟨A,hsz,hdf,hag,hst⟩:=zdJ hB.1 hB.2.1 hB.2.2.1 hB.2.2.2.1 fl l [] a0 rfl hs;refine wp_region_any hm ?_;have hc:(Array.replicate l.toArray.size false).toList.count false<=l.toArray.size:=by simp
 have hp0:zbn fl (Array.replicate l.toArray.size false)=false:=by
  unfold zbn;rw [List.any_eq_false];intro j _;rw [getD_replicate_false];simp
 refine zkJ (A:=A) (E:=E) hB.1 hB.2.1 hB.2.2.1 hB.2.2.2.2 (fun t ht=>?_) hdf hst _ _ _ _ (by simp) hc (fun j hj=>?_) ?_ (by rw [hp0];exact hE)
 ·refine (hag t fun o ho hd=>?_).symm;obtain ⟨j,hj,e⟩:=List.getElem_of_mem ho;exact ht j o (by simp [hj,e]) hd
 ·rw [getD_replicate_false] at hj;cases hj
 ·refine ⟨hsz.symm,hdf.symm,fun t ht=>?_,fun t _=>rfl,trivial⟩;obtain ⟨j,o,_,_,hl⟩:=ht;rw [getD_replicate_false] at hl;cases hl
end
section
variable {P : Program} {ops : Array Oper} {E : Bool -> World -> Prop} {a0 : Act} {Q : Exit -> Act -> World -> Prop} {fl : List Nat} {o : Oper} {l : List Oper} {a : Act}
theorem stepsDie2.val {v:Value} (h:∀ b w,E b w->wpList P ops (zbb (a.put o.dst v) (E b)) [o] a w) (h':stepsDie2 P ops E a0 Q fl l (a.put o.dst v)):stepsDie2 P ops E a0 Q (0 :: fl) (o :: l) a:=⟨v,fun b w hw=>zcV (h b w hw),h'⟩
theorem stepsDie2.mem {v:Value} (h:∀ w,E false w->wpList P ops (zbb (a.put o.dst v) (E true)) [o] a w) (h':stepsDie2 P ops E a0 Q fl l (a.put o.dst v)):stepsDie2 P ops E a0 Q (3 :: fl) (o :: l) a:=⟨v,fun w hw=>zcV (h w hw),h'⟩
theorem stepsDie2.back {v:Value} (h:∀ w,E true w->wpList P ops (zbb (a.put o.dst v) (E true)) [o] a w) (h':stepsDie2 P ops E a0 Q fl l (a.put o.dst v)):stepsDie2 P ops E a0 Q (4 :: fl) (o :: l) a:=⟨v,fun w hw=>zcV (h w hw),h'⟩
theorem stepsDie2.die (h:∀ w,E true w->wpList P ops (DieQ a0 Q) [o] a w) (h':stepsDie2 P ops E a0 Q fl l a):stepsDie2 P ops E a0 Q (1 :: fl) (o :: l) a:=⟨h,h'⟩
theorem stepsDie2.dies (h:∀ b w,E b w->wpList P ops (DieQ a0 Q) [o] a w) (h':stepsDie2 P ops E a0 Q fl l a):stepsDie2 P ops E a0 Q (5 :: fl) (o :: l) a:=⟨h,h'⟩
theorem stepsDie2.skip (h:stepsDie2 P ops E a0 Q fl l a):stepsDie2 P ops E a0 Q (2 :: fl) (o :: l) a:=h
theorem stepsDie2.done:stepsDie2 P ops E a0 Q [] [] a:=trivial
end
inductive Flag2 (E : Bool -> World -> Prop) (R : (World -> Prop) -> World -> Prop) : Nat -> Prop
  | any (h : ∀ b w, E b w -> R (E b) w) : Flag2 E R 0
  | mem (h : ∀ w, E false w -> R (E true) w) : Flag2 E R 3
  | back (h : ∀ w, E true w -> R (E true) w) : Flag2 E R 4
theorem Flag2.imp {E:Bool->World->Prop} {R R':(World->Prop)->World->Prop} {k:Nat} (h:Flag2 E R k) (hi:∀ G w,R G w->R' G w):Flag2 E R' k:=by
 cases h with
 | any h=>exact .any fun b w hw=>hi _ _ (h b w hw)
 | mem h=>exact .mem fun w hw=>hi _ _ (h w hw)
 | back h=>exact .back fun w hw=>hi _ _ (h w hw)
def stepsSeq2 (P : Program) (ops : Array Oper) (E : Bool -> World -> Prop) (F : Act -> Prop) : List Nat -> List Oper -> Act -> Prop
  | [], [], a => F a
  | f :: fl, o :: l, a => ∃ v, Flag2 E (fun G w => wpList P ops (zcK a o.dst v G) [o] a w) f /\ stepsSeq2 P ops E F fl l (a.put o.dst v)
  | _, _, _ => False
def stepsOk2 (P : Program) (ops : Array Oper) (A : Act) (E : Bool -> World -> Prop) : List Nat -> List Oper -> Prop
  | f :: fl, o :: l => Flag2 E (fun G w => wpList P ops (zbb A G) [o] A w) f /\ stepsOk2 P ops A E fl l
  | _, _ => True
theorem stepsOk2.get {P:Program} {ops:Array Oper} {A:Act} {E:Bool->World->Prop}:∀ {fl:List Nat} {l:List Oper},stepsOk2 P ops A E fl l->∀ (i:Nat) (o:Oper) (k:Nat),fl[i]? = some k->l[i]? = some o->Flag2 E (fun G w=>wpList P ops (zbb A G) [o] A w) k
 | [],_,_,i,o,k,h1,_=>by simp at h1
 | _ :: _,[],_,i,o,k,_,h2=>by simp at h2
 | f :: fl,p :: l,h,0,o,k,h1,h2=>by
  simp only [List.getElem?_cons_zero,Option.some.injEq] at h1 h2;subst h1;subst h2
  exact h.1
 | f :: fl,p :: l,h,i+1,o,k,h1,h2=>stepsOk2.get h.2 i o k (by simpa using h1) (by simpa using h2)
def zhF (fl : List Nat) (ops : Array Oper) (n : Nat) : Bool :=
  decide (fl.length = n) && decide (fl.count 3 = 1) && (List.range n).all fun i => match ops[i]? with
    | none => true
    | some o => fl.getD i 0 != 4 || o.after.any fun e => Region.binds .any e && (fl.getD e.on 0 == 3 || fl.getD e.on 0 == 4)
section
variable {P : Program} {E : Bool -> World -> Prop}
theorem zjK {l0:List Oper} {F:Act->Prop} (hdep:zbJ l0.toArray=true) (hahead:zba l0.toArray=true) (hsel:Region.noSelect l0.toArray=true) (honce:zcg l0=true) (post:List Oper) :
    ∀ (fl:List Nat) (l pre:List Oper) (a:Act),pre++l++post=l0->stepsSeq2 P l0.toArray E F fl l a->∃ vs,F (fill a l vs)/\stepsOk2 P l0.toArray (fill a l vs) E fl l
  | [],[],pre,a,_,h=>⟨[],h,trivial⟩
  | f :: fl,[],pre,a,_,h=>h.elim
  | [],o :: l,pre,a,_,h=>h.elim
  | f :: fl,o :: l,pre,a,hp,h=>by
    obtain ⟨v,h1,h2⟩:=h;obtain ⟨vs,h3,h4⟩:=zjK hdep hahead hsel honce post fl l (pre++[o]) (a.put o.dst v) (by simpa using hp) h2;have hi:l0.toArray[pre.length]? = some o:=by subst hp;simp
    have hat:∀ j p,(o :: l)[j]? = some p->l0[pre.length+j]? = some p:=by
      intro j p hj;subst hp;have hlt:=(List.getElem?_eq_some_iff.1 hj).1;rw [List.append_assoc,List.getElem?_append_right (by omega),Nat.add_sub_cancel_left,List.getElem?_append_left hlt];exact hj
    have hput:∀ t,o.dst=some t->∀ p ∈ l,p.dst≠some t:=by
      intro t ht p hpl hpd;obtain ⟨j,hj,e⟩:=List.getElem_of_mem hpl;have h1:l0[pre.length]? = some o:=by simpa using hi
      have h2:=hat (j+1) p (by rw [List.getElem?_cons_succ,yD hj,e]);have:=zcB l0 _ _ _ _ t honce h1 h2 ht hpd;omega
    have key:∀ (G:World->Prop) (w:World),wpList P l0.toArray (zcK a o.dst v G) [o] a w->wpList P l0.toArray (zbb (fill a (o :: l) (v :: vs)) G) [o] (fill a (o :: l) (v :: vs)) w:=by
     intro G w hw;rw [zfb];refine zgE hsel hi (a:=a) (v:=v) (by rw [zbS,za8]) (fun t ht=>?_) ?_ hw
     · have hno:∀ p ∈ o :: l,p.dst≠some t:=by
         intro p hpl hpd;obtain ⟨j,hj,e⟩:=List.getElem_of_mem hpl
         have hjp:l0.toArray[pre.length+j]? = some p:=by
           rw [List.getElem?_toArray];exact hat j p (by rw [yD hj,e])
         obtain ⟨ed,he,hb,hej⟩:=zcA hdep hi ht hjp hpd;unfold zba at hahead;rw [List.all_eq_true] at hahead;have h1:=hahead pre.length (List.mem_range.2 (Array.getElem?_eq_some_iff.1 hi).1);rw [hi] at h1;simp only [Array.all_eq_true_iff_forall_mem] at h1;have h2:=h1 ed he;rw [hb] at h2;have h3:ed.on < pre.length:=by simpa using h2
         omega
       rw [zb8 l _ vs t (fun p hp=>hno p (List.mem_cons_of_mem _ hp)),zcn (hno o (List.mem_cons_self ..))]
     · cases hd:o.dst with
       | none=>rfl
       | some d =>
         have hsz:=zbS l (a.put (some d) v) vs;rcases Nat.lt_or_ge d a.tmps.size with hlt | hge
         · have hg:=zb8 l (a.put (some d) v) vs d (hput d hd)
           rw [zbM hlt] at hg;have hlt':d < (fill (a.put (some d) v) l vs).tmps.size:=by rw [hsz,za8];exact hlt
           have hv:(fill (a.put (some d) v) l vs).tmps[d]=v:=by rw [Array.getElem?_eq_getElem hlt'] at hg;exact Option.some.inj hg
           generalize fill (a.put (some d) v) l vs=A at *
           have:(A.tmps.setIfInBounds d v)=A.tmps:=by
             apply Array.ext_getElem?;intro t;by_cases e:d=t
             · subst e;simp [hlt',hv]
             · rw [Array.getElem?_setIfInBounds_ne e]
           unfold Act.put;simp only [this]
         · have hge':(fill (a.put (some d) v) l vs).tmps.size<=d:=by rw [hsz,za8];exact hge
           generalize fill (a.put (some d) v) l vs=A at *
           simp [Act.put,Array.setIfInBounds,Nat.not_lt.2 hge']
    exact ⟨v :: vs,h3,h1.imp key,h4⟩
theorem zjn {ops:Array Oper} {a0 A:Act} {Q:Exit->Act->World->Prop} {fl:List Nat} {n:Nat} (hdep:zbJ ops=true) (hahead:zba ops=true) (hsel:Region.noSelect ops=true) (hsink:Region.sinkB .any ops n=true) (hchain:Region.chainB .any ops n=true) (hn:n < ops.size)
  (hA0:∀ t,(∀ (j:Nat) (o:Oper),j < n->ops[j]? = some o->o.dst≠some t)->a0.tmps[t]? = A.tmps[t]?)
  (hfl:zhF fl ops n=true) (hs:∀ (i:Nat) (o:Oper),i < n->ops[i]? = some o->Flag2 E (fun G w=>wpList P ops (zbb A G) [o] A w) (fl.getD i 0))
  (hfin:∀ w,E true w->wpAny P .any ops Q (ops.size - n) (zcy n ops.size) A w) :
  ∀ (fuel:Nat) (listed:Array Bool) (a:Act) (w:World),HeadInv .any ops n listed->listed.toList.count false=fuel->(∀ j,j < n->listed.getD j false=true->fl.getD j 0=4->zbn fl listed=true)->InvJ ops a0 A T0 listed a w->E (zbn fl listed) w->wpAny P .any ops Q fuel listed a w:=by
 unfold zhF at hfl;simp only [yC,yQ] at hfl;obtain ⟨⟨hlen,hcnt⟩,hdp⟩:=hfl
 have fin:∀ (listed:Array Bool) (a:Act) (w:World) (fuel:Nat),HeadInv .any ops n listed->listed.toList.count false=fuel->InvJ ops a0 A T0 listed a w->E (zbn fl listed) w->(∀ i,i < n->i < ops.size->listed.getD i true=true)->wpAny P .any ops Q fuel listed a w:=by
  intro listed a w fuel inv hc J hE hall
  have hph:zbn fl listed=true:=by
   have h3:(3:Nat) ∈ fl:=List.count_pos_iff.1 (by omega);obtain ⟨k,hk,e⟩:=List.getElem_of_mem h3;have hks:k < ops.size:=by omega
   have h2:k < listed.size:=by rw [inv.size];exact hks
   refine zdQ (i:=k) (by rw [List.getD_eq_getElem?_getD,yD hk,e];rfl) ?_;have h1:=hall k (by omega) hks;simpa [h2] using h1
  rw [hph] at hE;have hl:=zfy inv hall
  have hct:fuel=ops.size - n:=by
   rw [<- hc,hl];unfold zcy
   have:∀ m,((List.range m).map fun i=>decide (i < n)).count false=m - n:=by
    intro m
    induction m with
    | zero=>simp
    | succ m ih =>
     rw [List.range_succ,List.map_append,List.count_append,ih];by_cases h:m < n
     ·simp [h];omega
     ·simp [h];omega
   exact this _
  have:a=A:=by
   have ht:a.tmps=A.tmps:=by
    apply Array.ext_getElem?;intro t;by_cases hw:zen ops listed t
    ·exact J.done t hw
    ·rw [J.left t hw];refine hA0 t fun j o hj ho hd=>hw ⟨j,o,ho,hd,?_⟩
     have h1:=hall j hj (Array.getElem?_eq_some_iff.1 ho).1;have h2:j < listed.size:=by rw [inv.size];exact (Array.getElem?_eq_some_iff.1 ho).1
     simpa [h2] using h1
   cases a;cases A;have:=J.defers;simp_all
  rw [this,hl,hct];exact hfin w hE
 intro fuel
 induction fuel with
 | zero =>
  intro listed a w inv hc hj J hE;exfalso;have h1:=inv.tail n (zr _) hn;rw [List.count_eq_zero] at hc;apply hc;have h2:n < listed.size:=by rw [inv.size];exact hn
  have:listed[n]=false:=by simpa [h2] using h1
  rw [<- this]
  simp
 | succ fuel ih =>
  intro listed a w inv hc hj J hE;by_cases hall:∀ i,i < n->i < ops.size->listed.getD i true=true
  ·exact fin listed a w _ inv hc J hE hall
  ·have hex:∃ i,i < n/\listed.getD i true=false:=by
    refine Classical.byContradiction fun hno=>hall fun i hi _=>?_
    rw [<- Bool.not_eq_false];exact fun h=>hno ⟨i,hi,h⟩
   obtain ⟨i0,hi0,hun0⟩:=hex;have htail:=tail_waits hsink hchain hn inv _ i0 rfl hi0 hun0;refine ⟨fun hr=>?_,fun i hi=>?_⟩
   ·exfalso;have:=zcU hahead listed inv.size hr i0 (by omega);rw [getD_both hun0] at this;cases this
   have hin:i < n:=by
    rcases Nat.lt_or_ge i n with h | h
    ·exact h
    ·exact absurd hi (htail i h)
   obtain ⟨hf,o,ho,hall'⟩:=mem_ready.1 hi;have hlt:i < listed.size:=by rw [inv.size];exact (Array.getElem?_eq_some_iff.1 ho).1
   have hcount:(listed.setIfInBounds i true).toList.count false=fuel:=by
    have e1:listed[i]=false:=by simpa [hlt] using hf
    have e2:(listed.setIfInBounds i true).toList=listed.toList.set i true:=by simp
    rw [e2,List.count_set (by simpa using hlt)];have e3:listed.toList[i]'(by simpa using hlt)=false:=by simpa using e1
    rw [e3]
    have hpos:0 < listed.toList.count false:=by
     rw [List.count_pos_iff,<- e3];simp
    simp;simp at hc hpos;omega
   have hev:∀ t ∈ o.looksAt ops,a.tmps[t]? = A.tmps[t]?:=fun t ht=>J.eval hdep (fun t h=>hA0 t fun j p _ hp=>h j p hp) ho hi ht
   obtain ⟨hexec,hwant⟩:=zea hsel ho hev;have e1:listed[i]=false:=by simpa [hlt] using hf
   have e1':listed.getD i false=false:=by simp [hlt,e1]
   have hset:(listed.setIfInBounds i true).getD i false=true:=by simp [hlt]
   have next:∀ (b:Bool),zbn fl (listed.setIfInBounds i true)=b->(zbn fl listed=true->b=true)->(fl.getD i 0=4->b=true)->∀ v w',A.put o.dst v=A->E b w'->wpAny P .any ops Q fuel (listed.setIfInBounds i true) (a.put o.dst v) w':=by
    intro b hpb hup h4b v w' hA hE';refine ih _ _ _ (inv.set hi hin) hcount (fun j hjn hjl h4=>?_) (J.put ho inv.size hA trivial) (by rw [hpb];exact hE');rw [hpb];by_cases e:i=j
    ·subst e;exact h4b h4
    ·exact hup (hj j hjn (by rwa [getD_set_ne false e] at hjl) h4)
   have hstep:=hs i o hin ho;generalize hg:fl.getD i 0=k at hstep next
   cases hstep with
   | any h =>
    have hps:=zeb (fl:=fl) hlt (by rw [hg];decide:fl.getD i 0≠3)
    exact zdh ho hexec hwant (h _ w hE) (next _ hps (fun h=>h) (fun h=>by cases h))
   | mem h =>
    have hp:=zhl hcnt hg e1';rw [hp] at hE
    exact zdh ho hexec hwant (h w hE) (next true (zdQ hg hset) (fun _=>rfl) (fun _=>rfl))
   | back h =>
    have hps:=zeb (fl:=fl) hlt (by rw [hg];decide:fl.getD i 0≠3)
    have hp:zbn fl listed=true:=by
     have h1:=List.all_eq_true.1 hdp i (List.mem_range.2 hin);rw [ho] at h1;simp only [hg,bne_self_eq_false,Bool.false_or] at h1;obtain ⟨e,he,hb⟩:=Array.any_eq_true'.1 h1;simp only [yC,Bool.or_eq_true,beq_iff_eq] at hb;have hl:=hall' e he hb.1;rcases hb.2 with h | h
     ·exact zdQ h hl
     ·refine hj e.on ?_ hl h;rcases Nat.lt_or_ge e.on n with hlt' | hge
      ·exact hlt'
      ·rw [List.getD_eq_getElem?_getD,List.getElem?_eq_none (by omega)] at h;cases h
    rw [hp] at hE hps;exact zdh ho hexec hwant (h w hE) (next true hps (fun _=>rfl) (fun _=>rfl))
theorem zc7 {id:Nat} {l:List Oper} {a0:Act} {Q:Exit->Act->World->Prop} {w:World} (n:Nat) (fl:List Nat) (E:Bool->World->Prop) (hm:P.follows .mixedOrders=true)
  (hB:(zhG l n && zhF fl l.toArray n)=true) (hE:E false w.drew) (hs:stepsSeq2 P l.toArray E (fun a=>∀ w,E true w->wpList P l.toArray Q (l.drop n) a w) fl (l.take n) a0):(Code.region id l.toArray true).wp P Q a0 w:=by
 rw [yC] at hB;obtain ⟨hB,hfl⟩:=hB;unfold zhG at hB;simp only [yC,yQ] at hB;obtain ⟨hdep,hahead,hsel,honce,hsink,hchain,hn,hseq⟩:=hB;obtain ⟨vs,h1,h2⟩:=zjK hdep hahead hsel honce (l.drop n) fl (l.take n) [] a0 (by simp) hs;refine wp_region_any hm ?_
 have hlen:fl.length=n:=by
  unfold zhF at hfl;simp only [yC,yQ] at hfl;exact hfl.1.1
 have hget:∀ i o,i < n->l.toArray[i]? = some o->(l.take n)[i]? = some o:=fun i o hi ho=>by
  rw [List.getElem?_take,yP hi];simpa using ho
 have inv0:HeadInv .any l.toArray n (Array.replicate l.toArray.size false):=
  ⟨by simp,fun j oj _ hl=>(by rw [getD_replicate_false] at hl;cases hl),fun t _ ht=>getD_in (by simpa using ht) (getD_replicate_false _ _)⟩
 have hp0:zbn fl (Array.replicate l.toArray.size false)=false:=by
  unfold zbn;rw [List.any_eq_false];intro j _;rw [getD_replicate_false];simp
 refine zjn (a0:=a0) (A:=fill a0 (l.take n) vs) (E:=E) hdep hahead hsel hsink hchain hn (fun t ht=>?_) hfl (fun i o hi ho=>h2.get i o _ (by rw [List.getD_eq_getElem?_getD,yD (by omega)];rfl) (hget i o hi ho)) (fun w hw=>?_) _ _ _ _ inv0 (by simp) (fun j _ hl=>by rw [getD_replicate_false] at hl;cases hl) ?_ (by rw [hp0];exact hE)
 ·refine (zb8 (l.take n) a0 vs t fun o ho hd=>?_).symm;obtain ⟨j,hj,e⟩:=List.getElem_of_mem ho;have hjn:j < n:=by simp at hj;omega
  refine ht j o hjn ?_ hd;rw [List.getElem_take] at e;have hjl:j < l.length:=by simp at hj;omega
  rw [List.getElem?_toArray,yD hjl,e]
 ·have hsz:l.toArray.size - n=(l.drop n).length:=by simp
  rw [hsz];exact wpAny_of_seq (l.drop n) n _ _ _ (fun j=>by simp) hseq (h1 w hw)
 ·refine ⟨(zbS (l.take n) a0 vs).symm,(zdl (l.take n) a0 vs).symm,fun t ht=>?_,fun t _=>rfl,trivial⟩;obtain ⟨j,o,_,_,hl⟩:=ht;rw [getD_replicate_false] at hl;cases hl
theorem stepsSeq2.val {ops:Array Oper} {F:Act->Prop} {fl:List Nat} {o:Oper} {l:List Oper} {a:Act} {v:Value} (h:∀ b w,E b w->wpList P ops (zbb (a.put o.dst v) (E b)) [o] a w) (h':stepsSeq2 P ops E F fl l (a.put o.dst v)):stepsSeq2 P ops E F (0 :: fl) (o :: l) a:=⟨v,.any fun b w hw=>zcV (h b w hw),h'⟩
theorem stepsSeq2.mem {ops:Array Oper} {F:Act->Prop} {fl:List Nat} {o:Oper} {l:List Oper} {a:Act} {v:Value} (h:∀ w,E false w->wpList P ops (zbb (a.put o.dst v) (E true)) [o] a w) (h':stepsSeq2 P ops E F fl l (a.put o.dst v)):stepsSeq2 P ops E F (3 :: fl) (o :: l) a:=⟨v,.mem fun w hw=>zcV (h w hw),h'⟩
theorem stepsSeq2.back {ops:Array Oper} {F:Act->Prop} {fl:List Nat} {o:Oper} {l:List Oper} {a:Act} {v:Value} (h:∀ w,E true w->wpList P ops (zbb (a.put o.dst v) (E true)) [o] a w) (h':stepsSeq2 P ops E F fl l (a.put o.dst v)):stepsSeq2 P ops E F (4 :: fl) (o :: l) a:=⟨v,.back fun w hw=>zcV (h w hw),h'⟩
theorem stepsSeq2.nil {ops:Array Oper} {F:Act->Prop} {a:Act} (h:F a):stepsSeq2 P ops E F [] [] a:=h
end
end Go.Proofs.YtdhikpkecmaplaaGreatDoor
