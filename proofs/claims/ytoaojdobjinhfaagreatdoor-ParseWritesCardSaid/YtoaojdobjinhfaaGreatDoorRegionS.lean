/- A statement whose order Go leaves open, walked once: where every operation, done in the frame as it stands behind the statement, gives the value that this frame holds, whatever was done before it. No condition of its own. -/
import Derived.Test.YtoaojdobjinhfaaGreatDoorFineSC
set_option linter.unusedSimpArgs false
set_option linter.unusedVariables false
namespace Go.Proofs.YtoaojdobjinhfaaGreatDoor
open Go.RowKit

theorem fill_nil (a:Act):fill a [] []=a:=rfl
section
variable {P : Program} {ops : Array Oper} {a0 A : Act} {E : World → Prop} {Q : Exit → Act → World → Prop}

end
theorem tmpl_nil (n:Nat) (X:Nat→Value):tmpl [] n X=[]:=rfl
theorem tmpl_some (v:Value) (l:List (Option Value)) (n:Nat) (X:Nat→Value):tmpl (some v :: l) n X=v :: tmpl l (n+1) X:=rfl
theorem tmpl_none (l:List (Option Value)) (n:Nat) (X:Nat→Value):tmpl (none :: l) n X=X n :: tmpl l (n+1) X:=rfl
theorem tmpl_get:∀ (T:List (Option Value)) (n:Nat) (X:Nat→Value) (i:Nat),(tmpl T n X)[i]? = (T[i]?).map fun t=>t.getD (X (n+i))
 | [],_,_,i=>by simp [tmpl]
 | some v :: l,n,X,0=>rfl
 | none :: l,n,X,0=>rfl
 | some v :: l,n,X,i+1=>by rw [tmpl_some,List.getElem?_cons_succ,tmpl_get l,List.getElem?_cons_succ,show n+1+i=n+(i+1) from by omega]
 | none :: l,n,X,i+1=>by rw [tmpl_none,List.getElem?_cons_succ,tmpl_get l,List.getElem?_cons_succ,show n+1+i=n+(i+1) from by omega]

theorem fill_at:∀ (l:List Oper) (a:Act) (vs:List Value) (i:Nat) (o:Oper) (t:Nat) (v:Value),zcg l=true→l[i]? = some o→o.dst=some t→vs[i]? = some v→t < a.tmps.size→(fill a l vs).tmps[t]? = some v
 | [],_,_,i,o,t,v,_,h,_,_,_=>by simp at h
 | p :: l,a,[],i,o,t,v,_,_,_,h,_=>by simp at h
 | p :: l,a,u :: vs,0,o,t,v,ho,h,hd,hv,ht=>by
  simp at h hv;subst h;subst hv;rw [zfb];simp only [zcg,hd,Bool.and_eq_true,List.all_eq_true] at ho
  rw [zb8 l _ vs t (fun q hq=>by simpa using ho.1 q hq),hd,zbM ht]
 | p :: l,a,u :: vs,i+1,o,t,v,ho,h,hd,hv,ht=>by
  rw [zfb];simp only [zcg,Bool.and_eq_true] at ho;exact fill_at l _ vs i o t v ho.2 (by simpa using h) hd (by simpa using hv) (by rw [za8];exact ht)
section
variable {P : Program} {l : List Oper} {a0 : Act} {T : List (Option Value)} {phi : Nat → Value → World → Prop} {w0 : World} {Q : Exit → Act → World → Prop}

theorem fill_turn (honce:zcg l=true) {X X':Nat→Value} {i:Nat} (hX:∀ j,j≠i→X' j=X j) {t:Nat} (ht:∀ o,l[i]? = some o→o.dst≠some t) (hlen:T.length=l.length) :
  (fill a0 l (tmpl T 0 X')).tmps[t]? = (fill a0 l (tmpl T 0 X)).tmps[t]?:=by
 by_cases hw:∃ (j:Nat) (p:Oper),l[j]? = some p∧p.dst=some t
 ·obtain ⟨j,p,hp,hd⟩:=hw;have hji:j≠i:=fun e=>by subst e;exact ht p hp hd
  have hjl:j < l.length:=(List.getElem?_eq_some_iff.1 hp).1;have hTj:T[j]? = some T[j]:=List.getElem?_eq_getElem (by omega);rcases Nat.lt_or_ge t a0.tmps.size with hlt | hge
  ·rw [fill_at l a0 _ j p t (T[j].getD (X' (0+j))) honce hp hd (by rw [tmpl_get,hTj];rfl) hlt,fill_at l a0 _ j p t (T[j].getD (X (0+j))) honce hp hd (by rw [tmpl_get,hTj];rfl) hlt,Nat.zero_add,hX j hji]
  ·rw [Array.getElem?_eq_none (by rw [zbS];exact hge),Array.getElem?_eq_none (by rw [zbS];exact hge)]
 ·rw [zb8 l a0 _ t (fun o ho hd=>by obtain ⟨j,hj,e⟩:=List.getElem_of_mem ho;exact hw ⟨j,o,by simp [hj,e],hd⟩),zb8 l a0 _ t (fun o ho hd=>by obtain ⟨j,hj,e⟩:=List.getElem_of_mem ho;exact hw ⟨j,o,by simp [hj,e],hd⟩)]

theorem wpAny_rel (hdep:zbJ l.toArray=true) (hahead:zba l.toArray=true) (hsel:Region.noSelect l.toArray=true) (honce:zcg l=true) (hlen:T.length=l.length)
  (hst:∀ j v w w',phi j v w→Below w.heap.size w w'→phi j v w') (hconst:∀ j v w,(T[j]?).join.isSome=true→phi j v w)
  (hs:stepsRel P l.toArray (fun X=>fill a0 l (tmpl T 0 X)) T phi w0 0 l) (hfin:∀ X w,Below w0.heap.size w0 w→(∀ j,j < l.length→phi j (X j) w)→Q .normal (fill a0 l (tmpl T 0 X)) w) :
  ∀ (fuel:Nat) (listed:Array Bool) (X:Nat→Value) (a:Act) (w:World),listed.size=l.toArray.size→(listed.toList.count false≤fuel)→InvR l a0 T phi w0 listed X a w→wpAny P .any l.toArray Q fuel listed a w:=by
 have fin:∀ (listed:Array Bool) (X:Nat→Value) (a:Act) (w:World),listed.size=l.toArray.size→InvR l a0 T phi w0 listed X a w→Region.ready .any l.toArray listed=[]→Q .normal a w:=by
  intro listed X a w hls J hr;have hall:=zcU hahead listed hls hr
  have:a=fill a0 l (tmpl T 0 X):=by
   have ht:a.tmps=(fill a0 l (tmpl T 0 X)).tmps:=by
    apply Array.ext_getElem?;intro t;by_cases hw:∃ (j:Nat) (p:Oper),l.toArray[j]? = some p∧p.dst=some t
    ·obtain ⟨j,p,hp,hd⟩:=hw;exact J.done t ⟨j,p,hp,hd,hall j (Array.getElem?_eq_some_iff.1 hp).1⟩
    ·rw [J.left t fun ⟨j,p,hp,hd,_⟩=>hw ⟨j,p,hp,hd⟩];exact (zb8 l a0 _ t fun o ho hd=>by obtain ⟨j,hj,e⟩:=List.getElem_of_mem ho;exact hw ⟨j,o,by simp [hj,e],hd⟩).symm
   have hd:a.defers=(fill a0 l (tmpl T 0 X)).defers:=by rw [zdl];exact J.defers
   cases a;cases h:fill a0 l (tmpl T 0 X);rw [h] at ht hd;simp_all
  rw [this];exact hfin X w J.world fun j hj=>J.phi j (hall j (by simpa using hj))
 intro fuel
 induction fuel with
 | zero =>
  intro listed X a w hls hc J
  have hr:Region.ready .any l.toArray listed=[]:=by
   rw [List.eq_nil_iff_forall_not_mem];intro i hi;obtain ⟨hf,_⟩:=mem_ready.1 hi
   have hlt:i < listed.size:=by
    rcases Nat.lt_or_ge i listed.size with h | h
    ·exact h
    ·simp [Array.getElem?_eq_none h] at hf
   have h0:listed.toList.count false=0:=by omega
   rw [List.count_eq_zero] at h0;apply h0;have:listed[i]=false:=by simpa [hlt] using hf
   rw [← this];simp
  exact ⟨hr,fin listed X a w hls J hr⟩
 | succ fuel ih =>
  intro listed X a w hls hc J;refine ⟨fin listed X a w hls J,fun i hi=>?_⟩;obtain ⟨hf,o,ho,hall⟩:=mem_ready.1 hi;have hil:i < l.length:=by simpa using (Array.getElem?_eq_some_iff.1 ho).1
  have hlt:i < listed.size:=by rw [hls];simpa using hil
  have ho':l[i]? = some o:=by simpa using ho
  have hcount:(listed.setIfInBounds i true).toList.count false≤fuel:=by
   have e1:listed[i]=false:=by simpa [hlt] using hf
   have e2:(listed.setIfInBounds i true).toList=listed.toList.set i true:=by simp
   rw [e2,List.count_set (by simpa using hlt)];have e3:listed.toList[i]'(by simpa using hlt)=false:=by simpa using e1
   rw [e3]
   have hpos:0 < listed.toList.count false:=by
    rw [List.count_pos_iff,← e3];simp
   simp;simp at hc hpos;omega
  have hTi:T[i]? = some T[i]:=List.getElem?_eq_getElem (by omega)
  have next:∀ v w',said T phi i v w'→Below w.heap.size w w'→wpAny P .any l.toArray Q fuel (listed.setIfInBounds i true) (a.put o.dst v) w':=by
   intro v w' hsd hb;have hX:∀ j,j≠i→(fun j=>if j=i then v else X j) j=X j:=fun j hj=>if_neg hj
   have hval:T[i].getD v=v:=by
    unfold said at hsd;rw [hTi] at hsd
    cases hti:T[i] with
    | none=>rfl
    | some u=>rw [hti] at hsd;exact hsd.symm
   refine ih _ (fun j=>if j=i then v else X j) _ _ (by simpa using hls) hcount ⟨by rw [za8];exact J.size,by rw [zbq];exact J.defers,fun t ht=>?_,fun t ht=>?_,fun j hj=>?_,J.world.trans (hb.mono J.world.size)⟩
   ·by_cases hd:o.dst=some t
    ·rw [hd];rcases Nat.lt_or_ge t a.tmps.size with hlt' | hge
     ·rw [zbM hlt'];refine (fill_at l a0 _ i o t v honce ho' hd ?_ (by rw [← J.size];exact hlt')).symm;rw [tmpl_get,hTi,Nat.zero_add];simp only [if_true,Option.map_some,hval]
     ·rw [Array.getElem?_eq_none (by rw [za8];exact hge),Array.getElem?_eq_none (by rw [zbS,← J.size];exact hge)]
    ·rw [zcn hd];rw [fill_turn honce hX (fun p hp=>by rw [ho'] at hp;cases hp;exact hd) hlen];refine J.done t ?_;obtain ⟨j,p,hp,hpd,hl⟩:=ht;refine ⟨j,p,hp,hpd,?_⟩;by_cases e:i=j
     ·subst e;rw [ho] at hp;cases hp;exact absurd hpd hd
     ·rwa [getD_set_ne false e] at hl
   ·have hd:o.dst≠some t:=fun hd=>ht ⟨i,o,ho,hd,by simp [hlt]⟩
    rw [zcn hd];exact J.left t fun ⟨j,p,hp,hpd,hl⟩=>ht ⟨j,p,hp,hpd,getD_set_true hl⟩
   ·by_cases e:j=i
    ·subst e;simp only [if_true];unfold said at hsd;rw [hTi] at hsd
     cases hti:T[j] with
     | none=>rw [hti] at hsd;exact hsd
     | some u=>exact hconst j v w' (by rw [hTi,hti];rfl)
    ·simp only [if_neg e];rw [getD_set_ne false (Ne.symm e)] at hj;exact hst j _ _ _ (J.phi j hj) hb
  have hpre:∀ j,zkL o j=true→phi j (X j) w:=fun j hj=>by
   obtain ⟨e,he,hb⟩:=Array.any_eq_true'.1 hj;simp only [Bool.and_eq_true,beq_iff_eq] at hb;refine J.phi j ?_;rw [← hb.1];exact hall e he hb.2
  have h:=hs.get i o ho' X w J.world hpre;rw [Nat.zero_add] at h;generalize hA:fill a0 l (tmpl T 0 X)=A at h
  have hev:∀ t ∈ o.looksAt l.toArray,a.tmps[t]? = A.tmps[t]?:=fun t ht=>by
   by_cases hw:∃ (j:Nat) (p:Oper),l.toArray[j]? = some p∧p.dst=some t
   ·obtain ⟨j,p,hp,hd⟩:=hw;obtain ⟨e,he,hb,hej⟩:=zcA hdep ho ht hp hd;rw [← hA];exact J.done t ⟨j,p,hp,hd,by rw [← hej];exact hall e he hb⟩
   ·rw [J.left t fun ⟨j,p,hp,hd,_⟩=>hw ⟨j,p,hp,hd⟩,← hA];exact (zb8 l a0 _ t fun o ho hd=>by obtain ⟨j,hj,e⟩:=List.getElem_of_mem ho;exact hw ⟨j,o,by simp [hj,e],hd⟩).symm
  have hexec:execOp a.eval o=execOp A.eval o:=execOp_congr o (fun cs b=>Region.noSelect_spec hsel i o cs b ho) fun x hx=>by
   cases x with
   | tmp t =>
    have:=hev t (List.mem_append_left _ (List.mem_filterMap.2 ⟨.tmp t,by simpa using hx,rfl⟩))
    simp [Act.eval,this]
   | _=>rfl
  have hwant:Region.wanted o (yielded l.toArray a.tmps)=Region.wanted o (yielded l.toArray A.tmps):=by
   unfold Region.wanted
   cases hg:o.guard with
   | none=>rfl
   | some gw =>
    obtain ⟨g,want⟩:=gw
    have:yielded l.toArray a.tmps g=yielded l.toArray A.tmps g:=by
     unfold yielded
     cases ht:(l.toArray[g]?).bind (·.dst) with
     | none=>rfl
     | some t =>
      have:=hev t (List.mem_append_right _ (by simp only [hg,ht];simp));simp [this]
    simp only [this]
  have hsz:∀ d v u,A.put (some d) v=A.put (some d) u→d < A.tmps.size→v=u:=fun d v u e hd=>by
   have:=congrArg (fun a:Act=>a.tmps[d]?) e;simpa [zbM hd] using this
  have conv:∀ v w',zkK A o.dst w (said T phi i) .normal (A.put o.dst v) w'→∃ u,a.put o.dst v=a.put o.dst u∧said T phi i u w'∧Below w.heap.size w w':=by
   rintro v w' ⟨⟨u,e,hsd⟩,hb⟩
   cases hd:o.dst with
   | none=>exact ⟨u,rfl,hsd,hb⟩
   | some d =>
    rw [hd] at e;rcases Nat.lt_or_ge d A.tmps.size with hlt' | hge
    ·obtain rfl:=hsz d v u e hlt';exact ⟨v,rfl,hsd,hb⟩
    ·refine ⟨u,?_,hsd,hb⟩;have hge':a.tmps.size≤d:=by rw [J.size,← zbS l a0 (tmpl T 0 X),hA];exact hge
     simp [Act.put,Array.setIfInBounds,Nat.not_lt.2 hge']
  have next':∀ v w',zkK A o.dst w (said T phi i) .normal (A.put o.dst v) w'→wpAny P .any l.toArray Q fuel (listed.setIfInBounds i true) (a.put o.dst v) w':=fun v w' hk=>by
   obtain ⟨u,e,hsd,hb⟩:=conv v w' hk;rw [e];exact next u w' hsd hb
  unfold wpOp;simp only [ho];rw [hwant];simp only [wpList] at h;split
  ·rename_i hw
   rw [if_pos hw] at h;refine .inl ?_;rcases h with h | ⟨_,a₀,w₀,hq⟩
   case inr=>exact hq.elim
   unfold Oper.wp at *
   rw [hexec]
   generalize (execOp A.eval o).run P w=r at *
   cases r with
   | ok n w' =>
    cases n <;> simp only [Oper.upon] at h ⊢
    case value v=>exact next' v w' h
    case skip=>exact next' undef w' h
    case defer d =>
     exfalso;obtain ⟨⟨u,e,_⟩,_⟩:=h;have:=congrArg Act.defers e;rw [zbq,zbq] at this;exact absurd this (by simp)
    case enter f args =>
     refine Calls.mono h fun e w'' he=>?_
     cases e with
     | returned v=>exact next' v w'' he
     | panicked c=>exact he.elim
     | outgrown=>obtain ⟨_,_,hq⟩:=he;exact hq.elim
    case row row args=>exact Rows.mono h fun v w'' he=>next' v w'' he
   | halt x w'=>cases x <;> simp only [Oper.upon] at h <;> exact h.elim
  ·rename_i hw
   rw [if_neg hw] at h;exact next' undef w h

theorem wp_region_rel {id:Nat} {w:World} (T:List (Option Value)) (phi:Nat→Value→World→Prop) (hm:P.follows .mixedOrders=true)
  (hB:(zbJ l.toArray && (zba l.toArray && (Region.noSelect l.toArray && zcg l)))=true) (hlen:T.length=l.length)
  (hst:∀ j v w w',phi j v w→Below w.heap.size w w'→phi j v w') (hconst:∀ j v w,(T[j]?).join.isSome=true→phi j v w)
  (hs:stepsRel P l.toArray (fun X=>fill a0 l (tmpl T 0 X)) T phi w.drew 0 l) (hfin:∀ X w',Below w.drew.heap.size w.drew w'→(∀ j,j < l.length→phi j (X j) w')→Q .normal (fill a0 l (tmpl T 0 X)) w'):(Code.region id l.toArray true).wp P Q a0 w:=by
 rw [Bool.and_eq_true,Bool.and_eq_true,Bool.and_eq_true] at hB;refine wp_region_any hm ?_;have hc:(Array.replicate l.toArray.size false).toList.count false≤l.toArray.size:=by simp
 refine wpAny_rel (a0:=a0) (T:=T) (phi:=phi) (w0:=w.drew) hB.1 hB.2.1 hB.2.2.1 hB.2.2.2 hlen hst hconst hs hfin _ _ (fun _=>undef) _ _ (by simp) hc ?_;refine ⟨rfl,rfl,fun t ht=>?_,fun t _=>rfl,fun j hj=>?_,Below.refl _ _⟩
 ·obtain ⟨j,o,_,_,hl⟩:=ht;rw [getD_replicate_false] at hl;cases hl
 ·rw [getD_replicate_false] at hj;cases hj
end
section
variable {P : Program} {E : World → Prop}
end
section
variable {P : Program} {ops : Array Oper} {a0 A : Act} {E : World → Prop} {Q : Exit → Act → World → Prop}

end

section
variable {P : Program} {E : World → Prop}
end
theorem headE_G (op n:Int) (name:List UInt8) (len:Nat) (h:¬ (1≤op∧op≤24)):zbN op n name len=false:=by
 unfold zbN;rw [decide_eq_false h,Bool.false_and]
theorem all_take {α:Type} {p:α→Bool} {l:List α} {k:Nat} {x:α} (h:l[k]? = some x) (h1:(l.take k).all p=true):(p x=true→(l.take (k+1)).all p=true)∧(p x=false→l.all p=false):=by
 obtain ⟨hlt,rfl⟩:=List.getElem?_eq_some_iff.1 h;constructor
 ·intro hp;rw [List.take_succ_eq_append_getElem hlt,List.all_append,h1];simp [hp]
 ·intro hp;rw [Bool.eq_false_iff];intro ha;rw [List.all_eq_true] at ha;rw [ha _ (List.getElem_mem hlt)] at hp;cases hp
end Go.Proofs.YtoaojdobjinhfaaGreatDoor
