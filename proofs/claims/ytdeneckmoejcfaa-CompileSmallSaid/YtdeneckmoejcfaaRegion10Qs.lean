/- A statement whose order Go leaves open, whose operations may write too: G says of each operation how it turns the world, H what is true of the world all along, phi what is known of a value; no condition of its own. -/
import Derived.Test.YtdeneckmoejcfaaRegionQs
set_option linter.unusedSimpArgs false
set_option linter.unusedVariables false
namespace Go.Proofs.Ytdeneckmoejcfaa
open Go.RowKit

def updX (X : Nat -> Value) (i : Nat) (v : Value) : Nat -> Value := fun j => if j = i then v else X j
def zo2 (T : List (Option Value)) (phi : Nat -> (Nat -> Value) -> World -> Prop) (i : Nat) (X : Nat -> Value) (v : Value) (w : World) : Prop :=
  match T[i]? with
  | some (some u) => v = u
  | _ => phi i (updX X i v) w
def zqc (A : Act) (dst : Option Tmp) (g : World -> Prop) (phi : Value -> World -> Prop) : Exit -> Act -> World -> Prop
  | .normal, a, w' => (∃ v, a = A.put dst v /\ phi v w') /\ g w'
  | _, _, _ => False
def stepsG (P : Program) (ops : Array Oper) (A : (Nat -> Value) -> Act) (T : List (Option Value)) (phi : Nat -> (Nat -> Value) -> World -> Prop) (G : Nat -> World -> World -> Prop) (H : World -> Prop) : Nat -> List Oper -> Prop
  | _, [] => True
  | i, o :: l => (∀ X w, H w -> (∀ j, zkL o j = true -> phi j X w) -> wpList P ops (zqc (A X) o.dst (G i w) (zo2 T phi i X)) [o] (A X) w) /\ stepsG P ops A T phi G H (i + 1) l
theorem stepsG.nil {P:Program} {ops:Array Oper} {A:(Nat->Value)->Act} {T:List (Option Value)} {phi:Nat->(Nat->Value)->World->Prop} {G:Nat->World->World->Prop} {H:World->Prop} {i:Nat}:stepsG P ops A T phi G H i []:=trivial
theorem stepsG.cons {P:Program} {ops:Array Oper} {A:(Nat->Value)->Act} {T:List (Option Value)} {phi:Nat->(Nat->Value)->World->Prop} {G:Nat->World->World->Prop} {H:World->Prop} {i:Nat} {o:Oper} {l:List Oper}
  (h:∀ X w,H w->(∀ j,zkL o j=true->phi j X w)->wpList P ops (zqc (A X) o.dst (G i w) (zo2 T phi i X)) [o] (A X) w) (h':stepsG P ops A T phi G H (i+1) l):stepsG P ops A T phi G H i (o :: l):=⟨h,h'⟩
theorem stepsG.get {P:Program} {ops:Array Oper} {A:(Nat->Value)->Act} {T:List (Option Value)} {phi:Nat->(Nat->Value)->World->Prop} {G:Nat->World->World->Prop} {H:World->Prop}:∀ {l:List Oper} {k:Nat},stepsG P ops A T phi G H k l->∀ i o,l[i]? = some o ->
  ∀ X w,H w->(∀ j,zkL o j=true->phi j X w)->wpList P ops (zqc (A X) o.dst (G (k+i) w) (zo2 T phi (k+i) X)) [o] (A X) w
 | [],_,_,i,o,h=>by simp at h
 | p :: l,k,hs,0,o,h=>by simp at h;subst h;exact hs.1
 | p :: l,k,hs,i+1,o,h=>by
  have:=stepsG.get hs.2 i o (by simpa using h);rw [show k+(i+1)=k+1+i from by omega];exact this

structure InvG (l : List Oper) (a0 : Act) (T : List (Option Value)) (phi : Nat -> (Nat -> Value) -> World -> Prop) (G : Nat -> World -> World -> Prop) (H : World -> Prop) (listed : Array Bool) (X : Nat -> Value) (a : Act) (w : World) : Prop where
  size : a.tmps.size = a0.tmps.size
  defers : a.defers = a0.defers
  done : ∀ t, zen l.toArray listed t -> a.tmps[t]? = (fill a0 l (tmpl T 0 X)).tmps[t]?
  left : ∀ t, ¬ zen l.toArray listed t -> a.tmps[t]? = a0.tmps[t]?
  phi : ∀ j, listed.getD j false = true -> phi j X w
  world : H w
  pre : ∀ j o k, listed.getD j false = true -> l[j]? = some o -> zkL o k = true -> listed.getD k false = true

section
variable {P : Program} {l : List Oper} {a0 : Act} {T : List (Option Value)} {phi : Nat -> (Nat -> Value) -> World -> Prop} {G : Nat -> World -> World -> Prop} {H : World -> Prop} {Q : Exit -> Act -> World -> Prop}

theorem ztJ (hdep:zbJ l.toArray=true) (hahead:zba l.toArray=true) (hsel:Region.noSelect l.toArray=true) (honce:zcg l=true) (hlen:T.length=l.length)
  (hH:∀ i w w',H w->G i w w'->H w') (hst:∀ i j X w w',i≠j->phi j X w->H w->G i w w'->phi j X w') (hloc:∀ i j X v w,i≠j->(∀ o,l[j]? = some o->zkL o i=false)->phi j X w->phi j (updX X i v) w) (hconst:∀ j X w,(T[j]?).join.isSome=true->phi j X w)
  (hs:stepsG P l.toArray (fun X=>fill a0 l (tmpl T 0 X)) T phi G H 0 l) (hfin:∀ X w,H w->(∀ j,j < l.length->phi j X w)->Q .normal (fill a0 l (tmpl T 0 X)) w) :
  ∀ (fuel:Nat) (listed:Array Bool) (X:Nat->Value) (a:Act) (w:World),listed.size=l.toArray.size->(listed.toList.count false<=fuel)->InvG l a0 T phi G H listed X a w->wpAny P .any l.toArray Q fuel listed a w:=by
 have fin:∀ (listed:Array Bool) (X:Nat->Value) (a:Act) (w:World),listed.size=l.toArray.size->InvG l a0 T phi G H listed X a w->Region.ready .any l.toArray listed=[]->Q .normal a w:=by
  intro listed X a w hls J hr;have hall:=zcU hahead listed hls hr
  have:a=fill a0 l (tmpl T 0 X):=by
   have ht:a.tmps=(fill a0 l (tmpl T 0 X)).tmps:=by
    apply Array.ext_getElem?;intro t;by_cases hw:∃ (j:Nat) (p:Oper),l.toArray[j]? = some p/\p.dst=some t
    ·obtain ⟨j,p,hp,hd⟩:=hw;exact J.done t ⟨j,p,hp,hd,hall j (Array.getElem?_eq_some_iff.1 hp).1⟩
    ·rw [J.left t fun ⟨j,p,hp,hd,_⟩=>hw ⟨j,p,hp,hd⟩];exact (zb8 l a0 _ t fun o ho hd=>by obtain ⟨j,hj,e⟩:=List.getElem_of_mem ho;exact hw ⟨j,o,by simp [hj,e],hd⟩).symm
   have hd:a.defers=(fill a0 l (tmpl T 0 X)).defers:=by rw [zdl];exact J.defers
   cases a;cases h:fill a0 l (tmpl T 0 X);rw [h] at ht hd;simp_all
  rw [this];exact hfin X w J.world fun j hj=>J.phi j (hall j (by simpa using hj))
 intro fuel
 induction fuel with
 | zero =>
  intro listed X a w hls hc J
  have hr:Region.ready .any l.toArray listed=[]:=by
   rw [List.eq_nil_iff_forall_not_mem];intro i hi;obtain ⟨hf,_⟩:=mem_ready.1 hi
   have hlt:i < listed.size:=by
    rcases Nat.lt_or_ge i listed.size with h | h
    ·exact h
    ·simp [Array.getElem?_eq_none h] at hf
   have h0:listed.toList.count false=0:=by omega
   rw [List.count_eq_zero] at h0;apply h0;have:listed[i]=false:=by simpa [hlt] using hf
   rw [<- this];simp
  exact ⟨hr,fin listed X a w hls J hr⟩
 | succ fuel ih =>
  intro listed X a w hls hc J;refine ⟨fin listed X a w hls J,fun i hi=>?_⟩;obtain ⟨hf,o,ho,hall⟩:=mem_ready.1 hi;have hil:i < l.length:=by simpa using (Array.getElem?_eq_some_iff.1 ho).1
  have hlt:i < listed.size:=by rw [hls];simpa using hil
  have ho':l[i]? = some o:=by simpa using ho
  have hcount:(listed.setIfInBounds i true).toList.count false<=fuel:=by
   have e1:listed[i]=false:=by simpa [hlt] using hf
   have e2:(listed.setIfInBounds i true).toList=listed.toList.set i true:=by simp
   rw [e2,List.count_set (by simpa using hlt)];have e3:listed.toList[i]'(by simpa using hlt)=false:=by simpa using e1
   rw [e3]
   have hpos:0 < listed.toList.count false:=by
    rw [List.count_pos_iff,<- e3];simp
   simp;simp at hc hpos;omega
  have hTi:T[i]? = some T[i]:=yD (by omega)
  have next:∀ v w',zo2 T phi i X v w'->G i w w'->wpAny P .any l.toArray Q fuel (listed.setIfInBounds i true) (a.put o.dst v) w':=by
   intro v w' hsd hb;have hX:∀ j,j≠i->updX X i v j=X j:=fun j hj=>yN hj
   have hval:T[i].getD v=v:=by
    unfold zo2 at hsd;rw [hTi] at hsd
    cases hti:T[i] with
    | none=>rfl
    | some u=>rw [hti] at hsd;exact hsd.symm
   refine ih _ (updX X i v) _ _ (by simpa using hls) hcount ⟨by rw [za8];exact J.size,by rw [zbq];exact J.defers,fun t ht=>?_,fun t ht=>?_,fun j hj=>?_,hH i w w' J.world hb,fun j p k hj hp hk=>?_⟩
   ·by_cases hd:o.dst=some t
    ·rw [hd];rcases Nat.lt_or_ge t a.tmps.size with hlt' | hge
     ·rw [zbM hlt'];refine (zpN l a0 _ i o t v honce ho' hd ?_ (by rw [<- J.size];exact hlt')).symm;rw [zo9,hTi,Nat.zero_add];simp only [show updX X i v i=v from yP rfl,Option.map_some,hval]
     ·rw [Array.getElem?_eq_none (by rw [za8];exact hge),Array.getElem?_eq_none (by rw [zbS,<- J.size];exact hge)]
    ·rw [zcn hd];rw [zsg honce hX (fun p hp=>by rw [ho'] at hp;cases hp;exact hd) hlen];refine J.done t ?_;obtain ⟨j,p,hp,hpd,hl⟩:=ht;refine ⟨j,p,hp,hpd,?_⟩;by_cases e:i=j
     ·subst e;rw [ho] at hp;cases hp;exact absurd hpd hd
     ·rwa [getD_set_ne false e] at hl
   ·have hd:o.dst≠some t:=fun hd=>ht ⟨i,o,ho,hd,by simp [hlt]⟩
    rw [zcn hd];exact J.left t fun ⟨j,p,hp,hpd,hl⟩=>ht ⟨j,p,hp,hpd,getD_set_true hl⟩
   ·by_cases e:j=i
    ·subst e;unfold zo2 at hsd;rw [hTi] at hsd
     cases hti:T[j] with
     | none=>rw [hti] at hsd;exact hsd
     | some u=>exact hconst j _ w' (by rw [hTi,hti];rfl)
    ·rw [getD_set_ne false (Ne.symm e)] at hj;refine hloc i j X v w' (Ne.symm e) (fun p hp=>?_) (hst i j _ _ _ (Ne.symm e) (J.phi j hj) J.world hb)
     cases hw:zkL p i with
     | false=>rfl
     | true =>
      have hli:=J.pre j p i hj hp hw;have e1:listed[i]=false:=by simpa [hlt] using hf
      simp [Array.getD,hlt,e1] at hli
   ·by_cases ek:k=i
    ·subst ek;simp [hlt]
    ·rw [getD_set_ne false (Ne.symm ek)];by_cases e:j=i
     ·subst e;rw [ho'] at hp;cases hp;obtain ⟨e,he,hb2⟩:=Array.any_eq_true'.1 hk;simp only [yC,beq_iff_eq] at hb2;rw [<- hb2.1];exact hall e he hb2.2
     ·rw [getD_set_ne false (Ne.symm e)] at hj;exact J.pre j p k hj hp hk
  have hpre:∀ j,zkL o j=true->phi j X w:=fun j hj=>by
   obtain ⟨e,he,hb⟩:=Array.any_eq_true'.1 hj;simp only [yC,beq_iff_eq] at hb;refine J.phi j ?_;rw [<- hb.1];exact hall e he hb.2
  have h:=hs.get i o ho' X w J.world hpre;rw [Nat.zero_add] at h;generalize hA:fill a0 l (tmpl T 0 X)=A at h
  have hev:∀ t ∈ o.looksAt l.toArray,a.tmps[t]? = A.tmps[t]?:=fun t ht=>by
   by_cases hw:∃ (j:Nat) (p:Oper),l.toArray[j]? = some p/\p.dst=some t
   ·obtain ⟨j,p,hp,hd⟩:=hw;obtain ⟨e,he,hb,hej⟩:=zcA hdep ho ht hp hd;rw [<- hA];exact J.done t ⟨j,p,hp,hd,by rw [<- hej];exact hall e he hb⟩
   ·rw [J.left t fun ⟨j,p,hp,hd,_⟩=>hw ⟨j,p,hp,hd⟩,<- hA];exact (zb8 l a0 _ t fun o ho hd=>by obtain ⟨j,hj,e⟩:=List.getElem_of_mem ho;exact hw ⟨j,o,by simp [hj,e],hd⟩).symm
  have hexec:execOp a.eval o=execOp A.eval o:=execOp_congr o (fun cs b=>Region.noSelect_spec hsel i o cs b ho) fun x hx=>by
   cases x with
   | tmp t =>
    have:=hev t (List.mem_append_left _ (List.mem_filterMap.2 ⟨.tmp t,by simpa using hx,rfl⟩))
    simp [Act.eval,this]
   | _=>rfl
  have hwant:Region.wanted o (yielded l.toArray a.tmps)=Region.wanted o (yielded l.toArray A.tmps):=by
   unfold Region.wanted
   cases hg:o.guard with
   | none=>rfl
   | some gw =>
    obtain ⟨g,want⟩:=gw
    have:yielded l.toArray a.tmps g=yielded l.toArray A.tmps g:=by
     unfold yielded
     cases ht:(l.toArray[g]?).bind (·.dst) with
     | none=>rfl
     | some t =>
      have:=hev t (List.mem_append_right _ (by simp only [hg,ht];simp));simp [this]
    simp only [this]
  have hsz:∀ d v u,A.put (some d) v=A.put (some d) u->d < A.tmps.size->v=u:=fun d v u e hd=>by
   have:=congrArg (fun a:Act=>a.tmps[d]?) e;simpa [zbM hd] using this
  have conv:∀ v w',zqc A o.dst (G i w) (zo2 T phi i X) .normal (A.put o.dst v) w'->∃ u,a.put o.dst v=a.put o.dst u/\zo2 T phi i X u w'/\G i w w':=by
   rintro v w' ⟨⟨u,e,hsd⟩,hb⟩
   cases hd:o.dst with
   | none=>exact ⟨u,rfl,hsd,hb⟩
   | some d =>
    rw [hd] at e;rcases Nat.lt_or_ge d A.tmps.size with hlt' | hge
    ·obtain rfl:=hsz d v u e hlt';exact ⟨v,rfl,hsd,hb⟩
    ·refine ⟨u,?_,hsd,hb⟩;have hge':a.tmps.size<=d:=by rw [J.size,<- zbS l a0 (tmpl T 0 X),hA];exact hge
     simp [Act.put,Array.setIfInBounds,Nat.not_lt.2 hge']
  have next':∀ v w',zqc A o.dst (G i w) (zo2 T phi i X) .normal (A.put o.dst v) w'->wpAny P .any l.toArray Q fuel (listed.setIfInBounds i true) (a.put o.dst v) w':=fun v w' hk=>by
   obtain ⟨u,e,hsd,hb⟩:=conv v w' hk;rw [e];exact next u w' hsd hb
  unfold wpOp;simp only [ho];rw [hwant];simp only [wpList] at h;split
  ·rename_i hw
   rw [yP hw] at h;refine .inl ?_;rcases h with h | ⟨_,a₀,w₀,hq⟩
   case inr=>exact hq.elim
   unfold Oper.wp at *
   rw [hexec]
   generalize (execOp A.eval o).run P w=r at *
   cases r with
   | ok n w' =>
    cases n <;> simp only [Oper.upon] at h ⊢
    case value v=>exact next' v w' h
    case skip=>exact next' undef w' h
    case defer d =>
     exfalso;obtain ⟨⟨u,e,_⟩,_⟩:=h;have:=congrArg Act.defers e;rw [zbq,zbq] at this;exact absurd this (by simp)
    case enter f args =>
     refine Calls.mono h fun e w'' he=>?_
     cases e with
     | returned v=>exact next' v w'' he
     | panicked c=>exact he.elim
     | outgrown=>obtain ⟨_,_,hq⟩:=he;exact hq.elim
    case row row args=>exact Rows.mono h fun v w'' he=>next' v w'' he
   | halt x w'=>cases x <;> simp only [Oper.upon] at h <;> exact h.elim
  ·rename_i hw
   rw [yN hw] at h;exact next' undef w h

theorem zoO {id:Nat} {w:World} (T:List (Option Value)) (phi:Nat->(Nat->Value)->World->Prop) (G:Nat->World->World->Prop) (H:World->Prop) (hm:P.follows .mixedOrders=true)
  (hB:(zbJ l.toArray && (zba l.toArray && (Region.noSelect l.toArray && zcg l)))=true) (hlen:T.length=l.length) (h0:H w.drew)
  (hH:∀ i w w',H w->G i w w'->H w') (hst:∀ i j X w w',i≠j->phi j X w->H w->G i w w'->phi j X w') (hloc:∀ i j X v w,i≠j->(∀ o,l[j]? = some o->zkL o i=false)->phi j X w->phi j (updX X i v) w) (hconst:∀ j X w,(T[j]?).join.isSome=true->phi j X w)
  (hs:stepsG P l.toArray (fun X=>fill a0 l (tmpl T 0 X)) T phi G H 0 l) (hfin:∀ X w',H w'->(∀ j,j < l.length->phi j X w')->Q .normal (fill a0 l (tmpl T 0 X)) w'):(Code.region id l.toArray true).wp P Q a0 w:=by
 rw [yC,yC,yC] at hB;refine wp_region_any hm ?_;have hc:(Array.replicate l.toArray.size false).toList.count false<=l.toArray.size:=by simp
 refine ztJ (a0:=a0) (T:=T) (phi:=phi) (G:=G) (H:=H) hB.1 hB.2.1 hB.2.2.1 hB.2.2.2 hlen hH hst hloc hconst hs hfin _ _ (fun _=>undef) _ _ (by simp) hc ?_;refine ⟨rfl,rfl,fun t ht=>?_,fun t _=>rfl,fun j hj=>?_,h0,fun j p k hj _ _=>by rw [getD_replicate_false] at hj;cases hj⟩
 ·obtain ⟨j,o,_,_,hl⟩:=ht;rw [getD_replicate_false] at hl;cases hl
 ·rw [getD_replicate_false] at hj;cases hj
end
end Go.Proofs.Ytdeneckmoejcfaa
