/- A statement whose order Go leaves open, walked once: where every operation, done in the frame as it stands behind the statement, gives the value that this frame holds, whatever was done before it. No condition of its own. -/
import Derived.WalkKit
import Derived.StillTail
namespace Go.Proofs.YtcichbdkdbnmiaaDoor
open Go.RowKit

/-- the frame behind: each operation's slot holds its value -/
def fill (a : Act) : List Oper → List Value → Act
  | o :: l, v :: vs => fill (a.put o.dst v) l vs
  | _, _ => a
theorem fill_cons (a : Act) (o : Oper) (l : List Oper) (v : Value) (vs : List Value) : fill a (o :: l) (v :: vs) = fill (a.put o.dst v) l vs := rfl
theorem fill_nil (a : Act) : fill a [] [] = a := rfl
/-- what stands behind each operation -/
def KeepQ (A : Act) (E : World → Prop) : Exit → Act → World → Prop
  | .normal, a, w => a = A ∧ E w
  | _, _, _ => False
/-- each operation finds what it looks at: written in this region ahead of it, or not written in this region -/
def depsB (ops : Array Oper) : Bool :=
  (List.range ops.size).all fun i => match ops[i]? with
    | none => true
    | some o => (o.looksAt ops).all fun t => (List.range ops.size).all fun j => match ops[j]? with
      | none => true
      | some p => p.dst != some t || o.after.any fun e => e.on == j && Region.binds .any e
/-- what binds an operation stands ahead of it -/
def aheadB (ops : Array Oper) : Bool :=
  (List.range ops.size).all fun i => match ops[i]? with
    | none => true
    | some o => o.after.all fun e => !Region.binds .any e || decide (e.on < i)
def stepsOk (P : Program) (ops : Array Oper) (A : Act) (E : World → Prop) : List Oper → Prop
  | [] => True
  | o :: l => (∀ w, E w → wpList P ops (KeepQ A E) [o] A w) ∧ stepsOk P ops A E l

theorem stepsOk.nil {P : Program} {ops : Array Oper} {A : Act} {E : World → Prop} : stepsOk P ops A E [] := trivial
theorem stepsOk.cons {P : Program} {ops : Array Oper} {A : Act} {E : World → Prop} {o : Oper} {l : List Oper} (h : ∀ w, E w → wpList P ops (KeepQ A E) [o] A w) (h' : stepsOk P ops A E l) : stepsOk P ops A E (o :: l) := ⟨h, h'⟩
theorem stepsOk.get {P : Program} {ops : Array Oper} {A : Act} {E : World → Prop} : ∀ {l : List Oper}, stepsOk P ops A E l → ∀ o ∈ l, ∀ w, E w → wpList P ops (KeepQ A E) [o] A w
  | [], _, o, h, _, _ => by cases h
  | p :: l, h, o, ho, w, hw => by
    rcases List.mem_cons.1 ho with rfl | h'
    · exact h.1 w hw
    · exact stepsOk.get h.2 o h' w hw

/-- is slot t written by one of the operations that are done -/
def doneAt (ops : Array Oper) (listed : Array Bool) (t : Nat) : Prop := ∃ j o, ops[j]? = some o ∧ o.dst = some t ∧ listed.getD j false = true
structure InvJ (ops : Array Oper) (a0 A : Act) (E : World → Prop) (listed : Array Bool) (a : Act) (w : World) : Prop where
  size : a.tmps.size = A.tmps.size
  defers : a.defers = A.defers
  done : ∀ t, doneAt ops listed t → a.tmps[t]? = A.tmps[t]?
  left : ∀ t, ¬ doneAt ops listed t → a.tmps[t]? = a0.tmps[t]?
  world : E w

theorem put_get {a : Act} {dst : Option Tmp} {v : Value} {t : Nat} (h : dst ≠ some t) : (a.put dst v).tmps[t]? = a.tmps[t]? := by
  cases dst with
  | none => rfl
  | some d =>
    have hne : d ≠ t := fun e => h (by rw [e])
    simp [Act.put, Array.getElem?_setIfInBounds_ne hne]
theorem put_get_same {a : Act} {t : Nat} {v : Value} (h : t < a.tmps.size) : (a.put (some t) v).tmps[t]? = some v := by
  simp [Act.put, h]
theorem put_size (a : Act) (dst : Option Tmp) (v : Value) : (a.put dst v).tmps.size = a.tmps.size := by
  cases dst <;> simp [Act.put]
theorem put_defers' (a : Act) (dst : Option Tmp) (v : Value) : (a.put dst v).defers = a.defers := by
  cases dst <;> rfl

section
variable {P : Program} {ops : Array Oper} {a0 A : Act} {E : World → Prop} {Q : Exit → Act → World → Prop}

theorem depsB_spec (h : depsB ops = true) {i : Nat} {o : Oper} (ho : ops[i]? = some o) {t : Nat} (ht : t ∈ o.looksAt ops) {j : Nat} {p : Oper} (hp : ops[j]? = some p) (hd : p.dst = some t) :
    ∃ e ∈ o.after, Region.binds .any e = true ∧ e.on = j := by
  unfold depsB at h
  rw [List.all_eq_true] at h
  have h1 := h i (List.mem_range.2 (Array.getElem?_eq_some_iff.1 ho).1)
  simp only [ho] at h1
  rw [List.all_eq_true] at h1
  have h2 := h1 t ht
  rw [List.all_eq_true] at h2
  have h3 := h2 j (List.mem_range.2 (Array.getElem?_eq_some_iff.1 hp).1)
  simp only [hp, hd, bne_self_eq_false, Bool.false_or] at h3
  obtain ⟨e, he, hb⟩ := Array.any_eq_true'.1 h3
  simp only [Bool.and_eq_true, beq_iff_eq] at hb
  exact ⟨e, he, hb.2, hb.1⟩
theorem ready_all (h : aheadB ops = true) (listed : Array Bool) (hls : listed.size = ops.size) (hr : Region.ready .any ops listed = []) : ∀ j, j < ops.size → listed.getD j false = true := by
  intro j
  induction j using Nat.strongRecOn with
  | _ j ih =>
    intro hj
    cases hl : listed.getD j false with
    | true => rfl
    | false =>
      exfalso
      have hlt : j < listed.size := by omega
      have : j ∈ Region.ready .any ops listed := by
        refine mem_ready.2 ⟨by simpa [hlt] using hl, ops[j], Array.getElem?_eq_getElem hj, fun e he hb => ?_⟩
        unfold aheadB at h
        rw [List.all_eq_true] at h
        have h1 := h j (List.mem_range.2 hj)
        rw [Array.getElem?_eq_getElem hj] at h1
        simp only [Array.all_eq_true_iff_forall_mem] at h1
        have h2 := h1 e he
        rw [hb] at h2
        have h3 : e.on < j := by simpa using h2
        exact ih e.on h3 (by omega)
      rw [hr] at this
      cases this

theorem InvJ.put {listed : Array Bool} {a : Act} {w w' : World} {i : Nat} {o : Oper} {v : Value} (J : InvJ ops a0 A E listed a w) (ho : ops[i]? = some o) (hls : listed.size = ops.size) (hA : A.put o.dst v = A) (hE : E w') :
    InvJ ops a0 A E (listed.setIfInBounds i true) (a.put o.dst v) w' := by
  have hi : i < listed.size := by rw [hls]; exact (Array.getElem?_eq_some_iff.1 ho).1
  refine ⟨by rw [put_size]; exact J.size, by rw [put_defers']; exact J.defers, fun t ht => ?_, fun t ht => ?_, hE⟩
  · by_cases hd : o.dst = some t
    · rw [hd] at hA ⊢
      rcases Nat.lt_or_ge t a.tmps.size with hlt | hge
      · rw [put_get_same hlt, ← hA, put_get_same (by rw [← J.size]; exact hlt)]
      · rw [Array.getElem?_eq_none (by rw [put_size]; exact hge), Array.getElem?_eq_none (by rw [← J.size]; exact hge)]
    · rw [put_get hd]
      refine J.done t ?_
      obtain ⟨j, p, hp, hpd, hl⟩ := ht
      refine ⟨j, p, hp, hpd, ?_⟩
      by_cases e : i = j
      · subst e; rw [ho] at hp; cases hp; exact absurd hpd hd
      · rwa [getD_set_ne false e] at hl
  · have hd : o.dst ≠ some t := fun hd => ht ⟨i, o, ho, hd, by simp [hi]⟩
    rw [put_get hd]
    exact J.left t fun ⟨j, p, hp, hpd, hl⟩ => ht ⟨j, p, hp, hpd, getD_set_true hl⟩

theorem InvJ.eval {listed : Array Bool} {a : Act} {w : World} (J : InvJ ops a0 A E listed a w) (hdep : depsB ops = true) (hA0 : ∀ t, (∀ (j : Nat) (o : Oper), ops[j]? = some o → o.dst ≠ some t) → a0.tmps[t]? = A.tmps[t]?)
    {i : Nat} {o : Oper} (ho : ops[i]? = some o) (hr : i ∈ Region.ready .any ops listed) {t : Nat} (ht : t ∈ o.looksAt ops) : a.tmps[t]? = A.tmps[t]? := by
  by_cases hw : ∃ (j : Nat) (p : Oper), ops[j]? = some p ∧ p.dst = some t
  · obtain ⟨j, p, hp, hd⟩ := hw
    obtain ⟨e, he, hb, hej⟩ := depsB_spec hdep ho ht hp hd
    obtain ⟨_, o', ho', hall⟩ := mem_ready.1 hr
    rw [ho] at ho'; cases ho'
    exact J.done t ⟨j, p, hp, hd, by rw [← hej]; exact hall e he hb⟩
  · rw [J.left t fun ⟨j, p, hp, hd, _⟩ => hw ⟨j, p, hp, hd⟩]
    exact hA0 t fun j p hp hd => hw ⟨j, p, hp, hd⟩

theorem wpAny_inv (hdep : depsB ops = true) (hsel : Region.noSelect ops = true) (hA0 : ∀ t, (∀ (j : Nat) (o : Oper), ops[j]? = some o → o.dst ≠ some t) → a0.tmps[t]? = A.tmps[t]?)
    (hs : stepsOk P ops A E ops.toList) (hfin : ∀ w, E w → Q .normal A w) (hahead : aheadB ops = true) :
    ∀ (fuel : Nat) (listed : Array Bool) (a : Act) (w : World), listed.size = ops.size → (listed.toList.count false ≤ fuel) → InvJ ops a0 A E listed a w → wpAny P .any ops Q fuel listed a w := by
  have fin : ∀ (listed : Array Bool) (a : Act) (w : World), listed.size = ops.size → InvJ ops a0 A E listed a w → Region.ready .any ops listed = [] → Q .normal a w := by
    intro listed a w hls J hr
    have hall := ready_all hahead listed hls hr
    have : a = A := by
      have ht : a.tmps = A.tmps := by
        apply Array.ext_getElem?
        intro t
        by_cases hw : ∃ (j : Nat) (p : Oper), ops[j]? = some p ∧ p.dst = some t
        · obtain ⟨j, p, hp, hd⟩ := hw
          exact J.done t ⟨j, p, hp, hd, hall j (Array.getElem?_eq_some_iff.1 hp).1⟩
        · rw [J.left t fun ⟨j, p, hp, hd, _⟩ => hw ⟨j, p, hp, hd⟩]
          exact hA0 t fun j p hp hd => hw ⟨j, p, hp, hd⟩
      cases a; cases A
      have := J.defers
      simp_all
    rw [this]
    exact hfin w J.world
  intro fuel
  induction fuel with
  | zero =>
    intro listed a w hls hc J
    have hr : Region.ready .any ops listed = [] := by
      rw [List.eq_nil_iff_forall_not_mem]
      intro i hi
      obtain ⟨hf, _⟩ := mem_ready.1 hi
      have hlt : i < listed.size := by
        rcases Nat.lt_or_ge i listed.size with h | h
        · exact h
        · simp [Array.getElem?_eq_none h] at hf
      have h0 : listed.toList.count false = 0 := by omega
      rw [List.count_eq_zero] at h0
      apply h0
      have : listed[i] = false := by simpa [hlt] using hf
      rw [← this]
      simp
    exact ⟨hr, fin listed a w hls J hr⟩
  | succ fuel ih =>
    intro listed a w hls hc J
    refine ⟨fin listed a w hls J, fun i hi => ?_⟩
    obtain ⟨hf, o, ho, hall⟩ := mem_ready.1 hi
    have hlt : i < listed.size := by rw [hls]; exact (Array.getElem?_eq_some_iff.1 ho).1
    have hcount : (listed.setIfInBounds i true).toList.count false ≤ fuel := by
      have e1 : listed[i] = false := by simpa [hlt] using hf
      have e2 : (listed.setIfInBounds i true).toList = listed.toList.set i true := by simp
      rw [e2, List.count_set (by simpa using hlt)]
      have e3 : listed.toList[i]'(by simpa using hlt) = false := by simpa using e1
      rw [e3]
      have hpos : 0 < listed.toList.count false := by
        rw [List.count_pos_iff, ← e3]; simp
      simp
      simp at hc hpos
      omega
    have next : ∀ v w', A.put o.dst v = A → E w' → wpAny P .any ops Q fuel (listed.setIfInBounds i true) (a.put o.dst v) w' := fun v w' hA hE =>
      ih _ _ _ (by simpa using hls) hcount (J.put ho hls hA hE)
    have hmem : o ∈ ops.toList := by
      have := Array.mem_of_getElem? ho
      simpa using this
    have h := hs.get o hmem w J.world
    have hev : ∀ t ∈ o.looksAt ops, a.tmps[t]? = A.tmps[t]? := fun t ht => J.eval hdep hA0 ho hi ht
    have hexec : execOp a.eval o = execOp A.eval o := execOp_congr o (fun cs b => Region.noSelect_spec hsel i o cs b ho) fun x hx => by
      cases x with
      | tmp t =>
        have := hev t (List.mem_append_left _ (List.mem_filterMap.2 ⟨.tmp t, by simpa using hx, rfl⟩))
        simp [Act.eval, this]
      | _ => rfl
    have hwant : Region.wanted o (yielded ops a.tmps) = Region.wanted o (yielded ops A.tmps) := by
      unfold Region.wanted
      cases hg : o.guard with
      | none => rfl
      | some gw =>
        obtain ⟨g, want⟩ := gw
        have : yielded ops a.tmps g = yielded ops A.tmps g := by
          unfold yielded
          cases ht : (ops[g]?).bind (·.dst) with
          | none => rfl
          | some t =>
            have := hev t (List.mem_append_right _ (by simp [hg, ht]))
            simp [this]
        simp only [this]
    unfold wpOp
    simp only [ho]
    rw [hwant]
    simp only [wpList] at h
    split
    · rename_i hw
      rw [if_pos hw] at h
      refine .inl ?_
      rcases h with h | ⟨_, a₀, w₀, hq⟩
      case inr => exact hq.elim
      unfold Oper.wp at *
      rw [hexec]
      generalize (execOp A.eval o).run P w = r at *
      cases r with
      | ok n w' =>
        cases n <;> simp only [Oper.upon] at h ⊢
        case value v => exact next v w' h.1 h.2
        case skip => exact next undef w' h.1 h.2
        case defer d =>
          exfalso
          have := congrArg Act.defers h.1
          rw [put_defers'] at this
          exact absurd this (by simp)
        case enter f args =>
          refine Calls.mono h fun e w'' he => ?_
          cases e with
          | returned v => exact next v w'' he.1 he.2
          | panicked c => exact he.elim
          | outgrown => obtain ⟨_, _, hq⟩ := he; exact hq.elim
        case row row args => exact Rows.mono h fun v w'' he => next v w'' he.1 he.2
      | halt x w' => cases x <;> simp only [Oper.upon] at h <;> exact h.elim
    · rename_i hw
      rw [if_neg hw] at h
      exact next undef w h.1 h.2

theorem fill_get (l : List Oper) : ∀ (a : Act) (vs : List Value) (t : Nat), (∀ o ∈ l, o.dst ≠ some t) → (fill a l vs).tmps[t]? = a.tmps[t]? := by
  induction l with
  | nil => intro a vs t _; cases vs <;> rfl
  | cons o l ih =>
    intro a vs t h
    cases vs with
    | nil => rfl
    | cons v vs =>
      show (fill (a.put o.dst v) l vs).tmps[t]? = _
      rw [ih _ _ _ (fun p hp => h p (List.mem_cons_of_mem _ hp)), put_get (h o (List.mem_cons_self ..))]
theorem fill_size (l : List Oper) : ∀ (a : Act) (vs : List Value), (fill a l vs).tmps.size = a.tmps.size := by
  induction l with
  | nil => intro a vs; cases vs <;> rfl
  | cons o l ih =>
    intro a vs
    cases vs with
    | nil => rfl
    | cons v vs => show (fill (a.put o.dst v) l vs).tmps.size = _; rw [ih, put_size]
theorem fill_defers (l : List Oper) : ∀ (a : Act) (vs : List Value), (fill a l vs).defers = a.defers := by
  induction l with
  | nil => intro a vs; cases vs <;> rfl
  | cons o l ih =>
    intro a vs
    cases vs with
    | nil => rfl
    | cons v vs => show (fill (a.put o.dst v) l vs).defers = _; rw [ih, put_defers']

/-- ████ A STATEMENT WHOSE ORDER IS OPEN: vs are the values that its operations give, E what holds of the world throughout. -/
theorem wp_region_vals {id : Nat} {l : List Oper} {w : World} (vs : List Value) (E : World → Prop) (hm : P.follows .mixedOrders = true)
    (hB : (depsB l.toArray && (aheadB l.toArray && Region.noSelect l.toArray)) = true) (hE : E w.drew) (hs : stepsOk P l.toArray (fill a0 l vs) E l) (hfin : ∀ w, E w → Q .normal (fill a0 l vs) w) : (Code.region id l.toArray true).wp P Q a0 w := by
  rw [Bool.and_eq_true, Bool.and_eq_true] at hB
  refine wp_region_any hm ?_
  have hc : (Array.replicate l.toArray.size false).toList.count false ≤ l.toArray.size := by simp
  refine wpAny_inv (a0 := a0) (A := fill a0 l vs) (E := E) hB.1 hB.2.2 (fun t ht => ?_) hs hfin hB.2.1 _ _ _ _ (by simp) hc ?_
  · refine (fill_get l a0 vs t fun o ho hd => ?_).symm
    obtain ⟨j, hj, e⟩ := List.getElem_of_mem ho
    exact ht j o (by simp [hj, e]) hd
  · refine ⟨(fill_size l a0 vs).symm, (fill_defers l a0 vs).symm, fun t ht => ?_, fun t _ => rfl, hE⟩
    obtain ⟨j, o, _, _, hl⟩ := ht
    rw [getD_replicate_false] at hl
    cases hl
end
end Go.Proofs.YtcichbdkdbnmiaaDoor
