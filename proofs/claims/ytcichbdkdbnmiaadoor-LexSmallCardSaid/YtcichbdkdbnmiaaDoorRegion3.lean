/- A statement whose order Go leaves open, walked in the order of the text: where each operation gives a value that does not hang on the order, and keeps what is said of the world. No condition of its own. -/
import Derived.Test.YtcichbdkdbnmiaaDoorRegion2
namespace Go.Proofs.YtcichbdkdbnmiaaDoor
open Go.RowKit

/-- what stands behind one operation: its value, and what is said of the world -/
def KeepV (a : Act) (dst : Option Tmp) (v : Value) (E : World → Prop) : Exit → Act → World → Prop
  | .normal, a', w => a' = a.put dst v ∧ E w
  | _, _, _ => False
def stepsSeq (P : Program) (ops : Array Oper) (E : World → Prop) (F : Act → Prop) : List Oper → Act → Prop
  | [], a => F a
  | o :: l, a => ∃ v, (∀ w, E w → wpList P ops (KeepV a o.dst v E) [o] a w) ∧ stepsSeq P ops E F l (a.put o.dst v)
theorem KeepQ_V {P : Program} {ops : Array Oper} {E : World → Prop} {o : Oper} {a : Act} {v : Value} {w : World} (h : wpList P ops (KeepQ (a.put o.dst v) E) [o] a w) : wpList P ops (KeepV a o.dst v E) [o] a w := by
  have e : KeepQ (a.put o.dst v) E = KeepV a o.dst v E := by
    funext x a' w'
    cases x <;> rfl
  rw [← e]; exact h
theorem stepsSeq.cons {P : Program} {ops : Array Oper} {E : World → Prop} {F : Act → Prop} {o : Oper} {l : List Oper} {a : Act} {v : Value}
    (h : ∀ w, E w → wpList P ops (KeepQ (a.put o.dst v) E) [o] a w) (h' : stepsSeq P ops E F l (a.put o.dst v)) : stepsSeq P ops E F (o :: l) a := ⟨v, fun w hw => KeepQ_V (h w hw), h'⟩
theorem stepsSeq.nil {P : Program} {ops : Array Oper} {E : World → Prop} {F : Act → Prop} {a : Act} (h : F a) : stepsSeq P ops E F [] a := h

section
variable {P : Program} {E : World → Prop}
/-- an operation in another frame that holds the same where it looks -/
theorem step_move {ops : Array Oper} (hsel : Region.noSelect ops = true) {i : Nat} {o : Oper} (ho : ops[i]? = some o) {a A : Act} {v : Value} (hsz : a.tmps.size = A.tmps.size) (hev : ∀ t ∈ o.looksAt ops, a.tmps[t]? = A.tmps[t]?) (hA : A.put o.dst v = A) {w : World}
    (h : wpList P ops (KeepV a o.dst v E) [o] a w) : wpList P ops (KeepQ A E) [o] A w := by
  have hexec : execOp a.eval o = execOp A.eval o := execOp_congr o (fun cs b => Region.noSelect_spec hsel i o cs b ho) fun x hx => by
    cases x with
    | tmp t =>
      have := hev t (List.mem_append_left _ (List.mem_filterMap.2 ⟨.tmp t, by simpa using hx, rfl⟩))
      simp [Act.eval, this]
    | _ => rfl
  have hwant : Region.wanted o (yielded ops a.tmps) = Region.wanted o (yielded ops A.tmps) := by
    unfold Region.wanted
    cases hg : o.guard with
    | none => rfl
    | some gw =>
      obtain ⟨g, want⟩ := gw
      have : yielded ops a.tmps g = yielded ops A.tmps g := by
        unfold yielded
        cases ht : (ops[g]?).bind (·.dst) with
        | none => rfl
        | some t =>
          have := hev t (List.mem_append_right _ (by simp [hg, ht]))
          simp [this]
      simp only [this]
  have put_inj : ∀ {u : Value}, a.put o.dst u = a.put o.dst v → A.put o.dst u = A := by
    intro u hu
    cases hd : o.dst with
    | none => rfl
    | some d =>
      rw [hd] at hu hA
      rcases Nat.lt_or_ge d a.tmps.size with hlt | hge
      · have h1 := congrArg (fun x : Act => x.tmps[d]?) hu
        simp only [put_get_same hlt] at h1
        cases h1
        exact hA
      · have hge' : A.tmps.size ≤ d := by omega
        simp [Act.put, Array.setIfInBounds, Nat.not_lt.2 hge']
  simp only [wpList] at h ⊢
  rw [← hwant]
  split
  · rename_i hw
    rw [if_pos hw] at h
    rcases h with h | ⟨hcut, a₀, w₀, hq⟩
    case inr => exact hq.elim
    refine .inl ?_
    unfold Oper.wp at *
    rw [← hexec]
    generalize (execOp a.eval o).run P w = r at *
    cases r with
    | ok n w' =>
      cases n <;> simp only [Oper.upon] at h ⊢
      case value u => exact ⟨put_inj h.1, h.2⟩
      case skip => exact ⟨put_inj h.1, h.2⟩
      case defer d =>
        exfalso
        have := congrArg Act.defers h.1
        rw [put_defers', put_defers'] at this
        exact absurd this (by simp)
      case enter f args =>
        refine Calls.mono h fun e w'' he => ?_
        cases e with
        | returned u => exact ⟨put_inj he.1, he.2⟩
        | panicked c => exact he.elim
        | outgrown => obtain ⟨_, _, hq⟩ := he; exact hq.elim
      case row row args => exact Rows.mono h fun u w'' he => ⟨put_inj he.1, he.2⟩
    | halt x w' => cases x <;> simp only [Oper.upon] at h <;> exact h.elim
  · rename_i hw
    rw [if_neg hw] at h
    exact ⟨put_inj h.1, h.2⟩

theorem onceB_tail {o : Oper} {l : List Oper} (h : onceB (o :: l) = true) : onceB l = true := by
  simp only [onceB, Bool.and_eq_true] at h; exact h.2
theorem seq_ok {l0 : List Oper} {F : Act → Prop} (hdep : depsB l0.toArray = true) (hahead : aheadB l0.toArray = true) (hsel : Region.noSelect l0.toArray = true) (honce : onceB l0 = true) :
    ∀ (l pre : List Oper) (a : Act), pre ++ l = l0 → stepsSeq P l0.toArray E F l a → ∃ vs, F (fill a l vs) ∧ stepsOk P l0.toArray (fill a l vs) E l
  | [], pre, a, _, h => ⟨[], h, trivial⟩
  | o :: l, pre, a, hp, h => by
    obtain ⟨v, h1, h2⟩ := h
    obtain ⟨vs, h3, h4⟩ := seq_ok hdep hahead hsel honce l (pre ++ [o]) (a.put o.dst v) (by simpa using hp) h2
    have hi : l0.toArray[pre.length]? = some o := by subst hp; simp
    have hget : ∀ j p, l0[j]? = some p → pre.length < j → p ∈ l := by
      intro j p hj hlt
      subst hp
      rw [List.getElem?_append_right (by omega)] at hj
      rw [show j - pre.length = (j - pre.length - 1) + 1 from by omega, List.getElem?_cons_succ] at hj
      exact List.mem_of_getElem? hj
    have hput : ∀ t, o.dst = some t → ∀ p ∈ l, p.dst ≠ some t := by
      intro t ht p hpl hpd
      obtain ⟨j, hj, e⟩ := List.getElem_of_mem hpl
      have h1 : l0[pre.length]? = some o := by simpa using hi
      have h2 : l0[pre.length + (j + 1)]? = some p := by
        subst hp
        rw [List.getElem?_append_right (by omega)]
        simp [hj, e]
      have := onceB_spec l0 _ _ _ _ t honce h1 h2 ht hpd
      omega
    refine ⟨v :: vs, h3, ?_, h4⟩
    intro w hw
    rw [fill_cons]
    refine step_move hsel hi (a := a) (v := v) (by rw [fill_size, put_size]) (fun t ht => ?_) ?_ (h1 w hw)
    · -- where it looks nothing from o on writes
      have hno : ∀ p ∈ o :: l, p.dst ≠ some t := by
        intro p hpl hpd
        obtain ⟨j, hj, e⟩ := List.getElem_of_mem hpl
        have hjp : l0.toArray[pre.length + j]? = some p := by
          subst hp
          simp only [List.getElem?_toArray]
          rw [List.getElem?_append_right (by omega), Nat.add_sub_cancel_left, List.getElem?_eq_getElem hj, e]
        obtain ⟨ed, he, hb, hej⟩ := depsB_spec hdep hi ht hjp hpd
        unfold aheadB at hahead
        rw [List.all_eq_true] at hahead
        have h1 := hahead pre.length (List.mem_range.2 (Array.getElem?_eq_some_iff.1 hi).1)
        rw [hi] at h1
        simp only [Array.all_eq_true_iff_forall_mem] at h1
        have h2 := h1 ed he
        rw [hb] at h2
        have h3 : ed.on < pre.length := by simpa using h2
        omega
      rw [fill_get l _ vs t (fun p hp => hno p (List.mem_cons_of_mem _ hp)), put_get (hno o (List.mem_cons_self ..))]
    · cases hd : o.dst with
      | none => rfl
      | some d =>
        have hsz := fill_size l (a.put (some d) v) vs
        rcases Nat.lt_or_ge d a.tmps.size with hlt | hge
        · have hg := fill_get l (a.put (some d) v) vs d (hput d hd)
          rw [put_get_same hlt] at hg
          have hlt' : d < (fill (a.put (some d) v) l vs).tmps.size := by rw [hsz, put_size]; exact hlt
          have hv : (fill (a.put (some d) v) l vs).tmps[d] = v := by rw [Array.getElem?_eq_getElem hlt'] at hg; exact Option.some.inj hg
          generalize fill (a.put (some d) v) l vs = A at *
          have : (A.tmps.setIfInBounds d v) = A.tmps := by
            apply Array.ext_getElem?
            intro t
            by_cases e : d = t
            · subst e; simp [hlt', hv]
            · rw [Array.getElem?_setIfInBounds_ne e]
          unfold Act.put
          simp only [this]
        · have hge' : (fill (a.put (some d) v) l vs).tmps.size ≤ d := by rw [hsz, put_size]; exact hge
          generalize fill (a.put (some d) v) l vs = A at *
          simp [Act.put, Array.setIfInBounds, Nat.not_lt.2 hge']

/-- ████ A STATEMENT WHOSE ORDER IS OPEN, walked in the order of the text; E is what is said of the world throughout -/
theorem wp_region_seq {id : Nat} {l : List Oper} {a0 : Act} {Q : Exit → Act → World → Prop} {w : World} (E : World → Prop) (hm : P.follows .mixedOrders = true)
    (hB : (depsB l.toArray && (aheadB l.toArray && (Region.noSelect l.toArray && onceB l))) = true) (hE : E w.drew) (hs : stepsSeq P l.toArray E (fun a => ∀ w, E w → Q .normal a w) l a0) : (Code.region id l.toArray true).wp P Q a0 w := by
  rw [Bool.and_eq_true, Bool.and_eq_true, Bool.and_eq_true] at hB
  obtain ⟨vs, h1, h2⟩ := seq_ok hB.1 hB.2.1 hB.2.2.1 hB.2.2.2 l [] a0 rfl hs
  exact wp_region_vals vs E hm (by rw [hB.1, hB.2.1, hB.2.2.1]; rfl) hE h2 h1
end
end Go.Proofs.YtcichbdkdbnmiaaDoor
