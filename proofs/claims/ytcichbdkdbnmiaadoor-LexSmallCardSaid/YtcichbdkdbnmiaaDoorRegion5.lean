/- A statement whose order Go leaves open, whose last operations stand in one order: the first ones are walked in the order of the text, each by itself; then the last ones as a plain list. No condition of its own. -/
import Derived.Test.YtcichbdkdbnmiaaDoorRegion4
namespace Go.Proofs.YtcichbdkdbnmiaaDoor
open Go.RowKit

section
variable {P : Program} {ops : Array Oper} {a0 A : Act} {E : World → Prop} {Q : Exit → Act → World → Prop}

/-- the first n are done -/
def headDone (n size : Nat) : Array Bool := ((List.range size).map fun i => decide (i < n)).toArray
theorem headDone_eq {n : Nat} {listed : Array Bool} (inv : HeadInv .any ops n listed) (hall : ∀ i, i < n → i < ops.size → listed.getD i true = true) : listed = headDone n ops.size := by
  apply Array.ext
  · simp [headDone, inv.size]
  · intro i h1 h2
    have hs : i < ops.size := by rw [← inv.size]; exact h1
    simp only [headDone, List.getElem_toArray, List.getElem_map, List.getElem_range]
    by_cases h : i < n
    · have := hall i h hs
      simpa [h1, h] using this
    · have := inv.tail i (by omega) hs
      simpa [h1, h] using this

theorem wpAny_head {n : Nat} (hdep : depsB ops = true) (hahead : aheadB ops = true) (hsel : Region.noSelect ops = true) (hsink : Region.sinkB .any ops n = true) (hchain : Region.chainB .any ops n = true) (hn : n < ops.size)
    (hA0 : ∀ t, (∀ (j : Nat) (o : Oper), j < n → ops[j]? = some o → o.dst ≠ some t) → a0.tmps[t]? = A.tmps[t]?)
    (hs : ∀ (i : Nat) (o : Oper), i < n → ops[i]? = some o → ∀ w, E w → wpList P ops (KeepQ A E) [o] A w)
    (hfin : ∀ w, E w → wpAny P .any ops Q (ops.size - n) (headDone n ops.size) A w) :
    ∀ (fuel : Nat) (listed : Array Bool) (a : Act) (w : World), HeadInv .any ops n listed → listed.toList.count false = fuel → InvJ ops a0 A E listed a w → wpAny P .any ops Q fuel listed a w := by
  have fin : ∀ (listed : Array Bool) (a : Act) (w : World) (fuel : Nat), HeadInv .any ops n listed → listed.toList.count false = fuel → InvJ ops a0 A E listed a w → (∀ i, i < n → i < ops.size → listed.getD i true = true) → wpAny P .any ops Q fuel listed a w := by
    intro listed a w fuel inv hc J hall
    have hl := headDone_eq inv hall
    have hct : fuel = ops.size - n := by
      rw [← hc, hl]
      unfold headDone
      have : ∀ m, ((List.range m).map fun i => decide (i < n)).count false = m - n := by
        intro m
        induction m with
        | zero => simp
        | succ m ih =>
          rw [List.range_succ, List.map_append, List.count_append, ih]
          by_cases h : m < n
          · simp [h]; omega
          · simp [h]; omega
      exact this _
    have : a = A := by
      have ht : a.tmps = A.tmps := by
        apply Array.ext_getElem?
        intro t
        by_cases hw : doneAt ops listed t
        · exact J.done t hw
        · rw [J.left t hw]
          refine hA0 t fun j o hj ho hd => hw ⟨j, o, ho, hd, ?_⟩
          have h1 := hall j hj (Array.getElem?_eq_some_iff.1 ho).1
          have h2 : j < listed.size := by rw [inv.size]; exact (Array.getElem?_eq_some_iff.1 ho).1
          simpa [h2] using h1
      cases a; cases A
      have := J.defers
      simp_all
    rw [this, hl, hct]
    exact hfin w J.world
  intro fuel
  induction fuel with
  | zero =>
    intro listed a w inv hc J
    exfalso
    have h1 := inv.tail n (Nat.le_refl _) hn
    rw [List.count_eq_zero] at hc
    apply hc
    have h2 : n < listed.size := by rw [inv.size]; exact hn
    have : listed[n] = false := by simpa [h2] using h1
    rw [← this]
    simp
  | succ fuel ih =>
    intro listed a w inv hc J
    by_cases hall : ∀ i, i < n → i < ops.size → listed.getD i true = true
    · exact fin listed a w _ inv hc J hall
    · have hex : ∃ i, i < n ∧ listed.getD i true = false := by
        refine Classical.byContradiction fun hno => hall fun i hi _ => ?_
        rw [← Bool.not_eq_false]
        exact fun h => hno ⟨i, hi, h⟩
      obtain ⟨i0, hi0, hun0⟩ := hex
      have htail := tail_waits hsink hchain hn inv _ i0 rfl hi0 hun0
      refine ⟨fun hr => ?_, fun i hi => ?_⟩
      · exfalso
        have := ready_all hahead listed inv.size hr i0 (by omega)
        rw [getD_both hun0] at this
        cases this
      have hin : i < n := by
        rcases Nat.lt_or_ge i n with h | h
        · exact h
        · exact absurd hi (htail i h)
      obtain ⟨hf, o, ho, hall'⟩ := mem_ready.1 hi
      have hlt : i < listed.size := by rw [inv.size]; exact (Array.getElem?_eq_some_iff.1 ho).1
      have hcount : (listed.setIfInBounds i true).toList.count false = fuel := by
        have e1 : listed[i] = false := by simpa [hlt] using hf
        have e2 : (listed.setIfInBounds i true).toList = listed.toList.set i true := by simp
        rw [e2, List.count_set (by simpa using hlt)]
        have e3 : listed.toList[i]'(by simpa using hlt) = false := by simpa using e1
        rw [e3]
        have hpos : 0 < listed.toList.count false := by
          rw [List.count_pos_iff, ← e3]; simp
        simp
        simp at hc hpos
        omega
      have next : ∀ v w', A.put o.dst v = A → E w' → wpAny P .any ops Q fuel (listed.setIfInBounds i true) (a.put o.dst v) w' := fun v w' hA hE =>
        ih _ _ _ (inv.set hi hin) hcount (J.put ho inv.size hA hE)
      have h := hs i o hin ho w J.world
      have hev : ∀ t ∈ o.looksAt ops, a.tmps[t]? = A.tmps[t]? := fun t ht => J.eval hdep (fun t h => hA0 t fun j p _ hp => h j p hp) ho hi ht
      have hexec : execOp a.eval o = execOp A.eval o := execOp_congr o (fun cs b => Region.noSelect_spec hsel i o cs b ho) fun x hx => by
        cases x with
        | tmp t =>
          have := hev t (List.mem_append_left _ (List.mem_filterMap.2 ⟨.tmp t, by simpa using hx, rfl⟩))
          simp [Act.eval, this]
        | _ => rfl
      have hwant : Region.wanted o (yielded ops a.tmps) = Region.wanted o (yielded ops A.tmps) := by
        unfold Region.wanted
        cases hg : o.guard with
        | none => rfl
        | some gw =>
          obtain ⟨g, want⟩ := gw
          have : yielded ops a.tmps g = yielded ops A.tmps g := by
            unfold yielded
            cases ht : (ops[g]?).bind (·.dst) with
            | none => rfl
            | some t =>
              have := hev t (List.mem_append_right _ (by simp [hg, ht]))
              simp [this]
          simp only [this]
      unfold wpOp
      simp only [ho]
      rw [hwant]
      simp only [wpList] at h
      split
      · rename_i hw
        rw [if_pos hw] at h
        refine .inl ?_
        rcases h with h | ⟨_, a₀, w₀, hq⟩
        case inr => exact hq.elim
        unfold Oper.wp at *
        rw [hexec]
        generalize (execOp A.eval o).run P w = r at *
        cases r with
        | ok n w' =>
          cases n <;> simp only [Oper.upon] at h ⊢
          case value v => exact next v w' h.1 h.2
          case skip => exact next undef w' h.1 h.2
          case defer d =>
            exfalso
            have := congrArg Act.defers h.1
            rw [put_defers'] at this
            exact absurd this (by simp)
          case enter f args =>
            refine Calls.mono h fun e w'' he => ?_
            cases e with
            | returned v => exact next v w'' he.1 he.2
            | panicked c => exact he.elim
            | outgrown => obtain ⟨_, _, hq⟩ := he; exact hq.elim
          case row row args => exact Rows.mono h fun v w'' he => next v w'' he.1 he.2
        | halt x w' => cases x <;> simp only [Oper.upon] at h <;> exact h.elim
      · rename_i hw
        rw [if_neg hw] at h
        exact next undef w h.1 h.2
end

section
variable {P : Program} {E : World → Prop}
theorem seq_ok2 {l0 : List Oper} {F : Act → Prop} (hdep : depsB l0.toArray = true) (hahead : aheadB l0.toArray = true) (hsel : Region.noSelect l0.toArray = true) (honce : onceB l0 = true) (post : List Oper) :
    ∀ (l pre : List Oper) (a : Act), pre ++ l ++ post = l0 → stepsSeq P l0.toArray E F l a → ∃ vs, F (fill a l vs) ∧ stepsOk P l0.toArray (fill a l vs) E l
  | [], pre, a, _, h => ⟨[], h, trivial⟩
  | o :: l, pre, a, hp, h => by
    obtain ⟨v, h1, h2⟩ := h
    obtain ⟨vs, h3, h4⟩ := seq_ok2 hdep hahead hsel honce post l (pre ++ [o]) (a.put o.dst v) (by simpa using hp) h2
    have hi : l0.toArray[pre.length]? = some o := by subst hp; simp
    have hat : ∀ j p, (o :: l)[j]? = some p → l0[pre.length + j]? = some p := by
      intro j p hj
      subst hp
      have hlt := (List.getElem?_eq_some_iff.1 hj).1
      rw [List.append_assoc, List.getElem?_append_right (by omega), Nat.add_sub_cancel_left, List.getElem?_append_left hlt]
      exact hj
    have hput : ∀ t, o.dst = some t → ∀ p ∈ l, p.dst ≠ some t := by
      intro t ht p hpl hpd
      obtain ⟨j, hj, e⟩ := List.getElem_of_mem hpl
      have h1 : l0[pre.length]? = some o := by simpa using hi
      have h2 := hat (j + 1) p (by rw [List.getElem?_cons_succ, List.getElem?_eq_getElem hj, e])
      have := onceB_spec l0 _ _ _ _ t honce h1 h2 ht hpd
      omega
    refine ⟨v :: vs, h3, ?_, h4⟩
    intro w hw
    rw [fill_cons]
    refine step_move hsel hi (a := a) (v := v) (by rw [fill_size, put_size]) (fun t ht => ?_) ?_ (h1 w hw)
    · have hno : ∀ p ∈ o :: l, p.dst ≠ some t := by
        intro p hpl hpd
        obtain ⟨j, hj, e⟩ := List.getElem_of_mem hpl
        have hjp : l0.toArray[pre.length + j]? = some p := by
          rw [List.getElem?_toArray]
          exact hat j p (by rw [List.getElem?_eq_getElem hj, e])
        obtain ⟨ed, he, hb, hej⟩ := depsB_spec hdep hi ht hjp hpd
        unfold aheadB at hahead
        rw [List.all_eq_true] at hahead
        have h1 := hahead pre.length (List.mem_range.2 (Array.getElem?_eq_some_iff.1 hi).1)
        rw [hi] at h1
        simp only [Array.all_eq_true_iff_forall_mem] at h1
        have h2 := h1 ed he
        rw [hb] at h2
        have h3 : ed.on < pre.length := by simpa using h2
        omega
      rw [fill_get l _ vs t (fun p hp => hno p (List.mem_cons_of_mem _ hp)), put_get (hno o (List.mem_cons_self ..))]
    · cases hd : o.dst with
      | none => rfl
      | some d =>
        have hsz := fill_size l (a.put (some d) v) vs
        rcases Nat.lt_or_ge d a.tmps.size with hlt | hge
        · have hg := fill_get l (a.put (some d) v) vs d (hput d hd)
          rw [put_get_same hlt] at hg
          have hlt' : d < (fill (a.put (some d) v) l vs).tmps.size := by rw [hsz, put_size]; exact hlt
          have hv : (fill (a.put (some d) v) l vs).tmps[d] = v := by rw [Array.getElem?_eq_getElem hlt'] at hg; exact Option.some.inj hg
          generalize fill (a.put (some d) v) l vs = A at *
          have : (A.tmps.setIfInBounds d v) = A.tmps := by
            apply Array.ext_getElem?
            intro t
            by_cases e : d = t
            · subst e; simp [hlt', hv]
            · rw [Array.getElem?_setIfInBounds_ne e]
          unfold Act.put
          simp only [this]
        · have hge' : (fill (a.put (some d) v) l vs).tmps.size ≤ d := by rw [hsz, put_size]; exact hge
          generalize fill (a.put (some d) v) l vs = A at *
          simp [Act.put, Array.setIfInBounds, Nat.not_lt.2 hge']

def tailB (l : List Oper) (n : Nat) : Bool :=
  depsB l.toArray && (aheadB l.toArray && (Region.noSelect l.toArray && (onceB l && (Region.sinkB .any l.toArray n && (Region.chainB .any l.toArray n && (decide (n < l.toArray.size) && Region.seqB .any l.toArray (l.drop n).length n (headDone n l.toArray.size)))))))
/-- ████ A STATEMENT WHOSE ORDER IS OPEN but for its last operations, from number n on: the first ones in the text's order under E, the last ones as a list -/
theorem wp_region_tail {id : Nat} {l : List Oper} {a0 : Act} {Q : Exit → Act → World → Prop} {w : World} (n : Nat) (E : World → Prop) (hm : P.follows .mixedOrders = true)
    (hB : tailB l n = true) (hE : E w.drew) (hs : stepsSeq P l.toArray E (fun a => ∀ w, E w → wpList P l.toArray Q (l.drop n) a w) (l.take n) a0) : (Code.region id l.toArray true).wp P Q a0 w := by
  unfold tailB at hB
  simp only [Bool.and_eq_true, decide_eq_true_eq] at hB
  obtain ⟨hdep, hahead, hsel, honce, hsink, hchain, hn, hseq⟩ := hB
  obtain ⟨vs, h1, h2⟩ := seq_ok2 hdep hahead hsel honce (l.drop n) (l.take n) [] a0 (by simp) hs
  refine wp_region_any hm ?_
  have hget : ∀ i o, i < n → l.toArray[i]? = some o → (l.take n)[i]? = some o := fun i o hi ho => by
    rw [List.getElem?_take, if_pos hi]
    simpa using ho
  have inv0 : HeadInv .any l.toArray n (Array.replicate l.toArray.size false) :=
    ⟨by simp, fun j oj _ hl => (by rw [getD_replicate_false] at hl; cases hl), fun t _ ht => getD_in (by simpa using ht) (getD_replicate_false _ _)⟩
  refine wpAny_head (a0 := a0) (A := fill a0 (l.take n) vs) (E := E) hdep hahead hsel hsink hchain hn (fun t ht => ?_) (fun i o hi ho => h2.get o (List.mem_of_getElem? (hget i o hi ho))) (fun w hw => ?_) _ _ _ _ inv0 (by simp) ?_
  · refine (fill_get (l.take n) a0 vs t fun o ho hd => ?_).symm
    obtain ⟨j, hj, e⟩ := List.getElem_of_mem ho
    have hjn : j < n := by simp at hj; omega
    refine ht j o hjn ?_ hd
    rw [List.getElem_take] at e
    have hjl : j < l.length := by simp at hj; omega
    rw [List.getElem?_toArray, List.getElem?_eq_getElem hjl, e]
  · have hsz : l.toArray.size - n = (l.drop n).length := by simp
    rw [hsz]
    exact wpAny_of_seq (l.drop n) n _ _ _ (fun j => by simp) hseq (h1 w hw)
  · refine ⟨(fill_size (l.take n) a0 vs).symm, (fill_defers (l.take n) a0 vs).symm, fun t ht => ?_, fun t _ => rfl, hE⟩
    obtain ⟨j, o, _, _, hl⟩ := ht
    rw [getD_replicate_false] at hl
    cases hl
end
end Go.Proofs.YtcichbdkdbnmiaaDoor
