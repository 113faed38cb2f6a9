/- The law on a statement whose order Go leaves open, in a round of a range over a function. No condition of its own. -/
import Derived.Test.YtcichbdkdbnmiaaDoorRegion3
import Derived.Test.YtcichbdkdbnmiaaDoorOnly
import Derived.RangeFuncNested
import Derived.RangeFuncBound
import Derived.RangeFuncCalls
import Derived.RangeFuncLeaves
import Derived.OwnWalkIn
import Derived.TacticsInMore
import Derived.LoopNIn
import Derived.LoopIn
import Derived.OrdersIn
namespace Go.Proofs.YtcichbdkdbnmiaaDoor
open Go.RowKit

def noDefer (ops : Array Oper) : Bool := ops.all fun o => match o.op with | .defer .. => false | _ => true
theorem noDefer_spec {ops : Array Oper} (h : noDefer ops = true) {i : Nat} {o : Oper} (ho : ops[i]? = some o) (c : Call) : o.op ≠ .defer c := by
  unfold noDefer at h
  rw [Array.all_eq_true_iff_forall_mem] at h
  have := h o (Array.mem_of_getElem? ho)
  intro e
  rw [e] at this
  cases this
theorem rowsIn_of {P : Program} {lp n : Nat} {row : String} {args : Array Value} {w : World} {R : Value → World → Prop} (h : Rows P row args w R) : RowsIn (Fence.wide.inRound lp) n P row args w R := by
  intro c cs _
  obtain ⟨v, w', r, s⟩ := h c cs
  exact ⟨v, w', r, stepsIn_wide.2 s⟩
section
variable {P : Program} {ops : Array Oper} {a0 A : Act} {E : World → Prop} {Q : Exit → Act → World → Prop}
theorem wpAnyIn_inv {lp n : Nat} (hdep : depsB ops = true) (hsel : Region.noSelect ops = true) (hA0 : ∀ t, (∀ (j : Nat) (o : Oper), ops[j]? = some o → o.dst ≠ some t) → a0.tmps[t]? = A.tmps[t]?)
    (hs : stepsOk P ops A E ops.toList) (hfin : ∀ w, E w → Q .normal A w) (hahead : aheadB ops = true) (hnd : noDefer ops = true) :
    ∀ (fuel : Nat) (listed : Array Bool) (a : Act) (w : World), listed.size = ops.size → (listed.toList.count false ≤ fuel) → InvJ ops a0 A E listed a w → wpAnyIn (Fence.wide.inRound lp) n P .any ops Q fuel listed a w := by
  have fin : ∀ (listed : Array Bool) (a : Act) (w : World), listed.size = ops.size → InvJ ops a0 A E listed a w → Region.ready .any ops listed = [] → Q .normal a w := by
    intro listed a w hls J hr
    have hall := ready_all hahead listed hls hr
    have : a = A := by
      have ht : a.tmps = A.tmps := by
        apply Array.ext_getElem?
        intro t
        by_cases hw : ∃ (j : Nat) (p : Oper), ops[j]? = some p ∧ p.dst = some t
        · obtain ⟨j, p, hp, hd⟩ := hw
          exact J.done t ⟨j, p, hp, hd, hall j (Array.getElem?_eq_some_iff.1 hp).1⟩
        · rw [J.left t fun ⟨j, p, hp, hd, _⟩ => hw ⟨j, p, hp, hd⟩]
          exact hA0 t fun j p hp hd => hw ⟨j, p, hp, hd⟩
      cases a; cases A
      have := J.defers
      simp_all
    rw [this]
    exact hfin w J.world
  intro fuel
  induction fuel with
  | zero =>
    intro listed a w hls hc J
    have hr : Region.ready .any ops listed = [] := by
      rw [List.eq_nil_iff_forall_not_mem]
      intro i hi
      obtain ⟨hf, _⟩ := mem_ready.1 hi
      have hlt : i < listed.size := by
        rcases Nat.lt_or_ge i listed.size with h | h
        · exact h
        · simp [Array.getElem?_eq_none h] at hf
      have h0 : listed.toList.count false = 0 := by omega
      rw [List.count_eq_zero] at h0
      apply h0
      have : listed[i] = false := by simpa [hlt] using hf
      rw [← this]
      simp
    exact ⟨hr, fin listed a w hls J hr⟩
  | succ fuel ih =>
    intro listed a w hls hc J
    refine ⟨fin listed a w hls J, fun i hi => ?_⟩
    obtain ⟨hf, o, ho, hall⟩ := mem_ready.1 hi
    have hlt : i < listed.size := by rw [hls]; exact (Array.getElem?_eq_some_iff.1 ho).1
    have hcount : (listed.setIfInBounds i true).toList.count false ≤ fuel := by
      have e1 : listed[i] = false := by simpa [hlt] using hf
      have e2 : (listed.setIfInBounds i true).toList = listed.toList.set i true := by simp
      rw [e2, List.count_set (by simpa using hlt)]
      have e3 : listed.toList[i]'(by simpa using hlt) = false := by simpa using e1
      rw [e3]
      have hpos : 0 < listed.toList.count false := by
        rw [List.count_pos_iff, ← e3]; simp
      simp
      simp at hc hpos
      omega
    have next : ∀ v w', A.put o.dst v = A → E w' → wpAnyIn (Fence.wide.inRound lp) n P .any ops Q fuel (listed.setIfInBounds i true) (a.put o.dst v) w' := fun v w' hA hE =>
      ih _ _ _ (by simpa using hls) hcount (J.put ho hls hA hE)
    have hmem : o ∈ ops.toList := by
      have := Array.mem_of_getElem? ho
      simpa using this
    have h := hs.get o hmem w J.world
    have hev : ∀ t ∈ o.looksAt ops, a.tmps[t]? = A.tmps[t]? := fun t ht => J.eval hdep hA0 ho hi ht
    have hexec : execOp a.eval o = execOp A.eval o := execOp_congr o (fun cs b => Region.noSelect_spec hsel i o cs b ho) fun x hx => by
      cases x with
      | tmp t =>
        have := hev t (List.mem_append_left _ (List.mem_filterMap.2 ⟨.tmp t, by simpa using hx, rfl⟩))
        simp [Act.eval, this]
      | _ => rfl
    have hwant : Region.wanted o (yielded ops a.tmps) = Region.wanted o (yielded ops A.tmps) := by
      unfold Region.wanted
      cases hg : o.guard with
      | none => rfl
      | some gw =>
        obtain ⟨g, want⟩ := gw
        have : yielded ops a.tmps g = yielded ops A.tmps g := by
          unfold yielded
          cases ht : (ops[g]?).bind (·.dst) with
          | none => rfl
          | some t =>
            have := hev t (List.mem_append_right _ (by simp [hg, ht]))
            simp [this]
        simp only [this]
    have hd0 : ∀ c, o.op ≠ .defer c := noDefer_spec hnd ho
    unfold wpOpIn
    simp only [ho]
    rw [hwant]
    simp only [wpList] at h
    split
    · rename_i hw
      rw [if_pos hw] at h
      rcases h with h | ⟨_, a₀, w₀, hq⟩
      case inr => exact hq.elim
      refine ⟨fun _ _ => trivial, ?_⟩
      rw [Oper.semAt_eq _ _ _ hd0]
      unfold Oper.wp at h
      rw [hexec]
      generalize (execOp A.eval o).run P w = r at *
      cases r with
      | ok nx w' =>
        cases nx <;> simp only [Oper.upon] at h
        case value v => exact next v w' h.1 h.2
        case skip => exact next undef w' h.1 h.2
        case defer d =>
          exfalso
          have := congrArg Act.defers h.1
          rw [put_defers'] at this
          exact absurd this (by simp)
        case enter f args =>
          refine ⟨(fun hx => by cases hx), CallsIn.inRound lp (callsIn_wide.2 (Calls.mono h fun e w'' he => ?_))⟩
          cases e with
          | returned v => exact next v w'' he.1 he.2
          | panicked c => exact he.elim
          | outgrown => obtain ⟨_, _, hq⟩ := he; exact hq.elim
        case row row args => exact ⟨(fun hx => by cases hx), rowsIn_of (Rows.mono h fun v w'' he => next v w'' he.1 he.2)⟩
      | halt x w' => cases x <;> simp only [Oper.upon] at h <;> exact h.elim
    · rename_i hw
      rw [if_neg hw] at h
      exact ⟨fun _ _ => trivial, next undef w h.1 h.2⟩
theorem wpIn_region_vals {lp n : Nat} {id : Nat} {l : List Oper} {w : World} (vs : List Value) (E : World → Prop) (hm : P.follows .mixedOrders = true)
    (hB : (depsB l.toArray && (aheadB l.toArray && Region.noSelect l.toArray)) = true) (hnd : noDefer l.toArray = true) (hE : E w.drew) (hs : stepsOk P l.toArray (fill a0 l vs) E l) (hfin : ∀ w, E w → Q .normal (fill a0 l vs) w) : (Code.region id l.toArray true).wpIn (Fence.wide.inRound lp) n P Q a0 w := by
  rw [Bool.and_eq_true, Bool.and_eq_true] at hB
  refine wpIn_region_any hm ?_
  have hc : (Array.replicate l.toArray.size false).toList.count false ≤ l.toArray.size := by simp
  refine wpAnyIn_inv (a0 := a0) (A := fill a0 l vs) (E := E) hB.1 hB.2.2 (fun t ht => ?_) hs hfin hB.2.1 hnd _ _ _ _ (by simp) hc ?_
  · refine (fill_get l a0 vs t fun o ho hd => ?_).symm
    obtain ⟨j, hj, e⟩ := List.getElem_of_mem ho
    exact ht j o (by simp [hj, e]) hd
  · refine ⟨(fill_size l a0 vs).symm, (fill_defers l a0 vs).symm, fun t ht => ?_, fun t _ => rfl, hE⟩
    obtain ⟨j, o, _, _, hl⟩ := ht
    rw [getD_replicate_false] at hl
    cases hl
end
theorem wpIn_region_seq {P : Program} {lp n : Nat} {id : Nat} {l : List Oper} {a0 : Act} {Q : Exit → Act → World → Prop} {w : World} (E : World → Prop) (hm : P.follows .mixedOrders = true)
    (hB : (depsB l.toArray && (aheadB l.toArray && (Region.noSelect l.toArray && onceB l))) = true) (hnd : noDefer l.toArray = true) (hE : E w.drew) (hs : stepsSeq P l.toArray E (fun a => ∀ w, E w → Q .normal a w) l a0) : (Code.region id l.toArray true).wpIn (Fence.wide.inRound lp) n P Q a0 w := by
  rw [Bool.and_eq_true, Bool.and_eq_true, Bool.and_eq_true] at hB
  obtain ⟨vs, h1, h2⟩ := seq_ok hB.1 hB.2.1 hB.2.2.1 hB.2.2.2 l [] a0 rfl hs
  exact wpIn_region_vals vs E hm (by rw [hB.1, hB.2.1, hB.2.2.1]; rfl) hnd hE h2 h1
theorem OwnV.ofNon {W W' : World} {g : Nat} {e : TypeId} {vs : List Value} (h : OwnV W g e vs) {row : Option Nat} (hg : W.grownBy W' row) (hr : ∀ r, row = some r → ∃ o : Obj, W.heap[r]? = some o ∧ o.isCells = false) : OwnV W' g e vs :=
  h.grown hg (fun e => by
    obtain ⟨o, ho, hc⟩ := hr g e.symm
    unfold OwnV at h
    rw [h] at ho
    cases ho
    cases hc)
/-- what turns cells alone keeps all else -/
theorem keeps_only {S : Nat → Prop} {W W' : World} (h : Only S W W') (hS : ∀ k, S k → ∃ e vs, OwnV W k e vs) (B : Nat) : KeepsFrom B W W' := by
  refine ⟨h.size, fun k o _ hk ho => ?_⟩
  rw [h.block k (lt_of_block hk) (fun hs => ?_)]
  · exact hk
  · obtain ⟨e, vs, hv⟩ := hS k hs
    unfold OwnV at hv
    rw [hv] at hk
    cases hk
    cases ho
end Go.Proofs.YtcichbdkdbnmiaaDoor
