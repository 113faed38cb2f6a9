/- The reference's way to find the depths, again and again through the code. Plain mathematics. -/
import Derived.Test.YtdeneckmoejcfaaSoundSJ
set_option linter.unusedSimpArgs false
set_option linter.unusedVariables false
namespace Go.Proofs.Ytdeneckmoejcfaa

def DD (ds : List Int) (k : Nat) : Int := ds.getD k (-1)
def cntN (ds : List Int) : Nat := ds.countP fun x => decide (x < 0)
structure RInv (c : Code1) (ds : List Int) : Prop where
  len : ds.length = c.length + 1
  zero : DD ds 0 = 0
  reach : ∀ k, 0 ≤ DD ds k → Reach c k (DD ds k)
  low : ∀ x ∈ ds, -1 ≤ x ∧ x ≤ 64
theorem DD_at {ds : List Int} {k : Nat} (h : k < ds.length) : ds[k]? = some (DD ds k) := by
  unfold DD
  rw [List.getD_eq_getElem?_getD, List.getElem?_eq_getElem h]; rfl
theorem RInv.bound {c : Code1} {ds : List Int} (h : RInv c ds) (k : Nat) : -1 ≤ DD ds k ∧ DD ds k ≤ 64 := by
  by_cases hk : k < ds.length
  · have := DD_at hk
    exact h.low _ (List.mem_of_getElem? this)
  · unfold DD
    rw [List.getD_eq_getElem?_getD, List.getElem?_eq_none (by omega)]
    exact ⟨by decide, by decide⟩
theorem DD_set_ne {ds : List Int} {k to : Nat} {x : Int} (h : to ≠ k) : DD (ds.set to x) k = DD ds k := by
  unfold DD
  rw [List.getD_eq_getElem?_getD, List.getD_eq_getElem?_getD, List.getElem?_set_ne h]
theorem DD_set_eq {ds : List Int} {to : Nat} {x : Int} (h : to < ds.length) : DD (ds.set to x) to = x := by
  unfold DD
  rw [List.getD_eq_getElem?_getD, List.getElem?_set_self h]; rfl
theorem cntN_set : ∀ (ds : List Int) (to : Nat) (x : Int), to < ds.length → DD ds to < 0 → 0 ≤ x → cntN (ds.set to x) + 1 = cntN ds := by
  intro ds
  induction ds with
  | nil => intro to x h; simp at h
  | cons y r ih =>
    intro to x h hn hx
    cases to with
    | zero =>
      have hy : y < 0 := hn
      unfold cntN
      rw [List.set_cons_zero, List.countP_cons, List.countP_cons, if_neg (by simp; omega), if_pos (by simp; omega)]
    | succ to =>
      have h1 := ih to x (by simpa using h) (by simpa [DD] using hn) hx
      unfold cntN at h1 ⊢
      rw [List.set_cons_succ, List.countP_cons, List.countP_cons]
      omega
theorem RInv.step {c : Code1} {ds : List Int} (h : RInv c ds) {k to : Nat} (hk : k < c.length) (hd : 0 ≤ DD ds k) (hf : fitI c[k] (DD ds k)) (ht : to ∈ nextsI k c[k]) (hto : to ≤ c.length) (hn : DD ds to < 0) :
    RInv c (ds.set to (behind c[k] (DD ds k))) := by
  have hl := h.len
  have hp := behind_pos hf
  refine ⟨by rw [List.length_set]; exact hl, ?_, ?_, ?_⟩
  · have : to ≠ 0 := fun e => by rw [e, h.zero] at hn; omega
    rw [DD_set_ne this]; exact h.zero
  · intro j hj
    by_cases e : to = j
    · subst e
      rw [DD_set_eq (by omega)]
      exact Reach.step hk (h.reach k hd) hf ht
    · rw [DD_set_ne e] at hj ⊢
      exact h.reach j hj
  · intro x hx
    rcases List.mem_or_eq_of_mem_set hx with hx | rfl
    · exact h.low x hx
    · have := hf.2; omega
theorem RInv.nofit {c : Code1} {ds : List Int} (h : RInv c ds) {k : Nat} (hk : k < c.length) (hd : 0 ≤ DD ds k) (hf : ¬ fitI c[k] (DD ds k)) : ¬ Flow c := fun hF => hf (hF.fit k _ hk (h.reach k hd))
theorem RInv.clash {c : Code1} {ds : List Int} (h : RInv c ds) {k to : Nat} (hk : k < c.length) (hd : 0 ≤ DD ds k) (hf : fitI c[k] (DD ds k)) (ht : to ∈ nextsI k c[k]) (hn : 0 ≤ DD ds to) (hne : DD ds to ≠ behind c[k] (DD ds k)) : ¬ Flow c :=
  fun hF => hne (hF.one to _ _ (h.reach to hn) (Reach.step hk (h.reach k hd) hf ht))
/-- what stands when a round has come to instruction i: nothing new, and all before it fit, or less is open -/
def RMid (c : Code1) (ds0 ds : List Int) (more : Bool) (i : Nat) : Prop := (more = false → ds = ds0 ∧ ∀ j, j < i → Closed c (DD ds) j) ∧ (more = true → cntN ds < cntN ds0)
theorem RMid.start (c : Code1) (ds : List Int) : RMid c ds ds false 0 := ⟨fun _ => ⟨rfl, fun j hj => by omega⟩, fun h => by cases h⟩
theorem RMid.skip {c : Code1} {ds0 ds : List Int} {more : Bool} {i : Nat} (h : RMid c ds0 ds more i) (hn : DD ds i < 0) : RMid c ds0 ds more (i + 1) :=
  ⟨fun hm => ⟨(h.1 hm).1, fun j hj => by
    by_cases e : j = i
    · subst e; intro _ h0; omega
    · exact (h.1 hm).2 j (by omega)⟩, h.2⟩
theorem RMid.next {c : Code1} {ds0 ds : List Int} {more : Bool} {i : Nat} (h : RMid c ds0 ds more i) (hc : Closed c (DD ds) i) : RMid c ds0 ds more (i + 1) :=
  ⟨fun hm => ⟨(h.1 hm).1, fun j hj => by
    by_cases e : j = i
    · subst e; exact hc
    · exact (h.1 hm).2 j (by omega)⟩, h.2⟩
theorem RMid.le {c : Code1} {ds0 ds : List Int} {more : Bool} {i : Nat} (h : RMid c ds0 ds more i) : cntN ds ≤ cntN ds0 := by
  cases more with
  | true => exact Nat.le_of_lt (h.2 rfl)
  | false => rw [(h.1 rfl).1]; exact Nat.le_refl _
theorem RMid.set {c : Code1} {ds0 ds ds' : List Int} {more : Bool} {i j : Nat} (h : RMid c ds0 ds more i) (hc : cntN ds' + 1 = cntN ds) : RMid c ds0 ds' true j :=
  ⟨fun e => (by cases e), fun _ => by have := h.le; omega⟩
theorem RMid.more {c : Code1} {ds0 ds : List Int} {i j : Nat} (h : RMid c ds0 ds true i) : RMid c ds0 ds true j := ⟨fun e => (by cases e), fun _ => h.2 rfl⟩
theorem RInv.done {c : Code1} {ds : List Int} (h : RInv c ds) (hc : ∀ j, j < c.length → Closed c (DD ds) j) : Flow c ↔ DD ds c.length ≤ 0 :=
  flow_closed h.zero (fun h0 => h.reach _ h0) (fun k => by
    by_cases hk : k < c.length
    · exact hc k hk
    · intro h1; exact absurd h1 hk)
def startN (n : Nat) : List Int := 0 :: List.replicate n (-1)
theorem RInv.start (c : Code1) : RInv c (startN c.length) := by
  have hs : ∀ k, DD (startN c.length) (k + 1) = -1 := by
    intro k
    unfold DD startN
    rw [List.getD_eq_getElem?_getD, List.getElem?_cons_succ, List.getElem?_replicate]
    split <;> rfl
  refine ⟨by simp [startN], rfl, ?_, ?_⟩
  · intro k hk
    cases k with
    | zero => exact Reach.start
    | succ k => rw [hs k] at hk; omega
  · intro x hx
    unfold startN at hx
    rcases List.mem_cons.1 hx with rfl | hx
    · exact ⟨by decide, by decide⟩
    · rw [List.eq_of_mem_replicate hx]; exact ⟨by decide, by decide⟩
end Go.Proofs.Ytdeneckmoejcfaa
