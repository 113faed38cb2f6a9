/- Which programs are sound (P13.2): depths of the stack along all ways through the code. Plain mathematics. -/
/- A table of depths that is filled in from a list of places still to be looked at: what holds between two rounds. Plain mathematics. -/
/- Codes with one depth at each place: how they are put together. Plain mathematics. -/
/- What is compiled is sound (P13.3). Plain mathematics. -/
/- What is compiled is sound: by the kinds of expressions and statements. Plain mathematics. -/
/- What is compiled is sound: the numbers of its instructions; the whole. Plain mathematics. -/
/- How many instructions a program's code has, and its masks, told by the program's text. Plain mathematics. -/
import Derived.Test.YtdeneckmoejcfaaMaskMJ
import Derived.Test.YtdeneckmoejcfaaFineSJ
import Derived.Test.YtdeneckmoejcfaaTransMJ
import Derived.Test.YtdeneckmoejcfaaTransTJ
set_option linter.unusedSimpArgs false
set_option linter.unusedVariables false
namespace Go.Proofs.Ytdeneckmoejcfaa

def takesI (i : InsS) : Int := if i.op = 5 then 2 else if i.op = 9 then (if 10 ≤ i.a then 2 else 1) else if i.op = 3 ∨ i.op = 4 ∨ i.op = 8 ∨ i.op = 10 ∨ i.op = 12 ∨ i.op = 13 then 1 else 0
def addsI (i : InsS) : Int := if i.op = 1 ∨ i.op = 2 ∨ i.op = 4 ∨ i.op = 6 ∨ i.op = 7 ∨ i.op = 8 ∨ i.op = 9 ∨ i.op = 10 then 1 else 0
def behind (i : InsS) (d : Int) : Int := d - takesI i + addsI i
def nextsI (k : Nat) (i : InsS) : List Nat := if i.op = 11 then [i.a.toNat] else if i.op = 12 ∨ i.op = 13 then [k + 1, i.a.toNat] else if i.op = 14 ∨ i.op = 15 then [] else [k + 1]
def fitI (i : InsS) (d : Int) : Prop := takesI i ≤ d ∧ behind i d ≤ 64
inductive Reach (c : Code1) : Nat → Int → Prop where
  | start : Reach c 0 0
  | step {k : Nat} {d : Int} {to : Nat} (h : k < c.length) : Reach c k d → fitI c[k] d → to ∈ nextsI k c[k] → Reach c to (behind c[k] d)
structure Flow (c : Code1) : Prop where
  fit : ∀ (k : Nat) (d : Int) (h : k < c.length), Reach c k d → fitI c[k] d
  one : ∀ (k : Nat) (d e : Int), Reach c k d → Reach c k e → d = e
  fin : ∀ d, Reach c c.length d → d ≤ 0
def rightI (n locals : Int) (i : InsS) : Prop :=
  if i.op = 1 then True else if i.op = 2 ∨ i.op = 3 then 0 ≤ i.a ∧ i.a < locals else if i.op = 4 ∨ i.op = 5 then 1 ≤ i.a ∧ i.a ≤ 10
  else if i.op = 9 then (7 ≤ i.a ∧ i.a ≤ 20) ∨ (23 ≤ i.a ∧ i.a ≤ 24) else if 11 ≤ i.op ∧ i.op ≤ 13 then 0 ≤ i.a ∧ i.a ≤ n
  else (i.op = 6 ∨ i.op = 7 ∨ i.op = 8 ∨ i.op = 10 ∨ i.op = 14 ∨ i.op = 15) ∧ i.a = 0
instance (n locals : Int) (i : InsS) : Decidable (rightI n locals i) := by unfold rightI; infer_instance
structure Basic (p : ProgS) : Prop where
  len : p.code.length ≤ 4000
  loc : 0 ≤ p.locals ∧ p.locals ≤ 32
  right : ∀ i ∈ p.code, rightI p.code.length p.locals i
  reads : maskC 4 p.code = p.reads
  writes : maskC 5 p.code = p.writes
structure SoundP (p : ProgS) : Prop where
  basic : Basic p
  flow : Flow p.code
theorem addsI_pos (i : InsS) : 0 ≤ addsI i ∧ addsI i ≤ 1 := by unfold addsI; split <;> omega
theorem takesI_pos (i : InsS) : 0 ≤ takesI i ∧ takesI i ≤ 2 := by
  unfold takesI
  split
  · omega
  · split
    · split <;> omega
    · split <;> omega
theorem behind_pos {i : InsS} {d : Int} (h : fitI i d) : 0 ≤ behind i d := by
  have := addsI_pos i
  have := h.1
  unfold behind
  omega
theorem right_op {n l : Int} {i : InsS} (h : rightI n l i) : 1 ≤ i.op ∧ i.op ≤ 15 := by
  unfold rightI at h
  split at h
  · omega
  · split at h
    · omega
    · split at h
      · omega
      · split at h
        · omega
        · split at h
          · omega
          · omega
theorem right_jump {n l : Int} {i : InsS} (h : rightI n l i) (hj : 11 ≤ i.op ∧ i.op ≤ 13) : 0 ≤ i.a ∧ i.a ≤ n := by
  unfold rightI at h
  rw [if_neg (by omega), if_neg (by omega), if_neg (by omega), if_neg (by omega), if_pos hj] at h
  exact h
/-- where it goes on lies in the code, or at its end -/
theorem nexts_in {c : Code1} {l : Int} (hr : ∀ i ∈ c, rightI c.length l i) {k to : Nat} (hk : k < c.length) (h : to ∈ nextsI k c[k]) : to ≤ c.length := by
  have h1 := hr _ (List.getElem_mem hk)
  unfold nextsI at h
  split at h
  · have := right_jump h1 (by omega)
    simp at h; omega
  · split at h
    · have := right_jump h1 (by omega)
      simp at h
      rcases h with h | h <;> omega
    · split at h
      · simp at h
      · simp at h; omega
theorem reach_in {c : Code1} {l : Int} (hr : ∀ i ∈ c, rightI c.length l i) {k : Nat} {d : Int} (h : Reach c k d) : k ≤ c.length := by
  cases h with
  | start => omega
  | step hk _ _ hn => exact nexts_in hr hk hn
/-- a table of depths says for instruction k what it must -/
def Closed (c : Code1) (D : Nat → Int) (k : Nat) : Prop := ∀ h : k < c.length, 0 ≤ D k → fitI c[k] (D k) ∧ ∀ to ∈ nextsI k c[k], D to = behind c[k] (D k)
theorem closed_reach {c : Code1} {D : Nat → Int} (h0 : D 0 = 0) (hc : ∀ k, Closed c D k) {k : Nat} {d : Int} (h : Reach c k d) : D k = d ∧ 0 ≤ d := by
  induction h with
  | start => exact ⟨h0, Int.le_refl _⟩
  | step hk _ hf hn ih =>
    obtain ⟨e, hp⟩ := ih
    have := (hc _ hk (by omega)).2 _ hn
    rw [e] at this
    exact ⟨this, behind_pos hf⟩
theorem flow_closed {c : Code1} {D : Nat → Int} (h0 : D 0 = 0) (hr : 0 ≤ D c.length → Reach c c.length (D c.length)) (hc : ∀ k, Closed c D k) : Flow c ↔ D c.length ≤ 0 := by
  constructor
  · intro h
    by_cases hp : 0 ≤ D c.length
    · exact h.fin _ (hr hp)
    · omega
  · intro h
    refine ⟨fun k d hk hk2 => ?_, fun k d e h1 h2 => ?_, fun d h1 => ?_⟩
    · obtain ⟨e, hp⟩ := closed_reach h0 hc hk2
      have := (hc k hk (by omega)).1
      rw [e] at this; exact this
    · rw [← (closed_reach h0 hc h1).1, ← (closed_reach h0 hc h2).1]
    · rw [← (closed_reach h0 hc h1).1]; exact h
end Go.Proofs.Ytdeneckmoejcfaa
namespace Go.Proofs.Ytdeneckmoejcfaa

theorem reach_bd {c : Code1} {k : Nat} {d : Int} (h : Reach c k d) : 0 ≤ d ∧ d ≤ 64 := by
  cases h with
  | start => omega
  | step _ _ hf _ => exact ⟨behind_pos hf, hf.2⟩
/-- the table says depth + 1 where a place was reached, 0 elsewhere; ex: the places being looked at -/
structure WInv (c : Code1) (P : List Int) (todo : List Nat) (ex : Nat → Prop) : Prop where
  len : P.length = c.length + 1
  reach : ∀ k, P.getD k 0 ≠ 0 → Reach c k (P.getD k 0 - 1)
  todos : ∀ t ∈ todo, t ≤ c.length ∧ P.getD t 0 ≠ 0
  closed : ∀ k, ¬ ex k → k ∉ todo → Closed c (fun j => P.getD j 0 - 1) k
  zero : P.getD 0 0 = 1
theorem WInv.init (c : Code1) : WInv c ((List.replicate (c.length + 1) (0 : Int)).set 0 1) [0] (fun _ => False) := by
  have hg : ∀ k, ((List.replicate (c.length + 1) (0 : Int)).set 0 1).getD k 0 = if k = 0 then 1 else 0 := by
    intro k
    cases k with
    | zero => rfl
    | succ k =>
      rw [List.getD_eq_getElem?_getD, List.replicate_succ, List.set_cons_zero, List.getElem?_cons_succ, List.getElem?_replicate]
      split <;> rfl
  refine ⟨by simp, fun k hk => ?_, fun t ht => ?_, fun k _ hk => ?_, hg 0⟩
  · rw [hg] at hk ⊢
    by_cases h0 : k = 0
    · subst h0; exact Reach.start
    · rw [if_neg h0] at hk; exact absurd rfl hk
  · simp at ht; subst ht; exact ⟨by omega, by rw [hg]; decide⟩
  · intro h hp
    simp only at hp
    rw [hg, if_neg (by simpa using hk)] at hp
    omega
theorem WInv.val {c : Code1} {P : List Int} {todo : List Nat} {ex : Nat → Prop} (h : WInv c P todo ex) (k : Nat) : 0 ≤ P.getD k 0 ∧ P.getD k 0 ≤ 65 := by
  by_cases h0 : P.getD k 0 = 0
  · omega
  · have := reach_bd (h.reach k h0)
    omega
theorem WInv.pop {c : Code1} {P : List Int} {ts : List Nat} {t : Nat} (h : WInv c P (ts ++ [t]) (fun _ => False)) : WInv c P ts (fun k => k = t) :=
  ⟨h.len, h.reach, fun x hx => h.todos x (by simp [hx]), fun k hk hn => h.closed k id (by simp [hn, hk]), h.zero⟩
theorem WInv.done {c : Code1} {P : List Int} {ts : List Nat} {t : Nat} (h : WInv c P ts (fun k => k = t)) (hc : Closed c (fun j => P.getD j 0 - 1) t) : WInv c P ts (fun _ => False) :=
  ⟨h.len, h.reach, h.todos, fun k _ hn => by
    by_cases e : k = t
    · rw [e]; exact hc
    · exact h.closed k e hn, h.zero⟩
theorem WInv.last {c : Code1} {P : List Int} {ts : List Nat} (h : WInv c P ts (fun k => k = c.length)) : WInv c P ts (fun _ => False) := h.done fun hl => absurd hl (by omega)
theorem getD_set {P : List Int} {t : Nat} (v : Int) (ht : t < P.length) (k : Nat) : (P.set t v).getD k 0 = if k = t then v else P.getD k 0 := by
  rw [List.getD_eq_getElem?_getD, List.getElem?_set, List.getD_eq_getElem?_getD]
  by_cases e : t = k
  · subst e; rw [if_pos rfl, if_pos rfl, if_pos ht]; rfl
  · rw [if_neg e, if_neg (fun h => e h.symm)]
theorem WInv.push {c : Code1} {P : List Int} {ts : List Nat} {ex : Nat → Prop} (h : WInv c P ts ex) {to : Nat} {d : Int} (hto : to ≤ c.length) (h0 : P.getD to 0 = 0) (hr : Reach c to d) : WInv c (P.set to (d + 1)) (ts ++ [to]) ex := by
  have hlt : to < P.length := by rw [h.len]; omega
  have hd := reach_bd hr
  refine ⟨by rw [List.length_set]; exact h.len, fun k hk => ?_, fun t ht => ?_, fun k hk hn => ?_, ?_⟩
  · rw [getD_set _ hlt] at hk ⊢
    by_cases e : k = to
    · subst e; rw [if_pos rfl]; rw [show d + 1 - 1 = d by omega]; exact hr
    · rw [if_neg e] at hk ⊢; exact h.reach k hk
  · rw [getD_set _ hlt]
    rcases List.mem_append.1 ht with ht | ht
    · refine ⟨(h.todos t ht).1, ?_⟩
      split
      · omega
      · exact (h.todos t ht).2
    · rw [List.mem_singleton] at ht
      subst ht
      exact ⟨hto, by rw [if_pos rfl]; omega⟩
  · have hnt : k ∉ ts := fun e => hn (by simp [e])
    have hkt : k ≠ to := fun e => hn (by simp [e])
    have hc := h.closed k hk hnt
    intro hkc hp
    simp only at hp ⊢
    rw [getD_set _ hlt, if_neg hkt] at hp ⊢
    obtain ⟨a, b⟩ := hc hkc hp
    refine ⟨a, fun x hx => ?_⟩
    have hb := b x hx
    simp only at hb
    rw [getD_set _ hlt]
    by_cases e : x = to
    · subst e
      rw [h0] at hb
      have := behind_pos a
      simp only at this
      omega
    · rw [if_neg e]; exact hb
  · rw [getD_set _ hlt]
    by_cases e : 0 = to
    · rw [← e, h.zero] at h0; omega
    · rw [if_neg e]; exact h.zero
theorem zeros_set {P : List Int} : ∀ {t : Nat} {v : Int}, t < P.length → P.getD t 0 = 0 → v ≠ 0 → (P.set t v).count 0 + 1 = P.count 0 := by
  induction P with
  | nil => intro t v ht; simp at ht
  | cons x P ih =>
    intro t v ht h0 hv
    cases t with
    | zero =>
      have hx : x = 0 := h0
      subst hx
      rw [List.set_cons_zero, List.count_cons_of_ne hv, List.count_cons_self]
    | succ t =>
      rw [List.set_cons_succ, List.count_cons, List.count_cons]
      have := ih (t := t) (v := v) (by simpa using ht) (by simpa using h0) hv
      omega
theorem WInv.result {c : Code1} {P : List Int} (h : WInv c P [] (fun _ => False)) : Flow c ↔ P.getD c.length 0 ≤ 1 := by
  have hD0 : (fun j => P.getD j 0 - 1) 0 = 0 := by simp only; rw [h.zero]; rfl
  rw [flow_closed (D := fun j => P.getD j 0 - 1) hD0 (fun hp => h.reach _ (by omega)) (fun k => h.closed k id (by simp))]
  omega
theorem not_flow_fit {c : Code1} {k : Nat} {d : Int} (hk : k < c.length) (hr : Reach c k d) (h : ¬ fitI c[k] d) : ¬ Flow c := fun hf => h (hf.fit k d hk hr)
theorem not_flow_one {c : Code1} {k : Nat} {d e : Int} (h1 : Reach c k d) (h2 : Reach c k e) (h : d ≠ e) : ¬ Flow c := fun hf => h (hf.one k d e h1 h2)
end Go.Proofs.Ytdeneckmoejcfaa
namespace Go.Proofs.Ytdeneckmoejcfaa

def SegOk (c : Code1) (f : Nat → Int) : Prop := ∀ k (h : k < c.length), fitI c[k] (f k) ∧ ∀ to ∈ nextsI k c[k], to ≤ c.length ∧ f to = behind c[k] (f k)
/-- a code that is entered at depth D and left at depth E -/
def Typed (c : Code1) (D E : Int) : Prop := ∃ f : Nat → Int, f 0 = D ∧ f c.length = E ∧ SegOk c f
theorem Typed.flow {c : Code1} (h : Typed c 0 0) : Flow c := by
  obtain ⟨f, h0, h1, hs⟩ := h
  have key : ∀ k d, Reach c k d → f k = d ∧ k ≤ c.length := by
    intro k d h
    induction h with
    | start => exact ⟨h0, by omega⟩
    | step hk _ _ hn ih =>
      obtain ⟨a, b⟩ := (hs _ hk).2 _ hn
      rw [ih.1] at b
      exact ⟨b, a⟩
  refine ⟨fun k d hk h => ?_, fun k d e h1 h2 => ?_, fun d h => ?_⟩
  · have := (hs k hk).1
    rw [(key k d h).1] at this; exact this
  · rw [← (key k d h1).1, ← (key k e h2).1]
  · have := (key _ d h).1
    omega
theorem takes_shift (m : Int) (i : InsS) : takesI (shiftI m i) = takesI i := by
  by_cases h : jumpB i = true
  · rw [jump_shift h]
    unfold jumpB at h
    rw [decide_eq_true_eq] at h
    unfold takesI
    simp only
    rw [if_neg (by omega), if_neg (by omega), if_neg (show ¬ i.op = 5 by omega), if_neg (show ¬ i.op = 9 by omega)]
  · rw [jump_not (by simpa using h)]
theorem adds_shift (m : Int) (i : InsS) : addsI (shiftI m i) = addsI i := by unfold addsI; rw [shiftI_op]
theorem behind_shift (m : Int) (i : InsS) (d : Int) : behind (shiftI m i) d = behind i d := by unfold behind; rw [takes_shift, adds_shift]
theorem fit_shift (m : Int) (i : InsS) (d : Int) : fitI (shiftI m i) d ↔ fitI i d := by unfold fitI; rw [takes_shift, behind_shift]
theorem nexts_shift (m k : Nat) (i : InsS) (h : jumpB i = true → 0 ≤ i.a) : nextsI (k + m) (shiftI m i) = (nextsI k i).map (· + m) := by
  by_cases hj : jumpB i = true
  · have ha := h hj
    rw [jump_shift hj]
    unfold jumpB at hj
    rw [decide_eq_true_eq] at hj
    unfold nextsI
    simp only
    by_cases h11 : i.op = 11
    · rw [if_pos h11, if_pos h11]; simp; omega
    · rw [if_neg h11, if_neg h11, if_pos (by omega), if_pos (by omega)]; simp; omega
  · rw [jump_not (by simpa using hj)]
    have h2 : ¬ (11 ≤ i.op ∧ i.op ≤ 13) := by unfold jumpB at hj; simpa using hj
    have h11 : ¬ i.op = 11 := by omega
    have h12 : ¬ (i.op = 12 ∨ i.op = 13) := by omega
    unfold nextsI
    simp only [if_neg h11, if_neg h12]
    split
    · rfl
    · simp; omega
theorem Typed.nil (D : Int) : Typed [] D D := ⟨fun _ => D, rfl, rfl, fun k h => absurd h (by simp)⟩
theorem Typed.one {i : InsS} {D : Int} (h : fitI i D) (hn : nextsI 0 i = [1]) : Typed [i] D (behind i D) := by
  refine ⟨fun k => if k = 0 then D else behind i D, rfl, rfl, fun k hk => ?_⟩
  obtain rfl : k = 0 := by simpa using hk
  refine ⟨h, fun to ht => ?_⟩
  rw [show [i][0] = i from rfl, hn] at ht
  simp at ht
  subst ht
  exact ⟨by simp, rfl⟩
theorem Typed.halt {i : InsS} {D E : Int} (h : fitI i D) (hn : nextsI 0 i = []) : Typed [i] D E := by
  refine ⟨fun k => if k = 0 then D else E, rfl, rfl, fun k hk => ?_⟩
  obtain rfl : k = 0 := by simpa using hk
  refine ⟨h, fun to ht => ?_⟩
  rw [show [i][0] = i from rfl, hn] at ht
  simp at ht
theorem shiftC_get {m : Int} {c : Code1} {k : Nat} (h : k < (shiftC m c).length) : (shiftC m c)[k] = shiftI m (c[k]'(by rw [shiftC_len] at h; exact h)) := by simp [shiftC]
theorem Typed.join {a b : Code1} {D M E : Int} (ha : Typed a D M) (hb : Typed b M E) (jb : jOk b) : Typed (joinC a b) D E := by
  obtain ⟨f, f0, f1, hf⟩ := ha
  obtain ⟨g, g0, g1, hg⟩ := hb
  refine ⟨fun k => if k ≤ a.length then f k else g (k - a.length), ?_, ?_, fun k hk => ?_⟩
  · simp [f0]
  · simp only [joinC_len]
    by_cases hb0 : b.length = 0
    · rw [if_pos (by omega), hb0, Nat.add_zero, f1, ← g1, hb0, g0]
    · rw [if_neg (by omega), Nat.add_sub_cancel_left, g1]
  · rw [joinC_len] at hk
    by_cases hka : k < a.length
    · have e : (joinC a b)[k]'(by rw [joinC_len]; exact hk) = a[k] := by unfold joinC; rw [List.getElem_append_left hka]
      rw [e]
      dsimp only
      rw [if_pos (by omega)]
      obtain ⟨p, q⟩ := hf k hka
      refine ⟨p, fun to ht => ?_⟩
      obtain ⟨q1, q2⟩ := q to ht
      exact ⟨by rw [joinC_len]; omega, by rw [if_pos q1]; exact q2⟩
    · obtain ⟨j, rfl⟩ : ∃ j, k = j + a.length := ⟨k - a.length, by omega⟩
      have hj : j < b.length := by omega
      have e : (joinC a b)[j + a.length]'(by rw [joinC_len]; exact hk) = shiftI a.length b[j] := by
        unfold joinC
        rw [List.getElem_append_right (by omega), shiftC_get]
        congr 2
        omega
      have ev : ∀ j', (if j' + a.length ≤ a.length then f (j' + a.length) else g (j' + a.length - a.length)) = g j' := by
        intro j'
        by_cases h0 : j' = 0
        · subst h0; rw [if_pos (by omega), Nat.zero_add, f1, g0]
        · rw [if_neg (by omega), Nat.add_sub_cancel]
      rw [e]
      dsimp only
      rw [ev]
      obtain ⟨p, q⟩ := hg j hj
      refine ⟨(fit_shift _ _ _).2 p, fun to ht => ?_⟩
      rw [nexts_shift _ _ _ (fun h => (jb _ (List.getElem_mem hj) h).1)] at ht
      obtain ⟨t, ht1, rfl⟩ := List.mem_map.1 ht
      obtain ⟨q1, q2⟩ := q t ht1
      exact ⟨by rw [joinC_len]; omega, by rw [ev, behind_shift]; exact q2⟩
/-- .. a jump, a block behind it, and what comes last -/
theorem typed_jump {i : InsS} {b r : Code1} {D M N : Int} {fr : Nat → Int} {E : Int} (hi : fitI i D) (hbD : behind i D = M) (hb : Typed b M N) (jb : jOk b)
    (hn : ∀ to ∈ nextsI 0 i, to = 1 ∨ (b.length + 1 ≤ to ∧ to ≤ b.length + 1 + r.length ∧ fr (to - (b.length + 1)) = M)) (h0 : fr 0 = N) (hE : fr r.length = E)
    (hr : ∀ k (h : k < r.length), fitI r[k] (fr k) ∧ ∀ to ∈ nextsI (k + (b.length + 1)) r[k], (to = 0 ∧ D = behind r[k] (fr k)) ∨ (b.length + 1 ≤ to ∧ to ≤ b.length + 1 + r.length ∧ fr (to - (b.length + 1)) = behind r[k] (fr k))) :
    Typed (i :: (shiftC 1 b ++ r)) D E := by
  obtain ⟨g, g0, g1, hg⟩ := hb
  have hlen : (i :: (shiftC 1 b ++ r)).length = b.length + 1 + r.length := by simp [shiftC_len]; omega
  refine ⟨fun k => if k = 0 then D else if k ≤ b.length then g (k - 1) else fr (k - (b.length + 1)), rfl, ?_, fun k hk => ?_⟩
  · rw [hlen]
    dsimp only
    rw [if_neg (by omega), if_neg (by omega), Nat.add_sub_cancel_left, hE]
  · have hat : ∀ j, b.length + 1 ≤ j → (if j = 0 then D else if j ≤ b.length then g (j - 1) else fr (j - (b.length + 1))) = fr (j - (b.length + 1)) := fun j hj => by rw [if_neg (by omega), if_neg (by omega)]
    have hag : ∀ j, j ≤ b.length → (if j + 1 = 0 then D else if j + 1 ≤ b.length then g (j + 1 - 1) else fr (j + 1 - (b.length + 1))) = g j := fun j hj => by
      rw [if_neg (by omega)]
      by_cases h1 : j + 1 ≤ b.length
      · rw [if_pos h1, Nat.add_sub_cancel]
      · rw [if_neg h1, show j + 1 - (b.length + 1) = 0 from by omega, h0, ← g1]
        congr 1; omega
    cases k with
    | zero =>
      refine ⟨hi, fun to ht => ?_⟩
      rcases hn to ht with rfl | ⟨a1, a2, a3⟩
      · refine ⟨by rw [hlen]; omega, ?_⟩
        have := hag 0 (by omega)
        simp only at this ⊢
        rw [this, g0]; exact hbD.symm
      · refine ⟨by rw [hlen]; omega, ?_⟩
        simp only
        rw [hat to a1, a3]; exact hbD.symm
    | succ j =>
      by_cases hj : j < b.length
      · have e : (i :: (shiftC 1 b ++ r))[j + 1]'hk = shiftI (1 : Nat) b[j] := by
          rw [List.getElem_cons_succ, List.getElem_append_left (by rw [shiftC_len]; exact hj), shiftC_get]
          rfl
        simp only
        rw [e, hag j (by omega)]
        obtain ⟨p, q⟩ := hg j hj
        refine ⟨(fit_shift _ _ _).2 p, fun to ht => ?_⟩
        rw [nexts_shift _ _ _ (fun h => (jb _ (List.getElem_mem hj) h).1)] at ht
        obtain ⟨t, ht1, rfl⟩ := List.mem_map.1 ht
        obtain ⟨q1, q2⟩ := q t ht1
        exact ⟨by rw [hlen]; omega, by rw [hag t q1, behind_shift]; exact q2⟩
      · obtain ⟨m, rfl⟩ : ∃ m, j = m + b.length := ⟨j - b.length, by omega⟩
        have hm : m < r.length := by rw [hlen] at hk; omega
        have e : (i :: (shiftC 1 b ++ r))[m + b.length + 1]'hk = r[m] := by
          rw [List.getElem_cons_succ, List.getElem_append_right (by rw [shiftC_len]; omega)]
          congr 1
          rw [shiftC_len]; omega
        simp only
        rw [e, hat _ (by omega), show m + b.length + 1 - (b.length + 1) = m from by omega]
        obtain ⟨p, q⟩ := hr m hm
        refine ⟨p, fun to ht => ?_⟩
        rw [show m + b.length + 1 = m + (b.length + 1) from by omega] at ht
        rcases q to ht with ⟨rfl, a2⟩ | ⟨a1, a2, a3⟩
        · exact ⟨by omega, a2⟩
        · exact ⟨by rw [hlen]; exact a2, by rw [hat to a1]; exact a3⟩
end Go.Proofs.Ytdeneckmoejcfaa
namespace Go.Proofs.Ytdeneckmoejcfaa

theorem fit_of {i : InsS} {D t a : Int} (ht : takesI i = t) (ha : addsI i = a) (h1 : t ≤ D) (h2 : D - t + a ≤ 64) : fitI i D := by
  unfold fitI behind
  rw [ht, ha]
  exact ⟨h1, h2⟩
theorem Typed.plain {i : InsS} {D E t a : Int} (ht : takesI i = t) (ha : addsI i = a) (hn : nextsI 0 i = [1]) (h1 : t ≤ D) (h2 : D - t + a ≤ 64) (hE : E = D - t + a) : Typed [i] D E := by
  have h := Typed.one (fit_of ht ha h1 h2) hn
  unfold behind at h
  rw [ht, ha] at h
  rw [hE]; exact h
theorem typed_lazy {a b : Code1} {op D : Int} (hop : op = 21 ∨ op = 22) (hD : 0 ≤ D) (hD2 : D + 1 ≤ 64) (ha : Typed a D (D + 1)) (hb : Typed b D (D + 1)) (jb : jOk b) : Typed (lazyC a b op) D (D + 1) := by
  unfold lazyC
  have hj : jumpB ⟨12 + op - 21, (b.length : Int) + 3⟩ = true := by unfold jumpB; rw [decide_eq_true_eq]; show 11 ≤ 12 + op - 21 ∧ 12 + op - 21 ≤ 13; omega
  have ht : takesI ⟨12 + op - 21, (b.length : Int) + 3⟩ = 1 := by
    rcases hop with rfl | rfl <;> rfl
  have hadd : addsI ⟨12 + op - 21, (b.length : Int) + 3⟩ = 0 := by
    rcases hop with rfl | rfl <;> rfl
  have hnx : nextsI 0 ⟨12 + op - 21, (b.length : Int) + 3⟩ = [1, b.length + 3] := by
    have h1 : ((b.length : Int) + 3).toNat = b.length + 3 := by omega
    rcases hop with rfl | rfl
    · show [0 + 1, ((b.length : Int) + 3).toNat] = _; rw [h1]
    · show [0 + 1, ((b.length : Int) + 3).toNat] = _; rw [h1]
  refine ha.join ?_ ?_
  · refine typed_jump (i := ⟨12 + op - 21, (b.length : Int) + 3⟩) (r := [⟨10, 0⟩, ⟨11, (b.length : Int) + 4⟩, ⟨1, op - 21⟩]) (D := D + 1) (M := D) (N := D + 1) (fr := fun k => if k = 2 then D else D + 1) (E := D + 1) (fit_of ht hadd (by omega) (by omega)) (by unfold behind; rw [ht, hadd]; omega) hb jb ?_ rfl rfl ?_
    · intro to h
      rw [hnx] at h
      simp at h
      rcases h with rfl | rfl
      · exact .inl rfl
      · refine .inr ⟨by omega, by simp <;> omega, ?_⟩
        rw [show b.length + 3 - (b.length + 1) = 2 from by omega]; rfl
    · intro k hk
      have hk3 : k = 0 ∨ k = 1 ∨ k = 2 := by simp at hk; omega
      rcases hk3 with rfl | rfl | rfl
      · refine ⟨fit_of (t := 1) (a := 1) rfl rfl (by show 1 ≤ D + 1; omega) (by show D + 1 - 1 + 1 ≤ 64; omega), fun to h => .inr ?_⟩
        have h' : to ∈ [0 + (b.length + 1) + 1] := h
        simp at h'
        subst h'
        refine ⟨by omega, by simp <;> omega, ?_⟩
        rw [show b.length + 1 + 1 - (b.length + 1) = 1 from by omega]
        show D + 1 = D + 1 - 1 + 1
        omega
      · refine ⟨fit_of (t := 0) (a := 0) rfl rfl (by show 0 ≤ D + 1; omega) (by show D + 1 - 0 + 0 ≤ 64; omega), fun to h => .inr ?_⟩
        have h' : to ∈ [((b.length : Int) + 4).toNat] := h
        rw [show ((b.length : Int) + 4).toNat = b.length + 4 from by omega] at h'
        simp at h'
        subst h'
        refine ⟨by omega, by simp <;> omega, ?_⟩
        rw [show b.length + 4 - (b.length + 1) = 3 from by omega]
        show D + 1 = D + 1 - 0 + 0
        omega
      · refine ⟨fit_of (t := 0) (a := 1) rfl rfl (by show 0 ≤ D; omega) (by show D - 0 + 1 ≤ 64; omega), fun to h => .inr ?_⟩
        have h' : to ∈ [2 + (b.length + 1) + 1] := h
        simp at h'
        subst h'
        refine ⟨by omega, by simp <;> omega, ?_⟩
        rw [show 2 + (b.length + 1) + 1 - (b.length + 1) = 3 from by omega]
        show D + 1 = D - 0 + 1
        omega
  · intro i hi hji
    simp only [List.length_cons, List.length_append, shiftC_len, List.length_nil]
    rcases List.mem_cons.1 hi with rfl | hi
    · show 0 ≤ (b.length : Int) + 3 ∧ (b.length : Int) + 3 ≤ _
      omega
    · rcases List.mem_append.1 hi with hi | hi
      · exact jOk_shift (k := 1) jb (by omega) i hi hji
      · simp only [List.mem_cons, List.not_mem_nil, or_false] at hi
        rcases hi with rfl | rfl | rfl
        · cases hji
        · show 0 ≤ (b.length : Int) + 4 ∧ (b.length : Int) + 4 ≤ _
          omega
        · cases hji
/-- a jump over a block: the target counts from the jump itself -/
theorem typed_over {b r : Code1} {n : Int} {fr : Nat → Int} {E : Int} (hb : Typed b 0 0) (jb : jOk b) (hn : n = (b.length + 1 + r.length : Nat)) (h0 : fr 0 = 0) (hE : fr r.length = E) (hE0 : E = 0)
    (hr : ∀ k (h : k < r.length), fitI r[k] (fr k) ∧ ∀ to ∈ nextsI (k + (b.length + 1)) r[k], b.length + 1 ≤ to ∧ to ≤ b.length + 1 + r.length ∧ fr (to - (b.length + 1)) = behind r[k] (fr k)) :
    Typed (⟨12, n⟩ :: (shiftC 1 b ++ r)) 1 0 := by
  subst hn hE0
  refine typed_jump (i := ⟨12, _⟩) (D := 1) (M := 0) (N := 0) (fr := fr) (E := 0) (fit_of (t := 1) (a := 0) rfl rfl (by omega) (by omega)) rfl hb jb ?_ h0 hE (fun k hk => ⟨(hr k hk).1, fun to ht => .inr ((hr k hk).2 to ht)⟩)
  intro to ht
  have h' : to ∈ [0 + 1, (((b.length + 1 + r.length : Nat) : Int)).toNat] := ht
  rw [Int.toNat_natCast] at h'
  simp at h'
  rcases h' with rfl | rfl
  · exact .inl rfl
  · refine .inr ⟨by omega, by omega, ?_⟩
    rw [Nat.add_sub_cancel_left]; exact hE
theorem joinC_shift (o : Code1) (i : InsS) (b r : Code1) (h : jumpB i = true) : joinC o (i :: (shiftC 1 b ++ r)) = o ++ (⟨i.op, i.a + o.length⟩ :: (shiftC (o.length + 1) b ++ shiftC o.length r)) := by
  unfold joinC
  congr 1
  show shiftI _ i :: List.map _ _ = _
  rw [jump_shift h]
  congr 1
  show shiftC o.length (shiftC 1 b ++ r) = _
  rw [shiftC_app, shift_shift _ _ (o.length + 1) (by omega)]
theorem typed_if {o b : Code1} (ho : Typed o 0 1) (hb : Typed b 0 0) (jb : jOk b) : Typed (ifC o b [] false) 0 0 := by
  have e : ifC o b [] false = joinC o (⟨12, b.length + 1⟩ :: (shiftC 1 b ++ [])) := by
    unfold ifC
    rw [if_neg (by decide), joinC_nil', joinC_shift _ _ _ _ rfl]
    congr 2
    · congr 1; dsimp only; omega
    · simp [shiftC]
  rw [e]
  refine ho.join (typed_over (r := []) (fr := fun _ => 0) hb jb (by simp) rfl rfl rfl (fun k hk => absurd hk (by simp))) ?_
  intro i hi hji
  rw [List.append_nil] at hi
  simp only [List.length_cons, List.length_append, shiftC_len, List.length_nil]
  rcases List.mem_cons.1 hi with rfl | hi
  · show 0 ≤ (b.length : Int) + 1 ∧ (b.length : Int) + 1 ≤ _
    omega
  · exact jOk_shift (k := 1) jb (by omega) i hi hji
theorem typed_else {o b e : Code1} (ho : Typed o 0 1) (hb : Typed b 0 0) (jb : jOk b) (he : Typed e 0 0) (je : jOk e) : Typed (ifC o b e true) 0 0 := by
  have eq : ifC o b e true = joinC o (⟨12, b.length + 2⟩ :: (shiftC 1 b ++ (⟨11, b.length + 2 + e.length⟩ :: shiftC (b.length + 2) e))) := by
    unfold ifC
    rw [if_pos rfl, joinC_shift _ _ _ _ rfl]
    conv => lhs; rw [joinC]
    have hl : ((o ++ ((⟨12, (o.length : Int) + 1 + b.length + 1⟩ : InsS) :: (shiftC (o.length + 1) b ++ [(⟨11, (o.length : Int) + 1 + b.length + 1 + e.length⟩ : InsS)]))).length : Int) = o.length + b.length + 2 := by simp [shiftC_len]; omega
    rw [hl, List.append_assoc, List.cons_append, List.append_assoc]
    congr 2
    · congr 1; dsimp only; omega
    · congr 1
      show (⟨11, _⟩ : InsS) :: shiftC _ e = shiftI _ (⟨11, _⟩ : InsS) :: shiftC o.length (shiftC (b.length + 2) e)
      rw [jump_shift rfl, shift_shift (b.length + 2) o.length (o.length + b.length + 2) (by omega)]
      congr 2
      dsimp only; omega
  rw [eq]
  obtain ⟨g, g0, g1, hg⟩ := he
  refine ho.join (typed_jump (i := ⟨12, b.length + 2⟩) (r := ⟨11, b.length + 2 + e.length⟩ :: shiftC (b.length + 2) e) (D := 1) (M := 0) (N := 0) (fr := fun k => if k = 0 then 0 else g (k - 1)) (E := 0) (fit_of (t := 1) (a := 0) rfl rfl (by omega) (by omega)) rfl hb jb ?_ rfl ?_ ?_) ?_
  · intro to ht
    have h' : to ∈ [0 + 1, ((b.length : Int) + 2).toNat] := ht
    rw [show ((b.length : Int) + 2).toNat = b.length + 2 from by omega] at h'
    simp at h'
    rcases h' with rfl | rfl
    · exact .inl rfl
    · refine .inr ⟨by omega, by simp [shiftC_len] <;> omega, ?_⟩
      rw [show b.length + 2 - (b.length + 1) = 1 from by omega]
      exact g0
  · show (if (shiftC (b.length + 2) e).length + 1 = 0 then (0 : Int) else g ((shiftC (b.length + 2) e).length + 1 - 1)) = 0
    rw [if_neg (by omega), Nat.add_sub_cancel, shiftC_len, g1]
  · intro k hk
    cases k with
    | zero =>
      refine ⟨fit_of (t := 0) (a := 0) rfl rfl (by show (0 : Int) ≤ 0; omega) (by show (0 : Int) - 0 + 0 ≤ 64; omega), fun to ht => .inr ?_⟩
      have h' : to ∈ [((b.length : Int) + 2 + e.length).toNat] := ht
      rw [show ((b.length : Int) + 2 + e.length).toNat = b.length + 2 + e.length from by omega] at h'
      simp at h'
      subst h'
      refine ⟨by omega, by simp [shiftC_len]; omega, ?_⟩
      rw [if_neg (by omega), show b.length + 2 + e.length - (b.length + 1) - 1 = e.length from by omega, g1]
      rfl
    | succ j =>
      have hj : j < e.length := by simpa [shiftC_len] using hk
      have e1 : ((⟨11, b.length + 2 + e.length⟩ : InsS) :: shiftC (b.length + 2) e)[j + 1]'hk = shiftI ((b.length + 2 : Nat) : Int) e[j] := by
        rw [List.getElem_cons_succ, shiftC_get]; rfl
      rw [e1, if_neg (by omega), Nat.add_sub_cancel]
      obtain ⟨p, q⟩ := hg j hj
      refine ⟨(fit_shift _ _ _).2 p, fun to ht => .inr ?_⟩
      rw [show j + 1 + (b.length + 1) = j + (b.length + 2) from by omega, nexts_shift _ _ _ (fun h => (je _ (List.getElem_mem hj) h).1)] at ht
      obtain ⟨t, ht1, rfl⟩ := List.mem_map.1 ht
      obtain ⟨q1, q2⟩ := q t ht1
      refine ⟨by omega, by simp [shiftC_len]; omega, ?_⟩
      rw [if_neg (by omega), show t + (b.length + 2) - (b.length + 1) - 1 = t from by omega, behind_shift]
      exact q2
  · intro i hi hji
    simp only [List.length_cons, List.length_append, shiftC_len]
    rcases List.mem_cons.1 hi with rfl | hi
    · show 0 ≤ (b.length : Int) + 2 ∧ (b.length : Int) + 2 ≤ _
      omega
    · rcases List.mem_append.1 hi with hi | hi
      · exact jOk_shift (k := 1) jb (by omega) i hi hji
      · rcases List.mem_cons.1 hi with rfl | hi
        · show 0 ≤ (b.length : Int) + 2 + e.length ∧ (b.length : Int) + 2 + e.length ≤ _
          omega
        · exact jOk_shift (k := b.length + 2) je (by omega) i hi hji
theorem typed_while {o b : Code1} (ho : Typed o 0 1) (hb : Typed b 0 0) (jb : jOk b) : Typed (whileC o b) 0 0 := by
  obtain ⟨f, f0, f1, hf⟩ := ho
  obtain ⟨g, g0, g1, hg⟩ := hb
  have hlen := whileC_len o b
  unfold whileC at hlen ⊢
  refine ⟨fun k => if k ≤ o.length then f k else if k ≤ o.length + 1 + b.length then g (k - (o.length + 1)) else 0, by simp [f0], ?_, fun k hk => ?_⟩
  · rw [hlen]; dsimp only; rw [if_neg (by omega), if_neg (by omega)]
  · have hat : ∀ t, t ≤ b.length → (if t + (o.length + 1) ≤ o.length then f (t + (o.length + 1)) else if t + (o.length + 1) ≤ o.length + 1 + b.length then g (t + (o.length + 1) - (o.length + 1)) else 0) = g t := fun t ht => by
      rw [if_neg (by omega), if_pos (by omega), Nat.add_sub_cancel]
    by_cases h1 : k < o.length
    · have e : (o ++ (⟨12, (o.length : Int) + 1 + b.length + 1⟩ :: (shiftC (o.length + 1) b ++ [⟨11, 0⟩])))[k]'hk = o[k] := by rw [List.getElem_append_left h1]
      rw [e]
      dsimp only
      rw [if_pos (by omega)]
      obtain ⟨p, q⟩ := hf k h1
      refine ⟨p, fun to ht => ?_⟩
      obtain ⟨q1, q2⟩ := q to ht
      exact ⟨by omega, by rw [if_pos q1]; exact q2⟩
    · by_cases h2 : k = o.length
      · subst h2
        have e : (o ++ (⟨12, (o.length : Int) + 1 + b.length + 1⟩ :: (shiftC (o.length + 1) b ++ [⟨11, 0⟩])))[o.length]'hk = ⟨12, (o.length : Int) + 1 + b.length + 1⟩ := by rw [List.getElem_append_right (by omega)]; simp
        rw [e]
        dsimp only
        rw [if_pos (by omega), f1]
        refine ⟨fit_of (t := 1) (a := 0) rfl rfl (by omega) (by omega), fun to ht => ?_⟩
        have h' : to ∈ [o.length + 1, ((o.length : Int) + 1 + b.length + 1).toNat] := ht
        rw [show ((o.length : Int) + 1 + b.length + 1).toNat = o.length + 1 + b.length + 1 from by omega] at h'
        simp at h'
        rcases h' with rfl | rfl
        · refine ⟨by omega, ?_⟩
          have := hat 0 (by omega)
          rw [Nat.zero_add] at this
          rw [this, g0]; rfl
        · refine ⟨by omega, ?_⟩
          rw [if_neg (by omega), if_neg (by omega)]; rfl
      · obtain ⟨j, rfl⟩ : ∃ j, k = j + (o.length + 1) := ⟨k - (o.length + 1), by omega⟩
        by_cases h3 : j < b.length
        · have e : (o ++ (⟨12, (o.length : Int) + 1 + b.length + 1⟩ :: (shiftC (o.length + 1) b ++ [⟨11, 0⟩])))[j + (o.length + 1)]'hk = shiftI ((o.length + 1 : Nat) : Int) b[j] := by
            rw [List.getElem_append_right (by omega)]
            simp only [show j + (o.length + 1) - o.length = j + 1 from by omega]
            rw [List.getElem_cons_succ, List.getElem_append_left (by rw [shiftC_len]; exact h3), shiftC_get]
            rfl
          rw [e]
          dsimp only
          rw [hat j (by omega)]
          obtain ⟨p, q⟩ := hg j h3
          refine ⟨(fit_shift _ _ _).2 p, fun to ht => ?_⟩
          rw [nexts_shift _ _ _ (fun h => (jb _ (List.getElem_mem h3) h).1)] at ht
          obtain ⟨t, ht1, rfl⟩ := List.mem_map.1 ht
          obtain ⟨q1, q2⟩ := q t ht1
          exact ⟨by omega, by rw [hat t q1, behind_shift]; exact q2⟩
        · obtain rfl : j = b.length := by omega
          have e : (o ++ (⟨12, (o.length : Int) + 1 + b.length + 1⟩ :: (shiftC (o.length + 1) b ++ [⟨11, 0⟩])))[b.length + (o.length + 1)]'hk = ⟨11, 0⟩ := by
            rw [List.getElem_append_right (by omega)]
            simp only [show b.length + (o.length + 1) - o.length = b.length + 1 from by omega]
            rw [List.getElem_cons_succ, List.getElem_append_right (by rw [shiftC_len]; omega)]
            simp [shiftC_len]
          rw [e]
          dsimp only
          rw [hat b.length (by omega), g1]
          refine ⟨fit_of (t := 0) (a := 0) rfl rfl (by omega) (by omega), fun to ht => ?_⟩
          have h' : to ∈ [0] := ht
          simp at h'
          subst h'
          exact ⟨by omega, by rw [if_pos (by omega), f0]; rfl⟩
end Go.Proofs.Ytdeneckmoejcfaa
namespace Go.Proofs.Ytdeneckmoejcfaa

theorem Typed.last {c : Code1} {D M E : Int} (h : Typed c D M) {i : InsS} {t a : Int} (ht : takesI i = t) (ha : addsI i = a) (hn : nextsI 0 i = [1]) (h1 : t ≤ M) (h2 : M - t + a ≤ 64) (hE : E = M - t + a) (hj : jumpB i = false) : Typed (joinC c [i]) D E :=
  h.join (Typed.plain ht ha hn h1 h2 hE) (jOk_one hj)
theorem do_takes (op : Int) : takesI ⟨9, op⟩ = if 10 ≤ op then 2 else 1 := rfl
theorem typedEs (d : Nat) (ns : Names) (ih : ∀ (x : Ex) (c : Code1), fineS d x = true → codeE ns x = .ok c → ∀ D : Int, 0 ≤ D → D + d ≤ 64 → Typed c D (D + 1)) :
    ∀ (xs : List Ex) (cs : List Code1), (∀ x ∈ xs, fineS d x = true) → codeEs ns xs = .ok cs → ∀ D : Int, 0 ≤ D → D + d + xs.length ≤ 65 → Typed (joinAll cs) D (D + xs.length) := by
  intro xs
  induction xs with
  | nil =>
    intro cs _ h D _ _
    rw [codeEs] at h
    cases h
    simp only [List.length_nil, Int.natCast_zero, Int.add_zero]
    exact Typed.nil D
  | cons x r ihr =>
    intro cs hf h D hD hd
    rw [codeEs] at h
    obtain ⟨c, h1, h2⟩ := CR.andThen_ok h
    obtain ⟨cs', h3, h4⟩ := CR.andThen_ok h2
    cases h4
    rw [joinAll_cons]
    simp only [List.length_cons] at hd ⊢
    have a := ih x c (hf x (by simp)) h1 D hD (by omega)
    have b := ihr cs' (fun y hy => hf y (by simp [hy])) h3 (D + 1) (by omega) (by omega)
    rw [show D + ((r.length + 1 : Nat) : Int) = D + 1 + r.length from by omega]
    exact a.join b (joinAll_ok (codeEs_ok ns r cs' h3).1).1
theorem typedE : ∀ (d : Nat) (ns : Names) (x : Ex) (c : Code1), fineS d x = true → codeE ns x = .ok c → ∀ D : Int, 0 ≤ D → D + d ≤ 64 → Typed c D (D + 1) := by
  intro d
  induction d with
  | zero => intro ns x c h; cases h
  | succ d ih =>
    intro ns x c h hc D hD hd
    obtain ⟨op, n, name, args⟩ := x
    rw [fineS, Bool.and_eq_true, List.all_eq_true] at h
    obtain ⟨hh, hall⟩ := h
    have hl : args.length = manyS op ∧ 1 ≤ op ∧ op ≤ 24 := by
      unfold headE at hh
      rw [Bool.and_eq_true, Bool.and_eq_true, decide_eq_true_eq, decide_eq_true_eq] at hh
      exact ⟨hh.2.1, hh.1⟩
    by_cases h1 : op = 1
    · subst h1
      rw [codeE, if_pos rfl] at hc
      cases hc
      exact Typed.plain (t := 0) (a := 1) rfl rfl rfl (by omega) (by omega) (by omega)
    by_cases h2 : op = 2
    · subst h2
      rw [codeE, if_neg h1, if_pos rfl] at hc
      split at hc
      · cases hc
      · cases hc
        exact Typed.plain (t := 0) (a := 1) rfl rfl rfl (by omega) (by omega) (by omega)
    by_cases h4 : op = 4
    · subst h4
      rw [codeE, if_neg h1, if_neg h2, if_pos rfl] at hc
      cases hc
      exact Typed.plain (t := 0) (a := 1) rfl rfl rfl (by omega) (by omega) (by omega)
    by_cases h5 : op = 5
    · subst h5
      rw [codeE, if_neg h1, if_neg h2, if_neg h4, if_pos rfl] at hc
      cases hc
      exact Typed.plain (t := 0) (a := 1) rfl rfl rfl (by omega) (by omega) (by omega)
    by_cases h21 : op = 21 ∨ op = 22
    · have hm : manyS op = 2 := by unfold manyS; rw [if_neg (by omega)]
      match args, hl.1, hall, hc with
      | [a, b], _, hall, hc =>
        rw [codeE_two _ _ _ _ _ _ h21] at hc
        obtain ⟨ca, e1, h3⟩ := CR.andThen_ok hc
        obtain ⟨cb, e2, h6⟩ := CR.andThen_ok h3
        cases h6
        exact typed_lazy h21 hD (by omega) (ih ns a ca (hall a (by simp)) e1 D hD (by omega)) (ih ns b cb (hall b (by simp)) e2 D hD (by omega)) (codeE_ok ns b cb e2).1
      | [], e, _, _ => rw [hm] at e; cases e
      | [_], e, _, _ => rw [hm] at e; cases e
      | _ :: _ :: _ :: _, e, _, _ => rw [hm] at e; simp at e
    have hmany : args.length = 1 ∧ op < 10 ∨ (args.length = 2 ∧ 10 ≤ op ∧ op ≠ 21 ∧ op ≠ 22 ∧ op ≠ 3 ∧ op ≠ 6) := by
      rw [hl.1]
      unfold manyS
      by_cases h10 : op < 10
      · rw [if_pos h10, if_neg (by omega)]; exact .inl ⟨rfl, h10⟩
      · rw [if_neg h10]; exact .inr ⟨rfl, by omega⟩
    rw [codeE_fin ns op n name args ⟨h1, h2, h4, h5⟩ (by omega)] at hc
    obtain ⟨cs, e1, h3⟩ := CR.andThen_ok hc
    cases h3
    have hs := typedEs d ns (ih ns) args cs hall e1 D hD (by omega)
    rcases hmany with ⟨hm, h10⟩ | ⟨hm, h10, -, -, h3, h6⟩
    · rw [hm] at hs
      by_cases h3 : op = 3
      · rw [if_pos h3]; exact hs.last (t := 1) (a := 1) rfl rfl rfl (by omega) (by omega) (by omega) rfl
      · rw [if_neg h3]
        by_cases h6 : op = 6
        · rw [if_pos h6]; exact hs.last (t := 1) (a := 1) rfl rfl rfl (by omega) (by omega) (by omega) rfl
        · rw [if_neg h6]; exact hs.last (t := 1) (a := 1) (by rw [do_takes, if_neg (by omega)]) rfl rfl (by omega) (by omega) (by omega) rfl
    · rw [hm] at hs
      rw [if_neg h3, if_neg h6]
      exact hs.last (t := 2) (a := 1) (by rw [do_takes, if_pos h10]) rfl rfl (by omega) (by omega) (by omega) rfl
theorem typedT (d : Nat) (ih : ∀ (ns : Names) (l : List St) (r : Code1 × Nat), rightS d l = true → codeL ns l = .ok r → Typed r.1 0 0) (ns : Names) (op n : Int) (name : List UInt8) (es : List Ex) (body els : List St) (r : Code1 × Nat) (h : right1 d (.mk op n name es body els) = true) (hc : codeT ns (.mk op n name es body els) = .ok r) : Typed r.1 0 0 := by
  unfold right1 at h
  simp only [Bool.and_eq_true] at h
  obtain ⟨⟨hb, hl⟩, hh, hes⟩ := h
  obtain ⟨hop, hle, hlb, hll⟩ := headT_parts hh
  rw [codeT] at hc
  obtain ⟨cs, e1, h2⟩ := CR.andThen_ok hc
  have hs : es.length ≤ 2 → Typed (joinAll cs) 0 es.length := fun hl2 => by
    have := typedEs 40 ns (typedE 40 ns) es cs (List.all_eq_true.1 hes) e1 0 (by omega) (by omega)
    rw [Int.zero_add] at this; exact this
  have h7 : op = 1 ∨ op = 2 ∨ op = 3 ∨ op = 4 ∨ op = 5 ∨ op = 6 ∨ op = 7 := by omega
  rcases h7 with rfl | rfl | rfl | rfl | rfl | rfl | rfl
  · have hs1 := hs (by rw [hle]; decide)
    rw [hle] at hs1
    rw [if_pos rfl] at h2
    split at h2
    · cases h2
    · split at h2
      · cases h2
      · cases h2; exact Typed.last hs1 (t := 1) (a := 0) rfl rfl rfl (by decide) (by decide) (by decide) rfl
  · have hs1 := hs (by rw [hle]; decide)
    rw [hle] at hs1
    rw [if_neg (by decide), if_pos rfl] at h2
    split at h2
    · cases h2
    · cases h2; exact Typed.last hs1 (t := 1) (a := 0) rfl rfl rfl (by decide) (by decide) (by decide) rfl
  · have hs1 := hs (by rw [hle]; decide)
    rw [hle] at hs1
    rw [if_neg (by decide), if_neg (by decide), if_pos rfl] at h2
    cases h2; exact Typed.last hs1 (t := 2) (a := 0) rfl rfl rfl (by decide) (by decide) (by decide) rfl
  · have hs1 := hs (by rw [hle]; decide)
    rw [hle] at hs1
    rw [if_neg (by decide), if_neg (by decide), if_neg (by decide), if_neg (by decide), if_neg (by decide)] at h2
    obtain ⟨b, e2, h3⟩ := CR.andThen_ok h2
    rw [if_neg (by decide)] at h3
    obtain ⟨o, e3, h4⟩ := CR.andThen_ok h3
    cases h4
    have tb := ih ns body b hb e2
    have jb := (codeL_ok ns body b e2).1
    by_cases hel : els = []
    · have ho : o.1 = [] := by rw [hel, codeL] at e3; cases e3; rfl
      show Typed (ifC (joinAll cs) b.1 o.1 (decide (els ≠ []))) 0 0
      rw [ho, show decide (els ≠ []) = false from by simp [hel]]
      exact typed_if hs1 tb jb
    · show Typed (ifC (joinAll cs) b.1 o.1 (decide (els ≠ []))) 0 0
      rw [decide_eq_true hel]
      exact typed_else hs1 tb jb (ih ns els o hl e3) (codeL_ok ns els o e3).1
  · have hs1 := hs (by rw [hle]; decide)
    rw [hle] at hs1
    rw [if_neg (by decide), if_neg (by decide), if_neg (by decide), if_neg (by decide), if_neg (by decide)] at h2
    obtain ⟨b, e2, h3⟩ := CR.andThen_ok h2
    rw [if_pos rfl] at h3
    cases h3
    exact typed_while hs1 (ih ns body b hb e2) (codeL_ok ns body b e2).1
  · rw [if_neg (by decide), if_neg (by decide), if_neg (by decide), if_pos rfl] at h2
    cases h2
    exact Typed.halt (fit_of (t := 0) (a := 0) rfl rfl (by decide) (by decide)) rfl
  · rw [if_neg (by decide), if_neg (by decide), if_neg (by decide), if_neg (by decide), if_pos rfl] at h2
    cases h2
    exact Typed.halt (fit_of (t := 0) (a := 0) rfl rfl (by decide) (by decide)) rfl
theorem typedL : ∀ (d : Nat) (ns : Names) (l : List St) (r : Code1 × Nat), rightS d l = true → codeL ns l = .ok r → Typed r.1 0 0 := by
  intro d
  induction d with
  | zero =>
    intro ns l r h hc
    have : l = [] := by
      cases l with
      | nil => rfl
      | cons x r => cases h
    subst this
    rw [codeL] at hc
    cases hc
    exact Typed.nil 0
  | succ d ih =>
    intro ns l
    induction l generalizing ns with
    | nil => intro r _ hc; rw [codeL] at hc; cases hc; exact Typed.nil 0
    | cons x l ihl =>
      intro r h hc
      rw [rightS_succ, List.all_cons, Bool.and_eq_true] at h
      obtain ⟨op, n, name, es, body, els⟩ := x
      rw [codeL] at hc
      obtain ⟨c, e1, h2⟩ := CR.andThen_ok hc
      obtain ⟨c', e2, h4⟩ := CR.andThen_ok h2
      cases h4
      exact (typedT d ih ns op n name es body els c h.1 e1).join (ihl _ c' (by rw [rightS_succ]; exact h.2) e2) (codeL_ok _ _ _ e2).1
end Go.Proofs.Ytdeneckmoejcfaa
namespace Go.Proofs.Ytdeneckmoejcfaa

def RightC (c : Code1) (L : Int) : Prop := ∀ i ∈ c, jumpB i = false → ∀ n, rightI n L i
theorem RightC.app {a b : Code1} {L : Int} (ha : RightC a L) (hb : RightC b L) : RightC (a ++ b) L := fun i hi => by
  rcases List.mem_append.1 hi with h | h
  · exact ha i h
  · exact hb i h
theorem RightC.shift {c : Code1} {L : Int} (h : RightC c L) (m : Int) : RightC (shiftC m c) L := by
  intro i hi hj
  unfold shiftC at hi
  obtain ⟨x, hx, rfl⟩ := List.mem_map.1 hi
  rw [jumpB_shift] at hj
  rw [jump_not hj]
  exact h x hx hj
theorem RightC.join {a b : Code1} {L : Int} (ha : RightC a L) (hb : RightC b L) : RightC (joinC a b) L := ha.app (hb.shift _)
theorem RightC.one {i : InsS} {L : Int} (h : jumpB i = false → ∀ n, rightI n L i) : RightC [i] L := fun x hx hj => by
  rw [List.mem_singleton] at hx
  subst hx
  exact h hj
theorem RightC.cons {i : InsS} {c : Code1} {L : Int} (h : jumpB i = false → ∀ n, rightI n L i) (hc : RightC c L) : RightC (i :: c) L := (RightC.one h).app hc
theorem RightC.nil (L : Int) : RightC [] L := fun i hi => by simp at hi
theorem RightC.lazy {a b : Code1} {op L : Int} (hop : op = 21 ∨ op = 22) (ha : RightC a L) (hb : RightC b L) : RightC (lazyC a b op) L := by
  unfold lazyC
  refine ha.join (RightC.cons (fun hj => ?_) ((hb.shift 1).app (RightC.cons (fun _ n => ?_) (RightC.cons (fun hj => by cases hj) (RightC.one fun _ n => ?_)))))
  · rcases hop with rfl | rfl <;> cases hj
  · exact ⟨by simp, rfl⟩
  · exact trivial
theorem RightC.while {o b : Code1} {L : Int} (ho : RightC o L) (hb : RightC b L) : RightC (whileC o b) L :=
  ho.app (RightC.cons (fun hj => by cases hj) ((hb.shift _).app (RightC.one fun hj => by cases hj)))
theorem RightC.if {o b e : Code1} {el : Bool} {L : Int} (ho : RightC o L) (hb : RightC b L) (he : RightC e L) : RightC (ifC o b e el) L := by
  unfold ifC
  split
  · exact (ho.app (RightC.cons (fun hj => by cases hj) ((hb.shift _).app (RightC.one fun hj => by cases hj)))).join he
  · exact (ho.app (RightC.cons (fun hj => by cases hj) (hb.shift _))).join he
theorem RightC.all {cs : List Code1} {L : Int} (h : ∀ c ∈ cs, RightC c L) : RightC (joinAll cs) L := by
  induction cs with
  | nil => exact RightC.nil L
  | cons c r ih => rw [joinAll_cons]; exact (h c (by simp)).join (ih fun x hx => h x (by simp [hx]))
theorem place_len (s : List UInt8) : ∀ (l : Names) (k : Nat), placeS s l k ≤ k + l.length := by
  intro l
  induction l with
  | nil => intro k; simp [placeS]
  | cons x l ih =>
    intro k
    unfold placeS
    split
    · simp
    · have := ih (k + 1)
      simp only [List.length_cons]
      omega
theorem right_slot {op : Int} (hop : op = 2 ∨ op = 3) {a L : Int} (h0 : 0 ≤ a) (h1 : a < L) (n : Int) : rightI n L ⟨op, a⟩ := by
  unfold rightI
  rw [if_neg (by show ¬ op = 1; omega), if_pos hop]
  exact ⟨h0, h1⟩
theorem right_comp {op : Int} (hop : op = 4 ∨ op = 5) {a L : Int} (h : 1 ≤ a ∧ a ≤ 10) (n : Int) : rightI n L ⟨op, a⟩ := by
  unfold rightI
  rw [if_neg (by show ¬ op = 1; omega), if_neg (by show ¬ (op = 2 ∨ op = 3); omega), if_pos hop]
  exact h
theorem rightEs (L : Int) (ns : Names) (p : Ex → Bool) (ih : ∀ (x : Ex) (c : Code1), p x = true → codeE ns x = .ok c → RightC c L) : ∀ (xs : List Ex) (cs : List Code1), (∀ x ∈ xs, p x = true) → codeEs ns xs = .ok cs → ∀ c ∈ cs, RightC c L := by
  intro xs
  induction xs with
  | nil => intro cs _ h; rw [codeEs] at h; cases h; simp
  | cons x r ihr =>
    intro cs hf h
    rw [codeEs] at h
    obtain ⟨c, h1, h2⟩ := CR.andThen_ok h
    obtain ⟨cs', h3, h4⟩ := CR.andThen_ok h2
    cases h4
    intro y hy
    rcases List.mem_cons.1 hy with rfl | hy
    · exact ih x y (hf x (by simp)) h1
    · exact ihr cs' (fun z hz => hf z (by simp [hz])) h3 y hy
theorem rightE (L : Int) (ns : Names) (hL : (ns.length : Int) ≤ L) : ∀ (d : Nat) (x : Ex) (c : Code1), fineS d x = true → codeE ns x = .ok c → RightC c L := by
  intro d
  induction d with
  | zero => intro x c h; cases h
  | succ d ih =>
    intro x c h hc
    obtain ⟨op, n, name, args⟩ := x
    rw [fineS, Bool.and_eq_true, List.all_eq_true] at h
    obtain ⟨hh, hall⟩ := h
    have hl : args.length = manyS op ∧ 1 ≤ op ∧ op ≤ 24 := by
      unfold headE at hh
      rw [Bool.and_eq_true, Bool.and_eq_true, decide_eq_true_eq, decide_eq_true_eq] at hh
      exact ⟨hh.2.1, hh.1⟩
    by_cases h1 : op = 1
    · subst h1
      rw [codeE, if_pos rfl] at hc
      cases hc
      exact RightC.one fun _ n => trivial
    by_cases h2 : op = 2
    · subst h2
      rw [codeE, if_neg h1, if_pos rfl] at hc
      split at hc
      · cases hc
      · cases hc
        have := place_len name ns 0
        exact RightC.one fun _ n => right_slot (.inl rfl) (by omega) (by omega) n
    by_cases h4 : op = 4
    · subst h4
      rw [codeE, if_neg h1, if_neg h2, if_pos rfl] at hc
      cases hc
      exact RightC.one fun _ n => ⟨by simp, rfl⟩
    by_cases h5 : op = 5
    · subst h5
      rw [codeE, if_neg h1, if_neg h2, if_neg h4, if_pos rfl] at hc
      cases hc
      exact RightC.one fun _ n => ⟨by simp, rfl⟩
    by_cases h21 : op = 21 ∨ op = 22
    · have hm : manyS op = 2 := by unfold manyS; rw [if_neg (by omega)]
      match args, hl.1, hall, hc with
      | [a, b], _, hall, hc =>
        rw [codeE_two _ _ _ _ _ _ h21] at hc
        obtain ⟨ca, e1, h3⟩ := CR.andThen_ok hc
        obtain ⟨cb, e2, h6⟩ := CR.andThen_ok h3
        cases h6
        exact RightC.lazy h21 (ih a ca (hall a (by simp)) e1) (ih b cb (hall b (by simp)) e2)
      | [], e, _, _ => rw [hm] at e; cases e
      | [_], e, _, _ => rw [hm] at e; cases e
      | _ :: _ :: _ :: _, e, _, _ => rw [hm] at e; simp at e
    have hmany : args.length = 1 ∨ (args.length = 2 ∧ op ≠ 21 ∧ op ≠ 22 ∧ op ≠ 3 ∧ op ≠ 6) := by
      rw [hl.1]
      unfold manyS
      by_cases h10 : op < 10
      · rw [if_pos h10, if_neg (by omega)]; exact .inl rfl
      · rw [if_neg h10]; exact .inr ⟨rfl, by omega⟩
    rw [codeE_fin ns op n name args ⟨h1, h2, h4, h5⟩ hmany] at hc
    obtain ⟨cs, e1, h3⟩ := CR.andThen_ok hc
    cases h3
    have hs := RightC.all (rightEs L ns (fineS d) ih args cs hall e1)
    by_cases h3 : op = 3
    · subst h3
      rw [if_pos rfl]
      rw [headE_3, Bool.and_eq_true, Bool.and_eq_true, decide_eq_true_eq, decide_eq_true_eq, decide_eq_true_eq] at hh
      exact hs.join (RightC.one fun _ m => right_comp (.inl rfl) hh.2.2 m)
    · rw [if_neg h3]
      by_cases h6 : op = 6
      · rw [if_pos h6]
        exact hs.join (RightC.one fun _ m => ⟨by simp, rfl⟩)
      · rw [if_neg h6]
        refine hs.join (RightC.one fun _ m => ?_)
        show (7 ≤ op ∧ op ≤ 20) ∨ (23 ≤ op ∧ op ≤ 24)
        omega
/-- what a code's locals are good for: at most 32, and the instructions keep to them -/
def LocOk (ns : Names) (r : Code1 × Nat) : Prop := (ns.length ≤ 32 → r.2 ≤ 32) ∧ ∀ L : Int, (r.2 : Int) ≤ L → (ns.length : Int) ≤ L → RightC r.1 L
theorem locT (d : Nat) (ih : ∀ (ns : Names) (l : List St) (r : Code1 × Nat), rightS d l = true → codeL ns l = .ok r → LocOk ns r) (ns : Names) (op n : Int) (name : List UInt8) (es : List Ex) (body els : List St) (r : Code1 × Nat) (h : right1 d (.mk op n name es body els) = true) (hc : codeT ns (.mk op n name es body els) = .ok r) :
    (ns.length ≤ 32 → r.2 ≤ 32) ∧ (op = 1 → ns.length < 32) ∧ ∀ L : Int, (r.2 : Int) ≤ L → ((ns.length + if op = 1 then 1 else 0 : Nat) : Int) ≤ L → RightC r.1 L := by
  unfold right1 at h
  simp only [Bool.and_eq_true] at h
  obtain ⟨⟨hb, hl⟩, hh, hes⟩ := h
  obtain ⟨hop, hle, hlb, hll⟩ := headT_parts hh
  rw [codeT] at hc
  obtain ⟨cs, e1, h2⟩ := CR.andThen_ok hc
  have hs : ∀ L : Int, (ns.length : Int) ≤ L → RightC (joinAll cs) L := fun L hL => RightC.all (rightEs L ns (fineS 40) (rightE L ns hL 40) es cs (List.all_eq_true.1 hes) e1)
  have h7 : op = 1 ∨ op = 2 ∨ op = 3 ∨ op = 4 ∨ op = 5 ∨ op = 6 ∨ op = 7 := by omega
  rcases h7 with rfl | rfl | rfl | rfl | rfl | rfl | rfl
  · rw [if_pos rfl] at h2
    split at h2
    · cases h2
    · split at h2
      · cases h2
      · cases h2
        refine ⟨fun _ => by simp, fun _ => by omega, fun L _ hL => ?_⟩
        rw [if_pos rfl] at hL
        exact (hs L (by omega)).join (RightC.one fun _ m => right_slot (.inr rfl) (by omega) (by omega) m)
  · rw [if_neg (by decide), if_pos rfl] at h2
    split at h2
    · cases h2
    · cases h2
      refine ⟨fun _ => by simp, fun e => by omega, fun L _ hL => ?_⟩
      rw [if_neg (by decide), Nat.add_zero] at hL
      have := place_len name ns 0
      exact (hs L hL).join (RightC.one fun _ m => right_slot (.inr rfl) (by omega) (by omega) m)
  · rw [if_neg (by decide), if_neg (by decide), if_pos rfl] at h2
    cases h2
    rw [headT_20100 _ _ _ _ _ _ rfl] at hh
    simp only [Bool.and_eq_true, decide_eq_true_eq] at hh
    refine ⟨fun _ => by simp, fun e => by omega, fun L _ hL => ?_⟩
    rw [if_neg (by decide), Nat.add_zero] at hL
    exact (hs L hL).join (RightC.one fun _ m => right_comp (.inr rfl) hh.2.2.1 m)
  · rw [if_neg (by decide), if_neg (by decide), if_neg (by decide), if_neg (by decide), if_neg (by decide)] at h2
    obtain ⟨b, e2, h3⟩ := CR.andThen_ok h2
    rw [if_neg (by decide)] at h3
    obtain ⟨o, e3, h4⟩ := CR.andThen_ok h3
    cases h4
    obtain ⟨b1, b2⟩ := ih ns body b hb e2
    obtain ⟨o1, o2⟩ := ih ns els o hl e3
    refine ⟨fun h => by have := b1 h; have := o1 h; show max b.2 o.2 ≤ 32; omega, fun e => by omega, fun L hm hL => ?_⟩
    rw [if_neg (by decide), Nat.add_zero] at hL
    have hm' : ((max b.2 o.2 : Nat) : Int) ≤ L := hm
    exact RightC.if (hs L hL) (b2 L (by omega) hL) (o2 L (by omega) hL)
  · rw [if_neg (by decide), if_neg (by decide), if_neg (by decide), if_neg (by decide), if_neg (by decide)] at h2
    obtain ⟨b, e2, h3⟩ := CR.andThen_ok h2
    rw [if_pos rfl] at h3
    cases h3
    obtain ⟨b1, b2⟩ := ih ns body b hb e2
    refine ⟨b1, fun e => by omega, fun L hm hL => ?_⟩
    rw [if_neg (by decide), Nat.add_zero] at hL
    exact RightC.while (hs L hL) (b2 L hm hL)
  · rw [if_neg (by decide), if_neg (by decide), if_neg (by decide), if_pos rfl] at h2
    cases h2
    exact ⟨fun _ => by simp, fun e => by omega, fun L _ hL => RightC.one fun _ m => ⟨by simp, rfl⟩⟩
  · rw [if_neg (by decide), if_neg (by decide), if_neg (by decide), if_neg (by decide), if_pos rfl] at h2
    cases h2
    exact ⟨fun _ => by simp, fun e => by omega, fun L _ hL => RightC.one fun _ m => ⟨by simp, rfl⟩⟩
theorem locL : ∀ (d : Nat) (ns : Names) (l : List St) (r : Code1 × Nat), rightS d l = true → codeL ns l = .ok r → LocOk ns r := by
  intro d
  induction d with
  | zero =>
    intro ns l r h hc
    have : l = [] := by
      cases l with
      | nil => rfl
      | cons x r => cases h
    subst this
    rw [codeL] at hc
    cases hc
    exact ⟨id, fun L _ _ => RightC.nil L⟩
  | succ d ih =>
    intro ns l
    induction l generalizing ns with
    | nil => intro r _ hc; rw [codeL] at hc; cases hc; exact ⟨id, fun L _ _ => RightC.nil L⟩
    | cons x l ihl =>
      intro r h hc
      rw [rightS_succ, List.all_cons, Bool.and_eq_true] at h
      obtain ⟨op, n, name, es, body, els⟩ := x
      rw [codeL] at hc
      obtain ⟨c, e1, h2⟩ := CR.andThen_ok hc
      obtain ⟨c', e2, h4⟩ := CR.andThen_ok h2
      cases h4
      obtain ⟨t1, t2, t3⟩ := locT d ih ns op n name es body els c h.1 e1
      obtain ⟨l1, l2⟩ := ihl _ c' (by rw [rightS_succ]; exact h.2) e2
      have hg := codeL_geq _ _ _ e2
      have hlen : (if op = 1 then ns ++ [name] else ns).length = ns.length + if op = 1 then 1 else 0 := by split <;> simp
      rw [hlen] at hg l1
      refine ⟨fun h32 => ?_, fun L hm hL => ?_⟩
      · have a := t1 h32
        have b : c'.2 ≤ 32 := l1 (by
          by_cases e : op = 1
          · rw [if_pos e]; have := t2 e; omega
          · rw [if_neg e]; omega)
        show max c.2 c'.2 ≤ 32
        omega
      · have hm' : ((max c.2 c'.2 : Nat) : Int) ≤ L := hm
        exact (t3 L (by omega) (by omega)).join (l2 L (by omega) (by rw [hlen]; omega))
theorem comp_sound {l : List St} {p : ProgS} (h : compS l = .ok p) : SoundP p := by
  unfold compS at h
  split at h
  · rename_i hr
    obtain ⟨r, h1, h2⟩ := CR.andThen_ok h
    split at h2
    · cases h2
    · cases h2
      obtain ⟨l1, l2⟩ := locL 40 [] l r hr h1
      have hj := (codeL_ok [] l r h1).1
      have hl := l1 (by simp)
      refine ⟨⟨by show r.1.length ≤ 4000; omega, ⟨by show (0 : Int) ≤ (r.2 : Int); omega, by show (r.2 : Int) ≤ 32; omega⟩, fun i hi => ?_, rfl, rfl⟩, (typedL 40 [] l r hr h1).flow⟩
      by_cases hjb : jumpB i = true
      · have ha := hj i hi hjb
        unfold jumpB at hjb
        rw [decide_eq_true_eq] at hjb
        unfold rightI
        rw [if_neg (by omega), if_neg (by omega), if_neg (by omega), if_neg (by omega), if_pos hjb]
        exact ha
      · exact l2 (r.2 : Int) (Int.le_refl _) (by simp) i hi (by simpa using hjb) _
  · cases h
end Go.Proofs.Ytdeneckmoejcfaa
namespace Go.Proofs.Ytdeneckmoejcfaa

structure Cnt (c : Code1) (n : Nat) (r w : BitVec 32) : Prop where
  len : c.length = n
  reads : maskC 4 c = r
  writes : maskC 5 c = w
theorem Cnt.of {c : Code1} {n n' : Nat} {r r' w w' : BitVec 32} (h : Cnt c n r w) (h1 : n = n') (h2 : r = r') (h3 : w = w') : Cnt c n' r' w' := by subst h1; subst h2; subst h3; exact h
theorem Cnt.nil : Cnt [] 0 0 0 := ⟨rfl, rfl, rfl⟩
theorem Cnt.join {a b : Code1} {n m : Nat} {r r' w w' : BitVec 32} (h : Cnt a n r w) (g : Cnt b m r' w') : Cnt (joinC a b) (n + m) (r ||| r') (w ||| w') :=
  ⟨by rw [joinC_len, h.len, g.len], by rw [maskC_join 4 (.inl rfl), h.reads, g.reads], by rw [maskC_join 5 (.inr rfl), h.writes, g.writes]⟩
theorem Cnt.app {a b : Code1} {n m : Nat} {r r' w w' : BitVec 32} (h : Cnt a n r w) (g : Cnt b m r' w') : Cnt (a ++ b) (n + m) (r ||| r') (w ||| w') :=
  ⟨by rw [List.length_append, h.len, g.len], by rw [maskC_app, h.reads, g.reads], by rw [maskC_app, h.writes, g.writes]⟩
theorem Cnt.shift {a : Code1} {n : Nat} {r w : BitVec 32} (h : Cnt a n r w) (k : Int) : Cnt (shiftC k a) n r w :=
  ⟨by rw [shiftC_len, h.len], by rw [maskC_shift 4 (.inl rfl), h.reads], by rw [maskC_shift 5 (.inr rfl), h.writes]⟩
theorem Cnt.cons {a : Code1} {n : Nat} {r w : BitVec 32} (h : Cnt a n r w) (i : InsS) (h4 : i.op ≠ 4) (h5 : i.op ≠ 5) : Cnt (i :: a) (n + 1) r w := by
  refine ⟨by rw [List.length_cons, h.len], ?_, ?_⟩
  · show maskI 4 i ||| maskC 4 a = _
    rw [maskI, if_neg (by omega), h.reads]; exact BitVec.zero_or
  · show maskI 5 i ||| maskC 5 a = _
    rw [maskI, if_neg (by omega), h.writes]; exact BitVec.zero_or
theorem Cnt.one (i : InsS) (h4 : i.op ≠ 4) (h5 : i.op ≠ 5) : Cnt [i] 1 0 0 := Cnt.nil.cons i h4 h5
theorem Cnt.comp {n : Int} (h : 1 ≤ n ∧ n ≤ 10) : Cnt [⟨4, n⟩] 1 (bit32 n.toNat) 0 := by
  refine ⟨rfl, ?_, ?_⟩
  · show maskI 4 ⟨4, n⟩ ||| 0 = _
    rw [maskI, if_pos ⟨rfl, by show 1 ≤ n; omega, by show n ≤ 31; omega⟩]; exact BitVec.or_zero
  · show maskI 5 ⟨4, n⟩ ||| 0 = _
    rw [maskI, if_neg (by simp)]; exact BitVec.or_zero
theorem Cnt.put {n : Int} (h : 1 ≤ n ∧ n ≤ 10) : Cnt [⟨5, n⟩] 1 0 (bit32 n.toNat) := by
  refine ⟨rfl, ?_, ?_⟩
  · show maskI 4 ⟨5, n⟩ ||| 0 = _
    rw [maskI, if_neg (by simp)]; exact BitVec.or_zero
  · show maskI 5 ⟨5, n⟩ ||| 0 = _
    rw [maskI, if_pos ⟨rfl, by show 1 ≤ n; omega, by show n ≤ 31; omega⟩]; exact BitVec.or_zero
mutual
def cntE : Ex → Nat × BitVec 32
  | .mk op n _ args => ((if op = 21 ∨ op = 22 then 4 else 1) + (cntEs args).1, (if op = 3 then bit32 n.toNat else 0) ||| (cntEs args).2)
def cntEs : List Ex → Nat × BitVec 32
  | [] => (0, 0)
  | x :: r => ((cntE x).1 + (cntEs r).1, (cntE x).2 ||| (cntEs r).2)
end
mutual
def cntS : St → Nat × BitVec 32 × BitVec 32
  | .mk op n _ es body els => (1 + (if op = 5 ∨ op = 4 ∧ 0 < els.length then 1 else 0) + (cntEs es).1 + (cntSs body).1 + (cntSs els).1,
      (cntEs es).2 ||| (cntSs body).2.1 ||| (cntSs els).2.1, (if op = 3 then bit32 n.toNat else 0) ||| (cntSs body).2.2 ||| (cntSs els).2.2)
def cntSs : List St → Nat × BitVec 32 × BitVec 32
  | [] => (0, 0, 0)
  | x :: r => ((cntS x).1 + (cntSs r).1, (cntS x).2.1 ||| (cntSs r).2.1, (cntS x).2.2 ||| (cntSs r).2.2)
end
theorem cntEs_app (xs ys : List Ex) : (cntEs (xs ++ ys)).1 = (cntEs xs).1 + (cntEs ys).1 ∧ (cntEs (xs ++ ys)).2 = (cntEs xs).2 ||| (cntEs ys).2 := by
  induction xs with
  | nil => simp [cntEs]
  | cons x r ih =>
    simp only [List.cons_append, cntEs, ih.1, ih.2]
    exact ⟨by omega, by ac_rfl⟩
theorem cntSs_app (xs ys : List St) : (cntSs (xs ++ ys)).1 = (cntSs xs).1 + (cntSs ys).1 ∧ (cntSs (xs ++ ys)).2.1 = (cntSs xs).2.1 ||| (cntSs ys).2.1 ∧ (cntSs (xs ++ ys)).2.2 = (cntSs xs).2.2 ||| (cntSs ys).2.2 := by
  induction xs with
  | nil => simp [cntSs]
  | cons x r ih =>
    simp only [List.cons_append, cntSs, ih.1, ih.2.1, ih.2.2]
    exact ⟨by omega, by ac_rfl, by ac_rfl⟩
theorem cntEs_take {xs : List Ex} {k : Nat} {x : Ex} (h : xs[k]? = some x) : (cntEs (xs.take (k + 1))).1 = (cntEs (xs.take k)).1 + (cntE x).1 ∧ (cntEs (xs.take (k + 1))).2 = (cntEs (xs.take k)).2 ||| (cntE x).2 := by
  obtain ⟨hlt, rfl⟩ := List.getElem?_eq_some_iff.1 h
  rw [List.take_succ_eq_append_getElem hlt]
  have := cntEs_app (xs.take k) [xs[k]]
  simp only [cntEs, Nat.add_zero] at this
  exact ⟨this.1, by rw [this.2]; congr 1; exact BitVec.or_zero⟩
theorem cntSs_take {xs : List St} {k : Nat} {x : St} (h : xs[k]? = some x) : (cntSs (xs.take (k + 1))).1 = (cntSs (xs.take k)).1 + (cntS x).1 ∧ (cntSs (xs.take (k + 1))).2.1 = (cntSs (xs.take k)).2.1 ||| (cntS x).2.1 ∧ (cntSs (xs.take (k + 1))).2.2 = (cntSs (xs.take k)).2.2 ||| (cntS x).2.2 := by
  obtain ⟨hlt, rfl⟩ := List.getElem?_eq_some_iff.1 h
  rw [List.take_succ_eq_append_getElem hlt]
  have := cntSs_app (xs.take k) [xs[k]]
  simp only [cntSs, Nat.add_zero] at this
  exact ⟨this.1, by rw [this.2.1]; congr 1; exact BitVec.or_zero, by rw [this.2.2]; congr 1; exact BitVec.or_zero⟩
theorem countEs (d : Nat) (ns : Names) (ih : ∀ (x : Ex) (c : Code1), fineS d x = true → codeE ns x = .ok c → Cnt c (cntE x).1 (cntE x).2 0) :
    ∀ (xs : List Ex) (cs : List Code1), (∀ x ∈ xs, fineS d x = true) → codeEs ns xs = .ok cs → Cnt (joinAll cs) (cntEs xs).1 (cntEs xs).2 0 := by
  intro xs
  induction xs with
  | nil =>
    intro cs _ h
    rw [codeEs] at h
    cases h
    exact Cnt.nil
  | cons x r ihr =>
    intro cs hf h
    rw [codeEs] at h
    obtain ⟨c, h1, h2⟩ := CR.andThen_ok h
    obtain ⟨cs', h3, h4⟩ := CR.andThen_ok h2
    cases h4
    rw [joinAll_cons]
    exact ((ih x c (hf x (by simp)) h1).join (ihr cs' (fun y hy => hf y (by simp [hy])) h3)).of rfl rfl (by simp)
theorem count_lazy {a b : Code1} {op : Int} {n m : Nat} {r r' : BitVec 32} (h : Cnt a n r 0) (g : Cnt b m r' 0) (hop : op = 21 ∨ op = 22) : Cnt (lazyC a b op) (4 + (n + m)) (r ||| r') 0 := by
  have h2 : Cnt (⟨12 + op - 21, b.length + 3⟩ :: (shiftC 1 b ++ [⟨10, 0⟩, ⟨11, b.length + 4⟩, ⟨1, op - 21⟩])) _ _ _ :=
    (((g.shift 1).app (((Cnt.one ⟨1, op - 21⟩ (by simp) (by simp)).cons ⟨11, b.length + 4⟩ (by simp) (by simp)).cons ⟨10, 0⟩ (by simp) (by simp))).cons ⟨12 + op - 21, b.length + 3⟩ (by show 12 + op - 21 ≠ 4; omega) (by show 12 + op - 21 ≠ 5; omega))
  exact (h.join h2).of (by omega) (by simp) (by simp)
theorem countE : ∀ (d : Nat) (ns : Names) (x : Ex) (c : Code1), fineS d x = true → codeE ns x = .ok c → Cnt c (cntE x).1 (cntE x).2 0 := by
  intro d
  induction d with
  | zero => intro ns x c h; cases h
  | succ d ih =>
    intro ns x c h hc
    obtain ⟨op, n, name, args⟩ := x
    rw [fineS, Bool.and_eq_true, List.all_eq_true] at h
    obtain ⟨hh, hall⟩ := h
    have hl : args.length = manyS op ∧ 1 ≤ op ∧ op ≤ 24 := by
      unfold headE at hh
      rw [Bool.and_eq_true, Bool.and_eq_true, decide_eq_true_eq, decide_eq_true_eq] at hh
      exact ⟨hh.2.1, hh.1⟩
    have hn3 : op = 3 → 1 ≤ n ∧ n ≤ 10 := by
      rintro rfl
      rw [headE_3, Bool.and_eq_true, Bool.and_eq_true, decide_eq_true_eq, decide_eq_true_eq, decide_eq_true_eq] at hh
      exact hh.2.2
    have hnone : op = 1 ∨ op = 2 ∨ op = 4 ∨ op = 5 → args = [] := fun ho => List.eq_nil_of_length_eq_zero (by rw [hl.1]; unfold manyS; rw [if_pos (by omega), if_pos ho])
    have hflat : op = 1 ∨ op = 2 ∨ op = 4 ∨ op = 5 → (cntE (.mk op n name args)).1 = 1 ∧ (cntE (.mk op n name args)).2 = 0 := fun ho => by
      rw [hnone ho, cntE, cntEs]
      simp only
      rw [if_neg (by omega), if_neg (by omega)]
      exact ⟨rfl, BitVec.or_zero⟩
    by_cases h1 : op = 1
    · obtain ⟨f1, f2⟩ := hflat (.inl h1)
      rw [codeE, if_pos h1] at hc
      cases hc
      exact (Cnt.one _ (by simp) (by simp)).of f1.symm f2.symm rfl
    by_cases h2 : op = 2
    · obtain ⟨f1, f2⟩ := hflat (.inr (.inl h2))
      rw [codeE, if_neg h1, if_pos h2] at hc
      split at hc
      · cases hc
      · cases hc
        exact (Cnt.one _ (by simp) (by simp)).of f1.symm f2.symm rfl
    by_cases h4 : op = 4
    · obtain ⟨f1, f2⟩ := hflat (.inr (.inr (.inl h4)))
      rw [codeE, if_neg h1, if_neg h2, if_pos h4] at hc
      cases hc
      exact (Cnt.one _ (by simp) (by simp)).of f1.symm f2.symm rfl
    by_cases h5 : op = 5
    · obtain ⟨f1, f2⟩ := hflat (.inr (.inr (.inr h5)))
      rw [codeE, if_neg h1, if_neg h2, if_neg h4, if_pos h5] at hc
      cases hc
      exact (Cnt.one _ (by simp) (by simp)).of f1.symm f2.symm rfl
    by_cases h21 : op = 21 ∨ op = 22
    · have hm : manyS op = 2 := by unfold manyS; rw [if_neg (by omega)]
      match args, hl.1, hall, hc with
      | [a, b], _, hall, hc =>
        rw [codeE_two _ _ _ _ _ _ h21] at hc
        obtain ⟨ca, e1, h3⟩ := CR.andThen_ok hc
        obtain ⟨cb, e2, h6⟩ := CR.andThen_ok h3
        cases h6
        refine (count_lazy (ih ns a ca (hall a (by simp)) e1) (ih ns b cb (hall b (by simp)) e2) h21).of ?_ ?_ rfl
        · rw [cntE, cntEs, cntEs, cntEs]; simp only; rw [if_pos h21]; omega
        · rw [cntE, cntEs, cntEs, cntEs]; simp only; rw [if_neg (by omega)]; simp
      | [], e, _, _ => rw [hm] at e; cases e
      | [_], e, _, _ => rw [hm] at e; cases e
      | _ :: _ :: _ :: _, e, _, _ => rw [hm] at e; simp at e
    have hmany : args.length = 1 ∧ op < 10 ∨ (args.length = 2 ∧ 10 ≤ op ∧ op ≠ 21 ∧ op ≠ 22 ∧ op ≠ 3 ∧ op ≠ 6) := by
      rw [hl.1]
      unfold manyS
      by_cases h10 : op < 10
      · rw [if_pos h10, if_neg (by omega)]; exact .inl ⟨rfl, h10⟩
      · rw [if_neg h10]; exact .inr ⟨rfl, by omega⟩
    rw [codeE_fin ns op n name args ⟨h1, h2, h4, h5⟩ (by omega)] at hc
    obtain ⟨cs, e1, h3⟩ := CR.andThen_ok hc
    cases h3
    have hs := countEs d ns (ih ns) args cs hall e1
    by_cases h3 : op = 3
    · rw [if_pos h3]
      refine (hs.join (Cnt.comp (hn3 h3))).of ?_ ?_ (by simp)
      · rw [cntE]; simp only; rw [if_neg h21]; omega
      · rw [cntE]; simp only; rw [if_pos h3]; exact BitVec.or_comm ..
    · rw [if_neg h3]
      have e2 : (cntE (.mk op n name args)).1 = (cntEs args).1 + 1 := by rw [cntE]; simp only; rw [if_neg h21]; omega
      have e3 : (cntE (.mk op n name args)).2 = (cntEs args).2 := by rw [cntE]; simp only; rw [if_neg h3]; exact BitVec.zero_or
      split
      · exact (hs.join (Cnt.one _ (by simp) (by simp))).of e2.symm (by rw [e3]; exact BitVec.or_zero) (by simp)
      · exact (hs.join (Cnt.one _ (by simp) (by simp))).of e2.symm (by rw [e3]; exact BitVec.or_zero) (by simp)
theorem countT (d : Nat) (ih : ∀ (ns : Names) (l : List St) (r : Code1 × Nat), rightS d l = true → codeL ns l = .ok r → Cnt r.1 (cntSs l).1 (cntSs l).2.1 (cntSs l).2.2) (ns : Names) (op n : Int) (name : List UInt8) (es : List Ex) (body els : List St) (r : Code1 × Nat)
    (h : right1 d (.mk op n name es body els) = true) (hc : codeT ns (.mk op n name es body els) = .ok r) : Cnt r.1 (cntS (.mk op n name es body els)).1 (cntS (.mk op n name es body els)).2.1 (cntS (.mk op n name es body els)).2.2 := by
  unfold right1 at h
  simp only [Bool.and_eq_true] at h
  obtain ⟨⟨hb, hl⟩, hh, hes⟩ := h
  have hn3 : op = 3 → 1 ≤ n ∧ n ≤ 10 := by
    rintro rfl
    rw [headT_20100 _ _ _ _ _ _ rfl, Bool.and_eq_true, Bool.and_eq_true, Bool.and_eq_true, decide_eq_true_eq, decide_eq_true_eq, decide_eq_true_eq] at hh
    exact hh.2.2.1
  obtain ⟨hop, hle, hlb, hll⟩ := headT_parts hh
  rw [codeT] at hc
  obtain ⟨cs, e1, h2⟩ := CR.andThen_ok hc
  have hs := countEs 40 ns (countE 40 ns) es cs (List.all_eq_true.1 hes) e1
  have hflat : body = [] → els = [] → (cntS (.mk op n name es body els)).2.1 = (cntEs es).2 ∧ (op ≠ 5 → (cntS (.mk op n name es body els)).1 = (cntEs es).1 + 1) ∧ (op = 3 → (cntS (.mk op n name es body els)).2.2 = bit32 n.toNat) ∧ (op ≠ 3 → (cntS (.mk op n name es body els)).2.2 = 0) := by
    rintro rfl rfl
    rw [cntS, cntSs]
    refine ⟨by simp, fun h5 => by simp [h5]; omega, fun h3 => by simp [h3], fun h3 => by simp [h3]⟩
  have hbn : op ≠ 4 → op ≠ 5 → body = [] := fun a b => List.eq_nil_of_length_eq_zero (by omega)
  have hen : op ≠ 4 → els = [] := fun a => List.eq_nil_of_length_eq_zero (by omega)
  have h7 : op = 1 ∨ op = 2 ∨ op = 3 ∨ op = 4 ∨ op = 5 ∨ op = 6 ∨ op = 7 := by omega
  rcases h7 with rfl | rfl | rfl | rfl | rfl | rfl | rfl
  · obtain ⟨f1, f2, -, f3⟩ := hflat (hbn (by omega) (by omega)) (hen (by omega))
    rw [if_pos rfl] at h2
    split at h2
    · cases h2
    · split at h2
      · cases h2
      · cases h2
        exact (hs.join (Cnt.one _ (by simp) (by simp))).of (f2 (by omega)).symm (by rw [f1]; exact BitVec.or_zero) (by rw [f3 (by omega)]; rfl)
  · obtain ⟨f1, f2, -, f3⟩ := hflat (hbn (by omega) (by omega)) (hen (by omega))
    rw [if_neg (by decide), if_pos rfl] at h2
    split at h2
    · cases h2
    · cases h2
      exact (hs.join (Cnt.one _ (by simp) (by simp))).of (f2 (by omega)).symm (by rw [f1]; exact BitVec.or_zero) (by rw [f3 (by omega)]; rfl)
  · obtain ⟨f1, f2, f4, -⟩ := hflat (hbn (by omega) (by omega)) (hen (by omega))
    rw [if_neg (by decide), if_neg (by decide), if_pos rfl] at h2
    cases h2
    exact (hs.join (Cnt.put (hn3 rfl))).of (f2 (by omega)).symm (by rw [f1]; exact BitVec.or_zero) (by rw [f4 rfl]; exact BitVec.zero_or)
  · rw [if_neg (by decide), if_neg (by decide), if_neg (by decide), if_neg (by decide), if_neg (by decide)] at h2
    obtain ⟨b, e2, h3⟩ := CR.andThen_ok h2
    rw [if_neg (by decide)] at h3
    obtain ⟨o, e3, h4⟩ := CR.andThen_ok h3
    cases h4
    have tb := ih ns body b hb e2
    have to2 := ih ns els o hl e3
    show Cnt (ifC (joinAll cs) b.1 o.1 (decide (els ≠ []))) _ _ _
    unfold ifC
    by_cases hel : els = []
    · have ho : o.1 = [] := by rw [hel, codeL] at e3; cases e3; rfl
      rw [if_neg (by simp [hel])]
      refine ((hs.app ((tb.shift _).cons _ (by simp) (by simp))).join to2).of ?_ ?_ ?_
      · rw [cntS]; simp [hel]; omega
      · rw [cntS]
      · rw [cntS]; simp
    · rw [if_pos (by simp [hel])]
      have hel2 : 0 < els.length := List.length_pos_iff.2 hel
      refine ((hs.app (((tb.shift _).app (Cnt.one _ (by simp) (by simp))).cons _ (by simp) (by simp))).join to2).of ?_ ?_ ?_
      · rw [cntS]; simp only; rw [if_pos (.inr ⟨trivial, hel2⟩)]; omega
      · rw [cntS]; simp
      · rw [cntS]; simp
  · rw [if_neg (by decide), if_neg (by decide), if_neg (by decide), if_neg (by decide), if_neg (by decide)] at h2
    obtain ⟨b, e2, h3⟩ := CR.andThen_ok h2
    rw [if_pos rfl] at h3
    cases h3
    have tb := ih ns body b hb e2
    have hel := hen (by omega)
    show Cnt (whileC (joinAll cs) b.1) _ _ _
    unfold whileC
    refine (hs.app (((tb.shift _).app (Cnt.one _ (by simp) (by simp))).cons _ (by simp) (by simp))).of ?_ ?_ ?_
    · rw [cntS, hel, cntSs]; simp; omega
    · rw [cntS, hel, cntSs]; simp
    · rw [cntS, hel, cntSs]; simp
  · obtain ⟨f1, f2, -, f3⟩ := hflat (hbn (by omega) (by omega)) (hen (by omega))
    have hee : es = [] := List.eq_nil_of_length_eq_zero (by rw [hle]; decide)
    subst hee
    rw [if_neg (by decide), if_neg (by decide), if_neg (by decide), if_pos rfl] at h2
    cases h2
    exact (Cnt.one _ (by simp) (by simp)).of (by rw [f2 (by omega), cntEs]) (by rw [f1, cntEs]) (by rw [f3 (by omega)])
  · obtain ⟨f1, f2, -, f3⟩ := hflat (hbn (by omega) (by omega)) (hen (by omega))
    have hee : es = [] := List.eq_nil_of_length_eq_zero (by rw [hle]; decide)
    subst hee
    rw [if_neg (by decide), if_neg (by decide), if_neg (by decide), if_neg (by decide), if_pos rfl] at h2
    cases h2
    exact (Cnt.one _ (by simp) (by simp)).of (by rw [f2 (by omega), cntEs]) (by rw [f1, cntEs]) (by rw [f3 (by omega)])
theorem countL : ∀ (d : Nat) (ns : Names) (l : List St) (r : Code1 × Nat), rightS d l = true → codeL ns l = .ok r → Cnt r.1 (cntSs l).1 (cntSs l).2.1 (cntSs l).2.2 := by
  intro d
  induction d with
  | zero =>
    intro ns l r h hc
    have : l = [] := by
      cases l with
      | nil => rfl
      | cons x r => cases h
    subst this
    rw [codeL] at hc
    cases hc
    exact Cnt.nil
  | succ d ih =>
    intro ns l
    induction l generalizing ns with
    | nil => intro r _ hc; rw [codeL] at hc; cases hc; exact Cnt.nil
    | cons x l ihl =>
      intro r h hc
      rw [rightS_succ, List.all_cons, Bool.and_eq_true] at h
      obtain ⟨op, n, name, es, body, els⟩ := x
      rw [codeL] at hc
      obtain ⟨c, e1, h2⟩ := CR.andThen_ok hc
      obtain ⟨c', e2, h4⟩ := CR.andThen_ok h2
      cases h4
      exact (countT d ih ns op n name es body els c h.1 e1).join (ihl _ c' (by rw [rightS_succ]; exact h.2) e2)
theorem comp_counts {l : List St} {p : ProgS} (h : compS l = .ok p) : rightS 40 l = true ∧ p.code.length = (cntSs l).1 ∧ p.reads = (cntSs l).2.1 ∧ p.writes = (cntSs l).2.2 := by
  unfold compS at h
  split at h
  · next hr =>
    obtain ⟨r, e1, h2⟩ := CR.andThen_ok h
    split at h2
    · cases h2
    · cases h2
      have := countL 40 [] l r hr e1
      exact ⟨hr, this.len, this.reads, this.writes⟩
  · cases h
end Go.Proofs.Ytdeneckmoejcfaa
