/- The translator's way through statements gives their code. Plain mathematics. -/
/- The translator's way through programs gives their code, or the first error. Plain mathematics. -/
import Derived.Test.YtdeneckmoejcfaaTransMJ
set_option linter.unusedSimpArgs false
set_option linter.unusedVariables false
namespace Go.Proofs.Ytdeneckmoejcfaa

/-- what the translation of statements does to the state: z is the size -/
structure LisT (s s' : TS) (z : Nat) (r : CR (Code1 × Nat)) : Prop where
  names : ∃ x, s'.names = s.names ++ x ∧ x.length ≤ z
  inv : s.names.length ≤ s.locals → s'.names.length ≤ s'.locals
  le : s.code.length ≤ s'.code.length
  len : s'.code.length ≤ s.code.length + 4 * z
  loc : s'.locals ≤ max s.locals (s.names.length + z)
  keep : s.e ≠ 0 → s'.e = s.e
  ok : s.e = 0 → s.names.length ≤ s.locals → ∀ c, r = .ok c → s'.e = 0 ∧ s'.code = joinC s.code c.1 ∧ s'.locals = max s.locals c.2
  bad : s.e = 0 → s.names.length ≤ s.locals → ∀ k, r = .err k → s'.e = k
/-- .. of one statement: mark: the name that it makes visible -/
structure StT (s s' : TS) (z : Nat) (mark : Names) (r : CR (Code1 × Nat)) : Prop where
  names : s'.names = s.names ++ mark
  inv : s.names.length ≤ s.locals → s'.names.length ≤ s'.locals
  le : s.code.length ≤ s'.code.length
  len : s'.code.length ≤ s.code.length + 4 * z
  loc : s'.locals ≤ max s.locals (s.names.length + z)
  keep : s.e ≠ 0 → s'.e = s.e
  ok : s.e = 0 → s.names.length ≤ s.locals → ∀ c, r = .ok c → s'.e = 0 ∧ s'.code = joinC s.code c.1 ∧ s'.locals = max s.locals (max c.2 (s.names.length + mark.length))
  bad : s.e = 0 → s.names.length ≤ s.locals → ∀ k, r = .err k → s'.e = k
theorem codeL_geq (ns : Names) : ∀ (l : List St) (r : Code1 × Nat), codeL ns l = .ok r → ns.length ≤ r.2 := by
  intro l
  induction l generalizing ns with
  | nil => intro r h; rw [codeL] at h; cases h; exact Nat.le_refl _
  | cons x l ih =>
    intro r h
    obtain ⟨op, n, name, es, body, els⟩ := x
    rw [codeL] at h
    obtain ⟨c, h1, h2⟩ := CR.andThen_ok h
    obtain ⟨c', h3, h4⟩ := CR.andThen_ok h2
    cases h4
    have := ih _ _ h3
    have h5 : ns.length ≤ (if op = 1 then ns ++ [name] else ns).length := by split <;> simp
    show ns.length ≤ max c.2 c'.2
    omega
theorem LisT.nil (s : TS) : LisT s s 0 (codeL s.names []) := by
  rw [codeL]
  exact ⟨⟨[], by simp, Nat.le_refl _⟩, id, Nat.le_refl _, by omega, by omega, fun _ => rfl, fun h hi c hc => by cases hc; exact ⟨h, by rw [joinC_nil'], by show s.locals = max s.locals s.names.length; omega⟩, fun _ _ k hk => by cases hk⟩
theorem LisT.cons {s s1 s2 : TS} {z1 z2 : Nat} {mark : Names} {r1 r2 : CR (Code1 × Nat)} (h : StT s s1 z1 mark r1) (k : LisT s1 s2 z2 r2) (hz : mark.length ≤ z1) (he : ∀ k, r1 = .err k → k ≠ 0) (hm : ∀ c, r2 = .ok c → s.names.length + mark.length ≤ c.2) :
    LisT s s2 (z1 + z2) (r1.andThen fun c => r2.andThen fun c' => .ok (joinC c.1 c'.1, max c.2 c'.2)) := by
  refine ⟨?_, fun hi => k.inv (h.inv hi), Nat.le_trans h.le k.le, by have := h.len; have := k.len; omega, by have := h.loc; have := k.loc; rw [h.names, List.length_append] at this; omega, fun e => ?_, fun e hi c hc => ?_, fun e hi j hj => ?_⟩
  · obtain ⟨x, hx, hl⟩ := k.names
    exact ⟨mark ++ x, by rw [hx, h.names, List.append_assoc], by simp; omega⟩
  · have := h.keep e
    rw [k.keep (by rw [this]; exact e), this]
  · obtain ⟨c1, rfl, h2⟩ := CR.andThen_ok hc
    obtain ⟨c2, rfl, h4⟩ := CR.andThen_ok h2
    cases h4
    obtain ⟨a1, a2, a3⟩ := h.ok e hi c1 rfl
    obtain ⟨b1, b2, b3⟩ := k.ok a1 (h.inv hi) c2 rfl
    refine ⟨b1, by rw [b2, a2, joinC_assoc], ?_⟩
    have := hm c2 rfl
    rw [b3, a3]
    show max (max s.locals (max c1.2 (s.names.length + mark.length))) c2.2 = max s.locals (max c1.2 c2.2)
    omega
  · cases r1 with
    | err k1 =>
      cases hj
      have := h.bad e hi j rfl
      rw [k.keep (by rw [this]; exact he j rfl), this]
    | ok c1 =>
      cases r2 with
      | err k2 => cases hj; exact k.bad (h.ok e hi c1 rfl).1 (h.inv hi) j rfl
      | ok c2 => cases hj
theorem TS.back_names {s s' : TS} {x : Names} (h : s'.names = s.names ++ x) : (s'.back s.names.length).names = s.names := by
  show s'.names.take s.names.length = _
  rw [h, List.take_left']
  rfl
/-- .. of a block: what is visible is as it was -/
theorem LisT.block {s s' : TS} {z : Nat} {r : CR (Code1 × Nat)} (h : LisT s s' z r) (hm : ∀ c, r = .ok c → s.names.length ≤ c.2) : StT s (s'.back s.names.length) z [] r := by
  obtain ⟨x, hx, hl⟩ := h.names
  have hn := TS.back_names hx
  refine ⟨by rw [hn, List.append_nil], fun hi => ?_, h.le, h.len, h.loc, h.keep, fun e hi c hc => ?_, h.bad⟩
  · have h1 := h.inv hi
    have h2 : s.names.length ≤ s'.names.length := by rw [hx]; simp
    rw [hn]
    show s.names.length ≤ s'.locals
    omega
  · obtain ⟨a1, a2, a3⟩ := h.ok e hi c hc
    refine ⟨a1, a2, ?_⟩
    have := hm c hc
    show s'.locals = max s.locals (max c.2 (s.names.length + 0))
    omega
/-- statements without blocks -/
theorem StT.simple {s s1 s2 : TS} {z : Nat} {r0 : CR (List Code1)} (h : ExpsT s s1 z r0) (op a : Int) (hj : jumpB ⟨op, a⟩ = false) (hc : s2.code = s1.code) (mark : Names) (hn : s2.names = s1.names ++ mark) (hl : s2.locals = max s1.locals (if mark = [] then 0 else s1.names.length + mark.length)) (hm : mark.length ≤ 1)
    (b : CR Int) (hk : s1.e ≠ 0 → s2.e = s1.e) (hb : s1.e = 0 → ∀ x, b = .ok x → s2.e = 0) (hbe : s1.e = 0 → ∀ k, b = .err k → s2.e = k) {r : CR (Code1 × Nat)} (hr : r = r0.andThen fun cs => b.andThen fun _ => .ok (joinC (joinAll cs) [⟨op, a⟩], 0)) (he : ∀ k, r0 = .err k → k ≠ 0) :
    StT s (s2.put op a) (1 + z) mark r := by
  subst hr
  have hn1 := h.names
  have hl1 := h.locals
  refine ⟨?_, ?_, ?_, ?_, ?_, ?_, ?_, ?_⟩
  rotate_left 4
  · show s2.locals ≤ _
    rw [hl, hn1, hl1]
    by_cases hm0 : mark = []
    · rw [if_pos hm0]; omega
    · rw [if_neg hm0]; omega
  rotate_left 3
  · show s2.names = _
    rw [hn, hn1]
  · intro hi
    show s2.names.length ≤ s2.locals
    rw [hn, hl, hn1, hl1, List.length_append]
    by_cases hm0 : mark = []
    · rw [if_pos hm0, hm0]; simp; exact hi
    · rw [if_neg hm0]; omega
  · have := h.le; simp [TS.put_code, hc]; omega
  · have := h.len; simp [TS.put_code, hc]; omega
  · intro e
    have h1 := h.keep e
    show s2.e = _
    rw [hk (by rw [h1]; exact e), h1]
  · intro e hi c hcc
    obtain ⟨cs, rfl, h2⟩ := CR.andThen_ok hcc
    obtain ⟨x, rfl, h4⟩ := CR.andThen_ok h2
    cases h4
    obtain ⟨a1, a2⟩ := h.ok e cs rfl
    refine ⟨hb a1 x rfl, by rw [TS.put_code, hc, a2, ← joinC_assoc, joinC_one _ _ hj], ?_⟩
    show s2.locals = max s.locals (max 0 (s.names.length + mark.length))
    rw [hl, hn1, hl1]
    by_cases hm0 : mark = []
    · rw [if_pos hm0, hm0]; simp; omega
    · rw [if_neg hm0]; omega
  · intro e hi k hkk
    show s2.e = k
    cases r0 with
    | err k1 =>
      cases hkk
      have := h.bad e k rfl
      rw [hk (by rw [this]; exact he k rfl), this]
    | ok cs =>
      cases b with
      | err k2 => cases hkk; exact hbe (h.ok e cs rfl).1 k rfl
      | ok x => cases hkk
theorem joinC_split (S O : Code1) (i : InsS) (b : Code1) (h : jumpB i = true) : joinC S (O ++ i :: b) = joinC S O ++ ⟨i.op, i.a + S.length⟩ :: shiftC S.length b := by
  unfold joinC shiftC
  rw [List.map_append, List.map_cons, jump_shift h, List.append_assoc]
theorem shift_shift (j k m : Int) (h : j + k = m) (b : Code1) : shiftC k (shiftC j b) = shiftC m b := by rw [shiftC_add, h]
theorem while_code (S O b : Code1) : joinC S (whileC O b) = setA (joinC (joinC S O ++ [⟨12, 0⟩]) b ++ [⟨11, S.length⟩]) (joinC S O).length ((joinC S O).length + 1 + b.length + 1 : Nat) := by
  have hl : (joinC S O).length = S.length + O.length := joinC_len _ _
  unfold whileC
  rw [joinC_split S O ⟨12, _⟩ _ rfl, shiftC_app, shift_shift _ _ (S.length + O.length + 1 : Nat) (by omega)]
  rw [show shiftC S.length [⟨11, 0⟩] = [(⟨11, S.length⟩ : InsS)] from by unfold shiftC; rw [List.map_singleton, jump_shift rfl, Int.zero_add]]
  have e : joinC (joinC S O ++ [⟨12, 0⟩]) b = joinC S O ++ ⟨12, 0⟩ :: shiftC (S.length + O.length + 1 : Nat) b := by
    conv => lhs; rw [joinC]
    rw [List.length_append, hl, List.append_assoc]; rfl
  rw [e, List.append_assoc, List.cons_append, setA_mid _ _ _ _ rfl, hl]
  congr 2
  congr 1
  dsimp only
  omega
theorem if_code (S O b : Code1) : joinC S (ifC O b [] false) = setA (joinC (joinC S O ++ [⟨12, 0⟩]) b) (joinC S O).length ((joinC S O).length + 1 + b.length : Nat) := by
  have hl : (joinC S O).length = S.length + O.length := joinC_len _ _
  unfold ifC
  rw [if_neg (by decide), joinC_nil', joinC_split S O ⟨12, _⟩ _ rfl, shift_shift _ _ (S.length + O.length + 1 : Nat) (by omega)]
  have e : joinC (joinC S O ++ [⟨12, 0⟩]) b = joinC S O ++ ⟨12, 0⟩ :: shiftC (S.length + O.length + 1 : Nat) b := by
    conv => lhs; rw [joinC]
    rw [List.length_append, hl, List.append_assoc]; rfl
  rw [e, setA_mid _ _ _ _ rfl, hl]
  congr 2
  congr 1
  dsimp only
  omega
theorem else_code (S O b o : Code1) : joinC S (ifC O b o true) = setA (joinC (setA (joinC (joinC S O ++ [⟨12, 0⟩]) b ++ [⟨11, 0⟩]) (joinC S O).length ((joinC S O).length + 1 + b.length + 1 : Nat)) o) ((joinC S O).length + 1 + b.length) ((joinC S O).length + 1 + b.length + 1 + o.length : Nat) := by
  have hl : (joinC S O).length = S.length + O.length := joinC_len _ _
  unfold ifC
  rw [if_pos rfl, ← joinC_assoc, joinC_split S O ⟨12, _⟩ _ rfl, shiftC_app, shift_shift _ _ (S.length + O.length + 1 : Nat) (by omega)]
  have e : joinC (joinC S O ++ [⟨12, 0⟩]) b = joinC S O ++ ⟨12, 0⟩ :: shiftC (S.length + O.length + 1 : Nat) b := by
    conv => lhs; rw [joinC]
    rw [List.length_append, hl, List.append_assoc]; rfl
  rw [e, List.append_assoc, List.cons_append, setA_mid _ _ _ _ rfl, hl]
  rw [show shiftC S.length [⟨11, (O.length : Int) + 1 + b.length + 1 + o.length⟩] = [(⟨11, (O.length : Int) + 1 + b.length + 1 + o.length + S.length⟩ : InsS)] from by unfold shiftC; rw [List.map_singleton, jump_shift rfl]]
  unfold joinC
  have e2 : ∀ (i j : InsS) (x : Code1), S ++ shiftC S.length O ++ i :: (x ++ [j]) = (S ++ shiftC S.length O ++ i :: x) ++ [j] := by intros; simp
  have e3 : ∀ (i j : InsS) (x y : Code1), ((S ++ shiftC S.length O ++ i :: x) ++ [j]) ++ y = (S ++ shiftC S.length O ++ i :: x) ++ j :: y := by intros; simp
  rw [e2, e2, e3, e3, setA_mid _ _ _ _ (by simp [shiftC_len]; omega)]
  have f1 : ((S.length + O.length + 1 + b.length + 1 : Nat) : Int) = (O.length : Int) + 1 + b.length + 1 + S.length := by omega
  have f2 : ((S.length + O.length + 1 + b.length + 1 + o.length : Nat) : Int) = (O.length : Int) + 1 + b.length + 1 + o.length + S.length := by omega
  rw [f1, f2]
  congr 2
  simp [shiftC_len]
end Go.Proofs.Ytdeneckmoejcfaa
namespace Go.Proofs.Ytdeneckmoejcfaa

theorem TS.patch_e (s : TS) (k : Nat) : (s.patch k).e = s.e := rfl
theorem headT_parts {op n : Int} {name : List UInt8} {le lb ll : Nat} (h : headT op n name le lb ll = true) : (1 ≤ op ∧ op ≤ 7) ∧ le = manyT op ∧ (lb = 0 ∨ op = 4 ∨ op = 5) ∧ (ll = 0 ∨ op = 4) := by
  unfold headT at h
  simp only [Bool.and_eq_true, decide_eq_true_eq] at h
  exact ⟨h.1, h.2.1, h.2.2.2.2.1, h.2.2.2.2.2⟩
theorem andThen_err {α β : Type} {r : CR α} {f : α → CR β} {k : Int} (h : r.andThen f = .err k) : r = .err k ∨ ∃ x, r = .ok x ∧ f x = .err k := by
  cases r with
  | ok x => exact .inr ⟨x, rfl, h⟩
  | err e => exact .inl (by have h' : (CR.err e : CR β) = .err k := h; cases h'; rfl)
theorem while_law {s s1 s2 : TS} {z0 z2 : Nat} {r0 : CR (List Code1)} {r2 : CR (Code1 × Nat)} (h : ExpsT s s1 z0 r0) (k : LisT (s1.put 12 0) s2 z2 r2) (hm : ∀ c, r2 = .ok c → s.names.length ≤ c.2) (he : ∀ k, r0 = .err k → k ≠ 0) :
    StT s (((s2.back s1.names.length).put 11 s.code.length).patch s1.code.length) (1 + z0 + z2) [] (r0.andThen fun cs => r2.andThen fun b => .ok (whileC (joinAll cs) b.1, b.2)) := by
  have hn1 := h.names
  have hl1 := h.locals
  have K := k.block (fun c hc => by show s1.names.length ≤ _; rw [hn1]; exact hm c hc)
  have p1 : (s1.put 12 0).code.length = s1.code.length + 1 := by simp [TS.put_code]
  have hlen : ∀ (q : TS) (a : Int) (j : Nat), ((q.put 11 a).patch j).code.length = q.code.length + 1 := fun q a j => by
    show (setA _ _ _).length = _
    rw [setA_len]; simp [TS.put_code]
  have hcl : (s2.back s1.names.length).code.length = s2.code.length := rfl
  have k1 := K.names
  rw [List.append_nil] at k1
  refine ⟨?_, ?_, ?_, ?_, ?_, ?_, ?_, ?_⟩
  · show (s2.back s1.names.length).names = s.names ++ []
    rw [List.append_nil, ← hn1]; exact k1
  · intro hi
    have := K.inv (by show s1.names.length ≤ s1.locals; rw [hn1, hl1]; exact hi)
    exact this
  · rw [hlen, hcl]; have := h.le; have := k.le; omega
  · rw [hlen, hcl]; have := h.len; have := k.len; omega
  · have h2 : s2.locals ≤ max s1.locals (s1.names.length + z2) := k.loc
    show s2.locals ≤ _
    rw [hn1, hl1] at h2; omega
  · intro e
    have h1 := h.keep e
    show s2.e = _
    rw [k.keep (by show s1.e ≠ 0; rw [h1]; exact e)]; exact h1
  · intro e hi c hc
    obtain ⟨cs, rfl, h2⟩ := CR.andThen_ok hc
    obtain ⟨b, rfl, h4⟩ := CR.andThen_ok h2
    cases h4
    obtain ⟨a1, a2⟩ := h.ok e cs rfl
    obtain ⟨b1, b2, b3⟩ := k.ok a1 (by show s1.names.length ≤ s1.locals; rw [hn1, hl1]; exact hi) b rfl
    refine ⟨b1, ?_, ?_⟩
    · rw [while_code, ← a2]
      show setA (s2.code ++ [⟨11, s.code.length⟩]) s1.code.length ((s2.code ++ [(⟨11, (s.code.length : Int)⟩ : InsS)]).length : Nat) = _
      rw [b2, TS.put_code]
      congr 2
      simp [joinC_len]
    · show s2.locals = max s.locals (max b.2 (s.names.length + 0))
      rw [b3]
      show max s1.locals b.2 = _
      have := hm b rfl
      rw [hl1]; omega
  · intro e hi j hj
    show s2.e = j
    rcases andThen_err hj with h1 | ⟨cs, h1, h2⟩
    · have := h.bad e j h1
      rw [k.keep (by show s1.e ≠ 0; rw [this]; exact he j h1)]; exact this
    · rcases andThen_err h2 with h3 | ⟨b, h3, h4⟩
      · exact k.bad (h.ok e cs h1).1 (by show s1.names.length ≤ s1.locals; rw [hn1, hl1]; exact hi) j h3
      · cases h4
theorem if_law {s s1 s2 : TS} {z0 z2 : Nat} {r0 : CR (List Code1)} {r2 : CR (Code1 × Nat)} (h : ExpsT s s1 z0 r0) (k : LisT (s1.put 12 0) s2 z2 r2) (hm : ∀ c, r2 = .ok c → s.names.length ≤ c.2) (he : ∀ k, r0 = .err k → k ≠ 0) :
    StT s ((s2.back s1.names.length).patch s1.code.length) (1 + z0 + z2) [] (r0.andThen fun cs => r2.andThen fun b => .ok (ifC (joinAll cs) b.1 [] false, max b.2 s.names.length)) := by
  have hn1 := h.names
  have hl1 := h.locals
  have K := k.block (fun c hc => by show s1.names.length ≤ _; rw [hn1]; exact hm c hc)
  have p1 : (s1.put 12 0).code.length = s1.code.length + 1 := by simp [TS.put_code]
  have hlen : ∀ (q : TS) (j : Nat), (q.patch j).code.length = q.code.length := fun q j => by
    show (setA _ _ _).length = _
    rw [setA_len]
  have hcl : (s2.back s1.names.length).code.length = s2.code.length := rfl
  have k1 := K.names
  rw [List.append_nil] at k1
  refine ⟨?_, ?_, ?_, ?_, ?_, ?_, ?_, ?_⟩
  · show (s2.back s1.names.length).names = s.names ++ []
    rw [List.append_nil, ← hn1]; exact k1
  · intro hi
    have := K.inv (by show s1.names.length ≤ s1.locals; rw [hn1, hl1]; exact hi)
    exact this
  · rw [hlen, hcl]; have := h.le; have := k.le; omega
  · rw [hlen, hcl]; have := h.len; have := k.len; omega
  · have h2 : s2.locals ≤ max s1.locals (s1.names.length + z2) := k.loc
    show s2.locals ≤ _
    rw [hn1, hl1] at h2; omega
  · intro e
    have h1 := h.keep e
    show s2.e = _
    rw [k.keep (by show s1.e ≠ 0; rw [h1]; exact e)]; exact h1
  · intro e hi c hc
    obtain ⟨cs, rfl, h2⟩ := CR.andThen_ok hc
    obtain ⟨b, rfl, h4⟩ := CR.andThen_ok h2
    cases h4
    obtain ⟨a1, a2⟩ := h.ok e cs rfl
    obtain ⟨b1, b2, b3⟩ := k.ok a1 (by show s1.names.length ≤ s1.locals; rw [hn1, hl1]; exact hi) b rfl
    refine ⟨b1, ?_, ?_⟩
    · rw [if_code, ← a2]
      show setA s2.code s1.code.length (s2.code.length : Nat) = _
      rw [b2, TS.put_code]
      congr 2
      simp [joinC_len]
    · show s2.locals = max s.locals (max (max b.2 s.names.length) (s.names.length + 0))
      rw [b3]
      show max s1.locals b.2 = _
      have := hm b rfl
      rw [hl1]; omega
  · intro e hi j hj
    show s2.e = j
    rcases andThen_err hj with h1 | ⟨cs, h1, h2⟩
    · have := h.bad e j h1
      rw [k.keep (by show s1.e ≠ 0; rw [this]; exact he j h1)]; exact this
    · rcases andThen_err h2 with h3 | ⟨b, h3, h4⟩
      · exact k.bad (h.ok e cs h1).1 (by show s1.names.length ≤ s1.locals; rw [hn1, hl1]; exact hi) j h3
      · cases h4
theorem else_law {s s1 s2 s4 : TS} {z0 z2 z4 : Nat} {r0 : CR (List Code1)} {r2 r4 : CR (Code1 × Nat)} (h : ExpsT s s1 z0 r0) (k : LisT (s1.put 12 0) s2 z2 r2) (m : LisT (((s2.back s1.names.length).put 11 0).patch s1.code.length) s4 z4 r4) (hm : ∀ c, r2 = .ok c → s.names.length ≤ c.2) (hm4 : ∀ c, r4 = .ok c → s.names.length ≤ c.2) (he : ∀ k, r0 = .err k → k ≠ 0) (he2 : ∀ k, r2 = .err k → k ≠ 0) :
    StT s ((s4.back s1.names.length).patch s2.code.length) (1 + z0 + z2 + z4) [] (r0.andThen fun cs => r2.andThen fun b => r4.andThen fun o => .ok (ifC (joinAll cs) b.1 o.1 true, max b.2 o.2)) := by
  have hn1 := h.names
  have hl1 := h.locals
  have K := k.block (fun c hc => by show s1.names.length ≤ _; rw [hn1]; exact hm c hc)
  have k1 : (s2.back s1.names.length).names = s1.names := by
    have := K.names
    rw [List.append_nil] at this
    exact this
  have p1 : (s1.put 12 0).code.length = s1.code.length + 1 := by simp [TS.put_code]
  have hnd : (((s2.back s1.names.length).put 11 0).patch s1.code.length).names = s1.names := k1
  have M := m.block (fun c hc => by rw [hnd, hn1]; exact hm4 c hc)
  have hld : (((s2.back s1.names.length).put 11 0).patch s1.code.length).code.length = s2.code.length + 1 := by
    show (setA _ _ _).length = _
    rw [setA_len, TS.put_code]
    show (s2.code ++ _).length = _
    simp
  have m1 : (s4.back s1.names.length).names = s1.names := by
    have := M.names
    rw [List.append_nil, hnd] at this
    exact this
  have hl4 : ((s4.back s1.names.length).patch s2.code.length).code.length = s4.code.length := by
    show (setA _ _ _).length = _
    rw [setA_len]; rfl
  refine ⟨?_, ?_, ?_, ?_, ?_, ?_, ?_, ?_⟩
  · show (s4.back s1.names.length).names = s.names ++ []
    rw [List.append_nil, m1, hn1]
  · intro hi
    have h1 := K.inv (by show s1.names.length ≤ s1.locals; rw [hn1, hl1]; exact hi)
    have h2 := M.inv h1
    rw [hnd] at h2
    exact h2
  · rw [hl4]; have := h.le; have := k.le; have := m.le; omega
  · rw [hl4]; have := h.len; have := k.len; have := m.len; omega
  · have h2 : s2.locals ≤ max s1.locals (s1.names.length + z2) := k.loc
    have h4 := m.loc
    rw [hnd] at h4
    have h5 : s4.locals ≤ max s2.locals (s1.names.length + z4) := h4
    show s4.locals ≤ _
    rw [hn1] at h2 h5
    rw [hl1] at h2; omega
  · intro e
    have h1 := h.keep e
    have h2 : s2.e = s.e := by rw [k.keep (by show s1.e ≠ 0; rw [h1]; exact e)]; exact h1
    show s4.e = _
    rw [m.keep (by show s2.e ≠ 0; rw [h2]; exact e)]; exact h2
  · intro e hi c hc
    obtain ⟨cs, rfl, h2⟩ := CR.andThen_ok hc
    obtain ⟨b, rfl, h4⟩ := CR.andThen_ok h2
    obtain ⟨o, rfl, h6⟩ := CR.andThen_ok h4
    cases h6
    obtain ⟨a1, a2⟩ := h.ok e cs rfl
    have hi1 : (s1.put 12 0).names.length ≤ (s1.put 12 0).locals := by show s1.names.length ≤ s1.locals; rw [hn1, hl1]; exact hi
    obtain ⟨b1, b2, b3⟩ := k.ok a1 hi1 b rfl
    obtain ⟨c1, c2, c3⟩ := m.ok b1 (K.inv hi1) o rfl
    refine ⟨c1, ?_, ?_⟩
    · rw [else_code, ← a2]
      show setA s4.code s2.code.length (s4.code.length : Nat) = _
      have e2 : s2.code = joinC (s1.code ++ [⟨12, 0⟩]) b.1 := b2
      have e2l : s2.code.length = s1.code.length + 1 + b.1.length := by rw [e2, joinC_len]; simp
      have e4 : s4.code = joinC (setA (joinC (s1.code ++ [⟨12, 0⟩]) b.1 ++ [⟨11, 0⟩]) s1.code.length (s1.code.length + 1 + b.1.length + 1 : Nat)) o.1 := by
        rw [c2]
        show joinC (setA (s2.code ++ [⟨11, 0⟩]) s1.code.length ((s2.code ++ [(⟨11, 0⟩ : InsS)]).length : Nat)) o.1 = _
        rw [List.length_append, e2l, e2]
        rfl
      have e4l : s4.code.length = s1.code.length + 1 + b.1.length + 1 + o.1.length := by
        rw [e4, joinC_len, setA_len, List.length_append, ← e2, e2l]; rfl
      rw [e4l, e4, e2l]
    · show s4.locals = max s.locals (max (max b.2 o.2) (s.names.length + 0))
      rw [c3]
      show max s2.locals o.2 = _
      rw [b3]
      show max (max s1.locals b.2) o.2 = _
      have := hm b rfl
      rw [hl1]; omega
  · intro e hi j hj
    have hi1 : (s1.put 12 0).names.length ≤ (s1.put 12 0).locals := by show s1.names.length ≤ s1.locals; rw [hn1, hl1]; exact hi
    show s4.e = j
    rcases andThen_err hj with h1 | ⟨cs, h1, h2⟩
    · have h5 := h.bad e j h1
      have hj0 := he j h1
      have h6 : s2.e = j := by rw [k.keep (by show s1.e ≠ 0; rw [h5]; exact hj0)]; exact h5
      rw [m.keep (by show s2.e ≠ 0; rw [h6]; exact hj0)]; exact h6
    · have a1 := (h.ok e cs h1).1
      rcases andThen_err h2 with h3 | ⟨b, h3, h4⟩
      · have h6 := k.bad a1 hi1 j h3
        rw [m.keep (by show s2.e ≠ 0; rw [h6]; exact he2 j h3)]; exact h6
      · rcases andThen_err h4 with h5 | ⟨o, h5, h6⟩
        · exact m.bad (k.ok a1 hi1 b h3).1 (K.inv hi1) j h5
        · cases h6
mutual
theorem codeT_err (ns : Names) : ∀ (x : St) (k : Int), codeT ns x = .err k → k = 131 ∨ k = 132 ∨ k = 5
  | .mk op n name es body els, k, h => by
    rw [codeT] at h
    rcases andThen_err h with h1 | ⟨cs, -, h2⟩
    · exact .inl (codeEs_err _ _ _ h1)
    · split at h2
      · split at h2
        · cases h2; exact .inr (.inl rfl)
        · split at h2
          · cases h2; exact .inr (.inr rfl)
          · cases h2
      · split at h2
        · split at h2
          · cases h2; exact .inl rfl
          · cases h2
        · split at h2
          · cases h2
          · split at h2
            · cases h2
            · split at h2
              · cases h2
              · rcases andThen_err h2 with h3 | ⟨b, -, h4⟩
                · exact codeL_err _ body k h3
                · split at h4
                  · cases h4
                  · rcases andThen_err h4 with h5 | ⟨o, -, h6⟩
                    · exact codeL_err _ els k h5
                    · cases h6
theorem codeL_err (ns : Names) : ∀ (l : List St) (k : Int), codeL ns l = .err k → k = 131 ∨ k = 132 ∨ k = 5
  | [], k, h => by rw [codeL] at h; cases h
  | .mk op n name es body els :: r, k, h => by
    rw [codeL] at h
    rcases andThen_err h with h1 | ⟨cs, -, h2⟩
    · exact codeT_err ns _ k h1
    · rcases andThen_err h2 with h3 | ⟨b, -, h4⟩
      · exact codeL_err _ r k h3
      · cases h4
end
def markOf (op : Int) (name : List UInt8) : Names := if op = 1 then [name] else []
theorem tS_law (d : Nat) (ih : ∀ (l : List St) (s : TS), rightS d l = true → LisT s (tSs l s) (szSs l) (codeL s.names l)) (op n : Int) (name : List UInt8) (es : List Ex) (body els : List St) (s : TS) (h : right1 d (.mk op n name es body els) = true) :
    StT s (tS (.mk op n name es body els) s) (szS (.mk op n name es body els)) (markOf op name) (codeT s.names (.mk op n name es body els)) := by
  unfold right1 at h
  simp only [Bool.and_eq_true] at h
  obtain ⟨⟨hb, hl⟩, hh, hes⟩ := h
  obtain ⟨hop, hle, hlb, hll⟩ := headT_parts hh
  have HE := tEs_law es s (fun x hx s => tE_law 40 x s (List.all_eq_true.1 hes x hx))
  have hee : ∀ k, codeEs s.names es = .err k → k ≠ 0 := fun k hk => by have := codeEs_err _ _ _ hk; omega
  have more : ∀ {s' : TS} {z z' : Nat} {mk : Names} {r : CR (Code1 × Nat)}, StT s s' z mk r → z ≤ z' → StT s s' z' mk r := fun hx hz => ⟨hx.names, hx.inv, hx.le, by have := hx.len; omega, by have := hx.loc; omega, hx.keep, hx.ok, hx.bad⟩
  have hnb : (tEs es s).names = s.names := HE.names
  rw [szS]
  have h7 : op = 1 ∨ op = 2 ∨ op = 3 ∨ op = 4 ∨ op = 5 ∨ op = 6 ∨ op = 7 := by omega
  rcases h7 with rfl | rfl | rfl | rfl | rfl | rfl | rfl
  · rw [show tS (.mk 1 n name es body els) s = ((tEs es s).letN name).put 3 (tEs es s).names.length from rfl]
    refine more (StT.simple (s2 := (tEs es s).letN name) HE 3 _ rfl (TS.letN_code _ _) (markOf 1 name) (TS.letN_names _ _) (TS.letN_locals _ _) (by simp [markOf]) (if placeS name s.names 0 ≠ 0 then .err 132 else if 32 ≤ s.names.length then .err 5 else .ok 0) ?_ ?_ ?_ ?_ hee) (by omega)
    · intro e; rw [TS.letN_e, if_pos e]
    · intro e x hx
      rw [TS.letN_e, if_neg (by rw [e]; decide), hnb]
      by_cases h1 : placeS name s.names 0 ≠ 0
      · rw [if_pos h1] at hx; cases hx
      · rw [if_neg h1] at hx
        by_cases h2 : 32 ≤ s.names.length
        · rw [if_pos h2] at hx; cases hx
        · rw [if_neg h1, if_neg h2]
    · intro e k hk
      rw [TS.letN_e, if_neg (by rw [e]; decide), hnb]
      by_cases h1 : placeS name s.names 0 ≠ 0
      · rw [if_pos h1] at hk; cases hk; rw [if_pos h1]
      · rw [if_neg h1] at hk
        by_cases h2 : 32 ≤ s.names.length
        · rw [if_pos h2] at hk; cases hk; rw [if_neg h1, if_pos h2]
        · rw [if_neg h2] at hk; cases hk
    · rw [codeT, hnb]
      refine andThen_congr fun cs _ => ?_
      rw [if_pos rfl]
      by_cases h1 : placeS name s.names 0 ≠ 0
      · rw [if_pos h1, if_pos h1]; rfl
      · rw [if_neg h1, if_neg h1]
        by_cases h2 : 32 ≤ s.names.length
        · rw [if_pos h2, if_pos h2]; rfl
        · rw [if_neg h2, if_neg h2]; rfl
  · rw [show tS (.mk 2 n name es body els) s = ((tEs es s).slot name).put 3 ((placeS name (tEs es s).names 0 : Int) - 1) from rfl]
    refine more (StT.simple (s2 := (tEs es s).slot name) HE 3 _ rfl (TS.slot_code _ _) (markOf 2 name) (by rw [TS.slot_names]; simp [markOf]) (by rw [TS.slot_locals]; simp [markOf]) (by simp [markOf]) (if placeS name s.names 0 = 0 then .err 131 else .ok 0) ?_ ?_ ?_ ?_ hee) (by omega)
    · intro e; exact TS.slot_keep e _
    · intro e x hx
      by_cases h1 : placeS name s.names 0 = 0
      · rw [if_pos h1] at hx; cases hx
      · unfold TS.slot; rw [hnb, if_neg h1]; exact e
    · intro e k hk
      by_cases h1 : placeS name s.names 0 = 0
      · rw [if_pos h1] at hk; cases hk; unfold TS.slot; rw [hnb, if_pos h1]; exact TS.fail_new e _
      · rw [if_neg h1] at hk; cases hk
    · rw [codeT, hnb]
      refine andThen_congr fun cs _ => ?_
      rw [if_neg (by decide), if_pos rfl]
      by_cases h1 : placeS name s.names 0 = 0
      · rw [if_pos h1, if_pos h1]; rfl
      · rw [if_neg h1, if_neg h1]; rfl
  · rw [show tS (.mk 3 n name es body els) s = (tEs es s).put 5 n from rfl]
    exact more (StT.simple (s2 := tEs es s) HE 5 n rfl rfl (markOf 3 name) (by simp [markOf]) (by simp [markOf]) (by simp [markOf]) (.ok 0) (fun _ => rfl) (fun e _ _ => e) (fun _ k hk => by cases hk) (by rw [codeT]; rfl) hee) (by omega)
  · have HB := ih body ((tEs es s).put 12 0) hb
    rw [show ((tEs es s).put 12 0).names = s.names from hnb] at HB
    by_cases hel : els = []
    · rw [show tS (.mk 4 n name es body els) s = ((tSs body ((tEs es s).put 12 0)).back (tEs es s).names.length).patch (tEs es s).code.length from by rw [tS, if_neg (by decide), if_neg (by decide), if_neg (by decide), if_pos rfl, if_neg (by simp [hel])]]
      have e : codeT s.names (.mk 4 n name es body els) = (codeEs s.names es).andThen fun cs => (codeL s.names body).andThen fun b => .ok (ifC (joinAll cs) b.1 [] false, max b.2 s.names.length) := by
        rw [codeT, hel]; rfl
      rw [e]
      exact more (if_law HE HB (fun c hc => codeL_geq _ _ _ hc) hee) (by omega)
    · rw [show tS (.mk 4 n name es body els) s = (((tSs els ((((tSs body ((tEs es s).put 12 0)).back (tEs es s).names.length).put 11 0).patch (tEs es s).code.length)).back (tEs es s).names.length)).patch ((tSs body ((tEs es s).put 12 0)).code.length) from by rw [tS, if_neg (by decide), if_neg (by decide), if_neg (by decide), if_pos rfl, if_pos hel]]
      have e : codeT s.names (.mk 4 n name es body els) = (codeEs s.names es).andThen fun cs => (codeL s.names body).andThen fun b => (codeL s.names els).andThen fun o => .ok (ifC (joinAll cs) b.1 o.1 true, max b.2 o.2) := by
        rw [codeT, decide_eq_true hel]; rfl
      rw [e]
      have HL := ih els ((((tSs body ((tEs es s).put 12 0)).back (tEs es s).names.length).put 11 0).patch (tEs es s).code.length) hl
      have hnd : ((((tSs body ((tEs es s).put 12 0)).back (tEs es s).names.length).put 11 0).patch (tEs es s).code.length).names = s.names := by
        obtain ⟨x, hx, -⟩ := HB.names
        have := TS.back_names hx
        rw [show ((tEs es s).put 12 0).names = (tEs es s).names from rfl] at this
        rw [← hnb]; exact this
      rw [hnd] at HL
      exact more (else_law HE HB HL (fun c hc => codeL_geq _ _ _ hc) (fun c hc => codeL_geq _ _ _ hc) hee (fun k hk => by have := codeL_err _ _ _ hk; omega)) (by omega)
  · have HB := ih body ((tEs es s).put 12 0) hb
    rw [show ((tEs es s).put 12 0).names = s.names from hnb] at HB
    rw [show tS (.mk 5 n name es body els) s = (((tSs body ((tEs es s).put 12 0)).back (tEs es s).names.length).put 11 s.code.length).patch (tEs es s).code.length from rfl]
    have e : codeT s.names (.mk 5 n name es body els) = (codeEs s.names es).andThen fun cs => (codeL s.names body).andThen fun b => .ok (whileC (joinAll cs) b.1, b.2) := by
      rw [codeT]; rfl
    rw [e]
    exact more (while_law HE HB (fun c hc => codeL_geq _ _ _ hc) hee) (by omega)
  · have he0 : es = [] := List.eq_nil_of_length_eq_zero hle
    subst he0
    rw [show tS (.mk 6 n name [] body els) s = (tEs [] s).put 14 0 from rfl]
    exact more (StT.simple (s2 := tEs [] s) HE 14 0 rfl rfl (markOf 6 name) (by simp [markOf]) (by simp [markOf]) (by simp [markOf]) (.ok 0) (fun _ => rfl) (fun e _ _ => e) (fun _ k hk => by cases hk) (by rw [codeT]; rfl) hee) (by omega)
  · have he0 : es = [] := List.eq_nil_of_length_eq_zero hle
    subst he0
    rw [show tS (.mk 7 n name [] body els) s = (tEs [] s).put 15 0 from rfl]
    exact more (StT.simple (s2 := tEs [] s) HE 15 0 rfl rfl (markOf 7 name) (by simp [markOf]) (by simp [markOf]) (by simp [markOf]) (.ok 0) (fun _ => rfl) (fun e _ _ => e) (fun _ k hk => by cases hk) (by rw [codeT]; rfl) hee) (by omega)
theorem tSs_law : ∀ (d : Nat) (l : List St) (s : TS), rightS d l = true → LisT s (tSs l s) (szSs l) (codeL s.names l) := by
  intro d
  induction d with
  | zero =>
    intro l s h
    have : l = [] := by
      cases l with
      | nil => rfl
      | cons x r => cases h
    subst this
    exact LisT.nil s
  | succ d ih =>
    intro l
    induction l with
    | nil => intro s _; exact LisT.nil s
    | cons x r ihl =>
      intro s h
      rw [rightS_succ, List.all_cons, Bool.and_eq_true] at h
      obtain ⟨op, n, name, es, body, els⟩ := x
      have h1 := tS_law d ih op n name es body els s h.1
      have h2 := ihl (tS (.mk op n name es body els) s) (by rw [rightS_succ]; exact h.2)
      have hn : (tS (.mk op n name es body els) s).names = if op = 1 then s.names ++ [name] else s.names := by
        rw [h1.names]
        unfold markOf
        split
        · rfl
        · rw [List.append_nil]
      rw [hn] at h2
      rw [tSs, codeL, szSs]
      refine LisT.cons h1 h2 (by have := szS_pos (.mk op n name es body els); unfold markOf; split <;> simp; omega) (fun k hk => by have := codeT_err _ _ _ hk; omega) (fun c hc => ?_)
      have := codeL_geq _ _ _ hc
      unfold markOf
      split at this
      · rw [if_pos ‹_›]; simpa using this
      · rw [if_neg ‹_›]; simpa using this
end Go.Proofs.Ytdeneckmoejcfaa
