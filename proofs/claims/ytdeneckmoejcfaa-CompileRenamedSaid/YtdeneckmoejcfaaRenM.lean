/- With other names that stay different the code of a program is the same. Plain mathematics. -/
import Derived.Test.YtdeneckmoejcfaaFineSJ
import Derived.Test.YtdeneckmoejcfaaMaskMJ
set_option linter.unusedSimpArgs false
set_option linter.unusedVariables false
namespace Go.Proofs.Ytdeneckmoejcfaa

mutual
def renE (m : List UInt8) : Ex → Ex
  | .mk op n name args => .mk op n (if op = 2 then name ++ m else name) (renEs m args)
def renEs (m : List UInt8) : List Ex → List Ex
  | [] => []
  | x :: r => renE m x :: renEs m r
end
mutual
def renS (m : List UInt8) : St → St
  | .mk op n name es body els => .mk op n (if op = 1 ∨ op = 2 then name ++ m else name) (renEs m es) (renSs m body) (renSs m els)
def renSs (m : List UInt8) : List St → List St
  | [] => []
  | x :: r => renS m x :: renSs m r
end
theorem renEs_len (m : List UInt8) (xs : List Ex) : (renEs m xs).length = xs.length := by
  induction xs with
  | nil => rfl
  | cons x r ih => rw [renEs, List.length_cons, ih, List.length_cons]
theorem renSs_len (m : List UInt8) (xs : List St) : (renSs m xs).length = xs.length := by
  induction xs with
  | nil => rfl
  | cons x r ih => rw [renSs, List.length_cons, ih, List.length_cons]
theorem renEs_map (m : List UInt8) (xs : List Ex) : renEs m xs = xs.map (renE m) := by
  induction xs with
  | nil => rfl
  | cons x r ih => rw [renEs, ih]; rfl
theorem renSs_map (m : List UInt8) (xs : List St) : renSs m xs = xs.map (renS m) := by
  induction xs with
  | nil => rfl
  | cons x r ih => rw [renSs, ih]; rfl
theorem renEs_take {m : List UInt8} {xs : List Ex} {k : Nat} {x : Ex} (h : xs[k]? = some x) : renEs m (xs.take (k + 1)) = renEs m (xs.take k) ++ [renE m x] := by
  obtain ⟨hlt, rfl⟩ := List.getElem?_eq_some_iff.1 h
  rw [List.take_succ_eq_append_getElem hlt, renEs_map, renEs_map, List.map_append]; rfl
theorem renSs_take {m : List UInt8} {xs : List St} {k : Nat} {x : St} (h : xs[k]? = some x) : renSs m (xs.take (k + 1)) = renSs m (xs.take k) ++ [renS m x] := by
  obtain ⟨hlt, rfl⟩ := List.getElem?_eq_some_iff.1 h
  rw [List.take_succ_eq_append_getElem hlt, renSs_map, renSs_map, List.map_append]; rfl
theorem place_ren (m name : List UInt8) : ∀ (ns : Names) (k : Nat), placeS (name ++ m) (ns.map (· ++ m)) k = placeS name ns k := by
  intro ns
  induction ns with
  | nil => intro k; rfl
  | cons x r ih =>
    intro k
    rw [List.map_cons, placeS, placeS, ih]
    by_cases h : x = name
    · rw [if_pos (by rw [h]), if_pos h]
    · rw [if_neg (fun e => h (List.append_cancel_right e)), if_neg h]
mutual
theorem codeE_ren (m : List UInt8) (ns : Names) : ∀ (x : Ex), codeE (ns.map (· ++ m)) (renE m x) = codeE ns x
  | .mk op n name args => by
    rw [renE]
    unfold codeE
    rw [codeEs_ren m ns args]
    by_cases h2 : op = 2
    · subst h2; simp only [if_true, place_ren]
    · simp only [if_neg h2]
theorem codeEs_ren (m : List UInt8) (ns : Names) : ∀ (xs : List Ex), codeEs (ns.map (· ++ m)) (renEs m xs) = codeEs ns xs
  | [] => by rw [renEs]; rfl
  | x :: r => by
    rw [renEs]
    unfold codeEs
    rw [codeE_ren m ns x, codeEs_ren m ns r]
end
mutual
theorem codeT_ren (m : List UInt8) (ns : Names) : ∀ (x : St), codeT (ns.map (· ++ m)) (renS m x) = codeT ns x
  | .mk op n name es body els => by
    rw [renS]
    unfold codeT
    rw [codeEs_ren m ns es, codeL_ren m ns body, codeL_ren m ns els, List.length_map]
    have e : decide (renSs m els ≠ []) = decide (els ≠ []) := by cases els <;> simp [renSs]
    rw [e]
    by_cases h : op = 1 ∨ op = 2
    · simp only [if_pos h, place_ren]
    · have h1 : ¬ op = 1 := fun e => h (.inl e)
      have h2 : ¬ op = 2 := fun e => h (.inr e)
      simp only [if_neg h1, if_neg h2]
theorem codeL_ren (m : List UInt8) (ns : Names) : ∀ (l : List St), codeL (ns.map (· ++ m)) (renSs m l) = codeL ns l
  | [] => by
    rw [renSs]
    unfold codeL
    rw [List.length_map]
  | .mk op n name es body els :: r => by
    rw [renSs]
    have ht := codeT_ren m ns (.mk op n name es body els)
    rw [renS] at ht ⊢
    unfold codeL
    rw [ht]
    have e : (if op = 1 then ns.map (· ++ m) ++ [if op = 1 ∨ op = 2 then name ++ m else name] else ns.map (· ++ m)) = (if op = 1 then ns ++ [name] else ns).map (· ++ m) := by
      by_cases h1 : op = 1
      · rw [if_pos h1, if_pos h1, if_pos (.inl h1), List.map_append]; rfl
      · rw [if_neg h1, if_neg h1]
    rw [e, codeL_ren m _ r]
end
theorem comp_ren (m : List UInt8) {l : List St} (h1 : rightS 40 l = true) (h2 : rightS 40 (renSs m l) = true) : compS (renSs m l) = compS l := by
  unfold compS
  rw [if_pos h1, if_pos h2]
  have h := codeL_ren m [] l
  rw [List.map_nil] at h
  rw [h]
mutual
theorem szE_ren (m : List UInt8) (hm : m.length ≤ 2) : ∀ (x : Ex), szE (renE m x) ≤ 2 * szE x
  | .mk op n name args => by
    have h := szEs_ren m hm args
    rw [renE, szE, szE]
    split
    · rw [List.length_append]; omega
    · omega
theorem szEs_ren (m : List UInt8) (hm : m.length ≤ 2) : ∀ (xs : List Ex), szEs (renEs m xs) ≤ 2 * szEs xs
  | [] => by rw [renEs, szEs]; omega
  | x :: r => by
    have h1 := szE_ren m hm x
    have h2 := szEs_ren m hm r
    rw [renEs, szEs, szEs]; omega
end
mutual
theorem szS_ren (m : List UInt8) (hm : m.length ≤ 2) : ∀ (x : St), szS (renS m x) ≤ 2 * szS x
  | .mk op n name es body els => by
    have h := szEs_ren m hm es
    have h1 := szSs_ren m hm body
    have h2 := szSs_ren m hm els
    rw [renS, szS, szS]
    split
    · rw [List.length_append]; omega
    · omega
theorem szSs_ren (m : List UInt8) (hm : m.length ≤ 2) : ∀ (xs : List St), szSs (renSs m xs) ≤ 2 * szSs xs
  | [] => by rw [renSs, szSs]; omega
  | x :: r => by
    have h1 := szS_ren m hm x
    have h2 := szSs_ren m hm r
    rw [renSs, szSs, szSs]; omega
end
mutual
theorem okE_ren (m : List UInt8) (hm : m.length ≤ 2) : ∀ (x : Ex), szE x ≤ 1000000 → okE x → okE (renE m x)
  | .mk op n name args, hs, h => by
    rw [szE] at hs
    obtain ⟨h1, h2, h3, h4⟩ := h
    have h5 := okEs_ren m hm args (by omega) h4
    rw [renE]
    refine ⟨h1, h2, ?_, h5⟩
    split
    · rw [List.length_append]; omega
    · exact h3
theorem okEs_ren (m : List UInt8) (hm : m.length ≤ 2) : ∀ (xs : List Ex), szEs xs ≤ 1000000 → okEs xs → okEs (renEs m xs)
  | [], _, _ => by rw [renEs]; trivial
  | x :: r, hs, h => by
    rw [szEs] at hs
    rw [renEs]
    exact ⟨okE_ren m hm x (by omega) h.1, okEs_ren m hm r (by omega) h.2⟩
end
mutual
theorem okS_ren (m : List UInt8) (hm : m.length ≤ 2) : ∀ (x : St), szS x ≤ 1000000 → okS x → okS (renS m x)
  | .mk op n name es body els, hs, h => by
    rw [szS] at hs
    obtain ⟨h1, h2, h3, h4, h5, h6⟩ := h
    rw [renS]
    refine ⟨h1, h2, ?_, okEs_ren m hm es (by omega) h4, okSs_ren m hm body (by omega) h5, okSs_ren m hm els (by omega) h6⟩
    split
    · rw [List.length_append]; omega
    · exact h3
theorem okSs_ren (m : List UInt8) (hm : m.length ≤ 2) : ∀ (xs : List St), szSs xs ≤ 1000000 → okSs xs → okSs (renSs m xs)
  | [], _, _ => by rw [renSs]; trivial
  | x :: r, hs, h => by
    rw [szSs] at hs
    rw [renSs]
    exact ⟨okS_ren m hm x (by omega) h.1, okSs_ren m hm r (by omega) h.2⟩
end
end Go.Proofs.Ytdeneckmoejcfaa
