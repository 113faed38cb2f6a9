/- The errors of programs that get something in front, behind, or twice. Plain mathematics. -/
import Derived.Test.YtdeneckmoejcfaaFineSJ
import Derived.Test.YtdeneckmoejcfaaMaskMJ
set_option linter.unusedSimpArgs false
set_option linter.unusedVariables false
namespace Go.Proofs.Ytdeneckmoejcfaa

def letsS : List St → Names
  | [] => []
  | .mk op _ name _ _ _ :: r => (if op = 1 then [name] else []) ++ letsS r
theorem CR.andThen_assoc {α β γ : Type} (r : CR α) (f : α → CR β) (g : β → CR γ) : (r.andThen f).andThen g = r.andThen fun x => (f x).andThen g := by cases r <;> rfl
theorem codeL_cons (ns : Names) (x : St) (r : List St) : codeL ns (x :: r) = (codeT ns x).andThen fun c => (codeL (ns ++ letsS [x]) r).andThen fun d => .ok (joinC c.1 d.1, max c.2 d.2) := by
  obtain ⟨op, n, name, es, body, els⟩ := x
  rw [codeL]
  have e : (if op = 1 then ns ++ [name] else ns) = ns ++ letsS [.mk op n name es body els] := by
    unfold letsS letsS
    by_cases h : op = 1
    · rw [if_pos h, if_pos h, List.append_nil]
    · rw [if_neg h, if_neg h, List.append_nil, List.append_nil]
  rw [e]
theorem lets_cons (x : St) (r : List St) : letsS (x :: r) = letsS [x] ++ letsS r := by
  obtain ⟨op, n, name, es, body, els⟩ := x
  rw [letsS, letsS, letsS, List.append_nil]
theorem codeL_app_ok (k : List St) : ∀ (l : List St) (ns : Names) (r : Code1 × Nat), codeL ns l = .ok r → ∃ z : Code1 × Nat → Nat, codeL ns (l ++ k) = (codeL (ns ++ letsS l) k).andThen fun d => .ok (joinC r.1 d.1, z d) := by
  intro l
  induction l with
  | nil =>
    intro ns r h
    rw [codeL] at h
    cases h
    refine ⟨fun d => d.2, ?_⟩
    rw [List.nil_append, letsS, List.append_nil]
    cases codeL ns k with
    | err e => rfl
    | ok d => show CR.ok d = CR.ok (joinC [] d.1, d.2); rw [joinC_nil]
  | cons x t ih =>
    intro ns r h
    rw [codeL_cons] at h
    obtain ⟨c, h1, h2⟩ := CR.andThen_ok h
    obtain ⟨d, h3, h4⟩ := CR.andThen_ok h2
    cases h4
    obtain ⟨z, hz⟩ := ih _ _ h3
    refine ⟨fun q => max c.2 (z q), ?_⟩
    rw [List.cons_append, codeL_cons, h1]
    show (codeL (ns ++ letsS [x]) (t ++ k)).andThen _ = _
    have el : ns ++ letsS (x :: t) = ns ++ letsS [x] ++ letsS t := by rw [lets_cons x t, List.append_assoc]
    rw [hz, el, CR.andThen_assoc]
    congr 1
    funext q
    show CR.ok (joinC c.1 (joinC d.1 q.1), _) = CR.ok (joinC (joinC c.1 d.1) q.1, _)
    rw [joinC_assoc]
theorem codeL_app_err (k : List St) : ∀ (l : List St) (ns : Names) (e : Int), codeL ns l = .err e → codeL ns (l ++ k) = .err e := by
  intro l
  induction l with
  | nil => intro ns e h; rw [codeL] at h; cases h
  | cons x t ih =>
    intro ns e h
    rw [codeL_cons] at h
    rw [List.cons_append, codeL_cons]
    cases h1 : codeT ns x with
    | err j => rw [h1] at h; exact h
    | ok c =>
      rw [h1] at h
      have h : (codeL (ns ++ letsS [x]) t).andThen (fun d => CR.ok (joinC c.1 d.1, max c.2 d.2)) = .err e := h
      show (codeL (ns ++ letsS [x]) (t ++ k)).andThen _ = _
      cases h2 : codeL (ns ++ letsS [x]) t with
      | err j => rw [h2] at h; rw [ih _ _ h2]; exact h
      | ok d => rw [h2] at h; cases h
theorem codeL_app_pre (k : List St) (l : List St) (ns : Names) (r : Code1 × Nat) (h : codeL ns (l ++ k) = .ok r) : ∃ r', codeL ns l = .ok r' := by
  cases h1 : codeL ns l with
  | err e => rw [codeL_app_err k l ns e h1] at h; cases h
  | ok r' => exact ⟨r', rfl⟩
theorem right_app (l k : List St) : rightS 40 (l ++ k) = (rightS 40 l && rightS 40 k) := by
  rw [rightS_succ, rightS_succ, rightS_succ, List.all_append]
def stopS : St := .mk 6 0 [] [] [] []
/-- an error stays if a stop is put behind -/
theorem comp_stop {l : List St} {e : Int} (h : compS l = .err e) : compS (l ++ [stopS]) = .err e := by
  unfold compS at h ⊢
  have hr : rightS 40 [stopS] = true := by decide +kernel
  rw [right_app, hr, Bool.and_true]
  split at h
  · rename_i h0
    rw [if_pos h0]
    cases h1 : codeL [] l with
    | err j => rw [h1] at h; rw [codeL_app_err _ _ _ _ h1]; exact h
    | ok r =>
      rw [h1] at h
      obtain ⟨z, hz⟩ := codeL_app_ok [stopS] l [] r h1
      have hs : codeL ([] ++ letsS l) [stopS] = .ok ([⟨14, 0⟩], max 0 (letsS l).length) := by
        rw [codeL_cons]
        have : codeT ([] ++ letsS l) stopS = .ok ([⟨14, 0⟩], 0) := by unfold stopS codeT codeEs; rfl
        have e2 : letsS [stopS] = [] := by unfold stopS letsS letsS; rfl
        rw [this, codeL, e2, List.append_nil]
        rfl
      rw [hz, hs]
      have h : (if 4000 < r.1.length then CR.err 3 else CR.ok (ProgS.mk r.1 r.2 (maskC 4 r.1) (maskC 5 r.1))) = .err e := h
      split at h
      · cases h
        show (if 4000 < (joinC r.1 [⟨14, 0⟩]).length then CR.err 3 else _) = _
        rw [if_pos (by rw [joinC_len]; simp; omega)]
      · cases h
  · rename_i h0
    rw [if_neg h0]; exact h
def freeN : List UInt8 := [110, 111, 116, 95, 97, 95, 110, 97, 109, 101, 95, 111, 102, 95, 116, 104, 101, 95, 108, 105, 115, 116, 95]
def oneE : Ex := .mk 1 1 [] []
def setS : St := .mk 2 0 freeN [oneE] [] []
def readS : St := .mk 3 7 [] [oneE, .mk 2 0 freeN []] [] []
theorem right_ok {l : List St} {p : ProgS} (h : compS l = .ok p) : rightS 40 l = true ∧ ∃ r, codeL [] l = .ok r := by
  unfold compS at h
  split at h
  · rename_i h0
    obtain ⟨r, h1, _⟩ := CR.andThen_ok h
    exact ⟨h0, r, h1⟩
  · cases h
theorem err_one (ns : Names) : codeE ns oneE = .ok [⟨1, 1⟩] := by unfold oneE codeE; rfl
theorem err_free : codeE [] (.mk 2 0 freeN []) = .err 131 := by unfold codeE; rfl
theorem comp_set {l : List St} {p : ProgS} (h : compS l = .ok p) : compS (setS :: l) = .err 131 := by
  obtain ⟨h0, _⟩ := right_ok h
  have hr : rightS 40 [setS] = true := by decide +kernel
  unfold compS
  rw [show setS :: l = [setS] ++ l from rfl, right_app, hr, h0]
  have h1 : codeL [] ([setS] ++ l) = .err 131 := codeL_app_err l [setS] [] 131 (by
    rw [codeL_cons]
    have : codeT [] setS = .err 131 := by
      unfold setS codeT codeEs codeEs
      rw [err_one]; rfl
    rw [this]; rfl)
  rw [h1]; rfl
theorem comp_read {l : List St} {p : ProgS} (h : compS l = .ok p) : compS (readS :: l) = .err 131 := by
  obtain ⟨h0, _⟩ := right_ok h
  have hr : rightS 40 [readS] = true := by decide +kernel
  unfold compS
  rw [show readS :: l = [readS] ++ l from rfl, right_app, hr, h0]
  have h1 : codeL [] ([readS] ++ l) = .err 131 := codeL_app_err l [readS] [] 131 (by
    rw [codeL_cons]
    have : codeT [] readS = .err 131 := by
      unfold readS codeT codeEs codeEs codeEs
      rw [err_one, err_free]; rfl
    rw [this]; rfl)
  rw [h1]; rfl
theorem place_in (name : List UInt8) : ∀ (ns : Names) (k : Nat), placeS name (ns ++ [name]) k ≠ 0 := by
  intro ns
  induction ns with
  | nil => intro k; rw [List.nil_append, placeS, if_pos rfl]; omega
  | cons x r ih =>
    intro k
    rw [List.cons_append, placeS]
    split
    · omega
    · exact ih _
theorem lets_app (l k : List St) : letsS (l ++ k) = letsS l ++ letsS k := by
  induction l with
  | nil => rfl
  | cons x r ih => rw [List.cons_append, lets_cons, ih, lets_cons x r, List.append_assoc]
theorem comp_twice {l : List St} {p : ProgS} (h : compS l = .ok p) {i : Nat} {n : Int} {name : List UInt8} {es : List Ex} {body els : List St} (hx : l[i]? = some (.mk 1 n name es body els)) :
    compS (l.take (i + 1) ++ [.mk 1 n name es body els] ++ l.drop (i + 1)) = .err 132 ∨ compS (l.take (i + 1) ++ [.mk 1 n name es body els] ++ l.drop (i + 1)) = .err 131 := by
  obtain ⟨h0, r, hr⟩ := right_ok h
  obtain ⟨hlt, hgx⟩ := List.getElem?_eq_some_iff.1 hx
  have hsplit : l = l.take (i + 1) ++ l.drop (i + 1) := (List.take_append_drop _ _).symm
  have htk : l.take (i + 1) = l.take i ++ [.mk 1 n name es body els] := by rw [List.take_succ_eq_append_getElem hlt, hgx]
  have hrt : rightS 40 (l.take (i + 1) ++ [.mk 1 n name es body els] ++ l.drop (i + 1)) = true := by
    rw [hsplit, right_app, htk, right_app] at h0
    simp only [Bool.and_eq_true] at h0
    rw [right_app, right_app, htk, right_app, h0.1.1, h0.1.2, h0.2]; rfl
  rw [hsplit] at hr
  obtain ⟨r1, h1⟩ := codeL_app_pre _ _ _ _ hr
  obtain ⟨z, hz⟩ := codeL_app_ok [.mk 1 n name es body els] _ [] r1 h1
  have hns : ([] : Names) ++ letsS (l.take (i + 1)) = letsS (l.take i) ++ [name] := by
    rw [List.nil_append, htk, lets_app]
    congr 1
  have he : ∃ k, (k = 132 ∨ k = 131) ∧ codeL ([] ++ letsS (l.take (i + 1))) [.mk 1 n name es body els] = .err k := by
    rw [hns, codeL_cons]
    cases hc : codeEs (letsS (l.take i) ++ [name]) es with
    | err k =>
      have ht : codeT (letsS (l.take i) ++ [name]) (.mk 1 n name es body els) = .err 131 := by
        unfold codeT
        rw [hc, codeEs_err _ _ _ hc]; rfl
      exact ⟨131, .inr rfl, by rw [ht]; rfl⟩
    | ok cs =>
      have ht : codeT (letsS (l.take i) ++ [name]) (.mk 1 n name es body els) = .err 132 := by
        unfold codeT
        rw [hc]
        simp only [CR.andThen, if_true, if_pos (place_in name (letsS (l.take i)) 0)]
      exact ⟨132, .inl rfl, by rw [ht]; rfl⟩
  obtain ⟨k, hk, hek⟩ := he
  have hf : codeL [] (l.take (i + 1) ++ [.mk 1 n name es body els] ++ l.drop (i + 1)) = .err k := codeL_app_err _ _ _ _ (by rw [hz, hek]; rfl)
  have hg : compS (l.take (i + 1) ++ [.mk 1 n name es body els] ++ l.drop (i + 1)) = .err k := by
    unfold compS
    rw [if_pos hrt, hf]; rfl
  rcases hk with rfl | rfl
  · exact .inl hg
  · exact .inr hg
end Go.Proofs.Ytdeneckmoejcfaa
