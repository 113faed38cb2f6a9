/- The parser looks at kinds, texts and numbers of tokens only: the joined tokens of a source are parsed to the same. Plain mathematics. -/
import Derived.Test.YtoaojdobjinhfaaGreatDoorBackMY
import Derived.Test.YtoaojdobjinhfaaGreatDoorJoinMY
set_option linter.unusedSimpArgs false
set_option linter.unusedVariables false
namespace Go.Proofs.YtoaojdobjinhfaaGreatDoor

/-- tokens that differ in their places alone -/
structure Alike (l m : List Tok) : Prop where
  len : l.length = m.length
  kind : ∀ i, (tokAt l i).kind = (tokAt m i).kind
  text : ∀ i, (tokAt l i).text = (tokAt m i).text
  n : ∀ i, (tokAt l i).n = (tokAt m i).n
theorem alike_of {l m : List Tok} (h : l.map Tok.bare = m.map Tok.bare) : Alike l m := by
  have hl : l.length = m.length := by have := congrArg List.length h; simpa using this
  have hb : ∀ i, (tokAt l i).bare = (tokAt m i).bare := by
    intro i
    have h1 : (l.map Tok.bare)[i]? = (m.map Tok.bare)[i]? := by rw [h]
    rw [List.getElem?_map, List.getElem?_map] at h1
    unfold tokAt
    rw [List.getD_eq_getElem?_getD, List.getD_eq_getElem?_getD]
    cases h2 : l[i]? with
    | none =>
      cases h3 : m[i]? with
      | none => rfl
      | some y => rw [h2, h3] at h1; cases h1
    | some x =>
      cases h3 : m[i]? with
      | none => rw [h2, h3] at h1; cases h1
      | some y =>
        rw [h2, h3] at h1
        simp only [Option.map_some, Option.some.injEq] at h1
        exact h1
  refine ⟨hl, fun i => ?_, fun i => ?_, fun i => ?_⟩
  · exact congrArg (fun p => p.1) (hb i)
  · exact congrArg (fun p => p.2.1) (hb i)
  · exact congrArg (fun p => p.2.2) (hb i)
theorem isS_same {l m : List Tok} (h : Alike l m) : isS l = isS m := by
  funext i s; unfold isS; rw [h.kind, h.text]
theorem signAt_same {l m : List Tok} (h : Alike l m) : signAt l = signAt m := by
  funext i; unfold signAt; rw [h.kind, h.text]
theorem strongAt_same {l m : List Tok} (h : Alike l m) : strongAt l = strongAt m := by
  funext i; unfold strongAt; rw [signAt_same h]
theorem enterS_same {l m : List Tok} (h : Alike l m) : enterS l = enterS m := by
  funext i s o; unfold enterS; rw [isS_same h]
theorem tailS_same {l m : List Tok} (h : Alike l m) (E : Nat → Nat → Nat → PR Ex) : tailS l E = tailS m E := by
  funext f
  induction f with
  | zero => funext x i o b; rfl
  | succ f ih => funext x i o b; simp only [tailS, strongAt_same h, signAt_same h, ih]
theorem moreS_same {l m : List Tok} (h : Alike l m) (E : Nat → Nat → Nat → PR Ex) : moreS l E = moreS m E := by
  funext o stop f
  induction f with
  | zero => funext xs i; simp only [moreS, isS_same h]
  | succ f ih => funext xs i; simp only [moreS, isS_same h, ih]
theorem insideS_same {l m : List Tok} (h : Alike l m) (E : Nat → Nat → Nat → PR Ex) : insideS l E = insideS m E := by
  funext i o s t k; unfold insideS; rw [enterS_same h, moreS_same h]
theorem operandS_same {l m : List Tok} (h : Alike l m) (E : Nat → Nat → Nat → PR Ex) : operandS l E = operandS m E := by
  funext i o; unfold operandS; rw [h.kind, h.n, h.text, isS_same h, insideS_same h]
theorem unaryS_same {l m : List Tok} (h : Alike l m) (E : Nat → Nat → Nat → PR Ex) : unaryS l E = unaryS m E := by
  funext f
  induction f with
  | zero => funext i o; rfl
  | succ f ih => funext i o; simp only [unaryS, isS_same h, operandS_same h, ih]
theorem exprS_same {l m : List Tok} (h : Alike l m) : exprS l = exprS m := by
  funext f
  induction f with
  | zero => funext i o b; rfl
  | succ f ih => funext i o b; simp only [exprS, ih, unaryS_same h, tailS_same h, h.len]
theorem exprT_same {l m : List Tok} (h : Alike l m) : exprT l = exprT m := by
  funext i o b; unfold exprT; rw [exprS_same h, h.len]
theorem valueT_same {l m : List Tok} (h : Alike l m) : valueT l = valueT m := by
  funext i o; unfold valueT; rw [isS_same h, exprT_same h]
theorem stmtsS_same {l m : List Tok} (h : Alike l m) (S : Nat → Nat → PR St) : stmtsS l S = stmtsS m S := by
  funext o f
  induction f with
  | zero => funext xs i; rfl
  | succ f ih => funext xs i; simp only [stmtsS, isS_same h, ih]
theorem blockS_same {l m : List Tok} (h : Alike l m) (S : Nat → Nat → PR St) : blockS l S = blockS m S := by
  funext i o; unfold blockS; rw [enterS_same h, stmtsS_same h, h.len]
theorem branchS_same {l m : List Tok} (h : Alike l m) (S : Nat → Nat → PR St) : branchS l S = branchS m S := by
  funext f
  induction f with
  | zero => funext i o; rfl
  | succ f ih => funext i o; simp only [branchS, isS_same h, insideS_same h, exprT_same h, blockS_same h, ih]
theorem stmtS_same {l m : List Tok} (h : Alike l m) : stmtS l = stmtS m := by
  funext f
  induction f with
  | zero => funext i o; rfl
  | succ f ih => funext i o; simp only [stmtS, isS_same h, insideS_same h, exprT_same h, branchS_same h, valueT_same h, h.kind, h.text, h.len, ih]
theorem allS_same {l m : List Tok} (h : Alike l m) : allS l = allS m := by
  funext f
  induction f with
  | zero => funext xs i; rfl
  | succ f ih => funext xs i; simp only [allS, stmtT, stmtS_same h, h.kind, h.len, ih]
theorem join_cons2 {t : Tok} {ts : List Tok} (h : t.kind ≠ 4) : (joinS (t :: ts)).length ≤ t.text.length + 1 + (joinS ts).length := by
  unfold joinS
  have e : textsS (t :: ts) = t.text :: textsS ts := by unfold textsS; simp [h]
  rw [e, Lib.join_cons]
  cases hx : textsS ts with
  | nil => simp [Lib.joinTail, Lib.join]
  | cons y r =>
    rw [Lib.join_cons]
    simp [Lib.joinTail]
    omega
theorem lexF_joins : ∀ (n : Nat) (bs : List UInt8), bs.length ≤ n → ∀ (l c : Int) (ts : List Tok), lexF bs l c = .ok ts → (joinS ts).length ≤ 2 * bs.length := by
  intro n
  induction n with
  | zero =>
    intro bs hb l c ts h
    obtain rfl : bs = [] := List.eq_nil_of_length_eq_zero (by omega)
    rw [lexF_nil] at h
    cases h
    simp [joinS, textsS, Lib.join]
  | succ n ih =>
    intro bs hb l c ts h
    rw [lexF_eq] at h
    have hsl := skip_len bs false l c
    generalize (skipS bs false l c).1 = bs' at *
    generalize (skipS bs false l c).2.1 = l' at *
    generalize (skipS bs false l c).2.2 = c' at *
    rcases lexT_cases bs' l' c' with ⟨_, h1⟩ | ⟨code, _, h1, _⟩ | ⟨t, ht, _, _, h2, h3, h1⟩
    · rw [h1] at h
      cases h
      simp [joinS, textsS, Lib.join]
    · rw [h1] at h; cases h
    · rw [h1] at h
      have ht1 : 1 ≤ t.text.length := List.length_pos_iff.2 ht.text
      cases hr : lexF (bs'.drop t.text.length) l' (c' + t.text.length) with
      | err a b c => rw [hr] at h; cases h
      | ok m =>
        rw [hr] at h
        cases h
        have hl : (bs'.drop t.text.length).length = bs'.length - t.text.length := List.length_drop
        have h5 := ih _ (by omega) _ _ _ hr
        have h6 := join_cons2 (ts := m) ht.kind
        omega
/-- the answer of Parse without the place of an error -/
def ParR.core : ParR → List St × Int
  | .ok xs => (xs, 0)
  | .err _ _ c => ([], c)
theorem parse_join {s : List UInt8} {ts : List Tok} (h : lexS s = .ok ts) (hs : s.length ≤ 8192) : (joinS ts).length ≤ 16384 ∧ (parseS (joinS ts)).core = (parseS s).core := by
  have h0 := h
  rw [lexS_eq, if_neg (by omega)] at h0
  have hj := lexF_joins _ s (Nat.le_refl _) _ _ _ h0
  refine ⟨by omega, ?_⟩
  obtain ⟨ms, h1, h2, -⟩ := joined_same h0
  have hm : lexS (joinS ts) = .ok ms := by rw [lexS_eq, if_neg (by omega), h1]
  have ha := alike_of h2
  unfold parseS
  rw [h, hm]
  simp only []
  rw [allS_same ha, ha.len]
  cases allS ts (ts.length + 1) [] 0 with
  | ok xs j => rfl
  | err a c => rfl
end Go.Proofs.YtoaojdobjinhfaaGreatDoor
