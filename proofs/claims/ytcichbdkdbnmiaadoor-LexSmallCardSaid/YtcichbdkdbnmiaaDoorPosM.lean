/- Lexing by places: one step at a place of the source. Plain mathematics. -/
import Derived.Test.YtcichbdkdbnmiaaDoorPPlace
import Derived.Test.YtcichbdkdbnmiaaDoorJoinM
namespace Go.Proofs.YtcichbdkdbnmiaaDoor
open Go.RowKit

theorem skip_any : ∀ (bs : List UInt8) (cm : Bool) (l c l' c' : Int), (skipS bs cm l c).1 = (skipS bs cm l' c').1 := by
  intro bs
  induction bs with
  | nil => intro cm l c l' c'; rfl
  | cons b r ih =>
    intro cm l c l' c'
    rw [skipS, skipS]
    split
    · exact ih _ _ _ _ _
    · split
      · exact ih _ _ _ _ _
      · split
        · exact ih _ _ _ _ _
        · split
          · exact ih _ _ _ _ _
          · rfl
/-- how many bytes are blanks and comments -/
def skN (bs : List UInt8) : Nat := bs.length - (skipS bs false 1 1).1.length
theorem skN_le (bs : List UInt8) : skN bs ≤ bs.length := Nat.sub_le _ _
theorem skip_skN (bs : List UInt8) (l c : Int) : skipS bs false l c = (bs.drop (skN bs), posS (bs.take (skN bs)) l c) := by
  obtain ⟨n, hn, h1, h2⟩ := skip_drop bs false l c
  have h3 : (skipS bs false 1 1).1 = bs.drop n := by rw [← h1]; exact skip_any _ _ _ _ _ _
  have e : skN bs = n := by
    unfold skN
    rw [h3, List.length_drop]
    omega
  rw [e, ← h1, ← h2]
theorem plS_add (s : List UInt8) (a n : Nat) : plS s (a + n) = posS ((s.drop a).take n) (plS s a).1 (plS s a).2 := by
  unfold plS
  rw [List.take_add, posS_append]
theorem posS_flat : ∀ (bs : List UInt8) (l c : Int), (∀ b ∈ bs, b.toNat ≠ 10) → posS bs l c = (l, c + bs.length) := by
  intro bs
  induction bs with
  | nil => intro l c _; simp [posS]
  | cons b r ih =>
    intro l c h
    rw [posS, if_neg (h b (by simp)), ih l (c + 1) (fun x hx => h x (by simp [hx]))]
    simp only [List.length_cons]
    congr 1
    omega
theorem part_flat {bs : List UInt8} (h : bs.all partB = true) : ∀ b ∈ bs, b.toNat ≠ 10 := fun b hb e => by
  have := List.all_eq_true.1 h b hb
  simp only [partB, letterB, letterI, digitB, digitI, Bool.or_eq_true, Bool.and_eq_true, decide_eq_true_eq, beq_iff_eq] at this
  omega
theorem sign_flat {bs : List UInt8} (h : signLen bs = bs.length) : ∀ b ∈ bs, b.toNat ≠ 10 := by
  intro b hb e
  match bs, h, hb with
  | [], _, hb => cases hb
  | [a], h, hb =>
    obtain rfl : b = a := by simpa using hb
    simp only [signLen, oneSigns] at h
    rw [e] at h
    simp at h
  | [a, d], h, hb =>
    simp only [signLen, List.length_cons, List.length_nil] at h
    split at h
    · rename_i h2
      simp only [twoSigns, List.mem_cons, Prod.mk.injEq, List.not_mem_nil, or_false] at h2
      rcases List.mem_cons.1 hb with rfl | hb
      · omega
      · obtain rfl : b = d := by simpa using hb
        omega
    · split at h <;> simp at h
  | a :: d :: f :: r, h, _ =>
    have := sign_le2 (a :: d :: f :: r)
    rw [h] at this
    simp at this
theorem TokOk.flat {t : Tok} (h : TokOk t) : ∀ b ∈ t.text, b.toNat ≠ 10 := by
  cases h with
  | word h1 h2 h3 => exact part_flat h2
  | number h0 h1 h2 h3 => exact part_flat h2
  | sign h0 h1 h2 => exact sign_flat h2
/-- .. how a token ends -/
theorem lexT_ends {bs : List UInt8} {l c : Int} {t : Tok} {us : List Tok} (h : lexT bs l c = .ok (t :: us)) (hk : t.kind ≠ 4) :
    (t.kind ≠ 3 → (bs.drop t.text.length).head?.all (fun b => !partB b) = true) ∧ (t.kind = 3 → ∀ a b r, t.text = [a] → bs = a :: b :: r → ¬ (a.toNat, b.toNat) ∈ twoSigns) := by
  have hcons : ∀ {r : LexR} {x : Tok}, r.cons x = .ok (t :: us) → t = x := by
    intro r x h
    cases r with
    | ok m => cases h; rfl
    | err a b c => cases h
  cases bs with
  | nil => rw [lexT_nil] at h; cases h; exact absurd rfl hk
  | cons b r =>
    have hT : lexT (b :: r) l c = lexTok lexF (b :: r) l c := rfl
    rw [hT, lexTok] at h
    split at h
    · split at h
      · cases h
      · have := hcons h
        subst this
        exact ⟨fun _ => run_first _, fun h => by cases h⟩
    · split at h
      · split at h
        · cases h
        · have := hcons h
          subst this
          exact ⟨fun _ => run_first _, fun h => by cases h⟩
      · split at h
        · cases h
        · rename_i hs
          have := hcons h
          subst this
          refine ⟨fun h => absurd rfl h, fun _ a d r' ht hb hm => ?_⟩
          cases hb
          have e : signLen (b :: d :: r') = 2 := by simp only [signLen]; rw [if_pos hm]
          have ht' : (b :: d :: r').take (signLen (b :: d :: r')) = [b] := ht
          rw [e] at ht'
          cases ht'
/-- one step at a place -/
theorem lex_step {s : List UInt8} {a : Nat} (ha : a ≤ s.length) {ts : List Tok} (h : lexF (s.drop a) (plS s a).1 (plS s a).2 = .ok ts) :
    ∃ j, j = a + skN (s.drop a) ∧ j ≤ s.length ∧ ((j = s.length ∧ ts = [endT (plS s j).1 (plS s j).2]) ∨
      ∃ t us, ts = t :: us ∧ TokOk t ∧ t.line = (plS s j).1 ∧ t.col = (plS s j).2 ∧ s.drop j = t.text ++ s.drop (j + t.text.length) ∧ j + t.text.length ≤ s.length ∧
        lexF (s.drop (j + t.text.length)) (plS s (j + t.text.length)).1 (plS s (j + t.text.length)).2 = .ok us ∧
        (t.kind ≠ 3 → (s.drop (j + t.text.length)).head?.all (fun b => !partB b) = true) ∧ (t.kind = 3 → ∀ x y r, t.text = [x] → s.drop j = x :: y :: r → ¬ (x.toNat, y.toNat) ∈ twoSigns)) := by
  have hle := skN_le (s.drop a)
  rw [List.length_drop] at hle
  refine ⟨a + skN (s.drop a), rfl, by omega, ?_⟩
  rw [lexF_eq, skip_skN] at h
  simp only [] at h
  rw [List.drop_drop, ← plS_add] at h
  generalize hj : a + skN (s.drop a) = j at *
  have hj2 : j ≤ s.length := by omega
  have h0 := h
  rcases lexT_cases (s.drop j) (plS s j).1 (plS s j).2 with ⟨h1, h2⟩ | ⟨code, _, h1, _⟩ | ⟨t, ht, h1, h2, h3, h4, h5⟩
  · rw [h2] at h
    cases h
    have := congrArg List.length h1
    rw [List.length_drop] at this
    exact .inl ⟨by simp at this; omega, rfl⟩
  · rw [h1] at h; cases h
  · refine .inr ?_
    rw [h5, List.drop_drop] at h
    rw [List.length_drop] at h4
    rw [List.drop_drop] at h3
    have hp : plS s (j + t.text.length) = ((plS s j).1, (plS s j).2 + t.text.length) := by
      rw [plS_add, posS_flat]
      · congr 2
        rw [List.length_take, List.length_drop]; omega
      · intro b hb
        rw [h3, List.take_left] at hb
        exact ht.flat b hb
    cases hr : lexF (s.drop (j + t.text.length)) (plS s j).1 ((plS s j).2 + t.text.length) with
    | err x y z => rw [hr] at h; cases h
    | ok us =>
      rw [hr] at h
      cases h
      have he := lexT_ends h0 ht.kind
      rw [List.drop_drop] at he
      exact ⟨t, us, rfl, ht, h1, h2, h3, by omega, by rw [hp]; exact hr, he.1, he.2⟩
end Go.Proofs.YtcichbdkdbnmiaaDoor
