/- How far a scanner goes on, and the place behind. Plain mathematics. -/
import Derived.Test.YtcichbdkdbnmiaaDoorLexM
namespace Go.Proofs.YtcichbdkdbnmiaaDoor

/-- the line and the column behind bytes -/
def posS : List UInt8 → Int → Int → Int × Int
  | [], l, c => (l, c)
  | b :: r, l, c => if b.toNat = 10 then posS r (l + 1) 1 else posS r l (c + 1)
theorem posS_append : ∀ (xs ys : List UInt8) (l c : Int), posS (xs ++ ys) l c = posS ys (posS xs l c).1 (posS xs l c).2 := by
  intro xs
  induction xs with
  | nil => intro ys l c; rfl
  | cons b r ih =>
    intro ys l c
    simp only [List.cons_append, posS]
    split
    · exact ih _ _ _
    · exact ih _ _ _
/-- how many bytes in front p takes, asked of each with its number -/
def runK (p : Nat → UInt8 → Bool) : Nat → List UInt8 → Nat
  | _, [] => 0
  | k, b :: r => if p k b = true then runK p (k + 1) r + 1 else 0
theorem runK_le (p : Nat → UInt8 → Bool) : ∀ (bs : List UInt8) (k : Nat), runK p k bs ≤ bs.length := by
  intro bs
  induction bs with
  | nil => intro k; exact Nat.le_refl _
  | cons b r ih => intro k; rw [runK]; split; have := ih (k + 1); simp only [List.length_cons]; omega; simp
theorem runK_all (p : UInt8 → Bool) : ∀ (bs : List UInt8) (k : Nat), runK (fun _ => p) k bs = (bs.takeWhile p).length := by
  intro bs
  induction bs with
  | nil => intro k; rfl
  | cons b r ih =>
    intro k
    rw [runK, ih (k + 1)]
    by_cases h : p b = true
    · simp [h]
    · simp [h]
/-- a count alone -/
theorem runK_count (m : Nat) : ∀ (bs : List UInt8) (k : Nat), k ≤ m → m ≤ k + bs.length → runK (fun j _ => decide (j < m)) k bs = m - k := by
  intro bs
  induction bs with
  | nil => intro k h1 h2; simp at h2; rw [runK]; omega
  | cons b r ih =>
    intro k h1 h2
    rw [runK]
    simp only [List.length_cons] at h2
    by_cases h : k < m
    · rw [if_pos (by simpa using h), ih (k + 1) (by omega) (by omega)]; omega
    · rw [if_neg (by simpa using h)]; omega
def blankI (b : Int) : Bool := (b == 32) || ((b == 9) || (b == 10))
def blankB (b : UInt8) : Bool := blankI (b.toNat : Int)
def insideI (b : Int) : Bool := b != 10
def insideB (b : UInt8) : Bool := insideI (b.toNat : Int)
def partI (b : Int) : Bool := letterI b || digitI b
theorem blank_iff (b : UInt8) : blankB b = true ↔ b.toNat = 32 ∨ b.toNat = 9 ∨ b.toNat = 10 := by
  unfold blankB blankI
  simp only [Bool.or_eq_true, beq_iff_eq]
  omega
theorem inside_iff (b : UInt8) : insideB b = true ↔ b.toNat ≠ 10 := by
  unfold insideB insideI
  simp only [bne_iff_ne, ne_eq]
  omega
/-- blanks are skipped .. -/
theorem skip_blanks : ∀ (bs : List UInt8) (l c : Int), skipS bs false l c = skipS (bs.drop (bs.takeWhile blankB).length) false (posS (bs.take (bs.takeWhile blankB).length) l c).1 (posS (bs.take (bs.takeWhile blankB).length) l c).2 := by
  intro bs
  induction bs with
  | nil => intro l c; rfl
  | cons b r ih =>
    intro l c
    by_cases h : blankB b = true
    · simp only [List.takeWhile_cons, h, if_true, List.length_cons, List.drop_succ_cons, List.take_succ_cons, posS]
      rcases (blank_iff b).1 h with e | e | e
      · rw [if_neg (by omega), skip_sp (.inl e)]; exact ih _ _
      · rw [if_neg (by omega), skip_sp (.inr e)]; exact ih _ _
      · rw [if_pos e, skip_nl e]; exact ih _ _
    · simp only [List.takeWhile_cons, h]
      rfl
/-- .. and a comment up to the end of its line -/
theorem skip_inside_run : ∀ (bs : List UInt8) (l c : Int), skipS bs true l c = skipS (bs.drop (bs.takeWhile insideB).length) false (posS (bs.take (bs.takeWhile insideB).length) l c).1 (posS (bs.take (bs.takeWhile insideB).length) l c).2 := by
  intro bs
  induction bs with
  | nil => intro l c; rfl
  | cons b r ih =>
    intro l c
    by_cases h : insideB b = true
    · simp only [List.takeWhile_cons, h, if_true, List.length_cons, List.drop_succ_cons, List.take_succ_cons, posS]
      have e := (inside_iff b).1 h
      rw [if_neg e, skip_in e]; exact ih _ _
    · simp only [List.takeWhile_cons, h]
      have e : b.toNat = 10 := Classical.byContradiction fun e => h ((inside_iff b).2 e)
      exact skip_out (.inr ⟨b, r, rfl, e⟩)
theorem skip_comment {b : UInt8} {r : List UInt8} (h : b.toNat = 35) (l c : Int) : skipS (b :: r) false l c = skipS ((b :: r).drop ((b :: r).takeWhile insideB).length) false (posS ((b :: r).take ((b :: r).takeWhile insideB).length) l c).1 (posS ((b :: r).take ((b :: r).takeWhile insideB).length) l c).2 := by
  have hi : insideB b = true := (inside_iff b).2 (by omega)
  simp only [List.takeWhile_cons, hi, if_true, List.length_cons, List.drop_succ_cons, List.take_succ_cons, posS]
  rw [if_neg (by omega), skip_cm h]
  exact skip_inside_run _ _ _
theorem run_first {p : UInt8 → Bool} (bs : List UInt8) : (bs.drop (bs.takeWhile p).length).head?.all (fun b => !p b) = true := by
  induction bs with
  | nil => rfl
  | cons b r ih =>
    by_cases h : p b = true
    · simp only [List.takeWhile_cons, h, if_true, List.length_cons, List.drop_succ_cons]; exact ih
    · simp [h]
/-- lines and columns stay small -/
theorem posS_le : ∀ (bs : List UInt8) (l c : Int), 0 ≤ l → 0 ≤ c → (l ≤ (posS bs l c).1 ∧ (posS bs l c).1 ≤ l + bs.length) ∧ (0 ≤ (posS bs l c).2 ∧ ((posS bs l c).2 ≤ c + bs.length ∨ (posS bs l c).2 ≤ 1 + bs.length)) := by
  intro bs
  induction bs with
  | nil => intro l c _ hc; simp only [posS]; exact ⟨⟨by omega, by simp⟩, hc, .inl (by simp)⟩
  | cons b r ih =>
    intro l c hl hc
    simp only [posS, List.length_cons]
    split
    · have := ih (l + 1) 1 (by omega) (by omega); omega
    · have := ih l (c + 1) hl (by omega); omega
theorem skip_drop : ∀ (bs : List UInt8) (cm : Bool) (l c : Int), ∃ n, n ≤ bs.length ∧ (skipS bs cm l c).1 = bs.drop n ∧ (skipS bs cm l c).2 = posS (bs.take n) l c := by
  intro bs
  induction bs with
  | nil => intro cm l c; exact ⟨0, Nat.le_refl _, rfl, rfl⟩
  | cons b r ih =>
    intro cm l c
    have key : ∀ cm' l' c', posS [b] l c = (l', c') → skipS (b :: r) cm l c = skipS r cm' l' c' → ∃ n, n ≤ (b :: r).length ∧ (skipS (b :: r) cm l c).1 = (b :: r).drop n ∧ (skipS (b :: r) cm l c).2 = posS ((b :: r).take n) l c := by
      intro cm' l' c' hp he
      obtain ⟨n, h1, h2, h3⟩ := ih cm' l' c'
      refine ⟨n + 1, by simpa using h1, by rw [he, h2, List.drop_succ_cons], ?_⟩
      rw [he, h3, List.take_succ_cons, show b :: r.take n = [b] ++ r.take n from rfl, posS_append, hp]
    by_cases h10 : b.toNat = 10
    · exact key false (l + 1) 1 (by simp [posS, h10]) (skip_nl h10)
    · have hp : posS [b] l c = (l, c + 1) := by simp [posS, h10]
      cases cm with
      | true => exact key true _ _ hp (skip_in h10)
      | false =>
        by_cases hs : b.toNat = 32 ∨ b.toNat = 9
        · exact key false _ _ hp (skip_sp hs)
        · by_cases h35 : b.toNat = 35
          · exact key true _ _ hp (skip_cm h35)
          · exact ⟨0, Nat.zero_le _, by rw [skip_stop h10 (by omega) (by omega) h35]; rfl, by rw [skip_stop h10 (by omega) (by omega) h35]; rfl⟩
end Go.Proofs.YtcichbdkdbnmiaaDoor
