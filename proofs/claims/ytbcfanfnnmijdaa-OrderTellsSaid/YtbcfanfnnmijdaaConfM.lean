/- What conflicts are: bit by bit; the pure side of OrderConflicts. -/
import Derived.Test.YtbcfanfnnmijdaaAwake
namespace Go.Proofs.Ytbcfanfnnmijdaa
open Go.RowKit

/-- block n is a system of these four cells -/
def Blk (n : Nat) (c0 c1 c2 c3 : Value) (w : World) : Prop := w.cell? ⟨n, 0, none⟩ = some c0 ∧ w.cell? ⟨n, 1, none⟩ = some c1 ∧ w.cell? ⟨n, 2, none⟩ = some c2 ∧ w.cell? ⟨n, 3, none⟩ = some c3
theorem Blk.next {n : Nat} {c0 c1 c2 c3 : Value} {w w' : World} (h : Blk n c0 c1 c2 c3 w) (hb : Below w.heap.size w w') : Blk n c0 c1 c2 c3 w' :=
  ⟨Below.keep hb h.1, Below.keep hb h.2.1, Below.keep hb h.2.2.1, Below.keep hb h.2.2.2⟩

theorem conf_comm (a b : Sys) : conf a b = conf b a := by unfold conf; rw [Bool.or_comm]
theorem and_ne_zero {x y : BitVec 32} : (x &&& y != 0) = true ↔ ∃ i, x.getLsbD i = true ∧ y.getLsbD i = true := by
  rw [bne_iff_ne]
  constructor
  · intro h
    refine Classical.byContradiction fun hn => h ?_
    apply BitVec.eq_of_getLsbD_eq
    intro i hi
    rw [BitVec.getLsbD_and]
    cases hx : x.getLsbD i <;> cases hy : y.getLsbD i
    · simp
    · simp
    · simp
    · exact absurd ⟨i, hx, hy⟩ hn
  · rintro ⟨i, h1, h2⟩ h
    have : (x &&& y).getLsbD i = true := by rw [BitVec.getLsbD_and, h1, h2]; rfl
    rw [h] at this
    simp at this
/-- two systems conflict if one writes a kind that the other reads or writes -/
theorem conf_iff (a b : Sys) : conf a b = true ↔ ∃ i, (a.wr.getLsbD i = true ∧ (b.rd.getLsbD i = true ∨ b.wr.getLsbD i = true)) ∨ (b.wr.getLsbD i = true ∧ (a.rd.getLsbD i = true ∨ a.wr.getLsbD i = true)) := by
  unfold conf
  rw [Bool.or_eq_true, and_ne_zero, and_ne_zero]
  simp only [BitVec.getLsbD_or, Bool.or_eq_true]
  constructor
  · rintro (⟨i, h⟩ | ⟨i, h⟩)
    · exact ⟨i, .inl h⟩
    · exact ⟨i, .inr h⟩
  · rintro ⟨i, h | h⟩
    · exact .inl ⟨i, h⟩
    · exact .inr ⟨i, h⟩
theorem conf_self (a : Sys) : conf a a = (a.wr != 0) := by
  rw [Bool.eq_iff_iff, conf_iff]
  have e : (a.wr != 0) = (a.wr &&& a.wr != 0) := by rw [BitVec.and_self]
  rw [e, and_ne_zero]
  constructor
  · rintro ⟨i, ⟨h, _⟩ | ⟨h, _⟩⟩ <;> exact ⟨i, h, h⟩
  · rintro ⟨i, h, _⟩; exact ⟨i, .inl ⟨h, .inr h⟩⟩
theorem conf_quiet (a b : Sys) (ha : a.wr = 0) (hb : b.wr = 0) : conf a b = false := by unfold conf; rw [ha, hb]; simp
theorem conf_more (a b c : Sys) : conf { a with rd := a.rd ||| c.rd, wr := a.wr ||| c.wr } b = (conf a b || conf c b) := by
  rw [Bool.eq_iff_iff, Bool.or_eq_true, conf_iff, conf_iff, conf_iff]
  simp only [BitVec.getLsbD_or, Bool.or_eq_true]
  constructor
  · rintro ⟨i, ⟨h1 | h1, h2⟩ | ⟨h1, (h2 | h2) | (h2 | h2)⟩⟩
    · exact .inl ⟨i, .inl ⟨h1, h2⟩⟩
    · exact .inr ⟨i, .inl ⟨h1, h2⟩⟩
    · exact .inl ⟨i, .inr ⟨h1, .inl h2⟩⟩
    · exact .inr ⟨i, .inr ⟨h1, .inl h2⟩⟩
    · exact .inl ⟨i, .inr ⟨h1, .inr h2⟩⟩
    · exact .inr ⟨i, .inr ⟨h1, .inr h2⟩⟩
  · rintro (⟨i, ⟨h1, h2⟩ | ⟨h1, h2⟩⟩ | ⟨i, ⟨h1, h2⟩ | ⟨h1, h2⟩⟩)
    · exact ⟨i, .inl ⟨.inl h1, h2⟩⟩
    · exact ⟨i, .inr ⟨h1, h2.imp .inl .inl⟩⟩
    · exact ⟨i, .inl ⟨.inr h1, h2⟩⟩
    · exact ⟨i, .inr ⟨h1, h2.imp .inr .inr⟩⟩
theorem conf_none (a b : Sys) (h : conf a b = false) : (a.wr &&& b.wr != 0) = false := by
  rw [← Bool.not_eq_true] at h ⊢
  intro h'
  obtain ⟨i, h1, h2⟩ := and_ne_zero.1 h'
  exact h ((conf_iff a b).2 ⟨i, .inl ⟨h1, .inr h2⟩⟩)
theorem conflict_as {a b : Sys} {x : Bool} (h : conf a b = x) (w : World) : Calls Try.prog 14 #[a.val, b.val] w fun e w' => e = .returned (.bool x) ∧ Below w.heap.size w w' := by
  have := conflict_any a b w
  rwa [h] at this
end Go.Proofs.Ytbcfanfnnmijdaa
