/- What Parse of the program answers, in the forms that the laws want. -/
import Derived.Test.YtoaojdobjinhfaaGreatDoorAwMY
import Derived.Test.YtoaojdobjinhfaaGreatDoorRParAY
import Derived.Test.YtoaojdobjinhfaaGreatDoorSameMY
set_option linter.unusedSimpArgs false
set_option linter.unusedVariables false
namespace Go.Proofs.YtoaojdobjinhfaaGreatDoor
open Go.RowKit

/-- what Parse answers: the list xs, the place (a, b) and the code c -/
def PAns (xs : List St) (a b c : Int) (w : World) (e : Ending) (w' : World) : Prop :=
  (∃ p cap, e = .returned (.tuple #[.slice p xs.length cap, .int .i64 a, .int .i64 b, .int .i64 c]) ∧ SsL w' w'.heap.size xs (.slice p xs.length cap)) ∧ Below w.heap.size w w'
/-- what Parse of the program answers, by its cases -/
inductive PsC (s : ByteArray) : List St → Int → Int → Int → Prop where
  | err (a b c : Int) (h : c ≠ 0) : PsC s [] a b c
  | ok (xs : List St) (h : parseS s.data.toList = .ok xs) : PsC s xs 0 0 0
theorem parse_cases (s : ByteArray) (hs : s.size ≤ 9223372036854775807) : ∃ (xs : List St) (a b c : Int), PsC s xs a b c ∧ ∀ w : World, Glob w → Calls Tryz.prog 31 #[.string s] w (PAns xs a b c w) := by
  cases h : parseS s.data.toList with
  | ok xs =>
    refine ⟨xs, 0, 0, 0, .ok xs h, fun w hG => ?_⟩
    have H := pparse_any hG s hs
    rw [h] at H
    refine H.mono ?_
    rintro e w' ⟨⟨v, rfl, hX⟩, hb⟩
    have hS := ssl_of hX
    obtain ⟨a, cap, rfl, -, -⟩ := hS.form
    exact ⟨⟨a, cap, rfl, hS⟩, hb⟩
  | err a b c =>
    refine ⟨[], a, b, c, .err a b c (parse_code h), fun w hG => ?_⟩
    have H := pparse_any hG s hs
    rw [h] at H
    refine H.mono ?_
    rintro e w' ⟨⟨rfl, -⟩, hb⟩
    exact ⟨⟨none, 0, rfl, SsL.nil _ _⟩, hb⟩
theorem parse_core (s : ByteArray) (hs : s.size ≤ 9223372036854775807) : ∃ (a b : Int), ∀ w : World, Glob w → Calls Tryz.prog 31 #[.string s] w (PAns (parseS s.data.toList).core.1 a b (parseS s.data.toList).core.2 w) := by
  cases h : parseS s.data.toList with
  | ok xs =>
    refine ⟨0, 0, fun w hG => ?_⟩
    have H := pparse_any hG s hs
    rw [h] at H
    refine H.mono ?_
    rintro e w' ⟨⟨v, rfl, hX⟩, hb⟩
    have hS := ssl_of hX
    obtain ⟨a, cap, rfl, -, -⟩ := hS.form
    exact ⟨⟨a, cap, rfl, hS⟩, hb⟩
  | err a b c =>
    refine ⟨a, b, fun w hG => ?_⟩
    have H := pparse_any hG s hs
    rw [h] at H
    refine H.mono ?_
    rintro e w' ⟨⟨rfl, -⟩, hb⟩
    exact ⟨⟨none, 0, rfl, SsL.nil _ _⟩, hb⟩
theorem core_bad {s : ByteArray} {a b c : Int} (h : lexS s.data.toList = .err a b c) : (parseS s.data.toList).core = ([], c) := by
  unfold parseS; rw [h]; rfl
end Go.Proofs.YtoaojdobjinhfaaGreatDoor
