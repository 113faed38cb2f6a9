/- The program's lexer, its small functions, walked: letter, digit, blank, the functions that go on over a comment and over a word. No condition. -/
import Derived.Test.YtcichbdkdbnmiaaDoorRLexA
import Derived.Test.YtcichbdkdbnmiaaDoorPLexS
namespace Go.Proofs.YtcichbdkdbnmiaaDoor
open Go.RowKit

theorem pletter_any (b : Int) (w : World) : Calls Tryd.prog 29 #[.int .u8 b] w fun e w' => e = .returned (.bool (letterI b)) ∧ w = w' := by
  obtain ⟨p1, p2, p3, p4, p5, q1, q2, q3, q4, q5, hq⟩ : ∃ p1 p2 p3 p4 p5 : Bool, decide (b ≥ 97) = p1 ∧ decide (b ≤ 122) = p2 ∧ decide (b ≥ 65) = p3 ∧ decide (b ≤ 90) = p4 ∧ (b == 95) = p5 ∧ letterI b = ((p1 && p2) || ((p3 && p4) || p5)) := ⟨_, _, _, _, _, rfl, rfl, rfl, rfl, rfl, rfl⟩
  rw [hq]
  clear hq
  cases p1 <;> cases p2 <;> cases p3 <;> cases p4 <;> cases p5
  all_goals
    go_enter Tryd.func29, Tryd.ntmps29
    go_wp2
    go_ret
    exact ⟨rfl, rfl⟩
theorem pdigit_any (b : Int) (w : World) : Calls Tryd.prog 30 #[.int .u8 b] w fun e w' => e = .returned (.bool (digitI b)) ∧ w = w' := by
  obtain ⟨p1, p2, q1, q2, hq⟩ : ∃ p1 p2 : Bool, decide (b ≥ 48) = p1 ∧ decide (b ≤ 57) = p2 ∧ digitI b = (p1 && p2) := ⟨_, _, rfl, rfl, rfl⟩
  rw [hq]
  clear hq
  cases p1 <;> cases p2
  all_goals
    go_enter Tryd.func30, Tryd.ntmps30
    go_wp2
    go_ret
    exact ⟨rfl, rfl⟩
theorem blank_any (b : Int) (w : World) : Calls Tryd.prog 49 #[.int .u8 b] w fun e w' => e = .returned (.bool (blankI b)) ∧ w = w' := by
  obtain ⟨p1, p2, p3, q1, q2, q3, hq⟩ : ∃ p1 p2 p3 : Bool, (b == 32) = p1 ∧ (b == 9) = p2 ∧ (b == 10) = p3 ∧ blankI b = (p1 || (p2 || p3)) := ⟨_, _, _, rfl, rfl, rfl, rfl⟩
  rw [hq]
  clear hq
  cases p1 <;> cases p2 <;> cases p3
  all_goals
    go_enter Tryd.func49, Tryd.ntmps49
    go_wp2
    go_ret
    exact ⟨rfl, rfl⟩
theorem inside_any (b : Int) (w : World) : Calls Tryd.prog 50 #[.int .u8 b] w fun e w' => e = .returned (.bool (b != 10)) ∧ w = w' := by
  go_enter Tryd.func50, Tryd.ntmps50
  go_wp2
  go_ret
  exact ⟨rfl, rfl⟩
theorem part_any (b : Int) (w : World) : Calls Tryd.prog 40 #[.int .u8 b] w fun e w' => e = .returned (.bool (letterI b || digitI b)) ∧ w = w' := by
  have HL := Lib.hid (pletter_any b w)
  have HD := Lib.hid (pdigit_any b w)
  generalize letterI b = p at HL ⊢
  generalize digitI b = q at HD ⊢
  cases p
  · go_enter Tryd.func40, Tryd.ntmps40
    go_wp2_with fail
    go_at_call 29
    refine HL.out.mono ?_
    rintro e1 w2 ⟨rfl, rfl⟩
    go_wp2_with fail
    go_at_call 30
    refine HD.out.mono ?_
    rintro e1 w2 ⟨rfl, rfl⟩
    go_wp2_with fail
    go_ret
    exact ⟨rfl, rfl⟩
  · go_enter Tryd.func40, Tryd.ntmps40
    go_wp2_with fail
    go_at_call 29
    refine HL.out.mono ?_
    rintro e1 w2 ⟨rfl, rfl⟩
    go_wp2_with fail
    go_ret
    exact ⟨rfl, rfl⟩
/-- the function that goes on over a sign: a count in a captured variable -/
theorem count_any (b z : Int) (lb : Nat) (q : Bool) (w : World) (hc : w.cell? ⟨lb, 0, none⟩ = some (.int .i64 z)) (hf : w.frozen? ⟨lb, 0, none⟩ = false) (h1 : -20000 ≤ z) (h2 : z ≤ 100) (hq : decide (z - 1 ≥ 0) = q) :
    Calls Tryd.prog 45 #[.int .u8 b, .pointer (some ⟨lb, 0, none⟩)] w fun e w' => e = .returned (.bool q) ∧ w.setCell ⟨lb, 0, none⟩ (.int .i64 (z - 1)) = w' := by
  go_enter Tryd.func45, Tryd.ntmps45
  go_wp2
  go_ret
  exact ⟨by first | rfl | (rw [← hq]; rfl) | (rw [← hq]; simp), rfl⟩
end Go.Proofs.YtcichbdkdbnmiaaDoor
