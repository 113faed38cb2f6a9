/- A sound program with one of six defects is not sound. Plain mathematics. -/
import Derived.Test.YtdeneckmoejcfaaSoundSJ
set_option linter.unusedSimpArgs false
set_option linter.unusedVariables false
namespace Go.Proofs.Ytdeneckmoejcfaa

/-- the program with defect number k -/
def wrongS (p : ProgS) (k : Nat) : ProgS :=
  if k = 0 then { p with code := ⟨10, 0⟩ :: shiftC 1 p.code }
  else if k = 1 then { p with code := p.code ++ [⟨11, p.code.length + 2⟩] }
  else if k = 2 then { p with code := p.code ++ [⟨2, p.locals⟩, ⟨14, 0⟩] }
  else if k = 3 then { p with reads := p.reads ^^^ 8#32 }
  else if k = 4 then { p with writes := p.writes + 1#32 }
  else { p with code := ⟨1, 1⟩ :: ⟨11, p.code.length + 2⟩ :: shiftC 2 p.code }
theorem wrong_not (p : ProgS) (k : Nat) (h : SoundP p) : ¬ SoundP (wrongS p k) := by
  unfold wrongS
  split
  · intro g
    have := (g.flow.fit 0 0 (by simp) Reach.start).1
    revert this
    show ¬ takesI ⟨10, 0⟩ ≤ 0
    decide
  split
  · intro g
    have := g.basic.right ⟨11, p.code.length + 2⟩ (by simp)
    have := (right_jump this ⟨by show (11 : Int) ≤ 11; decide, by show (11 : Int) ≤ 13; decide⟩).2
    simp at this
    try omega
  split
  · intro g
    have := g.basic.right ⟨2, p.locals⟩ (by simp)
    unfold rightI at this
    rw [if_neg (by show ¬ (2 : Int) = 1; decide), if_pos (by show (2 : Int) = 2 ∨ (2 : Int) = 3; decide)] at this
    have := this.2
    simp at this
  split
  · intro g
    have h1 := h.basic.reads
    have h2 : maskC 4 p.code = p.reads ^^^ 8#32 := g.basic.reads
    rw [h1] at h2
    have := congrArg (fun x : BitVec 32 => x.getLsbD 3) h2
    simp at this
  split
  · intro g
    have h1 := h.basic.writes
    have h2 : maskC 5 p.code = p.writes + 1#32 := g.basic.writes
    rw [h1] at h2
    have h3 := congrArg BitVec.toNat h2
    rw [BitVec.toNat_add] at h3
    have := p.writes.isLt
    simp at h3
    omega
  · intro g
    have f := g.flow
    have r0 : Reach (⟨1, 1⟩ :: ⟨11, p.code.length + 2⟩ :: shiftC 2 p.code) 0 0 := Reach.start
    have r1 : Reach (⟨1, 1⟩ :: ⟨11, p.code.length + 2⟩ :: shiftC 2 p.code) 1 1 := Reach.step (k := 0) (to := 1) (by simp) r0 (by show fitI ⟨1, 1⟩ 0; constructor <;> decide) (by show 1 ∈ nextsI 0 ⟨1, 1⟩; decide)
    have hn : nextsI 1 ⟨11, (p.code.length : Int) + 2⟩ = [p.code.length + 2] := by
      show [((p.code.length : Int) + 2).toNat] = _
      congr 1
    have r2 : Reach (⟨1, 1⟩ :: ⟨11, p.code.length + 2⟩ :: shiftC 2 p.code) (p.code.length + 2) 1 := by
      have := Reach.step (k := 1) (to := p.code.length + 2) (by simp) r1 (by
        show fitI ⟨11, (p.code.length : Int) + 2⟩ 1
        exact ⟨by show (0 : Int) ≤ 1; decide, by show (1 : Int) - 0 + 0 ≤ 64; decide⟩) (by
        show p.code.length + 2 ∈ nextsI 1 ⟨11, (p.code.length : Int) + 2⟩
        rw [hn]; simp)
      exact this
    have := f.fin 1 (by
      show Reach (⟨1, 1⟩ :: ⟨11, p.code.length + 2⟩ :: shiftC 2 p.code) (List.length _) 1
      rw [List.length_cons, List.length_cons, shiftC_len]; exact r2)
    omega
end Go.Proofs.Ytdeneckmoejcfaa
