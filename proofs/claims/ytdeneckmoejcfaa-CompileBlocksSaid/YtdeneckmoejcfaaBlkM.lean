/- The code of two programs, each in a block of its own. Plain mathematics. -/
import Derived.Test.YtdeneckmoejcfaaFineSJ
import Derived.Test.YtdeneckmoejcfaaMaskMJ
set_option linter.unusedSimpArgs false
set_option linter.unusedVariables false
namespace Go.Proofs.Ytdeneckmoejcfaa

def blkS (l : List St) : St := .mk 4 0 [] [.mk 4 0 [] []] l []
def blkC (c : Code1) : Code1 := ⟨6, 0⟩ :: ⟨12, c.length + 2⟩ :: shiftC 2 c
theorem code_block (ns : Names) (l : List St) : codeT ns (blkS l) = (codeL ns l).andThen fun b => .ok (blkC b.1, max b.2 ns.length) := by
  unfold blkS codeT
  have e1 : codeEs ns [.mk 4 0 [] []] = .ok [[⟨6, 0⟩]] := by unfold codeEs codeE codeEs; rfl
  have e2 : codeL ns [] = .ok ([], ns.length) := by unfold codeL; rfl
  rw [e1, e2]
  show (codeL ns l).andThen (fun b => CR.ok (ifC (joinAll [[⟨6, 0⟩]]) b.1 [] false, max b.2 ns.length)) = _
  congr 1
  funext b
  have e3 : joinAll [[⟨6, 0⟩]] = [⟨6, 0⟩] := rfl
  rw [e3]
  unfold ifC
  rw [if_neg (by decide), joinC_nil']
  unfold blkC
  have e4 : (([⟨6, 0⟩] : Code1).length : Int) = 1 := rfl
  rw [e4]
  show CR.ok (⟨6, 0⟩ :: ⟨12, 1 + 1 + (b.1.length : Int)⟩ :: shiftC 2 b.1, _) = _
  rw [show (1 + 1 + (b.1.length : Int)) = b.1.length + 2 by omega]
theorem code_blocks (ns : Names) (l k : List St) (a b : Code1 × Nat) (h1 : codeL ns l = .ok a) (h2 : codeL ns k = .ok b) :
    codeL ns [blkS l, blkS k] = .ok (blkC a.1 ++ (⟨6, 0⟩ :: ⟨12, a.1.length + 4 + b.1.length⟩ :: shiftC (a.1.length + 4) b.1), max (max a.2 ns.length) (max (max b.2 ns.length) ns.length)) := by
  have e0 : codeL ns [] = .ok ([], ns.length) := by unfold codeL; rfl
  have ea := code_block ns l
  have eb := code_block ns k
  rw [h1] at ea
  rw [h2] at eb
  unfold blkS at ea eb ⊢
  unfold codeL
  have e4 : ∀ q : List UInt8, (if (4 : Int) = 1 then ns ++ [q] else ns) = ns := fun q => if_neg (by decide)
  rw [ea, e4]
  unfold codeL
  rw [eb, e4, e0]
  show CR.ok (joinC (blkC a.1) (joinC (blkC b.1) []), _) = _
  rw [joinC_nil']
  have hl : ((blkC a.1).length : Int) = a.1.length + 2 := by unfold blkC; rw [List.length_cons, List.length_cons, shiftC_len]; omega
  have e : joinC (blkC a.1) (blkC b.1) = blkC a.1 ++ (⟨6, 0⟩ :: ⟨12, a.1.length + 4 + b.1.length⟩ :: shiftC (a.1.length + 4) b.1) := by
    unfold joinC
    rw [hl]
    congr 1
    show ⟨6, 0⟩ :: ⟨12, (b.1.length : Int) + 2 + (a.1.length + 2)⟩ :: shiftC (a.1.length + 2) (shiftC 2 b.1) = _
    rw [shiftC_add, show (b.1.length : Int) + 2 + (a.1.length + 2) = a.1.length + 4 + b.1.length by omega, show (2 : Int) + (a.1.length + 2) = a.1.length + 4 by omega]
  rw [e]
/-- two programs that can be compiled, each in a block -/
theorem comp_blocks {l k : List St} {p q : ProgS} (h1 : compS l = .ok p) (h2 : compS k = .ok q) (h3 : rightS 40 [blkS l, blkS k] = true) (hs1 : szSs l ≤ 400) (hs2 : szSs k ≤ 400) :
    compS [blkS l, blkS k] = .ok ⟨blkC p.code ++ (⟨6, 0⟩ :: ⟨12, p.code.length + 4 + q.code.length⟩ :: shiftC (p.code.length + 4) q.code), max p.locals q.locals, p.reads ||| q.reads, p.writes ||| q.writes⟩ := by
  unfold compS at h1 h2 ⊢
  split at h1
  · split at h2
    · rw [if_pos h3]
      obtain ⟨a, ha, h1⟩ := CR.andThen_ok h1
      obtain ⟨b, hb, h2⟩ := CR.andThen_ok h2
      obtain ⟨_, a2, _⟩ := codeL_ok [] l a ha
      obtain ⟨_, b2, _⟩ := codeL_ok [] k b hb
      split at h1
      · cases h1
      · split at h2
        · cases h2
        · cases h1
          cases h2
          rw [code_blocks [] l k a b ha hb]
          have hm : ∀ op : Int, (op = 4 ∨ op = 5) → maskC op (blkC a.1 ++ (⟨6, 0⟩ :: ⟨12, a.1.length + 4 + b.1.length⟩ :: shiftC (a.1.length + 4) b.1)) = maskC op a.1 ||| maskC op b.1 := by
            intro op hop
            have z : ∀ (i : InsS) (c : Code1), i.op ≠ 4 → i.op ≠ 5 → maskC op (i :: c) = maskC op c := by
              intro i c h4 h5
              rw [show i :: c = [i] ++ c from rfl, maskC_app]
              have : maskC op [i] = 0 := by
                have hi : maskI op i = 0 := by unfold maskI; rw [if_neg (by omega)]
                unfold maskC maskC
                rw [hi]; rfl
              rw [this]; simp
            have z6 : ∀ c : Code1, maskC op (⟨6, 0⟩ :: c) = maskC op c := fun c => z ⟨6, 0⟩ c (by decide) (by decide)
            have z12 : ∀ (x : Int) (c : Code1), maskC op (⟨12, x⟩ :: c) = maskC op c := fun x c => z ⟨12, x⟩ c (by show (12 : Int) ≠ 4; decide) (by show (12 : Int) ≠ 5; decide)
            rw [maskC_app, z6, z12, maskC_shift op hop]
            unfold blkC
            rw [z6, z12, maskC_shift op hop]
          show (if 4000 < (List.length _) then _ else _) = _
          rw [if_neg (by
            unfold blkC
            simp only [List.length_append, List.length_cons, shiftC_len]
            omega)]
          show CR.ok (ProgS.mk _ _ (maskC 4 _) (maskC 5 _)) = _
          rw [hm 4 (.inl rfl), hm 5 (.inr rfl)]
          have el : ((max (max a.2 ([] : Names).length) (max (max b.2 ([] : Names).length) ([] : Names).length) : Nat) : Int) = max (a.2 : Int) b.2 := by
            show ((max (max a.2 0) (max (max b.2 0) 0) : Nat) : Int) = _
            omega
          show CR.ok (ProgS.mk _ (((max (max a.2 ([] : Names).length) (max (max b.2 ([] : Names).length) ([] : Names).length) : Nat) : Int)) _ _) = _
          rw [el]
    · cases h2
  · cases h1
end Go.Proofs.Ytdeneckmoejcfaa
