/- What Compile returns, for every program alike: the program, or the empty one, and the error. -/
import Derived.Test.YtdeneckmoejcfaaPCompJ
import Derived.Test.YtdeneckmoejcfaaWCodeJ
import Derived.Test.YtdeneckmoejcfaaSoundSJ
set_option linter.unusedSimpArgs false
set_option linter.unusedVariables false
namespace Go.Proofs.Ytdeneckmoejcfaa
open Go.RowKit

def emptyP : ProgS := ⟨[], 0, 0, 0⟩
def resP : CR ProgS → ProgS
  | .ok p => p
  | .err _ => emptyP
def resK : CR ProgS → Int
  | .ok _ => 0
  | .err k => k
/-- the errors that there are -/
def KindR (r : CR ProgS) : Prop := ∀ k, r = .err k → (k = 130 ∨ k = 131 ∨ k = 132 ∨ k = 5 ∨ k = 3)
theorem KindR.ok {r : CR ProgS} (h : KindR r) (hk : resK r = 0) : ∃ p, r = .ok p := by
  cases r with
  | ok p => exact ⟨p, rfl⟩
  | err k =>
    have hk : k = 0 := hk
    have := h k rfl
    omega
theorem KindR.err {r : CR ProgS} (hk : resK r ≠ 0) : r = .err (resK r) ∧ resP r = emptyP := by
  cases r with
  | ok p => exact absurd rfl hk
  | err k => exact ⟨rfl, rfl⟩
theorem resP_len (l : List St) : (resP (compS l)).code.length ≤ 4000 := by
  cases h : compS l with
  | ok p => exact (comp_sound h).basic.len
  | err k => exact Nat.zero_le _
theorem comp_jumps (l : List St) : ∀ i ∈ (resP (compS l)).code, jumpB i = true → 0 ≤ i.a ∧ i.a ≤ 1000000 := by
  cases h : compS l with
  | ok p =>
    intro i hi hj
    have hc := comp_sound h
    have h1 := right_jump (hc.basic.right i hi) (by unfold jumpB at hj; rw [decide_eq_true_eq] at hj; exact hj)
    have := hc.basic.len
    omega
  | err k => intro i hi; exact absurd hi (by show ¬ i ∈ []; simp)
theorem resP_loc (l : List St) : 0 ≤ (resP (compS l)).locals ∧ (resP (compS l)).locals ≤ 32 := by
  cases h : compS l with
  | ok p => exact (comp_sound h).basic.loc
  | err k => exact ⟨Int.le_refl _, by show (0 : Int) ≤ 32; decide⟩
theorem resK_right {l : List St} (h : resK (compS l) ≠ 130) : rightS 40 l = true := by
  cases hr : rightS 40 l with
  | true => rfl
  | false =>
    unfold compS at h
    rw [hr] at h
    exact absurd rfl h
theorem prog_res {t : TypeId} {w w' : World} {e : Ending} {r : CR ProgS} (h : ProgE t w w' e r) : (∃ a cap, e = .returned (.tuple #[progV (resP r) (.slice a (resP r).code.length cap), .int .i64 (resK r)]) ∧ SlC w' (resP r).code (.slice a (resP r).code.length cap)) ∧ KindR r := by
  cases r with
  | ok p =>
    obtain ⟨v, rfl, hO⟩ := h
    obtain ⟨a, cap, rfl, _, _⟩ := Sl.form (OwnC.sl hO)
    exact ⟨⟨a, cap, rfl, OwnC.sl hO⟩, fun k hk => by cases hk⟩
  | err k =>
    obtain ⟨rfl, hk⟩ := h
    exact ⟨⟨none, 0, rfl, Sl.nil w' 2⟩, fun j hj => by cases hj; exact hk⟩
/-- a program's call, its result alike for all -/
theorem comp7_any (l : List St) (v : Value) (w : World) (B : Nat) (hok : okSs l) (hsz : szSs l ≤ 100000) (hL : SsL w B l v) (hB : B ≤ w.heap.size) :
    Calls Try.prog 24 #[v] w fun e w' => ((∃ a cap, e = .returned (.tuple #[progV (resP (compS l)) (.slice a (resP (compS l)).code.length cap), .int .i64 (resK (compS l))]) ∧ SlC w' (resP (compS l)).code (.slice a (resP (compS l)).code.length cap)) ∧ KindR (compS l)) ∧ Below w.heap.size w w' :=
  (pcomp_any l v w B hok hsz hL hB).mono fun _ _ h => ⟨prog_res h.1, h.2⟩
theorem same_yes (p : ProgS) (va vb : Value) (w : World) (hA : SlC w p.code va) (hB : SlC w p.code vb) (hl : p.code.length ≤ 1000000) :
    Calls Try.prog 25 #[progV p va, progV p vb] w (BoolE true w) := by
  have h := same_any p p va vb w hA hB hl hl
  have e : (sameC p.code p.code && (decide (p.locals = p.locals) && (decide (p.reads = p.reads) && decide (p.writes = p.writes)))) = true := by
    rw [(sameC_iff p.code p.code).2 rfl]; simp
  rw [e] at h
  exact h
theorem same_empty (P : ProgS) (hP : P = emptyP) (v : Value) (W : World) (hS : SlC W P.code v) :
    Calls Try.prog 25 #[progV P v, .agg #[.slice none 0 0, .int .i64 0, .int .u32 0, .int .u32 0]] W (BoolE true W) := by
  subst hP
  exact same_yes emptyP v (.slice none 0 0) W hS (Sl.nil W 2) (by decide)
/-- a tree that was made lies below what there is -/
theorem ss_low {w : World} {B : Nat} {e : TypeId} {xs : List St} {v : Value} {cs : List Value} {P : Nat → Prop} (h : w.ownsRow B e 6 v xs.length cs) (hX : StsC w P xs cs) : SsL w w.heap.size xs v :=
  ⟨cs, Sl.of_own h, .inr fun g hg => (h.lt g hg).2, hX.weak fun _ hlt _ => hlt⟩
end Go.Proofs.Ytdeneckmoejcfaa
