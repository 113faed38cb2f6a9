/- Masks of codes: sets of the numbers below 32 as words. Plain mathematics. -/
/- What Compile returns: the program of a list of statements, or an error. -/
import Derived.Test.YtdeneckmoejcfaaFineSJ
import Derived.Test.YtdeneckmoejcfaaLibJ
import Derived.Test.YtdeneckmoejcfaaKitCJ
set_option linter.unusedSimpArgs false
set_option linter.unusedVariables false
namespace Go.Proofs.Ytdeneckmoejcfaa

def bit32 (k : Nat) : BitVec 32 := 1#32 <<< k
/-- x has the bits of which f tells -/
def IsMask (x : BitVec 32) (f : Nat → Bool) : Prop := ∀ j, j < 32 → x.getLsbD j = f j
theorem bit32_get (k j : Nat) (hj : j < 32) : (bit32 k).getLsbD j = decide (j = k) := by
  unfold bit32
  rw [BitVec.getLsbD_shiftLeft]
  by_cases h : j = k
  · subst h; simp [hj]
  · by_cases h2 : j < k
    · simp [hj, h, h2]
    · have : j - k ≠ 0 := by omega
      simp [hj, h, this]
theorem IsMask.zero : IsMask 0 (fun _ => false) := fun j _ => by simp
theorem IsMask.ext {x y : BitVec 32} {f : Nat → Bool} (h : IsMask x f) (k : IsMask y f) : x = y := BitVec.eq_of_getLsbD_eq fun i hi => by rw [h i hi, k i hi]
theorem IsMask.of {x : BitVec 32} {f g : Nat → Bool} (h : IsMask x f) (k : ∀ j, j < 32 → f j = g j) : IsMask x g := fun j hj => (h j hj).trans (k j hj)
theorem IsMask.or {x y : BitVec 32} {f g : Nat → Bool} (h : IsMask x f) (k : IsMask y g) : IsMask (x ||| y) (fun j => f j || g j) := fun j hj => by rw [BitVec.getLsbD_or, h j hj, k j hj]
theorem IsMask.bit {x : BitVec 32} {f : Nat → Bool} (h : IsMask x f) (k : Nat) : IsMask (x ||| bit32 k) (fun j => f j || decide (j = k)) := h.or fun j hj => bit32_get k j hj
/-- .. instructions of one kind with a number from 1 to 31 -/
def hasI (op : Int) (j : Nat) (c : Code1) : Bool := c.any fun i => decide (i.op = op ∧ i.a = (j : Int))
def maskI (op : Int) (i : InsS) : BitVec 32 := if i.op = op ∧ 1 ≤ i.a ∧ i.a ≤ 31 then bit32 i.a.toNat else 0
def maskC (op : Int) : Code1 → BitVec 32
  | [] => 0
  | i :: c => maskI op i ||| maskC op c
def inM (op : Int) (c : Code1) (j : Nat) : Bool := decide (1 ≤ j) && hasI op j c
theorem maskI_is (op : Int) (i : InsS) : IsMask (maskI op i) (inM op [i]) := by
  intro j hj
  unfold maskI inM hasI
  by_cases h : i.op = op ∧ 1 ≤ i.a ∧ i.a ≤ 31
  · rw [if_pos h, bit32_get _ _ hj]
    obtain ⟨h1, h2, h3⟩ := h
    simp only [List.any_cons, List.any_nil, Bool.or_false, h1, true_and]
    rw [Bool.eq_iff_iff, Bool.and_eq_true, decide_eq_true_eq, decide_eq_true_eq, decide_eq_true_eq]
    omega
  · rw [if_neg h]
    simp only [List.any_cons, List.any_nil, Bool.or_false]
    rw [Bool.eq_iff_iff, Bool.and_eq_true, decide_eq_true_eq, decide_eq_true_eq]
    constructor
    · intro e; simp at e
    · rintro ⟨h1, h2, h3⟩; exact absurd ⟨h2, by omega, by omega⟩ h
theorem hasI_app (op : Int) (j : Nat) (a b : Code1) : hasI op j (a ++ b) = (hasI op j a || hasI op j b) := List.any_append
theorem inM_app (op : Int) (a b : Code1) (j : Nat) : inM op (a ++ b) j = (inM op a j || inM op b j) := by unfold inM; rw [hasI_app, Bool.and_or_distrib_left]
theorem maskC_is (op : Int) (c : Code1) : IsMask (maskC op c) (inM op c) := by
  induction c with
  | nil => exact IsMask.zero.of fun j _ => by simp [inM, hasI]
  | cons i c ih => exact ((maskI_is op i).or ih).of fun j _ => (inM_app op [i] c j).symm
theorem maskC_app (op : Int) (a b : Code1) : maskC op (a ++ b) = maskC op a ||| maskC op b :=
  (maskC_is op (a ++ b)).ext (((maskC_is op a).or (maskC_is op b)).of fun j _ => (inM_app op a b j).symm)
theorem maskC_shift (op : Int) (hop : op = 4 ∨ op = 5) (m : Int) (c : Code1) : maskC op (shiftC m c) = maskC op c := by
  induction c with
  | nil => rfl
  | cons i c ih =>
    show maskI op (shiftI m i) ||| maskC op (shiftC m c) = _
    rw [ih]
    congr 1
    unfold shiftI
    by_cases h : jumpB i = true
    · rw [if_pos h]
      unfold jumpB at h
      rw [decide_eq_true_eq] at h
      unfold maskI
      show (if i.op = op ∧ _ then _ else _) = _
      rw [if_neg (by omega), if_neg (by omega)]
    · rw [if_neg h]
theorem maskC_join (op : Int) (hop : op = 4 ∨ op = 5) (a b : Code1) : maskC op (joinC a b) = maskC op a ||| maskC op b := by rw [joinC, maskC_app, maskC_shift op hop]
/-- where the loops of the reference stand: at k, behind the first i instructions -/
def atM (op : Int) (c : Code1) (k i : Nat) (j : Nat) : Bool := (decide (1 ≤ j ∧ j < k) && hasI op j c) || (decide (j = k) && hasI op j (c.take i))
theorem atM_start (op : Int) (c : Code1) (j : Nat) : atM op c 1 0 j = false := by
  unfold atM
  rw [show decide (1 ≤ j ∧ j < 1) = false from by rw [decide_eq_false_iff_not]; omega]
  simp [hasI]
theorem atM_next (op : Int) (c : Code1) (k : Nat) (hk : 1 ≤ k) (j : Nat) : atM op c k c.length j = atM op c (k + 1) 0 j := by
  unfold atM
  rw [List.take_length, List.take_zero, show hasI op j [] = false from rfl, Bool.and_false, Bool.or_false, ← Bool.and_or_distrib_right]
  congr 1
  rw [Bool.eq_iff_iff, Bool.or_eq_true, decide_eq_true_eq, decide_eq_true_eq, decide_eq_true_eq]
  omega
theorem atM_end (op : Int) (c : Code1) (j : Nat) (hj : j < 32) : atM op c 32 0 j = inM op c j := by
  unfold atM inM
  rw [List.take_zero, show hasI op j [] = false from rfl, Bool.and_false, Bool.or_false]
  congr 1
  rw [Bool.eq_iff_iff, decide_eq_true_eq, decide_eq_true_eq]
  omega
theorem atM_step (op : Int) (c : Code1) (k i : Nat) (hi : i < c.length) (j : Nat) : atM op c k (i + 1) j = (atM op c k i j || (decide (c[i].op = op ∧ c[i].a = (k : Int)) && decide (j = k))) := by
  unfold atM
  rw [List.take_succ_eq_append_getElem hi, hasI_app, Bool.and_or_distrib_left, ← Bool.or_assoc]
  congr 1
  unfold hasI
  simp only [List.any_cons, List.any_nil, Bool.or_false]
  by_cases h : j = k
  · subst h; simp
  · simp [h]
theorem atM_yes {op : Int} {c : Code1} {k i : Nat} (hi : i < c.length) (h : c[i].op = op ∧ c[i].a = (k : Int)) {x : BitVec 32} (hx : IsMask x (atM op c k i)) : IsMask (x ||| bit32 k) (atM op c k (i + 1)) :=
  (hx.bit k).of fun j _ => by rw [atM_step op c k i hi, decide_eq_true h, Bool.true_and]
theorem atM_no {op : Int} {c : Code1} {k i : Nat} (hi : i < c.length) (h : ¬ (c[i].op = op ∧ c[i].a = (k : Int))) {x : BitVec 32} (hx : IsMask x (atM op c k i)) : IsMask x (atM op c k (i + 1)) :=
  hx.of fun j _ => by rw [atM_step op c k i hi, decide_eq_false h, Bool.false_and, Bool.or_false]
theorem shl_u32 {k : Nat} (hk : k < 32) : IntKind.u32.wrap (2 ^ k) = w32 (bit32 k) := by
  unfold w32 bit32
  rw [BitVec.toNat_shiftLeft, BitVec.toNat_ofNat, Nat.shiftLeft_eq]
  have h : (2 : Nat) ^ k < 2 ^ 32 := Nat.pow_lt_pow_right (by decide) hk
  rw [show 1 % 2 ^ 32 * 2 ^ k = 2 ^ k from by simp, Nat.mod_eq_of_lt h]
  have h2 : ((2 : Int) ^ k) = ((2 ^ k : Nat) : Int) := by norm_cast
  rw [h2]
  generalize 2 ^ k = m at *
  simp [IntKind.wrap, IntKind.bits, IntKind.signed]
  omega
end Go.Proofs.Ytdeneckmoejcfaa
namespace Go.Proofs.Ytdeneckmoejcfaa
open Go.RowKit

structure ProgS where
  code : Code1
  locals : Int
  reads : BitVec 32
  writes : BitVec 32
def compS (l : List St) : CR ProgS :=
  if rightS 40 l = true then (codeL [] l).andThen fun r => if 4000 < r.1.length then .err 3 else .ok ⟨r.1, (r.2 : Int), maskC 4 r.1, maskC 5 r.1⟩ else .err 130
/-- the value of a program whose code is vc -/
def progV (p : ProgS) (vc : Value) : Value := .agg #[vc, .int .i64 p.locals, .int .u32 (w32 p.reads), .int .u32 (w32 p.writes)]
def zeroP : Value := .agg #[.slice none 0 0, .int .i64 0, .int .u32 0, .int .u32 0]
def ProgE (t : TypeId) (w w' : World) (e : Ending) : CR ProgS → Prop
  | .ok p => ∃ v, e = .returned (.tuple #[progV p v, .int .i64 0]) ∧ OwnC w' w.heap.size t v p.code
  | .err k => e = .returned (.tuple #[zeroP, .int .i64 k]) ∧ (k = 130 ∨ k = 131 ∨ k = 132 ∨ k = 5 ∨ k = 3)
end Go.Proofs.Ytdeneckmoejcfaa
