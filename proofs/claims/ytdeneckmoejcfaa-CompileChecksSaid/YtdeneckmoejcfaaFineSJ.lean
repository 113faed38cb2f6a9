/- Which trees can be written (P12.3), as functions. Plain mathematics. -/
/- What a printable statement's head is like, for each kind of statement. Plain mathematics. -/
/- The code of a program, as functions of its tree: parts' codes are put together, whose jumps begin with their own first instruction. Plain mathematics. -/
/- How long codes are, and where their jumps lead. Plain mathematics. -/
/- How long the codes of statements are, and where their jumps lead. Plain mathematics. -/
/- The program's translator as functions on its state; that they give the code of a tree, or the first error. Plain mathematics. -/
import Derived.Test.YtdeneckmoejcfaaRLexJ
set_option linter.unusedSimpArgs false
set_option linter.unusedVariables false
namespace Go.Proofs.Ytdeneckmoejcfaa

def manyS (op : Int) : Nat := if op < 10 then (if op = 1 ∨ op = 2 ∨ op = 4 ∨ op = 5 then 0 else 1) else 2
def headE (op n : Int) (name : List UInt8) (len : Nat) : Bool :=
  decide (1 ≤ op ∧ op ≤ 24) && (decide (len = manyS op) && ((if op = 2 then nameS name else decide (name = [])) && (if op = 1 then decide (0 ≤ n) else if op = 3 then decide (1 ≤ n ∧ n ≤ 10) else decide (n = 0))))
def fineS : Nat → Ex → Bool
  | 0, _ => false
  | d + 1, .mk op n name args => headE op n name args.length && args.all (fineS d)
def manyT (op : Int) : Nat := if op = 3 then 2 else if 5 < op then 0 else 1
def headT (op n : Int) (name : List UInt8) (le lb ll : Nat) : Bool :=
  decide (1 ≤ op ∧ op ≤ 7) && (decide (le = manyT op) && ((if op ≤ 2 then nameS name else decide (name = [])) && ((if op = 3 then decide (1 ≤ n ∧ n ≤ 10) else decide (n = 0)) && (decide (lb = 0 ∨ op = 4 ∨ op = 5) && decide (ll = 0 ∨ op = 4)))))
def rightS : Nat → List St → Bool
  | 0, l => l.isEmpty
  | d + 1, l => l.all fun s => match s with
    | .mk op n name es body els => (rightS d body && rightS d els) && (headT op n name es.length body.length els.length && es.all (fineS 40))
def right1 (d : Nat) : St → Bool
  | .mk op n name es body els => (rightS d body && rightS d els) && (headT op n name es.length body.length els.length && es.all (fineS 40))
theorem rightS_succ (d : Nat) (l : List St) : rightS (d + 1) l = l.all (right1 d) := by
  rw [rightS]
  try rfl
theorem headE_1 (n : Int) (name : List UInt8) (len : Nat) : headE 1 n name len = (decide (len = 0) && (decide (name = []) && decide (0 ≤ n))) := by simp [headE, manyS]
theorem headE_2 (n : Int) (name : List UInt8) (len : Nat) : headE 2 n name len = (decide (len = 0) && (nameS name && decide (n = 0))) := by simp [headE, manyS]
theorem headE_3 (n : Int) (name : List UInt8) (len : Nat) : headE 3 n name len = (decide (len = 1) && (decide (name = []) && decide (1 ≤ n ∧ n ≤ 10))) := by simp [headE, manyS]
theorem headE_4 (n : Int) (name : List UInt8) (len : Nat) : headE 4 n name len = (decide (len = 0) && (decide (name = []) && decide (n = 0))) := by simp [headE, manyS]
theorem headE_5 (n : Int) (name : List UInt8) (len : Nat) : headE 5 n name len = (decide (len = 0) && (decide (name = []) && decide (n = 0))) := by simp [headE, manyS]
theorem headE_E (op n : Int) (name : List UInt8) (len : Nat) (h1 : 6 ≤ op) (h2 : op ≤ 9) : headE op n name len = (decide (len = 1) && (decide (name = []) && decide (n = 0))) := by
  unfold headE manyS
  rw [decide_eq_true (show 1 ≤ op ∧ op ≤ 24 by omega), if_pos (show op < 10 by omega), if_neg (by omega), if_neg (by omega), if_neg (by omega), if_neg (by omega), Bool.true_and]
theorem headE_F (op n : Int) (name : List UInt8) (len : Nat) (h1 : 10 ≤ op) (h2 : op ≤ 24) : headE op n name len = (decide (len = 2) && (decide (name = []) && decide (n = 0))) := by
  unfold headE manyS
  rw [decide_eq_true (show 1 ≤ op ∧ op ≤ 24 by omega), if_neg (by omega), if_neg (by omega), if_neg (by omega), if_neg (by omega), Bool.true_and]
theorem headE_G (op n : Int) (name : List UInt8) (len : Nat) (h : ¬ (1 ≤ op ∧ op ≤ 24)) : headE op n name len = false := by
  unfold headE
  rw [decide_eq_false h, Bool.false_and]
/-- as the program counts arguments: -1 where there is no such operation -/
def manyP (op : Int) : Int := if 1 ≤ op ∧ op ≤ 24 then (manyS op : Int) else -1
theorem name_nil : nameS [] = false := by decide +kernel
theorem headE_alt (op n : Int) (name : List UInt8) (len : Nat) : headE op n name len = (decide (manyP op = (len : Int)) && (((op == 2) == decide (name ≠ [])) && ((decide (name = []) || nameS name) && (if op = 1 then decide (0 ≤ n) else if op = 3 then decide (1 ≤ n ∧ n ≤ 10) else decide (n = 0))))) := by
  unfold headE manyP
  by_cases h : 1 ≤ op ∧ op ≤ 24
  · rw [decide_eq_true h, Bool.true_and, if_pos h]
    have e : decide ((manyS op : Int) = (len : Int)) = decide (len = manyS op) := by
      rw [Bool.eq_iff_iff, decide_eq_true_eq, decide_eq_true_eq]; omega
    rw [e]
    congr 1
    by_cases h2 : op = 2
    · have e2 : (op == 2) = true := by simp [h2]
      rw [if_pos h2, e2]
      by_cases hn : name = []
      · rw [hn, name_nil]; simp
      · simp [hn]
    · have e2 : (op == 2) = false := by simp [h2]
      rw [if_neg h2, e2]
      by_cases hn : name = []
      · simp [hn]
      · simp [hn]
  · rw [decide_eq_false h, Bool.false_and, if_neg h, decide_eq_false (by omega), Bool.false_and]
theorem all_take {α : Type} {p : α → Bool} {l : List α} {k : Nat} {x : α} (h : l[k]? = some x) (h1 : (l.take k).all p = true) : (p x = true → (l.take (k + 1)).all p = true) ∧ (p x = false → l.all p = false) := by
  obtain ⟨hlt, rfl⟩ := List.getElem?_eq_some_iff.1 h
  constructor
  · intro hp
    rw [List.take_succ_eq_append_getElem hlt, List.all_append, h1]
    simp [hp]
  · intro hp
    rw [Bool.eq_false_iff]
    intro ha
    rw [List.all_eq_true] at ha
    rw [ha _ (List.getElem_mem hlt)] at hp
    cases hp
end Go.Proofs.Ytdeneckmoejcfaa
namespace Go.Proofs.Ytdeneckmoejcfaa

theorem headT_11000 (op n : Int) (name : List UInt8) (le lb ll : Nat) (h1 : 1 ≤ op) (h2 : op ≤ 2) : headT op n name le lb ll = (decide (le = 1) && (nameS name && (decide (n = 0) && (decide (lb = 0) && decide (ll = 0))))) := by
  unfold headT manyT
  rw [decide_eq_true (show 1 ≤ op ∧ op ≤ 7 by omega), if_neg (by omega), if_neg (by omega), if_pos h2, if_neg (by omega), Bool.true_and]
  have e1 : decide (lb = 0 ∨ op = 4 ∨ op = 5) = decide (lb = 0) := by rw [Bool.eq_iff_iff, decide_eq_true_eq, decide_eq_true_eq]; omega
  have e2 : decide (ll = 0 ∨ op = 4) = decide (ll = 0) := by rw [Bool.eq_iff_iff, decide_eq_true_eq, decide_eq_true_eq]; omega
  rw [e1, e2]
theorem headT_20100 (op n : Int) (name : List UInt8) (le lb ll : Nat) (h : op = 3) : headT op n name le lb ll = (decide (le = 2) && (decide (name = []) && (decide (1 ≤ n ∧ n ≤ 10) && (decide (lb = 0) && decide (ll = 0))))) := by
  unfold headT manyT
  rw [decide_eq_true (show 1 ≤ op ∧ op ≤ 7 by omega), if_pos h, if_neg (by omega), if_pos h, Bool.true_and]
  have e1 : decide (lb = 0 ∨ op = 4 ∨ op = 5) = decide (lb = 0) := by rw [Bool.eq_iff_iff, decide_eq_true_eq, decide_eq_true_eq]; omega
  have e2 : decide (ll = 0 ∨ op = 4) = decide (ll = 0) := by rw [Bool.eq_iff_iff, decide_eq_true_eq, decide_eq_true_eq]; omega
  rw [e1, e2]
theorem headT_10011 (op n : Int) (name : List UInt8) (le lb ll : Nat) (h : op = 4) : headT op n name le lb ll = (decide (le = 1) && (decide (name = []) && (decide (n = 0) && (true)))) := by
  unfold headT manyT
  rw [decide_eq_true (show 1 ≤ op ∧ op ≤ 7 by omega), if_neg (by omega), if_neg (by omega), if_neg (by omega), if_neg (by omega), Bool.true_and, decide_eq_true (show lb = 0 ∨ op = 4 ∨ op = 5 from .inr (.inl h)), decide_eq_true (show ll = 0 ∨ op = 4 from .inr h)]
  rfl
theorem headT_10010 (op n : Int) (name : List UInt8) (le lb ll : Nat) (h : op = 5) : headT op n name le lb ll = (decide (le = 1) && (decide (name = []) && (decide (n = 0) && (decide (ll = 0))))) := by
  unfold headT manyT
  have e2 : decide (ll = 0 ∨ op = 4) = decide (ll = 0) := by rw [Bool.eq_iff_iff, decide_eq_true_eq, decide_eq_true_eq]; omega
  rw [decide_eq_true (show 1 ≤ op ∧ op ≤ 7 by omega), if_neg (by omega), if_neg (by omega), if_neg (by omega), if_neg (by omega), Bool.true_and, decide_eq_true (show lb = 0 ∨ op = 4 ∨ op = 5 from .inr (.inr h)), e2, Bool.true_and]
theorem headT_00000 (op n : Int) (name : List UInt8) (le lb ll : Nat) (h1 : 6 ≤ op) (h2 : op ≤ 7) : headT op n name le lb ll = (decide (le = 0) && (decide (name = []) && (decide (n = 0) && (decide (lb = 0) && decide (ll = 0))))) := by
  unfold headT manyT
  rw [decide_eq_true (show 1 ≤ op ∧ op ≤ 7 by omega), if_neg (by omega), if_pos (by omega), if_neg (by omega), if_neg (by omega), Bool.true_and]
  have e1 : decide (lb = 0 ∨ op = 4 ∨ op = 5) = decide (lb = 0) := by rw [Bool.eq_iff_iff, decide_eq_true_eq, decide_eq_true_eq]; omega
  have e2 : decide (ll = 0 ∨ op = 4) = decide (ll = 0) := by rw [Bool.eq_iff_iff, decide_eq_true_eq, decide_eq_true_eq]; omega
  rw [e1, e2]
theorem headT_out (op n : Int) (name : List UInt8) (le lb ll : Nat) (h : ¬ (1 ≤ op ∧ op ≤ 7)) : headT op n name le lb ll = false := by
  unfold headT
  rw [decide_eq_false h, Bool.false_and]
end Go.Proofs.Ytdeneckmoejcfaa
namespace Go.Proofs.Ytdeneckmoejcfaa

/-- an instruction -/
structure InsS where
  op : Int
  a : Int
abbrev Names := List (List UInt8)
abbrev Code1 := List InsS
def jumpB (i : InsS) : Bool := decide (11 ≤ i.op ∧ i.op ≤ 13)
def shiftI (k : Int) (i : InsS) : InsS := if jumpB i = true then ⟨i.op, i.a + k⟩ else i
def shiftC (k : Int) (c : Code1) : Code1 := c.map (shiftI k)
def joinC (a b : Code1) : Code1 := a ++ shiftC a.length b
def lazyC (a b : Code1) (op : Int) : Code1 := joinC a (⟨12 + op - 21, b.length + 3⟩ :: (shiftC 1 b ++ [⟨10, 0⟩, ⟨11, b.length + 4⟩, ⟨1, op - 21⟩]))
/-- a code, or an error -/
inductive CR (α : Type) where
  | ok (x : α)
  | err (e : Int)
def CR.andThen {α β : Type} (r : CR α) (f : α → CR β) : CR β :=
  match r with
  | .ok x => f x
  | .err e => .err e
def finE (op n : Int) : List Code1 → CR Code1
  | [a] => .ok (joinC a [if op = 3 then ⟨4, n⟩ else if op = 6 then ⟨8, 0⟩ else ⟨9, op⟩])
  | [a, b] => .ok (if op = 21 ∨ op = 22 then lazyC a b op else joinC (joinC a b) [⟨9, op⟩])
  | _ => .ok []
mutual
def codeE (ns : Names) : Ex → CR Code1
  | .mk op n name args =>
    if op = 1 then .ok [⟨1, n⟩]
    else if op = 2 then (if placeS name ns 0 = 0 then .err 131 else .ok [⟨2, (placeS name ns 0 : Int) - 1⟩])
    else if op = 4 then .ok [⟨6, 0⟩]
    else if op = 5 then .ok [⟨7, 0⟩]
    else (codeEs ns args).andThen fun cs => finE op n cs
def codeEs (ns : Names) : List Ex → CR (List Code1)
  | [] => .ok []
  | x :: r => (codeE ns x).andThen fun c => (codeEs ns r).andThen fun cs => .ok (c :: cs)
end
def joinAll (cs : List Code1) : Code1 := cs.foldl joinC []
def whileC (out b : Code1) : Code1 := out ++ (⟨12, out.length + 1 + b.length + 1⟩ :: (shiftC (out.length + 1) b ++ [⟨11, 0⟩]))
def ifC (out b o : Code1) (el : Bool) : Code1 :=
  if el = true then joinC (out ++ (⟨12, out.length + 1 + b.length + 1⟩ :: (shiftC (out.length + 1) b ++ [⟨11, out.length + 1 + b.length + 1 + o.length⟩]))) o
  else joinC (out ++ (⟨12, out.length + 1 + b.length⟩ :: shiftC (out.length + 1) b)) o
mutual
/-- the code of a statement, and the greatest number of variables that are visible in it -/
def codeT (ns : Names) : St → CR (Code1 × Nat)
  | .mk op n name es body els => (codeEs ns es).andThen fun cs =>
    if op = 1 then (if placeS name ns 0 ≠ 0 then .err 132 else if 32 ≤ ns.length then .err 5 else .ok (joinC (joinAll cs) [⟨3, ns.length⟩], 0))
    else if op = 2 then (if placeS name ns 0 = 0 then .err 131 else .ok (joinC (joinAll cs) [⟨3, (placeS name ns 0 : Int) - 1⟩], 0))
    else if op = 3 then .ok (joinC (joinAll cs) [⟨5, n⟩], 0)
    else if op = 6 then .ok ([⟨14, 0⟩], 0)
    else if op = 7 then .ok ([⟨15, 0⟩], 0)
    else (codeL ns body).andThen fun b =>
      if op = 5 then .ok (whileC (joinAll cs) b.1, b.2)
      else (codeL ns els).andThen fun o => .ok (ifC (joinAll cs) b.1 o.1 (decide (els ≠ [])), max b.2 o.2)
/-- the code of a list of statements, and the greatest number of variables -/
def codeL (ns : Names) : List St → CR (Code1 × Nat)
  | [] => .ok ([], ns.length)
  | .mk op n name es body els :: r => (codeT ns (.mk op n name es body els)).andThen fun c => (codeL (if op = 1 then ns ++ [name] else ns) r).andThen fun c' => .ok (joinC c.1 c'.1, max c.2 c'.2)
end
theorem shiftC_len (k : Int) (c : Code1) : (shiftC k c).length = c.length := by simp [shiftC]
theorem joinC_len (a b : Code1) : (joinC a b).length = a.length + b.length := by simp [joinC, shiftC_len]
theorem shiftI_op (k : Int) (i : InsS) : (shiftI k i).op = i.op := by unfold shiftI; split <;> rfl
theorem jumpB_shift (k : Int) (i : InsS) : jumpB (shiftI k i) = jumpB i := by unfold jumpB; rw [shiftI_op]
theorem shiftI_add (k m : Int) (i : InsS) : shiftI k (shiftI m i) = shiftI (m + k) i := by
  have h := jumpB_shift m i
  unfold shiftI at *
  by_cases hj : jumpB i = true
  · simp only [hj, if_true] at h ⊢
    rw [if_pos h, Int.add_assoc]
  · simp only [hj] at h ⊢
    simp [hj]
theorem shiftI_zero (i : InsS) : shiftI 0 i = i := by
  unfold shiftI
  split
  · rw [Int.add_zero]
  · rfl
theorem shiftC_add (k m : Int) (c : Code1) : shiftC k (shiftC m c) = shiftC (m + k) c := by
  unfold shiftC
  rw [List.map_map]
  congr 1
  funext i
  exact shiftI_add k m i
theorem shiftC_zero (c : Code1) : shiftC 0 c = c := by
  unfold shiftC
  rw [show shiftI 0 = id from funext shiftI_zero, List.map_id]
theorem shiftC_app (k : Int) (a b : Code1) : shiftC k (a ++ b) = shiftC k a ++ shiftC k b := by simp [shiftC]
theorem joinC_nil (a : Code1) : joinC [] a = a := by
  unfold joinC
  exact shiftC_zero a
theorem joinC_nil' (a : Code1) : joinC a [] = a := by simp [joinC, shiftC]
theorem joinC_assoc (a b c : Code1) : joinC (joinC a b) c = joinC a (joinC b c) := by
  unfold joinC
  rw [shiftC_app, shiftC_add, List.append_assoc, List.length_append, shiftC_len]
  congr 3
  omega
end Go.Proofs.Ytdeneckmoejcfaa
namespace Go.Proofs.Ytdeneckmoejcfaa

/-- jumps lead into the code, or to its end -/
def jOk (c : Code1) : Prop := ∀ i ∈ c, jumpB i = true → 0 ≤ i.a ∧ i.a ≤ c.length
theorem jOk_shift {c : Code1} {k m : Nat} (h : jOk c) (hm : c.length + k ≤ m) : ∀ i ∈ shiftC k c, jumpB i = true → 0 ≤ i.a ∧ i.a ≤ m := by
  intro i hi hj
  unfold shiftC at hi
  obtain ⟨x, hx, rfl⟩ := List.mem_map.1 hi
  rw [jumpB_shift] at hj
  have := h x hx hj
  unfold shiftI
  rw [if_pos hj]
  show 0 ≤ x.a + k ∧ x.a + k ≤ m
  omega
theorem jOk_join {a b : Code1} (ha : jOk a) (hb : jOk b) : jOk (joinC a b) := by
  intro i hi hj
  rw [joinC_len]
  unfold joinC at hi
  rcases List.mem_append.1 hi with hi | hi
  · have := ha i hi hj
    omega
  · exact jOk_shift hb (by omega) i hi hj
theorem jOk_one {i : InsS} (h : jumpB i = false) : jOk [i] := by
  intro x hx hj
  rw [List.mem_singleton] at hx
  rw [hx, h] at hj
  cases hj
theorem jOk_nil : jOk [] := fun i hi => by simp at hi
theorem jOk_lazy {a b : Code1} {op : Int} (ha : jOk a) (hb : jOk b) : jOk (lazyC a b op) := by
  refine jOk_join ha ?_
  intro i hi hj
  simp only [List.length_cons, List.length_append, shiftC_len, List.length_nil]
  rcases List.mem_cons.1 hi with rfl | hi
  · show 0 ≤ (b.length : Int) + 3 ∧ (b.length : Int) + 3 ≤ _
    omega
  · rcases List.mem_append.1 hi with hi | hi
    · exact jOk_shift (k := 1) hb (by omega) i hi hj
    · simp only [List.mem_cons, List.not_mem_nil, or_false] at hi
      rcases hi with rfl | rfl | rfl
      · cases hj
      · show 0 ≤ (b.length : Int) + 4 ∧ (b.length : Int) + 4 ≤ _
        omega
      · cases hj
theorem lazyC_len (a b : Code1) (op : Int) : (lazyC a b op).length = a.length + b.length + 4 := by
  unfold lazyC
  rw [joinC_len]
  simp only [List.length_cons, List.length_append, shiftC_len, List.length_nil]
  omega
def sumLen (cs : List Code1) : Nat := (cs.map List.length).foldr (· + ·) 0
theorem finE_ok {op n : Int} {cs : List Code1} {c : Code1} (h : finE op n cs = .ok c) (hcs : ∀ x ∈ cs, jOk x) : jOk c ∧ c.length ≤ sumLen cs + 4 := by
  match cs, h, hcs with
  | [], h, _ => simp only [finE, CR.ok.injEq] at h; subst h; exact ⟨jOk_nil, by simp⟩
  | [a], h, hcs =>
    simp only [finE, CR.ok.injEq] at h
    subst h
    refine ⟨jOk_join (hcs a (by simp)) (jOk_one ?_), ?_⟩
    · split
      · rfl
      · split <;> rfl
    · rw [joinC_len]; simp [sumLen]
  | [a, b], h, hcs =>
    simp only [finE, CR.ok.injEq] at h
    subst h
    split
    · exact ⟨jOk_lazy (hcs a (by simp)) (hcs b (by simp)), by rw [lazyC_len]; simp [sumLen]⟩
    · exact ⟨jOk_join (jOk_join (hcs a (by simp)) (hcs b (by simp))) (jOk_one rfl), by rw [joinC_len, joinC_len]; simp [sumLen]⟩
  | a :: b :: c' :: r, h, _ => simp only [finE, CR.ok.injEq] at h; subst h; exact ⟨jOk_nil, by simp⟩
theorem CR.andThen_ok {α β : Type} {r : CR α} {f : α → CR β} {y : β} (h : r.andThen f = .ok y) : ∃ x, r = .ok x ∧ f x = .ok y := by
  cases r with
  | ok x => exact ⟨x, rfl, h⟩
  | err e => cases h
mutual
theorem codeE_ok (ns : Names) : ∀ (x : Ex) (c : Code1), codeE ns x = .ok c → jOk c ∧ c.length ≤ 4 * szE x
  | .mk op n name args, c, h => by
    unfold codeE at h
    rw [szE]
    split at h
    · cases h; exact ⟨jOk_one rfl, by simp; omega⟩
    · split at h
      · split at h
        · cases h
        · cases h; exact ⟨jOk_one rfl, by simp; omega⟩
      · split at h
        · cases h; exact ⟨jOk_one rfl, by simp; omega⟩
        · split at h
          · cases h; exact ⟨jOk_one rfl, by simp; omega⟩
          · obtain ⟨cs, h1, h2⟩ := CR.andThen_ok h
            obtain ⟨h3, h4, _⟩ := codeEs_ok ns args cs h1
            obtain ⟨h5, h6⟩ := finE_ok h2 h3
            exact ⟨h5, by omega⟩
theorem codeEs_ok (ns : Names) : ∀ (xs : List Ex) (cs : List Code1), codeEs ns xs = .ok cs → (∀ c ∈ cs, jOk c) ∧ sumLen cs ≤ 4 * szEs xs ∧ cs.length = xs.length
  | [], cs, h => by
    simp only [codeEs, CR.ok.injEq] at h
    subst h
    exact ⟨by simp, by simp [sumLen], rfl⟩
  | x :: r, cs, h => by
    unfold codeEs at h
    obtain ⟨c, h1, h2⟩ := CR.andThen_ok h
    obtain ⟨cs', h3, h4⟩ := CR.andThen_ok h2
    cases h4
    obtain ⟨a1, a2⟩ := codeE_ok ns x c h1
    obtain ⟨b1, b2, b3⟩ := codeEs_ok ns r cs' h3
    refine ⟨?_, ?_, by simp [b3]⟩
    · intro y hy
      rcases List.mem_cons.1 hy with rfl | hy
      · exact a1
      · exact b1 y hy
    · rw [szEs]
      show c.length + sumLen cs' ≤ _
      omega
end
mutual
theorem codeE_err (ns : Names) : ∀ (x : Ex) (e : Int), codeE ns x = .err e → e = 131
  | .mk op n name args, e, h => by
    unfold codeE at h
    split at h
    · cases h
    · split at h
      · split at h
        · cases h; rfl
        · cases h
      · split at h
        · cases h
        · split at h
          · cases h
          · cases hc : codeEs ns args with
            | ok cs =>
              rw [hc] at h
              match cs, h with
              | [], h => cases h
              | [a], h => cases h
              | [a, b], h => cases h
              | a :: b :: c' :: r, h => cases h
            | err e' =>
              rw [hc] at h
              cases h
              exact codeEs_err ns args e hc
theorem codeEs_err (ns : Names) : ∀ (xs : List Ex) (e : Int), codeEs ns xs = .err e → e = 131
  | [], e, h => by cases h
  | x :: r, e, h => by
    unfold codeEs at h
    cases hc : codeE ns x with
    | ok c =>
      rw [hc] at h
      cases hr : codeEs ns r with
      | ok cs => rw [show (CR.ok c).andThen (fun c => (codeEs ns r).andThen fun cs => .ok (c :: cs)) = (codeEs ns r).andThen fun cs => .ok (c :: cs) from rfl, hr] at h; cases h
      | err e' =>
        rw [show (CR.ok c).andThen (fun c => (codeEs ns r).andThen fun cs => .ok (c :: cs)) = (codeEs ns r).andThen fun cs => .ok (c :: cs) from rfl, hr] at h
        cases h
        exact codeEs_err ns r e hr
    | err e' =>
      rw [hc] at h
      cases h
      exact codeE_err ns x e hc
end
end Go.Proofs.Ytdeneckmoejcfaa
namespace Go.Proofs.Ytdeneckmoejcfaa

theorem joinAll_acc : ∀ (cs : List Code1) (a : Code1), jOk a → (∀ c ∈ cs, jOk c) → jOk (cs.foldl joinC a) ∧ (cs.foldl joinC a).length = a.length + sumLen cs := by
  intro cs
  induction cs with
  | nil => intro a ha _; exact ⟨ha, by simp [sumLen]⟩
  | cons c r ih =>
    intro a ha hc
    obtain ⟨h1, h2⟩ := ih (joinC a c) (jOk_join ha (hc c (by simp))) (fun x hx => hc x (by simp [hx]))
    refine ⟨h1, ?_⟩
    rw [List.foldl_cons, h2, joinC_len]
    simp only [sumLen, List.map_cons, List.foldr_cons]
    omega
theorem joinAll_ok {cs : List Code1} (h : ∀ c ∈ cs, jOk c) : jOk (joinAll cs) ∧ (joinAll cs).length = sumLen cs := by
  obtain ⟨h1, h2⟩ := joinAll_acc cs [] jOk_nil h
  exact ⟨h1, by rw [joinAll, h2]; simp⟩
theorem whileC_len (o b : Code1) : (whileC o b).length = o.length + b.length + 2 := by
  unfold whileC
  simp only [List.length_append, List.length_cons, shiftC_len, List.length_nil]
  omega
theorem jOk_while {o b : Code1} (ho : jOk o) (hb : jOk b) : jOk (whileC o b) := by
  intro i hi hj
  rw [whileC_len]
  unfold whileC at hi
  rcases List.mem_append.1 hi with hi | hi
  · have := ho i hi hj; omega
  · rcases List.mem_cons.1 hi with rfl | hi
    · show 0 ≤ (o.length : Int) + 1 + b.length + 1 ∧ (o.length : Int) + 1 + b.length + 1 ≤ _
      omega
    · rcases List.mem_append.1 hi with hi | hi
      · exact jOk_shift (k := o.length + 1) hb (by omega) i hi hj
      · rw [List.mem_singleton] at hi
        subst hi
        show (0 : Int) ≤ 0 ∧ (0 : Int) ≤ _
        omega
theorem ifC_len (o b e : Code1) (el : Bool) : (ifC o b e el).length ≤ o.length + b.length + e.length + 2 := by
  unfold ifC
  split <;>
  · rw [joinC_len]
    simp only [List.length_append, List.length_cons, shiftC_len, List.length_nil]
    omega
theorem jOk_if {o b e : Code1} {el : Bool} (ho : jOk o) (hb : jOk b) (he : jOk e) : jOk (ifC o b e el) := by
  unfold ifC
  split
  · intro i hi hj
    rw [joinC_len]
    simp only [List.length_append, List.length_cons, shiftC_len, List.length_nil]
    unfold joinC at hi
    simp only [List.length_append, List.length_cons, shiftC_len, List.length_nil] at hi
    rcases List.mem_append.1 hi with hi | hi
    · rcases List.mem_append.1 hi with hi | hi
      · have := ho i hi hj; omega
      · rcases List.mem_cons.1 hi with rfl | hi
        · show 0 ≤ (o.length : Int) + 1 + b.length + 1 ∧ (o.length : Int) + 1 + b.length + 1 ≤ _
          omega
        · rcases List.mem_append.1 hi with hi | hi
          · exact jOk_shift (k := o.length + 1) hb (by omega) i hi hj
          · rw [List.mem_singleton] at hi
            subst hi
            show 0 ≤ (o.length : Int) + 1 + b.length + 1 + e.length ∧ (o.length : Int) + 1 + b.length + 1 + e.length ≤ _
            omega
    · exact jOk_shift he (by omega) i hi hj
  · intro i hi hj
    rw [joinC_len]
    simp only [List.length_append, List.length_cons, shiftC_len]
    unfold joinC at hi
    simp only [List.length_append, List.length_cons, shiftC_len] at hi
    rcases List.mem_append.1 hi with hi | hi
    · rcases List.mem_append.1 hi with hi | hi
      · have := ho i hi hj; omega
      · rcases List.mem_cons.1 hi with rfl | hi
        · show 0 ≤ (o.length : Int) + 1 + b.length ∧ (o.length : Int) + 1 + b.length ≤ _
          omega
        · exact jOk_shift (k := o.length + 1) hb (by omega) i hi hj
    · exact jOk_shift he (by omega) i hi hj
mutual
theorem codeT_ok (ns : Names) : ∀ (x : St) (r : Code1 × Nat), codeT ns x = .ok r → jOk r.1 ∧ r.1.length ≤ 4 * szS x ∧ r.2 ≤ ns.length + szS x
  | .mk op n name es body els, r, h => by
    unfold codeT at h
    rw [szS]
    obtain ⟨cs, h1, h2⟩ := CR.andThen_ok h
    obtain ⟨a1, a2, _⟩ := codeEs_ok ns es cs h1
    obtain ⟨b1, b2⟩ := joinAll_ok a1
    have one : ∀ i : InsS, jumpB i = false → jOk (joinC (joinAll cs) [i]) ∧ (joinC (joinAll cs) [i]).length ≤ 4 * (1 + name.length / 30 + szEs es + szSs body + szSs els) := fun i hi => ⟨jOk_join b1 (jOk_one hi), by rw [joinC_len, b2]; simp only [List.length_singleton]; omega⟩
    split at h2
    · split at h2
      · cases h2
      · split at h2
        · cases h2
        · cases h2; exact ⟨(one _ rfl).1, (one _ rfl).2, by simp⟩
    · split at h2
      · split at h2
        · cases h2
        · cases h2; exact ⟨(one _ rfl).1, (one _ rfl).2, by simp⟩
      · split at h2
        · cases h2; exact ⟨(one _ rfl).1, (one _ rfl).2, by simp⟩
        · split at h2
          · cases h2; exact ⟨jOk_one rfl, by simp; omega, by simp⟩
          · split at h2
            · cases h2; exact ⟨jOk_one rfl, by simp; omega, by simp⟩
            · obtain ⟨rb, h3, h4⟩ := CR.andThen_ok h2
              obtain ⟨d1, d2, d3⟩ := codeL_ok ns body rb h3
              split at h4
              · cases h4
                refine ⟨jOk_while b1 d1, ?_, ?_⟩
                · show (whileC _ _).length ≤ _
                  rw [whileC_len, b2]; omega
                · show rb.2 ≤ _
                  omega
              · obtain ⟨ro, h5, h6⟩ := CR.andThen_ok h4
                obtain ⟨f1, f2, f3⟩ := codeL_ok ns els ro h5
                cases h6
                refine ⟨jOk_if b1 d1 f1, ?_, ?_⟩
                · have := ifC_len (joinAll cs) rb.1 ro.1 (decide (els ≠ []))
                  show (ifC _ _ _ _).length ≤ _
                  rw [b2] at this
                  omega
                · show max rb.2 ro.2 ≤ _
                  omega
theorem codeL_ok (ns : Names) : ∀ (l : List St) (r : Code1 × Nat), codeL ns l = .ok r → jOk r.1 ∧ r.1.length ≤ 4 * szSs l ∧ r.2 ≤ ns.length + szSs l
  | [], r, h => by
    unfold codeL at h
    cases h
    exact ⟨jOk_nil, by simp, by simp⟩
  | .mk op n name es body els :: l, r, h => by
    unfold codeL at h
    obtain ⟨c, h1, h2⟩ := CR.andThen_ok h
    obtain ⟨c', h3, h4⟩ := CR.andThen_ok h2
    obtain ⟨a1, a2, a3⟩ := codeT_ok ns (.mk op n name es body els) c h1
    obtain ⟨b1, b2, b3⟩ := codeL_ok _ l c' h3
    have hl : (if op = 1 then ns ++ [name] else ns).length ≤ ns.length + 1 := by split <;> simp
    have hp := szS_pos (.mk op n name es body els)
    cases h4
    rw [szSs]
    refine ⟨jOk_join a1 b1, ?_, ?_⟩
    · show (joinC _ _).length ≤ _
      rw [joinC_len]; omega
    · show max c.2 c'.2 ≤ _
      omega
end
end Go.Proofs.Ytdeneckmoejcfaa
namespace Go.Proofs.Ytdeneckmoejcfaa

/-- the translator's state -/
structure TS where
  code : Code1
  names : Names
  locals : Nat
  e : Int
def TS.put (s : TS) (op a : Int) : TS := { s with code := s.code ++ [⟨op, a⟩] }
def TS.fail (s : TS) (k : Int) : TS := { s with e := if s.e = 0 then k else s.e }
def setA (c : Code1) (k : Nat) (a : Int) : Code1 := c.modify k fun i => ⟨i.op, a⟩
def TS.patch (s : TS) (k : Nat) : TS := { s with code := setA s.code k s.code.length }
def TS.slot (s : TS) (name : List UInt8) : TS := if placeS name s.names 0 = 0 then s.fail 131 else s
def TS.letE (s : TS) (name : List UInt8) : TS := if placeS name s.names 0 ≠ 0 then s.fail 132 else s
def TS.letM (s : TS) : TS := if 32 ≤ s.names.length then s.fail 5 else s
def TS.letN (s : TS) (name : List UInt8) : TS :=
  let q := (s.letE name).letM
  { q with names := q.names ++ [name], locals := max q.locals (q.names.length + 1) }
def lazyFin (s1 s3 : TS) (v : Int) : TS := ((((s3.put 10 0).put 11 0).patch s1.code.length).put 1 v).patch (s3.put 10 0).code.length
def lazyT (fa fb : TS → TS) (j v : Int) (s : TS) : TS := lazyFin (fa s) (fb ((fa s).put j 0)) v
mutual
def tE : Ex → TS → TS
  | .mk op n name args, s =>
    if op = 1 then s.put 1 n
    else if op = 2 then (s.slot name).put 2 ((placeS name s.names 0 : Int) - 1)
    else if op = 4 then s.put 6 0
    else if op = 5 then s.put 7 0
    else if op = 21 then tLazy args 12 0 s
    else if op = 22 then tLazy args 13 1 s
    else if op = 3 then (tEs args s).put 4 n
    else if op = 6 then (tEs args s).put 8 0
    else (tEs args s).put 9 op
def tEs : List Ex → TS → TS
  | [], s => s
  | x :: r, s => tEs r (tE x s)
def tLazy : List Ex → Int → Int → TS → TS
  | [a, b], j, v, s => lazyT (tE a) (tE b) j v s
  | _, _, _, s => s
end
def TS.back (s : TS) (n : Nat) : TS := { s with names := s.names.take n }
mutual
def tS : St → TS → TS
  | .mk op n name es body els, s =>
    if op = 1 then ((tEs es s).letN name).put 3 (tEs es s).names.length
    else if op = 2 then ((tEs es s).slot name).put 3 ((placeS name (tEs es s).names 0 : Int) - 1)
    else if op = 3 then (tEs es s).put 5 n
    else if op = 4 then
      if els ≠ [] then (((tSs els ((((tSs body ((tEs es s).put 12 0)).back (tEs es s).names.length).put 11 0).patch (tEs es s).code.length)).back (tEs es s).names.length)).patch ((tSs body ((tEs es s).put 12 0)).code.length)
      else ((tSs body ((tEs es s).put 12 0)).back (tEs es s).names.length).patch (tEs es s).code.length
    else if op = 5 then (((tSs body ((tEs es s).put 12 0)).back (tEs es s).names.length).put 11 s.code.length).patch (tEs es s).code.length
    else if op = 6 then (tEs es s).put 14 0
    else if op = 7 then (tEs es s).put 15 0
    else tEs es s
def tSs : List St → TS → TS
  | [], s => s
  | x :: r, s => tSs r (tS x s)
end
theorem setA_len (c : Code1) (k : Nat) (a : Int) : (setA c k a).length = c.length := by simp [setA]
theorem setA_mid (x y : Code1) (i : InsS) (a : Int) {k : Nat} (hk : k = x.length) : setA (x ++ i :: y) k a = x ++ ⟨i.op, a⟩ :: y := by
  subst hk
  unfold setA
  induction x with
  | nil => rfl
  | cons z x ih => simp only [List.cons_append, List.length_cons, List.modify_succ_cons, ih]
/-! the state's parts, behind each step -/
theorem TS.put_code (s : TS) (op a : Int) : (s.put op a).code = s.code ++ [⟨op, a⟩] := rfl
theorem TS.slot_code (s : TS) (n : List UInt8) : (s.slot n).code = s.code := by unfold TS.slot; split <;> rfl
theorem TS.slot_names (s : TS) (n : List UInt8) : (s.slot n).names = s.names := by unfold TS.slot; split <;> rfl
theorem TS.slot_locals (s : TS) (n : List UInt8) : (s.slot n).locals = s.locals := by unfold TS.slot; split <;> rfl
theorem TS.letE_parts (s : TS) (n : List UInt8) : (s.letE n).code = s.code ∧ (s.letE n).names = s.names ∧ (s.letE n).locals = s.locals := by unfold TS.letE; split <;> exact ⟨rfl, rfl, rfl⟩
theorem TS.letM_parts (s : TS) : s.letM.code = s.code ∧ s.letM.names = s.names ∧ s.letM.locals = s.locals := by unfold TS.letM; split <;> exact ⟨rfl, rfl, rfl⟩
theorem TS.letN_code (s : TS) (n : List UInt8) : (s.letN n).code = s.code := by
  show ((s.letE n).letM).code = _
  rw [(TS.letM_parts _).1, (TS.letE_parts _ _).1]
theorem TS.letN_names (s : TS) (n : List UInt8) : (s.letN n).names = s.names ++ [n] := by
  show ((s.letE n).letM).names ++ [n] = _
  rw [(TS.letM_parts _).2.1, (TS.letE_parts _ _).2.1]
theorem TS.letN_locals (s : TS) (n : List UInt8) : (s.letN n).locals = max s.locals (s.names.length + 1) := by
  show max ((s.letE n).letM).locals (((s.letE n).letM).names.length + 1) = _
  rw [(TS.letM_parts _).2.1, (TS.letE_parts _ _).2.1, (TS.letM_parts _).2.2, (TS.letE_parts _ _).2.2]
theorem TS.fail_keep {s : TS} (h : s.e ≠ 0) (k : Int) : (s.fail k).e = s.e := if_neg h
theorem TS.fail_new {s : TS} (h : s.e = 0) (k : Int) : (s.fail k).e = k := if_pos h
theorem TS.slot_keep {s : TS} (h : s.e ≠ 0) (n : List UInt8) : (s.slot n).e = s.e := by
  unfold TS.slot
  split
  · exact TS.fail_keep h _
  · rfl
theorem TS.letN_e (s : TS) (n : List UInt8) : (s.letN n).e = if s.e ≠ 0 then s.e else if placeS n s.names 0 ≠ 0 then 132 else if 32 ≤ s.names.length then 5 else 0 := by
  show ((s.letE n).letM).e = _
  by_cases he : s.e ≠ 0
  · rw [if_pos he]
    have h1 : (s.letE n).e = s.e := by unfold TS.letE; split; exact TS.fail_keep he _; rfl
    unfold TS.letM
    split
    · rw [TS.fail_keep (by rw [h1]; exact he), h1]
    · exact h1
  · rw [if_neg he]
    have he0 : s.e = 0 := Decidable.not_not.1 he
    by_cases hp : placeS n s.names 0 ≠ 0
    · rw [if_pos hp]
      have h1 : (s.letE n).e = 132 := by unfold TS.letE; rw [if_pos hp]; exact TS.fail_new he0 _
      unfold TS.letM
      split
      · rw [TS.fail_keep (by rw [h1]; decide), h1]
      · exact h1
    · rw [if_neg hp]
      have h1 : s.letE n = s := by unfold TS.letE; rw [if_neg hp]
      rw [h1]
      unfold TS.letM
      by_cases hm : 32 ≤ s.names.length
      · rw [if_pos hm, if_pos hm]; exact TS.fail_new he0 _
      · rw [if_neg hm, if_neg hm]; exact he0
/-- what an expression's translation does to the state: z is the size -/
structure ExpT (s s' : TS) (z : Nat) (r : CR Code1) : Prop where
  names : s'.names = s.names
  locals : s'.locals = s.locals
  le : s.code.length ≤ s'.code.length
  len : s'.code.length ≤ s.code.length + 4 * z
  keep : s.e ≠ 0 → s'.e = s.e
  ok : s.e = 0 → ∀ c, r = .ok c → s'.e = 0 ∧ s'.code = joinC s.code c
  bad : s.e = 0 → ∀ k, r = .err k → s'.e = k
theorem joinC_one (a : Code1) (i : InsS) (h : jumpB i = false) : joinC a [i] = a ++ [i] := by
  unfold joinC shiftC
  rw [List.map_singleton, show shiftI a.length i = i from by unfold shiftI; rw [if_neg (by rw [h]; decide)]]
theorem ExpT.one (s : TS) (op a : Int) (z : Nat) (hz : 1 ≤ z) (h : jumpB ⟨op, a⟩ = false) : ExpT s (s.put op a) z (.ok [⟨op, a⟩]) :=
  ⟨rfl, rfl, by simp [TS.put_code], by simp [TS.put_code]; omega, fun _ => rfl, fun he c hc => ⟨he, by cases hc; rw [joinC_one _ _ h]; rfl⟩, fun _ k hk => by cases hk⟩
/-- .. several in a row -/
structure ExpsT (s s' : TS) (z : Nat) (r : CR (List Code1)) : Prop where
  names : s'.names = s.names
  locals : s'.locals = s.locals
  le : s.code.length ≤ s'.code.length
  len : s'.code.length ≤ s.code.length + 4 * z
  keep : s.e ≠ 0 → s'.e = s.e
  ok : s.e = 0 → ∀ cs, r = .ok cs → s'.e = 0 ∧ s'.code = joinC s.code (joinAll cs)
  bad : s.e = 0 → ∀ k, r = .err k → s'.e = k
theorem foldl_joinC (cs : List Code1) : ∀ a : Code1, cs.foldl joinC a = joinC a (joinAll cs) := by
  induction cs with
  | nil => intro a; simp [joinAll, joinC_nil']
  | cons c r ih =>
    intro a
    rw [List.foldl_cons, ih]
    show _ = joinC a (List.foldl joinC [] (c :: r))
    rw [List.foldl_cons, ih, joinC_nil, joinC_assoc]
theorem joinAll_cons (c : Code1) (cs : List Code1) : joinAll (c :: cs) = joinC c (joinAll cs) := by
  show List.foldl joinC [] (c :: cs) = _
  rw [List.foldl_cons, foldl_joinC, joinC_nil]
theorem ExpsT.nil (s : TS) : ExpsT s s 0 (.ok []) :=
  ⟨rfl, rfl, Nat.le_refl _, by omega, fun _ => rfl, fun h cs hc => ⟨h, by cases hc; simp [joinAll, joinC_nil']⟩, fun _ k hk => by cases hk⟩
theorem ExpsT.cons {s s1 s2 : TS} {z1 z2 : Nat} {r1 : CR Code1} {r2 : CR (List Code1)} (h : ExpT s s1 z1 r1) (k : ExpsT s1 s2 z2 r2) (he : ∀ k, r1 = .err k → k ≠ 0) : ExpsT s s2 (z1 + z2) (r1.andThen fun c => r2.andThen fun cs => .ok (c :: cs)) := by
  refine ⟨k.names.trans h.names, k.locals.trans h.locals, Nat.le_trans h.le k.le, by have := h.len; have := k.len; omega, fun e => ?_, fun e cs hc => ?_, fun e j hj => ?_⟩
  · have := h.keep e
    rw [k.keep (by rw [this]; exact e), this]
  · obtain ⟨c, rfl, h2⟩ := CR.andThen_ok hc
    obtain ⟨cs', rfl, h4⟩ := CR.andThen_ok h2
    cases h4
    obtain ⟨a1, a2⟩ := h.ok e c rfl
    obtain ⟨b1, b2⟩ := k.ok a1 cs' rfl
    exact ⟨b1, by rw [b2, a2, joinC_assoc, joinAll_cons]⟩
  · cases r1 with
    | err k1 =>
      cases hj
      have := h.bad e j rfl
      rw [k.keep (by rw [this]; exact he j rfl), this]
    | ok c =>
      cases r2 with
      | err k2 => cases hj; exact k.bad (h.ok e c rfl).1 j rfl
      | ok cs => cases hj
/-- .. and an instruction behind them -/
theorem ExpsT.fin {s s1 : TS} {z : Nat} {r : CR (List Code1)} (h : ExpsT s s1 z r) (op a : Int) (hj : jumpB ⟨op, a⟩ = false) {q : CR Code1} (hq : q = r.andThen fun cs => .ok (joinC (joinAll cs) [⟨op, a⟩])) : ExpT s (s1.put op a) (1 + z) q := by
  subst hq
  refine ⟨h.names, h.locals, by have := h.le; simp [TS.put_code]; omega, by have := h.len; simp [TS.put_code]; omega, h.keep, fun e c hc => ?_, fun e k hk => ?_⟩
  · obtain ⟨cs, rfl, h2⟩ := CR.andThen_ok hc
    cases h2
    obtain ⟨a1, a2⟩ := h.ok e cs rfl
    exact ⟨a1, by rw [TS.put_code, a2, ← joinC_assoc, joinC_one _ _ hj]⟩
  · cases r with
    | ok cs => cases hk
    | err k1 => cases hk; exact h.bad e k rfl
theorem setA_app (x y : Code1) (k : Nat) (a : Int) (hk : k < x.length) : setA (x ++ y) k a = setA x k a ++ y := by
  unfold setA
  induction x generalizing k with
  | nil => simp at hk
  | cons z x ih =>
    cases k with
    | zero => simp
    | succ k => simp only [List.cons_append, List.modify_succ_cons]; rw [ih k (by simpa using hk)]
theorem jump_shift {i : InsS} (h : jumpB i = true) (k : Int) : shiftI k i = ⟨i.op, i.a + k⟩ := by unfold shiftI; rw [if_pos h]
theorem jump_not {i : InsS} (h : jumpB i = false) (k : Int) : shiftI k i = i := by unfold shiftI; rw [if_neg (by rw [h]; decide)]
/-- 'and' and 'or': the code -/
theorem lazy_code (C a b : Code1) (op : Int) (hop : op = 21 ∨ op = 22) :
    joinC C (lazyC a b op) = joinC C a ++ ⟨12 + op - 21, ((joinC C a).length + 1 + b.length + 3 - 1 : Nat)⟩ :: (shiftC ((joinC C a).length + 1 : Nat) b ++ [⟨10, 0⟩, ⟨11, ((joinC C a).length + 1 + b.length + 3 : Nat)⟩, ⟨1, op - 21⟩]) := by
  unfold lazyC
  rw [← joinC_assoc]
  generalize joinC C a = D
  unfold joinC shiftC
  rw [List.map_cons, List.map_append, List.map_map]
  have h12 : jumpB ⟨12 + op - 21, (b.length : Int) + 3⟩ = true := by unfold jumpB; rw [decide_eq_true_eq]; show 11 ≤ 12 + op - 21 ∧ 12 + op - 21 ≤ 13; omega
  rw [jump_shift h12]
  congr 1
  congr 1
  · show (⟨12 + op - 21, (b.length : Int) + 3 + D.length⟩ : InsS) = _
    congr 1
    omega
  · congr 1
    · congr 1
      funext i
      show shiftI _ (shiftI _ i) = _
      rw [shiftI_add]
      congr 1
      omega
    · show [shiftI _ ⟨10, 0⟩, shiftI _ ⟨11, (b.length : Int) + 4⟩, shiftI _ ⟨1, op - 21⟩] = _
      rw [jump_not rfl, jump_shift rfl, jump_not rfl]
      congr 2
      show (⟨11, (b.length : Int) + 4 + D.length⟩ : InsS) = _
      congr 1
      omega
theorem lazy_law {s s1 s3 : TS} {za zb : Nat} {ra rb : CR Code1} {fa fb : TS → TS} (j v : Int) (op : Int) (hop : op = 21 ∨ op = 22) (hj : j = 12 + op - 21) (hv : v = op - 21)
    (h1 : fa s = s1) (h3 : fb (s1.put j 0) = s3) (ha : ExpT s s1 za ra) (hb : ExpT (s1.put j 0) s3 zb rb) (hea : ∀ k, ra = .err k → k ≠ 0) :
    ExpT s (lazyT fa fb j v s) (1 + (za + zb)) (ra.andThen fun a => rb.andThen fun b => .ok (lazyC a b op)) := by
  have hx : lazyT fa fb j v s = lazyFin s1 s3 v := by unfold lazyT; rw [h1, h3]
  rw [hx]
  have hc : (lazyFin s1 s3 v).code = setA (setA (s3.code ++ [⟨10, 0⟩, ⟨11, 0⟩]) s1.code.length (s3.code.length + 2 : Nat) ++ [⟨1, v⟩]) (s3.code.length + 1) (s3.code.length + 3 : Nat) := by
    simp only [lazyFin, TS.patch, TS.put, List.length_append, List.length_singleton, List.append_assoc, List.cons_append, List.nil_append, setA_len, List.length_cons, List.length_nil]
  have he : (lazyFin s1 s3 v).e = s3.e := rfl
  have hn : (lazyFin s1 s3 v).names = s3.names := rfl
  have hl : (lazyFin s1 s3 v).locals = s3.locals := rfl
  have hlen : (lazyFin s1 s3 v).code.length = s3.code.length + 3 := by rw [hc]; simp [setA_len]
  have p1 : (s1.put j 0).code.length = s1.code.length + 1 := by simp [TS.put_code]
  refine ⟨by rw [hn, hb.names]; exact ha.names, by rw [hl, hb.locals]; exact ha.locals, ?_, ?_, ?_, ?_, ?_⟩
  · have := ha.le; have := hb.le; omega
  · have := ha.len; have := hb.len; omega
  · intro e
    have := ha.keep e
    rw [he, hb.keep (by show s1.e ≠ 0; rw [this]; exact e)]; exact this
  · intro e c hcc
    obtain ⟨a, rfl, h2⟩ := CR.andThen_ok hcc
    obtain ⟨b, rfl, h4⟩ := CR.andThen_ok h2
    cases h4
    obtain ⟨a1, a2⟩ := ha.ok e a rfl
    obtain ⟨b1, b2⟩ := hb.ok a1 b rfl
    refine ⟨he.trans b1, ?_⟩
    rw [hc, lazy_code _ _ _ _ hop, ← a2]
    have b3 : s3.code = s1.code ++ ⟨j, 0⟩ :: shiftC (s1.code.length + 1 : Nat) b := by
      rw [b2, joinC, p1, TS.put_code]; simp
    have hl3 : s3.code.length = s1.code.length + 1 + b.length := by rw [b3]; simp [shiftC_len]; omega
    rw [hl3, b3, List.append_assoc, List.cons_append, setA_mid _ _ _ _ rfl]
    have e1 : s1.code ++ (⟨j, ((s1.code.length + 1 + b.length + 2 : Nat) : Int)⟩ : InsS) :: (shiftC (s1.code.length + 1 : Nat) b ++ [⟨10, 0⟩, ⟨11, 0⟩]) ++ [⟨1, v⟩] = (s1.code ++ (⟨j, ((s1.code.length + 1 + b.length + 2 : Nat) : Int)⟩ : InsS) :: (shiftC (s1.code.length + 1 : Nat) b ++ [⟨10, 0⟩])) ++ ⟨11, 0⟩ :: [⟨1, v⟩] := by simp
    rw [e1, setA_mid _ _ _ _ (by simp [shiftC_len]; omega), hj, hv]
    simp
  · intro e k hk
    rw [he]
    cases ra with
    | err k1 =>
      cases hk
      have := ha.bad e k rfl
      rw [hb.keep (by show s1.e ≠ 0; rw [this]; exact hea k rfl)]; exact this
    | ok a =>
      cases rb with
      | err k2 => cases hk; exact hb.bad (ha.ok e a rfl).1 k rfl
      | ok b => cases hk
end Go.Proofs.Ytdeneckmoejcfaa
