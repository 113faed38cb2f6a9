/- What a lexer gives, as a function of the bytes. Plain mathematics. -/
import Derived.Lib.Hide
namespace Go.Proofs.YtcichbdkdbnmiaaDoor

def letterI (b : Int) : Bool := (decide (97 ≤ b) && decide (b ≤ 122)) || ((decide (65 ≤ b) && decide (b ≤ 90)) || b == 95)
def digitI (b : Int) : Bool := decide (48 ≤ b) && decide (b ≤ 57)
def letterB (b : UInt8) : Bool := letterI (b.toNat : Int)
def digitB (b : UInt8) : Bool := digitI (b.toNat : Int)
def partB (b : UInt8) : Bool := letterB b || digitB b
/-- a token -/
structure Tok where
  kind : Int
  text : List UInt8
  n : Int
  line : Int
  col : Int
inductive LexR where
  | ok (l : List Tok)
  | err (line col code : Int)
def LexR.cons (t : Tok) : LexR → LexR
  | .ok l => .ok (t :: l)
  | .err a b c => .err a b c
/-- behind blanks and comments; cm: inside a comment -/
def skipS : List UInt8 → Bool → Int → Int → List UInt8 × Int × Int
  | [], _, l, c => ([], l, c)
  | b :: r, cm, l, c =>
    if b.toNat = 10 then skipS r false (l + 1) 1
    else if cm = true then skipS r true l (c + 1)
    else if b.toNat = 32 ∨ b.toNat = 9 then skipS r false l (c + 1)
    else if b.toNat = 35 then skipS r true l (c + 1)
    else (b :: r, l, c)
def oneSigns : List Nat := [43, 45, 42, 47, 37, 60, 62, 33, 61, 40, 41, 91, 93, 123, 125, 44, 59]
def twoSigns : List (Nat × Nat) := [(61, 61), (33, 61), (60, 61), (62, 61), (38, 38), (124, 124)]
def signLen : List UInt8 → Nat
  | [] => 0
  | [a] => if a.toNat ∈ oneSigns then 1 else 0
  | a :: b :: _ => if (a.toNat, b.toNat) ∈ twoSigns then 2 else if a.toNat ∈ oneSigns then 1 else 0
def valueGo : List UInt8 → Int → Option Int
  | [], n => some n
  | b :: r, n => if digitB b = false then none else if n > (9223372036854775807 - ((b.toNat : Int) - 48)) / 10 then none else valueGo r (10 * n + ((b.toNat : Int) - 48))
def valueR (l : List UInt8) : Option Int := if 1 < l.length ∧ (l.head?.map UInt8.toNat) = some 48 then none else valueGo l 0
/-- the token that begins here, and what follows it, which go gives -/
def lexTok (go : List UInt8 → Int → Int → LexR) : List UInt8 → Int → Int → LexR
  | [], l, c => .ok [⟨4, [], 0, l, c⟩]
  | b :: r, l, c =>
    if letterB b = true then
      if 24 < ((b :: r).takeWhile partB).length then .err l c 111 else (go ((b :: r).drop ((b :: r).takeWhile partB).length) l (c + ((b :: r).takeWhile partB).length)).cons ⟨1, (b :: r).takeWhile partB, 0, l, c⟩
    else if digitB b = true then
      match valueR ((b :: r).takeWhile partB) with
      | none => .err l c 112
      | some n => (go ((b :: r).drop ((b :: r).takeWhile partB).length) l (c + ((b :: r).takeWhile partB).length)).cons ⟨2, (b :: r).takeWhile partB, n, l, c⟩
    else if signLen (b :: r) = 0 then .err l c 110
    else (go ((b :: r).drop (signLen (b :: r))) l (c + signLen (b :: r))).cons ⟨3, (b :: r).take (signLen (b :: r)), 0, l, c⟩
def lexGo : Nat → List UInt8 → Int → Int → LexR
  | 0, _, l, c => .err l c 0
  | f + 1, bs, line, col => lexTok (lexGo f) (skipS bs false line col).1 (skipS bs false line col).2.1 (skipS bs false line col).2.2
def LexR.pre (ts : List Tok) : LexR → LexR
  | .ok l => .ok (ts ++ l)
  | .err a b c => .err a b c
theorem LexR.pre_cons (ts : List Tok) (t : Tok) (r : LexR) : (r.cons t).pre ts = r.pre (ts ++ [t]) := by
  cases r <;> simp [LexR.cons, LexR.pre]
theorem LexR.pre_nil (r : LexR) : r.pre [] = r := by cases r <;> rfl
theorem skip_nl {b : UInt8} {r : List UInt8} {cm : Bool} {l c : Int} (h : b.toNat = 10) : skipS (b :: r) cm l c = skipS r false (l + 1) 1 := by rw [skipS, if_pos h]
theorem skip_in {b : UInt8} {r : List UInt8} {l c : Int} (h : b.toNat ≠ 10) : skipS (b :: r) true l c = skipS r true l (c + 1) := by rw [skipS, if_neg h, if_pos rfl]
theorem skip_sp {b : UInt8} {r : List UInt8} {l c : Int} (h : b.toNat = 32 ∨ b.toNat = 9) : skipS (b :: r) false l c = skipS r false l (c + 1) := by
  rw [skipS, if_neg (by omega), if_neg (by decide), if_pos h]
theorem skip_cm {b : UInt8} {r : List UInt8} {l c : Int} (h : b.toNat = 35) : skipS (b :: r) false l c = skipS r true l (c + 1) := by
  rw [skipS, if_neg (by omega), if_neg (by decide), if_neg (by omega), if_pos h]
theorem skip_stop {b : UInt8} {r : List UInt8} {l c : Int} (h1 : b.toNat ≠ 10) (h2 : b.toNat ≠ 32) (h3 : b.toNat ≠ 9) (h4 : b.toNat ≠ 35) : skipS (b :: r) false l c = (b :: r, l, c) := by
  rw [skipS, if_neg h1, if_neg (by decide), if_neg (by omega), if_neg h4]
theorem skip_end {cm : Bool} {l c : Int} : skipS [] cm l c = ([], l, c) := rfl
theorem skip_out {bs : List UInt8} {l c : Int} (h : bs = [] ∨ ∃ b r, bs = b :: r ∧ b.toNat = 10) : skipS bs true l c = skipS bs false l c := by
  rcases h with rfl | ⟨b, r, rfl, h⟩
  · rfl
  · rw [skip_nl h, skip_nl h]
/-- the longest beginning of letters and digits -/
theorem takeWhile_len {p : UInt8 → Bool} {l : List UInt8} {n : Nat} (hn : n ≤ l.length) (h1 : ∀ (j : Nat) (h : j < l.length), j < n → p l[j] = true) (h2 : ∀ h : n < l.length, p l[n] = false) : l.takeWhile p = l.take n := by
  induction l generalizing n with
  | nil => simp
  | cons b l ih =>
    cases n with
    | zero =>
      have := h2 (by simp)
      simp at this
      simp [this]
    | succ n =>
      have hb := h1 0 (by simp) (by omega)
      simp at hb
      rw [List.takeWhile_cons, if_pos hb, List.take_succ_cons, ih (by simpa using hn) (fun j h hj => by have := h1 (j + 1) (by simpa using h) (by omega); simpa using this) (fun h => by have := h2 (by simpa using h); simpa using this)]
def lexS (bs : List UInt8) : LexR := if 16384 < bs.length then .err 0 0 3 else lexGo (bs.length + 1) bs 1 1
def bytesOf (s : String) : List UInt8 := s.toUTF8.data.toList
end Go.Proofs.YtcichbdkdbnmiaaDoor
