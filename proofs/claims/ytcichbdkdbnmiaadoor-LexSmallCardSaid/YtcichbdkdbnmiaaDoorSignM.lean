/- The signs as the program has them: one string, whose fields are tried in turn. Plain mathematics. -/
import Derived.Test.YtcichbdkdbnmiaaDoorPLexS
namespace Go.Proofs.YtcichbdkdbnmiaaDoor

def sigL : List UInt8 := [61, 61, 32, 33, 61, 32, 60, 61, 32, 62, 61, 32, 38, 38, 32, 124, 124, 32, 43, 32, 45, 32, 42, 32, 47, 32, 37, 32, 60, 32, 62, 32, 33, 32, 61, 32, 40, 32, 41, 32, 91, 32, 93, 32, 123, 32, 125, 32, 44, 32, 59]
def SG : List (List UInt8) := [[61, 61], [33, 61], [60, 61], [62, 61], [38, 38], [124, 124], [43], [45], [42], [47], [37], [60], [62], [33], [61], [40], [41], [91], [93], [123], [125], [44], [59]]
/-- the k-th sign -/
def sg (k : Nat) : List UInt8 := SG.getD k []
/-- where the field begins in which byte i stands; -1 between fields -/
def stT : Nat → Int
  | 0 => -1
  | i + 1 => if sigL.getD i 0 = 32 then -1 else if stT i < 0 then (i : Int) else stT i
/-- how many fields end ahead of byte i -/
def cntT : Nat → Nat
  | 0 => 0
  | i + 1 => if sigL.getD i 0 = 32 then cntT i + 1 else cntT i
theorem tab_space : ∀ i : Fin 51, sigL.getD i.val 0 = 32 → 0 ≤ stT i.val ∧ (stT i.val).toNat ≤ i.val ∧ cntT i.val < 22 ∧ (sigL.drop (stT i.val).toNat).take (i.val - (stT i.val).toNat) = sg (cntT i.val) := by decide +kernel
theorem tab_last : stT 51 = 50 ∧ cntT 51 = 22 ∧ sigL.drop 50 = sg 22 := by decide +kernel
theorem tab_bound : ∀ i : Fin 52, -1 ≤ stT i.val ∧ stT i.val < i.val ∧ cntT i.val ≤ 22 := by decide +kernel
theorem tab_small : ∀ i : Fin 51, (sigL.getD i.val 0).toNat < 128 ∧ ((sigL.getD i.val 0).toNat ≠ 32 → (sigL.getD i.val 0).toNat < 9 ∨ 33 ≤ (sigL.getD i.val 0).toNat) := by decide +kernel

def hitB (k : Nat) (rem : List UInt8) : Bool := (sg k).isPrefixOf rem
theorem sg_two : ∀ k : Fin 6, ∃ p ∈ twoSigns, sg k.val = [UInt8.ofNat p.1, UInt8.ofNat p.2] ∧ p.1 < 256 ∧ p.2 < 256 := by decide +kernel
theorem two_sg : ∀ p ∈ twoSigns, ∃ k : Fin 6, sg k.val = [UInt8.ofNat p.1, UInt8.ofNat p.2] := by decide +kernel
theorem sg_one : ∀ k : Fin 17, ∃ x ∈ oneSigns, sg (6 + k.val) = [UInt8.ofNat x] ∧ x < 256 := by decide +kernel
theorem one_sg : ∀ x ∈ oneSigns, ∃ k : Fin 17, sg (6 + k.val) = [UInt8.ofNat x] := by decide +kernel
theorem u8_nat {n : Nat} (h : n < 256) : (UInt8.ofNat n).toNat = n := by simp only [UInt8.toNat_ofNat']; omega
theorem nat_u8 (a : UInt8) : UInt8.ofNat a.toNat = a := UInt8.toNat_inj.1 (u8_nat (by have := a.toNat_lt; omega))
theorem prefix_take {p l : List UInt8} (h : p.isPrefixOf l = true) : l.take p.length = p ∧ p.length ≤ l.length := by
  obtain ⟨t, rfl⟩ := List.isPrefixOf_iff_prefix.1 h
  exact ⟨List.take_left, by simp⟩
theorem hit_two {k : Nat} (hk : k < 6) {rem : List UInt8} (h : hitB k rem = true) : signLen rem = (sg k).length ∧ (sg k).length = 2 := by
  obtain ⟨p, hp, e, h1, h2⟩ := sg_two ⟨k, hk⟩
  obtain ⟨t, rfl⟩ := List.isPrefixOf_iff_prefix.1 h
  rw [show sg k = _ from e]
  refine ⟨?_, rfl⟩
  show signLen (UInt8.ofNat p.1 :: UInt8.ofNat p.2 :: t) = 2
  rw [signLen, u8_nat h1, u8_nat h2, if_pos hp]
theorem hit_of_two {a b : UInt8} {r : List UInt8} (h : (a.toNat, b.toNat) ∈ twoSigns) : ∃ k, k < 6 ∧ hitB k (a :: b :: r) = true := by
  obtain ⟨k, hk⟩ := two_sg _ h
  refine ⟨k.val, k.isLt, ?_⟩
  unfold hitB
  rw [hk, nat_u8, nat_u8]
  simp [List.isPrefixOf]
theorem hit_one {k : Nat} (hk : 6 ≤ k) (hk2 : k < 23) {rem : List UInt8} (h : hitB k rem = true) (hno : ∀ j, j < k → hitB j rem = false) : signLen rem = (sg k).length ∧ (sg k).length = 1 := by
  obtain ⟨x, hx, e, h1⟩ := sg_one ⟨k - 6, by omega⟩
  have e' : sg k = [UInt8.ofNat x] := by rw [← e]; congr 1; show k = 6 + (k - 6); omega
  unfold hitB at h
  rw [e'] at h ⊢
  obtain ⟨t, rfl⟩ := List.isPrefixOf_iff_prefix.1 h
  refine ⟨?_, rfl⟩
  cases t with
  | nil =>
    show signLen [UInt8.ofNat x] = 1
    rw [signLen, u8_nat h1, if_pos hx]
  | cons b r =>
    show signLen (UInt8.ofNat x :: b :: r) = 1
    have hn : ¬ ((UInt8.ofNat x).toNat, b.toNat) ∈ twoSigns := by
      intro hin
      obtain ⟨j, hj, hh⟩ := hit_of_two (r := r) hin
      have := hno j (by omega)
      rw [show [UInt8.ofNat x] ++ b :: r = UInt8.ofNat x :: b :: r from rfl] at this
      rw [hh] at this
      cases this
    rw [signLen, if_neg hn, u8_nat h1, if_pos hx]
theorem hit_first {k : Nat} (hk : k < 23) {rem : List UInt8} (h : hitB k rem = true) (hno : ∀ j, j < k → hitB j rem = false) : signLen rem = (sg k).length ∧ signLen rem ≠ 0 ∧ rem.take (signLen rem) = sg k ∧ (sg k).length ≤ 2 ∧ 1 ≤ (sg k).length := by
  have ht := prefix_take h
  rcases Nat.lt_or_ge k 6 with h6 | h6
  · have := hit_two h6 h
    exact ⟨this.1, by omega, by rw [this.1]; exact ht.1, by omega, by omega⟩
  · have := hit_one h6 hk h hno
    exact ⟨this.1, by omega, by rw [this.1]; exact ht.1, by omega, by omega⟩
theorem hit_none {rem : List UInt8} (h : ∀ j, j < 23 → hitB j rem = false) : signLen rem = 0 := by
  have ho : ∀ (a : UInt8) (r : List UInt8), rem = a :: r → ¬ a.toNat ∈ oneSigns := by
    intro a r e hin
    obtain ⟨k, hk⟩ := one_sg _ hin
    have := h (6 + k.val) (by omega)
    unfold hitB at this
    rw [hk, nat_u8, e] at this
    simp [List.isPrefixOf] at this
  match rem, h, ho with
  | [], _, _ => rfl
  | [a], _, ho => rw [signLen, if_neg (ho a [] rfl)]
  | a :: b :: r, h, ho =>
    rw [signLen, if_neg, if_neg (ho a (b :: r) rfl)]
    intro hin
    obtain ⟨j, hj, hh⟩ := hit_of_two (r := r) hin
    rw [h j (by omega)] at hh
    cases hh

/-- what stands in front -/
inductive HeadR where
  | eof
  | err (code : Int)
  | tok (kind : Int) (text : List UInt8) (n : Int)
def headS : List UInt8 → HeadR
  | [] => .eof
  | b :: r =>
    if letterB b = true then if 24 < ((b :: r).takeWhile partB).length then .err 111 else .tok 1 ((b :: r).takeWhile partB) 0
    else if digitB b = true then
      match valueR ((b :: r).takeWhile partB) with
      | none => .err 112
      | some n => .tok 2 ((b :: r).takeWhile partB) n
    else if signLen (b :: r) = 0 then .err 110 else .tok 3 ((b :: r).take (signLen (b :: r))) 0
theorem lexT_head (bs : List UInt8) (l c : Int) : lexT bs l c = match headS bs with
    | .eof => .ok [⟨4, [], 0, l, c⟩]
    | .err code => .err l c code
    | .tok k t n => (lexF (bs.drop t.length) l (c + t.length)).cons ⟨k, t, n, l, c⟩ := by
  cases bs with
  | nil => rfl
  | cons b r =>
    show lexTok lexF (b :: r) l c = _
    rw [lexTok, headS]
    split
    · split <;> rfl
    · split
      · split <;> simp [*]
      · split
        · rfl
        · have hs := sign_le (b :: r)
          have : ((b :: r).take (signLen (b :: r))).length = signLen (b :: r) := by rw [List.length_take]; omega
          simp only [this]
end Go.Proofs.YtcichbdkdbnmiaaDoor
