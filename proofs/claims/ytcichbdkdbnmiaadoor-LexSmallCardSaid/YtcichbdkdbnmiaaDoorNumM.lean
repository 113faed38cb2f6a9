/- What a number is: the reference's reading of digits, and the library's: one and the same, as far as the program asks. Plain mathematics. -/
import Derived.Test.YtcichbdkdbnmiaaDoorLexS
import Derived.Lib.ParseIntB
import Derived.Lib.ItoaNum
import Derived.Lib.ItoaMem
namespace Go.Proofs.YtcichbdkdbnmiaaDoor

theorem digit_iff (b : UInt8) : digitB b = true ↔ 48 ≤ b.toNat ∧ b.toNat ≤ 57 := by
  unfold digitB digitI
  simp only [Bool.and_eq_true, decide_eq_true_eq]
  omega
theorem valueGo_app : ∀ (l m : List UInt8) (n : Int), valueGo (l ++ m) n = (valueGo l n).bind fun k => valueGo m k := by
  intro l
  induction l with
  | nil => intro m n; rfl
  | cons b r ih =>
    intro m n
    simp only [List.cons_append, valueGo]
    split
    · rfl
    · split
      · rfl
      · exact ih m _
/-- what the reference reads, the library reads -/
theorem go_parse : ∀ (l : List UInt8) (a : Nat) (n : Int), valueGo l (a : Int) = some n → (a : Int) ≤ n ∧ (l ≠ [] → n ≤ 9223372036854775807) ∧ (a ≤ 9223372036854775807 → Lib.parseUintM (2 ^ 64 - 1) a l = .ok n.toNat) := by
  intro l
  induction l with
  | nil =>
    intro a n h
    simp only [valueGo, Option.some.injEq] at h
    subst h
    exact ⟨Int.le_refl _, fun h => absurd rfl h, fun _ => by simp [Lib.parseUintM]⟩
  | cons b r ih =>
    intro a n h
    simp only [valueGo] at h
    split at h
    · cases h
    · rename_i hd
      have hd1 := (digit_iff b).1 (by simpa using hd)
      split at h
      · cases h
      · rename_i hov
        have hc : 10 * (a : Int) + ((b.toNat : Int) - 48) = ((a * 10 + (b.toNat - 48) : Nat) : Int) := by omega
        rw [hc] at h
        obtain ⟨h1, h2, h3⟩ := ih _ _ h
        have hle : a * 10 + (b.toNat - 48) ≤ 9223372036854775807 := by omega
        refine ⟨by omega, fun _ => ?_, fun _ => ?_⟩
        · by_cases hr : r = []
          · subst hr
            simp only [valueGo, Option.some.injEq] at h
            omega
          · exact h2 hr
        · rw [Lib.parseUintM, if_pos hd1, if_neg (by omega), if_neg (by omega)]
          exact h3 hle
theorem parse_first {b : UInt8} {r : List UInt8} (hb : digitB b = true) : Lib.parseIntB 64 (b :: r) = match Lib.parseUintM (2 ^ 64 - 1) 0 (b :: r) with
    | .range => .range
    | .ok u => if 9223372036854775808 ≤ u then .range else .ok (u : Int)
    | _ => Lib.parseIntB 64 [] := by
  have h := (digit_iff b).1 hb
  unfold Lib.parseIntB
  simp only []
  rw [if_neg (by omega), Lib.parseUintB, if_neg (by simp)]
  rcases Lib.parseUintM (2 ^ 64 - 1) 0 (b :: r) with u | _ | _
  rotate_left
  · rfl
  · rfl
  · simp only []
    have hn : ¬ b.toNat = 45 := by omega
    by_cases hu : 9223372036854775808 ≤ u
    · rw [if_pos ⟨hn, by simpa using hu⟩, if_pos hu]
    · rw [if_neg (fun h => hu (by simpa using h.2)), if_neg (fun h => hn h.1), if_neg hn, if_neg hu]
theorem u8_of (k : Nat) (h : k < 10) : (UInt8.ofNat (48 + k)).toNat = 48 + k := by
  simp only [UInt8.toNat_ofNat']
  omega
theorem u8_eq {b : UInt8} {k : Nat} (hk : k < 10) (h : b.toNat = 48 + k) : UInt8.ofNat (48 + k) = b := UInt8.toNat_inj.1 ((u8_of k hk).trans h.symm)
/-- no leading zero: the digits of the value are the digits -/
theorem dec_value (l : List UInt8) : ∀ (n : Int), l ≠ [] → (1 < l.length → (l.head?.map UInt8.toNat) ≠ some 48) → valueGo l 0 = some n → Lib.decDigits n.toNat = l ∧ (l.length = 1 ∨ 1 ≤ n) := by
  induction h : l.length using Nat.strongRecOn generalizing l with
  | _ k ih =>
    intro n hl hz hv
    obtain ⟨m, d, rfl⟩ : ∃ m d, l = m ++ [d] := ⟨l.dropLast, l.getLast hl, (List.dropLast_concat_getLast hl).symm⟩
    rw [valueGo_app] at hv
    cases hm : valueGo m 0 with
    | none => rw [hm] at hv; cases hv
    | some a =>
      rw [hm] at hv
      simp only [Option.bind_some, valueGo] at hv
      split at hv
      · cases hv
      · rename_i hd
        have hd1 := (digit_iff d).1 (by simpa using hd)
        split at hv
        · cases hv
        · simp only [Option.some.injEq] at hv
          by_cases hme : m = []
          · subst hme
            simp only [valueGo, Option.some.injEq] at hm
            subst hm
            have e : n.toNat = d.toNat - 48 := by omega
            refine ⟨?_, .inl (by simpa using h.symm)⟩
            rw [e, Lib.decDigits_one (by omega)]
            simp only [List.nil_append, List.cons.injEq, and_true]
            exact u8_eq (by omega) (by omega)
          · have hml : m.length < k := by rw [← h]; simp
            have hhead : (m ++ [d]).head? = m.head? := by
              cases m with
              | nil => exact absurd rfl hme
              | cons x y => rfl
            have hlen : 1 < (m ++ [d]).length := by
              have := List.length_pos_iff.2 hme
              simp; omega
            have hz' := hz (by rw [← h]; exact hlen)
            rw [hhead] at hz'
            obtain ⟨h1, h2⟩ := ih m.length hml m rfl a hme (fun _ => hz') hm
            have ha1 : 1 ≤ a := by
              rcases h2 with h2 | h2
              · obtain ⟨x, rfl⟩ : ∃ x, m = [x] := by
                  match m, h2 with
                  | [x], _ => exact ⟨x, rfl⟩
                simp only [valueGo] at hm
                split at hm
                · cases hm
                · rename_i hx
                  have hx1 := (digit_iff x).1 (by simpa using hx)
                  have hx2 : x.toNat ≠ 48 := fun e => hz' (by simp [e])
                  split at hm
                  · cases hm
                  · simp only [Option.some.injEq] at hm; omega
              · exact h2
            refine ⟨?_, .inr (by omega)⟩
            have e1 : n.toNat / 10 = a.toNat := by omega
            have e2 : n.toNat % 10 = d.toNat - 48 := by omega
            rw [Lib.decDigits, dif_neg (by omega), e1, e2, h1, u8_eq (b := d) (by omega) (by omega)]
theorem value_yes {b : UInt8} {r : List UInt8} (hb : digitB b = true) {n : Int} (h : valueR (b :: r) = some n) : Lib.parseIntB 64 (b :: r) = .ok n ∧ Lib.itoa n = b :: r ∧ 0 ≤ n ∧ n ≤ 9223372036854775807 := by
  unfold valueR at h
  split at h
  · cases h
  · rename_i hz
    obtain ⟨h1, h2, h3⟩ := go_parse (b :: r) 0 n (by simpa using h)
    have h0 : 0 ≤ n := by simpa using h1
    have hle := h2 (by simp)
    have hp := h3 (by decide)
    obtain ⟨k, rfl⟩ : ∃ k : Nat, n = k := ⟨n.toNat, by omega⟩
    rw [Int.toNat_natCast] at hp
    refine ⟨?_, ?_, h0, hle⟩
    · rw [parse_first hb, hp]
      simp only []
      rw [if_neg (by omega)]
    · rw [Lib.itoa_nonneg]
      have hd := (dec_value (b :: r) k (by simp) (fun hl he => hz ⟨hl, he⟩) h).1
      rw [Int.toNat_natCast] at hd
      exact hd
/-- .. and the digits of a number are read as it -/
theorem value_dec (u : Nat) (hu : u ≤ 9223372036854775807) : valueGo (Lib.decDigits u) 0 = some (u : Int) ∧ (u < 10 ∨ (Lib.decDigits u).head?.map UInt8.toNat ≠ some 48) ∧ (u < 10 → (Lib.decDigits u).length = 1) ∧ Lib.decDigits u ≠ [] ∧ (∀ b ∈ (Lib.decDigits u).head?, digitB b = true) := by
  induction u using Nat.strongRecOn with
  | _ u ih =>
    by_cases h : u < 10
    · rw [Lib.decDigits_one h]
      refine ⟨?_, .inl h, fun _ => rfl, by simp, fun b hb => ?_⟩
      · have e := u8_of u h
        have hd : digitB (UInt8.ofNat (48 + u)) = true := (digit_iff _).2 (by omega)
        rw [valueGo, hd, if_neg (by decide), if_neg (by omega), valueGo]
        congr 1
        omega
      · simp only [List.head?_cons, Option.mem_def, Option.some.injEq] at hb
        subst hb
        exact (digit_iff _).2 (by rw [u8_of u h]; omega)
    · obtain ⟨h1, h2, h3, h4, h5⟩ := ih (u / 10) (by omega) (by omega)
      have e : (UInt8.ofNat (48 + u % 10)).toNat = 48 + u % 10 := u8_of _ (by omega)
      have hd : digitB (UInt8.ofNat (48 + u % 10)) = true := (digit_iff _).2 (by omega)
      have hdd : Lib.decDigits u = Lib.decDigits (u / 10) ++ [UInt8.ofNat (48 + u % 10)] := by rw [Lib.decDigits, dif_neg h]
      have hhead : (Lib.decDigits u).head? = (Lib.decDigits (u / 10)).head? := by
        rw [hdd]
        cases hx : Lib.decDigits (u / 10) with
        | nil => exact absurd hx h4
        | cons x y => rfl
      refine ⟨?_, .inr ?_, fun hx => absurd hx h, by rw [hdd]; simp, by rw [hhead]; exact h5⟩
      · rw [hdd, valueGo_app, h1]
        simp only [Option.bind_some]
        rw [valueGo, hd, if_neg (by decide), if_neg (by omega), valueGo]
        congr 1
        omega
      · rw [hhead]
        rcases h2 with h2 | h2
        · rw [Lib.decDigits_one h2]
          simp only [List.head?_cons, Option.map_some, ne_eq, Option.some.injEq]
          rw [u8_of _ h2]
          omega
        · exact h2
theorem valueR_dec (u : Nat) (hu : u ≤ 9223372036854775807) : valueR (Lib.decDigits u) = some (u : Int) := by
  obtain ⟨h1, h2, h3, _⟩ := value_dec u hu
  unfold valueR
  rw [if_neg]
  · exact h1
  · rintro ⟨hl, he⟩
    rcases h2 with h2 | h2
    · have := h3 h2; omega
    · exact h2 he
theorem value_no {b : UInt8} {r : List UInt8} (hb : digitB b = true) (h : valueR (b :: r) = none) :
    Lib.parseIntB 64 (b :: r) = Lib.parseIntB 64 [] ∨ Lib.parseIntB 64 (b :: r) = .range ∨ ∃ v : Int, Lib.parseIntB 64 (b :: r) = .ok v ∧ 0 ≤ v ∧ v ≤ 9223372036854775807 ∧ Lib.itoa v ≠ b :: r := by
  rw [parse_first hb]
  rcases Lib.parseUintM (2 ^ 64 - 1) 0 (b :: r) with u | _ | _
  rotate_left
  · exact .inl rfl
  · exact .inr (.inl rfl)
  · simp only []
    by_cases hu : 9223372036854775808 ≤ u
    · rw [if_pos hu]; exact .inr (.inl rfl)
    · rw [if_neg hu]
      refine .inr (.inr ⟨u, rfl, by omega, by omega, fun e => ?_⟩)
      rw [Lib.itoa_nonneg] at e
      have := valueR_dec u (by omega)
      rw [e, h] at this
      cases this
end Go.Proofs.YtcichbdkdbnmiaaDoor
