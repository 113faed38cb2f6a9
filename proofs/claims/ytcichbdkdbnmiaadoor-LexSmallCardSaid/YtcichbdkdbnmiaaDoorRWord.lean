/- The reference's Word, walked. -/
import Derived.Test.YtcichbdkdbnmiaaDoorRows
import Derived.Test.YtcichbdkdbnmiaaDoorRLex
import Derived.Test.YtcichbdkdbnmiaaDoorWordS
namespace Go.Proofs.YtcichbdkdbnmiaaDoor
open Go.RowKit

theorem bstr_list (s : ByteArray) : bstr s.data.toList = s := by unfold bstr; simp
theorem bstr_data (l : List UInt8) : (bstr l).data.toList = l := by unfold bstr; simp
theorem word_eq (s : ByteArray) (h : 0 < s.size) : wordS s.data.toList = (decide (s.size ≤ 24) && letterB s[0] && (s.data.toList.drop 1).all partB) := by
  have e := drop_get s h
  rw [List.drop_zero] at e
  have e2 := str_len s
  rw [e] at e2 ⊢
  unfold wordS
  rw [List.length_cons] at e2
  simp only [List.length_cons, e2, Nat.zero_add, List.drop_succ_cons, List.drop_zero]
theorem all_iff (s : ByteArray) : (s.data.toList.drop 1).all partB = true ↔ ∀ (j : Nat) (h : j < s.size), 1 ≤ j → partB s[j] = true := by
  rw [List.all_eq_true]
  constructor
  · intro h j hj h1
    refine h _ (List.mem_iff_getElem.2 ⟨j - 1, by rw [List.length_drop, str_len]; omega, ?_⟩)
    rw [List.getElem_drop]
    have : 1 + (j - 1) = j := by omega
    simp only [this]
    rfl
  · intro h x hx
    obtain ⟨j, hj, rfl⟩ := List.mem_iff_getElem.1 hx
    rw [List.length_drop, str_len] at hj
    rw [List.getElem_drop]
    exact h (1 + j) (by omega) (by omega)
theorem word_any (s : ByteArray) (w : World) : Calls Tryd.prog 18 #[.string s] w fun e w' => e = .returned (.bool (wordS s.data.toList)) ∧ w = w' := by
  rcases Nat.eq_zero_or_pos s.size with h0 | h0
  · have Hf : Hid (wordS s.data.toList = false) := Lib.hid (by
      have : s.data.toList = [] := List.eq_nil_of_length_eq_zero (by rw [str_len]; exact h0)
      rw [this]; rfl)
    generalize wordS s.data.toList = final at Hf ⊢
    have hz : ((s.size : Int) == 0) = true := by simp [h0]
    clear h0
    go_enter Tryd.func18, Tryd.ntmps18
    go_wp2_with fail
    go_ret
    exact ⟨by rw [Hf.out]; rfl, rfl⟩
  · have hz : ((s.size : Int) == 0) = false := by rw [beq_eq_false_iff_ne]; omega
    have Hw := Lib.hid (word_eq s h0)
    generalize wordS s.data.toList = final at Hw ⊢
    by_cases h24 : s.size ≤ 24
    · have h24' : ¬ (s.size : Int) > 24 := by omega
      have h00 : (0 : Int) < s.size := by omega
      have HL := Lib.hid (letter_any (s[0].toNat : Int) w)
      obtain ⟨p, hp, hp2⟩ : ∃ p : Bool, letterI (s[0].toNat : Int) = p ∧ letterB s[0] = p := ⟨_, rfl, rfl⟩
      rw [hp] at HL
      have Hw2 : Hid (final = (p && (s.data.toList.drop 1).all partB)) := Lib.hid (by rw [Hw.out, hp2, decide_eq_true h24, Bool.true_and])
      have hb0 : s[0].toNat ≤ 255 := by have := s[0].toNat_lt; omega
      clear hp hp2 Hw
      cases p
      · go_enter Tryd.func18, Tryd.ntmps18
        go_wp2_with fail
        go_at_call 31
        refine HL.out.mono ?_
        rintro e1 w2 ⟨rfl, rfl⟩
        go_wp2_with fail
        go_ret
        exact ⟨by rw [Hw2.out]; rfl, rfl⟩
      · go_enter Tryd.func18, Tryd.ntmps18
        go_wp2_with fail
        go_at_call 31
        refine HL.out.mono ?_
        rintro e1 w2 ⟨rfl, rfl⟩
        go_wp2_with fail
        go_loopw [2, 3, 18, 19, 20, 21, 22, 23, 24, 25, 26, 27, 28, 29, 30, 31, 32, 33, 34, 35] (fun _ t3 _ _ _ _ _ _ _ _ _ _ _ _ _ _ _ _ _ _ wr => ∃ k : Nat, 1 ≤ k ∧ k ≤ s.size ∧ t3 = .int .i64 k ∧ Hid (∀ (j : Nat) (h : j < s.size), 1 ≤ j → j < k → partB s[j] = true) ∧ wr = w) (fun _ t3 _ _ _ _ _ _ _ _ _ _ _ _ _ _ _ _ _ _ _ => s.size - (intOf t3).toNat)
        case atStart => exact ⟨1, by omega, by omega, rfl, Lib.hid (by intro j _ h1 h2; omega), rfl⟩
        case round =>
          obtain ⟨k, hk1, hk, rfl, Hk, rfl⟩ := hrel
          by_cases hlt : k < s.size
          · have hlt1 : (k : Int) < s.size := by omega
            have HL := Lib.hid (letter_any (s[k].toNat : Int) wr)
            have HD := Lib.hid (digit_any (s[k].toNat : Int) wr)
            obtain ⟨pl, pd, hpl, hpd, hpp⟩ : ∃ pl pd : Bool, letterI (s[k].toNat : Int) = pl ∧ digitI (s[k].toNat : Int) = pd ∧ partB s[k] = (pl || pd) := ⟨_, _, rfl, rfl, rfl⟩
            rw [hpl] at HL
            rw [hpd] at HD
            have Hpp := Lib.hid hpp
            have hse : s[k].toNat ≤ 255 := by have := s[k].toNat_lt; omega
            clear hpl hpd hpp
            have HN : Hid (pl = true ∨ pd = true → ∀ (j : Nat) (h : j < s.size), 1 ≤ j → j < k + 1 → partB s[j] = true) := Lib.hid (by
              intro hor j hj h1 h2
              rcases Nat.lt_or_ge j k with h | h
              · exact Hk.out j hj h1 h
              · obtain rfl : j = k := by omega
                rw [Hpp.out]
                rcases hor with rfl | rfl
                · rfl
                · cases pl <;> rfl)
            cases pl
            · cases pd
              · have Hf : Hid (final = false) := Lib.hid (by
                  rw [Hw2.out, Bool.true_and, Bool.eq_false_iff]
                  intro h
                  have := (all_iff s).1 h k hlt hk1
                  rw [Hpp.out] at this
                  cases this)
                go_wp2_with fail
                go_at_call 31
                refine HL.out.mono ?_
                rintro e1 w2 ⟨rfl, rfl⟩
                go_wp2_with fail
                go_at_call 32
                refine HD.out.mono ?_
                rintro e1 w2 ⟨rfl, rfl⟩
                go_wp2_with fail
                go_ret
                exact ⟨by rw [Hf.out]; rfl, by first | rfl | trivial⟩
              · go_wp2_with fail
                go_at_call 31
                refine HL.out.mono ?_
                rintro e1 w2 ⟨rfl, rfl⟩
                go_wp2_with fail
                go_at_call 32
                refine HD.out.mono ?_
                rintro e1 w2 ⟨rfl, rfl⟩
                go_wp2_with fail
                go_roundw
                case rel => exact ⟨k + 1, by omega, by omega, by go_num, Lib.hid (HN.out (.inr (by first | rfl | trivial))), by first | rfl | trivial⟩
                case measure => simp [intOf]; omega
            · go_wp2_with fail
              go_at_call 31
              refine HL.out.mono ?_
              rintro e1 w2 ⟨rfl, rfl⟩
              go_wp2_with fail
              go_roundw
              case rel => exact ⟨k + 1, by omega, by omega, by go_num, Lib.hid (HN.out (.inl (by first | rfl | trivial))), by first | rfl | trivial⟩
              case measure => simp [intOf]; omega
          · have hlt1 : ¬ (k : Int) < s.size := by omega
            have Hf : Hid (final = true) := Lib.hid (by
              rw [Hw2.out, Bool.true_and, all_iff]
              exact fun j hj h1 => Hk.out j hj h1 (by omega))
            go_wp2_with fail
            go_ret
            exact ⟨by rw [Hf.out]; rfl, by first | rfl | trivial⟩
    · have h24' : (s.size : Int) > 24 := by omega
      have Hf : Hid (final = false) := Lib.hid (by rw [Hw.out, decide_eq_false h24]; rfl)
      go_enter Tryd.func18, Tryd.ntmps18
      go_wp2_with fail
      go_ret
      exact ⟨by rw [Hf.out]; rfl, rfl⟩
theorem Word_any (s : List UInt8) (w : World) : Calls Tryd.prog 18 #[.string (bstr s)] w fun e w' => e = .returned (.bool (wordS s)) ∧ w = w' := by
  have h := word_any (bstr s) w
  rw [bstr_data] at h
  exact h
end Go.Proofs.YtcichbdkdbnmiaaDoor
