/- The program's lexer: Word, walked. No condition. -/
import Derived.Test.YtcichbdkdbnmiaaDoorPLexA
import Derived.Test.YtcichbdkdbnmiaaDoorRLex
import Derived.Test.YtcichbdkdbnmiaaDoorWordS
namespace Go.Proofs.YtcichbdkdbnmiaaDoor
open Go.RowKit

theorem word_alt (s : ByteArray) (h : 0 < s.size) : wordS s.data.toList = (decide (s.size ≤ 24) && (letterB s[0] && (s.data.toList.drop 0).all partB)) := by
  have e := drop_get s h
  rw [List.drop_zero] at e ⊢
  have e2 := str_len s
  rw [e] at e2 ⊢
  show (decide ((s[0] :: s.data.toList.drop (0 + 1)).length ≤ 24) && letterB s[0] && (s.data.toList.drop (0 + 1)).all partB) = _
  rw [e2]
  cases hl : letterB s[0] with
  | false => simp
  | true => simp [List.all_cons, part_letter hl]
set_option maxHeartbeats 1000000 in
theorem pword_any (s : ByteArray) (w : World) : Calls Tryd.prog 17 #[.string s] w fun e w' => e = .returned (.bool (wordS s.data.toList)) ∧ w = w' := by
  rcases Nat.eq_zero_or_pos s.size with h0 | h0
  · have Hf : Hid (wordS s.data.toList = false) := Lib.hid (by
      have : s.data.toList = [] := List.eq_nil_of_length_eq_zero (by rw [str_len]; exact h0)
      rw [this]; rfl)
    generalize wordS s.data.toList = final at Hf ⊢
    have hz : (s.size : Int) < 1 := by omega
    clear h0
    go_enter Tryd.func17, Tryd.ntmps17
    go_wp2_with fail
    go_ret
    exact ⟨by rw [Hf.out]; rfl, rfl⟩
  · have hz : ¬ (s.size : Int) < 1 := by omega
    have Hw := Lib.hid (word_alt s h0)
    generalize wordS s.data.toList = final at Hw ⊢
    by_cases h24 : s.size ≤ 24
    · have h24' : ¬ (s.size : Int) > 24 := by omega
      have h00 : (0 : Int) < s.size := by omega
      have HL := Lib.hid (pletter_any (s[0].toNat : Int) w)
      obtain ⟨p, hp, hp2⟩ : ∃ p : Bool, letterI (s[0].toNat : Int) = p ∧ letterB s[0] = p := ⟨_, rfl, rfl⟩
      rw [hp] at HL
      have Hw2 : Hid (final = (p && (s.data.toList.drop 0).all partB)) := Lib.hid (by rw [Hw.out, hp2, decide_eq_true h24, Bool.true_and])
      have hb0 : s[0].toNat ≤ 255 := by have := s[0].toNat_lt; omega
      clear hp hp2 Hw
      cases p
      · go_enter Tryd.func17, Tryd.ntmps17
        go_wp2_with fail
        go_at_call 29
        refine HL.out.mono ?_
        rintro e1 w2 ⟨rfl, rfl⟩
        go_wp2_with fail
        go_ret
        exact ⟨by rw [Hw2.out]; rfl, rfl⟩
      · go_enter Tryd.func17, Tryd.ntmps17
        go_wp2_with fail
        go_at_call 29
        refine HL.out.mono ?_
        rintro e1 w2 ⟨rfl, rfl⟩
        go_wp2_with fail
        obtain ⟨wq, rfl⟩ : ∃ wq : World, wq = w := ⟨_, rfl⟩
        go_loopw [2, 3, 20, 21, 22, 23, 24, 25, 26, 27, 28, 29, 30, 31, 32, 33, 34, 35] (fun _ _ t20 _ _ _ _ _ _ _ _ _ _ _ _ _ _ _ wr => ∃ k : Nat, k ≤ s.size ∧ t20 = .int .i64 k ∧ Hid (final = (s.data.toList.drop k).all partB) ∧ wr = wq) (fun _ _ t20 _ _ _ _ _ _ _ _ _ _ _ _ _ _ _ _ => s.size - (intOf t20).toNat)
        case atStart => exact ⟨0, by omega, rfl, Lib.hid (by rw [Hw2.out]; rfl), rfl⟩
        case round =>
          obtain ⟨k, hk, rfl, Hk, rfl⟩ := hrel
          by_cases hlt : k < s.size
          · have hb1 : s[k].toNat ≤ 255 := by have := s[k].toNat_lt; omega
            have HL2 := Lib.hid (pletter_any (s[k].toNat : Int) wr)
            have HD2 := Lib.hid (pdigit_any (s[k].toNat : Int) wr)
            obtain ⟨p, q, hp, hq, Hpq⟩ : ∃ p q : Bool, letterI (s[k].toNat : Int) = p ∧ digitI (s[k].toNat : Int) = q ∧ Hid (partB s[k] = (p || q)) := ⟨_, _, rfl, rfl, Lib.hid rfl⟩
            rw [hp] at HL2
            rw [hq] at HD2
            have Hst : Hid (final = ((p || q) && (s.data.toList.drop (k + 1)).all partB)) := Lib.hid (by rw [Hk.out, drop_get s hlt, List.all_cons, Hpq.out])
            clear hp hq
            cases p
            · cases q
              · go_wp2_with fail
                go_at_call 29
                refine HL2.out.mono ?_
                rintro e1 w2 ⟨rfl, rfl⟩
                go_wp2_with fail
                go_at_call 30
                refine HD2.out.mono ?_
                rintro e1 w2 ⟨rfl, rfl⟩
                go_wp2_with fail
                go_ret
                exact ⟨by rw [Hst.out]; rfl, rfl⟩
              · go_wp2_with fail
                go_at_call 29
                refine HL2.out.mono ?_
                rintro e1 w2 ⟨rfl, rfl⟩
                go_wp2_with fail
                go_at_call 30
                refine HD2.out.mono ?_
                rintro e1 w2 ⟨rfl, rfl⟩
                go_wp2_with fail
                go_roundw
                case rel => exact ⟨k + 1, by omega, by go_num, Lib.hid (by rw [Hst.out]; rfl), by first | rfl | trivial⟩
                case measure => simp [intOf]; omega
            · go_wp2_with fail
              go_at_call 29
              refine HL2.out.mono ?_
              rintro e1 w2 ⟨rfl, rfl⟩
              go_wp2_with fail
              go_roundw
              case rel => exact ⟨k + 1, by omega, by go_num, Lib.hid (by rw [Hst.out]; rfl), by first | rfl | trivial⟩
              case measure => simp [intOf]; omega
          · have Hf : Hid (final = true) := Lib.hid (by rw [Hk.out, drop_nil s (by omega)]; rfl)
            go_wp2_with fail
            go_ret
            exact ⟨by rw [Hf.out]; rfl, rfl⟩
    · have h24' : (s.size : Int) > 24 := by omega
      have Hf : Hid (final = false) := Lib.hid (by rw [Hw.out, decide_eq_false h24]; rfl)
      clear Hw h24
      go_enter Tryd.func17, Tryd.ntmps17
      go_wp2_with fail
      go_ret
      exact ⟨by rw [Hf.out]; rfl, rfl⟩
end Go.Proofs.YtcichbdkdbnmiaaDoor
