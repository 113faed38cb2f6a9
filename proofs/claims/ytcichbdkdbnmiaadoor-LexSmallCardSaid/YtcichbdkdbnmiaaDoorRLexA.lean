/- The reference lexer's small functions, walked: letter, digit, value. No condition but the bounds that a byte and a string have. -/
import Derived.Test.YtcichbdkdbnmiaaDoorRows
import Derived.Test.YtcichbdkdbnmiaaDoorLib
import Derived.Test.YtcichbdkdbnmiaaDoorLexS
import Derived.IntWalk
namespace Go.Proofs.YtcichbdkdbnmiaaDoor
open Go.RowKit

theorem letter_any (b : Int) (w : World) : Calls Tryd.prog 31 #[.int .u8 b] w fun e w' => e = .returned (.bool (letterI b)) ∧ w = w' := by
  obtain ⟨p1, p2, p3, p4, p5, q1, q2, q3, q4, q5, hq⟩ : ∃ p1 p2 p3 p4 p5 : Bool, decide (b ≥ 97) = p1 ∧ decide (b ≤ 122) = p2 ∧ decide (b ≥ 65) = p3 ∧ decide (b ≤ 90) = p4 ∧ (b == 95) = p5 ∧ letterI b = ((p1 && p2) || ((p3 && p4) || p5)) := ⟨_, _, _, _, _, rfl, rfl, rfl, rfl, rfl, rfl⟩
  rw [hq]
  clear hq
  cases p1 <;> cases p2 <;> cases p3 <;> cases p4 <;> cases p5
  all_goals
    go_enter Tryd.func31, Tryd.ntmps31
    go_wp2
    go_ret
    exact ⟨rfl, rfl⟩
theorem digit_any (b : Int) (w : World) : Calls Tryd.prog 32 #[.int .u8 b] w fun e w' => e = .returned (.bool (digitI b)) ∧ w = w' := by
  obtain ⟨p1, p2, q1, q2, hq⟩ : ∃ p1 p2 : Bool, decide (b ≥ 48) = p1 ∧ decide (b ≤ 57) = p2 ∧ digitI b = (p1 && p2) := ⟨_, _, rfl, rfl, rfl⟩
  rw [hq]
  clear hq
  cases p1 <;> cases p2
  all_goals
    go_enter Tryd.func32, Tryd.ntmps32
    go_wp2
    go_ret
    exact ⟨rfl, rfl⟩
theorem digit_range {b : UInt8} (h : digitB b = true) : 48 ≤ (b.toNat : Int) ∧ (b.toNat : Int) ≤ 57 := by
  unfold digitB digitI at h
  simpa [Bool.and_eq_true] using h
theorem str_len (s : ByteArray) : s.data.toList.length = s.size := Array.length_toList
theorem str_get (s : ByteArray) (k : Nat) (h : k < s.size) : s.data.toList[k]'(by rw [str_len]; exact h) = s[k] := rfl
def numE : Option Int → Ending
  | none => .returned (.tuple #[.int .i64 0, .bool false])
  | some n => .returned (.tuple #[.int .i64 n, .bool true])
theorem valueGo_step {l : List UInt8} {k : Nat} (hk : k < l.length) (n : Int) : valueGo (l.drop k) n = if digitB l[k] = false then none else if n > (9223372036854775807 - ((l[k].toNat : Int) - 48)) / 10 then none else valueGo (l.drop (k + 1)) (10 * n + ((l[k].toNat : Int) - 48)) := by
  rw [List.drop_eq_getElem_cons hk, valueGo]
set_option maxHeartbeats 1000000 in
theorem value_any (s : ByteArray) (w : World) (hs : s.size ≤ 9223372036854775807) :
    Calls Tryd.prog 35 #[.string s] w fun e w' => e = numE (valueR s.data.toList) ∧ w = w' := by
  have Hlen := Lib.hid (str_len s)
  have Hget : Hid (∀ (k : Nat) (h : k < s.size), s.data.toList[k]'(by rw [str_len]; exact h) = s[k]) := Lib.hid (str_get s)
  by_cases h1 : 1 < s.size
  · have h0 : 0 < s.size := by omega
    have hh : s.data.toList.head?.map UInt8.toNat = some s[0].toNat := by
      have e := Hget.out 0 h0
      rw [List.head?_eq_getElem?, List.getElem?_eq_getElem (by rw [Hlen.out]; exact h0), e]; rfl
    have h1' : (1 : Int) < s.size := by omega
    obtain ⟨q, hq, hq2⟩ : ∃ q : Bool, ((s[0].toNat : Int) == 48) = q ∧ (q = true ↔ s[0].toNat = 48) := ⟨_, rfl, by rw [beq_iff_eq]; omega⟩
    have Hr : Hid (valueR s.data.toList = if q = true then none else valueGo s.data.toList 0) := Lib.hid (by
      unfold valueR
      rw [hh, Hlen.out]
      by_cases e : s[0].toNat = 48
      · rw [if_pos ⟨h1, by rw [e]⟩, if_pos (hq2.2 e)]
      · rw [if_neg (fun h => e (by simpa using h.2)), if_neg (fun h => e (hq2.1 h))])
    clear hh hq2
    cases q
    · have HR : Hid (valueR s.data.toList = valueGo s.data.toList 0) := Lib.hid (by rw [Hr.out, if_neg (by simp)])
      go_enter Tryd.func35, Tryd.ntmps35
      go_wp2
      go_loopw [2, 3, 4, 5, 6, 15, 16, 17, 18, 19, 20, 21, 22, 23, 24, 25, 26, 27, 28, 29, 30, 31, 32, 33, 34, 35, 36, 37, 38, 39] (fun _ _ t4 t5 _ _ _ _ _ _ _ _ _ _ _ _ _ _ _ _ _ _ _ _ _ _ _ _ _ _ wr => ∃ (k : Nat) (n : Int), k ≤ s.size ∧ t5 = .int .i64 k ∧ t4 = .int .i64 n ∧ 0 ≤ n ∧ n ≤ 9223372036854775807 ∧ Hid (valueGo s.data.toList 0 = valueGo (s.data.toList.drop k) n) ∧ wr = w) (fun _ _ _ t5 _ _ _ _ _ _ _ _ _ _ _ _ _ _ _ _ _ _ _ _ _ _ _ _ _ _ _ => s.size - (intOf t5).toNat)
      case atStart => exact ⟨0, 0, by omega, rfl, rfl, by omega, by omega, Lib.hid rfl, rfl⟩
      case round =>
        obtain ⟨k, n, hk, rfl, rfl, hn0, hn1, Hv, rfl⟩ := hrel
        by_cases hlt : k < s.size
        · have Hst := Lib.hid (valueGo_step (l := s.data.toList) (k := k) (by rw [str_len]; exact hlt) n)
          have Hdr : Hid (digitB s[k] = true → 48 ≤ (s[k].toNat : Int) ∧ (s[k].toNat : Int) ≤ 57) := Lib.hid digit_range
          rw [str_get s k hlt] at Hst
          have HD := Lib.hid (digit_any (s[k].toNat : Int) wr)
          have Hdb : Hid (digitB s[k] = digitI (s[k].toNat : Int)) := Lib.hid rfl
          have hb1 : s[k].toNat ≤ 255 := by have := s[k].toNat_lt; omega
          obtain ⟨q, hq⟩ : ∃ q : Bool, digitI (s[k].toNat : Int) = q := ⟨_, rfl⟩
          rw [hq] at HD Hdb
          clear hq
          cases q
          · go_wp2_with (go_at_call 32; refine HD.out.mono ?_; rintro e w2 ⟨rfl, rfl⟩)
            go_ret2
            refine ⟨?_, rfl⟩
            have e : valueR s.data.toList = none := by rw [HR.out, Hv.out, Hst.out, if_pos Hdb.out]
            rw [e]
            rfl
          · obtain ⟨d1, d2⟩ := Hdr.out Hdb.out
            generalize hx : s[k] = x at *
            obtain ⟨d, hd⟩ : ∃ d : Int, (x.toNat : Int) - 48 = d := ⟨_, rfl⟩
            rw [hd] at Hst
            have hd0 : 0 ≤ d := by omega
            have hd9 : d ≤ 9 := by omega
            go_wp2_with (go_at_call 32; refine HD.out.mono ?_; rintro e w2 ⟨rfl, rfl⟩)
            · have h : (9223372036854775807 - d) / 10 < n := by assumption
              have Hh := Lib.hid h
              clear h
              go_ret2
              refine ⟨?_, rfl⟩
              have e : valueR s.data.toList = none := by
                rw [HR.out, Hv.out, Hst.out, if_neg (by rw [Hdb.out]; simp), if_pos (show n > _ from Hh.out)]
              rw [e]
              rfl
            · have h : n ≤ (9223372036854775807 - d) / 10 := by assumption
              have h2 : 10 * n + d ≤ 9223372036854775807 := by omega
              have h3 : 0 ≤ 10 * n + d := by omega
              have h4 : ¬ n > (9223372036854775807 - d) / 10 := by omega
              have H2 := Lib.hid h2
              have H3 := Lib.hid h3
              have H4 := Lib.hid h4
              clear h h2 h3 h4
              go_roundw
              case rel => exact ⟨k + 1, 10 * n + d, by omega, by go_num, rfl, H3.out, H2.out, Lib.hid (by rw [Hv.out, Hst.out, if_neg (by rw [Hdb.out]; simp), if_neg H4.out]), by first | rfl | trivial⟩
              case measure => simp [intOf]; omega
        · obtain rfl : k = s.size := by omega
          have hlt1 : ¬ (s.size : Int) < s.size := by omega
          go_wp2
          go_ret2
          refine ⟨?_, rfl⟩
          have e : valueR s.data.toList = some n := by
            rw [HR.out, Hv.out, List.drop_of_length_le (by rw [str_len]; omega), valueGo]
          rw [e]
          rfl
    · go_enter Tryd.func35, Tryd.ntmps35
      go_wp2
      go_ret2
      refine ⟨?_, rfl⟩
      have e : valueR s.data.toList = none := by rw [Hr.out]; simp
      rw [e]
      rfl
  · have h1' : ¬ (1 : Int) < s.size := by omega
    have HR : Hid (valueR s.data.toList = valueGo s.data.toList 0) := Lib.hid (by rw [valueR, if_neg (fun h => by rw [str_len] at h; exact h1 h.1)])
    go_enter Tryd.func35, Tryd.ntmps35
    go_wp2
    go_loopw [2, 3, 4, 5, 6, 15, 16, 17, 18, 19, 20, 21, 22, 23, 24, 25, 26, 27, 28, 29, 30, 31, 32, 33, 34, 35, 36, 37, 38, 39] (fun _ _ t4 t5 _ _ _ _ _ _ _ _ _ _ _ _ _ _ _ _ _ _ _ _ _ _ _ _ _ _ wr => ∃ (k : Nat) (n : Int), k ≤ s.size ∧ t5 = .int .i64 k ∧ t4 = .int .i64 n ∧ 0 ≤ n ∧ n ≤ 9223372036854775807 ∧ Hid (valueGo s.data.toList 0 = valueGo (s.data.toList.drop k) n) ∧ wr = w) (fun _ _ _ t5 _ _ _ _ _ _ _ _ _ _ _ _ _ _ _ _ _ _ _ _ _ _ _ _ _ _ _ => s.size - (intOf t5).toNat)
    case atStart => exact ⟨0, 0, by omega, rfl, rfl, by omega, by omega, Lib.hid rfl, rfl⟩
    case round =>
      obtain ⟨k, n, hk, rfl, rfl, hn0, hn1, Hv, rfl⟩ := hrel
      by_cases hlt : k < s.size
      · have Hst := Lib.hid (valueGo_step (l := s.data.toList) (k := k) (by rw [str_len]; exact hlt) n)
        have Hdr : Hid (digitB s[k] = true → 48 ≤ (s[k].toNat : Int) ∧ (s[k].toNat : Int) ≤ 57) := Lib.hid digit_range
        rw [str_get s k hlt] at Hst
        have HD := Lib.hid (digit_any (s[k].toNat : Int) wr)
        have Hdb : Hid (digitB s[k] = digitI (s[k].toNat : Int)) := Lib.hid rfl
        have hb1 : s[k].toNat ≤ 255 := by have := s[k].toNat_lt; omega
        obtain ⟨q, hq⟩ : ∃ q : Bool, digitI (s[k].toNat : Int) = q := ⟨_, rfl⟩
        rw [hq] at HD Hdb
        clear hq
        cases q
        · go_wp2_with (go_at_call 32; refine HD.out.mono ?_; rintro e w2 ⟨rfl, rfl⟩)
          go_ret2
          refine ⟨?_, rfl⟩
          have e : valueR s.data.toList = none := by rw [HR.out, Hv.out, Hst.out, if_pos Hdb.out]
          rw [e]
          rfl
        · obtain ⟨d1, d2⟩ := Hdr.out Hdb.out
          generalize hx : s[k] = x at *
          obtain ⟨d, hd⟩ : ∃ d : Int, (x.toNat : Int) - 48 = d := ⟨_, rfl⟩
          rw [hd] at Hst
          have hd0 : 0 ≤ d := by omega
          have hd9 : d ≤ 9 := by omega
          go_wp2_with (go_at_call 32; refine HD.out.mono ?_; rintro e w2 ⟨rfl, rfl⟩)
          · have h : (9223372036854775807 - d) / 10 < n := by assumption
            have Hh := Lib.hid h
            clear h
            go_ret2
            refine ⟨?_, rfl⟩
            have e : valueR s.data.toList = none := by
              rw [HR.out, Hv.out, Hst.out, if_neg (by rw [Hdb.out]; simp), if_pos (show n > _ from Hh.out)]
            rw [e]
            rfl
          · have h : n ≤ (9223372036854775807 - d) / 10 := by assumption
            have h2 : 10 * n + d ≤ 9223372036854775807 := by omega
            have h3 : 0 ≤ 10 * n + d := by omega
            have h4 : ¬ n > (9223372036854775807 - d) / 10 := by omega
            have H2 := Lib.hid h2
            have H3 := Lib.hid h3
            have H4 := Lib.hid h4
            clear h h2 h3 h4
            go_roundw
            case rel => exact ⟨k + 1, 10 * n + d, by omega, by go_num, rfl, H3.out, H2.out, Lib.hid (by rw [Hv.out, Hst.out, if_neg (by rw [Hdb.out]; simp), if_neg H4.out]), by first | rfl | trivial⟩
            case measure => simp [intOf]; omega
      · obtain rfl : k = s.size := by omega
        have hlt1 : ¬ (s.size : Int) < s.size := by omega
        go_wp2
        go_ret2
        refine ⟨?_, rfl⟩
        have e : valueR s.data.toList = some n := by
          rw [HR.out, Hv.out, List.drop_of_length_le (by rw [str_len]; omega), valueGo]
        rw [e]
        rfl
end Go.Proofs.YtcichbdkdbnmiaaDoor
