/- marcheslaw11.LexOne, walked. -/
import Derived.Test.YtcichbdkdbnmiaaDoorWLexN
import Derived.Test.YtcichbdkdbnmiaaDoorWDec
namespace Go.Proofs.YtcichbdkdbnmiaaDoor
open Go.RowKit

theorem dec_digits (u : Nat) : ∀ b ∈ Lib.decDigits u, digitB b = true := by
  induction u using Nat.strongRecOn with
  | _ u ih =>
    intro b hb
    by_cases h : u < 10
    · rw [Lib.decDigits_one h] at hb
      obtain rfl : b = _ := List.mem_singleton.1 hb
      exact (digit_iff _).2 (by rw [u8_of u h]; omega)
    · rw [Lib.decDigits, dif_neg h] at hb
      rcases List.mem_append.1 hb with hb | hb
      · exact ih (u / 10) (by omega) b hb
      · obtain rfl : b = _ := List.mem_singleton.1 hb
        exact (digit_iff _).2 (by rw [u8_of _ (by omega)]; omega)
theorem dec_tok (n : Nat) (hn : n ≤ 9223372036854775807) (l c : Int) : TokOk ⟨2, Lib.decDigits n, n, l, c⟩ := by
  have hv := valueR_dec n hn
  have hd := dec_digits n
  have hne := (value_dec n hn).2.2.2.1
  cases hD : Lib.decDigits n with
  | nil => exact absurd hD hne
  | cons b r =>
    rw [hD] at hv hd
    have hb := hd b (by simp)
    refine .number ?_ hb ?_ hv
    · have := (digit_iff b).1 hb
      simp only [letterB, letterI, Bool.or_eq_false_iff, Bool.and_eq_false_iff, decide_eq_false_iff_not, beq_eq_false_iff_ne, ne_eq]
      omega
    · rw [List.all_eq_true]
      intro x hx
      exact part_digit (hd x hx)
theorem lex_dec (n : Nat) (hn : n ≤ 9223372036854775807) (l c : Int) : lexF (Lib.decDigits n) l c = .ok [⟨2, Lib.decDigits n, n, l, c⟩, endT l (c + (Lib.decDigits n).length)] := by
  have := lexF_tok (dec_tok n hn l c) (r := []) rfl l c
  rw [List.append_nil, lexF_nil] at this
  exact this
theorem lex_one (s : List UInt8) (hw : wordS s = true) (n : Nat) (hn : n ≤ 9223372036854775807) :
    lexF (s ++ ([61] ++ Lib.decDigits n)) 1 1 = .ok [⟨1, s, 0, 1, 1⟩, ⟨3, [61], 0, 1, 1 + s.length⟩, ⟨2, Lib.decDigits n, n, 1, 2 + s.length⟩, endT 1 (2 + s.length + (Lib.decDigits n).length)] := by
  have ht : TokOk ⟨1, s, 0, 1, 1⟩ := by
    cases s with
    | nil => cases hw
    | cons b r =>
      simp only [wordS, Bool.and_eq_true, decide_eq_true_eq] at hw
      exact .word hw.1.2 (by simp only [List.all_cons, Bool.and_eq_true]; exact ⟨part_letter hw.1.2, hw.2⟩) hw.1.1
  have hs : TokOk ⟨3, [61], 0, 1, 1 + (s.length : Int)⟩ := .sign (by decide) (by decide) (by decide)
  have e1 := lexF_ends ht (r := [61] ++ Lib.decDigits n) ⟨fun _ => rfl, fun h => by cases h⟩ 1 1
  have e2 := lexF_ends hs (r := Lib.decDigits n) ⟨fun h => absurd rfl h, fun _ a b r' h1 h2 => by
    cases h1
    have := (digit_iff b).1 (dec_digits n b (by rw [h2]; simp))
    simp only [twoSigns, List.mem_cons, Prod.mk.injEq, List.not_mem_nil, or_false]
    omega⟩ 1 (1 + (s.length : Int))
  have e3 := lex_dec n hn 1 (1 + (s.length : Int) + (([61] : List UInt8).length : Int))
  rw [e1]
  show (lexF ([61] ++ Lib.decDigits n) 1 (1 + (s.length : Int))).cons _ = _
  rw [e2, e3]
  have h2 : (1 : Int) + (s.length : Int) + (([61] : List UInt8).length : Int) = 2 + s.length := by simp; omega
  rw [h2]
  rfl
theorem one_str (s : ByteArray) (D : List UInt8) : bstr (s.data.toList ++ ([61] ++ D)) = s ++ { data := #[61] } ++ bstr D := by
  rw [← bstr_app, ← bstr_app, bstr_of, ← ByteArray.append_assoc]
  rfl
set_option maxRecDepth 100000 in
set_option maxHeartbeats 4000000 in
theorem lexOne_any (s : ByteArray) (a : Int) (w : World) (hs : s.size ≤ 9223372036854775807) (ha1 : -9223372036854775808 ≤ a) (ha2 : a ≤ 9223372036854775807) (hG : Glob w) :
    Calls Tryd.prog 11 #[.string s, .int .i64 a] w fun e w' => e = .returned (.bool true) ∧ Below w.heap.size w w' := by
  have HA := Lib.hid (awake_any w hG)
  have HG := Lib.hid hG
  clear hG
  by_cases h1 : 300 < s.size
  · go_enter Tryd.func11, Tryd.ntmps11
    go_wp2_with fail
    go_at_call 14
    refine HA.out.mono ?_
    rintro e1 w1 ⟨rfl, hb1⟩
    go_wp2_with fail
    go_ret
    exact ⟨rfl, hb1⟩
  · by_cases h2 : a < 0
    · go_enter Tryd.func11, Tryd.ntmps11
      go_wp2_with fail
      go_at_call 14
      refine HA.out.mono ?_
      rintro e1 w1 ⟨rfl, hb1⟩
      go_wp2_with fail
      go_ret
      exact ⟨rfl, hb1⟩
    · obtain ⟨n, rfl⟩ : ∃ n : Nat, a = n := ⟨a.toNat, by omega⟩
      have hn : n ≤ 9223372036854775807 := by omega
      have hDl : (Lib.decDigits n).length ≤ 20 := by rw [Lib.decDigits_length]; exact Lib.nDigits_le20 n (by omega)
      have HD : Hid (∀ w : World, Calls Tryd.prog 25 #[.int .i64 n] w fun e w' => e = .returned (.string (bstr (Lib.decDigits n))) ∧ Below w.heap.size w w') := Lib.hid (fun w => decimal_calls n n w (Nat.le_refl _) hn)
      have hl1 : lexS (Lib.decDigits n) = .ok [⟨2, Lib.decDigits n, n, 1, 1⟩, endT 1 (1 + (Lib.decDigits n).length)] := by rw [lexS_of (by omega)]; exact lex_dec n hn 1 1
      have hl2 : (Lib.decDigits n).length ≤ 9223372036854775807 := by omega
      have HL1 : Hid (∀ (w : World) (_ : Glob w), _) := Lib.hid (fun (w : World) (h : Glob w) => lexOk hl1 w h hl2)
      clear hl1 hl2
      have HW : Hid (∀ w : World, _) := Lib.hid (fun w : World => pword_any s w)
      have hsz : (bstr (Lib.decDigits n)).size = (Lib.decDigits n).length := by rw [← str_len, bstr_data]
      have hDs : (bstr (Lib.decDigits n)).size ≤ 20 := by omega
      have HL2 : Hid (wordS s.data.toList = true → ∀ (w : World) (_ : Glob w), Calls Tryd.prog 22 #[.string (s ++ { data := #[61] } ++ bstr (Lib.decDigits n))] w fun e w' => (∃ v, e = .returned (.tuple #[v, .int .i64 0, .int .i64 0, .int .i64 0]) ∧ Toks w' [⟨1, s.data.toList, 0, 1, 1⟩, ⟨3, [61], 0, 1, 1 + s.size⟩, ⟨2, Lib.decDigits n, n, 1, 2 + s.size⟩, endT 1 (2 + s.size + (bstr (Lib.decDigits n)).size)] v) ∧ Below w.heap.size w w') := Lib.hid (fun hw w h => by
        have hl := lex_one s.data.toList hw n hn
        rw [← lexS_of (by rw [List.length_append, List.length_append, str_len]; simp only [List.length_singleton]; omega)] at hl
        have := lexOk hl w h (by rw [List.length_append, List.length_append, str_len]; simp only [List.length_singleton]; omega)
        rw [one_str, str_len, ← hsz] at this
        exact this)
      clear hDl hsz hn
      generalize wordS s.data.toList = q at *
      go_enter Tryd.func11, Tryd.ntmps11
      go_wp2_with fail
      go_at_call 14
      refine HA.out.mono ?_
      rintro e1 w1 ⟨rfl, hb1⟩
      have HG1 := Lib.hid (HG.out.next hb1)
      have Hb1 := Lib.hid hb1
      clear hb1
      go_wp2_with fail
      go_at_call 25
      refine (HD.out _).mono ?_
      rintro e2 w2 ⟨rfl, hb2⟩
      have HG2 := Lib.hid (HG1.out.next hb2)
      have Hb2 := Lib.hid (Hb1.out.trans (hb2.mono Hb1.out.size))
      clear hb2
      go_wp2_with fail
      go_at_call 22
      refine (HL1.out w2 HG2.out).mono ?_
      rintro e3 w3 ⟨⟨v3, rfl, hT3⟩, hb3⟩
      have HG3 := Lib.hid (HG2.out.next hb3)
      have Hb3 := Lib.hid (Hb2.out.trans (hb3.mono Hb2.out.size))
      obtain ⟨a3, cap3, h9, hc1, hc2⟩ := Sl.form hT3
      have h2 : ∀ x y : Tok, [x, y].length = 2 := fun _ _ => rfl
      rw [h2] at h9 hc1
      subst h9
      obtain ⟨b, off, rfl, d0, d1, d2, d3, d4⟩ := tok_cells hT3 (i := 0) (by simp)
      simp only [tokAt, List.getD_cons_zero, Nat.zero_mul, Nat.add_zero] at d0 d1 d2 d3 d4
      clear hT3 hb3 h2 HL1
      generalize bstr (Lib.decDigits n) = DS at *
      go_wp2_with fail
      refine wp_region_seq (fun w' => Below w3.heap.size w3 w') (by kernel_rfl) (by kernel_rfl) ((Below.refl _ _).drew) ?_
      repeat
        try simp only [Act.put, List.setIfInBounds_toArray, List.set_cons_succ, List.set_cons_zero]
        apply stepsSeq.cons
        · intro w' hb1
          have Hb1' := Lib.hid hb1
          have d0' := Below.keep hb1 d0
          have d1' := Below.keep hb1 d1
          have d2' := Below.keep hb1 d2
          have d3' := Below.keep hb1 d3
          have d4' := Below.keep hb1 d4
          simp only [Act.put, List.setIfInBounds_toArray, List.set_cons_succ, List.set_cons_zero]
          go_wp2_with ((go_at_call 25; refine (HD.out _).mono ?_; rintro e5 w5 ⟨rfl, hb2⟩))
          first | exact ⟨rfl, Hb1'.out⟩ | exact ⟨rfl, Hb1'.out.trans (hb2.mono Hb1'.out.size)⟩
      try simp only [Act.put, List.setIfInBounds_toArray, List.set_cons_succ, List.set_cons_zero]
      refine stepsSeq.nil ?_
      intro w' hb1
      have HG4 := Lib.hid (HG3.out.below hb1 HG3.out.size)
      have Hb4 := Lib.hid (Hb3.out.trans (hb1.mono Hb3.out.size))
      generalize w' = w4 at *
      clear hb1 d0 d1 d2 d3 d4 HG3 Hb3
      cases q with
      | false =>
        go_wp2_with fail
        go_at_call 17
        refine (HW.out _).mono ?_
        rintro e5 w5 ⟨rfl, rfl⟩
        go_wp2_with fail
        go_ret
        exact ⟨rfl, Hb4.out⟩
      | true =>
        replace HL2 := Lib.hid (HL2.out rfl)
        have hsum : s.size + 1 + DS.size ≤ 9223372036854775807 := by omega
        go_wp2_with fail
        go_at_call 17
        refine (HW.out _).mono ?_
        rintro e5 w5 ⟨rfl, rfl⟩
        go_wp2_with fail
        go_at_call 25
        refine (HD.out _).mono ?_
        rintro e5 w5 ⟨rfl, hb5⟩
        have HG5 := Lib.hid (HG4.out.next hb5)
        have Hb5 := Lib.hid (Hb4.out.trans (hb5.mono Hb4.out.size))
        clear hb5
        go_wp2_with fail
        go_at_call 22
        refine (HL2.out w5 HG5.out).mono ?_
        rintro e6 w6 ⟨⟨v6, rfl, hT6⟩, hb6⟩
        have Hb6 := Lib.hid (Hb5.out.trans (hb6.mono Hb5.out.size))
        obtain ⟨a6, cap6, h9, hc61, hc62⟩ := Sl.form hT6
        have h4 : ∀ x y z u : Tok, [x, y, z, u].length = 4 := fun _ _ _ _ => rfl
        rw [h4] at h9 hc61
        subst h9
        obtain ⟨b6, off6, rfl, d0, d1, d2, d3, d4⟩ := tok_cells hT6 (i := 0) (by simp)
        obtain ⟨b7, off7, h7, -, f1, -, -, f4⟩ := tok_cells hT6 (i := 1) (by simp)
        cases h7
        obtain ⟨b8, off8, h8, -, -, g2, -, -⟩ := tok_cells hT6 (i := 2) (by simp)
        cases h8
        obtain ⟨b9, off9, h9, -, -, -, -, k4⟩ := tok_cells hT6 (i := 3) (by simp)
        cases h9
        simp only [tokAt, List.getD_cons_zero, List.getD_cons_succ, Nat.zero_mul, Nat.add_zero, Nat.reduceMul, endT, bstr_of, show bstr [61] = { data := #[61] } from rfl] at d0 d1 d2 d3 d4 f1 f4 g2 k4
        clear hT6 hb6 h4
        go_wp2_with fail
        refine wp_region_seq (fun w' => Below w6.heap.size w6 w') (by kernel_rfl) (by kernel_rfl) ((Below.refl _ _).drew) ?_
        repeat
          try simp only [Act.put, List.setIfInBounds_toArray, List.set_cons_succ, List.set_cons_zero]
          apply stepsSeq.cons
          · intro w' hb1
            have Hb1' := Lib.hid hb1
            have d0' := Below.keep hb1 d0
            have d1' := Below.keep hb1 d1
            have d2' := Below.keep hb1 d2
            have d3' := Below.keep hb1 d3
            have d4' := Below.keep hb1 d4
            have f1' := Below.keep hb1 f1
            have f4' := Below.keep hb1 f4
            have g2' := Below.keep hb1 g2
            have k4' := Below.keep hb1 k4
            simp only [Act.put, List.setIfInBounds_toArray, List.set_cons_succ, List.set_cons_zero]
            go_wp2_with ((go_at_call 25; refine (HD.out _).mono ?_; rintro e5 w5 ⟨rfl, hb2⟩))
            first | exact ⟨rfl, Hb1'.out⟩ | exact ⟨rfl, Hb1'.out.trans (hb2.mono Hb1'.out.size)⟩
        try simp only [Act.put, List.setIfInBounds_toArray, List.set_cons_succ, List.set_cons_zero]
        refine stepsSeq.nil ?_
        intro w' hb1
        have Hb7 := Lib.hid (Hb6.out.trans (hb1.mono Hb6.out.size))
        clear hb1 d0 d1 d2 d3 d4 f1 f4 g2 k4
        go_wp2_with fail
        go_ret
        exact ⟨rfl, Hb7.out⟩
end Go.Proofs.YtcichbdkdbnmiaaDoor
