/- marcheslaw11.LexLongest, walked. -/
import Derived.Test.YtcichbdkdbnmiaaDoorWLexT
import Derived.Test.YtcichbdkdbnmiaaDoorWDec
import Derived.Test.YtcichbdkdbnmiaaDoorLinesM
namespace Go.Proofs.YtcichbdkdbnmiaaDoor
open Go.RowKit

def NoSign (l : List UInt8) : Prop := l ≠ [61] ∧ l ≠ [33] ∧ l ≠ [60] ∧ l ≠ [62]
theorem nosign {b : UInt8} {r : List UInt8} (h : partB b = true) : NoSign (b :: r) := by
  refine ⟨?_, ?_, ?_, ?_⟩ <;> (intro e; cases e; revert h; decide)
theorem tok_kinds {t : Tok} (h : TokOk t) : (t.kind = 1 ∧ t.n = 0 ∧ wordS t.text = true ∧ NoSign t.text) ∨ (t.kind = 2 ∧ wordS t.text = false ∧ NoSign t.text ∧ ∃ n : Nat, t.n = n ∧ n ≤ 9223372036854775807 ∧ Lib.decDigits n = t.text) ∨ (t.kind = 3 ∧ t.n = 0 ∧ wordS t.text = false) := by
  cases h with
  | @word b r l c h1 h2 h3 =>
    refine .inl ⟨rfl, rfl, ?_, nosign (part_letter h1)⟩
    simp only [List.all_cons, Bool.and_eq_true] at h2
    simp [wordS, h1, h2.2]
    simpa using h3
  | @number b r n l c h0 h1 h2 h3 =>
    refine .inr (.inl ⟨rfl, ?_, nosign (part_digit h1), ?_⟩)
    · simp [wordS, h0]
    · obtain ⟨-, e, e0, e1⟩ := value_yes h1 h3
      refine ⟨n.toNat, by show n = _; omega, by omega, ?_⟩
      show _ = b :: r
      rw [← e]
      obtain ⟨k, rfl⟩ : ∃ k : Nat, n = k := ⟨n.toNat, by omega⟩
      rw [Lib.itoa_nonneg, Int.toNat_natCast]
  | @sign b r l c h0 h1 h2 =>
    refine .inr (.inr ⟨rfl, rfl, ?_⟩)
    simp [wordS, h0]
theorem new_tok (W1 : World) (v0 v1 v2 v3 v4 : Value) (ty : TypeId) : ∃ W2, W2 = W1.alloc (.cells #[v0, v1, v2, v3, v4] ty) ∧ W2.cell? ⟨W1.heap.size, 0, none⟩ = some v0 ∧ W2.cell? ⟨W1.heap.size, 1, none⟩ = some v1 ∧ W2.cell? ⟨W1.heap.size, 2, none⟩ = some v2 ∧ Below W1.heap.size W1 W2 := by
  refine ⟨_, rfl, ?_, ?_, ?_, (Below.refl _ _).alloc (Nat.le_refl _) _⟩
  all_goals rw [World.cell?_alloc_new]; rfl
theorem nosign_str {l : List UInt8} (h : NoSign l) : ((bstr l).toList == [61]) = false ∧ ((bstr l).toList == [33]) = false ∧ ((bstr l).toList == [60]) = false ∧ ((bstr l).toList == [62]) = false := by
  obtain ⟨h1, h2, h3, h4⟩ := h
  rw [ByteArray.toList_eq, bstr_data]
  refine ⟨?_, ?_, ?_, ?_⟩ <;> (rw [beq_eq_false_iff_ne]; assumption)
set_option maxRecDepth 100000 in
set_option maxHeartbeats 8000000 in
theorem lexLongest_any (s : ByteArray) (w : World) (hs : s.size ≤ 9223372036854775807) (hG : Glob w) :
    Calls Tryd.prog 10 #[.string s] w fun e w' => e = .returned (.bool true) ∧ Below w.heap.size w w' := by
  have HA := Lib.hid (awake_any w hG)
  have HG := Lib.hid hG
  clear hG
  by_cases h1 : 3000 < s.size
  · go_enter Tryd.func10, Tryd.ntmps10
    go_wp2_with fail
    go_at_call 14
    refine HA.out.mono ?_
    rintro e1 w1 ⟨rfl, hb1⟩
    go_wp2_with fail
    go_ret
    exact ⟨rfl, hb1⟩
  · cases hr : lexS s.data.toList with
    | err a b c =>
      have hc : c ≠ 0 := by
        rw [lexS_of (by rw [str_len]; omega)] at hr
        have := lexF_code _ _ (Nat.le_refl _) _ _ _ _ _ hr
        omega
      have HL := Lib.hid (fun (w : World) (h : Glob w) => lexNo' hr w h hs)
      clear hr
      go_enter Tryd.func10, Tryd.ntmps10
      go_wp2_with fail
      go_at_call 14
      refine HA.out.mono ?_
      rintro e1 w1 ⟨rfl, hb1⟩
      have HG1 := Lib.hid (HG.out.next hb1)
      go_wp2_with fail
      go_at_call 22
      refine (HL.out w1 HG1.out).mono ?_
      rintro e2 w2 ⟨⟨v2, rfl, hT2⟩, hb2⟩
      have Hb2 := Lib.hid (hb1.trans (hb2.mono hb1.size))
      clear hT2 hb2 hb1
      go_wp2_with fail
      go_ret
      exact ⟨rfl, Hb2.out⟩
    | ok ts =>
      have hr' := hr
      rw [lexS_of (by rw [str_len]; omega)] at hr'
      obtain ⟨hz1, -, -⟩ := lexS_size hr
      rw [str_len] at hz1
      have hpos : 0 < ts.length := by
        obtain ⟨us, l, c, rfl, -⟩ := lexF_shape _ _ (Nat.le_refl _) _ _ _ hr'
        simp
      have HL := Lib.hid (fun (w : World) (h : Glob w) => lexOk' hr w h hs)
      have Hf : Hid (lexF (s.data.toList.drop 0) (plS s.data.toList 0).1 (plS s.data.toList 0).2 = .ok (ts.drop 0)) := Lib.hid hr'
      have HSk : Hid (∀ (a : Nat) (w : World) (_ : a ≤ s.size), _) := Lib.hid (fun (a : Nat) (w : World) (ha : a ≤ s.size) => (skip_calls s a w ha (by omega)).mono (fun e w' (h : e = .returned (.int .i64 (a + skN (s.data.toList.drop a) : Nat)) ∧ w = w') => (⟨h.1, h.2.symm⟩ : e = .returned (.int .i64 (a + skN (s.data.toList.drop a) : Nat)) ∧ w' = w)))
      clear hr hr'
      go_enter Tryd.func10, Tryd.ntmps10
      go_wp2_with fail
      go_at_call 14
      refine HA.out.mono ?_
      rintro e1 w1 ⟨rfl, hb1⟩
      have HG1 := Lib.hid (HG.out.next hb1)
      have Hb1 := Lib.hid hb1
      clear hb1
      go_wp2_with fail
      go_at_call 22
      refine (HL.out w1 HG1.out).mono ?_
      rintro e2 w2 ⟨⟨v2, rfl, hT2⟩, hb2⟩
      obtain ⟨a2, cap2, rfl, hc1, hc2⟩ := Sl.form hT2
      have Hb2 := Lib.hid (Hb1.out.trans (hb2.mono Hb1.out.size))
      have HT2 := Lib.hid hT2
      clear hT2 hb2
      go_wp2_with fail
      go_loopw [2, 7, 8, 9, 10, 25, 26, 27, 28, 29, 30, 31, 32, 33, 34, 35, 36, 37, 38, 39, 40, 41, 42, 43, 44, 45, 46, 47, 48, 49, 50, 51, 52, 53, 54, 55, 56, 57, 58, 59, 60, 61, 62, 63, 64, 65, 66, 67, 68, 69, 70, 71, 72, 73, 74, 75, 76, 77, 78, 79, 80, 81, 82, 83, 84, 85, 86, 87, 88, 89, 90, 91, 92, 93, 94, 95, 96, 97, 98, 99, 100, 101, 102, 103, 104, 105, 106, 107, 108, 109, 110, 111, 112, 113, 114, 115, 116, 117, 118, 119, 120, 121, 122, 123, 124, 125, 126, 127, 128, 129, 130, 131, 132, 133, 134, 135, 136, 137, 138] (fun _ t7 t8 _ _ _ _ _ _ _ _ _ _ _ _ _ _ _ _ _ _ _ _ _ _ _ _ _ _ _ _ _ _ _ _ _ _ _ _ _ _ _ _ _ _ _ _ _ _ _ _ _ _ _ _ _ _ _ _ _ _ _ _ _ _ _ _ _ _ _ _ _ _ _ _ _ _ _ _ _ _ _ _ _ _ _ _ _ _ _ _ _ _ _ _ _ _ _ _ _ _ _ _ _ _ _ _ _ _ _ _ _ _ _ _ _ _ _ _ wr => ∃ k a : Nat, k ≤ ts.length ∧ a ≤ s.size ∧ t8 = .int .i64 k ∧ t7 = .int .i64 a ∧ Hid ((k < ts.length ∧ lexF (s.data.toList.drop a) (plS s.data.toList a).1 (plS s.data.toList a).2 = .ok (ts.drop k)) ∨ (k = ts.length ∧ a = s.size)) ∧ Hid (Below w2.heap.size w2 wr)) (fun _ _ t8 _ _ _ _ _ _ _ _ _ _ _ _ _ _ _ _ _ _ _ _ _ _ _ _ _ _ _ _ _ _ _ _ _ _ _ _ _ _ _ _ _ _ _ _ _ _ _ _ _ _ _ _ _ _ _ _ _ _ _ _ _ _ _ _ _ _ _ _ _ _ _ _ _ _ _ _ _ _ _ _ _ _ _ _ _ _ _ _ _ _ _ _ _ _ _ _ _ _ _ _ _ _ _ _ _ _ _ _ _ _ _ _ _ _ _ _ _ => ts.length - (intOf t8).toNat)
      case atStart => exact ⟨0, 0, by omega, by omega, rfl, rfl, Lib.hid (.inl ⟨hpos, Hf.out⟩), Lib.hid (Below.refl _ _)⟩
      case round =>
        obtain ⟨k, a, hk, ha, rfl, rfl, Hr, Hb⟩ := hrel
        by_cases hlt : k < ts.length
        · have Hr2 : Hid (lexF (s.data.toList.drop a) (plS s.data.toList a).1 (plS s.data.toList a).2 = .ok (tokAt ts k :: ts.drop (k + 1))) := Lib.hid (by
            rcases Hr.out with ⟨_, h⟩ | ⟨h, _⟩
            · rw [← drop_tok hlt]; exact h
            · omega)
          obtain ⟨T, hT⟩ : ∃ T, tokAt ts k = T := ⟨_, rfl⟩
          rw [hT] at Hr2
          obtain ⟨j, hj, hj2, hcase⟩ := lex_step (by rw [str_len]; exact ha) Hr2.out
          rw [str_len] at hj2
          have HSk1 : Hid (∀ w : World, _) := Lib.hid (fun w : World => HSk.out a w ha)
          rw [← hj] at HSk1
          obtain ⟨b, off, rfl, d0, d1, d2, d3, d4⟩ := tok_cells HT2.out hlt
          rw [hT] at d0 d1 d2 d3 d4
          clear hT
          replace d0 := Below.keep Hb.out d0
          replace d1 := Below.keep Hb.out d1
          replace d2 := Below.keep Hb.out d2
          replace d3 := Below.keep Hb.out d3
          replace d4 := Below.keep Hb.out d4
          clear hj
          rcases hcase with ⟨hje, hte⟩ | ⟨t, us, hte, ht, htl, htc, htx, hty, htr, hen1, hen2⟩
          · injection hte with hte hnil
            subst hte
            obtain rfl : j = s.size := by rw [hje, str_len]
            clear hje
            have hk1 : k + 1 = ts.length := by
              have := congrArg List.length hnil
              rw [List.length_drop] at this
              simp at this
              omega
            have HW : Hid (∀ w : World, Calls Tryd.prog 17 #[.string { data := #[] }] w fun e w' => e = .returned (.bool false) ∧ w = w') := Lib.hid (fun w => pword_any { data := #[] } w)
            simp only [endT, show bstr [] = { data := #[] } from rfl] at d0 d1 d2 d3 d4
            go_wp2_with fail
            go_quiet ((go_at_call 24; exact Calls.quiet_of_same (HSk1.out _)))
            replace Hb := Lib.hid (Hb.out.trans (c := wr.drewN nq) ⟨rfl, rfl, rfl, Nat.le_refl _, fun _ _ => rfl⟩)
            replace d0 : (wr.drewN nq).cell? _ = _ := d0
            replace d1 : (wr.drewN nq).cell? _ = _ := d1
            replace d2 : (wr.drewN nq).cell? _ = _ := d2
            replace d3 : (wr.drewN nq).cell? _ = _ := d3
            replace d4 : (wr.drewN nq).cell? _ = _ := d4
            generalize wr.drewN nq = W1 at *
            go_wp2_with fail
            obtain ⟨W2, hW2, c0, c1, c2, hbW⟩ := new_tok W1 (.int .u8 4) (.string { data := #[] }) (.int .i64 0) (.int .i64 (plS s.data.toList s.size).1) (.int .i64 (plS s.data.toList s.size).2) 29
            rw [← hW2]
            have Hb2' := Lib.hid (Hb.out.trans (hbW.mono Hb.out.size))
            generalize W1.heap.size = g at *
            clear hW2 hbW d0 d1 d2 d3 d4
            refine wp_region_seq (fun w' => Below W2.heap.size W2 w') (by kernel_rfl) (by kernel_rfl) ((Below.refl _ _).drew) ?_
            repeat
              try simp only [Act.put, List.setIfInBounds_toArray, List.set_cons_succ, List.set_cons_zero]
              apply stepsSeq.cons
              · intro w' hb1
                have Hb1' := Lib.hid hb1
                have c0' := Below.keep hb1 c0
                have c1' := Below.keep hb1 c1
                have c2' := Below.keep hb1 c2
                simp only [Act.put, List.setIfInBounds_toArray, List.set_cons_succ, List.set_cons_zero]
                go_wp2_with ((go_at_call 17; refine (HW.out _).mono ?_; rintro e3 w3 ⟨rfl, rfl⟩))
                first | exact ⟨rfl, Hb1'.out⟩ | exact ⟨rfl, Hb1'.out.trans (hb2.mono Hb1'.out.size)⟩
            try simp only [Act.put, List.setIfInBounds_toArray, List.set_cons_succ, List.set_cons_zero]
            refine stepsSeq.nil ?_
            intro w' hb1
            go_wp2_with fail
            go_roundw
            case rel => exact ⟨k + 1, s.size, by omega, Nat.le_refl _, by go_num, by go_num, Lib.hid (.inr ⟨hk1, rfl⟩), Lib.hid (Hb2'.out.trans (hb1.mono Hb2'.out.size))⟩
            case measure => simp [intOf]; omega
          · injection hte with hte hus
            subst hte
            subst hus
            have hk1 : k + 1 < ts.length := by
              rcases Nat.lt_or_ge (k + 1) ts.length with h | h
              · exact h
              · rw [List.drop_eq_nil_of_le h] at htr
                have := lexF_shape _ _ (Nat.le_refl _) _ _ _ htr
                obtain ⟨us, l, c, e, -⟩ := this
                simp at e
            have hsz : (bstr T.text).size = T.text.length := by rw [← str_len, bstr_data]
            rw [str_len] at hty
            rw [htl] at d3
            rw [htc] at d4
            obtain ⟨m, hm⟩ : ∃ m, (bstr T.text).size = m := ⟨_, rfl⟩
            obtain ⟨M, hM⟩ : ∃ M, j + m = M := ⟨_, rfl⟩
            have hme : j + T.text.length = M := by omega
            rw [hme] at htx hty htr hen1 
            have hsum : IntKind.i64.wrap ((j : Int) + (m : Int)) = (M : Int) := by rw [Go.IntWalk.i64_in _ (by omega)]; omega
            have hM0 : (M : Int) ≤ (s.size : Int) := by omega
            have Hhtr := Lib.hid htr
            have HM := Lib.hid hM
            have Hend : Hid (∀ h : M < s.size, (T.kind ≠ 3 → (letterI (s[M].toNat : Int) || digitI (s[M].toNat : Int)) = false) ∧ (T.kind = 3 → s[M].toNat = 61 → NoSign T.text)) := Lib.hid (fun h => by
              have hd := drop_get s h
              refine ⟨fun hk => ?_, fun hk he => ?_⟩
              · have := hen1 hk
                rw [hd] at this
                simpa [partB, letterB, digitB] using this
              · refine ⟨?_, ?_, ?_, ?_⟩
                all_goals
                  intro e
                  have hx : s.data.toList.drop j = _ := htx
                  rw [e, hd] at hx
                  have := hen2 hk _ _ _ e hx
                  rw [he] at this
                  exact this (by decide))
            have hkk := tok_kinds ht
            clear htr htx htl htc hen1 hen2 ht hM hme hsz hty Hr Hr2 Hf
            have hKW : ∃ (K : Int) (q : Bool), T.kind = K ∧ (K = 1 ∨ K = 2 ∨ K = 3) ∧ wordS T.text = q := ⟨_, _, rfl, by omega, rfl⟩
            rcases hkk with ⟨hK, hN, hWd, hNS⟩ | ⟨hK, hWd, hNS, n, hN, hn, hDc⟩ | ⟨hK, hN, hWd⟩
            · rw [hK] at d0 Hend
              rw [hN] at d2
              have HW : Hid (∀ w : World, Calls Tryd.prog 17 #[.string (bstr T.text)] w fun e w' => e = .returned (.bool true) ∧ w = w') := Lib.hid (fun w => by
                have := pword_any (bstr T.text) w
                rw [bstr_data, hWd] at this
                exact this)
              have HQ := Lib.hid (nosign_str hNS)
              clear hK hN hWd hNS hKW
              generalize bstr T.text = S0 at *
              go_wp2_with fail
              go_quiet ((go_at_call 24; exact Calls.quiet_of_same (HSk1.out _)))
              replace Hb := Lib.hid (Hb.out.trans (c := wr.drewN nq) ⟨rfl, rfl, rfl, Nat.le_refl _, fun _ _ => rfl⟩)
              replace d0 : (wr.drewN nq).cell? _ = _ := d0
              replace d1 : (wr.drewN nq).cell? _ = _ := d1
              replace d2 : (wr.drewN nq).cell? _ = _ := d2
              replace d3 : (wr.drewN nq).cell? _ = _ := d3
              replace d4 : (wr.drewN nq).cell? _ = _ := d4
              generalize wr.drewN nq = W1 at *
              go_wp2_with fail
              obtain ⟨W2, hW2, c0, c1, c2, hbW⟩ := new_tok W1 (.int .u8 1) (.string S0) (.int .i64 0) (.int .i64 (plS s.data.toList j).1) (.int .i64 (plS s.data.toList j).2) 29
              rw [← hW2]
              have Hb2' := Lib.hid (Hb.out.trans (hbW.mono Hb.out.size))
              generalize W1.heap.size = g at *
              clear hW2 hbW d0 d1 d2 d3 d4
              refine wp_region_seq (fun w' => Below W2.heap.size W2 w') (by kernel_rfl) (by kernel_rfl) ((Below.refl _ _).drew) ?_
              repeat
                try simp only [Act.put, List.setIfInBounds_toArray, List.set_cons_succ, List.set_cons_zero]
                apply stepsSeq.cons
                · intro w' hb1
                  have Hb1' := Lib.hid hb1
                  have c0' := Below.keep hb1 c0
                  have c1' := Below.keep hb1 c1
                  have c2' := Below.keep hb1 c2
                  simp only [Act.put, List.setIfInBounds_toArray, List.set_cons_succ, List.set_cons_zero]
                  go_wp2_with ((go_at_call 17; refine (HW.out _).mono ?_; rintro e3 w3 ⟨rfl, rfl⟩))
                  first | exact ⟨rfl, Hb1'.out⟩ | exact ⟨rfl, Hb1'.out.trans (hb2.mono Hb1'.out.size)⟩
              try simp only [Act.put, List.setIfInBounds_toArray, List.set_cons_succ, List.set_cons_zero]
              refine stepsSeq.nil ?_
              intro w' hb1
              replace c0 := Below.keep hb1 c0
              replace c1 := Below.keep hb1 c1
              replace c2 := Below.keep hb1 c2
              have Hb3 := Lib.hid (Hb2'.out.trans (hb1.mono Hb2'.out.size))
              clear hb1
              by_cases hEq : M = s.size
              · have he : ((M : Int) == (s.size : Int)) = true := by rw [beq_iff_eq]; omega
                go_wp2_with fail
                go_roundw
                case rel => exact ⟨k + 1, M, by omega, by omega, by go_num, rfl, Lib.hid (.inl ⟨hk1, Hhtr.out⟩), Hb3⟩
                case measure => simp [intOf]; omega
              · have he : ((M : Int) == (s.size : Int)) = false := by rw [beq_eq_false_iff_ne]; omega
                have hlt2 : M < s.size := by omega
                obtain ⟨Ha, Hb61⟩ := Hend.out hlt2
                have q1 : (S0.toList == [61]) = false := HQ.out.1
                have q2 : (S0.toList == [33]) = false := HQ.out.2.1
                have q3 : (S0.toList == [60]) = false := HQ.out.2.2.1
                have q4 : (S0.toList == [62]) = false := HQ.out.2.2.2
                have HP : Hid (∀ w : World, Calls Tryd.prog 26 #[.int .u8 (s[M].toNat : Int)] w fun e w' => e = .returned (.bool false) ∧ w = w') := Lib.hid (fun w => by
                  have := part_calls (s[M].toNat : Int) w
                  rw [Ha (by decide)] at this
                  exact this)
                clear Ha Hb61

                obtain ⟨B, hB⟩ : ∃ B, s[M] = B := ⟨_, rfl⟩
                have hbl : B.toNat < 256 := B.toNat_lt
                rw [hB] at HP
                go_wp2_with (go_at_call 26; refine (HP.out _).mono ?_; rintro e3 w3 ⟨rfl, rfl⟩)
                go_roundw
                case rel => exact ⟨k + 1, M, by omega, by omega, by go_num, rfl, Lib.hid (.inl ⟨hk1, Hhtr.out⟩), Hb3⟩
                case measure => simp [intOf]; omega
            · rw [hK] at d0 Hend
              rw [hN] at d2
              have HW : Hid (∀ w : World, Calls Tryd.prog 17 #[.string (bstr T.text)] w fun e w' => e = .returned (.bool false) ∧ w = w') := Lib.hid (fun w => by
                have := pword_any (bstr T.text) w
                rw [bstr_data, hWd] at this
                exact this)
              have HQ := Lib.hid (nosign_str hNS)
              have HD : Hid (∀ w : World, Calls Tryd.prog 25 #[.int .i64 n] w fun e w' => e = .returned (.string (bstr T.text)) ∧ Below w.heap.size w w') := Lib.hid (fun w => by
                have := decimal_calls n n w (Nat.le_refl _) hn
                rw [hDc] at this
                exact this)
              clear hK hN hWd hNS hDc hKW
              generalize bstr T.text = S0 at *
              go_wp2_with fail
              go_quiet ((go_at_call 24; exact Calls.quiet_of_same (HSk1.out _)))
              replace Hb := Lib.hid (Hb.out.trans (c := wr.drewN nq) ⟨rfl, rfl, rfl, Nat.le_refl _, fun _ _ => rfl⟩)
              replace d0 : (wr.drewN nq).cell? _ = _ := d0
              replace d1 : (wr.drewN nq).cell? _ = _ := d1
              replace d2 : (wr.drewN nq).cell? _ = _ := d2
              replace d3 : (wr.drewN nq).cell? _ = _ := d3
              replace d4 : (wr.drewN nq).cell? _ = _ := d4
              generalize wr.drewN nq = W1 at *
              go_wp2_with fail
              obtain ⟨W2, hW2, c0, c1, c2, hbW⟩ := new_tok W1 (.int .u8 2) (.string S0) (.int .i64 n) (.int .i64 (plS s.data.toList j).1) (.int .i64 (plS s.data.toList j).2) 29
              rw [← hW2]
              have Hb2' := Lib.hid (Hb.out.trans (hbW.mono Hb.out.size))
              generalize W1.heap.size = g at *
              clear hW2 hbW d0 d1 d2 d3 d4
              refine wp_region_seq (fun w' => Below W2.heap.size W2 w') (by kernel_rfl) (by kernel_rfl) ((Below.refl _ _).drew) ?_
              repeat
                try simp only [Act.put, List.setIfInBounds_toArray, List.set_cons_succ, List.set_cons_zero]
                apply stepsSeq.cons
                · intro w' hb1
                  have Hb1' := Lib.hid hb1
                  have c0' := Below.keep hb1 c0
                  have c1' := Below.keep hb1 c1
                  have c2' := Below.keep hb1 c2
                  simp only [Act.put, List.setIfInBounds_toArray, List.set_cons_succ, List.set_cons_zero]
                  go_wp2_with (first | (go_at_call 17; refine (HW.out _).mono ?_; rintro e3 w3 ⟨rfl, rfl⟩) | (go_at_call 25; refine (HD.out _).mono ?_; rintro e3 w3 ⟨rfl, hb2⟩))
                  first | exact ⟨rfl, Hb1'.out⟩ | exact ⟨rfl, Hb1'.out.trans (hb2.mono Hb1'.out.size)⟩
              try simp only [Act.put, List.setIfInBounds_toArray, List.set_cons_succ, List.set_cons_zero]
              refine stepsSeq.nil ?_
              intro w' hb1
              replace c0 := Below.keep hb1 c0
              replace c1 := Below.keep hb1 c1
              replace c2 := Below.keep hb1 c2
              have Hb3 := Lib.hid (Hb2'.out.trans (hb1.mono Hb2'.out.size))
              clear hb1
              by_cases hEq : M = s.size
              · have he : ((M : Int) == (s.size : Int)) = true := by rw [beq_iff_eq]; omega
                go_wp2_with fail
                go_roundw
                case rel => exact ⟨k + 1, M, by omega, by omega, by go_num, rfl, Lib.hid (.inl ⟨hk1, Hhtr.out⟩), Hb3⟩
                case measure => simp [intOf]; omega
              · have he : ((M : Int) == (s.size : Int)) = false := by rw [beq_eq_false_iff_ne]; omega
                have hlt2 : M < s.size := by omega
                obtain ⟨Ha, Hb61⟩ := Hend.out hlt2
                have q1 : (S0.toList == [61]) = false := HQ.out.1
                have q2 : (S0.toList == [33]) = false := HQ.out.2.1
                have q3 : (S0.toList == [60]) = false := HQ.out.2.2.1
                have q4 : (S0.toList == [62]) = false := HQ.out.2.2.2
                have HP : Hid (∀ w : World, Calls Tryd.prog 26 #[.int .u8 (s[M].toNat : Int)] w fun e w' => e = .returned (.bool false) ∧ w = w') := Lib.hid (fun w => by
                  have := part_calls (s[M].toNat : Int) w
                  rw [Ha (by decide)] at this
                  exact this)
                clear Ha Hb61

                obtain ⟨B, hB⟩ : ∃ B, s[M] = B := ⟨_, rfl⟩
                have hbl : B.toNat < 256 := B.toNat_lt
                rw [hB] at HP
                go_wp2_with (go_at_call 26; refine (HP.out _).mono ?_; rintro e3 w3 ⟨rfl, rfl⟩)
                go_roundw
                case rel => exact ⟨k + 1, M, by omega, by omega, by go_num, rfl, Lib.hid (.inl ⟨hk1, Hhtr.out⟩), Hb3⟩
                case measure => simp [intOf]; omega
            · rw [hK] at d0 Hend
              rw [hN] at d2
              have HW : Hid (∀ w : World, Calls Tryd.prog 17 #[.string (bstr T.text)] w fun e w' => e = .returned (.bool false) ∧ w = w') := Lib.hid (fun w => by
                have := pword_any (bstr T.text) w
                rw [bstr_data, hWd] at this
                exact this)
              have HQ : Hid (∀ h : M < s.size, s[M].toNat = 61 → ((bstr T.text).toList == [61]) = false ∧ ((bstr T.text).toList == [33]) = false ∧ ((bstr T.text).toList == [60]) = false ∧ ((bstr T.text).toList == [62]) = false) := Lib.hid (fun h he => nosign_str ((Hend.out h).2 rfl he))
              clear hK hN hWd hKW
              generalize bstr T.text = S0 at *
              go_wp2_with fail
              go_quiet ((go_at_call 24; exact Calls.quiet_of_same (HSk1.out _)))
              replace Hb := Lib.hid (Hb.out.trans (c := wr.drewN nq) ⟨rfl, rfl, rfl, Nat.le_refl _, fun _ _ => rfl⟩)
              replace d0 : (wr.drewN nq).cell? _ = _ := d0
              replace d1 : (wr.drewN nq).cell? _ = _ := d1
              replace d2 : (wr.drewN nq).cell? _ = _ := d2
              replace d3 : (wr.drewN nq).cell? _ = _ := d3
              replace d4 : (wr.drewN nq).cell? _ = _ := d4
              generalize wr.drewN nq = W1 at *
              go_wp2_with fail
              obtain ⟨W2, hW2, c0, c1, c2, hbW⟩ := new_tok W1 (.int .u8 3) (.string S0) (.int .i64 0) (.int .i64 (plS s.data.toList j).1) (.int .i64 (plS s.data.toList j).2) 29
              rw [← hW2]
              have Hb2' := Lib.hid (Hb.out.trans (hbW.mono Hb.out.size))
              generalize W1.heap.size = g at *
              clear hW2 hbW d0 d1 d2 d3 d4
              refine wp_region_seq (fun w' => Below W2.heap.size W2 w') (by kernel_rfl) (by kernel_rfl) ((Below.refl _ _).drew) ?_
              repeat
                try simp only [Act.put, List.setIfInBounds_toArray, List.set_cons_succ, List.set_cons_zero]
                apply stepsSeq.cons
                · intro w' hb1
                  have Hb1' := Lib.hid hb1
                  have c0' := Below.keep hb1 c0
                  have c1' := Below.keep hb1 c1
                  have c2' := Below.keep hb1 c2
                  simp only [Act.put, List.setIfInBounds_toArray, List.set_cons_succ, List.set_cons_zero]
                  go_wp2_with ((go_at_call 17; refine (HW.out _).mono ?_; rintro e3 w3 ⟨rfl, rfl⟩))
                  first | exact ⟨rfl, Hb1'.out⟩ | exact ⟨rfl, Hb1'.out.trans (hb2.mono Hb1'.out.size)⟩
              try simp only [Act.put, List.setIfInBounds_toArray, List.set_cons_succ, List.set_cons_zero]
              refine stepsSeq.nil ?_
              intro w' hb1
              replace c0 := Below.keep hb1 c0
              replace c1 := Below.keep hb1 c1
              replace c2 := Below.keep hb1 c2
              have Hb3 := Lib.hid (Hb2'.out.trans (hb1.mono Hb2'.out.size))
              clear hb1
              by_cases hEq : M = s.size
              · have he : ((M : Int) == (s.size : Int)) = true := by rw [beq_iff_eq]; omega
                go_wp2_with fail
                go_roundw
                case rel => exact ⟨k + 1, M, by omega, by omega, by go_num, rfl, Lib.hid (.inl ⟨hk1, Hhtr.out⟩), Hb3⟩
                case measure => simp [intOf]; omega
              · have he : ((M : Int) == (s.size : Int)) = false := by rw [beq_eq_false_iff_ne]; omega
                have hlt2 : M < s.size := by omega
                obtain ⟨Ha, Hb61⟩ := Hend.out hlt2
                clear Ha Hb61
                have HQ1 := Lib.hid (HQ.out hlt2)
                obtain ⟨B, hB⟩ : ∃ B, s[M] = B := ⟨_, rfl⟩
                rw [hB] at HQ1
                have hbl : B.toNat < 256 := B.toNat_lt
                by_cases h61 : B.toNat = 61
                · have q1 : (S0.toList == [61]) = false := (HQ1.out h61).1
                  have q2 : (S0.toList == [33]) = false := (HQ1.out h61).2.1
                  have q3 : (S0.toList == [60]) = false := (HQ1.out h61).2.2.1
                  have q4 : (S0.toList == [62]) = false := (HQ1.out h61).2.2.2
                  clear h61
                  go_wp2_with fail
                  go_roundw
                  case rel => exact ⟨k + 1, M, by omega, by omega, by go_num, rfl, Lib.hid (.inl ⟨hk1, Hhtr.out⟩), Hb3⟩
                  case measure => simp [intOf]; omega
                · have q5 : ((B.toNat : Int) == 61) = false := by rw [beq_eq_false_iff_ne]; omega
                  clear h61
                  obtain ⟨q1, hq1⟩ : ∃ q, (S0.toList == [61]) = q := ⟨_, rfl⟩
                  obtain ⟨q2, hq2⟩ : ∃ q, (S0.toList == [33]) = q := ⟨_, rfl⟩
                  obtain ⟨q3, hq3⟩ : ∃ q, (S0.toList == [60]) = q := ⟨_, rfl⟩
                  obtain ⟨q4, hq4⟩ : ∃ q, (S0.toList == [62]) = q := ⟨_, rfl⟩
                  cases q1 <;> cases q2 <;> cases q3 <;> cases q4
                  all_goals
                    go_wp2_with fail
                    go_roundw
                    case rel => exact ⟨k + 1, M, by omega, by omega, by go_num, rfl, Lib.hid (.inl ⟨hk1, Hhtr.out⟩), Hb3⟩
                    case measure => simp [intOf]; omega
        · obtain rfl : k = ts.length := by omega
          go_wp2_with fail
          go_ret
          exact ⟨rfl, Hb2.out.trans (Hb.out.mono Hb2.out.size)⟩
end Go.Proofs.YtcichbdkdbnmiaaDoor
