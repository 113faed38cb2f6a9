/- marcheslaw11.LexText, walked. -/
import Derived.Test.YtcichbdkdbnmiaaDoorWLexO
import Derived.Test.YtcichbdkdbnmiaaDoorWSkip
namespace Go.Proofs.YtcichbdkdbnmiaaDoor
open Go.RowKit

theorem place_at (s : ByteArray) (j : Nat) (hj : j ≤ s.size) : placeS2 s.data.toList (j : Int) = plS s.data.toList j := by
  unfold placeS2
  rw [if_pos (by rw [str_len]; omega)]
  rfl
theorem drop_tok {ts : List Tok} {k : Nat} (h : k < ts.length) : ts.drop k = tokAt ts k :: ts.drop (k + 1) := by
  rw [List.drop_eq_getElem_cons h, tokAt_eq h]
set_option maxRecDepth 100000 in
set_option maxHeartbeats 1000000 in
theorem lexText_any (s : ByteArray) (w : World) (hs : s.size ≤ 9223372036854775807) (hG : Glob w) :
    Calls Tryd.prog 9 #[.string s] w fun e w' => e = .returned (.bool true) ∧ Below w.heap.size w w' := by
  have HA := Lib.hid (awake_any w hG)
  have HG := Lib.hid hG
  clear hG
  by_cases h1 : 3000 < s.size
  · go_enter Tryd.func9, Tryd.ntmps9
    go_wp2_with fail
    go_at_call 14
    refine HA.out.mono ?_
    rintro e1 w1 ⟨rfl, hb1⟩
    go_wp2_with fail
    go_ret
    exact ⟨rfl, hb1⟩
  · cases hr : lexS s.data.toList with
    | err a b c =>
      have hc : c ≠ 0 := by
        rw [lexS_of (by rw [str_len]; omega)] at hr
        have := lexF_code _ _ (Nat.le_refl _) _ _ _ _ _ hr
        omega
      have HL := Lib.hid (fun (w : World) (h : Glob w) => lexNo' hr w h hs)
      clear hr
      go_enter Tryd.func9, Tryd.ntmps9
      go_wp2_with fail
      go_at_call 14
      refine HA.out.mono ?_
      rintro e1 w1 ⟨rfl, hb1⟩
      have HG1 := Lib.hid (HG.out.next hb1)
      go_wp2_with fail
      go_at_call 22
      refine (HL.out w1 HG1.out).mono ?_
      rintro e2 w2 ⟨⟨v2, rfl, hT2⟩, hb2⟩
      have Hb2 := Lib.hid (hb1.trans (hb2.mono hb1.size))
      clear hT2 hb2 hb1
      go_wp2_with fail
      go_ret
      exact ⟨rfl, Hb2.out⟩
    | ok ts =>
      have hr' := hr
      rw [lexS_of (by rw [str_len]; omega)] at hr'
      obtain ⟨hz1, -, -⟩ := lexS_size hr
      rw [str_len] at hz1
      have hpos : 0 < ts.length := by
        obtain ⟨us, l, c, rfl, -⟩ := lexF_shape _ _ (Nat.le_refl _) _ _ _ hr'
        simp
      have HL := Lib.hid (fun (w : World) (h : Glob w) => lexOk' hr w h hs)
      have Hf : Hid (lexF (s.data.toList.drop 0) (plS s.data.toList 0).1 (plS s.data.toList 0).2 = .ok (ts.drop 0)) := Lib.hid hr'
      have HSk : Hid (∀ (a : Nat) (w : World) (_ : a ≤ s.size), _) := Lib.hid (fun (a : Nat) (w : World) (ha : a ≤ s.size) => skip_calls s a w ha (by omega))
      have HPl : Hid (∀ (j : Nat) (w : World) (_ : j ≤ s.size), Calls Tryd.prog 15 #[.string s, .int .i64 j] w fun e w' => e = .returned (.tuple #[.int .i64 (plS s.data.toList j).1, .int .i64 (plS s.data.toList j).2]) ∧ Below w.heap.size w w') := Lib.hid (fun (j : Nat) (w : World) (hj : j ≤ s.size) => by
        have := place_any s j w (by omega)
        rw [place_at s j hj] at this
        exact this)
      clear hr hr'
      go_enter Tryd.func9, Tryd.ntmps9
      go_wp2_with fail
      go_at_call 14
      refine HA.out.mono ?_
      rintro e1 w1 ⟨rfl, hb1⟩
      have HG1 := Lib.hid (HG.out.next hb1)
      have Hb1 := Lib.hid hb1
      clear hb1
      go_wp2_with fail
      go_at_call 22
      refine (HL.out w1 HG1.out).mono ?_
      rintro e2 w2 ⟨⟨v2, rfl, hT2⟩, hb2⟩
      obtain ⟨a2, cap2, rfl, hc1, hc2⟩ := Sl.form hT2
      have Hb2 := Lib.hid (Hb1.out.trans (hb2.mono Hb1.out.size))
      have HT2 := Lib.hid hT2
      clear hT2 hb2
      go_wp2_with fail
      go_loopw [2, 7, 8, 9, 10, 11, 26, 27, 28, 29, 30, 31, 32, 33, 34, 35, 36, 37, 38, 39, 40, 41, 42, 43, 44, 45, 46, 47, 48, 49, 50, 51, 52, 53, 54, 55, 56, 57, 58, 59, 60, 61, 62, 63, 64, 65, 66, 67, 68, 69, 70, 71, 72, 73, 74, 75, 76, 77, 78, 79, 80, 81, 82, 83, 84, 85, 86, 87, 88, 89, 90, 91, 92, 93, 94, 95, 96, 97, 98, 99, 100, 101, 102] (fun _ t7 t8 _ _ _ _ _ _ _ _ _ _ _ _ _ _ _ _ _ _ _ _ _ _ _ _ _ _ _ _ _ _ _ _ _ _ _ _ _ _ _ _ _ _ _ _ _ _ _ _ _ _ _ _ _ _ _ _ _ _ _ _ _ _ _ _ _ _ _ _ _ _ _ _ _ _ _ _ _ _ _ _ wr => ∃ k a : Nat, k ≤ ts.length ∧ a ≤ s.size ∧ t8 = .int .i64 k ∧ t7 = .int .i64 a ∧ Hid ((k < ts.length ∧ lexF (s.data.toList.drop a) (plS s.data.toList a).1 (plS s.data.toList a).2 = .ok (ts.drop k)) ∨ (k = ts.length ∧ a = s.size)) ∧ Hid (Below w2.heap.size w2 wr)) (fun _ _ t8 _ _ _ _ _ _ _ _ _ _ _ _ _ _ _ _ _ _ _ _ _ _ _ _ _ _ _ _ _ _ _ _ _ _ _ _ _ _ _ _ _ _ _ _ _ _ _ _ _ _ _ _ _ _ _ _ _ _ _ _ _ _ _ _ _ _ _ _ _ _ _ _ _ _ _ _ _ _ _ _ _ => ts.length - (intOf t8).toNat)
      case atStart => exact ⟨0, 0, by omega, by omega, rfl, rfl, Lib.hid (.inl ⟨hpos, Hf.out⟩), Lib.hid (Below.refl _ _)⟩
      case round =>
        obtain ⟨k, a, hk, ha, rfl, rfl, Hr, Hb⟩ := hrel
        by_cases hlt : k < ts.length
        · have Hr2 : Hid (lexF (s.data.toList.drop a) (plS s.data.toList a).1 (plS s.data.toList a).2 = .ok (tokAt ts k :: ts.drop (k + 1))) := Lib.hid (by
            rcases Hr.out with ⟨_, h⟩ | ⟨h, _⟩
            · rw [← drop_tok hlt]; exact h
            · omega)
          obtain ⟨T, hT⟩ : ∃ T, tokAt ts k = T := ⟨_, rfl⟩
          rw [hT] at Hr2
          obtain ⟨j, hj, hj2, hcase⟩ := lex_step (by rw [str_len]; exact ha) Hr2.out
          rw [str_len] at hj2
          have HSk1 := Lib.hid (HSk.out a wr ha)
          have HPl1 := Lib.hid (fun w => HPl.out j w hj2)
          rw [← hj] at HSk1
          obtain ⟨b, off, rfl, d0, d1, d2, d3, d4⟩ := tok_cells HT2.out hlt
          rw [hT] at d0 d1 d2 d3 d4
          clear hT
          replace d0 := Below.keep Hb.out d0
          replace d1 := Below.keep Hb.out d1
          replace d2 := Below.keep Hb.out d2
          replace d3 := Below.keep Hb.out d3
          replace d4 := Below.keep Hb.out d4
          clear hj
          rcases hcase with ⟨hje, hte⟩ | ⟨t, us, hte, ht, htl, htc, htx, hty, htr, -, -⟩
          · injection hte with hte hnil
            subst hte
            have Hje := Lib.hid hje
            clear hje
            have hk1 : k + 1 = ts.length := by
              have := congrArg List.length hnil
              rw [List.length_drop] at this
              simp at this
              omega
            have he1 : ((k : Int) == (ts.length : Int) - 1) = true := by simp only [beq_iff_eq]; omega
            simp only [endT, show bstr [] = { data := #[] } from rfl] at d0 d1 d2 d3 d4
            have hex : s.extract j j = { data := #[] } := by rw [bstr_extract]; simp [bstr]
            go_wp2_with fail
            go_at_call 24
            refine HSk1.out.mono ?_
            rintro e3 w3 ⟨rfl, rfl⟩
            go_wp2_with fail
            go_at_call 15
            refine (HPl1.out wr).mono ?_
            rintro e4 w4 ⟨rfl, hb4⟩
            replace d0 := Below.keep hb4 d0
            replace d1 := Below.keep hb4 d1
            replace d2 := Below.keep hb4 d2
            replace d3 := Below.keep hb4 d3
            replace d4 := Below.keep hb4 d4
            have Hb4 := Lib.hid (Hb.out.trans (hb4.mono Hb.out.size))
            clear hb4
            go_wp2_with fail
            refine wp_region_seq (DrewOf _) (by kernel_rfl) (by kernel_rfl) (DrewOf.start _) ?_
            repeat
              try simp only [Act.put, List.setIfInBounds_toArray, List.set_cons_succ, List.set_cons_zero]
              apply stepsSeq.cons
              · rintro w' ⟨nq, rfl⟩
                simp only [Act.put, List.setIfInBounds_toArray, List.set_cons_succ, List.set_cons_zero]
                go_wp2_with (fail)
                first | exact ⟨rfl, nq, rfl⟩ | exact ⟨rfl, nq, (World.drewN_drewN _ _ _).symm⟩ | exact ⟨rfl, nq, by simp⟩
            try simp only [Act.put, List.setIfInBounds_toArray, List.set_cons_succ, List.set_cons_zero]
            refine stepsSeq.nil ?_
            rintro w' ⟨nq, rfl⟩
            go_wp2_with fail
            go_roundw
            case rel => exact ⟨k + 1, j, by omega, hj2, by go_num, by go_num, Lib.hid (.inr ⟨hk1, by rw [Hje.out, str_len]⟩), Lib.hid (((Hb4.out.alloc Hb4.out.size _)).trans ⟨rfl, rfl, rfl, Nat.le_refl _, fun _ _ => rfl⟩)⟩
            case measure => simp [intOf]; omega
          · injection hte with hte hus
            subst hte
            subst hus
            have hk1 : k + 1 < ts.length := by
              rcases Nat.lt_or_ge (k + 1) ts.length with h | h
              · exact h
              · rw [List.drop_eq_nil_of_le h] at htr
                have := lexF_shape _ _ (Nat.le_refl _) _ _ _ htr
                obtain ⟨us, l, c, e, -⟩ := this
                simp at e
            have he1 : ((k : Int) == (ts.length : Int) - 1) = false := by simp only [beq_eq_false_iff_ne, ne_eq]; omega
            have hkd : (T.kind == 4) = false := by simpa using ht.kind
            have hsz : (bstr T.text).size = T.text.length := by rw [← str_len, bstr_data]
            rw [str_len] at hty
            have hsz2 := hsz.symm
            obtain ⟨m, hm⟩ : ∃ m, (bstr T.text).size = m := ⟨_, rfl⟩
            have hme : T.text.length = m := by omega
            have hex : s.extract j (j + m) = bstr T.text := by rw [bstr_extract, Nat.add_sub_cancel_left, htx, ← hme, List.take_left]
            rw [hme] at hty htr
            clear hsz hsz2 hme
            have hemp : (bstr T.text).toList.isEmpty = false := by
              rw [ByteArray.toList_eq, bstr_data]
              cases h : T.text with
              | nil => exact absurd h ht.text
              | cons x r => rfl
            have hjm : (j : Int) + (m : Int) ≤ (s.size : Int) := by omega
            rw [htl] at d3
            rw [htc] at d4
            have Hht := Lib.hid ht
            have Hhtr := Lib.hid htr
            clear ht htr htx htl htc
            go_wp2_with fail
            go_at_call 24
            refine HSk1.out.mono ?_
            rintro e3 w3 ⟨rfl, rfl⟩
            go_wp2_with fail
            go_at_call 15
            refine (HPl1.out wr).mono ?_
            rintro e4 w4 ⟨rfl, hb4⟩
            replace d0 := Below.keep hb4 d0
            replace d1 := Below.keep hb4 d1
            replace d2 := Below.keep hb4 d2
            replace d3 := Below.keep hb4 d3
            replace d4 := Below.keep hb4 d4
            have Hb4 := Lib.hid (Hb.out.trans (hb4.mono Hb.out.size))
            clear hb4
            go_wp2_with fail
            refine wp_region_seq (DrewOf _) (by kernel_rfl) (by kernel_rfl) (DrewOf.start _) ?_
            repeat
              try simp only [Act.put, List.setIfInBounds_toArray, List.set_cons_succ, List.set_cons_zero]
              apply stepsSeq.cons
              · rintro w' ⟨nq, rfl⟩
                simp only [Act.put, List.setIfInBounds_toArray, List.set_cons_succ, List.set_cons_zero]
                go_wp2_with (fail)
                first | exact ⟨rfl, nq, rfl⟩ | exact ⟨rfl, nq, (World.drewN_drewN _ _ _).symm⟩ | exact ⟨rfl, nq, by simp⟩
            try simp only [Act.put, List.setIfInBounds_toArray, List.set_cons_succ, List.set_cons_zero]
            refine stepsSeq.nil ?_
            rintro w' ⟨nq, rfl⟩
            go_wp2_with fail
            go_roundw
            case rel => exact ⟨k + 1, j + m, by omega, hty, by go_num, by go_num, Lib.hid (.inl ⟨hk1, Hhtr.out⟩), Lib.hid (((Hb4.out.alloc Hb4.out.size _)).trans ⟨rfl, rfl, rfl, Nat.le_refl _, fun _ _ => rfl⟩)⟩
            case measure => simp [intOf]; omega
        · obtain rfl : k = ts.length := by omega
          obtain rfl : a = s.size := by
            rcases Hr.out with ⟨h, _⟩ | ⟨_, h⟩
            · omega
            · exact h
          go_wp2_with fail
          go_ret
          exact ⟨rfl, Hb2.out.trans (Hb.out.mono Hb2.out.size)⟩
end Go.Proofs.YtcichbdkdbnmiaaDoor
