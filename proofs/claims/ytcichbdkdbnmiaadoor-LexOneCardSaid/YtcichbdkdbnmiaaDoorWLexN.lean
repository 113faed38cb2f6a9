/- marcheslaw11.LexLines, walked. -/
import Derived.Test.YtcichbdkdbnmiaaDoorWMoved
import Derived.Test.YtcichbdkdbnmiaaDoorWLexO
namespace Go.Proofs.YtcichbdkdbnmiaaDoor
open Go.RowKit

theorem nl_le (xs : List UInt8) : nlN xs ≤ xs.length := by
  induction xs with
  | nil => simp [nlN]
  | cons b r ih => simp only [nlN, List.length_cons]; split <;> omega
theorem lines_all (s t : List UInt8) : lexF (s ++ 10 :: t) 1 1 = glue ((lexF t 1 1).down (1 + nlN s : Nat)) (lexF s 1 1) := by
  rw [lexF_line t _ s (Nat.le_refl _), show (1 : Int) + nlN s + 1 = 1 + ((1 + nlN s : Nat) : Int) from by omega, lexF_down _ _ t (Nat.le_refl _)]
theorem down_zero (ts : List Tok) : ts.map (Tok.down (0 : Nat)) = ts := by
  rw [List.map_congr_left (g := id)]
  · simp
  · intro t _; cases t; simp [Tok.down]
theorem lexS_small_of (s : ByteArray) (h : s.size ≤ 16384) : lexS s.data.toList = lexF s.data.toList 1 1 := lexS_of (by rw [str_len]; exact h)
theorem lines_str (s t : ByteArray) (hs : s.size ≤ 1500) (ht : t.size ≤ 1500) :
    ∃ X, X = s ++ { data := #[10] } ++ t ∧ X.size ≤ 9223372036854775807 ∧ lexS X.data.toList = glue ((lexS t.data.toList).down (1 + nlN s.data.toList : Nat)) (lexS s.data.toList) := by
  have hD : (s ++ { data := #[10] } ++ t).data.toList = s.data.toList ++ 10 :: t.data.toList := by simp
  refine ⟨_, rfl, ?_⟩
  generalize s ++ { data := #[10] } ++ t = X at *
  have hsz : X.size = s.size + 1 + t.size := by rw [← str_len, hD, List.length_append, List.length_cons, str_len, str_len]; omega
  refine ⟨by omega, ?_⟩
  rw [lexS_small_of X (by omega), hD, lexS_small_of s (by omega), lexS_small_of t (by omega)]
  exact lines_all _ _
theorem err_line {bs : List UInt8} {a b e : Int} (h : lexF bs 1 1 = .err a b e) : 0 ≤ a ∧ a ≤ 1 + bs.length := by
  obtain ⟨j, hj, hp, -⟩ := lexF_err _ bs (Nat.le_refl _) _ _ _ _ _ h
  have h1 := pos_nl (bs.take j) 1 1
  have h2 := nl_le (bs.take j)
  rw [List.length_take] at h2
  rw [hp] at h1
  have h3 : a = 1 + (nlN (bs.take j) : Int) := h1
  omega
set_option maxRecDepth 100000 in
set_option maxHeartbeats 4000000 in
theorem lexLines_any (s t : ByteArray) (w : World) (hs : s.size ≤ 9223372036854775807) (ht : t.size ≤ 9223372036854775807) (hG : Glob w) :
    Calls Tryd.prog 8 #[.string s, .string t] w fun e w' => e = .returned (.bool true) ∧ Below w.heap.size w w' := by
  have HA := Lib.hid (awake_any w hG)
  have HG := Lib.hid hG
  clear hG
  by_cases h1 : 1500 < s.size
  · go_enter Tryd.func8, Tryd.ntmps8
    go_wp2_with fail
    go_at_call 14
    refine HA.out.mono ?_
    rintro e1 w1 ⟨rfl, hb1⟩
    go_wp2_with fail
    go_ret
    exact ⟨rfl, hb1⟩
  · by_cases h2 : 1500 < t.size
    · go_enter Tryd.func8, Tryd.ntmps8
      go_wp2_with fail
      go_at_call 14
      refine HA.out.mono ?_
      rintro e1 w1 ⟨rfl, hb1⟩
      go_wp2_with fail
      go_ret
      exact ⟨rfl, hb1⟩
    · obtain ⟨X, hX, hXl, e3⟩ := lines_str s t (by omega) (by omega)
      have e1 := lexS_small_of s (by omega)
      have e2 := lexS_small_of t (by omega)
      have H1 : Hid (∀ (w : World) (_ : Glob w), _) := Lib.hid (fun (w : World) (hG : Glob w) => lexV s w hs hG)
      have H2 : Hid (∀ (w : World) (_ : Glob w), _) := Lib.hid (fun (w : World) (hG : Glob w) => lexV t w ht hG)
      have H3 : Hid (∀ (w : World) (_ : Glob w), _) := Lib.hid (fun (w : World) (hG : Glob w) => lexV X w hXl hG)
      rw [e3] at H3
      rw [hX] at H3
      clear hX hXl
      obtain ⟨R1, hR1⟩ : ∃ R, R = lexS s.data.toList := ⟨_, rfl⟩
      obtain ⟨R2, hR2⟩ : ∃ R, R = lexS t.data.toList := ⟨_, rfl⟩
      rw [← hR1] at H1 H3
      rw [← hR2] at H2 H3
      rw [e1] at hR1
      rw [e2] at hR2
      clear e1 e2 e3
      have hnl := nl_le s.data.toList
      rw [str_len] at hnl
      have HR1 := Lib.hid hR1
      have HR2 := Lib.hid hR2
      clear hR1 hR2
      obtain ⟨Ln, hLn⟩ : ∃ Ln, 1 + nlN s.data.toList = Ln := ⟨_, rfl⟩
      rw [hLn] at H3
      have HLn := Lib.hid hLn
      have hLn2 : Ln ≤ 1501 := by omega
      have hsum : s.size + 1 + t.size ≤ 9223372036854775807 := by omega
      clear hLn hnl
      go_enter Tryd.func8, Tryd.ntmps8
      go_wp2_with fail
      go_at_call 14
      refine HA.out.mono ?_
      rintro e1 w1 ⟨rfl, hb1⟩
      have HG1 := Lib.hid (HG.out.next hb1)
      have Hb1 := Lib.hid hb1
      clear hb1
      go_wp2_with fail
      go_loopw [5, 6, 29, 30, 31, 32, 33, 34, 35, 36, 37, 38, 39, 40] (fun t5 t6 _ _ _ _ _ _ _ _ _ _ _ _ wr => ∃ k : Nat, k ≤ s.size ∧ t6 = .int .i64 k ∧ t5 = .int .i64 (1 + nlN (s.data.toList.take k) : Nat) ∧ w1 = wr) (fun _ t6 _ _ _ _ _ _ _ _ _ _ _ _ _ => s.size - (intOf t6).toNat)
      case atStart => exact ⟨0, by omega, rfl, rfl, by first | trivial | rfl⟩
      case round =>
        obtain ⟨k, hk, rfl, rfl, rfl⟩ := hrel
        have hnk := nl_le (s.data.toList.take k)
        rw [List.length_take] at hnk
        by_cases hlt : k < s.size
        · have Hst : Hid (nlN (s.data.toList.take (k + 1)) = nlN (s.data.toList.take k) + if s[k].toNat = 10 then 1 else 0) := Lib.hid (by
            rw [List.take_succ_eq_append_getElem (by rw [str_len]; exact hlt), nl_app, str_get s k hlt]
            simp [nlN])
          generalize nlN (s.data.toList.take k) = N at *
          by_cases hc : s[k].toNat = 10
          · have hci : ((s[k].toNat : Int) == 10) = true := by rw [beq_iff_eq]; omega
            rw [if_pos hc] at Hst
            clear hc
            go_wp2_with fail
            go_roundw
            case rel => exact ⟨k + 1, by omega, by go_num, by rw [Hst.out]; go_num, by first | trivial | rfl⟩
            case measure => simp [intOf]; omega
          · have hci : ((s[k].toNat : Int) == 10) = false := by rw [beq_eq_false_iff_ne]; omega
            rw [if_neg hc] at Hst
            clear hc
            go_wp2_with fail
            go_roundw
            case rel => exact ⟨k + 1, by omega, by go_num, by rw [Hst.out]; go_num, by first | trivial | rfl⟩
            case measure => simp [intOf]; omega
        · obtain rfl : k = s.size := by omega
          have eL : 1 + nlN (s.data.toList.take s.size) = Ln := by rw [List.take_of_length_le (by rw [str_len]; omega)]; exact HLn.out
          rw [eL]
          clear eL hnk
          cases R1 with
          | err a b c =>
            have hc : c ≠ 0 := by
              have := lexF_code _ _ (Nat.le_refl _) _ _ _ _ _ HR1.out.symm
              omega
            have hc0 : (c == 0) = false := by rw [beq_eq_false_iff_ne]; exact hc
            simp only [glue, LexR.toks, LexR.line, LexR.col, LexR.code] at H1 H3
            go_wp2_with fail
            go_at_call 22
            refine (H1.out w1 HG1.out).mono ?_
            rintro e2 w2 ⟨⟨v2, rfl, hT2⟩, hb2⟩
            have HG2 := Lib.hid (HG1.out.next hb2)
            have Hb2 := Lib.hid (Hb1.out.trans (hb2.mono Hb1.out.size))
            obtain ⟨a2, cap2, rfl, hc21, hc22⟩ := Sl.form hT2
            have HT2 := Lib.hid hT2
            clear hT2 hb2
            go_wp2_with fail
            go_at_call 22
            refine (H2.out w2 HG2.out).mono ?_
            rintro e3 w3 ⟨⟨v3, rfl, hT3⟩, hb3⟩
            have HG3 := Lib.hid (HG2.out.next hb3)
            have Hb3 := Lib.hid (Hb2.out.trans (hb3.mono Hb2.out.size))
            have HT2 := Lib.hid (HT2.out.below hb3)
            obtain ⟨a3, cap3, rfl, hc31, hc32⟩ := Sl.form hT3
            have HT3 := Lib.hid hT3
            clear hT3 hb3
            go_wp2_with fail
            go_at_call 22
            refine (H3.out w3 HG3.out).mono ?_
            rintro e4 w4 ⟨⟨v4, rfl, hT4⟩, hb4⟩
            have Hb4 := Lib.hid (Hb3.out.trans (hb4.mono Hb3.out.size))
            have HT2 := Lib.hid (HT2.out.below hb4)
            have HT3 := Lib.hid (HT3.out.below hb4)
            obtain ⟨a4, cap4, rfl, hc41, hc42⟩ := Sl.form hT4
            have HT4 := Lib.hid hT4
            clear hT4 hb4
            simp only [List.length_nil] at hc21 hc41
            clear hc
            go_wp2_with fail
            go_ret
            exact ⟨rfl, Hb4.out⟩
          | ok ts =>
            cases R2 with
            | err a b c =>
              have hc : c ≠ 0 := by
                have := lexF_code _ _ (Nat.le_refl _) _ _ _ _ _ HR2.out.symm
                omega
              have hc0 : (c == 0) = false := by rw [beq_eq_false_iff_ne]; exact hc
              simp only [glue, LexR.down, LexR.pre, LexR.toks, LexR.line, LexR.col, LexR.code] at H1 H2 H3
              go_wp2_with fail
              go_at_call 22
              refine (H1.out w1 HG1.out).mono ?_
              rintro e2 w2 ⟨⟨v2, rfl, hT2⟩, hb2⟩
              have HG2 := Lib.hid (HG1.out.next hb2)
              have Hb2 := Lib.hid (Hb1.out.trans (hb2.mono Hb1.out.size))
              obtain ⟨a2, cap2, rfl, hc21, hc22⟩ := Sl.form hT2
              have HT2 := Lib.hid hT2
              clear hT2 hb2
              go_wp2_with fail
              go_at_call 22
              refine (H2.out w2 HG2.out).mono ?_
              rintro e3 w3 ⟨⟨v3, rfl, hT3⟩, hb3⟩
              have HG3 := Lib.hid (HG2.out.next hb3)
              have Hb3 := Lib.hid (Hb2.out.trans (hb3.mono Hb2.out.size))
              have HT2 := Lib.hid (HT2.out.below hb3)
              obtain ⟨a3, cap3, rfl, hc31, hc32⟩ := Sl.form hT3
              have HT3 := Lib.hid hT3
              clear hT3 hb3
              go_wp2_with fail
              go_at_call 22
              refine (H3.out w3 HG3.out).mono ?_
              rintro e4 w4 ⟨⟨v4, rfl, hT4⟩, hb4⟩
              have Hb4 := Lib.hid (Hb3.out.trans (hb4.mono Hb3.out.size))
              have HT2 := Lib.hid (HT2.out.below hb4)
              have HT3 := Lib.hid (HT3.out.below hb4)
              obtain ⟨a4, cap4, rfl, hc41, hc42⟩ := Sl.form hT4
              have HT4 := Lib.hid hT4
              clear hT4 hb4
              clear hc
              have ha := err_line HR2.out.symm
              rw [str_len] at ha
              obtain ⟨ha1, ha2⟩ := ha
              go_wp2_with fail
              go_ret
              exact ⟨rfl, Hb4.out⟩
            | ok us =>
              simp only [glue, LexR.down, LexR.pre, LexR.toks, LexR.line, LexR.col, LexR.code] at H1 H2 H3
              obtain ⟨n1, hn1⟩ : ∃ n1, ts.length = n1 + 1 := ⟨ts.length - 1, by have := List.length_pos_iff.2 (lexF_ne HR1.out.symm); omega⟩
              have hus : 0 < us.length := List.length_pos_iff.2 (lexF_ne HR2.out.symm)
              obtain ⟨us4, hus4⟩ : ∃ l, l = ts.dropLast ++ us.map (Tok.down (Ln : Nat)) := ⟨_, rfl⟩
              have hl4 : us4.length = n1 + us.length := by rw [hus4, List.length_append, List.length_dropLast, List.length_map, hn1]; rfl
              rw [← hus4] at H3
              have hz1 := lexF_lines _ _ (Nat.le_refl _) _ _ _ HR1.out.symm
              have hz2 := lexF_lines _ _ (Nat.le_refl _) _ _ _ HR2.out.symm
              rw [str_len] at hz1 hz2
              have hfr : us4.take n1 = ts.dropLast.map (Tok.down (0 : Nat)) := by rw [hus4, down_zero, List.take_left' (by rw [List.length_dropLast, hn1]; rfl)]
              have hbk : us4.drop n1 = us.map (Tok.down (Ln : Nat)) := by rw [hus4, List.drop_left' (by rw [List.length_dropLast, hn1]; rfl)]
              have hfr2 : ts.take n1 = ts.dropLast := by rw [List.dropLast_eq_take, hn1]; rfl
              have hm1 : ∀ t ∈ ts.dropLast, 0 ≤ t.line ∧ t.line ≤ 1000000 := fun t ht => by
                have := hz1 t ((List.dropLast_sublist ts).subset ht)
                omega
              have hm2 : ∀ t ∈ us, 0 ≤ t.line ∧ t.line ≤ 1000000 := fun t ht => by
                have := hz2 t ht
                omega
              have hsz1 : ts.length ≤ s.size + 1 ∧ us.length ≤ t.size + 1 := by
                have h1 := (lexF_size _ _ (Nat.le_refl _) _ _ _ HR1.out.symm).1
                have h2 := (lexF_size _ _ (Nat.le_refl _) _ _ _ HR2.out.symm).1
                rw [str_len] at h1 h2
                exact ⟨h1, h2⟩
              have Hm1 := Lib.hid hm1
              have Hm2 := Lib.hid hm2
              have Hfr := Lib.hid hfr
              have Hfr2 := Lib.hid hfr2
              have Hbk := Lib.hid hbk
              have Hn1 := Lib.hid hn1
              have Hl4 := Lib.hid hl4
              clear hz1 hz2 hm1 hm2 hfr hfr2 hbk hn1 hl4 hus4
              have hu2 : us.length ≤ 1000000 := by omega
              have hn2 : n1 ≤ 1000000 := by have := Hn1.out; omega
              go_wp2_with fail
              go_at_call 22
              refine (H1.out w1 HG1.out).mono ?_
              rintro e2 w2 ⟨⟨v2, rfl, hT2⟩, hb2⟩
              have HG2 := Lib.hid (HG1.out.next hb2)
              have Hb2 := Lib.hid (Hb1.out.trans (hb2.mono Hb1.out.size))
              obtain ⟨a2, cap2, rfl, hc21, hc22⟩ := Sl.form hT2
              have HT2 := Lib.hid hT2
              clear hT2 hb2
              go_wp2_with fail
              go_at_call 22
              refine (H2.out w2 HG2.out).mono ?_
              rintro e3 w3 ⟨⟨v3, rfl, hT3⟩, hb3⟩
              have HG3 := Lib.hid (HG2.out.next hb3)
              have Hb3 := Lib.hid (Hb2.out.trans (hb3.mono Hb2.out.size))
              have HT2 := Lib.hid (HT2.out.below hb3)
              obtain ⟨a3, cap3, rfl, hc31, hc32⟩ := Sl.form hT3
              have HT3 := Lib.hid hT3
              clear hT3 hb3
              go_wp2_with fail
              go_at_call 22
              refine (H3.out w3 HG3.out).mono ?_
              rintro e4 w4 ⟨⟨v4, rfl, hT4⟩, hb4⟩
              have Hb4 := Lib.hid (Hb3.out.trans (hb4.mono Hb3.out.size))
              have HT2 := Lib.hid (HT2.out.below hb4)
              have HT3 := Lib.hid (HT3.out.below hb4)
              obtain ⟨a4, cap4, rfl, hc41, hc42⟩ := Sl.form hT4
              have HT4 := Lib.hid hT4
              clear hT4 hb4
              rw [Hn1.out] at hc21
              rw [Hl4.out] at hc41
              obtain ⟨b4, off4, rfl, -, -⟩ := Sl.at (by omega) HT4.out (by have := Hl4.out; omega)
              have HM1 : Hid (∀ w' : World, Below w4.heap.size w4 w' → Calls Tryd.prog 23 #[.slice (some ⟨b4, off4, none⟩) n1 cap4, .slice a2 n1 cap2, .int .i64 0] w' fun e w'' => e = .returned (.bool true) ∧ Below w'.heap.size w' w'') := Lib.hid (fun w' hb => by
                have h1 := (HT4.out.below hb).front (k := n1) (by have := Hl4.out; omega)
                have h2 := (HT2.out.below hb).front (k := n1) (by have := Hn1.out; omega)
                rw [Hfr.out] at h1
                rw [Hfr2.out] at h2
                exact moved_calls ts.dropLast 0 _ _ w' h1 h2 (by omega) Hm1.out (by rw [List.length_dropLast]; have := Hn1.out; omega))
              have HM2 : Hid (∀ w' : World, Below w4.heap.size w4 w' → Calls Tryd.prog 23 #[.slice (some ⟨b4, off4 + n1 * 5, none⟩) us.length (cap4 - n1), .slice a3 us.length cap3, .int .i64 Ln] w' fun e w'' => e = .returned (.bool true) ∧ Below w'.heap.size w' w'') := Lib.hid (fun w' hb => by
                have h1 := (HT4.out.below hb).back (k := n1) (by have := Hl4.out; omega)
                rw [Hbk.out, Hl4.out, Nat.add_sub_cancel_left] at h1
                exact moved_calls us Ln _ _ w' h1 (HT3.out.below hb) (by omega) Hm2.out hu2)
              rw [Hn1.out, Hl4.out]
              have hz : ((n1 : Int) + 1 == 0) = false := by rw [beq_eq_false_iff_ne]; omega
              have hlt : ¬ n1 + us.length < n1 := by omega
              have hcap1 : n1 ≤ cap4 := by omega
              have hcap2 : n1 ≤ cap2 := by omega
              have hcap3 : ¬ cap4 = n1 := by omega
              have hle4 : n1 ≤ n1 + us.length := by omega
              go_wp2_with fail
              refine wp_region_seq (fun w' => Below w4.heap.size w4 w') (by kernel_rfl) (by kernel_rfl) ((Below.refl _ _).drew) ?_
              repeat
                try simp only [Act.put, List.setIfInBounds_toArray, List.set_cons_succ, List.set_cons_zero]
                apply stepsSeq.cons
                · intro w' hb1
                  have Hb1' := Lib.hid hb1
                  simp only [Act.put, List.setIfInBounds_toArray, List.set_cons_succ, List.set_cons_zero]
                  go_wp2_with (first | (go_at_call 23; ((with_reducible refine (HM1.out _ Hb1'.out).mono ?_); rintro e5 w5 ⟨rfl, hb2⟩)) | (go_at_call 23; ((with_reducible refine (HM2.out _ Hb1'.out).mono ?_); rintro e5 w5 ⟨rfl, hb2⟩)))
                  first | exact ⟨rfl, Hb1'.out⟩ | exact ⟨rfl, Hb1'.out.trans (hb2.mono Hb1'.out.size)⟩
              try simp only [Act.put, List.setIfInBounds_toArray, List.set_cons_succ, List.set_cons_zero]
              refine stepsSeq.nil ?_
              intro w' hb1
              have Hb5 := Lib.hid (Hb4.out.trans (hb1.mono Hb4.out.size))
              clear hb1
              go_wp2_with fail
              go_ret
              exact ⟨rfl, Hb5.out⟩
end Go.Proofs.YtcichbdkdbnmiaaDoor
