/- marcheslaw11.LexWrong, walked. -/
import Derived.Test.YtcichbdkdbnmiaaDoorWLexN
import Derived.Test.YtcichbdkdbnmiaaDoorWLexT
namespace Go.Proofs.YtcichbdkdbnmiaaDoor
open Go.RowKit

theorem posS_ne {xs : List UInt8} (h : xs ≠ []) (l c : Int) : posS xs l c ≠ (l, c) := by
  intro e
  have h1 := pos_nl xs l c
  rw [e] at h1
  have h2 : nlN xs = 0 := by have : l = l + (nlN xs : Int) := h1; omega
  rw [posS_flat xs l c (nl_zero h2)] at e
  have h3 : c + (xs.length : Int) = c := congrArg Prod.snd e
  have := List.length_pos_iff.2 h
  omega
theorem plS_ne (s : List UInt8) {i j : Nat} (hij : i < j) (hj : j ≤ s.length) : plS s i ≠ plS s j := by
  intro e
  obtain ⟨d, rfl⟩ : ∃ d, j = i + d := ⟨j - i, by omega⟩
  rw [plS_add] at e
  have hne : (s.drop i).take d ≠ [] := by
    intro h0
    have := congrArg List.length h0
    rw [List.length_take, List.length_drop] at this
    simp at this
    omega
  exact posS_ne hne _ _ e.symm
/-- the rest of the line behind an error does not matter -/
theorem err_cut {s : List UInt8} {a b e : Int} (h : lexF s 1 1 = .err a b e) {j : Nat} (hp : posS (s.take j) 1 1 = (a, b)) {n : Nat} (hjn : j ≤ n) (hn : n = s.length ∨ ∃ t, s = s.take n ++ 10 :: t) :
    lexF (s.take n) 1 1 = .err a b e := by
  rcases hn with rfl | ⟨t, ht⟩
  · rw [List.take_of_length_le (Nat.le_refl _)]; exact h
  · have h1 := lexF_line t _ (s.take n) (Nat.le_refl _) 1 1
    rw [← ht, h] at h1
    cases hr : lexF (s.take n) 1 1 with
    | err a' b' e' => rw [hr] at h1; exact h1.symm
    | ok ts =>
      rw [hr] at h1
      exfalso
      cases hu : lexF t (1 + nlN (s.take n) + 1) 1 with
      | ok us => rw [hu] at h1; cases h1
      | err a' b' e' =>
        rw [hu] at h1
        cases h1
        obtain ⟨k, hk, hq, -⟩ := lexF_err _ t (Nat.le_refl _) _ _ _ _ _ hu
        have h2 := pos_nl (t.take k) (1 + nlN (s.take n) + 1) 1
        rw [hq] at h2
        have h3 := pos_nl (s.take j) 1 1
        rw [hp] at h3
        have h4 : nlN (s.take n) = nlN (s.take j) + nlN ((s.take n).drop j) := by
          rw [← nl_app]
          have : s.take j = (s.take n).take j := by rw [List.take_take, Nat.min_eq_left hjn]
          rw [this, List.take_append_drop]
        have h5 : a = 1 + (nlN (s.take n) : Int) + 1 + nlN (t.take k) := h2
        have h6 : a = 1 + (nlN (s.take j) : Int) := h3
        omega
theorem extract_str (s : ByteArray) (n : Nat) : (s.extract 0 n).data.toList = s.data.toList.take n := by
  rw [bstr_extract, bstr_data]
  simp
set_option maxRecDepth 100000 in
set_option maxHeartbeats 4000000 in
theorem lexWrong_any (s : ByteArray) (w : World) (hs : s.size ≤ 9223372036854775807) (hG : Glob w) :
    Calls Tryd.prog 12 #[.string s] w fun e w' => e = .returned (.bool true) ∧ Below w.heap.size w w' := by
  have HA := Lib.hid (awake_any w hG)
  have HG := Lib.hid hG
  clear hG
  by_cases h1 : 3000 < s.size
  · go_enter Tryd.func12, Tryd.ntmps12
    go_wp2_with fail
    go_at_call 14
    refine HA.out.mono ?_
    rintro e1 w1 ⟨rfl, hb1⟩
    go_wp2_with fail
    go_ret
    exact ⟨rfl, hb1⟩
  · have hsm := lexS_small_of s (by omega)
    cases hr : lexS s.data.toList with
    | ok ts =>
      have HL := Lib.hid (fun (w : World) (h : Glob w) => lexOk' hr w h hs)
      rw [hr] at hsm
      have hts : 0 < ts.length := List.length_pos_iff.2 (lexF_ne hsm.symm)
      clear hr hsm
      go_enter Tryd.func12, Tryd.ntmps12
      go_wp2_with fail
      go_at_call 14
      refine HA.out.mono ?_
      rintro e1 w1 ⟨rfl, hb1⟩
      have HG1 := Lib.hid (HG.out.next hb1)
      go_wp2_with fail
      go_at_call 22
      refine (HL.out w1 HG1.out).mono ?_
      rintro e2 w2 ⟨⟨v2, rfl, hT2⟩, hb2⟩
      obtain ⟨a2, cap2, rfl, hc1, hc2⟩ := Sl.form hT2
      have Hb2 := Lib.hid (hb1.trans (hb2.mono hb1.size))
      clear hT2 hb2 hb1
      go_wp2_with fail
      go_ret
      exact ⟨rfl, Hb2.out⟩
    | err a b c =>
      rw [hr] at hsm
      have hsm := hsm.symm
      obtain ⟨j, hj, hp, ts, hts⟩ := lexF_err _ _ (Nat.le_refl _) _ _ _ _ _ hsm
      rw [str_len] at hj
      have hc : c = 110 ∨ c = 111 ∨ c = 112 := lexF_code _ _ (Nat.le_refl _) _ _ _ _ _ hsm
      have HL : Hid (∀ (w : World) (h : Glob w), _) := Lib.hid (fun (w : World) (h : Glob w) => lexNo' hr w h hs)
      have HPl : Hid (∀ (k : Nat) (w : World) (_ : k ≤ s.size), Calls Tryd.prog 15 #[.string s, .int .i64 k] w fun e w' => e = .returned (.tuple #[.int .i64 (plS s.data.toList k).1, .int .i64 (plS s.data.toList k).2]) ∧ Below w.heap.size w w') := Lib.hid (fun (k : Nat) (w : World) (hk : k ≤ s.size) => by
        have := place_any s k w (by omega)
        rw [place_at s k hk] at this
        exact this)
      have hpj : plS s.data.toList j = (a, b) := hp
      have HL2 : Hid (∀ (w : World) (h : Glob w), Calls Tryd.prog 22 #[.string (s.extract 0 j)] w fun e w' => (∃ v, e = .returned (.tuple #[v, .int .i64 0, .int .i64 0, .int .i64 0]) ∧ Toks w' ts v) ∧ Below w.heap.size w w') := Lib.hid (fun (w : World) (h : Glob w) => by
        have he := extract_str s j
        have hz : (s.extract 0 j).size = j := by rw [← str_len, he, List.length_take, str_len]; omega
        have h0 := lexS_small_of (s.extract 0 j) (by omega)
        rw [he, hts, ← he] at h0
        exact lexOk' h0 w h (by omega))
      have HL3 : Hid (∀ (n : Nat) (_ : j ≤ n) (_ : n ≤ s.size) (_ : n = s.size ∨ ∃ h : n < s.size, s[n].toNat = 10) (w : World) (h : Glob w), Calls Tryd.prog 22 #[.string (s.extract 0 n)] w fun e w' => (∃ v, e = .returned (.tuple #[v, .int .i64 a, .int .i64 b, .int .i64 c]) ∧ Toks w' [] v) ∧ Below w.heap.size w w') := Lib.hid (fun n h1 h2 h3 w h => by
        have he := extract_str s n
        have hz : (s.extract 0 n).size = n := by rw [← str_len, he, List.length_take, str_len]; omega
        have h0 := lexS_small_of (s.extract 0 n) (by omega)
        have hcut := err_cut hsm hp h1 (by
          rcases h3 with rfl | ⟨h3, h4⟩
          · exact .inl (by rw [str_len])
          · refine .inr ⟨s.data.toList.drop (n + 1), ?_⟩
            have hd := drop_get s h3
            have : s[n] = 10 := UInt8.toNat_inj.1 h4
            rw [this] at hd
            rw [← hd, List.take_append_drop])
        rw [he, hcut, ← he] at h0
        exact lexNo' h0 w h (by omega))
      have Hne : Hid (∀ k, k < j → plS s.data.toList k ≠ (a, b)) := Lib.hid (fun k hk => by rw [← hpj]; exact plS_ne _ hk (by rw [str_len]; omega))
      have Hpj := Lib.hid hpj
      clear hr hsm hp hts hpj
      go_enter Tryd.func12, Tryd.ntmps12
      go_wp2_with fail
      go_at_call 14
      refine HA.out.mono ?_
      rintro e1 w1 ⟨rfl, hb1⟩
      have HG1 := Lib.hid (HG.out.next hb1)
      have Hb1 := Lib.hid hb1
      clear hb1
      go_wp2_with fail
      go_at_call 22
      refine (HL.out w1 HG1.out).mono ?_
      rintro e2 w2 ⟨⟨v2, rfl, hT2⟩, hb2⟩
      obtain ⟨a2, cap2, rfl, hc1, hc2⟩ := Sl.form hT2
      have Hb2 := Lib.hid (Hb1.out.trans (hb2.mono Hb1.out.size))
      have HG2 := Lib.hid (HG1.out.next hb2)
      simp only [List.length_nil] at hc1
      clear hT2 hb2
      rcases hc with rfl | rfl | rfl
      all_goals
        go_wp2_with fail
        go_loopw [7, 8, 9, 59, 60, 61, 62, 63, 64, 65, 66, 67, 68, 69, 70, 71, 72, 73, 74, 75, 76, 77, 78] (fun t7 _ _ _ _ _ _ _ _ _ _ _ _ _ _ _ _ _ _ _ _ _ _ wr => ∃ k : Nat, k ≤ j ∧ t7 = .int .i64 k ∧ Hid (Below w2.heap.size w2 wr)) (fun t7 _ _ _ _ _ _ _ _ _ _ _ _ _ _ _ _ _ _ _ _ _ _ _ => j - (intOf t7).toNat)
        case atStart => exact ⟨0, by omega, rfl, Lib.hid (Below.refl _ _)⟩
        case round =>
          obtain ⟨k, hk, rfl, Hb⟩ := hrel
          have hks : k < s.size := by omega
          by_cases hkj : k = j
          · subst hkj
            have HPl1 : Hid (∀ w : World, _) := Lib.hid (fun w : World => HPl.out k w (by omega))
            rw [Hpj.out] at HPl1
            go_wp2_with fail
            go_at_call 15
            refine (HPl1.out _).mono ?_
            rintro e3 w3 ⟨rfl, hb3⟩
            have Hb3 := Lib.hid (Hb.out.trans (hb3.mono Hb.out.size))
            have HG3 := Lib.hid (HG2.out.below Hb3.out HG2.out.size)
            clear hb3
            go_wp2_with fail
            have hkf : ((k : Int) == (s.size : Int)) = false := by rw [beq_eq_false_iff_ne]; omega
            go_loopw [10, 80, 81, 82, 83, 84, 85, 86, 87, 88, 89, 90, 91] (fun t10 _ _ _ _ _ _ _ _ _ _ _ _ wr => ∃ m : Nat, k ≤ m ∧ m ≤ s.size ∧ t10 = .int .i64 m ∧ w3 = wr) (fun t10 _ _ _ _ _ _ _ _ _ _ _ _ _ => s.size - (intOf t10).toNat)
            case atStart => exact ⟨k, Nat.le_refl _, by omega, rfl, by first | trivial | rfl⟩
            case round =>
              obtain ⟨m, hm1, hm2, rfl, rfl⟩ := hrel
              by_cases hlm : m < s.size
              · have HL3a : Hid (s[m].toNat = 10 → _) := Lib.hid (fun he => HL3.out m hm1 hm2 (.inr ⟨hlm, he⟩))
                obtain ⟨B, hB⟩ : ∃ B, s[m] = B := ⟨_, rfl⟩
                rw [hB] at HL3a
                have hbl : B.toNat < 256 := B.toNat_lt
                by_cases h10 : B.toNat = 10
                · have hq : ((B.toNat : Int) != 10) = false := by rw [bne_eq_false_iff_eq]; omega
                  replace HL3a := Lib.hid (HL3a.out h10)
                  clear h10
                  go_wp2_with fail
                  go_at_call 22
                  refine (HL2.out w3 HG3.out).mono ?_
                  rintro e4 w4 ⟨⟨v4, rfl, hT4⟩, hb4⟩
                  have HG4 := Lib.hid (HG3.out.next hb4)
                  have Hb4 := Lib.hid (Hb3.out.trans (hb4.mono Hb3.out.size))
                  clear hT4 hb4
                  go_wp2_with fail
                  go_at_call 22
                  refine (HL3a.out w4 HG4.out).mono ?_
                  rintro e5 w5 ⟨⟨v5, rfl, hT5⟩, hb5⟩
                  have Hb5 := Lib.hid (Hb2.out.trans ((Hb4.out.trans (hb5.mono Hb4.out.size)).mono Hb2.out.size))
                  clear hT5 hb5
                  go_wp2_with fail
                  go_ret
                  exact ⟨rfl, Hb5.out⟩
                · have hq : ((B.toNat : Int) != 10) = true := by rw [bne_iff_ne]; omega
                  clear h10
                  go_wp2_with fail
                  go_roundw
                  case rel => exact ⟨m + 1, by omega, by omega, by go_num, by first | trivial | rfl⟩
                  case measure => simp [intOf]; omega
              · obtain rfl : m = s.size := by omega
                have HL3a := HL
                go_wp2_with fail
                go_at_call 22
                refine (HL2.out w3 HG3.out).mono ?_
                rintro e4 w4 ⟨⟨v4, rfl, hT4⟩, hb4⟩
                have HG4 := Lib.hid (HG3.out.next hb4)
                have Hb4 := Lib.hid (Hb3.out.trans (hb4.mono Hb3.out.size))
                clear hT4 hb4
                go_wp2_with fail
                go_at_call 22
                refine (HL3a.out w4 HG4.out).mono ?_
                rintro e5 w5 ⟨⟨v5, rfl, hT5⟩, hb5⟩
                have Hb5 := Lib.hid (Hb2.out.trans ((Hb4.out.trans (hb5.mono Hb4.out.size)).mono Hb2.out.size))
                clear hT5 hb5
                go_wp2_with fail
                go_ret
                exact ⟨rfl, Hb5.out⟩
          · have hne := Hne.out k (by omega)
            have HPl1 : Hid (∀ w : World, _) := Lib.hid (fun w : World => HPl.out k w (by omega))
            generalize plS s.data.toList k = p at *
            obtain ⟨L, C⟩ := p
            by_cases hL : L = a
            · have hC : (C == b) = false := by
                rw [beq_eq_false_iff_ne]
                intro e
                exact hne (by rw [hL, e])
              subst hL
              clear hne
              go_wp2_with fail
              go_at_call 15
              refine (HPl1.out _).mono ?_
              rintro e3 w3 ⟨rfl, hb3⟩
              have Hb3 := Lib.hid (Hb.out.trans (hb3.mono Hb.out.size))
              clear hb3
              go_wp2_with fail
              go_roundw
              case rel => exact ⟨k + 1, by omega, by go_num, Hb3⟩
              case measure => simp [intOf]; omega
            · have hL2 : (L == a) = false := by rw [beq_eq_false_iff_ne]; exact hL
              clear hne hL
              go_wp2_with fail
              go_at_call 15
              refine (HPl1.out _).mono ?_
              rintro e3 w3 ⟨rfl, hb3⟩
              have Hb3 := Lib.hid (Hb.out.trans (hb3.mono Hb.out.size))
              clear hb3
              go_wp2_with fail
              go_roundw
              case rel => exact ⟨k + 1, by omega, by go_num, Hb3⟩
              case measure => simp [intOf]; omega
end Go.Proofs.YtcichbdkdbnmiaaDoor
