/- marcheslaw11.LexJoined, walked. -/
import Derived.Test.YtcichbdkdbnmiaaDoorPAwake
namespace Go.Proofs.YtcichbdkdbnmiaaDoor
open Go.RowKit

theorem bare_at {ts ms : List Tok} (h : ms.map Tok.bare = ts.map Tok.bare) {k : Nat} (hk : k < ts.length) : (tokAt ms k).kind = (tokAt ts k).kind ∧ (tokAt ms k).text = (tokAt ts k).text ∧ (tokAt ms k).n = (tokAt ts k).n := by
  have hl : ms.length = ts.length := by simpa using congrArg List.length h
  rw [tokAt_eq hk, tokAt_eq (by omega)]
  have h1 : (ms.map Tok.bare)[k]? = (ts.map Tok.bare)[k]? := by rw [h]
  rw [List.getElem?_map, List.getElem?_map, List.getElem?_eq_getElem hk, List.getElem?_eq_getElem (by omega)] at h1
  simp only [Option.map_some, Option.some.injEq, Tok.bare, Prod.mk.injEq] at h1
  exact ⟨h1.1, h1.2.1, h1.2.2⟩
theorem lexS_of {bs : List UInt8} (h : bs.length ≤ 16384) : lexS bs = lexF bs 1 1 := by rw [lexS_eq, if_neg (by omega)]
set_option maxRecDepth 100000 in
set_option maxHeartbeats 1000000 in
theorem lexJoined_any (s : ByteArray) (w : World) (hs : s.size ≤ 9223372036854775807) (hG : Glob w) :
    Calls Tryd.prog 7 #[.string s] w fun e w' => e = .returned (.bool true) ∧ Below w.heap.size w w' := by
  have HA := Lib.hid (awake_any w hG)
  have HG := Lib.hid hG
  clear hG
  by_cases h1 : 3000 < s.size
  · go_enter Tryd.func7, Tryd.ntmps7
    go_wp2_with fail
    go_at_call 14
    refine HA.out.mono ?_
    rintro e1 w1 ⟨rfl, hb1⟩
    go_wp2_with fail
    go_ret
    exact ⟨rfl, hb1⟩
  · cases hr : lexS s.data.toList with
    | err a b c =>
      have hc : c ≠ 0 := by
        rw [lexS_of (by rw [str_len]; omega)] at hr
        have := lexF_code _ _ (Nat.le_refl _) _ _ _ _ _ hr
        omega
      have HL := Lib.hid (fun (w : World) (h : Glob w) => lexNo' hr w h hs)
      clear hr
      go_enter Tryd.func7, Tryd.ntmps7
      go_wp2_with fail
      go_at_call 14
      refine HA.out.mono ?_
      rintro e1 w1 ⟨rfl, hb1⟩
      have HG1 := Lib.hid (HG.out.next hb1)
      go_wp2_with fail
      go_at_call 22
      refine (HL.out w1 HG1.out).mono ?_
      rintro e2 w2 ⟨⟨v2, rfl, hT2⟩, hb2⟩
      obtain ⟨a2, cap2, rfl, hc1, hc2⟩ := Sl.form hT2
      have Hb2 := Lib.hid (hb1.trans (hb2.mono hb1.size))
      clear hT2 hb2 hb1
      go_wp2_with fail
      go_ret
      exact ⟨rfl, Hb2.out⟩
    | ok ts =>
      have hr' := hr
      rw [lexS_of (by rw [str_len]; omega)] at hr'
      obtain ⟨hz1, hz2, -⟩ := lexS_size hr
      rw [str_len] at hz1 hz2
      obtain ⟨ms, hm, hbare, hj⟩ := joined_same hr'
      have hml : ms.length = ts.length := by simpa using congrArg List.length hbare
      rw [← lexS_of (by omega)] at hm
      have HL := Lib.hid (fun (w : World) (h : Glob w) => lexOk' hr w h hs)
      have HM : Hid (∀ (w : World) (h : Glob w), _) := Lib.hid (fun (w : World) (h : Glob w) => lexOk hm w h (by omega))
      have Hbare := Lib.hid hbare
      have Hj := Lib.hid hj
      have hsz : (bstr (joinS ts)).size = (joinS ts).length := by rw [← str_len, bstr_data]
      clear hr hr' hm hbare hj
      go_enter Tryd.func7, Tryd.ntmps7
      go_wp2_with fail
      go_at_call 14
      refine HA.out.mono ?_
      rintro e1 w1 ⟨rfl, hb1⟩
      have HG1 := Lib.hid (HG.out.next hb1)
      have Hb1 := Lib.hid hb1
      clear hb1
      go_wp2_with fail
      go_at_call 22
      refine (HL.out w1 HG1.out).mono ?_
      rintro e2 w2 ⟨⟨v2, rfl, hT2⟩, hb2⟩
      obtain ⟨a2, cap2, rfl, hc1, hc2⟩ := Sl.form hT2
      have HG2 := Lib.hid (HG1.out.next hb2)
      have Hb2 := Lib.hid (Hb1.out.trans (hb2.mono Hb1.out.size))
      have HT2 := Lib.hid hT2
      have HJ1 := Lib.hid (join_any ts _ w2 hT2 (by omega) (by omega))
      clear hT2 hb2
      go_wp2_with fail
      go_at_call 19
      refine HJ1.out.mono ?_
      rintro e3 w3 ⟨rfl, hb3⟩
      have HG3 := Lib.hid (HG2.out.next hb3)
      have Hb3 := Lib.hid (Hb2.out.trans (hb3.mono Hb2.out.size))
      have HT3 := Lib.hid (HT2.out.below hb3)
      clear hb3
      go_wp2_with fail
      go_at_call 22
      refine (HM.out w3 HG3.out).mono ?_
      rintro e4 w4 ⟨⟨v4, rfl, hT4⟩, hb4⟩
      obtain ⟨a4, cap4, e4, hc3, hc4⟩ := Sl.form hT4
      rw [hml] at e4 hc3
      subst e4
      have Hb4 := Lib.hid (Hb3.out.trans (hb4.mono Hb3.out.size))
      have HT4 := Lib.hid (HT3.out.below hb4)
      have HS4 := Lib.hid hT4
      have HJ4 : Hid (Calls Tryd.prog 19 #[.slice a4 ts.length cap4] w4 fun e w' => e = .returned (.string (bstr (joinS ts))) ∧ Below w4.heap.size w4 w') := Lib.hid (by
        have := join_any ms _ w4 hT4 (by omega) (by rw [Hj.out]; omega)
        rw [Hj.out] at this
        exact this)
      clear hT4 hb4
      go_wp2_with fail
      go_at_call 19
      refine HJ4.out.mono ?_
      rintro e5 w5 ⟨rfl, hb5⟩
      have Hb5 := Lib.hid (Hb4.out.trans (hb5.mono Hb4.out.size))
      have HT5 := Lib.hid (HT4.out.below hb5)
      have HS5 := Lib.hid (HS4.out.below hb5)
      clear hb5
      go_wp2_with fail
      go_loopw [2, 12, 59, 60, 61, 62, 63, 64, 65, 66, 67, 68, 69, 70, 71, 72, 73, 74, 75, 76, 77, 78, 79, 80, 81, 82, 83, 84, 85, 86, 87, 88, 89, 90, 91, 92, 93, 94, 95, 96, 97, 98, 99, 100, 101] (fun _ t12 _ _ _ _ _ _ _ _ _ _ _ _ _ _ _ _ _ _ _ _ _ _ _ _ _ _ _ _ _ _ _ _ _ _ _ _ _ _ _ _ _ _ _ wr => ∃ k : Nat, k ≤ ts.length ∧ t12 = .int .i64 k ∧ Hid (∃ nq, wr = w5.drewN nq)) (fun _ t12 _ _ _ _ _ _ _ _ _ _ _ _ _ _ _ _ _ _ _ _ _ _ _ _ _ _ _ _ _ _ _ _ _ _ _ _ _ _ _ _ _ _ _ _ => ts.length - (intOf t12).toNat)
      case atStart => exact ⟨0, by omega, rfl, Lib.hid ⟨0, rfl⟩⟩
      case round =>
        obtain ⟨k, hk, rfl, Hw⟩ := hrel
        obtain ⟨nq, rfl⟩ := Hw.out
        by_cases hlt : k < ts.length
        · obtain ⟨b, off, rfl, d0, d1, d2, d3, d4⟩ := tok_cells HT5.out hlt
          obtain ⟨b', off', rfl, f0, f1, f2, f3, f4⟩ := tok_cells HS5.out (i := k) (by omega)
          obtain ⟨g1, g2, g3⟩ := bare_at Hbare.out hlt
          rw [g1] at f0
          rw [g2] at f1
          rw [g3] at f2
          clear g1 g2 g3 f3 f4 d3 d4
          obtain ⟨T, hT⟩ : ∃ T, tokAt ts k = T := ⟨_, rfl⟩
          rw [hT] at d0 d1 d2 f0 f1 f2
          clear hT
          go_wp2_with fail
          refine wp_region_seq (DrewOf _) (by kernel_rfl) (by kernel_rfl) (DrewOf.start _) ?_
          repeat
            try simp only [Act.put, List.setIfInBounds_toArray, List.set_cons_succ, List.set_cons_zero]
            apply stepsSeq.cons
            · rintro w' ⟨nq, rfl⟩
              simp only [Act.put, List.setIfInBounds_toArray, List.set_cons_succ, List.set_cons_zero]
              go_wp2_with (fail)
              first | exact ⟨rfl, nq, rfl⟩ | exact ⟨rfl, nq, (World.drewN_drewN _ _ _).symm⟩ | exact ⟨rfl, nq, by simp⟩
          try simp only [Act.put, List.setIfInBounds_toArray, List.set_cons_succ, List.set_cons_zero]
          refine stepsSeq.nil ?_
          rintro w' ⟨nq, rfl⟩
          go_wp2_with fail
          go_roundw
          case rel => exact ⟨k + 1, by omega, by go_num, Lib.hid ⟨_, rfl⟩⟩
          case measure => simp [intOf]; omega
        · obtain rfl : k = ts.length := by omega
          go_wp2_with fail
          go_ret
          exact ⟨rfl, Hb5.out.trans ⟨rfl, rfl, rfl, Nat.le_refl _, fun _ _ => rfl⟩⟩
end Go.Proofs.YtcichbdkdbnmiaaDoor
