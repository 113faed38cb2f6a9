/- marcheslaw12.ParseText, walked. -/
import Derived.Test.YtoaojdobjinhfaaGreatDoorWPBackY
import Derived.Test.YtoaojdobjinhfaaGreatDoorWPAnsY
set_option linter.unusedSimpArgs false
set_option linter.unusedVariables false
namespace Go.Proofs.YtoaojdobjinhfaaGreatDoor
open Go.RowKit

theorem text_ans {w : World} {l : List St} {v : Value} (hG : Glob w) (hok : okSs l) (hL : SsL w w.heap.size l v) (hsz : szSs l ≤ 100000000000) : Calls Tryz.prog 29 #[v] w fun e w' => e = .returned (.tuple #[.string (bstr (textS l).1), .int .i64 (textS l).2]) ∧ Below w.heap.size w w' :=
  text_any hG hok hL (Nat.le_refl _) hsz
set_option maxRecDepth 100000 in
set_option maxHeartbeats 2000000 in
theorem parseText_any (s : ByteArray) (w : World) (hG : Glob w) : Calls Tryz.prog 11 #[.string s] w (YesE w) := by
  have hgs := hG.size
  have HA := Lib.hid (pawake_any hG)
  have HG : Hid (∀ W, Below w.heap.size w W → Glob W) := Lib.hid (fun W hb => hG.below hb hgs)
  by_cases hlen : 3000 < s.size
  · have h1 : (s.size : Int) > 3000 := by omega
    clear hG
    go_enter Tryz.func11, Tryz.ntmps11
    go_wp2_with fail
    go_at_call 15
    refine HA.out.mono ?_
    rintro e1 w1 ⟨rfl, hb1⟩
    have Hb1 := Lib.hid hb1
    clear hb1
    go_wp2_with fail
    exact bodyPost_ret (v := .bool true) (by simp [results, Tryz.results11, go_sem]) rfl ⟨rfl, Hb1.out⟩
  have h1 : ¬ (s.size : Int) > 3000 := by omega
  obtain ⟨xs, a, b, c, hcs, hP⟩ := parse_cases s (by omega)
  have HP := Lib.hid (fun W (hb : Below w.heap.size w W) => hP W (hG.below hb hgs))
  unfold PAns at HP
  clear hG hP hlen
  go_enter Tryz.func11, Tryz.ntmps11
  go_wp2_with fail
  go_at_call 15
  refine HA.out.mono ?_
  rintro e1 w1 ⟨rfl, hb1⟩
  have Hb1 := Lib.hid hb1
  clear hb1
  go_wp2_with fail
  go_at_call 31
  refine (HP.out _ Hb1.out).mono ?_
  rintro e2 w2 ⟨⟨p, cp, rfl, hL⟩, hb2⟩
  have Hb2 := Lib.hid (Hb1.out.trans (hb2.mono Hb1.out.size))
  clear hb2 HP
  cases hcs with
  | err a b c h =>
    have hci : ¬ (c = 0) := h
    go_wp2_with fail
    exact bodyPost_ret (v := .bool true) (by simp [results, Tryz.results11, go_sem]) rfl ⟨rfl, Hb2.out⟩
  | ok xs h =>
    obtain ⟨hok, ts, hts, hsz⟩ := parse_ok h
    have hsz2 : szSs xs ≤ 100000000000 := by have := lexS_len hts; omega
    have HL : Hid (∀ W, Below w2.heap.size w2 W → SsL W w2.heap.size xs (.slice p xs.length cp)) := Lib.hid (fun W hb => hL.low hb)
    have HT2 := Lib.hid (text_ans (HG.out _ Hb2.out) hok hL hsz2)
    have HPr : Hid (∀ W, Below w2.heap.size w2 W → Calls Tryz.prog 30 #[.slice p xs.length cp] W _) := Lib.hid (fun W hb => pprintable_any xs _ W w2.heap.size hok (hL.low hb) hb.size)
    have HT3 : Hid (∀ (W : World) (v : Value), Below w.heap.size w W → SsL W W.heap.size xs v → Calls Tryz.prog 29 #[v] W _) := Lib.hid (fun W v hb hv => text_ans (HG.out _ hb) hok hv hsz2)
    have HB : Hid (∀ W, Below w.heap.size w W → rightS 40 xs = true → (linesW [] xs).length ≤ 16384 → Calls Tryz.prog 31 #[.string (bstr (linesW [] xs))] W _) := Lib.hid (fun W hb g1 g2 => parse_text (HG.out _ hb) hok g1 g2)
    have HC := Lib.hid (txc_of xs)
    clear hL h hts hok hsz
    generalize (textS xs).2 = C at *
    generalize bstr (textS xs).1 = S at *
    go_wp2_with fail
    go_at_call 29
    refine HT2.out.mono ?_
    rintro e3 w3 ⟨rfl, hb3⟩
    have Hc3 := Lib.hid hb3
    have Hb3 := Lib.hid (Hb2.out.trans (hb3.mono Hb2.out.size))
    have HP3 := Lib.hid (HPr.out _ hb3)
    clear hb3 HT2
    obtain hc := HC.out
    cases hc with
    | wrong h =>
      rw [h] at HP3
      go_wp2_with fail
      go_at_call 30
      refine HP3.out.mono ?_
      rintro e4 w4 ⟨rfl, hb4⟩
      have Hb4 := Lib.hid (Hb3.out.trans (hb4.mono Hb3.out.size))
      clear hb4
      go_wp2_with fail
      exact bodyPost_ret (v := .bool true) (by simp [results, Tryz.results11, go_sem]) rfl ⟨rfl, Hb4.out⟩
    | long h =>
      go_wp2_with fail
      exact bodyPost_ret (v := .bool true) (by simp [results, Tryz.results11, go_sem]) rfl ⟨rfl, Hb3.out⟩
    | good h hl =>
      have HB3 := Lib.hid (HB.out _ Hb3.out h hl)
      clear HP3
      generalize bstr (linesW [] xs) = S at *
      go_wp2_with fail
      go_at_call 31
      refine HB3.out.mono ?_
      rintro e4 w4 ⟨⟨b4, c4, rfl, hM⟩, hb4⟩
      have Hc4 := Lib.hid (Hc3.out.trans (hb4.mono Hc3.out.size))
      have Hb4 := Lib.hid (Hb3.out.trans (hb4.mono Hb3.out.size))
      have HM := Lib.hid hM
      have HT4 := Lib.hid (HT3.out _ _ Hb4.out hM)
      clear hb4 hM
      go_wp2_with fail
      go_at_call 29
      refine HT4.out.mono ?_
      rintro e5 w5 ⟨rfl, hb5⟩
      have hs5 := hb5.size
      have Hc5 := Lib.hid (Hc4.out.trans (hb5.mono Hc4.out.size))
      have Hb5 := Lib.hid (Hb4.out.trans (hb5.mono Hb4.out.size))
      have HS := Lib.hid (sameSs_any (szSs xs + 1) xs _ _ w5 w5.heap.size (by omega) ((HL.out _ Hc5.out).mono Hc5.out.size) ((HM.out.low hb5).mono hs5) (Nat.le_refl _))
      have hq : (S.toList == S.toList) = true := by simp
      clear hb5
      go_wp2_with fail
      go_at_call 32
      refine HS.out.mono ?_
      rintro e6 w6 ⟨rfl, hb6⟩
      have Hb6 := Lib.hid (Hb5.out.trans (hb6.mono Hb5.out.size))
      clear hb6
      go_wp2_with fail
      exact bodyPost_ret (v := .bool true) (by simp [results, Tryz.results11, go_sem]) rfl ⟨rfl, Hb6.out⟩
end Go.Proofs.YtoaojdobjinhfaaGreatDoor
