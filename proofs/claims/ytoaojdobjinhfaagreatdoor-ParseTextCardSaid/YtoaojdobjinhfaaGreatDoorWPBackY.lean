/- marcheslaw12.ParseBack, walked. -/
import Derived.Test.YtoaojdobjinhfaaGreatDoorAwMY
import Derived.Test.YtoaojdobjinhfaaGreatDoorRParAY
import Derived.Test.YtoaojdobjinhfaaGreatDoorBackSY
import Derived.Test.YtoaojdobjinhfaaGreatDoorTreeZY
set_option linter.unusedSimpArgs false
set_option linter.unusedVariables false
namespace Go.Proofs.YtoaojdobjinhfaaGreatDoor
open Go.RowKit

/-- what Text answers, by its cases -/
inductive TxC (l : List St) : ByteArray → Int → Prop where
  | wrong (h : rightS 40 l = false) : TxC l { data := #[] } 2
  | long (h : rightS 40 l = true) : TxC l { data := #[] } 3
  | good (h : rightS 40 l = true) (hl : (linesW [] l).length ≤ 16384) : TxC l (bstr (linesW [] l)) 0
theorem txc_of (l : List St) : TxC l (bstr (textS l).1) (textS l).2 := by
  have hT : textS l = if rightS 40 l = true then shortW (linesW [] l) else ([], 2) := rfl
  have hsw : (shortW (linesW [] l)) = (if 16384 < (linesW [] l).length then ([], 3) else (linesW [] l, 0)) := rfl
  cases h : rightS 40 l with
  | false => rw [hT, h]; exact .wrong h
  | true =>
    rw [hT, h, if_pos rfl, hsw]
    by_cases h2 : 16384 < (linesW [] l).length
    · rw [if_pos h2]; exact .long h
    · rw [if_neg h2]; exact .good h (by omega)
theorem parse_text {l : List St} {w : World} (hG : Glob w) (hok : okSs l) (h : rightS 40 l = true) (hl : (linesW [] l).length ≤ 16384) :
    Calls Tryz.prog 31 #[.string (bstr (linesW [] l))] w fun e w' => (∃ a cap, e = .returned (.tuple #[.slice a l.length cap, .int .i64 0, .int .i64 0, .int .i64 0]) ∧ SsL w' w'.heap.size l (.slice a l.length cap)) ∧ Below w.heap.size w w' := by
  have H := pparse_any hG (bstr (linesW [] l)) (by rw [bstr_size]; omega)
  rw [show (bstr (linesW [] l)).data.toList = linesW [] l by simp [bstr], text_back h hok hl] at H
  refine H.mono ?_
  rintro e w' ⟨⟨v, rfl, hX⟩, hb⟩
  have hS := ssl_of hX
  obtain ⟨a, cap, rfl, -, -⟩ := hS.form
  exact ⟨⟨a, cap, rfl, hS⟩, hb⟩

set_option maxRecDepth 100000 in
set_option maxHeartbeats 2000000 in
theorem parseBack_any (l : List St) (v : Value) (w : World) (hok : okSs l) (hL : SsL w w.heap.size l v) (hG : Glob w) : Calls Tryz.prog 9 #[v] w (YesE w) := by
  have hgs := hG.size
  have HA := Lib.hid (pawake_any hG)
  obtain ⟨a, cap, rfl, hc1, hc2⟩ := hL.form
  have HL : Hid (∀ W, Below w.heap.size w W → SsL W w.heap.size l (.slice a l.length cap)) := Lib.hid (fun W hb => hL.low hb)
  have HG : Hid (∀ W, Below w.heap.size w W → Glob W) := Lib.hid (fun W hb => hG.below hb hgs)
  have HSz : Hid (∀ W, Below w.heap.size w W → Calls Tryz.prog 17 #[.slice a l.length cap, .int .i64 400] W _) := Lib.hid (fun W hb => size_any (szSs l + 1) l _ W w.heap.size 400 (by omega) hok (hL.low hb) hb.size (by omega) (by omega))
  have HPr : Hid (∀ W, Below w.heap.size w W → Calls Tryz.prog 30 #[.slice a l.length cap] W _) := Lib.hid (fun W hb => pprintable_any l _ W w.heap.size hok (hL.low hb) hb.size)
  have HT : Hid (∀ W, Below w.heap.size w W → szSs l ≤ 400 → Calls Tryz.prog 29 #[.slice a l.length cap] W _) := Lib.hid (fun W hb hz => text_any (hG.below hb hgs) hok (hL.low hb) hb.size (by omega))
  have HC := Lib.hid (txc_of l)
  have HB : Hid (∀ W, Below w.heap.size w W → rightS 40 l = true → (linesW [] l).length ≤ 16384 → Calls Tryz.prog 31 #[.string (bstr (linesW [] l))] W _) := Lib.hid (fun W hb h1 h2 => parse_text (hG.below hb hgs) hok h1 h2)
  unfold TextE at HT
  generalize (textS l).2 = C at *
  generalize bstr (textS l).1 = S at *
  clear hG hL hok
  go_enter Tryz.func9, Tryz.ntmps9
  go_wp2_with fail
  go_at_call 15
  refine HA.out.mono ?_
  rintro e1 w1 ⟨rfl, hb1⟩
  have Hb1 := Lib.hid hb1
  clear hb1
  go_wp2_with fail
  go_at_call 17
  refine (HSz.out _ Hb1.out).mono ?_
  rintro e2 w2 ⟨⟨r, rfl, hr1, hr2, -⟩, hb2⟩
  have Hb2 := Lib.hid (Hb1.out.trans (hb2.mono Hb1.out.size))
  clear hb2
  by_cases hr : (r : Int) > 400
  · go_wp2_with fail
    exact bodyPost_ret (v := .bool true) (by simp [results, Tryz.results9, go_sem]) rfl ⟨rfl, Hb2.out⟩
  · have hz : szSs l ≤ 400 := by have := hr2 (by omega); omega
    go_wp2_with fail
    go_at_call 29
    refine (HT.out _ Hb2.out hz).mono ?_
    rintro e3 w3 ⟨rfl, hb3⟩
    have Hb3 := Lib.hid (Hb2.out.trans (hb3.mono Hb2.out.size))
    have HP3 := Lib.hid (HPr.out _ Hb3.out)
    clear hb3 hr2 HT
    obtain hc := HC.out
    cases hc with
    | wrong h =>
      rw [h] at HP3
      go_wp2_with fail
      go_at_call 30
      refine HP3.out.mono ?_
      rintro e4 w4 ⟨rfl, hb4⟩
      have Hb4 := Lib.hid (Hb3.out.trans (hb4.mono Hb3.out.size))
      clear hb4
      go_wp2_with fail
      exact bodyPost_ret (v := .bool true) (by simp [results, Tryz.results9, go_sem]) rfl ⟨rfl, Hb4.out⟩
    | long h =>
      rw [h] at HP3
      go_wp2_with fail
      go_at_call 30
      refine HP3.out.mono ?_
      rintro e4 w4 ⟨rfl, hb4⟩
      have Hb4 := Lib.hid (Hb3.out.trans (hb4.mono Hb3.out.size))
      clear hb4
      go_wp2_with fail
      exact bodyPost_ret (v := .bool true) (by simp [results, Tryz.results9, go_sem]) rfl ⟨rfl, Hb4.out⟩
    | good h hl =>
      have HB3 := Lib.hid (HB.out _ Hb3.out h hl)
      clear HP3
      generalize bstr (linesW [] l) = S at *
      go_wp2_with fail
      go_at_call 31
      refine HB3.out.mono ?_
      rintro e4 w4 ⟨⟨b, cb, rfl, hM⟩, hb4⟩
      have Hb4 := Lib.hid (Hb3.out.trans (hb4.mono Hb3.out.size))
      have HM := Lib.hid hM
      have HP4 := Lib.hid (HPr.out _ Hb4.out)
      rw [h] at HP4
      clear hb4 hM
      go_wp2_with fail
      go_at_call 30
      refine HP4.out.mono ?_
      rintro e5 w5 ⟨rfl, hb5⟩
      have hs5 := hb5.size
      have Hb5 := Lib.hid (Hb4.out.trans (hb5.mono Hb4.out.size))
      have HS := Lib.hid (sameSs_any (szSs l + 1) l _ _ w5 w5.heap.size (by omega) ((HL.out _ Hb5.out).mono Hb5.out.size) ((HM.out.low hb5).mono hs5) (Nat.le_refl _))
      clear hb5
      go_wp2_with fail
      go_at_call 32
      refine HS.out.mono ?_
      rintro e6 w6 ⟨rfl, hb6⟩
      have Hb6 := Lib.hid (Hb5.out.trans (hb6.mono Hb5.out.size))
      clear hb6
      go_wp2_with fail
      exact bodyPost_ret (v := .bool true) (by simp [results, Tryz.results9, go_sem]) rfl ⟨rfl, Hb6.out⟩
end Go.Proofs.YtoaojdobjinhfaaGreatDoor
