/- marcheslaw12.ParseTokens, walked. -/
import Derived.Test.YtoaojdobjinhfaaGreatDoorSameMY
import Derived.Test.YtoaojdobjinhfaaGreatDoorWPAnsY
import Derived.Test.YtoaojdobjinhfaaGreatDoorJoinMY
set_option linter.unusedSimpArgs false
set_option linter.unusedVariables false
namespace Go.Proofs.YtoaojdobjinhfaaGreatDoor
open Go.RowKit

set_option maxRecDepth 100000 in
set_option maxHeartbeats 2000000 in
theorem parseTokens_any (s : ByteArray) (w : World) (hG : Glob w) : Calls Tryz.prog 13 #[.string s] w (YesE w) := by
  have hgs := hG.size
  have HA := Lib.hid (pawake_any hG)
  have HG : Hid (∀ W, Below w.heap.size w W → Glob W) := Lib.hid (fun W hb => hG.below hb hgs)
  by_cases hlen : 3000 < s.size
  · have h1 : (s.size : Int) > 3000 := by omega
    clear hG
    go_enter Tryz.func13, Tryz.ntmps13
    go_wp2_with fail
    go_at_call 15
    refine HA.out.mono ?_
    rintro e1 w1 ⟨rfl, hb1⟩
    have Hb1 := Lib.hid hb1
    clear hb1
    go_wp2_with fail
    exact bodyPost_ret (v := .bool true) (by simp [results, Tryz.results13, go_sem]) rfl ⟨rfl, Hb1.out⟩
  have h1 : ¬ (s.size : Int) > 3000 := by omega
  obtain ⟨a, b, hP⟩ := parse_core s (by omega)
  have HP := Lib.hid (fun W (hb : Below w.heap.size w W) => hP W (hG.below hb hgs))
  have HL := Lib.hid (fun W (hb : Below w.heap.size w W) => lex_any s W (by omega) (hG.below hb hgs))
  have hsl : s.data.toList.length ≤ 8192 := by rw [str_len]; omega
  cases hlx : lexS s.data.toList with
  | err la lb lc =>
    have hlc : ¬ (lc = 0) := lexS_code hlx
    rw [hlx] at HL
    rw [core_bad hlx] at HP
    unfold PAns at HP
    unfold LexE at HL
    simp only [] at HP HL
    clear hG hP hlen hlx
    go_enter Tryz.func13, Tryz.ntmps13
    go_wp2_with fail
    go_at_call 15
    refine HA.out.mono ?_
    rintro e1 w1 ⟨rfl, hb1⟩
    have Hb1 := Lib.hid hb1
    clear hb1
    go_wp2_with fail
    go_at_call 31
    refine (HP.out _ Hb1.out).mono ?_
    rintro e2 w2 ⟨⟨p, cp, rfl, -⟩, hb2⟩
    have Hb2 := Lib.hid (Hb1.out.trans (hb2.mono Hb1.out.size))
    clear hb2 HP
    go_wp2_with fail
    go_at_call 36
    refine (HL.out _ Hb2.out).mono ?_
    rintro e3 w3 ⟨rfl, hb3⟩
    have Hb3 := Lib.hid (Hb2.out.trans (hb3.mono Hb2.out.size))
    clear hb3 HL
    go_wp2_with fail
    exact bodyPost_ret (v := .bool true) (by simp [results, Tryz.results13, go_sem]) rfl ⟨rfl, Hb3.out⟩
  | ok ts =>
    obtain ⟨hj, hcore⟩ := parse_join hlx hsl
    have hts := lexS_len hlx
    obtain ⟨a2, b2, hP2⟩ := parse_core (bstr (joinS ts)) (by rw [bstr_size]; omega)
    rw [show (bstr (joinS ts)).data.toList = joinS ts by simp [bstr], hcore] at hP2
    have HP2 := Lib.hid (fun W (hb : Below w.heap.size w W) => hP2 W (hG.below hb hgs))
    have HJ : Hid (∀ (W : World) (v : Value), Toks W ts v → Calls Tryz.prog 38 #[v] W _) := Lib.hid (fun W v hT => join_any ts v W hT (by omega) (by omega))
    rw [hlx] at HL
    generalize (parseS s.data.toList).core.1 = xs at *
    generalize (parseS s.data.toList).core.2 = c at *
    generalize bstr (joinS ts) = S at *
    unfold PAns at HP HP2
    unfold LexE at HL
    simp only [] at HL
    clear hG hP hlen hlx hP2 hcore hj
    go_enter Tryz.func13, Tryz.ntmps13
    go_wp2_with fail
    go_at_call 15
    refine HA.out.mono ?_
    rintro e1 w1 ⟨rfl, hb1⟩
    have Hb1 := Lib.hid hb1
    clear hb1
    go_wp2_with fail
    go_at_call 31
    refine (HP.out _ Hb1.out).mono ?_
    rintro e2 w2 ⟨⟨p, cp, rfl, hL⟩, hb2⟩
    have Hb2 := Lib.hid (Hb1.out.trans (hb2.mono Hb1.out.size))
    have HL2 : Hid (∀ W, Below w2.heap.size w2 W → SsL W w2.heap.size xs (.slice p xs.length cp)) := Lib.hid (fun W hb => hL.low hb)
    clear hb2 HP hL
    go_wp2_with fail
    go_at_call 36
    refine (HL.out _ Hb2.out).mono ?_
    rintro e3 w3 ⟨⟨r, rfl, hT⟩, hb3⟩
    have HJ3 := Lib.hid (HJ.out _ _ hT)
    obtain ⟨ta, tc, rfl, -, -⟩ := Sl.form hT
    have Hc3 := Lib.hid hb3
    have Hb3 := Lib.hid (Hb2.out.trans (hb3.mono Hb2.out.size))
    clear hb3 HL hT HJ
    go_wp2_with fail
    go_at_call 38
    refine HJ3.out.mono ?_
    rintro e4 w4 ⟨rfl, hb4⟩
    have Hc4 := Lib.hid (Hc3.out.trans (hb4.mono Hc3.out.size))
    have Hb4 := Lib.hid (Hb3.out.trans (hb4.mono Hb3.out.size))
    clear hb4
    go_wp2_with fail
    go_at_call 31
    refine (HP2.out _ Hb4.out).mono ?_
    rintro e5 w5 ⟨⟨p5, cp5, rfl, hM⟩, hb5⟩
    have Hc5 := Lib.hid (Hc4.out.trans (hb5.mono Hc4.out.size))
    have Hb5 := Lib.hid (Hb4.out.trans (hb5.mono Hb4.out.size))
    have HS := Lib.hid (sameSs_any (szSs xs + 1) xs _ _ w5 w5.heap.size (by omega) ((HL2.out _ Hc5.out).mono Hc5.out.size) hM (Nat.le_refl _))
    clear hb5 hM
    go_wp2_with fail
    go_at_call 32
    refine HS.out.mono ?_
    rintro e6 w6 ⟨rfl, hb6⟩
    have Hb6 := Lib.hid (Hb5.out.trans (hb6.mono Hb5.out.size))
    clear hb6
    go_wp2_with fail
    exact bodyPost_ret (v := .bool true) (by simp [results, Tryz.results13, go_sem]) rfl ⟨rfl, Hb6.out⟩
end Go.Proofs.YtoaojdobjinhfaaGreatDoor
