/- marcheslaw12.ParseNames, walked. -/
import Derived.Test.YtoaojdobjinhfaaGreatDoorAwMY
import Derived.Test.YtoaojdobjinhfaaGreatDoorRParAY
set_option linter.unusedSimpArgs false
set_option linter.unusedVariables false
namespace Go.Proofs.YtoaojdobjinhfaaGreatDoor
open Go.RowKit

set_option maxRecDepth 100000 in
set_option maxHeartbeats 1000000 in
theorem parseNames_any (s : ByteArray) (w : World) (hG : Glob w) : Calls Tryz.prog 7 #[.string s] w (YesE w) := by
  have hgs := hG.size
  have HAw : Hid (∀ W, Below w.heap.size w W → Calls Tryz.prog 15 #[] W (YesE W)) := Lib.hid (fun W hb => pawake_any (hG.below hb hgs))
  clear hG
  obtain ⟨l, rfl⟩ : ∃ l, s = bstr l := ⟨s.data.toList, by unfold bstr; simp⟩
  by_cases h : 300 < (bstr l).size
  · have h1 : ((bstr l).size : Int) > 300 := by omega
    have HA := Lib.hid (HAw.out w (Below.refl _ _))
    go_enter Tryz.func7, Tryz.ntmps7
    go_wp2_with fail
    go_at_call 15
    refine HA.out.mono ?_
    rintro e1 w1 ⟨rfl, hb1⟩
    have Hb1 := Lib.hid hb1
    clear hb1
    go_wp2_with fail
    exact bodyPost_ret (v := .bool true) (by simp [results, Tryz.results7, go_sem]) rfl ⟨rfl, Hb1.out⟩
  · have h1 : ¬ ((bstr l).size : Int) > 300 := by omega
    have HN : Hid (∀ W : World, _) := Lib.hid (fun W : World => pName_any l W)
    have HN2 : Hid (∀ W : World, _) := Lib.hid (fun W : World => Name_any l W)
    have HK : Hid (∀ W : World, _) := Lib.hid (fun W : World => pKind_any l W)
    have HK2 : Hid (∀ W : World, _) := Lib.hid (fun W : World => Kind_any l W)
    generalize nameS l = q at *
    generalize kindS l = K at *
    generalize bstr l = S at *
    go_enter Tryz.func7, Tryz.ntmps7
    go_wp2_with fail
    go_at_call 21
    refine (HN.out _).mono ?_
    rintro e1 w1 ⟨rfl, hb1⟩
    have Hb1 := Lib.hid hb1
    clear hb1
    go_wp2_with fail
    go_at_call 22
    refine (HN2.out _).mono ?_
    rintro e2 w2 ⟨rfl, hb2⟩
    have Hb2 := Lib.hid (Hb1.out.trans (hb2.mono Hb1.out.size))
    have hq : (q == q) = true := by simp
    clear hb2
    go_wp2_with fail
    go_at_call 23
    refine (HK.out _).mono ?_
    rintro e3 w3 ⟨rfl, hb3⟩
    have Hb3 := Lib.hid (Hb2.out.trans (hb3.mono Hb2.out.size))
    clear hb3
    go_wp2_with fail
    go_at_call 24
    refine (HK2.out _).mono ?_
    rintro e4 w4 ⟨rfl, hb4⟩
    have Hb4 := Lib.hid (Hb3.out.trans (hb4.mono Hb3.out.size))
    have HA := Lib.hid (HAw.out w4 Hb4.out)
    clear hb4
    go_wp2_with fail
    go_at_call 15
    refine HA.out.mono ?_
    rintro e5 w5 ⟨rfl, hb5⟩
    have Hb5 := Lib.hid (Hb4.out.trans (hb5.mono Hb4.out.size))
    clear hb5
    go_wp2_with fail
    exact bodyPost_ret (v := .bool true) (by simp [results, Tryz.results7, go_sem]) rfl ⟨rfl, Hb5.out⟩
end Go.Proofs.YtoaojdobjinhfaaGreatDoor
