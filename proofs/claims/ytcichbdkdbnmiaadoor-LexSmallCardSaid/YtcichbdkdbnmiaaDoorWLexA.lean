/- marcheslaw11.LexTells, LexPlaces, walked. -/
import Derived.Test.YtcichbdkdbnmiaaDoorPAwake
import Derived.Test.YtcichbdkdbnmiaaDoorRJoin
namespace Go.Proofs.YtcichbdkdbnmiaaDoor
open Go.RowKit

set_option maxRecDepth 100000 in
theorem lexTells_any (s : ByteArray) (w : World) (hs : s.size ≤ 9223372036854775807) (hG : Glob w) :
    Calls Tryd.prog 3 #[.string s] w fun e w' => e = .returned (.bool true) ∧ Below w.heap.size w w' := by
  have HL := Lib.hid (lexes_any s w hs hG)
  have HA : Hid (∀ w, Glob w → _) := Lib.hid (fun (w : World) (h : Glob w) => awake_any w h)
  have HG := Lib.hid hG
  clear hG
  by_cases h1 : 3000 < s.size ∧ s.size ≤ 16384
  · obtain ⟨h1, h2⟩ := h1
    go_enter Tryd.func3, Tryd.ntmps3
    go_wp2_with fail
    go_at_call 14
    refine (HA.out w HG.out).mono ?_
    rintro e1 w1 ⟨rfl, hb1⟩
    go_wp2_with fail
    go_ret
    exact ⟨rfl, hb1⟩
  · have h2 : (s.size : Int) > 3000 → ¬ (s.size : Int) ≤ 16384 := by omega
    go_enter Tryd.func3, Tryd.ntmps3
    go_wp2_with fail
    all_goals
      go_at_call 13
      refine HL.out.mono ?_
      rintro e1 w1 ⟨rfl, hb1⟩
      go_wp2_with fail
      go_at_call 14
      refine (HA.out w1 (HG.out.next hb1)).mono ?_
      rintro e2 w2 ⟨rfl, hb2⟩
      have Hb2 := Lib.hid (hb1.trans (hb2.mono hb1.size))
      go_wp2_with fail
      go_ret
      exact ⟨rfl, Hb2.out⟩
set_option maxRecDepth 100000 in
theorem lexPlaces_any (s : ByteArray) (a : Int) (w : World) (ha1 : -9223372036854775808 ≤ a) (ha2 : a ≤ 9223372036854775807) (hG : Glob w) :
    Calls Tryd.prog 4 #[.string s, .int .i64 a] w fun e w' => e = .returned (.bool true) ∧ Below w.heap.size w w' := by
  have HA : Hid (∀ w, Glob w → _) := Lib.hid (fun (w : World) (h : Glob w) => awake_any w h)
  have HG := Lib.hid hG
  clear hG
  by_cases h1 : 3000 < s.size
  · go_enter Tryd.func4, Tryd.ntmps4
    go_wp2_with fail
    go_at_call 14
    refine (HA.out w HG.out).mono ?_
    rintro e1 w1 ⟨rfl, hb1⟩
    go_wp2_with fail
    go_ret
    exact ⟨rfl, hb1⟩
  · have HP1 := Lib.hid (place_any s a w (by omega))
    have HP2 : Hid (∀ w : World, _) := Lib.hid (fun w : World => refPlace_any s a w (by omega) ha1 ha2)
    have HW1 : Hid (∀ w : World, _) := Lib.hid (fun w : World => pword_any s w)
    have HW2 : Hid (∀ w : World, Calls Tryd.prog 18 #[.string s] w fun e w' => e = .returned (.bool (wordS s.data.toList)) ∧ w = w') := Lib.hid (fun w : World => word_any s w)
    generalize (placeS2 s.data.toList a).1 = L at *
    generalize (placeS2 s.data.toList a).2 = C at *
    generalize wordS s.data.toList = q at *
    go_enter Tryd.func4, Tryd.ntmps4
    go_wp2_with fail
    go_at_call 15
    refine HP1.out.mono ?_
    rintro e1 w1 ⟨rfl, hb1⟩
    have Hb1 := Lib.hid hb1
    clear hb1
    go_wp2_with fail
    go_at_call 16
    refine (HP2.out w1).mono ?_
    rintro e2 w2 ⟨rfl, rfl⟩
    go_wp2_with fail
    go_at_call 17
    refine (HW1.out w1).mono ?_
    rintro e2 w2 ⟨rfl, rfl⟩
    go_wp2_with fail
    go_at_call 18
    refine (HW2.out w1).mono ?_
    rintro e2 w2 ⟨rfl, rfl⟩
    go_wp2_with fail
    go_at_call 14
    refine (HA.out w1 (HG.out.next Hb1.out)).mono ?_
    rintro e2 w2 ⟨rfl, hb2⟩
    have Hb2 := Lib.hid (Hb1.out.trans (hb2.mono Hb1.out.size))
    clear hb2
    go_wp2_with fail
    go_ret
    exact ⟨rfl, Hb2.out⟩
end Go.Proofs.YtcichbdkdbnmiaaDoor
