/- The program's lexer: number, walked, for a text that begins with a digit. -/
import Derived.Test.YtcichbdkdbnmiaaDoorGlob
import Derived.Test.YtcichbdkdbnmiaaDoorNumM
import Derived.Test.YtcichbdkdbnmiaaDoorRLexB
import Derived.Lib.AtoiErrMem
import Derived.Lib.AppendIntMem
namespace Go.Proofs.YtcichbdkdbnmiaaDoor
open Go.RowKit Go.Sort

def numC : Option Int → Ending
  | none => .returned (.tuple #[.int .i64 0, .int .i64 112])
  | some n => .returned (.tuple #[.int .i64 n, .int .i64 0])
theorem list_eq (s : ByteArray) (l : List UInt8) : (l == s.toList) = decide (l = s.data.toList) := by
  rw [Bool.eq_iff_iff, beq_iff_eq, ByteArray.toList_eq]
  simp
set_option maxRecDepth 100000 in
theorem number_any (s : ByteArray) (w : World) (hG : Glob w) (hs : s.size ≤ 16384) (h0 : 0 < s.size) (hd : digitB s[0] = true) :
    Calls Tryd.prog 42 #[.string s] w fun e w' => e = numC (valueR s.data.toList) ∧ Below w.heap.size w w' := by
  obtain ⟨b, r, hl, hb⟩ : ∃ b r, s.data.toList = b :: r ∧ digitB b = true := by
    have e := str_get s 0 h0
    cases hl : s.data.toList with
    | nil => have := str_len s; rw [hl] at this; simp at this; omega
    | cons b r => exact ⟨b, r, rfl, by simp only [hl, List.getElem_cons_zero] at e; rw [e]; exact hd⟩
  cases hv : valueR s.data.toList with
  | some n =>
    rw [hl] at hv
    obtain ⟨h1, h2, h3, h4⟩ := value_yes hb hv
    rw [← hl] at h1 h2
    have HP := Lib.hid (Tryd.strconv_ParseInt_10_at64_ok s (by omega) n h1 w)
    have HF : Hid (∀ w', Glob w' → Calls Tryd.prog 52 #[.int .i64 n, .int .i64 10] w' fun e w'' => e = .returned (.string ⟨(Lib.itoa n).toArray⟩) ∧ ∃ k os, w'' = grow (w'.drewN k) os) := Lib.hid (fun w' hG' => Tryd.strconv_FormatInt_10 n (by omega) h4 w' hG'.pow)
    have ht : (Lib.itoa n == s.toList) = true := by rw [list_eq, h2]; simp
    have HG := Lib.hid hG
    clear h1 h2 hv hl hb hd h0 hG
    go_enter Tryd.func42, Tryd.ntmps42
    go_wp2_with fail
    go_at_call 51
    refine HP.out.mono ?_
    rintro e1 w1 ⟨rfl, hw⟩
    have Hb : Hid (Below w.heap.size w w1) := Lib.hid (by
      rcases hw with rfl | ⟨t, rfl⟩
      · exact Below.refl _ _
      · exact Lib.bytesWorld_below _ _ _)
    clear hw
    have HG1 := Lib.hid (HG.out.below Hb.out HG.out.size)
    go_wp2_with fail
    go_at_call 52
    refine (HF.out _ HG1.out).mono ?_
    rintro e1 w2 ⟨rfl, k, os, hw⟩
    have Hb2 : Hid (Below w.heap.size w w2) := Lib.hid (by rw [hw]; exact Hb.out.trans (Lib.below_grow _ _ Hb.out.size _ _))
    clear hw
    go_wp2_with fail
    go_ret2
    exact ⟨rfl, Hb2.out⟩
  | none =>
    rw [hl] at hv
    rcases value_no hb hv with h1 | h1 | ⟨v, h1, h2, h3, h4⟩
    · obtain ⟨tp, p, hp⟩ := hG.syn
      rw [← hl] at h1
      have HP := Lib.hid (Tryd.strconv_ParseInt_10_at64_syntax_var s (by omega) h1 tp p w hp)
      clear h1 hp hv hl hb hd h0 hG
      go_enter Tryd.func42, Tryd.ntmps42
      go_wp2_with fail
      go_at_call 51
      refine HP.out.mono ?_
      rintro e1 w1 ⟨N, rfl, _, _, hb⟩
      have Hb := Lib.hid hb
      clear hb
      go_wp2_with fail
      go_ret2
      exact ⟨rfl, Hb.out⟩
    · obtain ⟨tp, p, hp⟩ := hG.rng
      rw [← hl] at h1
      have HP := Lib.hid (Tryd.strconv_ParseInt_10_at64_range_var s (by omega) h1 tp p w hp)
      clear h1 hp hv hl hb hd h0 hG
      go_enter Tryd.func42, Tryd.ntmps42
      go_wp2_with fail
      go_at_call 51
      refine HP.out.mono ?_
      rintro e1 w1 ⟨N, rfl, _, _, hb⟩
      have Hb := Lib.hid hb
      clear hb
      go_wp2_with fail
      go_ret2
      exact ⟨rfl, Hb.out⟩
    · rw [← hl] at h1 h4
      have HP := Lib.hid (Tryd.strconv_ParseInt_10_at64_ok s (by omega) v h1 w)
      have HF : Hid (∀ w', Glob w' → Calls Tryd.prog 52 #[.int .i64 v, .int .i64 10] w' fun e w'' => e = .returned (.string ⟨(Lib.itoa v).toArray⟩) ∧ ∃ k os, w'' = grow (w'.drewN k) os) := Lib.hid (fun w' hG' => Tryd.strconv_FormatInt_10 v (by omega) h3 w' hG'.pow)
      have ht : (Lib.itoa v == s.toList) = false := by rw [list_eq]; simp [h4]
      have HG := Lib.hid hG
      clear h1 h4 hv hl hb hd h0 hG
      go_enter Tryd.func42, Tryd.ntmps42
      go_wp2_with fail
      go_at_call 51
      refine HP.out.mono ?_
      rintro e1 w1 ⟨rfl, hw⟩
      have Hb : Hid (Below w.heap.size w w1) := Lib.hid (by
        rcases hw with rfl | ⟨t, rfl⟩
        · exact Below.refl _ _
        · exact Lib.bytesWorld_below _ _ _)
      clear hw
      have HG1 := Lib.hid (HG.out.below Hb.out HG.out.size)
      go_wp2_with fail
      go_at_call 52
      refine (HF.out _ HG1.out).mono ?_
      rintro e1 w2 ⟨rfl, k, os, hw⟩
      have Hb2 : Hid (Below w.heap.size w w2) := Lib.hid (by rw [hw]; exact Hb.out.trans (Lib.below_grow _ _ Hb.out.size _ _))
      clear hw
      go_wp2_with fail
      go_ret2
      exact ⟨rfl, Hb2.out⟩
end Go.Proofs.YtcichbdkdbnmiaaDoor
