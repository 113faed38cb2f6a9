/- The laws' own 'lexes': both lexers and both joiners agree on every string. -/
import Derived.Test.YtcichbdkdbnmiaaDoorPGiven
namespace Go.Proofs.YtcichbdkdbnmiaaDoor
open Go.RowKit

/-- what is returned, whether it lexes or not -/
def LexR.toks : LexR → List Tok
  | .ok l => l
  | .err _ _ _ => []
def LexR.line : LexR → Int
  | .ok _ => 0
  | .err a _ _ => a
def LexR.col : LexR → Int
  | .ok _ => 0
  | .err _ b _ => b
def LexR.code : LexR → Int
  | .ok _ => 0
  | .err _ _ c => c
theorem LexE.form {w : World} {e : Ending} {r : LexR} (h : LexE w e r) : ∃ v, e = .returned (.tuple #[v, .int .i64 r.line, .int .i64 r.col, .int .i64 r.code]) ∧ Toks w r.toks v := by
  cases r with
  | ok l => obtain ⟨v, h1, h2⟩ := h; exact ⟨v, h1, h2⟩
  | err a b c => exact ⟨_, h, none, 0, rfl, Nat.le_refl _, by decide, rfl, fun h => (Nat.lt_irrefl _ h).elim⟩
theorem lexS_small (bs : List UInt8) : (lexS bs).toks.length ≤ 20000 ∧ (joinS (lexS bs).toks).length ≤ 40000 := by
  cases h : lexS bs with
  | ok l =>
    have := lexS_size h
    show l.length ≤ 20000 ∧ (joinS l).length ≤ 40000
    omega
  | err a b c => exact ⟨Nat.zero_le _, by show ([] : List UInt8).length ≤ _; simp⟩
theorem lexV (s : ByteArray) (w : World) (hs : s.size ≤ 9223372036854775807) (hG : Glob w) :
    Calls Tryd.prog 22 #[.string s] w fun e w' => (∃ v, e = .returned (.tuple #[v, .int .i64 (lexS s.data.toList).line, .int .i64 (lexS s.data.toList).col, .int .i64 (lexS s.data.toList).code]) ∧ Toks w' (lexS s.data.toList).toks v) ∧ Below w.heap.size w w' :=
  (lex_any s w hs hG).mono fun _ _ h => ⟨h.1.form, h.2⟩
theorem refLexV (s : ByteArray) (w : World) (hs : s.size ≤ 9223372036854775807) :
    Calls Tryd.prog 27 #[.string s] w fun e w' => (∃ v, e = .returned (.tuple #[v, .int .i64 (lexS s.data.toList).line, .int .i64 (lexS s.data.toList).col, .int .i64 (lexS s.data.toList).code]) ∧ Toks w' (lexS s.data.toList).toks v) ∧ Below w.heap.size w w' :=
  (refLex_any s w hs).mono fun _ _ h => ⟨h.1.form, h.2⟩
theorem Toks.below {w w' : World} {l : List Tok} {v : Value} (h : Toks w l v) (hb : Below w.heap.size w w') : Toks w' l v := Sl.below (by omega) h hb (Nat.le_refl _)
set_option maxRecDepth 100000 in
set_option maxHeartbeats 1000000 in
theorem lexes_any (s : ByteArray) (w : World) (hs : s.size ≤ 9223372036854775807) (hG : Glob w) :
    Calls Tryd.prog 13 #[.string s] w fun e w' => e = .returned (.bool true) ∧ Below w.heap.size w w' := by
  have H1 := Lib.hid (lexV s w hs hG)
  have H2 : Hid (∀ w1, _) := Lib.hid (fun w1 : World => refLexV s w1 hs)
  obtain ⟨hsm1, hsm2⟩ := lexS_small s.data.toList
  generalize (lexS s.data.toList).toks = ts at *
  generalize (lexS s.data.toList).line = L at *
  generalize (lexS s.data.toList).col = C at *
  generalize (lexS s.data.toList).code = E at *
  clear hs
  go_enter Tryd.func13, Tryd.ntmps13
  go_wp2_with fail
  go_at_call 22
  refine H1.out.mono ?_
  rintro e1 w1 ⟨⟨v1, rfl, hT1⟩, hb1⟩
  have HT1 := Lib.hid hT1
  have Hb1 := Lib.hid hb1
  clear hT1 hb1 H1
  go_wp2_with fail
  go_at_call 27
  refine (H2.out w1).mono ?_
  rintro e2 w2 ⟨⟨v2, rfl, hT2⟩, hb2⟩
  have HT2 := Lib.hid hT2
  have HT1 := Lib.hid (HT1.out.below hb2)
  have Hb2 := Lib.hid (Hb1.out.trans (hb2.mono Hb1.out.size))
  clear hT2 hb2 H2 Hb1
  go_wp2_with fail
  go_at_call 21
  refine (Given_any ts v1 w2 HT1.out (by omega)).mono ?_
  rintro e3 w3 ⟨⟨v3, rfl, hT3⟩, hb3⟩
  have HT3 := Lib.hid hT3
  have HT1 := Lib.hid (HT1.out.below hb3)
  have HT2 := Lib.hid (HT2.out.below hb3)
  have Hb3 := Lib.hid (Hb2.out.trans (hb3.mono Hb2.out.size))
  clear hT3 hb3 Hb2
  obtain ⟨a2, cap2, rfl, hc1, hc2⟩ := Sl.form HT2.out
  obtain ⟨a3, cap3, rfl, hc3, hc4⟩ := Sl.form HT3.out
  go_wp2_with fail
  go_loopw [2, 12, 49, 50, 51, 52, 53, 54, 55, 56, 57, 58, 59, 60, 61, 62, 63] (fun _ t12 _ _ _ _ _ _ _ _ _ _ _ _ _ _ _ wr => ∃ k : Nat, k ≤ ts.length ∧ t12 = .int .i64 k ∧ Hid (∃ nq, wr = w3.drewN nq)) (fun _ t12 _ _ _ _ _ _ _ _ _ _ _ _ _ _ _ _ => ts.length - (intOf t12).toNat)
  case atStart => exact ⟨0, by omega, rfl, Lib.hid ⟨0, rfl⟩⟩
  case round =>
    obtain ⟨k, hk, rfl, Hw⟩ := hrel
    obtain ⟨nq, rfl⟩ := Hw.out
    by_cases hlt : k < ts.length
    · obtain ⟨b, off, rfl, d0, d1, d2, d3, d4⟩ := tok_cells HT2.out hlt
      obtain ⟨b', off', rfl, f0, f1, f2, f3, f4⟩ := tok_cells HT3.out hlt
      obtain ⟨T, hT⟩ : ∃ T, tokAt ts k = T := ⟨_, rfl⟩
      rw [hT] at d0 d1 d2 d3 d4 f0 f1 f2 f3 f4
      clear hT
      go_wp2_with fail
      refine wp_region_seq (DrewOf _) (by kernel_rfl) (by kernel_rfl) (DrewOf.start _) ?_
      repeat
        try simp only [Act.put, List.setIfInBounds_toArray, List.set_cons_succ, List.set_cons_zero]
        apply stepsSeq.cons
        · rintro w' ⟨nq, rfl⟩
          simp only [Act.put, List.setIfInBounds_toArray, List.set_cons_succ, List.set_cons_zero]
          go_wp2_with (fail)
          first | exact ⟨rfl, nq, rfl⟩ | exact ⟨rfl, nq, (World.drewN_drewN _ _ _).symm⟩ | exact ⟨rfl, nq, by simp⟩
      try simp only [Act.put, List.setIfInBounds_toArray, List.set_cons_succ, List.set_cons_zero]
      refine stepsSeq.nil ?_
      rintro w' ⟨nq, rfl⟩
      go_wp2_with fail
      go_roundw
      case rel => exact ⟨k + 1, by omega, by go_num, Lib.hid ⟨_, rfl⟩⟩
      case measure => simp [intOf]; omega
    · obtain rfl : k = ts.length := by omega
      have HJ1 := Lib.hid (join_any ts v1 (w3.drewN nq) HT1.out (by omega) (by omega))
      have HJ2 : Hid (∀ w', Below (w3.drewN nq).heap.size (w3.drewN nq) w' → _) := Lib.hid (fun (w' : World) (hb : Below (w3.drewN nq).heap.size (w3.drewN nq) w') => refJoin_any ts (.slice a2 ts.length cap2) w' (Toks.below (w := w3.drewN nq) HT2.out hb) (by omega) (by omega))
      have Hb4 : Hid (Below w.heap.size w (w3.drewN nq)) := Lib.hid (Hb3.out.trans ⟨rfl, rfl, rfl, Nat.le_refl _, fun _ _ => rfl⟩)
      generalize w3.drewN nq = w4 at *
      go_wp2_with fail
      go_at_call 19
      refine HJ1.out.mono ?_
      rintro e5 w5 ⟨rfl, hb5⟩
      have HJ3 := Lib.hid (HJ2.out w5 hb5)
      have Hb5 := Lib.hid (Hb4.out.trans (hb5.mono Hb4.out.size))
      clear hb5
      go_wp2_with fail
      go_at_call 20
      refine HJ3.out.mono ?_
      rintro e6 w6 ⟨rfl, rfl⟩
      go_wp2_with fail
      go_ret
      exact ⟨rfl, Hb5.out⟩
end Go.Proofs.YtcichbdkdbnmiaaDoor
