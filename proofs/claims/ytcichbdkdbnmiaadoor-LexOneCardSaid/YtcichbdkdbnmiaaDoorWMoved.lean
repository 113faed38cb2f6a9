/- The laws' own 'moved', walked; slices of slices of tokens. -/
import Derived.Test.YtcichbdkdbnmiaaDoorLinesM
import Derived.Test.YtcichbdkdbnmiaaDoorTokC
namespace Go.Proofs.YtcichbdkdbnmiaaDoor
open Go.RowKit

theorem Toks.front {w : World} {l : List Tok} {a : Option Addr} {n cap : Nat} (h : Toks w l (.slice a n cap)) {k : Nat} (hk : k ≤ l.length) : Toks w (l.take k) (.slice a k cap) := by
  obtain ⟨a', cap', e, h1, h2, h3, h4⟩ := h
  cases e
  have hl : (l.take k).length = k := by rw [List.length_take]; omega
  refine ⟨a, cap, by rw [hl], by omega, h2, by rw [flat_len Tok.cells 5 (fun _ => rfl)], fun hp => ?_⟩
  obtain ⟨b, off, rfl, hc⟩ := h4 (by omega)
  refine ⟨b, off, rfl, fun j hj => ?_⟩
  rw [hl] at hj
  rw [hc j (by omega)]
  have e : l = l.take k ++ l.drop k := (List.take_append_drop k l).symm
  have : l.flatMap Tok.cells = (l.take k).flatMap Tok.cells ++ (l.drop k).flatMap Tok.cells := by rw [← List.flatMap_append, List.take_append_drop]
  rw [this, List.getElem?_append_left]
  rw [flat_len Tok.cells 5 (fun _ => rfl), hl]
  exact hj
theorem Toks.back {w : World} {l : List Tok} {b off n cap : Nat} (h : Toks w l (.slice (some ⟨b, off, none⟩) n cap)) {k : Nat} (hk : k ≤ l.length) : Toks w (l.drop k) (.slice (some ⟨b, off + k * 5, none⟩) (l.length - k) (cap - k)) := by
  obtain ⟨a', cap', e, h1, h2, h3, h4⟩ := h
  cases e
  have hl : (l.drop k).length = l.length - k := List.length_drop
  refine ⟨_, cap - k, by rw [hl], by omega, by omega, by rw [flat_len Tok.cells 5 (fun _ => rfl)], fun hp => ?_⟩
  obtain ⟨b', off', e, hc⟩ := h4 (by omega)
  cases e
  refine ⟨b, off + k * 5, rfl, fun j hj => ?_⟩
  rw [hl] at hj
  rw [Nat.add_assoc, hc (k * 5 + j) (by omega)]
  have : l.flatMap Tok.cells = (l.take k).flatMap Tok.cells ++ (l.drop k).flatMap Tok.cells := by rw [← List.flatMap_append, List.take_append_drop]
  rw [this, List.getElem?_append_right (by rw [flat_len Tok.cells 5 (fun _ => rfl), List.length_take]; omega)]
  congr 1
  rw [flat_len Tok.cells 5 (fun _ => rfl), List.length_take]
  omega
theorem lexF_lines : ∀ (n : Nat) (bs : List UInt8), bs.length ≤ n → ∀ (l c : Int) (ts : List Tok), lexF bs l c = .ok ts → ∀ t ∈ ts, l ≤ t.line ∧ t.line ≤ l + bs.length := by
  intro n
  induction n with
  | zero =>
    intro bs hb l c ts h
    obtain rfl : bs = [] := List.eq_nil_of_length_eq_zero (by omega)
    rw [lexF_nil] at h
    cases h
    intro t ht
    obtain rfl : t = _ := List.mem_singleton.1 ht
    exact ⟨Int.le_refl _, by simp⟩
  | succ n ih =>
    intro bs hb l c ts h t ht
    rw [lexF_eq] at h
    obtain ⟨m, hm, e1, e2⟩ := skip_drop bs false l c
    have hp := pos_nl (bs.take m) l c
    have hpl := posS_le (bs.take m) l c
    rw [e1, e2] at h
    have hnl : ∀ xs : List UInt8, nlN xs ≤ xs.length := by
      intro xs
      induction xs with
      | nil => simp [nlN]
      | cons b r ih => simp only [nlN, List.length_cons]; split <;> omega
    have hn1 := hnl (bs.take m)
    rw [List.length_take] at hn1
    by_cases hne : bs.drop m = []
    · rw [hne] at h
      cases h
      obtain rfl : t = _ := List.mem_singleton.1 ht
      exact ⟨by show l ≤ (posS (bs.take m) l c).1; omega, by show (posS (bs.take m) l c).1 ≤ _; omega⟩
    · rcases lexTok_cases hne (posS (bs.take m) l c).1 (posS (bs.take m) l c).2 with ⟨code, hc, h1⟩ | ⟨u, hu, hl, hcl, h2, h3, hE, h1⟩
      · rw [show lexT (bs.drop m) _ _ = _ from h1 lexF] at h
        cases h
      · rw [show lexT (bs.drop m) _ _ = _ from h1 lexF] at h
        have ht1 : 1 ≤ u.text.length := List.length_pos_iff.2 hu.text
        rw [List.length_drop] at h3
        cases hr : lexF ((bs.drop m).drop u.text.length) (posS (bs.take m) l c).1 ((posS (bs.take m) l c).2 + u.text.length) with
        | err a' b' e' => rw [hr] at h; cases h
        | ok us =>
          rw [hr] at h
          cases h
          rcases List.mem_cons.1 ht with rfl | ht
          · exact ⟨by omega, by omega⟩
          · have hl2 : ((bs.drop m).drop u.text.length).length = bs.length - m - u.text.length := by rw [List.length_drop, List.length_drop]
            have := ih _ (by omega) _ _ _ hr t ht
            omega
set_option maxRecDepth 100000 in
set_option maxHeartbeats 1000000 in
theorem moved_calls (bs : List Tok) (d : Nat) (va vb : Value) (w : World) (hA : Toks w (bs.map (Tok.down d)) va) (hB : Toks w bs vb) (hd : d ≤ 1000000) (hl : ∀ t ∈ bs, 0 ≤ t.line ∧ t.line ≤ 1000000) (hn : bs.length ≤ 1000000) :
    Calls Tryd.prog 23 #[va, vb, .int .i64 d] w fun e w' => e = .returned (.bool true) ∧ Below w.heap.size w w' := by
  obtain ⟨a1, cap1, rfl, hc1, hc2⟩ := Sl.form hA
  obtain ⟨a2, cap2, rfl, hc3, hc4⟩ := Sl.form hB
  have hml : (bs.map (Tok.down d)).length = bs.length := List.length_map ..
  have HA : Hid (Toks w (bs.map (Tok.down d)) (.slice a1 bs.length cap1)) := Lib.hid (by rw [← hml]; exact hA)
  have HB := Lib.hid hB
  rw [hml] at hc1 ⊢
  clear hA hB hml
  go_enter Tryd.func23, Tryd.ntmps23
  go_wp2_with fail
  go_loopw [6, 7, 8, 14, 15, 16, 17, 18, 19, 20, 21, 22, 23, 24, 25, 26, 27, 28, 29, 30, 31, 32, 33, 34] (fun _ t7 _ _ _ _ _ _ _ _ _ _ _ _ _ _ _ _ _ _ _ _ _ _ wr => ∃ k : Nat, k ≤ bs.length ∧ t7 = .int .i64 k ∧ Hid (Below w.heap.size w wr)) (fun _ t7 _ _ _ _ _ _ _ _ _ _ _ _ _ _ _ _ _ _ _ _ _ _ _ => bs.length - (intOf t7).toNat)
  case atStart => exact ⟨0, by omega, rfl, Lib.hid (Below.refl _ _)⟩
  case round =>
    obtain ⟨k, hk, rfl, Hb⟩ := hrel
    by_cases hlt : k < bs.length
    · obtain ⟨b, off, rfl, d0, d1, d2, d3, d4⟩ := tok_cells HB.out hlt
      obtain ⟨b', off', rfl, f0, f1, f2, f3, f4⟩ := tok_cells HA.out (i := k) (by rw [List.length_map]; exact hlt)
      obtain ⟨T, hT⟩ : ∃ T, tokAt bs k = T := ⟨_, rfl⟩
      have hT2 : tokAt (bs.map (Tok.down d)) k = T.down d := by
        rw [← hT, tokAt_eq hlt, tokAt_eq (by rw [List.length_map]; exact hlt), List.getElem_map]
      have hl1 := hl T (by rw [← hT, tokAt_eq hlt]; exact List.getElem_mem hlt)
      rw [hT] at d0 d1 d2 d3 d4
      rw [hT2] at f0 f1 f2 f3 f4
      simp only [Tok.down] at f0 f1 f2 f3 f4
      clear hT hT2
      replace d0 := Below.keep Hb.out d0
      replace d1 := Below.keep Hb.out d1
      replace d2 := Below.keep Hb.out d2
      replace d3 := Below.keep Hb.out d3
      replace d4 := Below.keep Hb.out d4
      replace f0 := Below.keep Hb.out f0
      replace f1 := Below.keep Hb.out f1
      replace f2 := Below.keep Hb.out f2
      replace f3 := Below.keep Hb.out f3
      replace f4 := Below.keep Hb.out f4
      have hl2 : (T.line + (d : Int)) ≤ 9223372036854775807 := by omega
      have hl3 : -9223372036854775808 ≤ (T.line + (d : Int)) := by omega
      have lt1 : b' < wr.heap.size := World.block_lt_of_cell? wr _ f0
      have ne1 : ¬ b' = wr.heap.size := by omega
      go_wp2_with fail
      refine wp_region_seq (DrewOf _) (by kernel_rfl) (by kernel_rfl) (DrewOf.start _) ?_
      repeat
        try simp only [Act.put, List.setIfInBounds_toArray, List.set_cons_succ, List.set_cons_zero]
        apply stepsSeq.cons
        · rintro w' ⟨nq, rfl⟩
          simp only [Act.put, List.setIfInBounds_toArray, List.set_cons_succ, List.set_cons_zero]
          go_wp2_with (fail)
          first | exact ⟨rfl, nq, rfl⟩ | exact ⟨rfl, nq, (World.drewN_drewN _ _ _).symm⟩ | exact ⟨rfl, nq, by simp⟩
      try simp only [Act.put, List.setIfInBounds_toArray, List.set_cons_succ, List.set_cons_zero]
      refine stepsSeq.nil ?_
      rintro w' ⟨nq, rfl⟩
      go_wp2_with fail
      go_roundw
      case rel => exact ⟨k + 1, by omega, by go_num, Lib.hid (((Hb.out.alloc Hb.out.size _)).trans ⟨rfl, rfl, rfl, Nat.le_refl _, fun _ _ => rfl⟩)⟩
      case measure => simp [intOf]; omega
    · obtain rfl : k = bs.length := by omega
      go_wp2_with fail
      go_ret
      exact ⟨rfl, Hb.out⟩
end Go.Proofs.YtcichbdkdbnmiaaDoor
