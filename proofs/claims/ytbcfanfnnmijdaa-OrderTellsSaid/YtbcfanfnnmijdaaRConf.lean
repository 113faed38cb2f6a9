/- The reference's Conflict, walked: it answers as the program's. No condition. -/
import Derived.Test.YtbcfanfnnmijdaaRegion5
import Derived.Test.YtbcfanfnnmijdaaConfM
namespace Go.Proofs.Ytbcfanfnnmijdaa
open Go.RowKit

theorem bit_test (x : BitVec 32) (k : Nat) : ((w32 x / 2 ^ k).tmod 2 == 1) = x.getLsbD k := by
  rw [Int.tmod_eq_emod_of_nonneg (Int.ediv_nonneg (by unfold w32; omega) (Int.pow_nonneg (by decide)))]
  unfold w32
  rw [Bool.eq_iff_iff, beq_iff_eq, BitVec.getLsbD, Nat.testBit_eq_decide_div_mod_eq, decide_eq_true_eq]
  have : ((x.toNat : Int) / 2 ^ k % 2) = ((x.toNat / 2 ^ k % 2 : Nat) : Int) := by
    rw [Int.natCast_emod, Int.natCast_ediv, Int.natCast_pow]; rfl
  rw [this]
  omega
def confAt (r1 w1 r2 w2 : BitVec 32) (j : Nat) : Bool := (w1.getLsbD j && (r2.getLsbD j || w2.getLsbD j)) || (w2.getLsbD j && (r1.getLsbD j || w1.getLsbD j))
theorem conf_at (n1 n2 : ByteArray) (p1 p2 : Int) (r1 w1 r2 w2 : BitVec 32) : conf ⟨n1, r1, w1, p1⟩ ⟨n2, r2, w2, p2⟩ = true ↔ ∃ j, j < 32 ∧ confAt r1 w1 r2 w2 j = true := by
  rw [conf_iff]
  unfold confAt
  simp only [Bool.or_eq_true, Bool.and_eq_true]
  constructor
  · rintro ⟨i, h⟩
    refine ⟨i, ?_, h⟩
    rcases h with ⟨h, _⟩ | ⟨h, _⟩ <;> exact BitVec.lt_of_getLsbD h
  · rintro ⟨i, _, h⟩
    exact ⟨i, h⟩
set_option maxHeartbeats 2000000 in
theorem refConflict_any (a b : Sys) (w : World) :
    Calls Try.prog 21 #[a.val, b.val] w fun e w' => e = .returned (.bool (conf a b)) ∧ Below w.heap.size w w' := by
  obtain ⟨n1, r1, w1, p1⟩ := a
  obtain ⟨n2, r2, w2, p2⟩ := b
  unfold Sys.val
  have HC := Lib.hid (conf_at n1 n2 p1 p2 r1 w1 r2 w2)
  have hb0 : Below w.heap.size w ((w.alloc (.cells #[.string n1, .int .u32 (w32 r1), .int .u32 (w32 w1), .int .i64 p1] 35)).alloc (.cells #[.string n2, .int .u32 (w32 r2), .int .u32 (w32 w2), .int .i64 p2] 35)) := ((Below.refl _ _).alloc (Nat.le_refl _) _).alloc (by simp) _
  have hA := (OwnV.new w 35 [.string n1, .int .u32 (w32 r1), .int .u32 (w32 w1), .int .i64 p1]).alloc (.cells #[.string n2, .int .u32 (w32 r2), .int .u32 (w32 w2), .int .i64 p2] 35)
  have hB := OwnV.new (w.alloc (.cells #[.string n1, .int .u32 (w32 r1), .int .u32 (w32 w1), .int .i64 p1] 35)) 35 [.string n2, .int .u32 (w32 r2), .int .u32 (w32 w2), .int .i64 p2]
  have hs : (w.alloc (.cells #[.string n1, .int .u32 (w32 r1), .int .u32 (w32 w1), .int .i64 p1] 35)).heap.size = w.heap.size + 1 := by simp
  rw [hs] at hB
  have HA := Lib.hid hA
  have HB := Lib.hid hB
  have Hb0 := Lib.hid hb0
  clear hA hB hb0 hs
  go_enter Try.func21, Try.ntmps21
  go_wp2
  generalize (w.alloc (.cells #[.string n1, .int .u32 (w32 r1), .int .u32 (w32 w1), .int .i64 p1] 35)).alloc (.cells #[.string n2, .int .u32 (w32 r2), .int .u32 (w32 w2), .int .i64 p2] 35) = v1 at *
  go_loopw [4, 5, 6, 7, 8, 9, 10, 11, 12, 13, 14, 15, 16, 17, 18, 19, 20, 21, 22, 23, 24, 25, 26, 27, 28, 29, 30, 31, 32, 33, 34, 35, 36, 37, 38, 39, 40, 41, 42, 43, 44, 45, 46, 47, 48, 49, 50, 51, 52, 53] (fun _ t5 _ _ _ _ _ _ _ _ _ _ _ _ _ _ _ _ _ _ _ _ _ _ _ _ _ _ _ _ _ _ _ _ _ _ _ _ _ _ _ _ _ _ _ _ _ _ _ _ wr => ∃ k : Nat, k ≤ 32 ∧ t5 = .int .i64 k ∧ Hid (∀ j, j < k → confAt r1 w1 r2 w2 j = false) ∧ Below v1.heap.size v1 wr) (fun _ t5 _ _ _ _ _ _ _ _ _ _ _ _ _ _ _ _ _ _ _ _ _ _ _ _ _ _ _ _ _ _ _ _ _ _ _ _ _ _ _ _ _ _ _ _ _ _ _ _ _ => 32 - (intOf t5).toNat)
  case atStart => exact ⟨0, by omega, rfl, Lib.hid (by intro j hj; omega), Below.refl _ _⟩
  case round =>
    obtain ⟨k, hk, rfl, Hno, hb⟩ := hrel
    by_cases hlt : k < 32
    · have hA := HA.out.below hb (Nat.le_refl _)
      have hB := HB.out.below hb (Nat.le_refl _)
      have a1 := hA.cell (i := 1) rfl
      have a2 := hA.cell (i := 2) rfl
      have b1 := hB.cell (i := 1) rfl
      have b2 := hB.cell (i := 2) rfl
      have g1 := bit_test r1 k
      have g2 := bit_test w1 k
      have g3 := bit_test r2 k
      have g4 := bit_test w2 k
      have hc : confAt r1 w1 r2 w2 k = ((w1.getLsbD k && (r2.getLsbD k || w2.getLsbD k)) || (w2.getLsbD k && (r1.getLsbD k || w1.getLsbD k))) := rfl
      generalize r1.getLsbD k = y1 at *
      generalize w1.getLsbD k = y2 at *
      generalize r2.getLsbD k = y3 at *
      generalize w2.getLsbD k = y4 at *
      have Hc := Lib.hid hc
      have Hb := Lib.hid hb
      have hsz : v1.heap.size ≤ wr.heap.size := hb.size
      clear hA hB hc hb
      go_wp2
      refine wp_region_seq (fun w' => Below wr.heap.size wr w') (by kernel_rfl) (by kernel_rfl) ((Below.refl _ _).drew) ?_
      repeat
        try simp only [Act.put, List.setIfInBounds_toArray, List.set_cons_succ, List.set_cons_zero]
        apply stepsSeq.cons
        · intro w' hb1
          have Hb1' := Lib.hid hb1
          have a1' := Below.keep hb1 a1
          have a2' := Below.keep hb1 a2
          have b1' := Below.keep hb1 b1
          have b2' := Below.keep hb1 b2
          simp only [Act.put, List.setIfInBounds_toArray, List.set_cons_succ, List.set_cons_zero]
          go_wp2_with (fail)
          first | exact ⟨rfl, Hb1'.out⟩ | exact ⟨rfl, Hb1'.out.trans (hb2.mono Hb1'.out.size)⟩
      try simp only [Act.put, List.setIfInBounds_toArray, List.set_cons_succ, List.set_cons_zero]
      refine stepsSeq.nil ?_
      intro w' hb1
      have hb9 := Hb.out.trans (hb1.mono hsz)
      clear hb1 a1 a2 b1 b2 g1 g2 g3 g4
      cases y1 <;> cases y2 <;> cases y3 <;> cases y4
      all_goals
        go_wp2
        first
        | (go_ret; refine ⟨?_, Hb0.out.trans (hb9.mono Hb0.out.size)⟩; exact retb (HC.out.2 ⟨k, hlt, Hc.out⟩).symm)
        | (go_roundw
           case rel =>
             refine ⟨k + 1, by omega, by go_num, Lib.hid (fun j hj => ?_), hb9⟩
             rcases Nat.lt_or_ge j k with h | h
             · exact Hno.out j h
             · obtain rfl : j = k := by omega
               exact Hc.out
           case measure => simp [intOf]; omega)
    · have hk2 : ¬ (k : Int) < 32 := by omega
      go_wp2
      go_ret
      refine ⟨retb ?_, Hb0.out.trans (hb.mono Hb0.out.size)⟩
      symm
      rw [← Bool.not_eq_true]
      intro h
      obtain ⟨j, h1, h2⟩ := HC.out.1 h
      rw [Hno.out j (by omega)] at h2
      cases h2
end Go.Proofs.Ytbcfanfnnmijdaa
