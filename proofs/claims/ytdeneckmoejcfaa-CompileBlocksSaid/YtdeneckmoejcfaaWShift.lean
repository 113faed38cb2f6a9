/- marcheslaw13.shifted, walked. -/
import Derived.Test.YtdeneckmoejcfaaWCodeJ
set_option linter.unusedSimpArgs false
set_option linter.unusedVariables false
namespace Go.Proofs.Ytdeneckmoejcfaa
open Go.RowKit

theorem shiftC_snoc (m : Int) (c : Code1) (k : Nat) (hk : k < c.length) : cellsC (shiftC m (c.take (k + 1))) = cellsC (shiftC m (c.take k)) ++ [.int .u8 (shiftI m c[k]).op, .int .i64 (shiftI m c[k]).a] := by
  rw [List.take_succ_eq_append_getElem hk, shiftC_app, cellsC_app]
  rfl
set_option maxRecDepth 100000 in
set_option maxHeartbeats 1000000 in
theorem shifted_any (c : Code1) (m : Nat) (v : Value) (w : World) (hC : SlC w c v) (hl : c.length ≤ 1000000) (hm : m ≤ 1000000) (hj : ∀ i ∈ c, jumpB i = true → 0 ≤ i.a ∧ i.a ≤ 1000000) :
    Calls Try.prog 30 #[v, .int .i64 m] w fun e w' => (∃ v, e = .returned v ∧ OwnC w' w.heap.size 35 v (shiftC m c)) ∧ Below w.heap.size w w' := by
  obtain ⟨a, cap, rfl, _, _⟩ := Sl.form hC
  have HC := Lib.hid hC
  have Hj := Lib.hid hj
  clear hC hj
  go_enter Try.func30, Try.ntmps30
  go_wp2_with fail
  go_loopw [5, 6, 7, 8, 9, 10, 11, 12, 13, 14, 15, 16, 17, 18, 19, 20, 21, 22, 23, 24, 25, 26, 27, 28, 29, 30, 31, 32, 33, 34, 35, 36, 37, 38, 39] (fun t5 t6 _ _ _ _ _ _ _ _ _ _ _ _ _ _ _ _ _ _ _ _ _ _ _ _ _ _ _ _ _ _ _ _ _ wr => ∃ k : Nat, k ≤ c.length ∧ t6 = .int .i64 k ∧ Hid (wr.ownsRow w.heap.size 35 2 t5 k (cellsC (shiftC m (c.take k)))) ∧ Hid (Below w.heap.size w wr)) (fun _ t6 _ _ _ _ _ _ _ _ _ _ _ _ _ _ _ _ _ _ _ _ _ _ _ _ _ _ _ _ _ _ _ _ _ _ => c.length - (intOf t6).toNat)
  case atStart => exact ⟨0, by omega, by first | rfl | go_num, Lib.hid (World.ownsRow_nil _ _ _ _), Lib.hid (Below.refl _ _)⟩
  case round =>
    obtain ⟨k, hk, rfl, Hown, Hb⟩ := hrel
    by_cases hkl : k < c.length
    · have hki : (k : Int) < (c.length : Int) := by omega
      have hszr := Hb.out.size
      obtain ⟨b, off, rfl, hbw, c0, c1⟩ := (HC.out.below Hb.out).at hkl
      have Htk := Lib.hid (shiftC_snoc m c k hkl)
      have hjk := Hj.out c[k] (List.getElem_mem hkl)
      generalize c[k] = z at *
      obtain ⟨op, x⟩ := z
      obtain ⟨W1, hW1, hX1, hb1⟩ : ∃ W1, W1 = wr.alloc (.cells #[.int .u8 op, .int .i64 x] 35) ∧ OwnV W1 wr.heap.size 35 [.int .u8 op, .int .i64 x] ∧ Below wr.heap.size wr W1 := ⟨_, rfl, OwnV.new _ _ _, (Below.refl _ _).alloc (Nat.le_refl _) _⟩
      have HW1 := Lib.hid hW1
      have hown1 := own_below Hown.out hb1 (Nat.le_refl _)
      have hltv : ∀ g, u5.ownBlock = some g → g < wr.heap.size := fun g hg => (Hown.out.lt g hg).2
      have HB1 := Lib.hid (Hb.out.trans (hb1.mono hszr))
      have x0 := hX1.cell (i := 0) rfl
      have x1 := hX1.cell (i := 1) rfl
      have xf := hX1.free 1
      by_cases hjmp : op = 11 ∨ op = 12 ∨ op = 13
      · have hjt : jumpB ⟨op, x⟩ = true := by unfold jumpB; rw [decide_eq_true_eq]; show 11 ≤ op ∧ op ≤ 13; omega
        obtain ⟨hx0, hx1⟩ := hjk hjt
        simp only at hx0 hx1
        obtain ⟨W2, hW2, hX2, hown2, hb2⟩ : ∃ W2, W2 = W1.setCell ⟨wr.heap.size, 1, none⟩ (.int .i64 (x + m)) ∧ OwnV W2 wr.heap.size 35 [.int .u8 op, .int .i64 (x + m)] ∧ W2.ownsRow w.heap.size 35 2 u5 k (cellsC (shiftC m (c.take k))) ∧ Below w.heap.size w W2 :=
          ⟨_, rfl, hX1.set 1 _, own_set_ne hown1 (fun g hg e => by have := hltv g hg; omega) _ _, HB1.out.setCell (by show w.heap.size ≤ wr.heap.size; exact hszr) _⟩
        have Hst : Hid (shiftI m ⟨op, x⟩ = ⟨op, x + m⟩) := Lib.hid (by unfold shiftI; rw [if_pos hjt])
        rw [Hst.out] at Htk
        have HW2 := Lib.hid hW2
        have HB2 := Lib.hid hb2
        have hs2 := hb2.size
        have y0 := hX2.cell (i := 0) rfl
        have y1 := hX2.cell (i := 1) rfl
        clear hb1 hW1 hW2 hb2 hX1 hX2 hjk hjt hown1
        rcases hjmp with rfl | rfl | rfl
        all_goals
          go_upto_region 6 with (fail)
          rw [← HW1.out]
          go_upto_region 8 with (fail)
          rw [← HW2.out]
          clear x0 x1 xf
          go_wp2_with (at_builtin; refine wpList_append_at rfl (.tmp 36) (.tmp 38) 26 rfl hown2 info_pins Try.underlying26 rfl (by decide) rfl 1 1 rfl rfl rfl (by unfold maxLen; omega) (by omega) hs2 ?_; intro v' w4 hown4 hg4 hb4 hat4)
          go_roundw
          case rel => exact ⟨k + 1, by omega, by go_num, Lib.hid (by rw [Htk.out]; exact hown4), Lib.hid (HB2.out.trans hb4)⟩
          case measure => simp [intOf]; omega
      · have hjt : ¬ jumpB ⟨op, x⟩ = true := by unfold jumpB; rw [decide_eq_true_eq]; show ¬ (11 ≤ op ∧ op ≤ 13); omega
        have Hst : Hid (shiftI m ⟨op, x⟩ = ⟨op, x⟩) := Lib.hid (by unfold shiftI; rw [if_neg hjt])
        rw [Hst.out] at Htk
        have hq1 : (op == 11) = false := by rw [beq_eq_false_iff_ne]; omega
        have hq2 : (op == 12) = false := by rw [beq_eq_false_iff_ne]; omega
        have hq3 : (op == 13) = false := by rw [beq_eq_false_iff_ne]; omega
        have hs1 := HB1.out.size
        clear hb1 hW1 hX1 hjk hjt hjmp
        go_upto_region 6 with (fail)
        rw [← HW1.out]
        go_wp2_with (at_builtin; refine wpList_append_at rfl (.tmp 36) (.tmp 38) 26 rfl hown1 info_pins Try.underlying26 rfl (by decide) rfl 1 1 rfl rfl rfl (by unfold maxLen; omega) (by omega) hs1 ?_; intro v' w4 hown4 hg4 hb4 hat4)
        go_roundw
        case rel => exact ⟨k + 1, by omega, by go_num, Lib.hid (by rw [Htk.out]; exact hown4), Lib.hid (HB1.out.trans hb4)⟩
        case measure => simp [intOf]; omega
    · have hki : ¬ (k : Int) < (c.length : Int) := by omega
      have hke : k = c.length := by omega
      have Ho : Hid (OwnC wr w.heap.size 35 u5 (shiftC m c)) := Lib.hid (by have h := Hown.out; rw [hke, List.take_length] at h; unfold OwnC; rw [shiftC_len]; exact h)
      clear hke Hown
      go_wp2_with fail
      go_ret
      exact ⟨⟨_, rfl, Ho.out⟩, Hb.out⟩
end Go.Proofs.Ytdeneckmoejcfaa
