/- marcheslaw13's renaming of expressions, walked. -/
import Derived.Test.YtdeneckmoejcfaaKitCJ
import Derived.Test.YtdeneckmoejcfaaRenM
import Derived.Test.YtdeneckmoejcfaaTreeOJ
set_option linter.unusedSimpArgs false
set_option linter.unusedVariables false
namespace Go.Proofs.Ytdeneckmoejcfaa
open Go.RowKit

theorem str_app (a b : List UInt8) : bstr a ++ bstr b = bstr (a ++ b) := by
  apply ByteArray.ext
  unfold bstr
  simp
/-- an expression with other names -/
def RenE1 (m : List UInt8) (x : Ex) (w : World) (e : Ending) (w' : World) : Prop := (∃ cs : List Value, e = .returned (.agg cs.toArray) ∧ ExsC w' (fun g => w.heap.size ≤ g) [renE m x] cs) ∧ Below w.heap.size w w'
def renN (m : List UInt8) (op : Int) (name : List UInt8) : List UInt8 := if op = 2 then name ++ m else name
set_option maxRecDepth 100000 in
set_option maxHeartbeats 2000000 in
theorem renE_any (mark : List UInt8) (hmk : mark.length ≤ 2) : ∀ (m : Nat) (op n : Int) (name : List UInt8) (args : List Ex) (v : Value) (w : World) (B : Nat), szE (.mk op n name args) ≤ m → m ≤ 1000000 → EsL w B args v → B ≤ w.heap.size →
    Calls Try.prog 43 #[.agg #[.int .u8 op, .int .i64 n, .string (bstr name), v], .string (bstr mark)] w (RenE1 mark (.mk op n name args) w) := by
  intro m
  induction m with
  | zero => intro op n name args v w B h; simp only [szE] at h; omega
  | succ m ih =>
    intro op n name args v w B hm hsm hL hB
    obtain ⟨a, cap, rfl, hc1, hc2⟩ := hL.form
    have HL := Lib.hid hL
    have Hm := Lib.hid hm
    have Hih := Lib.hid ih
    have hz : szE (.mk op n name args) = 1 + name.length / 30 + szEs args := by simp only [szE]
    have hlen : args.length ≤ 1000000 := by have := szEs_len args; omega
    have hs1 : (bstr name).size ≤ 140737488355328 := by rw [bstr_size]; omega
    have hs2 : (bstr mark).size ≤ 140737488355328 := by rw [bstr_size]; omega
    have happ := Lib.hid (str_app name mark)
    clear hm hL ih hz
    go_enter Try.func43, Try.ntmps43
    go_upto_region 1 with (fail)
    obtain ⟨W0, hW0, hb0, hR0, hT0, hsz⟩ := opened2 w [.int .u8 op, .int .i64 n, .string (bstr name), .slice a args.length cap] zeroE 65 65
    simp only [zeroE] at hW0
    rw [← hW0]
    clear hW0
    have Hb0 := Lib.hid hb0
    have HR0 := Lib.hid hR0
    have HT0 := Lib.hid hT0
    have x0 := hR0.cell (i := 0) rfl
    have x2 := hR0.cell (i := 2) rfl
    have xf := hR0.free
    obtain ⟨nm, hnm⟩ : ∃ nm, nm = renN mark op name := ⟨_, rfl⟩
    have Hnm := Lib.hid hnm
    unfold renN at hnm
    obtain ⟨W2, hW2⟩ : ∃ W2, W2 = if op = 2 then W0.setCell ⟨w.heap.size, 2, none⟩ (.string (bstr nm)) else W0 := ⟨_, rfl⟩
    have HR2 : Hid (OwnV W2 w.heap.size 65 [.int .u8 op, .int .i64 n, .string (bstr nm), .slice a args.length cap]) := Lib.hid (by
      rw [hW2, hnm]
      split
      · exact hR0.set 2 _
      · exact hR0)
    have HT2 : Hid (OwnV W2 (w.heap.size + 1) 65 zeroE) := Lib.hid (by
      rw [hW2]
      split
      · exact hT0.grown (set_grown _ _ _ _) (by simp)
      · exact hT0)
    have Hb2 : Hid (Below w.heap.size w W2) := Lib.hid (by
      rw [hW2]
      split
      · exact hb0.setCell (Nat.le_refl _) _
      · exact hb0)
    have hsz2 : w.heap.size + 2 ≤ W2.heap.size := by
      rw [hW2]
      split
      · simpa using hsz
      · exact hsz
    clear hb0 hR0 hT0
    by_cases hop : op = 2
    all_goals
      first
        | rw [if_pos hop] at hW2 hnm
        | rw [if_neg hop] at hW2 hnm
      first
        | (subst hop; go_upto_region 3 with (fail); rw [happ.out, ← hnm, ← hW2])
        | (go_upto_region 3 with (fail); rw [← hW2])
      clear hW2 hnm x0 x2 xf HR0 HT0 Hb0 hsz
      have x3 := HR2.out.cell (i := 3) rfl
      go_wp2_with fail
      go_loopw [5, 6, 15, 16, 17, 18, 19, 20, 21, 22, 23, 24, 25, 26, 27, 28, 29, 30, 31] (fun t5 t6 _ _ _ _ _ _ _ _ _ _ _ _ _ _ _ _ _ wr => ∃ (k : Nat) (cs : List Value), k ≤ args.length ∧ t6 = .int .i64 k ∧ wr.ownsRow W2.heap.size 65 4 t5 k cs ∧ Hid (ExsC wr (fun g => W2.heap.size ≤ g ∧ t5.ownBlock ≠ some g) (renEs mark (args.take k)) cs) ∧ Hid (Below W2.heap.size W2 wr)) (fun _ t6 _ _ _ _ _ _ _ _ _ _ _ _ _ _ _ _ _ _ => args.length - (intOf t6).toNat)
      case atStart => exact ⟨0, [], by omega, by first | rfl | go_num, World.ownsRow_nil _ _ _ _, Lib.hid (by rw [List.take_zero, renEs]; exact .nil), Lib.hid (Below.refl _ _)⟩
      case round =>
        obtain ⟨k, cs, hk, rfl, hown, HX, HB⟩ := hrel
        have hszr := HB.out.size
        have HRr := Lib.hid (HR2.out.below HB.out (Nat.le_refl _))
        have x3 := HRr.out.cell (i := 3) rfl
        by_cases hkl : k < args.length
        · have hki : (k : Int) < (args.length : Int) := by omega
          have hcl : (args.length : Int) ≤ 1000000 := by omega
          have hLr : EsL wr B args (.slice a args.length cap) := HL.out.low (((Hb2.out.trans (HB.out.mono Hb2.out.size))).mono hB)
          obtain ⟨b, off, op2, n2, name2, args2, aa, ac, rfl, hbB, hbw, hat, c0, c1, c2, c3, hL2⟩ := hLr.at hkl
          have hz := szEs_le hat
          have HI := Lib.hid (Hih.out op2 n2 name2 args2 _ wr B (by have := Hm.out; simp only [szE] at this hz ⊢; omega) (by omega) hL2 (by omega))
          have Htk : Hid (renEs mark (args.take (k + 1)) = renEs mark (args.take k) ++ [renE mark (.mk op2 n2 name2 args2)]) := Lib.hid (renEs_take hat)
          clear hLr hat hL2 hz
          go_wp2_with fail
          refine HI.out.mono ?_
          rintro e2 w2 ⟨⟨cx, rfl, hX2⟩, hb2⟩
          obtain ⟨op3, n3, name3, args3, ad, cp, hx, rfl⟩ := hX2.one
          rw [hx] at Htk hX2
          have HX2 := Lib.hid hX2
          have Hb2r := Lib.hid hb2
          have hs2r : w.heap.size + 2 ≤ w2.heap.size := Nat.le_trans hsz2 (Nat.le_trans hszr hb2.size)
          have hown2 := own_below hown hb2 (Nat.le_refl _)
          have Hbw := Lib.hid (HB.out.trans (hb2.mono hszr))
          have hs3 : W2.heap.size ≤ w2.heap.size := Nat.le_trans hszr hb2.size
          clear hX2 hb2 hx x3
          go_wp2_with (at_builtin; refine wpList_append_at rfl (.tmp 22) (.tmp 30) 57 rfl hown2 info_expr Try.underlying57 rfl (by decide) rfl 1 1 rfl rfl rfl (by unfold maxLen; omega) (by omega) hs3 ?_; intro v' w3 hown3 hg3 hb4 hat4)
          go_roundw
          case rel =>
            obtain ⟨row, hrow⟩ : ∃ row : List Value, row = cs ++ [.int .u8 op3, .int .i64 n3, .string (bstr name3), .slice ad args3.length cp] := ⟨_, rfl⟩
            have hr1 : w3.ownsRow W2.heap.size 65 4 v' (k + 1) row := by rw [hrow]; exact hown3
            have hr2 : ExsC w3 (fun g => W2.heap.size ≤ g ∧ v'.ownBlock ≠ some g) (renEs mark (args.take (k + 1))) row := by rw [hrow, Htk.out]; exact exs_push hown HX.out Hb2r.out HX2.out hszr (Below.refl _ _) hg3 hat4
            first
              | exact ⟨k + 1, row, by omega, by go_num, hr1, Lib.hid hr2, Lib.hid (Hbw.out.trans hb4)⟩
              | exact ⟨k + 1, by omega, by omega, row, hr1, Lib.hid hr2, Lib.hid (Hbw.out.trans hb4)⟩
          case measure => simp [intOf]; omega
        · have hki : ¬ (k : Int) < (args.length : Int) := by omega
          have hke : k = args.length := by omega
          have hlr : (renEs mark args).length = args.length := renEs_len mark args
          have Hown : Hid (wr.ownsRow W2.heap.size 65 4 u5 (renEs mark args).length cs) := Lib.hid (by rw [hlr, ← hke]; exact hown)
          have HX2 : Hid (ExsC wr (fun g => W2.heap.size ≤ g) (renEs mark args) cs) := Lib.hid (by have := HX.out.weak1; rw [hke, List.take_length] at this; exact this)
          have HE : Hid (EsV wr W2.heap.size (renEs mark args) u5) := Lib.hid (EsV.of_own Hown.out HX2.out (Nat.le_refl _))
          obtain ⟨ra, rcap, hu5, _, _⟩ := Sl.form (Sl.of_own Hown.out)
          rw [hlr] at hu5
          subst hu5
          have HTr := Lib.hid (HT2.out.below HB.out (Nat.le_refl _))
          have Hbr := Lib.hid (Hb2.out.trans (HB.out.mono Hb2.out.size))
          clear hown HX Hown
          have x0 := HRr.out.cell (i := 0) rfl
          have x1 := HRr.out.cell (i := 1) rfl
          have x2 := HRr.out.cell (i := 2) rfl
          have xf := HRr.out.free
          have y0 := HTr.out.cell (i := 0) rfl
          have y1 := HTr.out.cell (i := 1) rfl
          have y2 := HTr.out.cell (i := 2) rfl
          have y3 := HTr.out.cell (i := 3) rfl
          have yf := HTr.out.free
          go_wp2_with fail
          first
            | (have hno : ¬ op = 2 := hop; refine bodyPost_ret (v := .agg #[.int .u8 op, .int .i64 n, .string (bstr nm), .slice ra args.length rcap]) (by simp [results, Try.results43, go_sem, y0, y1, y2, y3]) rfl ⟨⟨_, rfl, ?_⟩, ?_⟩)
            | refine bodyPost_ret (v := .agg #[.int .u8 2, .int .i64 n, .string (bstr nm), .slice ra args.length rcap]) (by simp [results, Try.results43, go_sem, y0, y1, y2, y3]) rfl ⟨⟨_, rfl, ?_⟩, ?_⟩
          · rw [renE]
            have := Hnm.out
            unfold renN at this
            rw [← this]
            exact EsV.one (m := W2.heap.size) (((((HE.out.set (b := w.heap.size) (by omega)).set (b := w.heap.size + 1) (by omega)).set (b := w.heap.size + 1) (by omega)).set (b := w.heap.size + 1) (by omega)).set (b := w.heap.size + 1) (by omega)) (Nat.le_trans (Nat.le_add_right _ 2) hsz2)
          · exact ((((Hbr.out.setCell (Nat.le_refl _) _).setCell (by simp) _).setCell (by simp) _).setCell (by simp) _).setCell (by simp) _
end Go.Proofs.Ytdeneckmoejcfaa
