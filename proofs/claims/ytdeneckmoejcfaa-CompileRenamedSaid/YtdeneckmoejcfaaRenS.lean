/- marcheslaw13's renaming of statements, walked. -/
import Derived.Test.YtdeneckmoejcfaaKitCJ
import Derived.Test.YtdeneckmoejcfaaRenE
import Derived.Deep.RegionHeld3
import Derived.Deep.DeepCutAuto
set_option linter.unusedSimpArgs false
set_option linter.unusedVariables false
namespace Go.Proofs.Ytdeneckmoejcfaa
open Go.RowKit

/-- a row of statements with other names -/
def RenSs (m : List UInt8) (xs : List St) (w : World) (e : Ending) (w' : World) : Prop := (∃ r cs, e = .returned r ∧ w'.ownsRow w.heap.size 59 6 r xs.length cs ∧ StsC w' (fun g => w.heap.size ≤ g ∧ r.ownBlock ≠ some g) (renSs m xs) cs) ∧ Below w.heap.size w w'
def renN1 (m : List UInt8) (op : Int) (name : List UInt8) : List UInt8 := if op = 1 ∨ op = 2 then name ++ m else name
set_option maxRecDepth 100000 in
set_option maxHeartbeats 4000000 in
theorem renS_any (mark : List UInt8) (hmk : mark.length ≤ 2) : ∀ (m : Nat) (xs : List St) (v : Value) (w : World) (B : Nat), szSs xs < m → m ≤ 1000000 → SsL w B xs v → B ≤ w.heap.size →
    Calls Try.prog 26 #[v, .string (bstr mark)] w (RenSs mark xs w) := by
  intro m
  induction m with
  | zero => intro xs v w B h; omega
  | succ m ih =>
    intro xs v w B hm hsm hL hB
    obtain ⟨a, cap, rfl, hc1, hc2⟩ := hL.form
    have HL := Lib.hid hL
    have Hm := Lib.hid hm
    have Hih := Lib.hid ih
    have hlen : xs.length ≤ 1000000 := by have := szSs_len xs; omega
    have hs2 : (bstr mark).size ≤ 140737488355328 := by rw [bstr_size]; omega
    clear hm hL ih
    go_enter Try.func26, Try.ntmps26
    go_wp2_with fail
    go_loopw [5, 6, 7, 8, 9, 10, 11, 12, 13, 14, 15, 16, 17, 18, 19, 20, 21, 22, 23, 24, 25, 26, 27, 28, 29, 30, 31, 32, 33, 34, 35, 36, 37, 38, 39, 40, 41, 42, 43, 44, 45, 46, 47, 48, 49, 50, 51, 52, 53, 54, 55, 56, 57, 58, 59, 60, 61, 62, 63, 64, 65] (fun t5 t6 _ _ _ _ _ _ _ _ _ _ _ _ _ _ _ _ _ _ _ _ _ _ _ _ _ _ _ _ _ _ _ _ _ _ _ _ _ _ _ _ _ _ _ _ _ _ _ _ _ _ _ _ _ _ _ _ _ _ _ wr => ∃ (k : Nat) (cs : List Value), k ≤ xs.length ∧ t6 = .int .i64 k ∧ wr.ownsRow w.heap.size 59 6 t5 k cs ∧ Hid (StsC wr (fun g => w.heap.size ≤ g ∧ t5.ownBlock ≠ some g) (renSs mark (xs.take k)) cs) ∧ Hid (Below w.heap.size w wr)) (fun _ t6 _ _ _ _ _ _ _ _ _ _ _ _ _ _ _ _ _ _ _ _ _ _ _ _ _ _ _ _ _ _ _ _ _ _ _ _ _ _ _ _ _ _ _ _ _ _ _ _ _ _ _ _ _ _ _ _ _ _ _ _ => xs.length - (intOf t6).toNat)
    case atStart => exact ⟨0, [], by omega, by first | rfl | go_num, World.ownsRow_nil _ _ _ _, Lib.hid (by rw [List.take_zero, renSs]; exact .nil), Lib.hid (Below.refl _ _)⟩
    case round =>
      obtain ⟨k, cs, hk, rfl, hown, HX, HB⟩ := hrel
      obtain ⟨wo, rfl⟩ : ∃ wo : World, wo = wr := ⟨_, rfl⟩
      have hszr := HB.out.size
      by_cases hkl : k < xs.length
      · have hki : (k : Int) < (xs.length : Int) := by omega
        have hcl : (xs.length : Int) ≤ 1000000 := by omega
        have hLr : SsL wo B xs (.slice a xs.length cap) := HL.out.low (HB.out.mono hB)
        obtain ⟨b, off, op, n, name, es, body, els, ae, ce, ab, cb, al, cl, rfl, hbB, hbw, hat, c0, c1, c2, c3, c4, c5, hE, hBd, hEl⟩ := hLr.at hkl
        have hz : 1 + name.length / 30 + szEs es + szSs body + szSs els ≤ szSs xs := by have := szSs_le hat; simp only [szS] at this; exact this
        have hmm := Hm.out
        have hs1 : (bstr name).size ≤ 140737488355328 := by rw [bstr_size]; omega
        have happ := Lib.hid (str_app name mark)
        have HE := Lib.hid hE
        have HBd := Lib.hid hBd
        have HEl := Lib.hid hEl
        have hBr : B ≤ wo.heap.size := Nat.le_trans hB hszr
        have hlen2 : es.length ≤ 1000000 := by have := szEs_len es; omega
        have HCE : Hid (∀ (j : Nat) (op2 n2 : Int) (name2 : List UInt8) (args2 : List Ex) (v2 : Value) (W : World), es[j]? = some (.mk op2 n2 name2 args2) → EsL W B args2 v2 → B ≤ W.heap.size → Calls Try.prog 43 #[.agg #[.int .u8 op2, .int .i64 n2, .string (bstr name2), v2], .string (bstr mark)] W (RenE1 mark (.mk op2 n2 name2 args2) W)) := Lib.hid (fun j op2 n2 name2 args2 v2 W h1 h2 h3 => renE_any mark hmk 1000000 op2 n2 name2 args2 v2 W B (by have := szEs_le h1; omega) (Nat.le_refl _) h2 h3)
        have HCB : Hid (∀ W, Below wo.heap.size wo W → Calls Try.prog 26 #[.slice ab body.length cb, .string (bstr mark)] W (RenSs mark body W)) := Lib.hid (fun W hb => Hih.out body _ W B (by omega) (by omega) (HBd.out.low (hb.mono hBr)) (Nat.le_trans hBr hb.size))
        have HCL : Hid (∀ W, Below wo.heap.size wo W → Calls Try.prog 26 #[.slice al els.length cl, .string (bstr mark)] W (RenSs mark els W)) := Lib.hid (fun W hb => Hih.out els _ W B (by omega) (by omega) (HEl.out.low (hb.mono hBr)) (Nat.le_trans hBr hb.size))
        have Htk : Hid (renSs mark (xs.take (k + 1)) = renSs mark (xs.take k) ++ [renS mark (.mk op n name es body els)]) := Lib.hid (renSs_take hat)
        have Hown := Lib.hid hown
        clear hLr hat hE hBd hEl hz hmm
        go_upto_region 6 with (fail)
        obtain ⟨W1, hW1, hb1, hR1, hsz1⟩ : ∃ W1, W1 = wo.alloc (.cells #[.int .u8 op, .int .i64 n, .string (bstr name), .slice ae es.length ce, .slice ab body.length cb, .slice al els.length cl] 59) ∧ Below wo.heap.size wo W1 ∧ OwnV W1 wo.heap.size 59 [.int .u8 op, .int .i64 n, .string (bstr name), .slice ae es.length ce, .slice ab body.length cb, .slice al els.length cl] ∧ W1.heap.size = wo.heap.size + 1 := ⟨_, rfl, (Below.refl _ _).alloc (Nat.le_refl _) _, OwnV.new _ _ _, by simp⟩
        rw [← hW1]
        clear hW1 c0 c1 c2 c3 c4 c5
        obtain ⟨nm, hnm⟩ : ∃ nm, nm = renN1 mark op name := ⟨_, rfl⟩
        have Hnm := Lib.hid hnm
        unfold renN1 at hnm
        obtain ⟨W2, hW2⟩ : ∃ W2, W2 = if op = 1 ∨ op = 2 then W1.setCell ⟨wo.heap.size, 2, none⟩ (.string (bstr nm)) else W1 := ⟨_, rfl⟩
        have HR2 : Hid (OwnV W2 wo.heap.size 59 [.int .u8 op, .int .i64 n, .string (bstr nm), .slice ae es.length ce, .slice ab body.length cb, .slice al els.length cl]) := Lib.hid (by
          rw [hW2, hnm]
          split
          · exact hR1.set 2 _
          · exact hR1)
        have Hb2 : Hid (Below wo.heap.size wo W2) := Lib.hid (by
          rw [hW2]
          split
          · exact hb1.setCell (Nat.le_refl _) _
          · exact hb1)
        have hsz2 : W2.heap.size = wo.heap.size + 1 := by
          rw [hW2]
          split
          · simpa using hsz1
          · exact hsz1
        have x0 := hR1.cell (i := 0) rfl
        have x2 := hR1.cell (i := 2) rfl
        have xf := hR1.free
        clear hb1 hR1
        obtain ⟨op0, hop0⟩ : ∃ q : Int, q = op := ⟨_, rfl⟩
        have h3 : op = 1 ∨ op = 2 ∨ (¬ op = 1 ∧ ¬ op = 2) := by omega
        rcases h3 with h1 | h1 | ⟨h1, h2⟩
        all_goals
          first
            | rw [if_pos (by first | exact .inl h1 | exact .inr h1)] at hW2 hnm
            | rw [if_neg (by omega)] at hW2 hnm
          first
            | (subst h1; go_upto_region 8 with (fail); rw [happ.out, ← hnm, ← hW2])
            | (have hb1 : (op == 1) = false := by simp [h1]
               have hb2 : (op == 2) = false := by simp [h2]
               go_upto_region 8 with (fail); rw [← hW2]; clear hb1 hb2)
          clear hW2 hnm x0 x2 xf hsz1
          have x3 := HR2.out.cell (i := 3) rfl
          go_wp2_with fail
          go_loopw [8, 9, 33, 34, 35, 36, 37, 38, 39, 40, 41, 42, 43, 44, 45, 46, 47, 48, 49] (fun t8 t9 _ _ _ _ _ _ _ _ _ _ _ _ _ _ _ _ _ wr => ∃ (j : Nat) (ds : List Value), j ≤ es.length ∧ t9 = .int .i64 j ∧ wr.ownsRow W2.heap.size 65 4 t8 j ds ∧ Hid (ExsC wr (fun g => W2.heap.size ≤ g ∧ t8.ownBlock ≠ some g) (renEs mark (es.take j)) ds) ∧ Hid (Below W2.heap.size W2 wr)) (fun _ t9 _ _ _ _ _ _ _ _ _ _ _ _ _ _ _ _ _ _ => es.length - (intOf t9).toNat)
          case atStart => exact ⟨0, [], by omega, by first | rfl | go_num, World.ownsRow_nil _ _ _ _, Lib.hid (by rw [List.take_zero, renEs]; exact .nil), Lib.hid (Below.refl _ _)⟩
          case round =>
            obtain ⟨j, ds, hj, rfl, hrow, HXj, HBj⟩ := hrel
            have hszj := HBj.out.size
            have HRj := Lib.hid (HR2.out.below HBj.out (Nat.le_refl _))
            have x3 := HRj.out.cell (i := 3) rfl
            by_cases hjl : j < es.length
            · have hji : (j : Int) < (es.length : Int) := by omega
              have hel : (es.length : Int) ≤ 1000000 := by omega
              have hEr : EsL wr B es (.slice ae es.length ce) := HE.out.low ((Hb2.out.trans (HBj.out.mono Hb2.out.size)).mono hBr)
              obtain ⟨eb, eoff, op2, n2, name2, args2, aa, ac, rfl, hebB, hebw, hjat, e0, e1, e2, e3, hL2⟩ := hEr.at hjl
              have HI := Lib.hid (HCE.out j op2 n2 name2 args2 _ wr hjat hL2 (by omega))
              have Hjk : Hid (renEs mark (es.take (j + 1)) = renEs mark (es.take j) ++ [renE mark (.mk op2 n2 name2 args2)]) := Lib.hid (renEs_take hjat)
              clear hEr hjat hL2
              go_wp2_with fail
              refine HI.out.mono ?_
              rintro e2 w2 ⟨⟨cx, rfl, hX2⟩, hb2⟩
              obtain ⟨op3, n3, name3, args3, ad, cp, hx, rfl⟩ := hX2.one
              rw [hx] at Hjk hX2
              have HX2 := Lib.hid hX2
              have Hb2r := Lib.hid hb2
              have hrow2 := own_below hrow hb2 (Nat.le_refl _)
              have Hbw := Lib.hid (HBj.out.trans (hb2.mono hszj))
              have hs3 : W2.heap.size ≤ w2.heap.size := Nat.le_trans hszj hb2.size
              clear hX2 hb2 hx x3
              go_wp2_with (at_builtin; refine wpList_append_at rfl (.tmp 40) (.tmp 48) 57 rfl hrow2 info_expr Try.underlying57 rfl (by decide) rfl 1 1 rfl rfl rfl (by unfold maxLen; omega) (by omega) hs3 ?_; intro v' w3 hown3 hg3 hb4 hat4)
              go_roundw
              case rel =>
                obtain ⟨row, hrw⟩ : ∃ row : List Value, row = ds ++ [.int .u8 op3, .int .i64 n3, .string (bstr name3), .slice ad args3.length cp] := ⟨_, rfl⟩
                have hr1 : w3.ownsRow W2.heap.size 65 4 v' (j + 1) row := by rw [hrw]; exact hown3
                have hr2 : ExsC w3 (fun g => W2.heap.size ≤ g ∧ v'.ownBlock ≠ some g) (renEs mark (es.take (j + 1))) row := by rw [hrw, Hjk.out]; exact exs_push hrow HXj.out Hb2r.out HX2.out hszj (Below.refl _ _) hg3 hat4
                first
                  | exact ⟨j + 1, row, by omega, by go_num, hr1, Lib.hid hr2, Lib.hid (Hbw.out.trans hb4)⟩
                  | exact ⟨j + 1, by omega, by omega, row, hr1, Lib.hid hr2, Lib.hid (Hbw.out.trans hb4)⟩
              case measure => simp [intOf]; omega
            · have hji : ¬ (j : Int) < (es.length : Int) := by omega
              obtain rfl : j = es.length := by omega
              have hlr : (renEs mark es).length = es.length := renEs_len mark es
              have Hrow : Hid (wr.ownsRow W2.heap.size 65 4 u8 (renEs mark es).length ds) := Lib.hid (by rw [hlr]; exact hrow)
              have HX2 : Hid (ExsC wr (fun g => W2.heap.size ≤ g) (renEs mark es) ds) := Lib.hid (by have := HXj.out.weak1; rw [List.take_length] at this; exact this)
              obtain ⟨ra, rcap, hu8, _, _⟩ := Sl.form (Sl.of_own Hrow.out)
              rw [hlr] at hu8
              subst hu8
              have Hbj : Hid (Below wo.heap.size wo wr) := Lib.hid (Hb2.out.trans (HBj.out.mono Hb2.out.size))
              have HEs : Hid (EsV wr W2.heap.size (renEs mark es) (.slice ra es.length rcap)) := Lib.hid (EsV.of_own Hrow.out HX2.out (Nat.le_refl _))
              have HCB2 : Hid (∀ W, Below wr.heap.size wr W → Calls Try.prog 26 #[.slice ab body.length cb, .string (bstr mark)] W (RenSs mark body W)) := Lib.hid (fun W hb => HCB.out W (Hbj.out.trans (hb.mono Hbj.out.size)))
              have HCL2 : Hid (∀ W, Below wr.heap.size wr W → Calls Try.prog 26 #[.slice al els.length cl, .string (bstr mark)] W (RenSs mark els W)) := Lib.hid (fun W hb => HCL.out W (Hbj.out.trans (hb.mono Hbj.out.size)))
              have hlw : wo.heap.size < wr.heap.size := by omega
              clear hrow HXj Hrow HX2 HCB HCL HCE
              have x4 := HRj.out.cell (i := 4) rfl
              have x5 := HRj.out.cell (i := 5) rfl
              go_upto_region 13 with (fail)
              clear x3
              go_cut [] (fun wx => ∃ vb vl : Value, OwnV wx wo.heap.size 59 [.int .u8 op0, .int .i64 n, .string (bstr nm), .slice ra es.length rcap, vb, vl] ∧ EsV wx W2.heap.size (renEs mark es) (.slice ra es.length rcap) ∧ SsV wx W2.heap.size (renSs mark body) vb ∧ SsV wx W2.heap.size (renSs mark els) vl ∧ Below wo.heap.size wo wx)
              case first =>
                go_region_with (first | (go_at_call_of 26 (Value.slice ab body.length cb); refine (HCB2.out _ (by first | exact (Below.refl _ _).drew | exact Below.refl _ _)).mono ?_; rintro e5 w5 ⟨⟨r5, cs5, rfl, hown5, hX5⟩, hb5⟩; obtain ⟨a5, c5, rfl, _, _⟩ := Sl.form (Sl.of_own hown5); have hb35 : Below wr.heap.size wr w5 := (by first | exact hb5 | exact Below.trans (b := wr.drew) ((Below.refl _ _).drew) hb5); have HR5 := Lib.hid (HRj.out.below hb35 (Nat.le_refl _)); have z4 := HR5.out.cell (i := 4) rfl; have z5 := HR5.out.cell (i := 5) rfl) | (go_at_call_of 26 (Value.slice al els.length cl); refine (HCL2.out _ (by first | exact hb35 | exact hb35.drew)).mono ?_; rintro e6 w6 ⟨⟨r6, cs6, rfl, hown6, hX6⟩, hb6⟩; obtain ⟨a6, c6, rfl, _, _⟩ := Sl.form (Sl.of_own hown6); have hb56 : Below w5.heap.size w5 w6 := (by first | exact hb6 | exact Below.trans (b := w5.drew) ((Below.refl _ _).drew) hb6); have HR6 := Lib.hid (HR5.out.below hb56 (Nat.le_refl _)); have q3 := HR6.out.cell (i := 3) rfl; have q4 := HR6.out.cell (i := 4) rfl; have q5 := HR6.out.cell (i := 5) rfl; have qf := HR6.out.free))
                all_goals
                  go_wp2_with fail
                  go_meet
                  have hsz5 : W2.heap.size ≤ w5.heap.size := Nat.le_trans hszj hb35.size
                  have hltw : wo.heap.size < W2.heap.size := by omega
                  have hE6 : EsV w6 W2.heap.size (renEs mark es) (.slice ra es.length rcap) := (HEs.out.below hb35).below hb56
                  have hB6 : SsV w6 W2.heap.size (renSs mark body) (.slice a5 body.length c5) := (SsV.of_own (by rw [renSs_len]; exact hown5) hX5.weak1 (by show W2.heap.size ≤ wr.heap.size; exact hszj)).below hb56
                  have hL6 : SsV w6 W2.heap.size (renSs mark els) (.slice a6 els.length c6) := SsV.of_own (by rw [renSs_len]; exact hown6) hX6.weak1 hsz5
                  have hbz : Below wo.heap.size wo w6 := Hbj.out.trans ((hb35.trans (hb56.mono hb35.size)).mono Hbj.out.size)
                  refine ⟨.slice a5 body.length c5, .slice a6 els.length c6, ?_, ((hE6.set (b := wo.heap.size) hltw).set (b := wo.heap.size) hltw).set (b := wo.heap.size) hltw, ((hB6.set (b := wo.heap.size) hltw).set (b := wo.heap.size) hltw).set (b := wo.heap.size) hltw, ((hL6.set (b := wo.heap.size) hltw).set (b := wo.heap.size) hltw).set (b := wo.heap.size) hltw, ((hbz.setCell (p := ⟨wo.heap.size, 3, none⟩) (Nat.le_refl _) _).setCell (p := ⟨wo.heap.size, 4, none⟩) (Nat.le_refl _) _).setCell (p := ⟨wo.heap.size, 5, none⟩) (Nat.le_refl _) _⟩
                  rw [hop0]
                  exact ((HR6.out.set 3 _).set 4 _).set 5 _
              case rest =>
                obtain ⟨vb, vl, hRc, hEc, hBc, hLc, hbc⟩ := hcut
                rw [hop0] at hRc
                obtain ⟨ab2, cb2, rfl⟩ := hBc.form
                obtain ⟨al2, cl2, rfl⟩ := hLc.form
                have y0 := hRc.cell (i := 0) rfl
                have y1 := hRc.cell (i := 1) rfl
                have y2 := hRc.cell (i := 2) rfl
                have y3 := hRc.cell (i := 3) rfl
                have y4 := hRc.cell (i := 4) rfl
                have y5 := hRc.cell (i := 5) rfl
                have hwc := hbc.size
                have hown2 := own_below Hown.out hbc (Nat.le_refl _)
                have hcx := stc_mk hEc hBc hLc (show wo.heap.size ≤ W2.heap.size by omega) (op := op0) (n := n) (name := nm)
                rw [hop0] at hcx
                have Hcx := Lib.hid hcx
                have Hbc := Lib.hid hbc
                have hs4 : w.heap.size ≤ wc.heap.size := Nat.le_trans hszr hwc
                clear hEc hBc hLc hcx hRc hbc
                go_wp2_with (at_builtin; refine wpList_append_at rfl (.tmp 62) (.tmp 64) 22 rfl hown2 info_stmt Try.underlying22 rfl (by decide) rfl 1 1 rfl rfl rfl (by unfold maxLen; omega) (by omega) hs4 ?_; intro v' w3 hown3 hg3 hb4 hat4)
                go_roundw
                case rel =>
                  obtain ⟨row, hrw⟩ : ∃ row : List Value, row = cs ++ [.int .u8 op0, .int .i64 n, .string (bstr nm), .slice ra es.length rcap, .slice ab2 (renSs mark body).length cb2, .slice al2 (renSs mark els).length cl2] := ⟨_, rfl⟩
                  rw [hop0] at hrw
                  have hr1 : w3.ownsRow w.heap.size 59 6 v' (k + 1) row := by rw [hrw]; exact hown3
                  have hr2 : StsC w3 (fun g => w.heap.size ≤ g ∧ v'.ownBlock ≠ some g) (renSs mark (xs.take (k + 1))) row := by
                    rw [hrw, Htk.out, renS]
                    have hn := Hnm.out
                    unfold renN1 at hn
                    rw [← hn]
                    exact sts_push Hown.out HX.out Hbc.out Hcx.out hszr (Below.refl _ _) hg3 hat4
                  have hr3 : Below w.heap.size w w3 := (HB.out.trans (Hbc.out.mono hszr)).trans hb4
                  first
                    | exact ⟨k + 1, row, by omega, by go_num, hr1, Lib.hid hr2, Lib.hid hr3⟩
                    | exact ⟨k + 1, by omega, by omega, row, hr1, Lib.hid hr2, Lib.hid hr3⟩
                case measure => simp [intOf]; omega
      · have hki : ¬ (k : Int) < (xs.length : Int) := by omega
        have hke : k = xs.length := by omega
        have Hown : Hid (wo.ownsRow w.heap.size 59 6 u5 xs.length cs) := Lib.hid (by rw [← hke]; exact hown)
        have HX2 : Hid (StsC wo (fun g => w.heap.size ≤ g ∧ u5.ownBlock ≠ some g) (renSs mark xs) cs) := Lib.hid (by have := HX.out; rw [hke, List.take_length] at this; exact this)
        clear hown HX
        go_wp2_with fail
        go_ret
        exact ⟨⟨_, cs, rfl, Hown.out, HX2.out⟩, HB.out⟩
end Go.Proofs.Ytdeneckmoejcfaa
