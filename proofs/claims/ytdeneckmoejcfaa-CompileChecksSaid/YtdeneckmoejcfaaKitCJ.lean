/- marcheskit's copies of trees, walked. -/
/- marcheskit's copies of statements, walked. -/
/- marchesref13: find, one, jumps, join, walked. -/
/- A world that parts from another in some blocks alone, and in new ones. No program in it. -/
import Derived.Test.YtdeneckmoejcfaaRLexJ
import Derived.Test.YtdeneckmoejcfaaRParPJ
import Derived.Test.YtdeneckmoejcfaaFineSJ
import Derived.Test.YtdeneckmoejcfaaRParAJ
import Derived.Test.YtdeneckmoejcfaaLibJ
set_option linter.unusedSimpArgs false
set_option linter.unusedVariables false
namespace Go.Proofs.Ytdeneckmoejcfaa
open Go.RowKit

/-- a copy of a row of expressions -/
def CopyEs (xs : List Ex) (w : World) (e : Ending) (w' : World) : Prop := (∃ r cs, e = .returned r ∧ w'.ownsRow w.heap.size 65 4 r xs.length cs ∧ ExsC w' (fun g => w.heap.size ≤ g ∧ r.ownBlock ≠ some g) xs cs) ∧ Below w.heap.size w w'
def CopyE1 (x : Ex) (w : World) (e : Ending) (w' : World) : Prop := (∃ cs : List Value, e = .returned (.agg cs.toArray) ∧ ExsC w' (fun g => w.heap.size ≤ g) [x] cs) ∧ Below w.heap.size w w'
theorem EsV.set {w : World} {m : Nat} {xs : List Ex} {v : Value} (h : EsV w m xs v) {b o : Nat} {x : Value} (hlt : b < m) : EsV (w.setCell ⟨b, o, none⟩ x) m xs v := h.grown (set_grown _ _ _ _) hlt
theorem SsV.set {w : World} {m : Nat} {xs : List St} {v : Value} (h : SsV w m xs v) {b o : Nat} {x : Value} (hlt : b < m) : SsV (w.setCell ⟨b, o, none⟩ x) m xs v := h.grown (set_grown _ _ _ _) hlt
theorem EsV.one {w : World} {m B : Nat} {op n : Int} {name : List UInt8} {args : List Ex} {v : Value} (h : EsV w m args v) (hB : B ≤ m) : ExsC w (fun g => B ≤ g) [.mk op n name args] [.int .u8 op, .int .i64 n, .string (bstr name), v] := by
  obtain ⟨cs, h1, h2, h3⟩ := h
  exact (ExsC.cons (P := fun g => m ≤ g) h1 h2 h3 .nil).weak fun g _ h => Nat.le_trans hB h
set_option maxRecDepth 100000 in
set_option maxHeartbeats 1000000 in
theorem copyE_any (op n : Int) (name : List UInt8) (args : List Ex) (v : Value) (w : World) (hv : ∃ a cap, v = .slice a args.length cap) (hC : ∀ w', Below w.heap.size w w' → Calls Try.prog 65 #[v] w' (CopyEs args w')) :
    Calls Try.prog 90 #[.agg #[.int .u8 op, .int .i64 n, .string (bstr name), v]] w (CopyE1 (.mk op n name args) w) := by
  obtain ⟨a, cap, rfl⟩ := hv
  have HC := Lib.hid hC
  clear hC
  go_enter Try.func90, Try.ntmps90
  go_upto_region 1 with (fail)
  obtain ⟨W0, hW0, hb0, hR0, hT0, hsz⟩ := opened2 w [.int .u8 op, .int .i64 n, .string (bstr name), .slice a args.length cap] zeroE 65 65
  simp only [zeroE] at hW0
  rw [← hW0]
  clear hW0
  have Hb0 := Lib.hid hb0
  have HR0 := Lib.hid hR0
  have HT0 := Lib.hid hT0
  have x3 := hR0.cell (i := 3) rfl
  clear hb0 hR0 hT0
  go_wp2_with fail
  refine (HC.out _ Hb0.out).mono ?_
  rintro e1 w1 ⟨⟨r, cs, rfl, hown, hX⟩, hb1⟩
  obtain ⟨ra, rcap, rfl, _, _⟩ := Sl.form (Sl.of_own hown)
  have HR1 := Lib.hid (HR0.out.below hb1 (Nat.le_refl _))
  have HT1 := Lib.hid (HT0.out.below hb1 (Nat.le_refl _))
  have Hb1 := Lib.hid (Hb0.out.trans (hb1.mono Hb0.out.size))
  have HE1 : Hid (EsV w1 (w.heap.size + 2) args (.slice ra args.length rcap)) := Lib.hid (EsV.of_own hown hX.weak1 hsz)
  clear hown hX hb1 x3 HR0 HT0
  have hRx := HR1.out
  have x0 := hRx.cell (i := 0) rfl
  have x1 := hRx.cell (i := 1) rfl
  have x2 := hRx.cell (i := 2) rfl
  have x3 := hRx.cell (i := 3) rfl
  have xf := hRx.free
  have hTx := HT1.out
  have y0 := hTx.cell (i := 0) rfl
  have y1 := hTx.cell (i := 1) rfl
  have y2 := hTx.cell (i := 2) rfl
  have y3 := hTx.cell (i := 3) rfl
  have yf := hTx.free
  clear hRx hTx
  go_wp2_with fail
  refine bodyPost_ret (v := .agg #[.int .u8 op, .int .i64 n, .string (bstr name), .slice ra args.length rcap]) (by simp [results, Try.results90, go_sem, y0, y1, y2, y3]) rfl ⟨⟨_, rfl, ?_⟩, ?_⟩
  · exact (((((HE1.out.set (by omega)).set (by omega)).set (by omega)).set (by omega)).set (by omega)).one (by omega)
  · exact ((((Hb1.out.setCell (Nat.le_refl _) _).setCell (by simp) _).setCell (by simp) _).setCell (by simp) _).setCell (by simp) _
set_option maxRecDepth 100000 in
set_option maxHeartbeats 1000000 in
theorem copyEs_any : ∀ (m : Nat) (xs : List Ex) (v : Value) (w : World) (B : Nat), szEs xs < m → szEs xs ≤ 1000000 → EsL w B xs v → B ≤ w.heap.size →
    Calls Try.prog 65 #[v] w (CopyEs xs w) := by
  intro m
  induction m with
  | zero => intro xs v w B h; omega
  | succ m ih =>
    intro xs v w B hm hsm hL hB
    obtain ⟨a, cap, rfl, hc1, hc2⟩ := hL.form
    have HL := Lib.hid hL
    have Hm := Lib.hid hm
    have Hih := Lib.hid ih
    have hlen : xs.length ≤ 1000000 := Nat.le_trans (szEs_len xs) hsm
    clear hm hL ih
    go_enter Try.func65, Try.ntmps65
    go_wp2_with fail
    go_loopw [3, 4, 5, 6, 7, 8, 9, 10, 11, 12, 13, 14, 15, 16, 17, 18, 19, 20] (fun t3 t4 _ _ _ _ _ _ _ _ _ _ _ _ _ _ _ _ wr => ∃ (k : Nat) (cs : List Value), k ≤ xs.length ∧ t4 = .int .i64 k ∧ wr.ownsRow w.heap.size 65 4 t3 k cs ∧ Hid (ExsC wr (fun g => w.heap.size ≤ g ∧ t3.ownBlock ≠ some g) (xs.take k) cs) ∧ Hid (Below w.heap.size w wr)) (fun _ t4 _ _ _ _ _ _ _ _ _ _ _ _ _ _ _ _ _ => xs.length - (intOf t4).toNat)
    case atStart => exact ⟨0, [], by omega, by first | rfl | go_num, World.ownsRow_nil _ _ _ _, Lib.hid .nil, Lib.hid (Below.refl _ _)⟩
    case round =>
      obtain ⟨k, cs, hk, rfl, hown, HX, HB⟩ := hrel
      have hszr := HB.out.size
      by_cases hkl : k < xs.length
      · have hki : (k : Int) < (xs.length : Int) := by omega
        have hcl : (xs.length : Int) ≤ 1000000 := by omega
        have hLr : EsL wr B xs (.slice a xs.length cap) := HL.out.low (HB.out.mono hB)
        obtain ⟨b, off, op2, n2, name2, args2, aa, ac, rfl, hbB, hbw, hat, c0, c1, c2, c3, hL2⟩ := hLr.at hkl
        have hz := szE_mk hat
        have HI := Lib.hid (copyE_any op2 n2 name2 args2 _ wr ⟨aa, ac, rfl⟩ (fun w' hb => Hih.out args2 _ w' B (by have := Hm.out; omega) (by omega) (hL2.low (hb.mono (Nat.le_trans hB hszr))) (Nat.le_trans hB (Nat.le_trans hszr hb.size))))
        have Htk : Hid (xs.take (k + 1) = xs.take k ++ [.mk op2 n2 name2 args2]) := Lib.hid (by
          obtain ⟨h1, h2⟩ := List.getElem?_eq_some_iff.1 hat
          rw [List.take_succ_eq_append_getElem hkl, h2])
        clear hLr hat hL2 hz
        go_wp2_with fail
        refine HI.out.mono ?_
        rintro e2 w2 ⟨⟨cx, rfl, hX2⟩, hb2⟩
        obtain ⟨op, n, name, args, ad, cp, hx, rfl⟩ := hX2.one
        rw [hx] at Htk hX2
        have HX2 := Lib.hid hX2
        have Hb2 := Lib.hid hb2
        have hs2 : w.heap.size ≤ w2.heap.size := Nat.le_trans hszr hb2.size
        have hown2 := (own_below hown hb2 (Nat.le_refl _)).alloc (.cells #[.int .u8 op, .int .i64 n, .string (bstr name), .slice ad args.length cp] 65)
        have Hbw := Lib.hid ((HB.out.trans (hb2.mono hszr)).alloc hs2 (.cells #[.int .u8 op, .int .i64 n, .string (bstr name), .slice ad args.length cp] 65))
        clear hX2 hb2 hx
        go_wp2_with (at_builtin; refine wpList_append_at rfl (.tmp 17) (.tmp 19) 57 rfl hown2 info_expr Try.underlying57 rfl (by decide) rfl 1 1 (by show Value.slice (some ⟨w2.heap.size + 1, 0, none⟩) 1 1 = _; simp) rfl rfl (by unfold maxLen; omega) (by omega) Hbw.out.size ?_; intro v' w3 hown3 hg3 hb4 hat4)
        go_roundw
        case rel => exact ⟨k + 1, cs ++ [.int .u8 op, .int .i64 n, .string (bstr name), .slice ad args.length cp], by omega, by go_num, hown3, Lib.hid (by rw [Htk.out]; exact exs_push hown HX.out Hb2.out HX2.out hszr ((Below.refl _ _).alloc (Nat.le_refl _) _) hg3 hat4), Lib.hid (Hbw.out.trans hb4)⟩
        case measure => simp [intOf]; omega
      · have hki : ¬ (k : Int) < (xs.length : Int) := by omega
        have hke : k = xs.length := by omega
        have Hown : Hid (wr.ownsRow w.heap.size 65 4 u3 xs.length cs) := Lib.hid (by rw [← hke]; exact hown)
        have HX2 : Hid (ExsC wr (fun g => w.heap.size ≤ g ∧ u3.ownBlock ≠ some g) xs cs) := Lib.hid (by have := HX.out; rw [hke, List.take_length] at this; exact this)
        clear hown HX
        go_wp2_with fail
        go_ret
        exact ⟨⟨_, cs, rfl, Hown.out, HX2.out⟩, HB.out⟩
end Go.Proofs.Ytdeneckmoejcfaa
namespace Go.Proofs.Ytdeneckmoejcfaa
open Go.RowKit

/-- a copy of a row of statements -/
def CopySs (xs : List St) (w : World) (e : Ending) (w' : World) : Prop := (∃ r cs, e = .returned r ∧ w'.ownsRow w.heap.size 59 6 r xs.length cs ∧ StsC w' (fun g => w.heap.size ≤ g ∧ r.ownBlock ≠ some g) xs cs) ∧ Below w.heap.size w w'
def CopyS1 (x : St) (w : World) (e : Ending) (w' : World) : Prop := (∃ cs : List Value, e = .returned (.agg cs.toArray) ∧ StsC w' (fun g => w.heap.size ≤ g) [x] cs) ∧ Below w.heap.size w w'
theorem StsC.weak1 {w : World} {P Q : Nat → Prop} {xs : List St} {cs : List Value} (h : StsC w (fun g => P g ∧ Q g) xs cs) : StsC w P xs cs := h.weak fun _ _ h => h.1
theorem stc_mk {w : World} {m B : Nat} {op n : Int} {name : List UInt8} {es : List Ex} {body els : List St} {ve vb vl : Value} (h1 : EsV w m es ve) (h2 : SsV w m body vb) (h3 : SsV w m els vl) (hB : B ≤ m) : StsC w (fun g => B ≤ g) [.mk op n name es body els] [.int .u8 op, .int .i64 n, .string (bstr name), ve, vb, vl] := by
  obtain ⟨cs, h, hc⟩ := stv_mk (op := op) (n := n) (name := name) h1 h2 h3 hB
  have e : cs = [.int .u8 op, .int .i64 n, .string (bstr name), ve, vb, vl] := by
    have := congrArg (fun v => match v with | .agg a => a.toList | _ => []) h
    simpa using this.symm
  rw [e] at hc
  exact hc
set_option maxRecDepth 100000 in
set_option maxHeartbeats 1000000 in
theorem copyS_any (op n : Int) (name : List UInt8) (es : List Ex) (body els : List St) (ve vb vl : Value) (w : World) (hve : ∃ a cap, ve = .slice a es.length cap) (hvb : ∃ a cap, vb = .slice a body.length cap) (hvl : ∃ a cap, vl = .slice a els.length cap)
    (hC : ∀ w', Below w.heap.size w w' → Calls Try.prog 65 #[ve] w' (CopyEs es w')) (hD : ∀ w', Below w.heap.size w w' → Calls Try.prog 32 #[vb] w' (CopySs body w')) (hE : ∀ w', Below w.heap.size w w' → Calls Try.prog 32 #[vl] w' (CopySs els w')) :
    Calls Try.prog 50 #[.agg #[.int .u8 op, .int .i64 n, .string (bstr name), ve, vb, vl]] w (CopyS1 (.mk op n name es body els) w) := by
  obtain ⟨ae, pe, rfl⟩ := hve
  obtain ⟨ab, pb, rfl⟩ := hvb
  obtain ⟨al, pl, rfl⟩ := hvl
  have HC := Lib.hid hC
  have HD := Lib.hid hD
  have HE := Lib.hid hE
  clear hC hD hE
  go_enter Try.func50, Try.ntmps50
  go_upto_region 1 with (fail)
  obtain ⟨W0, hW0, hb0, hR0, hT0, hsz⟩ := opened2 w [.int .u8 op, .int .i64 n, .string (bstr name), .slice ae es.length pe, .slice ab body.length pb, .slice al els.length pl] zeroS 59 59
  simp only [zeroS] at hW0
  rw [← hW0]
  clear hW0
  have Hb0 := Lib.hid hb0
  have HR0 := Lib.hid hR0
  have HT0 := Lib.hid hT0
  have x3 := hR0.cell (i := 3) rfl
  clear hb0 hR0 hT0
  go_wp2_with fail
  refine (HC.out _ Hb0.out).mono ?_
  rintro e1 w1 ⟨⟨r1, cs1, rfl, hown1, hX1⟩, hb1⟩
  obtain ⟨a1, c1, rfl, _, _⟩ := Sl.form (Sl.of_own hown1)
  have HR1 := Lib.hid (HR0.out.below hb1 (Nat.le_refl _))
  have HT1 := Lib.hid (HT0.out.below hb1 (Nat.le_refl _))
  have Hb1 := Lib.hid (Hb0.out.trans (hb1.mono Hb0.out.size))
  have HE1 : Hid (EsV w1 (w.heap.size + 2) es (.slice a1 es.length c1)) := Lib.hid (EsV.of_own hown1 hX1.weak1 hsz)
  have hsz1 := Nat.le_trans hsz hb1.size
  clear hown1 hX1 hb1 x3 HR0 HT0 Hb0
  have x3 := HR1.out.cell (i := 3) rfl
  have x4 := HR1.out.cell (i := 4) rfl
  have xf := HR1.out.free
  go_upto_region 2 with (fail)
  obtain ⟨W1, hW1, hR1, hg1⟩ := set1 HR1.out 3 (.slice a1 es.length c1)
  rw [← hW1]
  have HRa := Lib.hid hR1
  have HTa := Lib.hid (HT1.out.grown hg1 (by simp))
  have Hba : Hid (Below w.heap.size w W1) := Lib.hid (by rw [hW1]; exact Hb1.out.setCell (Nat.le_refl _) _)
  have HEa := Lib.hid (HE1.out.grown hg1 (by omega))
  have hsza : w.heap.size + 2 ≤ W1.heap.size := by rw [hW1]; simpa using hsz1
  clear hW1 hR1 hg1 x3 x4 xf HR1 HT1 Hb1 HE1
  have x4 := HRa.out.cell (i := 4) rfl
  go_wp2_with fail
  refine (HD.out _ Hba.out).mono ?_
  rintro e2 w2 ⟨⟨r2, cs2, rfl, hown2, hX2⟩, hb2⟩
  obtain ⟨a2, c2, rfl, _, _⟩ := Sl.form (Sl.of_own hown2)
  have HR2 := Lib.hid (HRa.out.below hb2 (Nat.le_refl _))
  have HT2 := Lib.hid (HTa.out.below hb2 (Nat.le_refl _))
  have Hb2 := Lib.hid (Hba.out.trans (hb2.mono Hba.out.size))
  have HE2 := Lib.hid (HEa.out.below hb2)
  have HF2 : Hid (SsV w2 (w.heap.size + 2) body (.slice a2 body.length c2)) := Lib.hid (SsV.of_own hown2 hX2.weak1 hsza)
  have hsz2 := Nat.le_trans hsza hb2.size
  clear hown2 hX2 hb2 x4 HRa HTa Hba HEa
  have x4 := HR2.out.cell (i := 4) rfl
  have x5 := HR2.out.cell (i := 5) rfl
  have xf := HR2.out.free
  go_upto_region 3 with (fail)
  obtain ⟨W2, hW2, hR2, hg2⟩ := set1 HR2.out 4 (.slice a2 body.length c2)
  rw [← hW2]
  have HRb := Lib.hid hR2
  have HTb := Lib.hid (HT2.out.grown hg2 (by simp))
  have Hbb : Hid (Below w.heap.size w W2) := Lib.hid (by rw [hW2]; exact Hb2.out.setCell (Nat.le_refl _) _)
  have HEb := Lib.hid (HE2.out.grown hg2 (by omega))
  have HFb := Lib.hid (HF2.out.grown hg2 (by omega))
  have hszb : w.heap.size + 2 ≤ W2.heap.size := by rw [hW2]; simpa using hsz2
  clear hW2 hR2 hg2 x4 x5 xf HR2 HT2 Hb2 HE2 HF2
  have x5 := HRb.out.cell (i := 5) rfl
  go_wp2_with fail
  refine (HE.out _ Hbb.out).mono ?_
  rintro e3 w3 ⟨⟨r3, cs3, rfl, hown3, hX3⟩, hb3⟩
  obtain ⟨a3, c3, rfl, _, _⟩ := Sl.form (Sl.of_own hown3)
  have HR3 := Lib.hid (HRb.out.below hb3 (Nat.le_refl _))
  have HT3 := Lib.hid (HTb.out.below hb3 (Nat.le_refl _))
  have Hb3 := Lib.hid (Hbb.out.trans (hb3.mono Hbb.out.size))
  have HE3 := Lib.hid (HEb.out.below hb3)
  have HF3 := Lib.hid (HFb.out.below hb3)
  have HG3 : Hid (SsV w3 (w.heap.size + 2) els (.slice a3 els.length c3)) := Lib.hid (SsV.of_own hown3 hX3.weak1 hszb)
  clear hown3 hX3 hb3 x5 HRb HTb Hbb HEb HFb
  have hRx := HR3.out
  have x0 := hRx.cell (i := 0) rfl
  have x1 := hRx.cell (i := 1) rfl
  have x2 := hRx.cell (i := 2) rfl
  have x3 := hRx.cell (i := 3) rfl
  have x4 := hRx.cell (i := 4) rfl
  have x5 := hRx.cell (i := 5) rfl
  have xf := hRx.free
  have hTx := HT3.out
  have y0 := hTx.cell (i := 0) rfl
  have y1 := hTx.cell (i := 1) rfl
  have y2 := hTx.cell (i := 2) rfl
  have y3 := hTx.cell (i := 3) rfl
  have y4 := hTx.cell (i := 4) rfl
  have y5 := hTx.cell (i := 5) rfl
  have yf := hTx.free
  clear hRx hTx
  go_wp2_with fail
  refine bodyPost_ret (v := .agg #[.int .u8 op, .int .i64 n, .string (bstr name), .slice a1 es.length c1, .slice a2 body.length c2, .slice a3 els.length c3]) (by simp [results, Try.results50, go_sem, y0, y1, y2, y3, y4, y5]) rfl ⟨⟨_, rfl, ?_⟩, ?_⟩
  · exact stc_mk (m := w.heap.size + 2) (((((((HE3.out.set (by omega)).set (by omega)).set (by omega)).set (by omega)).set (by omega)).set (by omega)).set (by omega)) (((((((HF3.out.set (by omega)).set (by omega)).set (by omega)).set (by omega)).set (by omega)).set (by omega)).set (by omega)) (((((((HG3.out.set (by omega)).set (by omega)).set (by omega)).set (by omega)).set (by omega)).set (by omega)).set (by omega)) (by omega)
  · exact ((((((Hb3.out.setCell (Nat.le_refl _) _).setCell (by simp) _).setCell (by simp) _).setCell (by simp) _).setCell (by simp) _).setCell (by simp) _).setCell (by simp) _
set_option maxRecDepth 100000 in
set_option maxHeartbeats 1000000 in
theorem copySs_any : ∀ (m : Nat) (xs : List St) (v : Value) (w : World) (B : Nat), szSs xs < m → szSs xs ≤ 1000000 → SsL w B xs v → B ≤ w.heap.size →
    Calls Try.prog 32 #[v] w (CopySs xs w) := by
  intro m
  induction m with
  | zero => intro xs v w B h; omega
  | succ m ih =>
    intro xs v w B hm hsm hL hB
    obtain ⟨a, cap, rfl, hc1, hc2⟩ := hL.form
    have HL := Lib.hid hL
    have Hm := Lib.hid hm
    have Hih := Lib.hid ih
    have hlen : xs.length ≤ 1000000 := Nat.le_trans (szSs_len xs) hsm
    clear hm hL ih
    go_enter Try.func32, Try.ntmps32
    go_wp2_with fail
    go_loopw [3, 4, 5, 6, 7, 8, 9, 10, 11, 12, 13, 14, 15, 16, 17, 18, 19, 20] (fun t3 t4 _ _ _ _ _ _ _ _ _ _ _ _ _ _ _ _ wr => ∃ (k : Nat) (cs : List Value), k ≤ xs.length ∧ t4 = .int .i64 k ∧ wr.ownsRow w.heap.size 59 6 t3 k cs ∧ Hid (StsC wr (fun g => w.heap.size ≤ g ∧ t3.ownBlock ≠ some g) (xs.take k) cs) ∧ Hid (Below w.heap.size w wr)) (fun _ t4 _ _ _ _ _ _ _ _ _ _ _ _ _ _ _ _ _ => xs.length - (intOf t4).toNat)
    case atStart => exact ⟨0, [], by omega, by first | rfl | go_num, World.ownsRow_nil _ _ _ _, Lib.hid .nil, Lib.hid (Below.refl _ _)⟩
    case round =>
      obtain ⟨k, cs, hk, rfl, hown, HX, HB⟩ := hrel
      have hszr := HB.out.size
      by_cases hkl : k < xs.length
      · have hki : (k : Int) < (xs.length : Int) := by omega
        have hcl : (xs.length : Int) ≤ 1000000 := by omega
        have hLr : SsL wr B xs (.slice a xs.length cap) := HL.out.low (HB.out.mono hB)
        obtain ⟨b, off, op2, n2, name2, es, body, els, ae, ce, ab, cb, al, cl, rfl, hbB, hbw, hat, c0, c1, c2, c3, c4, c5, hE, hBd, hEl⟩ := hLr.at hkl
        obtain ⟨hz1, hz2, hz3⟩ := szS_mk hat
        have HI := Lib.hid (copyS_any op2 n2 name2 es body els _ _ _ wr ⟨ae, ce, rfl⟩ ⟨ab, cb, rfl⟩ ⟨al, cl, rfl⟩
          (fun w' hb => copyEs_any _ es _ w' B (Nat.lt_succ_self _) (by omega) (hE.low (hb.mono (Nat.le_trans hB hszr))) (Nat.le_trans hB (Nat.le_trans hszr hb.size)))
          (fun w' hb => Hih.out body _ w' B (by have := Hm.out; omega) (by omega) (hBd.low (hb.mono (Nat.le_trans hB hszr))) (Nat.le_trans hB (Nat.le_trans hszr hb.size)))
          (fun w' hb => Hih.out els _ w' B (by have := Hm.out; omega) (by omega) (hEl.low (hb.mono (Nat.le_trans hB hszr))) (Nat.le_trans hB (Nat.le_trans hszr hb.size))))
        have Htk : Hid (xs.take (k + 1) = xs.take k ++ [.mk op2 n2 name2 es body els]) := Lib.hid (by
          obtain ⟨h1, h2⟩ := List.getElem?_eq_some_iff.1 hat
          rw [List.take_succ_eq_append_getElem hkl, h2])
        clear hLr hat hE hBd hEl hz1 hz2 hz3
        go_wp2_with fail
        refine HI.out.mono ?_
        rintro e2 w2 ⟨⟨cx, rfl, hX2⟩, hb2⟩
        obtain ⟨op, n, name, es, body, els, be, bb, bl, qe, qb, ql, hx, rfl⟩ := hX2.one
        rw [hx] at Htk hX2
        have HX2 := Lib.hid hX2
        have Hb2 := Lib.hid hb2
        have hs2 : w.heap.size ≤ w2.heap.size := Nat.le_trans hszr hb2.size
        have hown2 := (own_below hown hb2 (Nat.le_refl _)).alloc (.cells #[.int .u8 op, .int .i64 n, .string (bstr name), .slice be es.length qe, .slice bb body.length qb, .slice bl els.length ql] 59)
        have Hbw := Lib.hid ((HB.out.trans (hb2.mono hszr)).alloc hs2 (.cells #[.int .u8 op, .int .i64 n, .string (bstr name), .slice be es.length qe, .slice bb body.length qb, .slice bl els.length ql] 59))
        clear hX2 hb2 hx
        go_wp2_with (at_builtin; refine wpList_append_at rfl (.tmp 17) (.tmp 19) 22 rfl hown2 info_stmt Try.underlying22 rfl (by decide) rfl 1 1 (by show Value.slice (some ⟨w2.heap.size + 1, 0, none⟩) 1 1 = _; simp) rfl rfl (by unfold maxLen; omega) (by omega) Hbw.out.size ?_; intro v' w3 hown3 hg3 hb4 hat4)
        go_roundw
        case rel => exact ⟨k + 1, cs ++ [.int .u8 op, .int .i64 n, .string (bstr name), .slice be es.length qe, .slice bb body.length qb, .slice bl els.length ql], by omega, by go_num, hown3, Lib.hid (by rw [Htk.out]; exact sts_push hown HX.out Hb2.out HX2.out hszr ((Below.refl _ _).alloc (Nat.le_refl _) _) hg3 hat4), Lib.hid (Hbw.out.trans hb4)⟩
        case measure => simp [intOf]; omega
      · have hki : ¬ (k : Int) < (xs.length : Int) := by omega
        have hke : k = xs.length := by omega
        have Hown : Hid (wr.ownsRow w.heap.size 59 6 u3 xs.length cs) := Lib.hid (by rw [← hke]; exact hown)
        have HX2 : Hid (StsC wr (fun g => w.heap.size ≤ g ∧ u3.ownBlock ≠ some g) xs cs) := Lib.hid (by have := HX.out; rw [hke, List.take_length] at this; exact this)
        clear hown HX
        go_wp2_with fail
        go_ret
        exact ⟨⟨_, cs, rfl, Hown.out, HX2.out⟩, HB.out⟩
end Go.Proofs.Ytdeneckmoejcfaa
namespace Go.Proofs.Ytdeneckmoejcfaa
open Go.RowKit

def InsS.cells (i : InsS) : List Value := [.int .u8 i.op, .int .i64 i.a]
def cellsC (c : Code1) : List Value := c.flatMap InsS.cells
theorem cellsC_len (c : Code1) : (cellsC c).length = c.length * 2 := flat_len _ 2 (fun _ => rfl) c
theorem cellsC_app (a b : Code1) : cellsC (a ++ b) = cellsC a ++ cellsC b := by simp [cellsC]
theorem cellsC_one (i : InsS) : (cellsC [i]).all (fun u => u.oneCell') = true := rfl
theorem cellsC_all (c : Code1) : (cellsC c).all (fun u => u.oneCell') = true := by
  induction c with
  | nil => rfl
  | cons x r ih =>
    rw [show cellsC (x :: r) = cellsC [x] ++ cellsC r from cellsC_app [x] r, List.all_append, ih, cellsC_one]
    rfl
/-- a code that the call made itself -/
def OwnC (w : World) (B : Nat) (e : TypeId) (v : Value) (c : Code1) : Prop := w.ownsRow B e 2 v c.length (cellsC c)
def SlC (w : World) (c : Code1) (v : Value) : Prop := Sl w 2 c.length (cellsC c) v
theorem OwnC.sl {w : World} {B : Nat} {e : TypeId} {v : Value} {c : Code1} (h : OwnC w B e v c) : SlC w c v := Sl.of_own h
theorem OwnC.below {w w' : World} {B : Nat} {e : TypeId} {v : Value} {c : Code1} (h : OwnC w B e v c) (hb : Below w.heap.size w w') : OwnC w' B e v c := own_below h hb (Nat.le_refl _)
theorem own_mono' {w : World} {B B' : Nat} {e : TypeId} {sz : Nat} {v : Value} {n : Nat} {xs : List Value} (h : w.ownsRow B e sz v n xs) (hB : B' ≤ B) : w.ownsRow B' e sz v n xs := by
  obtain ⟨h1, h2⟩ := h
  refine ⟨h1, ?_⟩
  rcases h2 with hn | ⟨g, cap, cur, hv, hg, r⟩
  · exact .inl hn
  · exact .inr ⟨g, cap, cur, hv, Nat.le_trans hB hg, r⟩
theorem OwnV.own2 {w : World} {g : Nat} {e : TypeId} {vs : List Value} (h : OwnV w g e vs) {base n sz : Nat} (hb : base ≤ g) (hl : vs.length = n * sz) (hm : n ≤ maxLen) : w.ownsRow base e sz (.slice (some ⟨g, 0, none⟩) n n) n vs :=
  ⟨hl, .inr ⟨g, n, vs.toArray, rfl, hb, h, Nat.le_refl _, hm, by simp [hl], by rw [← hl]; simp⟩⟩
theorem SlC.below {w w' : World} {c : Code1} {v : Value} (h : SlC w c v) (hb : Below w.heap.size w w') : SlC w' c v := Sl.below (by omega) h hb (Nat.le_refl _)
theorem SlC.at {w : World} {c : Code1} {a : Option Addr} {m cap : Nat} (h : SlC w c (.slice a m cap)) {k : Nat} (hk : k < c.length) :
    ∃ b off, a = some ⟨b, off, none⟩ ∧ b < w.heap.size ∧ w.cell? ⟨b, off + k * 2, none⟩ = some (.int .u8 c[k].op) ∧ w.cell? ⟨b, off + k * 2 + 1, none⟩ = some (.int .i64 c[k].a) := by
  obtain ⟨b, off, rfl, hlt, hc⟩ := Sl.at (by omega) h (by omega)
  refine ⟨b, off, rfl, hlt, ?_, ?_⟩
  · have := hc (k * 2 + 0) (by omega)
    rw [show cellsC c = c.flatMap InsS.cells from rfl, flat_cell InsS.cells 2 (fun _ => rfl) c k hk 0 (by omega)] at this
    exact this
  · have := hc (k * 2 + 1) (by omega)
    rw [show cellsC c = c.flatMap InsS.cells from rfl, flat_cell InsS.cells 2 (fun _ => rfl) c k hk 1 (by omega)] at this
    rw [Nat.add_assoc]
    exact this
theorem info_rins : (Try.prog.info? 47).map (fun i => (i.zero, i.size, i.bytes)) = some (some (.agg #[.int .u8 0, .int .i64 0]), 2, 16) := by kernel_rfl
theorem rfind_any (l : Names) (s : List UInt8) (v : Value) (w : World) (hS : Strs w l v) (hl : l.length ≤ 1000000) :
    Calls Try.prog 71 #[v, .string (bstr s)] w fun e w' => e = .returned (.int .i64 ((placeS s l 0 : Int) - 1)) ∧ w = w' := by
  obtain ⟨a, cap, rfl, hc1, hc2⟩ := Sl.form hS
  have HS := Lib.hid hS
  obtain ⟨final, hfin⟩ : ∃ r, placeS s l 0 = r := ⟨_, rfl⟩
  have Hf : Hid (final = placeS s (l.drop 0) 0) := Lib.hid (by rw [List.drop_zero, hfin])
  rw [hfin]
  clear hfin hS
  go_enter Try.func71, Try.ntmps71
  go_wp2_with fail
  obtain ⟨wq, rfl⟩ : ∃ wq : World, wq = w := ⟨_, rfl⟩
  go_loopw [4, 5, 6, 7, 8, 9, 10, 11, 12, 13, 14, 15, 16, 17, 18] (fun _ t5 _ _ _ _ _ _ _ _ _ _ _ _ _ wr => ∃ k : Nat, k ≤ l.length ∧ t5 = .int .i64 k ∧ Hid (final = placeS s (l.drop k) k) ∧ wr = wq) (fun _ t5 _ _ _ _ _ _ _ _ _ _ _ _ _ _ => l.length - (intOf t5).toNat)
  case atStart => exact ⟨0, by omega, by first | rfl | go_num, Lib.hid Hf.out, rfl⟩
  case round =>
    obtain ⟨k, hk, rfl, Hk, rfl⟩ := hrel
    by_cases hlt : k < l.length
    · obtain ⟨b, off, rfl, hcell⟩ := Strs.cell HS.out (by omega)
      have hlt1 : (k : Int) < l.length := by omega
      have c0 := hcell k hlt
      have Hst := Lib.hid (place_step (s := s) (l := l) (k := k) hlt)
      obtain ⟨q, hq, hq2⟩ : ∃ q : Bool, ((bstr l[k]).toList == (bstr s).toList) = q ∧ (q = true ↔ l[k] = s) := ⟨_, rfl, str_eq _ _⟩
      generalize l[k] = kw at *
      have Hq := Lib.hid hq2
      clear hq2 hcell
      cases q
      · have Hk2 : Hid (final = placeS s (l.drop (k + 1)) (k + 1)) := Lib.hid (by rw [Hk.out, Hst.out, if_neg (fun e => by have := Hq.out.2 e; cases this)])
        go_wp2_with fail
        go_roundw
        case rel => exact ⟨k + 1, by omega, by go_num, Lib.hid Hk2.out, by first | rfl | trivial⟩
        case measure => simp [intOf]; omega
      · have Hk2 : Hid (final = k + 1) := Lib.hid (by rw [Hk.out, Hst.out, if_pos (Hq.out.1 rfl)])
        go_wp2_with fail
        go_ret
        exact ⟨by rw [Hk2.out]; simp; try omega, rfl⟩
    · have hlt1 : ¬ (k : Int) < l.length := by omega
      have Hk2 : Hid (final = 0) := Lib.hid (by rw [Hk.out, place_end (by omega)])
      go_wp2_with fail
      go_ret
      exact ⟨by rw [Hk2.out]; rfl, rfl⟩
theorem one_any (op a : Int) (w : World) : Calls Try.prog 72 #[.int .u8 op, .int .i64 a] w fun e w' => (∃ v, e = .returned v ∧ OwnC w' w.heap.size 47 v [⟨op, a⟩]) ∧ Below w.heap.size w w' := by
  go_enter Try.func72, Try.ntmps72
  go_wp2
  go_ret
  exact ⟨⟨_, rfl, (OwnV.new w 47 (cellsC [⟨op, a⟩])).own2 (sz := 2) (n := 1) (Nat.le_refl _) rfl (by decide)⟩, (Below.refl _ _).alloc (Nat.le_refl _) _⟩
theorem jumps_any (op a : Int) (w : World) : Calls Try.prog 55 #[.agg #[.int .u8 op, .int .i64 a]] w fun e w' => e = .returned (.bool (jumpB ⟨op, a⟩)) ∧ Below w.heap.size w w' := by
  obtain ⟨p1, p2, q1, q2, hq⟩ : ∃ p1 p2 : Bool, decide (op ≥ 11) = p1 ∧ decide (op ≤ 13) = p2 ∧ jumpB ⟨op, a⟩ = (p1 && p2) := ⟨_, _, rfl, rfl, by unfold jumpB; rw [Bool.decide_and]⟩
  rw [hq]
  clear hq
  have HB := Lib.hid ((Below.refl w.heap.size w).alloc (Nat.le_refl _) (.cells #[.int .u8 op, .int .i64 a] 47))
  cases p1 <;> cases p2
  all_goals
    go_enter Try.func55, Try.ntmps55
    go_wp2
    go_ret
    exact ⟨rfl, HB.out⟩
theorem shiftC_take {b : Code1} {k : Nat} (hk : k < b.length) (m : Int) : shiftC m (b.take (k + 1)) = shiftC m (b.take k) ++ [shiftI m b[k]] := by
  rw [List.take_succ_eq_append_getElem hk, shiftC_app]; rfl
set_option maxRecDepth 100000 in
set_option maxHeartbeats 1000000 in
theorem join_any (a b : Code1) (va vb : Value) (w : World) (hA : SlC w a va) (hB : SlC w b vb) (hla : a.length ≤ 1000000) (hlb : b.length ≤ 1000000) (hj : ∀ i ∈ b, jumpB i = true → 0 ≤ i.a ∧ i.a ≤ 1000000) :
    Calls Try.prog 58 #[va, vb] w fun e w' => (∃ v, e = .returned v ∧ OwnC w' w.heap.size 47 v (joinC a b)) ∧ Below w.heap.size w w' := by
  obtain ⟨aa, ca, rfl, _, _⟩ := Sl.form hA
  obtain ⟨ab, cb, rfl, hcb, hcb2⟩ := Sl.form hB
  have HA := Lib.hid hA
  have HB := Lib.hid hB
  obtain ⟨W1, hW1, hO1, hb1⟩ : ∃ W1, W1 = w.alloc (.cells #[] 47) ∧ W1.ownsRow w.heap.size 47 2 (.slice (some ⟨w.heap.size, 0, none⟩) 0 0) 0 [] ∧ Below w.heap.size w W1 := ⟨_, rfl, (OwnV.new w 47 []).own2 (n := 0) (sz := 2) (Nat.le_refl _) rfl (by decide), (Below.refl _ _).alloc (Nat.le_refl _) _⟩
  have hA1 : SlC W1 a (.slice aa a.length ca) := hA.below hb1
  have HA1 := Lib.hid hA1
  have Hb1 := Lib.hid hb1
  have HO1 := Lib.hid hO1
  have hs1 := hb1.size
  have Hj := Lib.hid hj
  clear hA hB hj hA1 hb1 hO1
  go_enter Try.func58, Try.ntmps58
  go_upto_region 1 with (fail)
  go_wp2_with (at_builtin; rw [← hW1]; clear hW1; refine wpList_append_src rfl (.tmp 8) (.tmp 9) 38 rfl HO1.out info_rins Try.underlying38 rfl (by decide) rfl HA1.out rfl (cellsC_all a) (by unfold maxLen; omega) (by omega) hs1 ?_; intro v0 w0 hown0 hg0 hb0 hat0)
  have hown0' : w0.ownsRow w.heap.size 47 2 v0 (a.length + 0) (cellsC a ++ cellsC (shiftC a.length (b.take 0))) := by
    rw [Nat.zero_add] at hown0
    rw [List.take_zero, show cellsC (shiftC a.length []) = [] from rfl, List.append_nil]
    exact hown0
  have Hb0 := Lib.hid (Hb1.out.trans hb0)
  clear hown0 hg0 hb0 hat0
  go_loopw [5, 6, 7, 11, 12, 13, 14, 15, 16, 17, 18, 19, 20, 21, 22, 23, 24, 25, 26, 27, 28, 29, 30, 31, 32] (fun t5 t6 _ _ _ _ _ _ _ _ _ _ _ _ _ _ _ _ _ _ _ _ _ _ _ wr => ∃ (k : Nat), k ≤ b.length ∧ t6 = .int .i64 k ∧ wr.ownsRow w.heap.size 47 2 t5 (a.length + k) (cellsC a ++ cellsC (shiftC a.length (b.take k))) ∧ Hid (Below w.heap.size w wr)) (fun _ t6 _ _ _ _ _ _ _ _ _ _ _ _ _ _ _ _ _ _ _ _ _ _ _ _ => b.length - (intOf t6).toNat)
  case atStart => exact ⟨0, by omega, by first | rfl | go_num, hown0', Lib.hid Hb0.out⟩
  case round =>
    obtain ⟨k, hk, rfl, hown, Hb⟩ := hrel
    by_cases hkl : k < b.length
    · have hki : (k : Int) < (b.length : Int) := by omega
      have hszr := Hb.out.size
      obtain ⟨bb, off, rfl, hbw, c0, c1⟩ := (HB.out.below Hb.out).at hkl
      have Hst := Lib.hid (shiftC_take hkl a.length)
      have Hjk := Lib.hid (Hj.out b[k] (List.getElem_mem hkl))
      have HJ := Lib.hid (jumps_any b[k].op b[k].a (wr.alloc (.cells #[.int .u8 b[k].op, .int .i64 b[k].a] 47)))
      have hX1 := OwnV.new wr 47 [.int .u8 b[k].op, .int .i64 b[k].a]
      have HX1 := Lib.hid hX1
      obtain ⟨op, x, he⟩ : ∃ op x, b[k] = ⟨op, x⟩ := ⟨_, _, rfl⟩
      have Hsh : Hid (shiftI a.length ⟨op, x⟩ = if jumpB ⟨op, x⟩ = true then ⟨op, x + a.length⟩ else ⟨op, x⟩) := Lib.hid rfl
      rw [he] at Hst Hjk HJ HX1 c0 c1
      obtain ⟨q, hq⟩ : ∃ q, jumpB ⟨op, x⟩ = q := ⟨_, rfl⟩
      rw [hq] at HJ Hsh Hjk
      have hala : (a.length : Int) ≤ 1000000 := by omega
      have hala0 : (0 : Int) ≤ (a.length : Int) := by omega
      have hltv : ∀ g, u5.ownBlock = some g → g < wr.heap.size := fun g hg => (hown.lt g hg).2
      clear hX1 he hq
      go_wp2_with fail
      refine HJ.out.mono ?_
      rintro e2 w2 ⟨rfl, hb2⟩
      have HX2 := Lib.hid (HX1.out.below hb2 (Nat.le_refl _))
      have hown2 := own_below (hown.alloc (.cells #[.int .u8 op, .int .i64 x] 47)) hb2 (Nat.le_refl _)
      have Hb2 := Lib.hid ((Hb.out.alloc hszr (.cells #[.int .u8 op, .int .i64 x] 47)).trans (hb2.mono (by simp; omega)))
      have hlt2 : wr.heap.size < w2.heap.size := HX2.out.lt
      have x0 := HX2.out.cell (i := 0) rfl
      have x1 := HX2.out.cell (i := 1) rfl
      have xf := HX2.out.free
      clear hb2 c0 c1
      cases q with
      | true =>
        obtain ⟨hj0, hj1⟩ := Hjk.out rfl
        have Hst2 : Hid (shiftC a.length (b.take (k + 1)) = shiftC a.length (b.take k) ++ [⟨op, x + a.length⟩]) := Lib.hid (by rw [Hst.out, Hsh.out, if_pos rfl])
        obtain ⟨W3, hW3, hown3, hb3⟩ : ∃ W3, W3 = w2.setCell ⟨wr.heap.size, 1, none⟩ (.int .i64 (x + a.length)) ∧ W3.ownsRow w.heap.size 47 2 u5 (a.length + k) (cellsC a ++ cellsC (shiftC a.length (b.take k))) ∧ Below w.heap.size w W3 := ⟨_, rfl, own_set_ne hown2 (fun g hg e => by have := hltv g hg; omega) _ _, Hb2.out.setCell (by show w.heap.size ≤ wr.heap.size; exact hszr) _⟩
        have hOx : OwnV W3 wr.heap.size 47 [.int .u8 op, .int .i64 (x + a.length)] := by rw [hW3]; exact HX2.out.set 1 _
        have Hb3 := Lib.hid hb3
        have HW3 := Lib.hid hW3
        have hs3 := hb3.size
        clear hb3 hW3 hown2
        go_upto_region 8 with (fail)
        rw [← HW3.out]
        have y0 := hOx.cell (i := 0) rfl
        have y1 := hOx.cell (i := 1) rfl
        go_wp2_with (at_builtin; refine wpList_append_at rfl (.tmp 29) (.tmp 31) 38 rfl hown3 info_rins Try.underlying38 rfl (by decide) rfl 1 1 rfl rfl rfl (by unfold maxLen; omega) (by omega) hs3 ?_; intro v' w4 hown4 hg4 hb4 hat4)
        go_roundw
        case rel => exact ⟨k + 1, by omega, by go_num, by rw [Hst2.out, cellsC_app, ← List.append_assoc]; exact hown4, Lib.hid (Hb3.out.trans hb4)⟩
        case measure => simp [intOf]; omega
      | false =>
        have Hst2 : Hid (shiftC a.length (b.take (k + 1)) = shiftC a.length (b.take k) ++ [⟨op, x⟩]) := Lib.hid (by rw [Hst.out, Hsh.out, if_neg (by decide)])
        have hs3 := Hb2.out.size
        go_wp2_with (at_builtin; refine wpList_append_at rfl (.tmp 29) (.tmp 31) 38 rfl hown2 info_rins Try.underlying38 rfl (by decide) rfl 1 1 rfl rfl rfl (by unfold maxLen; omega) (by omega) hs3 ?_; intro v' w4 hown4 hg4 hb4 hat4)
        go_roundw
        case rel => exact ⟨k + 1, by omega, by go_num, by rw [Hst2.out, cellsC_app, ← List.append_assoc]; exact hown4, Lib.hid (Hb2.out.trans hb4)⟩
        case measure => simp [intOf]; omega
    · have hki : ¬ (k : Int) < (b.length : Int) := by omega
      have hke : k = b.length := by omega
      have Hown : Hid (OwnC wr w.heap.size 47 u5 (joinC a b)) := Lib.hid (by
        unfold OwnC
        rw [joinC_len, joinC, cellsC_app]
        rw [hke, List.take_length] at hown
        exact hown)
      clear hown
      go_wp2_with fail
      go_ret
      exact ⟨⟨_, rfl, Hown.out⟩, Hb.out⟩
end Go.Proofs.Ytdeneckmoejcfaa
namespace Go.Proofs.Ytdeneckmoejcfaa
open Go.RowKit

/-- .. in draws alone -/
def DrewOf (w w' : World) : Prop := ∃ n, w' = w.drewN n
theorem DrewOf.start (w : World) : DrewOf w w.drew := ⟨1, rfl⟩
theorem Below.drewN {B : Nat} {a b : World} (h : Below B a b) (n : Nat) : Below B a (b.drewN n) := h.trans (b := b) (c := b.drewN n) ⟨rfl, rfl, rfl, Nat.le_refl _, fun _ _ => rfl⟩
structure Only (S : Nat → Prop) (w w' : World) : Prop where
  os : w'.os = w.os
  tape : w'.tape = w.tape
  output : w'.output = w.output
  size : w.heap.size ≤ w'.heap.size
  block : ∀ k, k < w.heap.size → ¬ S k → w'.heap[k]? = w.heap[k]?
theorem Only.refl (S : Nat → Prop) (w : World) : Only S w w := ⟨rfl, rfl, rfl, Nat.le_refl _, fun _ _ _ => rfl⟩
theorem Only.trans {S : Nat → Prop} {a b c : World} (h : Only S a b) (k : Only S b c) : Only S a c :=
  ⟨k.os.trans h.os, k.tape.trans h.tape, k.output.trans h.output, Nat.le_trans h.size k.size, fun i hi hs => (k.block i (Nat.lt_of_lt_of_le hi h.size) hs).trans (h.block i hi hs)⟩
theorem Only.mono {S T : Nat → Prop} {a b : World} (h : Only S a b) (hS : ∀ k, k < a.heap.size → S k → T k) : Only T a b :=
  ⟨h.os, h.tape, h.output, h.size, fun i hi hs => h.block i hi fun hk => hs (hS i hi hk)⟩
theorem Only.drewN {S : Nat → Prop} {a b : World} (h : Only S a b) (n : Nat) : Only S a (b.drewN n) := ⟨h.os, h.tape, h.output, h.size, h.block⟩
theorem Only.drew {S : Nat → Prop} {a b : World} (h : Only S a b) : Only S a b.drew := ⟨h.os, h.tape, h.output, h.size, h.block⟩
theorem Only.of_below {S : Nat → Prop} {w w' : World} (h : Below w.heap.size w w') : Only S w w' := ⟨h.os, h.tape, h.output, h.size, fun k hk _ => h.block k hk⟩
theorem Only.setCell {S : Nat → Prop} {a b : World} (h : Only S a b) {p : Addr} (hp : a.heap.size ≤ p.block ∨ S p.block) (u : Value) : Only S a (b.setCell p u) := by
  refine ⟨h.os, h.tape, h.output, ?_, fun k hk hs => ?_⟩
  · have := ((Below.refl 0 b).setCell (p := p) (Nat.zero_le _) u).size; exact Nat.le_trans h.size this
  · rw [Below.heap_setCell b p u k (fun e => by subst e; rcases hp with hp | hp; omega; exact hs hp)]
    exact h.block k hk hs
theorem Only.setNew {S : Nat → Prop} {a b : World} (h : Only S a b) {g o : Nat} (hg : a.heap.size ≤ g) (u : Value) : Only S a (b.setCell ⟨g, o, none⟩ u) := h.setCell (.inl hg) u
theorem Only.setIn {S : Nat → Prop} {a b : World} (h : Only S a b) {g o : Nat} (hg : S g) (u : Value) : Only S a (b.setCell ⟨g, o, none⟩ u) := h.setCell (.inr hg) u
theorem Only.alloc {S : Nat → Prop} {a b : World} (h : Only S a b) (o : Obj) : Only S a (b.alloc o) := by
  refine ⟨h.os, h.tape, h.output, ?_, fun k hk hs => ?_⟩
  · have := h.size; simp; omega
  · rw [Below.heap_alloc b o k (Nat.lt_of_lt_of_le hk h.size)]
    exact h.block k hk hs
theorem Only.of_grown {S : Nat → Prop} {a b : World} {row : Option Nat} (h : a.grownBy b row) (hr : ∀ g, row = some g → S g) : Only S a b :=
  ⟨h.os, h.tape, h.output, h.size, fun k hk hs => h.block k hk fun e => hs (hr k e.symm)⟩
theorem Only.below {S : Nat → Prop} {w w' : World} (h : Only S w w') {B : Nat} (hS : ∀ k, S k → B ≤ k) (hB : B ≤ w.heap.size) : Below B w w' :=
  ⟨h.os, h.tape, h.output, h.size, fun k hk => h.block k (by omega) fun hs => by have := hS k hs; omega⟩
theorem Only.own {S : Nat → Prop} {w w' : World} (h : Only S w w') {g : Nat} {e : TypeId} {vs : List Value} (ho : OwnV w g e vs) (hn : ¬ S g) : OwnV w' g e vs := by
  have hl := ho.lt
  unfold OwnV at *
  rw [h.block g hl hn]; exact ho
theorem Only.row {S : Nat → Prop} {w w' : World} (h : Only S w w') {base : Nat} {e : TypeId} {sz : Nat} {v : Value} {n : Nat} {xs : List Value} (ho : w.ownsRow base e sz v n xs) (hn : ∀ g, v.ownBlock = some g → ¬ S g) : w'.ownsRow base e sz v n xs := by
  obtain ⟨h1, h2⟩ := ho
  refine ⟨h1, ?_⟩
  rcases h2 with h2 | ⟨g, cap, cur, rfl, hg, hh, rest⟩
  · exact .inl h2
  · exact .inr ⟨g, cap, cur, rfl, hg, by rw [h.block g (lt_of_block hh) (hn g rfl)]; exact hh, rest⟩
theorem Only.cell {S : Nat → Prop} {w w' : World} (h : Only S w w') {p : Addr} {v : Value} (hv : w.cell? p = some v) (hn : ¬ S p.block) : w'.cell? p = some v := by
  rw [World.cell?_of_block (w := w) (h.block p.block (World.block_lt_of_cell? w _ hv) hn)]; exact hv
theorem Only.sl {S : Nat → Prop} {w w' : World} (h : Only S w w') {sz n : Nat} {cs : List Value} {v : Value} (hs : Sl w sz n cs v) (hn : n = 0 ∨ ∀ g, v.ownBlock = some g → ¬ S g) : Sl w' sz n cs v := by
  obtain ⟨a, cap, rfl, h2, h3, h4, h5⟩ := hs
  refine ⟨a, cap, rfl, h2, h3, h4, fun hp => ?_⟩
  obtain ⟨b, off, rfl, hc⟩ := h5 hp
  refine ⟨b, off, rfl, fun j hj => ?_⟩
  have h1 : cs[j]? = some (cs[j]'(by rw [h4]; exact hj)) := List.getElem?_eq_getElem _
  rw [h1]
  refine h.cell ((hc j hj).trans h1) ?_
  rcases hn with rfl | hn
  · omega
  · exact hn b rfl
theorem Only.grown {S : Nat → Prop} {a b c : World} (h : Only S a b) {row : Option Nat} (hg : b.grownBy c row) (hr : ∀ r, row = some r → a.heap.size ≤ r) : Only S a c := by
  refine ⟨hg.os.trans h.os, hg.tape.trans h.tape, hg.output.trans h.output, Nat.le_trans h.size hg.size, fun k hk hs => ?_⟩
  rw [hg.block k (Nat.lt_of_lt_of_le hk h.size) (fun e => by have := hr k e.symm; omega)]
  exact h.block k hk hs
/-- .. what parts further in blocks that are new to the first world -/
theorem Only.transNew {S T : Nat → Prop} {a b c : World} (h : Only S a b) (k : Only T b c) (hT : ∀ i, T i → S i ∨ a.heap.size ≤ i) : Only S a c :=
  ⟨k.os.trans h.os, k.tape.trans h.tape, k.output.trans h.output, Nat.le_trans h.size k.size, fun i hi hs => (k.block i (Nat.lt_of_lt_of_le hi h.size) (fun ht => by rcases hT i ht with h1 | h1; exact hs h1; omega)).trans (h.block i hi hs)⟩
theorem OwnV.drewN {w : World} {g : Nat} {e : TypeId} {vs : List Value} (h : OwnV w g e vs) (n : Nat) : OwnV (w.drewN n) g e vs := h
theorem OwnV.drew {w : World} {g : Nat} {e : TypeId} {vs : List Value} (h : OwnV w g e vs) : OwnV w.drew g e vs := h
theorem OwnV.newAt {w : World} {g : Nat} (hg : g = w.heap.size) (e : TypeId) (vs : List Value) : OwnV (w.alloc (.cells vs.toArray e)) g e vs := by subst hg; exact OwnV.new w e vs
theorem OwnV.set_ne {w : World} {g : Nat} {e : TypeId} {vs : List Value} (h : OwnV w g e vs) {b o : Nat} (hne : g ≠ b) (v : Value) : OwnV (w.setCell ⟨b, o, none⟩ v) g e vs := by
  unfold OwnV at *
  rw [Below.heap_setCell w ⟨b, o, none⟩ v g hne]; exact h
end Go.Proofs.Ytdeneckmoejcfaa
