/- The reference parser's branch, walked. -/
import Derived.Test.YtdeneckmoejcfaaRParLJ
set_option linter.unusedSimpArgs false
set_option linter.unusedVariables false
namespace Go.Proofs.Ytdeneckmoejcfaa
open Go.RowKit

theorem opened2 (w : World) (X Y : List Value) (tX tY : TypeId) : ∃ W0, W0 = (w.alloc (.cells X.toArray tX)).alloc (.cells Y.toArray tY) ∧ Below w.heap.size w W0 ∧ OwnV W0 w.heap.size tX X ∧ OwnV W0 (w.heap.size + 1) tY Y ∧ w.heap.size + 2 ≤ W0.heap.size := opened w X Y tX tY
theorem while_if {l : List Tok} {i : Nat} {s t : List UInt8} (hs : isS l i s = true) (hne : s ≠ t) : isS l i t = false := by
  cases h : isS l i t with
  | false => rfl
  | true => exact absurd ((is_text hs).2.symm.trans (is_text h).2) hne
set_option maxRecDepth 100000 in
set_option maxHeartbeats 1000000 in
theorem branch_while (l : List Tok) (S : Nat → Nat → PR St) (v : Value) (hG : Good l) (hm : l.length ≤ 1000000) (f i o : Nat) (w : World) (hS : StmtC l S i) (hT : Toks w l v) (hi : i + 1 < l.length) (ho : o ≤ 300) (hq1 : isS l i [119, 104, 105, 108, 101] = true) :
    Calls Try.prog 81 #[v, .int .i64 i, .int .i64 o] w fun e w' => StmtE l i w w' e (branchS l S (f + 1) i o) ∧ Below w.heap.size w w' := by
  have HT := Lib.hid hT
  have HI1 : Hid (∀ w', Below w.heap.size w w' → Calls Try.prog 80 #[v, .int .i64 i, .string { data := #[119, 104, 105, 108, 101] }] w' fun e w'' => e = .returned (.bool true) ∧ w' = w'') := is_toks hT (by omega) hq1
  have HN : Hid (∀ w', Below w.heap.size w w' → Calls Try.prog 78 #[v, .int .i64 ((i : Int) + 1), .int .i64 o, .string { data := #[40] }, .string { data := #[41] }, .int .i64 1] w' fun e w'' => ExsE l (i + 1) w' w'' e (insideS l (exprT l) (i + 1) o [40] [41] 1) ∧ Below w'.heap.size w' w'') := Lib.hid (fun (w' : World) (hb : Below w.heap.size w w') => inside_any l (exprT l) v (i + 1) o 1 [40] [41] w' (exprC_any hG (by omega) _) (Sl.below (by omega) hT hb (Nat.le_refl _)) hG hi (by omega) ho (by omega) (by omega))
  have HB : Hid (∀ j, i < j → j < l.length → ∀ (o : Nat), o ≤ 300 → ∀ w', Below w.heap.size w w' → Calls Try.prog 96 #[v, .int .i64 j, .int .i64 o] w' fun e w'' => StsE l j w' w'' e (blockS l S j o) ∧ Below w'.heap.size w' w'') := Lib.hid (fun j h1 h2 o ho (w' : World) (hb : Below w.heap.size w w') => block_any l S v j o w' (hS.mono (by omega)) (Sl.below (by omega) hT hb (Nat.le_refl _)) hG h2 hm ho)
  have HF : Hid (branchS l S (f + 1) i o = (insideS l (exprT l) (i + 1) o [40] [41] 1).andThen fun x j => (blockS l S j o).andThen fun body k => .ok (.mk 5 0 [] x body []) k) := Lib.hid (by rw [branchS, hq1]; rfl)
  obtain ⟨final, hfin⟩ : ∃ r, branchS l S (f + 1) i o = r := ⟨_, rfl⟩
  rw [hfin] at HF ⊢
  obtain ⟨W0, hW0, hb0, hR0, hS0, hsz⟩ := opened2 w zeroS [.int .u8 4, .int .i64 0, .string { data := #[] }, .slice none 0 0, .slice none 0 0, .slice none 0 0] 59 59
  simp only [zeroS] at hW0
  have Hb0 := Lib.hid hb0
  have HR0 := Lib.hid hR0
  have HS0 := Lib.hid hS0
  have hi2 : (i : Int) ≤ 1000000 := by omega
  have HneG : Hid (some w.heap.size ≠ some (w.heap.size + 1)) := Lib.hid (fun e => by have := Option.some.inj e; omega)
  generalize insideS l (exprT l) (i + 1) o [40] [41] 1 = R1 at *
  clear hfin hq1 hT hb0 hR0 hS0 hS
  go_enter Try.func81, Try.ntmps81
  go_wp2_with fail
  rw [← hW0]
  clear hW0
  go_at_call 80
  refine (HI1.out _ Hb0.out).mono ?_
  rintro e1 w1 ⟨rfl, rfl⟩
  have hSx := HS0.out
  have s0 := hSx.cell (i := 0) rfl
  have s1 := hSx.cell (i := 1) rfl
  have s2 := hSx.cell (i := 2) rfl
  have s3 := hSx.cell (i := 3) rfl
  have s4 := hSx.cell (i := 4) rfl
  have s5 := hSx.cell (i := 5) rfl
  have sf := hSx.free
  clear hSx
  go_wp2_with fail
  obtain ⟨W1, hW1, hS1, hg1⟩ := set1 HS0.out 0 (.int .u8 5)
  rw [← hW1]
  have HS1 : Hid (OwnV W1 (w.heap.size + 1) 59 [.int .u8 5, .int .i64 0, .string { data := #[] }, .slice none 0 0, .slice none 0 0, .slice none 0 0]) := Lib.hid hS1
  have HR1 := Lib.hid (HR0.out.grown hg1 HneG.out)
  have Hb1 := Lib.hid (Hb0.out.trans (grown_below hg1 (by omega) Hb0.out.size))
  have hsz1 : w.heap.size + 2 ≤ W1.heap.size := Nat.le_trans hsz hg1.size
  clear hW1 hS1 hg1 s0 s1 s2 s3 s4 s5 sf HS0 HR0 Hb0 hsz
  go_at_call 78
  refine (HN.out _ Hb1.out).mono ?_
  rintro e2 w2 ⟨he2, hb2⟩
  have HS2 := Lib.hid (HS1.out.below hb2 (Nat.le_refl _))
  have HR2 := Lib.hid (HR1.out.below hb2 (Nat.le_refl _))
  have Hb2 := Lib.hid (Hb1.out.trans (hb2.mono Hb1.out.size))
  have hsz2 := Nat.le_trans hsz1 hb2.size
  clear hb2 HS1 HR1 Hb1 HN HI1
  have hSx := HS2.out
  have s0 := hSx.cell (i := 0) rfl
  have s1 := hSx.cell (i := 1) rfl
  have s2 := hSx.cell (i := 2) rfl
  have s3 := hSx.cell (i := 3) rfl
  have s4 := hSx.cell (i := 4) rfl
  have s5 := hSx.cell (i := 5) rfl
  have sf := hSx.free
  clear hSx
  cases R1 with
  | err a c =>
    obtain ⟨rfl, hc, hal⟩ := he2
    have Hf2 : Hid (final = .err a c) := Lib.hid HF.out
    have hc0 : (c != 0) = true := by rcases hc with rfl | rfl <;> rfl
    have Hc := Lib.hid hc
    clear hc
    have hSx := HR2.out
    have x0 := hSx.cell (i := 0) rfl
    have x1 := hSx.cell (i := 1) rfl
    have x2 := hSx.cell (i := 2) rfl
    have x3 := hSx.cell (i := 3) rfl
    have x4 := hSx.cell (i := 4) rfl
    have x5 := hSx.cell (i := 5) rfl
    have xf := hSx.free
    clear hSx
    go_wp2_with fail
    refine bodyPost_ret (v := .tuple #[.agg #[.int .u8 5, .int .i64 0, .string { data := #[] }, .slice none 0 0, .slice none 0 0, .slice none 0 0], .int .i64 a, .int .i64 c]) (by simp [results, Try.results81, go_sem, x0, x1, x2, x3, x4, x5]) rfl ⟨?_, ((((((Hb2.out).setCell (Nat.le_refl _) _).setCell (Nat.le_refl _) _).setCell (Nat.le_refl _) _).setCell (Nat.le_refl _) _).setCell (Nat.le_refl _) _).setCell (Nat.le_refl _) _⟩
    rw [Hf2.out]
    exact ⟨_, _, _, _, _, _, _, _, _, _, _, _, rfl, Hc.out, hal⟩
  | ok xs j =>
    obtain ⟨v2, rfl, ⟨cs, hown, hX⟩, hij, hjl⟩ := he2
    replace hX := hX.weak1
    have HE := Lib.hid (EsV.of_own hown hX hsz1)
    obtain ⟨a2, cap2, rfl⟩ := HE.out.form
    have HB1 := Lib.hid (HB.out j (by omega) hjl o ho)
    obtain ⟨R2, hR2⟩ : ∃ r, blockS l S j o = r := ⟨_, rfl⟩
    rw [hR2] at HB1
    have HF2 := Lib.hid HF.out
    simp only [PR.andThen] at HF2
    rw [hR2] at HF2
    clear hX hown hR2 HF
    go_wp2_with fail
    obtain ⟨W3, hW3, hS3, hg3⟩ := set1 HS2.out 3 (.slice a2 xs.length cap2)
    rw [← hW3]
    have HS3 : Hid (OwnV W3 (w.heap.size + 1) 59 [.int .u8 5, .int .i64 0, .string { data := #[] }, .slice a2 xs.length cap2, .slice none 0 0, .slice none 0 0]) := Lib.hid hS3
    have HR3 := Lib.hid (HR2.out.grown hg3 HneG.out)
    have Hb3 := Lib.hid (Hb2.out.trans (grown_below hg3 (by omega) Hb2.out.size))
    have hsz3 : w.heap.size + 2 ≤ W3.heap.size := Nat.le_trans hsz2 hg3.size
    have HE3 := Lib.hid (HE.out.grown hg3 (by omega))
    clear hW3 hS3 hg3 s0 s1 s2 s3 s4 s5 sf HS2 HR2 Hb2 hsz2 HE
    go_at_call 96
    refine (HB1.out _ Hb3.out).mono ?_
    rintro e4 w4 ⟨he4, hb4⟩
    have HS4 := Lib.hid (HS3.out.below hb4 (Nat.le_refl _))
    have HR4 := Lib.hid (HR3.out.below hb4 (Nat.le_refl _))
    have HE4 := Lib.hid (HE3.out.below hb4)
    have Hb4 := Lib.hid (Hb3.out.trans (hb4.mono Hb3.out.size))
    have hsz4 := Nat.le_trans hsz3 hb4.size
    clear hb4 HS3 HR3 Hb3 HE3 HB1
    have hSx := HS4.out
    have s0 := hSx.cell (i := 0) rfl
    have s1 := hSx.cell (i := 1) rfl
    have s2 := hSx.cell (i := 2) rfl
    have s3 := hSx.cell (i := 3) rfl
    have s4 := hSx.cell (i := 4) rfl
    have s5 := hSx.cell (i := 5) rfl
    have sf := hSx.free
    clear hSx
    cases R2 with
    | err a c =>
      obtain ⟨rfl, hc, hal⟩ := he4
      have Hf2 : Hid (final = .err a c) := Lib.hid HF2.out
      have hc0 : (c != 0) = true := by rcases hc with rfl | rfl <;> rfl
      have Hc := Lib.hid hc
      clear hc
      have hSx := HR4.out
      have x0 := hSx.cell (i := 0) rfl
      have x1 := hSx.cell (i := 1) rfl
      have x2 := hSx.cell (i := 2) rfl
      have x3 := hSx.cell (i := 3) rfl
      have x4 := hSx.cell (i := 4) rfl
      have x5 := hSx.cell (i := 5) rfl
      have xf := hSx.free
      clear hSx
      go_wp2_with fail
      refine bodyPost_ret (v := .tuple #[.agg #[.int .u8 5, .int .i64 0, .string { data := #[] }, .slice a2 xs.length cap2, .slice none 0 0, .slice none 0 0], .int .i64 a, .int .i64 c]) (by simp [results, Try.results81, go_sem, x0, x1, x2, x3, x4, x5]) rfl ⟨?_, ((((((Hb4.out).setCell (Nat.le_refl _) _).setCell (Nat.le_refl _) _).setCell (Nat.le_refl _) _).setCell (Nat.le_refl _) _).setCell (Nat.le_refl _) _).setCell (Nat.le_refl _) _⟩
      rw [Hf2.out]
      exact ⟨_, _, _, _, _, _, _, _, _, _, _, _, rfl, Hc.out, hal⟩
    | ok body k =>
      obtain ⟨v4, rfl, ⟨cs4, hown, hX⟩, hjk, hkl⟩ := he4
      have HBd := Lib.hid (SsV.of_own hown hX hsz3)
      obtain ⟨a4, cap4, rfl⟩ := HBd.out.form
      obtain ⟨W5, hW5, hS5, hg5⟩ := set1 HS4.out 4 (.slice a4 body.length cap4)
      have HS5 : Hid (OwnV W5 (w.heap.size + 1) 59 [.int .u8 5, .int .i64 0, .string { data := #[] }, .slice a2 xs.length cap2, .slice a4 body.length cap4, .slice none 0 0]) := Lib.hid hS5
      have HR5 := Lib.hid (HR4.out.grown hg5 HneG.out)
      have Hb5 := Lib.hid (Hb4.out.trans (grown_below hg5 (by omega) Hb4.out.size))
      have hsz5 : w.heap.size + 2 ≤ W5.heap.size := Nat.le_trans hsz4 hg5.size
      have HE5 := Lib.hid (HE4.out.grown hg5 (by omega))
      have HBd5 := Lib.hid (HBd.out.grown hg5 (by omega))
      have HW5 := Lib.hid hW5
      clear hX hown hW5 hS5 hg5 HE4 HBd
      go_upto_region 12 with (fail)
      rw [← HW5.out]
      clear s0 s1 s2 s3 s4 s5 sf HS4 HR4 Hb4 hsz4 HW5
      have hSx := HS5.out
      have s0 := hSx.cell (i := 0) rfl
      have s1 := hSx.cell (i := 1) rfl
      have s2 := hSx.cell (i := 2) rfl
      have s3 := hSx.cell (i := 3) rfl
      have s4 := hSx.cell (i := 4) rfl
      have s5 := hSx.cell (i := 5) rfl
      have sf := hSx.free
      clear hSx
      have Hf3 : Hid (final = .ok (.mk 5 0 [] xs body []) k) := Lib.hid HF2.out
      have hkl2 := hkl
      have hSx := HR5.out
      have x0 := hSx.cell (i := 0) rfl
      have x1 := hSx.cell (i := 1) rfl
      have x2 := hSx.cell (i := 2) rfl
      have x3 := hSx.cell (i := 3) rfl
      have x4 := hSx.cell (i := 4) rfl
      have x5 := hSx.cell (i := 5) rfl
      have xf := hSx.free
      clear hSx
      go_wp2_with fail
      refine bodyPost_ret (v := .tuple #[.agg #[.int .u8 5, .int .i64 0, .string { data := #[] }, .slice a2 xs.length cap2, .slice a4 body.length cap4, .slice none 0 0], .int .i64 k, .int .i64 0]) (by simp [results, Try.results81, go_sem, x0, x1, x2, x3, x4, x5]) rfl ⟨?_, ((((((Hb5.out).setCell (Nat.le_refl _) _).setCell (Nat.le_refl _) _).setCell (Nat.le_refl _) _).setCell (Nat.le_refl _) _).setCell (Nat.le_refl _) _).setCell (Nat.le_refl _) _⟩
      rw [Hf3.out]
      obtain ⟨W9, hW9, hg9⟩ := set6 W5 w.heap.size (.int .u8 5) (.int .i64 0) (.string { data := #[] }) (.slice a2 xs.length cap2) (.slice a4 body.length cap4) (.slice none 0 0)
      rw [← hW9]
      exact ⟨_, rfl, stv_mk ((HE5.out).grown hg9 (by omega)) ((HBd5.out).grown hg9 (by omega)) (SsV.nil _ _) (by omega), by omega, hkl2⟩
set_option maxRecDepth 100000 in
set_option maxHeartbeats 1000000 in
theorem branch_if (l : List Tok) (S : Nat → Nat → PR St) (v : Value) (hG : Good l) (hm : l.length ≤ 1000000) (f i o : Nat) (w : World) (hS : StmtC l S i) (ih : ∀ (k o : Nat) (w : World), i < k → k + 1 < l.length → o ≤ 300 → Toks w l v → Calls Try.prog 81 #[v, .int .i64 k, .int .i64 o] w fun e w' => StmtE l k w w' e (branchS l S f k o) ∧ Below w.heap.size w w') (hT : Toks w l v) (hi : i + 1 < l.length) (ho : o ≤ 300) (hq1 : isS l i [119, 104, 105, 108, 101] = false) :
    Calls Try.prog 81 #[v, .int .i64 i, .int .i64 o] w fun e w' => StmtE l i w w' e (branchS l S (f + 1) i o) ∧ Below w.heap.size w w' := by
  have HT := Lib.hid hT
  have HI1 : Hid (∀ w', Below w.heap.size w w' → Calls Try.prog 80 #[v, .int .i64 i, .string { data := #[119, 104, 105, 108, 101] }] w' fun e w'' => e = .returned (.bool false) ∧ w' = w'') := is_toks hT (by omega) hq1
  have HN : Hid (∀ w', Below w.heap.size w w' → Calls Try.prog 78 #[v, .int .i64 ((i : Int) + 1), .int .i64 o, .string { data := #[40] }, .string { data := #[41] }, .int .i64 1] w' fun e w'' => ExsE l (i + 1) w' w'' e (insideS l (exprT l) (i + 1) o [40] [41] 1) ∧ Below w'.heap.size w' w'') := Lib.hid (fun (w' : World) (hb : Below w.heap.size w w') => inside_any l (exprT l) v (i + 1) o 1 [40] [41] w' (exprC_any hG (by omega) _) (Sl.below (by omega) hT hb (Nat.le_refl _)) hG hi (by omega) ho (by omega) (by omega))
  have HB : Hid (∀ j, i < j → j < l.length → ∀ (o : Nat), o ≤ 300 → ∀ w', Below w.heap.size w w' → Calls Try.prog 96 #[v, .int .i64 j, .int .i64 o] w' fun e w'' => StsE l j w' w'' e (blockS l S j o) ∧ Below w'.heap.size w' w'') := Lib.hid (fun j h1 h2 o ho (w' : World) (hb : Below w.heap.size w w') => block_any l S v j o w' (hS.mono (by omega)) (Sl.below (by omega) hT hb (Nat.le_refl _)) hG h2 hm ho)
  have HF : Hid (branchS l S (f + 1) i o = (insideS l (exprT l) (i + 1) o [40] [41] 1).andThen fun x j => (blockS l S j o).andThen fun body k => if isS l k [101, 108, 115, 101] = false then .ok (.mk 4 0 [] x body []) k else if 200 ≤ o then .err k 121 else if isS l (k + 1) [105, 102] = true then (branchS l S f (k + 1) (o + 1)).map fun y => .mk 4 0 [] x body [y] else (blockS l S (k + 1) (o + 1)).map fun other => .mk 4 0 [] x body other) := Lib.hid (by rw [branchS, hq1]; rfl)
  have HI2 : Hid (∀ k, k < l.length → ∀ q, isS l k [101, 108, 115, 101] = q → Hid (∀ w', Below w.heap.size w w' → Calls Try.prog 80 #[v, .int .i64 k, .string { data := #[101, 108, 115, 101] }] w' fun e w'' => e = .returned (.bool q) ∧ w' = w'')) := Lib.hid (fun k hk q hq => is_toks hT hk hq)
  have HI3 : Hid (∀ k, k + 1 < l.length → ∀ q, isS l (k + 1) [105, 102] = q → Hid (∀ w', Below w.heap.size w w' → Calls Try.prog 80 #[v, .int .i64 ((k : Int) + 1), .string { data := #[105, 102] }] w' fun e w'' => e = .returned (.bool q) ∧ w' = w'')) := Lib.hid (fun k hk q hq => is_toks (i := k + 1) hT hk hq)
  have HNx : Hid (∀ k s, k < l.length → isS l k s = true → k + 1 < l.length) := Lib.hid (fun k s hk h => hG.is_next hk h)
  have HEn : Hid (∀ k, k < l.length → isS l k [101, 108, 115, 101] = true → ∀ w', Below w.heap.size w w' → Calls Try.prog 94 #[v, .int .i64 k, .string { data := #[101, 108, 115, 101] }, .int .i64 o] w' fun e w'' => e = enterE (if 200 ≤ o then .err k 121 else .ok () (k + 1)) ∧ w' = w'') := Lib.hid (fun k hk hq w' hb => by
    have := enter_any l v k [101, 108, 115, 101] o w' (Sl.below (by omega) hT hb (Nat.le_refl _)) hk (by omega)
    rw [enter_self hq] at this
    exact this)
  have HBr : Hid (∀ k, i < k → k + 1 < l.length → ∀ (o : Nat), o ≤ 300 → ∀ w', Below w.heap.size w w' → Calls Try.prog 81 #[v, .int .i64 k, .int .i64 o] w' fun e w'' => StmtE l k w' w'' e (branchS l S f k o) ∧ Below w'.heap.size w' w'') := Lib.hid (fun k h1 h2 o ho w' hb => ih k o w' h1 h2 ho (Sl.below (by omega) hT hb (Nat.le_refl _)))
  clear ih
  obtain ⟨final, hfin⟩ : ∃ r, branchS l S (f + 1) i o = r := ⟨_, rfl⟩
  rw [hfin] at HF ⊢
  obtain ⟨W0, hW0, hb0, hR0, hS0, hsz⟩ := opened2 w zeroS [.int .u8 4, .int .i64 0, .string { data := #[] }, .slice none 0 0, .slice none 0 0, .slice none 0 0] 59 59
  simp only [zeroS] at hW0
  have Hb0 := Lib.hid hb0
  have HR0 := Lib.hid hR0
  have HS0 := Lib.hid hS0
  have hi2 : (i : Int) ≤ 1000000 := by omega
  have HneG : Hid (some w.heap.size ≠ some (w.heap.size + 1)) := Lib.hid (fun e => by have := Option.some.inj e; omega)
  generalize insideS l (exprT l) (i + 1) o [40] [41] 1 = R1 at *
  clear hfin hq1 hT hb0 hR0 hS0 hS
  go_enter Try.func81, Try.ntmps81
  go_wp2_with fail
  rw [← hW0]
  clear hW0
  go_at_call 80
  refine (HI1.out _ Hb0.out).mono ?_
  rintro e1 w1 ⟨rfl, rfl⟩
  obtain ⟨W1, hW1⟩ : ∃ W1, W0 = W1 := ⟨_, rfl⟩
  subst hW1
  have HS1 := HS0
  have HR1 := HR0
  have Hb1 := Hb0
  have hsz1 := hsz
  clear HS0 HR0 Hb0 hsz
  go_wp2_with fail
  go_at_call 78
  refine (HN.out _ Hb1.out).mono ?_
  rintro e2 w2 ⟨he2, hb2⟩
  have HS2 := Lib.hid (HS1.out.below hb2 (Nat.le_refl _))
  have HR2 := Lib.hid (HR1.out.below hb2 (Nat.le_refl _))
  have Hb2 := Lib.hid (Hb1.out.trans (hb2.mono Hb1.out.size))
  have hsz2 := Nat.le_trans hsz1 hb2.size
  clear hb2 HS1 HR1 Hb1 HN HI1
  have hSx := HS2.out
  have s0 := hSx.cell (i := 0) rfl
  have s1 := hSx.cell (i := 1) rfl
  have s2 := hSx.cell (i := 2) rfl
  have s3 := hSx.cell (i := 3) rfl
  have s4 := hSx.cell (i := 4) rfl
  have s5 := hSx.cell (i := 5) rfl
  have sf := hSx.free
  clear hSx
  cases R1 with
  | err a c =>
    obtain ⟨rfl, hc, hal⟩ := he2
    have Hf2 : Hid (final = .err a c) := Lib.hid HF.out
    have hc0 : (c != 0) = true := by rcases hc with rfl | rfl <;> rfl
    have Hc := Lib.hid hc
    clear hc
    have hSx := HR2.out
    have x0 := hSx.cell (i := 0) rfl
    have x1 := hSx.cell (i := 1) rfl
    have x2 := hSx.cell (i := 2) rfl
    have x3 := hSx.cell (i := 3) rfl
    have x4 := hSx.cell (i := 4) rfl
    have x5 := hSx.cell (i := 5) rfl
    have xf := hSx.free
    clear hSx
    go_wp2_with fail
    refine bodyPost_ret (v := .tuple #[.agg #[.int .u8 4, .int .i64 0, .string { data := #[] }, .slice none 0 0, .slice none 0 0, .slice none 0 0], .int .i64 a, .int .i64 c]) (by simp [results, Try.results81, go_sem, x0, x1, x2, x3, x4, x5]) rfl ⟨?_, ((((((Hb2.out).setCell (Nat.le_refl _) _).setCell (Nat.le_refl _) _).setCell (Nat.le_refl _) _).setCell (Nat.le_refl _) _).setCell (Nat.le_refl _) _).setCell (Nat.le_refl _) _⟩
    rw [Hf2.out]
    exact ⟨_, _, _, _, _, _, _, _, _, _, _, _, rfl, Hc.out, hal⟩
  | ok xs j =>
    obtain ⟨v2, rfl, ⟨cs, hown, hX⟩, hij, hjl⟩ := he2
    replace hX := hX.weak1
    have HE := Lib.hid (EsV.of_own hown hX hsz1)
    obtain ⟨a2, cap2, rfl⟩ := HE.out.form
    have HB1 := Lib.hid (HB.out j (by omega) hjl o ho)
    obtain ⟨R2, hR2⟩ : ∃ r, blockS l S j o = r := ⟨_, rfl⟩
    rw [hR2] at HB1
    have HF2 := Lib.hid HF.out
    simp only [PR.andThen] at HF2
    rw [hR2] at HF2
    clear hX hown hR2 HF
    go_wp2_with fail
    obtain ⟨W3, hW3, hS3, hg3⟩ := set1 HS2.out 3 (.slice a2 xs.length cap2)
    rw [← hW3]
    have HS3 : Hid (OwnV W3 (w.heap.size + 1) 59 [.int .u8 4, .int .i64 0, .string { data := #[] }, .slice a2 xs.length cap2, .slice none 0 0, .slice none 0 0]) := Lib.hid hS3
    have HR3 := Lib.hid (HR2.out.grown hg3 HneG.out)
    have Hb3 := Lib.hid (Hb2.out.trans (grown_below hg3 (by omega) Hb2.out.size))
    have hsz3 : w.heap.size + 2 ≤ W3.heap.size := Nat.le_trans hsz2 hg3.size
    have HE3 := Lib.hid (HE.out.grown hg3 (by omega))
    clear hW3 hS3 hg3 s0 s1 s2 s3 s4 s5 sf HS2 HR2 Hb2 hsz2 HE
    go_at_call 96
    refine (HB1.out _ Hb3.out).mono ?_
    rintro e4 w4 ⟨he4, hb4⟩
    have HS4 := Lib.hid (HS3.out.below hb4 (Nat.le_refl _))
    have HR4 := Lib.hid (HR3.out.below hb4 (Nat.le_refl _))
    have HE4 := Lib.hid (HE3.out.below hb4)
    have Hb4 := Lib.hid (Hb3.out.trans (hb4.mono Hb3.out.size))
    have hsz4 := Nat.le_trans hsz3 hb4.size
    clear hb4 HS3 HR3 Hb3 HE3 HB1
    have hSx := HS4.out
    have s0 := hSx.cell (i := 0) rfl
    have s1 := hSx.cell (i := 1) rfl
    have s2 := hSx.cell (i := 2) rfl
    have s3 := hSx.cell (i := 3) rfl
    have s4 := hSx.cell (i := 4) rfl
    have s5 := hSx.cell (i := 5) rfl
    have sf := hSx.free
    clear hSx
    cases R2 with
    | err a c =>
      obtain ⟨rfl, hc, hal⟩ := he4
      have Hf2 : Hid (final = .err a c) := Lib.hid HF2.out
      have hc0 : (c != 0) = true := by rcases hc with rfl | rfl <;> rfl
      have Hc := Lib.hid hc
      clear hc
      have hSx := HR4.out
      have x0 := hSx.cell (i := 0) rfl
      have x1 := hSx.cell (i := 1) rfl
      have x2 := hSx.cell (i := 2) rfl
      have x3 := hSx.cell (i := 3) rfl
      have x4 := hSx.cell (i := 4) rfl
      have x5 := hSx.cell (i := 5) rfl
      have xf := hSx.free
      clear hSx
      go_wp2_with fail
      refine bodyPost_ret (v := .tuple #[.agg #[.int .u8 4, .int .i64 0, .string { data := #[] }, .slice a2 xs.length cap2, .slice none 0 0, .slice none 0 0], .int .i64 a, .int .i64 c]) (by simp [results, Try.results81, go_sem, x0, x1, x2, x3, x4, x5]) rfl ⟨?_, ((((((Hb4.out).setCell (Nat.le_refl _) _).setCell (Nat.le_refl _) _).setCell (Nat.le_refl _) _).setCell (Nat.le_refl _) _).setCell (Nat.le_refl _) _).setCell (Nat.le_refl _) _⟩
      rw [Hf2.out]
      exact ⟨_, _, _, _, _, _, _, _, _, _, _, _, rfl, Hc.out, hal⟩
    | ok body k =>
      obtain ⟨v4, rfl, ⟨cs4, hown, hX⟩, hjk, hkl⟩ := he4
      have HBd := Lib.hid (SsV.of_own hown hX hsz3)
      obtain ⟨a4, cap4, rfl⟩ := HBd.out.form
      obtain ⟨W5, hW5, hS5, hg5⟩ := set1 HS4.out 4 (.slice a4 body.length cap4)
      have HS5 : Hid (OwnV W5 (w.heap.size + 1) 59 [.int .u8 4, .int .i64 0, .string { data := #[] }, .slice a2 xs.length cap2, .slice a4 body.length cap4, .slice none 0 0]) := Lib.hid hS5
      have HR5 := Lib.hid (HR4.out.grown hg5 HneG.out)
      have Hb5 := Lib.hid (Hb4.out.trans (grown_below hg5 (by omega) Hb4.out.size))
      have hsz5 : w.heap.size + 2 ≤ W5.heap.size := Nat.le_trans hsz4 hg5.size
      have HE5 := Lib.hid (HE4.out.grown hg5 (by omega))
      have HBd5 := Lib.hid (HBd.out.grown hg5 (by omega))
      have HW5 := Lib.hid hW5
      clear hX hown hW5 hS5 hg5 HE4 HBd
      go_upto_region 12 with (fail)
      rw [← HW5.out]
      clear s0 s1 s2 s3 s4 s5 sf HS4 HR4 Hb4 hsz4 HW5
      have hSx := HS5.out
      have s0 := hSx.cell (i := 0) rfl
      have s1 := hSx.cell (i := 1) rfl
      have s2 := hSx.cell (i := 2) rfl
      have s3 := hSx.cell (i := 3) rfl
      have s4 := hSx.cell (i := 4) rfl
      have s5 := hSx.cell (i := 5) rfl
      have sf := hSx.free
      clear hSx
      obtain ⟨q2, hq2⟩ : ∃ q, isS l k [101, 108, 115, 101] = q := ⟨_, rfl⟩
      have HIa := HI2.out k hkl q2 hq2
      have HF3 : Hid (final = if q2 = false then .ok (.mk 4 0 [] xs body []) k else if 200 ≤ o then .err k 121 else if isS l (k + 1) [105, 102] = true then (branchS l S f (k + 1) (o + 1)).map fun y => .mk 4 0 [] xs body [y] else (blockS l S (k + 1) (o + 1)).map fun other => .mk 4 0 [] xs body other) := Lib.hid (by rw [HF2.out, ← hq2])
      cases q2 with
      | false =>
        have Hf3 : Hid (final = .ok (.mk 4 0 [] xs body []) k) := Lib.hid (by rw [HF3.out, if_pos rfl])
        have hkl2 := hkl
        clear HF3 HF2
        go_wp2_with fail
        go_at_call 80
        refine (HIa.out _ Hb5.out).mono ?_
        rintro e6 w6 ⟨rfl, rfl⟩
        have hSx := HR5.out
        have x0 := hSx.cell (i := 0) rfl
        have x1 := hSx.cell (i := 1) rfl
        have x2 := hSx.cell (i := 2) rfl
        have x3 := hSx.cell (i := 3) rfl
        have x4 := hSx.cell (i := 4) rfl
        have x5 := hSx.cell (i := 5) rfl
        have xf := hSx.free
        clear hSx
        go_wp2_with fail
        refine bodyPost_ret (v := .tuple #[.agg #[.int .u8 4, .int .i64 0, .string { data := #[] }, .slice a2 xs.length cap2, .slice a4 body.length cap4, .slice none 0 0], .int .i64 k, .int .i64 0]) (by simp [results, Try.results81, go_sem, x0, x1, x2, x3, x4, x5]) rfl ⟨?_, ((((((Hb5.out).setCell (Nat.le_refl _) _).setCell (Nat.le_refl _) _).setCell (Nat.le_refl _) _).setCell (Nat.le_refl _) _).setCell (Nat.le_refl _) _).setCell (Nat.le_refl _) _⟩
        rw [Hf3.out]
        obtain ⟨W9, hW9, hg9⟩ := set6 W5 w.heap.size (.int .u8 4) (.int .i64 0) (.string { data := #[] }) (.slice a2 xs.length cap2) (.slice a4 body.length cap4) (.slice none 0 0)
        rw [← hW9]
        exact ⟨_, rfl, stv_mk ((HE5.out).grown hg9 (by omega)) ((HBd5.out).grown hg9 (by omega)) (SsV.nil _ _) (by omega), by omega, hkl2⟩
      | true =>
        have hk1 := HNx.out k _ hkl hq2
        have HEa := Lib.hid (HEn.out k hkl hq2)
        have HF4 : Hid (final = if 200 ≤ o then .err k 121 else if isS l (k + 1) [105, 102] = true then (branchS l S f (k + 1) (o + 1)).map fun y => .mk 4 0 [] xs body [y] else (blockS l S (k + 1) (o + 1)).map fun other => .mk 4 0 [] xs body other) := Lib.hid (by rw [HF3.out, if_neg (by decide)])
        have hk2 : (k : Int) ≤ 1000000 := by omega
        clear HF3 HF2 hq2 HEn
        go_wp2_with fail
        go_at_call 80
        refine (HIa.out _ Hb5.out).mono ?_
        rintro e6 w6 ⟨rfl, rfl⟩
        by_cases ho2 : 200 ≤ o
        · rw [if_pos ho2] at HEa
          unfold enterE at HEa
          have Hf3 : Hid (final = .err k 121) := Lib.hid (by rw [HF4.out, if_pos ho2])
          clear HF4
          go_wp2_with fail
          go_at_call 94
          refine (HEa.out _ Hb5.out).mono ?_
          rintro e6 w6 ⟨rfl, rfl⟩
          have hSx := HR5.out
          have x0 := hSx.cell (i := 0) rfl
          have x1 := hSx.cell (i := 1) rfl
          have x2 := hSx.cell (i := 2) rfl
          have x3 := hSx.cell (i := 3) rfl
          have x4 := hSx.cell (i := 4) rfl
          have x5 := hSx.cell (i := 5) rfl
          have xf := hSx.free
          clear hSx
          go_wp2_with fail
          refine bodyPost_ret (v := .tuple #[.agg #[.int .u8 4, .int .i64 0, .string { data := #[] }, .slice a2 xs.length cap2, .slice a4 body.length cap4, .slice none 0 0], .int .i64 k, .int .i64 121]) (by simp [results, Try.results81, go_sem, x0, x1, x2, x3, x4, x5]) rfl ⟨?_, ((((((Hb5.out).setCell (Nat.le_refl _) _).setCell (Nat.le_refl _) _).setCell (Nat.le_refl _) _).setCell (Nat.le_refl _) _).setCell (Nat.le_refl _) _).setCell (Nat.le_refl _) _⟩
          rw [Hf3.out]
          exact ⟨_, _, _, _, _, _, _, _, _, _, _, _, rfl, .inr rfl, hkl⟩
        · rw [if_neg ho2] at HEa
          unfold enterE at HEa
          obtain ⟨q3, hq3⟩ : ∃ q, isS l (k + 1) [105, 102] = q := ⟨_, rfl⟩
          have HIb := HI3.out k hk1 q3 hq3
          have HF5 : Hid (final = if q3 = true then (branchS l S f (k + 1) (o + 1)).map fun y => .mk 4 0 [] xs body [y] else (blockS l S (k + 1) (o + 1)).map fun other => .mk 4 0 [] xs body other) := Lib.hid (by rw [HF4.out, if_neg ho2, hq3])
          clear HF4
          cases q3 with
          | false =>
            have HF6 : Hid (final = (blockS l S (k + 1) (o + 1)).map fun other => .mk 4 0 [] xs body other) := Lib.hid (by rw [HF5.out, if_neg (by decide)])
            have HBb : Hid (∀ w', Below w.heap.size w w' → Calls Try.prog 96 #[v, .int .i64 ((k : Int) + 1), .int .i64 ((o : Int) + 1)] w' fun e w'' => StsE l (k + 1) w' w'' e (blockS l S (k + 1) (o + 1)) ∧ Below w'.heap.size w' w'') := Lib.hid (HB.out (k + 1) (by omega) hk1 (o + 1) (by omega))
            generalize blockS l S (k + 1) (o + 1) = R3 at *
            clear HF5 HB HBr
            go_wp2_with fail
            go_at_call 94
            refine (HEa.out _ Hb5.out).mono ?_
            rintro e6 w6 ⟨rfl, rfl⟩
            go_wp2_with fail
            go_at_call 80
            refine (HIb.out _ Hb5.out).mono ?_
            rintro e6 w6 ⟨rfl, rfl⟩
            go_wp2_with fail
            go_at_call 96
            refine (HBb.out _ Hb5.out).mono ?_
            rintro e6 w6 ⟨he6, hb6⟩
            have HS6 := Lib.hid (HS5.out.below hb6 (Nat.le_refl _))
            have HR6 := Lib.hid (HR5.out.below hb6 (Nat.le_refl _))
            have HE6 := Lib.hid (HE5.out.below hb6)
            have HBd6 := Lib.hid (HBd5.out.below hb6)
            have Hb6 := Lib.hid (Hb5.out.trans (hb6.mono Hb5.out.size))
            have hsz6 := Nat.le_trans hsz5 hb6.size
            clear hb6 s0 s1 s2 s3 s4 s5 sf HS5 HR5 HE5 HBd5 Hb5
            have hSx := HS6.out
            have s0 := hSx.cell (i := 0) rfl
            have s1 := hSx.cell (i := 1) rfl
            have s2 := hSx.cell (i := 2) rfl
            have s3 := hSx.cell (i := 3) rfl
            have s4 := hSx.cell (i := 4) rfl
            have s5 := hSx.cell (i := 5) rfl
            have sf := hSx.free
            clear hSx
            cases R3 with
            | err a c =>
              obtain ⟨rfl, hc, hal⟩ := he6
              have Hf3 : Hid (final = .err a c) := Lib.hid HF6.out
              have Hc := Lib.hid hc
              obtain ⟨W7, hW7, hS7, hg7⟩ := set1 HS6.out 5 (.slice none 0 0)
              have HS7 : Hid (OwnV W7 (w.heap.size + 1) 59 [.int .u8 4, .int .i64 0, .string { data := #[] }, .slice a2 xs.length cap2, .slice a4 body.length cap4, .slice none 0 0]) := Lib.hid hS7
              have HR7 := Lib.hid (HR6.out.grown hg7 HneG.out)
              have Hb7 := Lib.hid (Hb6.out.trans (grown_below hg7 (by omega) Hb6.out.size))
              have HW7 := Lib.hid hW7
              clear hc hW7 hS7 hg7
              go_upto_region 23 with (fail)
              rw [← HW7.out]
              clear s0 s1 s2 s3 s4 s5 sf HS6 HR6 Hb6 HW7
              have hSx := HS7.out
              have s0 := hSx.cell (i := 0) rfl
              have s1 := hSx.cell (i := 1) rfl
              have s2 := hSx.cell (i := 2) rfl
              have s3 := hSx.cell (i := 3) rfl
              have s4 := hSx.cell (i := 4) rfl
              have s5 := hSx.cell (i := 5) rfl
              have sf := hSx.free
              clear hSx
              have hSx := HR7.out
              have x0 := hSx.cell (i := 0) rfl
              have x1 := hSx.cell (i := 1) rfl
              have x2 := hSx.cell (i := 2) rfl
              have x3 := hSx.cell (i := 3) rfl
              have x4 := hSx.cell (i := 4) rfl
              have x5 := hSx.cell (i := 5) rfl
              have xf := hSx.free
              clear hSx
              go_wp2_with fail
              refine bodyPost_ret (v := .tuple #[.agg #[.int .u8 4, .int .i64 0, .string { data := #[] }, .slice a2 xs.length cap2, .slice a4 body.length cap4, .slice none 0 0], .int .i64 a, .int .i64 c]) (by simp [results, Try.results81, go_sem, x0, x1, x2, x3, x4, x5]) rfl ⟨?_, ((((((Hb7.out).setCell (Nat.le_refl _) _).setCell (Nat.le_refl _) _).setCell (Nat.le_refl _) _).setCell (Nat.le_refl _) _).setCell (Nat.le_refl _) _).setCell (Nat.le_refl _) _⟩
              rw [Hf3.out]
              exact ⟨_, _, _, _, _, _, _, _, _, _, _, _, rfl, Hc.out, hal⟩
            | ok other k2 =>
              obtain ⟨v6, rfl, ⟨cs6, hown, hX⟩, hkk, hkl2⟩ := he6
              have HO := Lib.hid (SsV.of_own hown hX hsz5)
              obtain ⟨a6, cap6, rfl⟩ := HO.out.form
              have Hf3 : Hid (final = .ok (.mk 4 0 [] xs body other) k2) := Lib.hid HF6.out
              obtain ⟨W7, hW7, hS7, hg7⟩ := set1 HS6.out 5 (.slice a6 other.length cap6)
              have HS7 : Hid (OwnV W7 (w.heap.size + 1) 59 [.int .u8 4, .int .i64 0, .string { data := #[] }, .slice a2 xs.length cap2, .slice a4 body.length cap4, .slice a6 other.length cap6]) := Lib.hid hS7
              have HR7 := Lib.hid (HR6.out.grown hg7 HneG.out)
              have HE7 := Lib.hid (HE6.out.grown hg7 (by omega))
              have HBd7 := Lib.hid (HBd6.out.grown hg7 (by omega))
              have HO7 := Lib.hid (HO.out.grown hg7 (by omega))
              have Hb7 := Lib.hid (Hb6.out.trans (grown_below hg7 (by omega) Hb6.out.size))
              have HW7 := Lib.hid hW7
              clear hX hown hW7 hS7 hg7
              go_upto_region 23 with (fail)
              rw [← HW7.out]
              clear s0 s1 s2 s3 s4 s5 sf HS6 HR6 Hb6 HW7 HE6 HBd6 HO
              have hSx := HS7.out
              have s0 := hSx.cell (i := 0) rfl
              have s1 := hSx.cell (i := 1) rfl
              have s2 := hSx.cell (i := 2) rfl
              have s3 := hSx.cell (i := 3) rfl
              have s4 := hSx.cell (i := 4) rfl
              have s5 := hSx.cell (i := 5) rfl
              have sf := hSx.free
              clear hSx
              have hSx := HR7.out
              have x0 := hSx.cell (i := 0) rfl
              have x1 := hSx.cell (i := 1) rfl
              have x2 := hSx.cell (i := 2) rfl
              have x3 := hSx.cell (i := 3) rfl
              have x4 := hSx.cell (i := 4) rfl
              have x5 := hSx.cell (i := 5) rfl
              have xf := hSx.free
              clear hSx
              go_wp2_with fail
              refine bodyPost_ret (v := .tuple #[.agg #[.int .u8 4, .int .i64 0, .string { data := #[] }, .slice a2 xs.length cap2, .slice a4 body.length cap4, .slice a6 other.length cap6], .int .i64 k2, .int .i64 0]) (by simp [results, Try.results81, go_sem, x0, x1, x2, x3, x4, x5]) rfl ⟨?_, ((((((Hb7.out).setCell (Nat.le_refl _) _).setCell (Nat.le_refl _) _).setCell (Nat.le_refl _) _).setCell (Nat.le_refl _) _).setCell (Nat.le_refl _) _).setCell (Nat.le_refl _) _⟩
              rw [Hf3.out]
              obtain ⟨W9, hW9, hg9⟩ := set6 W7 w.heap.size (.int .u8 4) (.int .i64 0) (.string { data := #[] }) (.slice a2 xs.length cap2) (.slice a4 body.length cap4) (.slice a6 other.length cap6)
              rw [← hW9]
              exact ⟨_, rfl, stv_mk ((HE7.out).grown hg9 (by omega)) ((HBd7.out).grown hg9 (by omega)) (HO7.out.grown hg9 (by omega)) (by omega), by omega, hkl2⟩
          | true =>
            have hk3 := HNx.out (k + 1) _ hk1 hq3
            have HF6 : Hid (final = (branchS l S f (k + 1) (o + 1)).map fun y => .mk 4 0 [] xs body [y]) := Lib.hid (by rw [HF5.out, if_pos rfl])
            have HBb : Hid (∀ w', Below w.heap.size w w' → Calls Try.prog 81 #[v, .int .i64 ((k : Int) + 1), .int .i64 ((o : Int) + 1)] w' fun e w'' => StmtE l (k + 1) w' w'' e (branchS l S f (k + 1) (o + 1)) ∧ Below w'.heap.size w' w'') := Lib.hid (HBr.out (k + 1) (by omega) hk3 (o + 1) (by omega))
            generalize branchS l S f (k + 1) (o + 1) = R3 at *
            clear HF5 HB HBr
            go_wp2_with fail
            go_at_call 94
            refine (HEa.out _ Hb5.out).mono ?_
            rintro e6 w6 ⟨rfl, rfl⟩
            go_wp2_with fail
            go_at_call 80
            refine (HIb.out _ Hb5.out).mono ?_
            rintro e6 w6 ⟨rfl, rfl⟩
            go_wp2_with fail
            go_at_call 81
            refine (HBb.out _ Hb5.out).mono ?_
            rintro e6 w6 ⟨he6, hb6⟩
            have HS6 := Lib.hid (HS5.out.below hb6 (Nat.le_refl _))
            have HR6 := Lib.hid (HR5.out.below hb6 (Nat.le_refl _))
            have HE6 := Lib.hid (HE5.out.below hb6)
            have HBd6 := Lib.hid (HBd5.out.below hb6)
            have Hb6 := Lib.hid (Hb5.out.trans (hb6.mono Hb5.out.size))
            have hsz6 := Nat.le_trans hsz5 hb6.size
            clear hb6 s0 s1 s2 s3 s4 s5 sf HS5 HR5 HE5 HBd5 Hb5
            cases R3 with
            | err a c =>
              obtain ⟨op, n, nm, a5, a6, a7, m1, m2, m3, p1, p2, p3, rfl, hc, hal⟩ := he6
              have Hf3 : Hid (final = .err a c) := Lib.hid HF6.out
              have Hc := Lib.hid hc
              obtain ⟨W7, hW7, hb7, -, hY7, hsz7⟩ := opened2 w6 [.int .u8 op, .int .i64 n, .string nm, .slice a5 m1 p1, .slice a6 m2 p2, .slice a7 m3 p3] [.int .u8 op, .int .i64 n, .string nm, .slice a5 m1 p1, .slice a6 m2 p2, .slice a7 m3 p3] 59 59
              have HS7 := Lib.hid (HS6.out.below hb7 (Nat.le_refl _))
              have HR7 := Lib.hid (HR6.out.below hb7 (Nat.le_refl _))
              have Hb7 := Lib.hid (Hb6.out.trans (hb7.mono Hb6.out.size))
              obtain ⟨W8, hW8, hS8, hg8⟩ := set1 HS7.out 5 (.slice (some ⟨w6.heap.size + 1, 0, none⟩) 1 1)
              have HS8 : Hid (OwnV W8 (w.heap.size + 1) 59 [.int .u8 4, .int .i64 0, .string { data := #[] }, .slice a2 xs.length cap2, .slice a4 body.length cap4, .slice (some ⟨w6.heap.size + 1, 0, none⟩) 1 1]) := Lib.hid hS8
              have HR8 := Lib.hid (HR7.out.grown hg8 HneG.out)
              have Hb8 := Lib.hid (Hb7.out.trans (grown_below hg8 (by omega) Hb7.out.size))
              have HW8 := Lib.hid (hW8.trans (by rw [hW7]))
              have hSx := HS7.out
              rw [hW7] at hSx
              have s5 := hSx.cell (i := 5) rfl
              have sf := hSx.free
              clear hc hW8 hS8 hg8 hW7 hb7 hSx hY7
              go_upto_region 20 with (fail)
              rw [← HW8.out]
              clear s5 sf HS6 HR6 Hb6 HW8 HS7 HR7 Hb7
              have hSx := HS8.out
              have s0 := hSx.cell (i := 0) rfl
              have s1 := hSx.cell (i := 1) rfl
              have s2 := hSx.cell (i := 2) rfl
              have s3 := hSx.cell (i := 3) rfl
              have s4 := hSx.cell (i := 4) rfl
              have s5 := hSx.cell (i := 5) rfl
              have sf := hSx.free
              clear hSx
              have hSx := HR8.out
              have x0 := hSx.cell (i := 0) rfl
              have x1 := hSx.cell (i := 1) rfl
              have x2 := hSx.cell (i := 2) rfl
              have x3 := hSx.cell (i := 3) rfl
              have x4 := hSx.cell (i := 4) rfl
              have x5 := hSx.cell (i := 5) rfl
              have xf := hSx.free
              clear hSx
              go_wp2_with fail
              refine bodyPost_ret (v := .tuple #[.agg #[.int .u8 4, .int .i64 0, .string { data := #[] }, .slice a2 xs.length cap2, .slice a4 body.length cap4, .slice (some ⟨w6.heap.size + 1, 0, none⟩) 1 1], .int .i64 a, .int .i64 c]) (by simp [results, Try.results81, go_sem, x0, x1, x2, x3, x4, x5]) rfl ⟨?_, ((((((Hb8.out).setCell (Nat.le_refl _) _).setCell (Nat.le_refl _) _).setCell (Nat.le_refl _) _).setCell (Nat.le_refl _) _).setCell (Nat.le_refl _) _).setCell (Nat.le_refl _) _⟩
              rw [Hf3.out]
              exact ⟨_, _, _, _, _, _, _, _, _, _, _, _, rfl, Hc.out, hal⟩
            | ok y k2 =>
              obtain ⟨v6, rfl, ⟨cs6, rfl, hX⟩, hkk, hkl2⟩ := he6
              obtain ⟨op, n, name, es, body2, els2, a5, a6, a7, p1, p2, p3, rfl, rfl⟩ := hX.one
              have Hf3 : Hid (final = .ok (.mk 4 0 [] xs body [.mk op n name es body2 els2]) k2) := Lib.hid HF6.out
              obtain ⟨W7, hW7, hb7, -, hY7, hsz7⟩ := opened2 w6 [.int .u8 op, .int .i64 n, .string (bstr name), .slice a5 es.length p1, .slice a6 body2.length p2, .slice a7 els2.length p3] [.int .u8 op, .int .i64 n, .string (bstr name), .slice a5 es.length p1, .slice a6 body2.length p2, .slice a7 els2.length p3] 59 59
              have HO7 := Lib.hid (SsV.new (m := w.heap.size + 2) hb7 hY7 (hX.weak fun _ _ h => Nat.le_trans hsz5 h) (by omega) (by simp))
              have HS7 := Lib.hid (HS6.out.below hb7 (Nat.le_refl _))
              have HR7 := Lib.hid (HR6.out.below hb7 (Nat.le_refl _))
              have HE7 := Lib.hid (HE6.out.below hb7)
              have HBd7 := Lib.hid (HBd6.out.below hb7)
              have Hb7 := Lib.hid (Hb6.out.trans (hb7.mono Hb6.out.size))
              obtain ⟨W8, hW8, hS8, hg8⟩ := set1 HS7.out 5 (.slice (some ⟨w6.heap.size + 1, 0, none⟩) 1 1)
              have HS8 : Hid (OwnV W8 (w.heap.size + 1) 59 [.int .u8 4, .int .i64 0, .string { data := #[] }, .slice a2 xs.length cap2, .slice a4 body.length cap4, .slice (some ⟨w6.heap.size + 1, 0, none⟩) 1 1]) := Lib.hid hS8
              have HR8 := Lib.hid (HR7.out.grown hg8 HneG.out)
              have HE8 := Lib.hid (HE7.out.grown hg8 (by omega))
              have HBd8 := Lib.hid (HBd7.out.grown hg8 (by omega))
              have HO8 := Lib.hid (HO7.out.grown hg8 (by omega))
              have Hb8 := Lib.hid (Hb7.out.trans (grown_below hg8 (by omega) Hb7.out.size))
              have HW8 := Lib.hid (hW8.trans (by rw [hW7]))
              have hSx := HS7.out
              rw [hW7] at hSx
              have s5 := hSx.cell (i := 5) rfl
              have sf := hSx.free
              clear hX hW8 hS8 hg8 hW7 hb7 hSx hY7
              go_upto_region 20 with (fail)
              rw [← HW8.out]
              clear s5 sf HS6 HR6 Hb6 HW8 HS7 HR7 Hb7 HE6 HE7 HBd6 HBd7 HO7
              have hSx := HS8.out
              have s0 := hSx.cell (i := 0) rfl
              have s1 := hSx.cell (i := 1) rfl
              have s2 := hSx.cell (i := 2) rfl
              have s3 := hSx.cell (i := 3) rfl
              have s4 := hSx.cell (i := 4) rfl
              have s5 := hSx.cell (i := 5) rfl
              have sf := hSx.free
              clear hSx
              have hSx := HR8.out
              have x0 := hSx.cell (i := 0) rfl
              have x1 := hSx.cell (i := 1) rfl
              have x2 := hSx.cell (i := 2) rfl
              have x3 := hSx.cell (i := 3) rfl
              have x4 := hSx.cell (i := 4) rfl
              have x5 := hSx.cell (i := 5) rfl
              have xf := hSx.free
              clear hSx
              go_wp2_with fail
              refine bodyPost_ret (v := .tuple #[.agg #[.int .u8 4, .int .i64 0, .string { data := #[] }, .slice a2 xs.length cap2, .slice a4 body.length cap4, .slice (some ⟨w6.heap.size + 1, 0, none⟩) 1 1], .int .i64 k2, .int .i64 0]) (by simp [results, Try.results81, go_sem, x0, x1, x2, x3, x4, x5]) rfl ⟨?_, ((((((Hb8.out).setCell (Nat.le_refl _) _).setCell (Nat.le_refl _) _).setCell (Nat.le_refl _) _).setCell (Nat.le_refl _) _).setCell (Nat.le_refl _) _).setCell (Nat.le_refl _) _⟩
              rw [Hf3.out]
              obtain ⟨W9, hW9, hg9⟩ := set6 W8 w.heap.size (.int .u8 4) (.int .i64 0) (.string { data := #[] }) (.slice a2 xs.length cap2) (.slice a4 body.length cap4) (.slice (some ⟨w6.heap.size + 1, 0, none⟩) 1 1)
              rw [← hW9]
              exact ⟨_, rfl, stv_mk ((HE8.out).grown hg9 (by omega)) ((HBd8.out).grown hg9 (by omega)) (HO8.out.grown hg9 (by omega)) (by omega), by omega, hkl2⟩
theorem branch_any (l : List Tok) (S : Nat → Nat → PR St) (v : Value) (hG : Good l) (hm : l.length ≤ 1000000) : ∀ (f i o : Nat) (w : World), l.length - i < f → StmtC l S i → Toks w l v → i + 1 < l.length → o ≤ 300 →
    Calls Try.prog 81 #[v, .int .i64 i, .int .i64 o] w fun e w' => StmtE l i w w' e (branchS l S f i o) ∧ Below w.heap.size w w' := by
  intro f
  induction f with
  | zero => intro i o w h; omega
  | succ f ih =>
    intro i o w hf hS hT hi ho
    cases hq : isS l i [119, 104, 105, 108, 101] with
    | true => exact branch_while l S v hG hm f i o w hS hT hi ho hq
    | false => exact branch_if l S v hG hm f i o w hS (fun k o w h1 h2 h3 h4 => ih k o w (by omega) (hS.mono (by omega)) h4 h2 h3) hT hi ho hq
end Go.Proofs.Ytdeneckmoejcfaa
