/- marcheslaw13.checks and CompileChecks, walked. -/
import Derived.Test.YtdeneckmoejcfaaLawK
import Derived.Test.YtdeneckmoejcfaaWAwkJ
import Derived.Test.YtdeneckmoejcfaaPMaskJ
import Derived.Test.YtdeneckmoejcfaaGiven
import Derived.Test.YtdeneckmoejcfaaRSound
import Derived.Deep.RegionHeld3
set_option linter.unusedSimpArgs false
set_option linter.unusedVariables false
namespace Go.Proofs.Ytdeneckmoejcfaa
open Go.RowKit
theorem field_code (s : Option Addr) (n t : Nat) (x1 x2 x3 : Value) (u : World) : (Instr.field 40 (.agg #[.slice s n t, x1, x2, x3]) 0).run Try.prog u = .ok (.slice s n t) u := by
  unfold Instr.field
  simp [go_sem, asAgg, Try.underlying40]
set_option maxRecDepth 100000 in
set_option maxHeartbeats 4000000 in
theorem checks_any (P : ProgS) (v : Value) (w : World) (hC : SlC w P.code v) (hl : P.code.length ≤ 1000000) :
    Calls Try.prog 15 #[progV P v] w fun e w' => e = .returned (.bool true) ∧ Below w.heap.size w w' := by
  obtain ⟨a, cap, rfl, _, _⟩ := Sl.form hC
  obtain ⟨W1, hW1, hX1, hb1⟩ : ∃ W, W = w.alloc (.cells #[.slice a P.code.length cap, .int .i64 P.locals, .int .u32 (w32 P.reads), .int .u32 (w32 P.writes)] 29) ∧ OwnV W w.heap.size 29 [.slice a P.code.length cap, .int .i64 P.locals, .int .u32 (w32 P.reads), .int .u32 (w32 P.writes)] ∧ Below w.heap.size w W := ⟨_, rfl, OwnV.new _ _ _, (Below.refl _ _).alloc (Nat.le_refl _) _⟩
  have HC := Lib.hid hC
  have HX1 := Lib.hid hX1
  have HB1 := Lib.hid hb1
  have HW1 := Lib.hid hW1
  have hs1 := hb1.size
  have x0 := hX1.cell (i := 0) rfl
  have x1 := hX1.cell (i := 1) rfl
  have x2 := hX1.cell (i := 2) rfl
  have x3 := hX1.cell (i := 3) rfl
  clear hC hX1 hb1 hW1
  have HG : Hid (∀ W, Below w.heap.size w W → Calls Try.prog 18 #[.agg #[.slice a P.code.length cap, .int .i64 P.locals, .int .u32 (w32 P.reads), .int .u32 (w32 P.writes)]] W fun e w' => ∃ (s2 : Option Addr) (t2 : Nat), e = .returned (.agg #[.slice s2 P.code.length t2, .int .i64 P.locals, .int .u32 (w32 P.reads), .int .u32 (w32 P.writes)]) ∧ SlC w' P.code (.slice s2 P.code.length t2) ∧ Below W.heap.size W w') := Lib.hid (fun W hb => (given_any P (.slice a P.code.length cap) W (SlC.below HC.out hb) hl).mono fun e w' ⟨⟨v', he, hS⟩, hb'⟩ => by
    obtain ⟨s2, t2, rfl, _, _⟩ := Sl.form hS
    exact ⟨s2, t2, he, hS, hb'⟩)
  have HT : Hid (∀ (s1 : Option Addr) (t1 : Nat) (W : World), SlC W P.code (.slice s1 P.code.length t1) → Calls Try.prog 21 #[.agg #[.slice s1 P.code.length t1, .int .i64 P.locals, .int .u32 (w32 P.reads), .int .u32 (w32 P.writes)]] W fun e w' => ∃ (s2 : Option Addr) (t2 : Nat), e = .returned (.agg #[.slice s2 P.code.length t2, .int .i64 P.locals, .int .u32 (w32 P.reads), .int .u32 (w32 P.writes)]) ∧ SlC w' P.code (.slice s2 P.code.length t2) ∧ Below W.heap.size W w') := Lib.hid (fun s1 t1 W hS => (taken_any P (.slice s1 P.code.length t1) W hS hl).mono fun e w' ⟨⟨v', he, hS⟩, hb'⟩ => by
    obtain ⟨s2, t2, rfl, _, _⟩ := Sl.form hS
    exact ⟨s2, t2, he, hS, hb'⟩)
  unfold progV
  go_enter Try.func15, Try.ntmps15
  go_upto_region 1 with (fail)
  rw [← HW1.out]
  clear HW1
  go_wp2_with fail
  refine (HG.out _ HB1.out).mono ?_
  rintro e2 w2 ⟨s2, t2, rfl, hS2, hb2⟩
  have HS2 := Lib.hid hS2
  have HX2 := Lib.hid (HX1.out.below hb2 (Nat.le_refl _))
  have HB2 := Lib.hid (HB1.out.trans (hb2.mono hs1))
  clear hS2 hb2 HX1 x0 x1 x2 x3
  go_wp2_with fail
  refine (HT.out _ _ _ HS2.out).mono ?_
  rintro e3 w3 ⟨s3, t3, rfl, hS3, hb3⟩
  have hs2 := HB2.out.size
  obtain ⟨W4, hW4, hY4, hb4⟩ : ∃ W, W = w3.alloc (.cells #[.slice s3 P.code.length t3, .int .i64 P.locals, .int .u32 (w32 P.reads), .int .u32 (w32 P.writes)] 29) ∧ OwnV W w3.heap.size 29 [.slice s3 P.code.length t3, .int .i64 P.locals, .int .u32 (w32 P.reads), .int .u32 (w32 P.writes)] ∧ Below w3.heap.size w3 W := ⟨_, rfl, OwnV.new _ _ _, (Below.refl _ _).alloc (Nat.le_refl _) _⟩
  have b24 : Below w2.heap.size w2 W4 := hb3.trans (hb4.mono hb3.size)
  have HX4 := Lib.hid (HX2.out.below b24 (Nat.le_refl _))
  have HY4 := Lib.hid hY4
  have HB4 := Lib.hid (HB2.out.trans (b24.mono hs2))
  have HS4 := Lib.hid (SlC.below hS3 hb4)
  have HW4 := Lib.hid hW4
  have HM := Lib.hid (pmasks_any P.code _ W4 HS4.out hl)
  clear hW4 hY4 hb4 hS3 hb3 b24 HX2 HS2 HT
  go_upto_region 2 with (fail)
  rw [← HW4.out]
  clear HW4
  have y0 := HY4.out.cell (i := 0) rfl
  go_wp2_with fail
  refine HM.out.mono ?_
  rintro e5 w5 ⟨rfl, hb5⟩
  have hs4 := HB4.out.size
  have HX5 := Lib.hid (HX4.out.below hb5 (Nat.le_refl _))
  have HY5 := Lib.hid (HY4.out.below hb5 (Nat.le_refl _))
  have HS5 := Lib.hid (SlC.below HS4.out hb5)
  have HB5 := Lib.hid (HB4.out.trans (hb5.mono hs4))
  clear hb5 HX4 HY4 HS4 y0 HM
  have x0 := HX5.out.cell (i := 0) rfl
  have x1 := HX5.out.cell (i := 1) rfl
  have x2 := HX5.out.cell (i := 2) rfl
  have x3 := HX5.out.cell (i := 3) rfl
  go_wp2_with fail
  refine (HG.out _ HB5.out).mono ?_
  rintro e6 w6 ⟨s6, t6, rfl, hS6, hb6⟩
  have hfc := fun u => field_code s6 P.code.length t6 (.int .i64 P.locals) (.int .u32 (w32 P.reads)) (.int .u32 (w32 P.writes)) u
  have hs5 := HB5.out.size
  have HX6 := Lib.hid (HX5.out.below hb6 (Nat.le_refl _))
  have HY6 := Lib.hid (HY5.out.below hb6 (Nat.le_refl _))
  have HS6 := Lib.hid (SlC.below HS5.out hb6)
  have HB6 := Lib.hid (HB5.out.trans (hb6.mono hs5))
  have HR := Lib.hid (rmasks_any P.code _ w6 hS6 hl)
  clear hb6 HX5 HY5 HS5 hS6 x0 x1 x2 x3
  go_wp2_with fail
  refine HR.out.mono ?_
  rintro e7 w7 ⟨rfl, rfl⟩
  clear hfc
  have hs6 := HB6.out.size
  have x0 := HX6.out.cell (i := 0) rfl
  have x1 := HX6.out.cell (i := 1) rfl
  have x2 := HX6.out.cell (i := 2) rfl
  have x3 := HX6.out.cell (i := 3) rfl
  have y0 := HY6.out.cell (i := 0) rfl
  have y1 := HY6.out.cell (i := 1) rfl
  have y2 := HY6.out.cell (i := 2) rfl
  have y3 := HY6.out.cell (i := 3) rfl
  obtain ⟨bs, hbs⟩ : ∃ b : Bool, (b = true ↔ SoundP P) := ⟨(Classical.propDecidable (SoundP P)).decide, by simp⟩
  have Hbs := Lib.hid hbs
  have HPs : Hid (∀ W, Below w7.heap.size w7 W → Calls Try.prog 27 #[.agg #[.slice s3 P.code.length t3, .int .i64 P.locals, .int .u32 (w32 P.reads), .int .u32 (w32 P.writes)]] W fun e w' => e = .returned (.bool bs) ∧ Below w7.heap.size w7 w') := Lib.hid (fun W hb => (psound_any P (.slice s3 P.code.length t3) W (SlC.below HS6.out hb) hl).mono fun e w' ⟨b, he, hb1, hb2⟩ => ⟨by rw [he, Bool.eq_iff_iff.2 (hb1.trans Hbs.out.symm)], hb.trans (hb2.mono hb.size)⟩)
  have HRs : Hid (∀ (s1 : Option Addr) (t1 : Nat) (W : World), Below w7.heap.size w7 W → SlC W P.code (.slice s1 P.code.length t1) → Calls Try.prog 36 #[.agg #[.slice s1 P.code.length t1, .int .i64 P.locals, .int .u32 (w32 P.reads), .int .u32 (w32 P.writes)]] W fun e w' => e = .returned (.bool bs) ∧ Below w7.heap.size w7 w') := Lib.hid (fun s1 t1 W hb hS => (rsound_any P (.slice s1 P.code.length t1) W hS hl).mono fun e w' ⟨b, he, hb1, hb2⟩ => ⟨by rw [he, Bool.eq_iff_iff.2 (hb1.trans Hbs.out.symm)], hb.trans (hb2.mono hb.size)⟩)
  have HGs : Hid (∀ W, Below w7.heap.size w7 W → Calls Try.prog 18 #[.agg #[.slice a P.code.length cap, .int .i64 P.locals, .int .u32 (w32 P.reads), .int .u32 (w32 P.writes)]] W fun e w' => ∃ (s2 : Option Addr) (t2 : Nat), e = .returned (.agg #[.slice s2 P.code.length t2, .int .i64 P.locals, .int .u32 (w32 P.reads), .int .u32 (w32 P.writes)]) ∧ SlC w' P.code (.slice s2 P.code.length t2) ∧ Below w7.heap.size w7 w') := Lib.hid (fun W hb => (HG.out W (HB6.out.trans (hb.mono hs6))).mono fun e w' ⟨s2, t2, he, hS, hb'⟩ => ⟨s2, t2, he, hS, hb.trans (hb'.mono hb.size)⟩)
  have HSm : Hid (∀ W, Below w7.heap.size w7 W → Calls Try.prog 25 #[.agg #[.slice s3 P.code.length t3, .int .i64 P.locals, .int .u32 (w32 P.reads), .int .u32 (w32 P.writes)], .agg #[.slice a P.code.length cap, .int .i64 P.locals, .int .u32 (w32 P.reads), .int .u32 (w32 P.writes)]] W fun e w' => e = .returned (.bool true) ∧ Below w7.heap.size w7 w') := Lib.hid (fun W hb => (same_yes P (.slice s3 P.code.length t3) (.slice a P.code.length cap) W (SlC.below HS6.out hb) (SlC.below HC.out (HB6.out.trans (hb.mono hs6))) hl).mono fun e w' ⟨he, hb'⟩ => ⟨he, hb.trans (hb'.mono hb.size)⟩)
  clear hbs HG HS6 HC HR
  go_upto_region 4 with (fail)
  go_region_held3 (fun w' => w'.cell? ⟨w.heap.size, 0, none⟩ = some (.slice a P.code.length cap) ∧ w'.cell? ⟨w.heap.size, 1, none⟩ = some (.int .i64 P.locals) ∧ w'.cell? ⟨w.heap.size, 2, none⟩ = some (.int .u32 (w32 P.reads)) ∧ w'.cell? ⟨w.heap.size, 3, none⟩ = some (.int .u32 (w32 P.writes)) ∧ w'.cell? ⟨w3.heap.size, 0, none⟩ = some (.slice s3 P.code.length t3) ∧ w'.cell? ⟨w3.heap.size, 1, none⟩ = some (.int .i64 P.locals) ∧ w'.cell? ⟨w3.heap.size, 2, none⟩ = some (.int .u32 (w32 P.reads)) ∧ w'.cell? ⟨w3.heap.size, 3, none⟩ = some (.int .u32 (w32 P.writes))) (go_keep) (first | (go_at_call 27; refine (HPs.out _ (by first | exact (Below.refl _ _).drew | exact Below.refl _ _)).mono ?_; rintro e8 w8 ⟨rfl, B8⟩; have ax0 := Below.keep B8 x0; have ax1 := Below.keep B8 x1; have ax2 := Below.keep B8 x2; have ax3 := Below.keep B8 x3; have ay0 := Below.keep B8 y0; have ay1 := Below.keep B8 y1; have ay2 := Below.keep B8 y2; have ay3 := Below.keep B8 y3) | (go_at_call 18; refine (HGs.out _ B8).mono ?_; rintro e9 w9 ⟨s9, t9, rfl, hS9, B9⟩; have bx0 := Below.keep B9 x0; have bx1 := Below.keep B9 x1; have bx2 := Below.keep B9 x2; have bx3 := Below.keep B9 x3; have by0 := Below.keep B9 y0; have by1 := Below.keep B9 y1; have by2 := Below.keep B9 y2; have by3 := Below.keep B9 y3) | (go_at_call 36; refine (HRs.out _ _ _ B9 hS9).mono ?_; rintro e10 w10 ⟨rfl, B10⟩; have cx0 := Below.keep B10 x0; have cx1 := Below.keep B10 x1; have cx2 := Below.keep B10 x2; have cx3 := Below.keep B10 x3; have cy0 := Below.keep B10 y0; have cy1 := Below.keep B10 y1; have cy2 := Below.keep B10 y2; have cy3 := Below.keep B10 y3) | (go_at_call 25; refine (HSm.out _ B10).mono ?_; rintro e11 w11 ⟨rfl, B11⟩; have dx0 := Below.keep B11 x0; have dx1 := Below.keep B11 x1; have dx2 := Below.keep B11 x2; have dx3 := Below.keep B11 x3; have dy0 := Below.keep B11 y0; have dy1 := Below.keep B11 y1; have dy2 := Below.keep B11 y2; have dy3 := Below.keep B11 y3))
  all_goals
    have HBf : Hid (Below w.heap.size w w11) := Lib.hid (HB6.out.trans (B11.mono hs6))
    go_wp2_with fail
    go_ret
    exact ⟨by first | rfl | simp, HBf.out⟩
set_option maxRecDepth 100000 in
set_option maxHeartbeats 4000000 in
theorem lawChecks_any (P : ProgS) (v : Value) (w : World) (hC : SlC w P.code v) :
    Calls Try.prog 4 #[progV P v] w fun e w' => e = .returned (.bool true) ∧ Below w.heap.size w w' := by
  obtain ⟨a, cap, rfl, _, _⟩ := Sl.form hC
  obtain ⟨W1, hW1, hX1, hb1⟩ : ∃ W, W = w.alloc (.cells #[.slice a P.code.length cap, .int .i64 P.locals, .int .u32 (w32 P.reads), .int .u32 (w32 P.writes)] 29) ∧ OwnV W w.heap.size 29 [.slice a P.code.length cap, .int .i64 P.locals, .int .u32 (w32 P.reads), .int .u32 (w32 P.writes)] ∧ Below w.heap.size w W := ⟨_, rfl, OwnV.new _ _ _, (Below.refl _ _).alloc (Nat.le_refl _) _⟩
  have HC := Lib.hid hC
  have HB1 := Lib.hid hb1
  have HW1 := Lib.hid hW1
  have x0 := hX1.cell (i := 0) rfl
  have x1 := hX1.cell (i := 1) rfl
  have x2 := hX1.cell (i := 2) rfl
  have x3 := hX1.cell (i := 3) rfl
  clear hC hX1 hb1 hW1
  unfold progV
  go_enter Try.func4, Try.ntmps4
  go_upto_region 1 with (fail)
  rw [← HW1.out]
  clear HW1
  by_cases hl : (P.code.length : Int) > 1000
  · go_wp2_with fail
    refine (awake_any _).mono ?_
    rintro e2 w2 ⟨rfl, hb2⟩
    have HB2 := Lib.hid (HB1.out.trans (hb2.mono HB1.out.size))
    clear hb2
    go_wp2_with fail
    go_ret
    exact ⟨rfl, HB2.out⟩
  · have hl2 : (P.code.length : Int) ≤ 1000 := by omega
    have hck := checks_any P (.slice a P.code.length cap) W1 (SlC.below HC.out HB1.out) (by omega)
    unfold progV at hck
    have HCk := Lib.hid hck
    clear hck hl
    go_wp2_with fail
    refine HCk.out.mono ?_
    rintro e2 w2 ⟨rfl, hb2⟩
    have HB2 := Lib.hid (HB1.out.trans (hb2.mono HB1.out.size))
    clear hb2
    go_wp2_with fail
    refine (awake_any _).mono ?_
    rintro e3 w3 ⟨rfl, hb3⟩
    have HB3 := Lib.hid (HB2.out.trans (hb3.mono HB2.out.size))
    clear hb3
    go_wp2_with fail
    go_ret
    exact ⟨rfl, HB3.out⟩
end Go.Proofs.Ytdeneckmoejcfaa
