/- marcheslaw13.awake, walked: it answers true. -/
/- marcheslaw13.CompileIsSound, walked. -/
import Derived.Test.YtdeneckmoejcfaaWCodeJ
import Derived.Test.YtdeneckmoejcfaaPSoundJ
import Derived.Test.YtdeneckmoejcfaaSoundSJ
import Derived.Test.YtdeneckmoejcfaaPCompJ
import Derived.Test.YtdeneckmoejcfaaTreeOJ
set_option linter.unusedSimpArgs false
set_option linter.unusedVariables false
namespace Go.Proofs.Ytdeneckmoejcfaa
open Go.RowKit

theorem awkP0 (w : World) : Calls Try.prog 20 #[.string ⟨#[108, 101, 116, 32, 97, 32, 61, 32, 51, 59, 32, 119, 104, 105, 108, 101, 32, 40, 97, 41, 32, 123, 32, 118, 97, 114, 115, 91, 48, 93, 32, 61, 32, 97, 59, 32, 97, 32, 61, 32, 97, 32, 45, 32, 49, 59, 32, 125]⟩] w (ProgramE awk0 w) := program_any ⟨#[108, 101, 116, 32, 97, 32, 61, 32, 51, 59, 32, 119, 104, 105, 108, 101, 32, 40, 97, 41, 32, 123, 32, 118, 97, 114, 115, 91, 48, 93, 32, 61, 32, 97, 59, 32, 97, 32, 61, 32, 97, 32, 45, 32, 49, 59, 32, 125]⟩ w (by decide)
theorem awkC0 (v : Value) (w : World) (hL : SsL w w.heap.size (progS awk0) v) : Calls Try.prog 24 #[v] w fun e w' => ProgE 35 w w' e (.ok ⟨want0, 1, 0, 128⟩) ∧ Below w.heap.size w w' := by
  have h := pcomp_any (progS awk0) v w w.heap.size (fitSrc_ok awk0_fit).1 (fitSrc_ok awk0_fit).2 hL (Nat.le_refl _)
  rw [awk0_ok] at h
  exact h
theorem awkP1 (w : World) : Calls Try.prog 20 #[.string ⟨#[108, 101, 116, 32, 120, 32, 61, 32, 112, 111, 115, 91, 48, 93, 32, 38, 38, 32, 116, 105, 99, 107, 59]⟩] w (ProgramE awk1 w) := program_any ⟨#[108, 101, 116, 32, 120, 32, 61, 32, 112, 111, 115, 91, 48, 93, 32, 38, 38, 32, 116, 105, 99, 107, 59]⟩ w (by decide)
theorem awkC1 (v : Value) (w : World) (hL : SsL w w.heap.size (progS awk1) v) : Calls Try.prog 24 #[v] w fun e w' => ProgE 35 w w' e (.ok ⟨want1, 1, 2, 0⟩) ∧ Below w.heap.size w w' := by
  have h := pcomp_any (progS awk1) v w w.heap.size (fitSrc_ok awk1_fit).1 (fitSrc_ok awk1_fit).2 hL (Nat.le_refl _)
  rw [awk1_ok] at h
  exact h
theorem awkP2 (w : World) : Calls Try.prog 20 #[.string ⟨#[120, 32, 61, 32, 112, 111, 115, 91, 48, 93, 32, 38, 38, 32, 116, 105, 99, 107, 59]⟩] w (ProgramE awk2 w) := program_any ⟨#[120, 32, 61, 32, 112, 111, 115, 91, 48, 93, 32, 38, 38, 32, 116, 105, 99, 107, 59]⟩ w (by decide)
theorem awkC2 (v : Value) (w : World) (hL : SsL w w.heap.size (progS awk2) v) : Calls Try.prog 24 #[v] w fun e w' => ProgE 35 w w' e (.err 131) ∧ Below w.heap.size w w' := by
  have h := pcomp_any (progS awk2) v w w.heap.size (fitSrc_ok awk2_fit).1 (fitSrc_ok awk2_fit).2 hL (Nat.le_refl _)
  rw [awk2_ok] at h
  exact h
theorem awkP3 (w : World) : Calls Try.prog 20 #[.string ⟨#[108, 101, 116, 32, 120, 32, 61, 32, 49, 59, 32, 105, 102, 32, 40, 120, 41, 32, 123, 32, 108, 101, 116, 32, 120, 32, 61, 32, 50, 59, 32, 125]⟩] w (ProgramE awk3 w) := program_any ⟨#[108, 101, 116, 32, 120, 32, 61, 32, 49, 59, 32, 105, 102, 32, 40, 120, 41, 32, 123, 32, 108, 101, 116, 32, 120, 32, 61, 32, 50, 59, 32, 125]⟩ w (by decide)
theorem awkC3 (v : Value) (w : World) (hL : SsL w w.heap.size (progS awk3) v) : Calls Try.prog 24 #[v] w fun e w' => ProgE 35 w w' e (.err 132) ∧ Below w.heap.size w w' := by
  have h := pcomp_any (progS awk3) v w w.heap.size (fitSrc_ok awk3_fit).1 (fitSrc_ok awk3_fit).2 hL (Nat.le_refl _)
  rw [awk3_ok] at h
  exact h
theorem w32_lit (n : Nat) (h : n < 4294967296) : w32 (BitVec.ofNat 32 n) = n := by unfold w32; rw [BitVec.toNat_ofNat, Nat.mod_eq_of_lt h]
theorem awk_sound : SoundP ⟨want0, 1, 0, 128⟩ := comp_sound awk0_ok
set_option maxRecDepth 100000 in
set_option maxHeartbeats 8000000 in
theorem awake_any (w : World) : Calls Try.prog 14 #[] w fun e w' => e = .returned (.bool true) ∧ Below w.heap.size w w' := by
  have Hz0 : Hid (w32 (0 : BitVec 32) = 0) := Lib.hid rfl
  go_enter Try.func14, Try.ntmps14
  have HB0 : Hid (Below w.heap.size w w) := Lib.hid (Below.refl _ _)
  obtain ⟨wz, hwz⟩ : ∃ wz : World, wz = w := ⟨_, rfl⟩
  go_wp2_with fail
  refine (awkP0 _).mono ?_
  rintro e1 a0 ⟨v0, rfl, hL0, hb0⟩
  obtain ⟨l0, k0, rfl, _, _⟩ := hL0.form
  have HA0 := Lib.hid (HB0.out.trans (hb0.mono HB0.out.size))
  have HC0 := Lib.hid (awkC0 _ a0 hL0)
  clear hb0 hL0
  go_wp2_with fail
  refine HC0.out.mono ?_
  rintro e2 b0 ⟨⟨q0, rfl, hO0⟩, hc0⟩
  have hS0 : SlC b0 want0 q0 := OwnC.sl hO0
  obtain ⟨s0, t0, rfl, _, _⟩ := Sl.form hS0
  have hlen0 : want0.length = 12 := rfl
  rw [hlen0] at hS0 ⊢
  rw [show progV ⟨want0, 1, 0, 128⟩ (.slice s0 12 t0) = .agg #[.slice s0 12 t0, .int .i64 1, .int .u32 0, .int .u32 128] from rfl]
  have HG0 := Lib.hid (HA0.out.trans (hc0.mono HA0.out.size))
  have HS0 := Lib.hid hS0
  clear hS0 hO0
  obtain ⟨g0, hg0, hX0, hd0⟩ : ∃ g, g = b0.alloc (.cells #[.slice s0 12 t0, .int .i64 1, .int .u32 0, .int .u32 128] 29) ∧ OwnV g b0.heap.size 29 [.slice s0 12 t0, .int .i64 1, .int .u32 0, .int .u32 128] ∧ Below b0.heap.size b0 g := ⟨_, rfl, OwnV.new _ _ _, (Below.refl _ _).alloc (Nat.le_refl _) _⟩
  have HB1 := Lib.hid (HG0.out.trans (hd0.mono HG0.out.size))
  have HW0 := Lib.hid hg0
  replace HS0 := Lib.hid (HS0.out.below hd0)
  have HX0 := Lib.hid hX0
  clear hc0 hd0 hX0 hg0 HC0
  go_upto_region 2 with (fail)
  rw [← HW0.out]
  go_wp2_with fail
  refine (awkP1 _).mono ?_
  rintro e1 a1 ⟨v1, rfl, hL1, hb1⟩
  obtain ⟨l1, k1, rfl, _, _⟩ := hL1.form
  have HA1 := Lib.hid (HB1.out.trans (hb1.mono HB1.out.size))
  have HC1 := Lib.hid (awkC1 _ a1 hL1)
  replace HX0 := Lib.hid (HX0.out.below hb1 (Nat.le_refl _))
  replace HS0 := Lib.hid (HS0.out.below hb1)
  clear hb1 hL1
  go_wp2_with fail
  refine HC1.out.mono ?_
  rintro e2 b1 ⟨⟨q1, rfl, hO1⟩, hc1⟩
  have hS1 : SlC b1 want1 q1 := OwnC.sl hO1
  obtain ⟨s1, t1, rfl, _, _⟩ := Sl.form hS1
  have hlen1 : want1.length = 8 := rfl
  rw [hlen1] at hS1 ⊢
  rw [show progV ⟨want1, 1, 2, 0⟩ (.slice s1 8 t1) = .agg #[.slice s1 8 t1, .int .i64 1, .int .u32 2, .int .u32 0] from rfl]
  replace HX0 := Lib.hid (HX0.out.below hc1 (Nat.le_refl _))
  replace HS0 := Lib.hid (HS0.out.below hc1)
  have HG1 := Lib.hid (HA1.out.trans (hc1.mono HA1.out.size))
  have HS1 := Lib.hid hS1
  clear hS1 hO1
  obtain ⟨g1, hg1, hX1, hd1⟩ : ∃ g, g = b1.alloc (.cells #[.slice s1 8 t1, .int .i64 1, .int .u32 2, .int .u32 0] 29) ∧ OwnV g b1.heap.size 29 [.slice s1 8 t1, .int .i64 1, .int .u32 2, .int .u32 0] ∧ Below b1.heap.size b1 g := ⟨_, rfl, OwnV.new _ _ _, (Below.refl _ _).alloc (Nat.le_refl _) _⟩
  have HB2 := Lib.hid (HG1.out.trans (hd1.mono HG1.out.size))
  have HW1 := Lib.hid hg1
  replace HX0 := Lib.hid (HX0.out.below hd1 (Nat.le_refl _))
  replace HS0 := Lib.hid (HS0.out.below hd1)
  replace HS1 := Lib.hid (HS1.out.below hd1)
  have HX1 := Lib.hid hX1
  clear hc1 hd1 hX1 hg1 HC1
  go_upto_region 3 with (fail)
  rw [← HW1.out]
  go_wp2_with fail
  refine (awkP2 _).mono ?_
  rintro e1 a2 ⟨v2, rfl, hL2, hb2⟩
  obtain ⟨l2, k2, rfl, _, _⟩ := hL2.form
  have HA2 := Lib.hid (HB2.out.trans (hb2.mono HB2.out.size))
  have HC2 := Lib.hid (awkC2 _ a2 hL2)
  replace HX0 := Lib.hid (HX0.out.below hb2 (Nat.le_refl _))
  replace HS0 := Lib.hid (HS0.out.below hb2)
  replace HX1 := Lib.hid (HX1.out.below hb2 (Nat.le_refl _))
  replace HS1 := Lib.hid (HS1.out.below hb2)
  clear hb2 hL2
  go_wp2_with fail
  refine HC2.out.mono ?_
  rintro e2 b2 ⟨⟨rfl, -⟩, hc2⟩
  rw [show zeroP = .agg #[.slice none 0 0, .int .i64 0, .int .u32 0, .int .u32 0] from rfl]
  replace HX0 := Lib.hid (HX0.out.below hc2 (Nat.le_refl _))
  replace HS0 := Lib.hid (HS0.out.below hc2)
  replace HX1 := Lib.hid (HX1.out.below hc2 (Nat.le_refl _))
  replace HS1 := Lib.hid (HS1.out.below hc2)
  have HG2 := Lib.hid (HA2.out.trans (hc2.mono HA2.out.size))
  obtain ⟨g2, hg2, hX2, hd2⟩ : ∃ g, g = b2.alloc (.cells #[.slice none 0 0, .int .i64 0, .int .u32 0, .int .u32 0] 29) ∧ OwnV g b2.heap.size 29 [.slice none 0 0, .int .i64 0, .int .u32 0, .int .u32 0] ∧ Below b2.heap.size b2 g := ⟨_, rfl, OwnV.new _ _ _, (Below.refl _ _).alloc (Nat.le_refl _) _⟩
  have HB3 := Lib.hid (HG2.out.trans (hd2.mono HG2.out.size))
  have HW2 := Lib.hid hg2
  replace HX0 := Lib.hid (HX0.out.below hd2 (Nat.le_refl _))
  replace HS0 := Lib.hid (HS0.out.below hd2)
  replace HX1 := Lib.hid (HX1.out.below hd2 (Nat.le_refl _))
  replace HS1 := Lib.hid (HS1.out.below hd2)
  clear hc2 hd2 hX2 hg2 HC2
  go_upto_region 4 with (fail)
  rw [← HW2.out]
  go_wp2_with fail
  refine (awkP3 _).mono ?_
  rintro e1 a3 ⟨v3, rfl, hL3, hb3⟩
  obtain ⟨l3, k3, rfl, _, _⟩ := hL3.form
  have HA3 := Lib.hid (HB3.out.trans (hb3.mono HB3.out.size))
  have HC3 := Lib.hid (awkC3 _ a3 hL3)
  replace HX0 := Lib.hid (HX0.out.below hb3 (Nat.le_refl _))
  replace HS0 := Lib.hid (HS0.out.below hb3)
  replace HX1 := Lib.hid (HX1.out.below hb3 (Nat.le_refl _))
  replace HS1 := Lib.hid (HS1.out.below hb3)
  clear hb3 hL3
  go_wp2_with fail
  refine HC3.out.mono ?_
  rintro e2 b3 ⟨⟨rfl, -⟩, hc3⟩
  rw [show zeroP = .agg #[.slice none 0 0, .int .i64 0, .int .u32 0, .int .u32 0] from rfl]
  replace HX0 := Lib.hid (HX0.out.below hc3 (Nat.le_refl _))
  replace HS0 := Lib.hid (HS0.out.below hc3)
  replace HX1 := Lib.hid (HX1.out.below hc3 (Nat.le_refl _))
  replace HS1 := Lib.hid (HS1.out.below hc3)
  have HG3 := Lib.hid (HA3.out.trans (hc3.mono HA3.out.size))
  obtain ⟨g3, hg3, hX3, hd3⟩ : ∃ g, g = b3.alloc (.cells #[.slice none 0 0, .int .i64 0, .int .u32 0, .int .u32 0] 29) ∧ OwnV g b3.heap.size 29 [.slice none 0 0, .int .i64 0, .int .u32 0, .int .u32 0] ∧ Below b3.heap.size b3 g := ⟨_, rfl, OwnV.new _ _ _, (Below.refl _ _).alloc (Nat.le_refl _) _⟩
  have HB4 := Lib.hid (HG3.out.trans (hd3.mono HG3.out.size))
  have HW3 := Lib.hid hg3
  replace HX0 := Lib.hid (HX0.out.below hd3 (Nat.le_refl _))
  replace HS0 := Lib.hid (HS0.out.below hd3)
  replace HX1 := Lib.hid (HX1.out.below hd3 (Nat.le_refl _))
  replace HS1 := Lib.hid (HS1.out.below hd3)
  clear hc3 hd3 hX3 hg3 HC3
  go_upto_region 5 with (fail)
  rw [← HW3.out]
  obtain ⟨d0, hd0, hP0, hb0⟩ : ∃ d, d = g3.alloc (.cells #[.int .i64 1, .int .i64 3, .int .i64 3, .int .i64 0, .int .i64 2, .int .i64 0, .int .i64 12, .int .i64 12, .int .i64 1, .int .i64 0, .int .i64 2, .int .i64 0, .int .i64 5, .int .i64 7, .int .i64 2, .int .i64 0, .int .i64 1, .int .i64 1, .int .i64 9, .int .i64 14, .int .i64 3, .int .i64 0, .int .i64 11, .int .i64 2] 32) ∧ Pairs d want0 (.slice (some ⟨g3.heap.size, 0, none⟩) 12 12) ∧ Below g3.heap.size g3 d := ⟨_, rfl, sl_block (OwnV.new g3 32 [.int .i64 1, .int .i64 3, .int .i64 3, .int .i64 0, .int .i64 2, .int .i64 0, .int .i64 12, .int .i64 12, .int .i64 1, .int .i64 0, .int .i64 2, .int .i64 0, .int .i64 5, .int .i64 7, .int .i64 2, .int .i64 0, .int .i64 1, .int .i64 1, .int .i64 9, .int .i64 14, .int .i64 3, .int .i64 0, .int .i64 11, .int .i64 2]) rfl (by decide) (by decide), (Below.refl _ _).alloc (Nat.le_refl _) _⟩
  have HK0 := Lib.hid (code_any want0 _ d0 hP0 (by decide) (by decide))
  have HE0 := Lib.hid (HB4.out.trans (hb0.mono HB4.out.size))
  replace HX0 := Lib.hid (HX0.out.below hb0 (Nat.le_refl _))
  replace HS0 := Lib.hid (HS0.out.below hb0)
  replace HX1 := Lib.hid (HX1.out.below hb0 (Nat.le_refl _))
  replace HS1 := Lib.hid (HS1.out.below hb0)
  have HWd0 := Lib.hid hd0
  clear hb0 hP0 hd0
  go_wp2_with fail
  rw [← HWd0.out]
  refine HK0.out.mono ?_
  rintro e2 c0 ⟨⟨u0, rfl, hO⟩, hc⟩
  have hV : SlC c0 want0 u0 := OwnC.sl hO
  obtain ⟨y0, z0, rfl, _, _⟩ := Sl.form hV
  have hlen : want0.length = 12 := rfl
  rw [hlen] at hV ⊢
  have HD0 := Lib.hid (HE0.out.trans (hc.mono HE0.out.size))
  replace HX0 := Lib.hid (HX0.out.below hc (Nat.le_refl _))
  replace HS0 := Lib.hid (HS0.out.below hc)
  replace HX1 := Lib.hid (HX1.out.below hc (Nat.le_refl _))
  replace HS1 := Lib.hid (HS1.out.below hc)
  have HV0 := Lib.hid hV
  clear hc hO hV hlen
  go_upto_region 6 with (fail)
  obtain ⟨d1, hd1, hP1, hb1⟩ : ∃ d, d = c0.alloc (.cells #[.int .i64 1, .int .i64 0, .int .i64 4, .int .i64 1, .int .i64 12, .int .i64 6, .int .i64 6, .int .i64 0, .int .i64 10, .int .i64 0, .int .i64 11, .int .i64 7, .int .i64 1, .int .i64 0, .int .i64 3, .int .i64 0] 32) ∧ Pairs d want1 (.slice (some ⟨c0.heap.size, 0, none⟩) 8 8) ∧ Below c0.heap.size c0 d := ⟨_, rfl, sl_block (OwnV.new c0 32 [.int .i64 1, .int .i64 0, .int .i64 4, .int .i64 1, .int .i64 12, .int .i64 6, .int .i64 6, .int .i64 0, .int .i64 10, .int .i64 0, .int .i64 11, .int .i64 7, .int .i64 1, .int .i64 0, .int .i64 3, .int .i64 0]) rfl (by decide) (by decide), (Below.refl _ _).alloc (Nat.le_refl _) _⟩
  have HK1 := Lib.hid (code_any want1 _ d1 hP1 (by decide) (by decide))
  have HE1 := Lib.hid (HD0.out.trans (hb1.mono HD0.out.size))
  replace HX0 := Lib.hid (HX0.out.below hb1 (Nat.le_refl _))
  replace HS0 := Lib.hid (HS0.out.below hb1)
  replace HX1 := Lib.hid (HX1.out.below hb1 (Nat.le_refl _))
  replace HS1 := Lib.hid (HS1.out.below hb1)
  replace HV0 := Lib.hid (HV0.out.below hb1)
  have HWd1 := Lib.hid hd1
  clear hb1 hP1 hd1
  go_wp2_with fail
  rw [← HWd1.out]
  refine HK1.out.mono ?_
  rintro e2 c1 ⟨⟨u1, rfl, hO⟩, hc⟩
  have hV : SlC c1 want1 u1 := OwnC.sl hO
  obtain ⟨y1, z1, rfl, _, _⟩ := Sl.form hV
  have hlen : want1.length = 8 := rfl
  rw [hlen] at hV ⊢
  have HD1 := Lib.hid (HE1.out.trans (hc.mono HE1.out.size))
  replace HX0 := Lib.hid (HX0.out.below hc (Nat.le_refl _))
  replace HS0 := Lib.hid (HS0.out.below hc)
  replace HX1 := Lib.hid (HX1.out.below hc (Nat.le_refl _))
  replace HS1 := Lib.hid (HS1.out.below hc)
  replace HV0 := Lib.hid (HV0.out.below hc)
  have HV1 := Lib.hid hV
  clear hc hO hV hlen
  go_upto_region 7 with (fail)
  have x00 := HX0.out.cell (i := 0) rfl
  have HM0 := Lib.hid (sameCode_any want0 want0 _ _ c1 HS0.out HV0.out (by decide) (by decide))
  rw [show sameC want0 want0 = true from rfl] at HM0
  go_wp2_with fail
  refine HM0.out.mono ?_
  rintro e2 m0 ⟨rfl, hm0⟩
  have HN0 := Lib.hid (HD1.out.trans (hm0.mono HD1.out.size))
  replace HX0 := Lib.hid (HX0.out.below hm0 (Nat.le_refl _))
  replace HX1 := Lib.hid (HX1.out.below hm0 (Nat.le_refl _))
  replace HS0 := Lib.hid (HS0.out.below hm0)
  replace HS1 := Lib.hid (HS1.out.below hm0)
  replace HV1 := Lib.hid (HV1.out.below hm0)
  have x01 := HX0.out.cell (i := 1) rfl
  have x02 := HX0.out.cell (i := 2) rfl
  have x03 := HX0.out.cell (i := 3) rfl
  have x10 := HX1.out.cell (i := 0) rfl
  have HM1 := Lib.hid (sameCode_any want1 want1 _ _ m0 HS1.out HV1.out (by decide) (by decide))
  rw [show sameC want1 want1 = true from rfl] at HM1
  clear hm0 x00 HM0
  go_wp2_with fail
  refine HM1.out.mono ?_
  rintro e2 m1 ⟨rfl, hm1⟩
  have HN1 := Lib.hid (HN0.out.trans (hm1.mono HN0.out.size))
  replace HX0 := Lib.hid (HX0.out.below hm1 (Nat.le_refl _))
  replace HX1 := Lib.hid (HX1.out.below hm1 (Nat.le_refl _))
  replace HS0 := Lib.hid (HS0.out.below hm1)
  clear hm1 x01 x02 x03 x10 HM1
  have x12 := HX1.out.cell (i := 2) rfl
  have x00 := HX0.out.cell (i := 0) rfl
  have x01 := HX0.out.cell (i := 1) rfl
  have x02 := HX0.out.cell (i := 2) rfl
  have x03 := HX0.out.cell (i := 3) rfl
  have HSd : Hid (Calls Try.prog 27 #[.agg #[.slice s0 12 t0, .int .i64 1, .int .u32 0, .int .u32 128]] m1 (SoundE ⟨want0, 1, 0, 128⟩ m1)) := Lib.hid (psound_any ⟨want0, 1, 0, 128⟩ (.slice s0 12 t0) m1 HS0.out (by decide))
  go_wp2_with fail
  refine HSd.out.mono ?_
  rintro e2 m2 ⟨bb, rfl, hbb, hm2⟩
  obtain rfl : bb = true := hbb.2 awk_sound
  have HN2 := Lib.hid (HN1.out.trans (hm2.mono HN1.out.size))
  clear hm2 hbb
  go_wp2_with fail
  go_ret
  exact ⟨rfl, HN2.out⟩
end Go.Proofs.Ytdeneckmoejcfaa
namespace Go.Proofs.Ytdeneckmoejcfaa
open Go.RowKit
set_option maxRecDepth 100000 in
set_option maxHeartbeats 4000000 in
theorem isSound_any (l : List St) (v : Value) (w : World) (hok : okSs l) (hL : SsL w w.heap.size l v) :
    Calls Try.prog 7 #[v] w fun e w' => e = .returned (.bool true) ∧ Below w.heap.size w w' := by
  obtain ⟨a, cap, rfl, _, _⟩ := hL.form
  have HL := Lib.hid hL
  have Hok := Lib.hid hok
  clear hL hok
  go_enter Try.func7, Try.ntmps7
  go_wp2_with fail
  refine (awake_any _).mono ?_
  rintro e1 w1 ⟨rfl, hb1⟩
  have HB1 := Lib.hid hb1
  have HS := Lib.hid (size_any (szSs l + 1) l _ w1 w.heap.size 400 (by omega) Hok.out (HL.out.low hb1) hb1.size (by omega) (by omega))
  clear hb1
  go_wp2_with fail
  refine HS.out.mono ?_
  rintro e2 w2 ⟨⟨r, rfl, -, hr, -⟩, hb2⟩
  have HB2 := Lib.hid (HB1.out.trans (hb2.mono HB1.out.size))
  have Hr := Lib.hid hr
  clear hb2 hr HS
  by_cases hrl : (r : Int) > 400
  · go_wp2_with fail
    go_ret
    exact ⟨rfl, HB2.out⟩
  have hrl2 : (r : Int) ≤ 400 := by omega
  have hsz : szSs l ≤ 400 := by have := Hr.out hrl2; omega
  have HC := Lib.hid (pcomp_any l _ w2 w.heap.size Hok.out (by omega) (HL.out.low HB2.out) HB2.out.size)
  clear hsz hrl
  go_wp2_with fail
  refine HC.out.mono ?_
  rintro e3 w3 ⟨hP, hb3⟩
  have HB3 := Lib.hid (HB2.out.trans (hb3.mono HB2.out.size))
  clear HC
  cases hc : compS l with
  | err k =>
    rw [hc] at hP
    obtain ⟨rfl, hk⟩ := hP
    rw [show zeroP = .agg #[.slice none 0 0, .int .i64 0, .int .u32 0, .int .u32 0] from rfl]
    have HSa : Hid (∀ W : World, Calls Try.prog 25 #[.agg #[.slice none 0 0, .int .i64 0, .int .u32 0, .int .u32 0], .agg #[.slice none 0 0, .int .i64 0, .int .u32 0, .int .u32 0]] W (BoolE true W)) := Lib.hid (fun (W : World) => same_any ⟨[], 0, 0, 0⟩ ⟨[], 0, 0, 0⟩ (.slice none 0 0) (.slice none 0 0) W (Sl.nil W 2) (Sl.nil W 2) (by decide) (by decide))
    rcases hk with rfl | rfl | rfl | rfl | rfl
    all_goals
      go_wp2_with fail
      refine (HSa.out _).mono ?_
      rintro e4 w4 ⟨rfl, hb4⟩
      have HB4 := Lib.hid (HB3.out.trans ((((Below.refl w3.heap.size w3).alloc (Nat.le_refl _) _).trans (hb4.mono (by simp))).mono HB3.out.size))
      clear hb4
      go_wp2_with fail
      go_ret
      exact ⟨rfl, HB4.out⟩
  | ok p =>
    rw [hc] at hP
    obtain ⟨q, rfl, hO⟩ := hP
    have hS : SlC w3 p.code q := OwnC.sl hO
    obtain ⟨s0, t0, rfl, hst, _⟩ := Sl.form hS
    have Hc := Lib.hid (comp_sound hc)
    obtain ⟨W4, hW4, hX4, hb4⟩ : ∃ W4, W4 = w3.alloc (.cells #[.slice s0 p.code.length t0, .int .i64 p.locals, .int .u32 (w32 p.reads), .int .u32 (w32 p.writes)] 29) ∧ OwnV W4 w3.heap.size 29 [.slice s0 p.code.length t0, .int .i64 p.locals, .int .u32 (w32 p.reads), .int .u32 (w32 p.writes)] ∧ Below w3.heap.size w3 W4 := ⟨_, rfl, OwnV.new _ _ _, (Below.refl _ _).alloc (Nat.le_refl _) _⟩
    have HP := Lib.hid (psound_any p _ W4 (hS.below hb4) (by have := Hc.out.basic.len; omega))
    have HB4 := Lib.hid (HB3.out.trans (hb4.mono HB3.out.size))
    have HX4 := Lib.hid hX4
    have HW4 := Lib.hid hW4
    have x0 := hX4.cell (i := 0) rfl
    have x1 := hX4.cell (i := 1) rfl
    have x2 := hX4.cell (i := 2) rfl
    have x3 := hX4.cell (i := 3) rfl
    clear hW4 hX4 hb4 hS hO
    unfold progV at HP ⊢
    go_upto_region 3 with (fail)
    rw [← HW4.out]
    refine HP.out.mono ?_
    rintro e5 w5 ⟨b, rfl, hb, hb5⟩
    have hbt : b = true := hb.2 Hc.out
    subst hbt
    have HX5 := HX4.out.below hb5 (Nat.le_refl _)
    have HB5 := Lib.hid (HB4.out.trans (hb5.mono HB4.out.size))
    have y0 := HX5.cell (i := 0) rfl
    have y1 := HX5.cell (i := 1) rfl
    have hlen : (p.code.length : Int) ≤ 4000 := by have := Hc.out.basic.len; omega
    have hloc : p.locals ≤ 32 := Hc.out.basic.loc.2
    clear hb hb5 x0 x1 x2 x3 HX5
    go_wp2_with fail
    go_ret
    exact ⟨by first | rfl | simp [hlen, hloc], HB5.out⟩
end Go.Proofs.Ytdeneckmoejcfaa
