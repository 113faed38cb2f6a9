/- marcheslaw13.CompileRenamed, walked. -/
import Derived.Test.YtdeneckmoejcfaaLawK
import Derived.Test.YtdeneckmoejcfaaTreeOJ
import Derived.Test.YtdeneckmoejcfaaWAwkJ
import Derived.Test.YtdeneckmoejcfaaRenS
set_option linter.unusedSimpArgs false
set_option linter.unusedVariables false
namespace Go.Proofs.Ytdeneckmoejcfaa
open Go.RowKit
set_option maxRecDepth 100000 in
set_option maxHeartbeats 4000000 in
theorem renamed_any (l : List St) (v : Value) (d : Int) (w : World) (hd0 : 0 ≤ d) (hd1 : d ≤ 255) (hok : okSs l) (hL : SsL w w.heap.size l v) :
    Calls Try.prog 6 #[v, .int .u8 d] w fun e w' => e = .returned (.bool true) ∧ Below w.heap.size w w' := by
  obtain ⟨a, cap, rfl, _, _⟩ := hL.form
  have HL := Lib.hid hL
  have Hok := Lib.hid hok
  clear hL hok
  go_enter Try.func6, Try.ntmps6
  go_wp2_with fail
  refine (awake_any _).mono ?_
  rintro e1 w1 ⟨rfl, hb1⟩
  have HB1 := Lib.hid hb1
  have HS := Lib.hid (size_any (szSs l + 1) l _ w1 w.heap.size 400 (by omega) Hok.out (HL.out.low hb1) hb1.size (by omega) (by omega))
  clear hb1
  go_wp2_with fail
  refine HS.out.mono ?_
  rintro e2 w2 ⟨⟨r, rfl, -, hr, -⟩, hb2⟩
  have HB2 := Lib.hid (HB1.out.trans (hb2.mono HB1.out.size))
  have Hr := Lib.hid hr
  clear hb2 hr HS
  by_cases hrl : (r : Int) > 400
  · go_wp2_with fail
    go_ret
    exact ⟨rfl, HB2.out⟩
  have hrl2 : (r : Int) ≤ 400 := by omega
  have hsz : szSs l ≤ 400 := by have := Hr.out hrl2; omega
  have HC := Lib.hid (comp7_any l _ w2 w.heap.size Hok.out (by omega) (HL.out.low HB2.out) HB2.out.size)
  have Hsz := Lib.hid hsz
  have Hlen := Lib.hid (resP_len l)
  have HK0 : Hid (∀ m : List UInt8, resK (compS l) ≠ 130 → resK (compS (renSs m l)) ≠ 130 → compS (renSs m l) = compS l) := Lib.hid (fun m h1 h2 => comp_ren m (resK_right h1) (resK_right h2))
  have HE0 : Hid (resK (compS l) = 130 → resP (compS l) = emptyP) := Lib.hid (fun h => (KindR.err (by omega)).2)
  clear hsz hrl
  go_wp2_with fail
  refine HC.out.mono ?_
  rintro e3 w3 ⟨⟨⟨s0, t0, rfl, hS⟩, -⟩, hb3⟩
  have HB3 := Lib.hid (HB2.out.trans (hb3.mono HB2.out.size))
  clear HC
  obtain ⟨R, hR⟩ : ∃ R, R = compS l := ⟨_, rfl⟩
  have HR := Lib.hid hR
  rw [← hR] at HK0 HE0 Hlen hS ⊢
  clear hR
  have hPl := Hlen.out
  obtain ⟨W4, hW4, hX4, hb4⟩ : ∃ W4, W4 = w3.alloc (.cells #[.slice s0 (resP R).code.length t0, .int .i64 (resP R).locals, .int .u32 (w32 (resP R).reads), .int .u32 (w32 (resP R).writes)] 29) ∧ OwnV W4 w3.heap.size 29 [.slice s0 (resP R).code.length t0, .int .i64 (resP R).locals, .int .u32 (w32 (resP R).reads), .int .u32 (w32 (resP R).writes)] ∧ Below w3.heap.size w3 W4 := ⟨_, rfl, OwnV.new _ _ _, (Below.refl _ _).alloc (Nat.le_refl _) _⟩
  have HB4 := Lib.hid (HB3.out.trans (hb4.mono HB3.out.size))
  have HS4 := Lib.hid (SlC.below hS hb4)
  have HX4 := Lib.hid hX4
  have HW4 := Lib.hid hW4
  have x0 := hX4.cell (i := 0) rfl
  have x1 := hX4.cell (i := 1) rfl
  have x2 := hX4.cell (i := 2) rfl
  have x3 := hX4.cell (i := 3) rfl
  clear hW4 hX4 hb4 hS
  unfold progV
  go_upto_region 6 with (fail)
  rw [← HW4.out]
  by_cases hk : resK R = 130
  · have hPe := HE0.out hk
    have HSa := Lib.hid (same_empty (resP R) hPe (.slice s0 (resP R).code.length t0) W4 HS4.out)
    unfold progV at HSa
    clear hPe
    go_wp2_with fail
    refine HSa.out.mono ?_
    rintro e4 w4 ⟨rfl, hb5⟩
    have HB5 := Lib.hid (HB4.out.trans (hb5.mono HB4.out.size))
    clear hb5
    go_wp2_with fail
    go_ret
    exact ⟨rfl, HB5.out⟩
  · have hkb : (resK R == 130) = false := by simp [hk]
    obtain ⟨j, hj, hjd⟩ : ∃ j : Nat, j < 4 ∧ d.tmod 4 = j := ⟨(d.tmod 4).toNat, by rw [Int.tmod_eq_emod_of_nonneg hd0]; omega, by rw [Int.tmod_eq_emod_of_nonneg hd0]; omega⟩
    clear x0 x1 x2 x3
    have h4 : j = 0 ∨ j = 1 ∨ j = 2 ∨ j = 3 := by omega
    have HRn : Hid (∀ (m : List UInt8) (W : World), m.length ≤ 2 → Below w.heap.size w W → Calls Try.prog 26 #[.slice a l.length cap, .string (bstr m)] W (RenSs m l W)) := Lib.hid (fun m W hm hb => renS_any m hm 401 l _ W w.heap.size (by have := Hsz.out; omega) (by omega) (HL.out.low hb) hb.size)
    have HRc : Hid (∀ (m : List UInt8) (W W' : World) (v : Value) (cs : List Value), m.length ≤ 2 → W'.ownsRow W.heap.size 59 6 v l.length cs → StsC W' (fun g => W.heap.size ≤ g ∧ v.ownBlock ≠ some g) (renSs m l) cs → Calls Try.prog 24 #[v] W' fun e w' => ∃ (R2 : CR ProgS) (s1 : Option Addr) (t1 : Nat), e = .returned (.tuple #[progV (resP R2) (.slice s1 (resP R2).code.length t1), .int .i64 (resK R2)]) ∧ SlC w' (resP R2).code (.slice s1 (resP R2).code.length t1) ∧ (resK R2 ≠ 130 → R2 = R) ∧ Below W'.heap.size W' w') := Lib.hid (fun m W W' v cs hm h1 h2 =>
      (comp7_any (renSs m l) v W' W'.heap.size (okSs_ren m hm l (by have := Hsz.out; omega) Hok.out) (by have := szSs_ren m hm l; have := Hsz.out; omega) (ss_low (by rw [renSs_len]; exact h1) h2) (Nat.le_refl _)).mono fun e w' ⟨⟨⟨s1, t1, he, hS⟩, _⟩, hb⟩ =>
        ⟨compS (renSs m l), s1, t1, he, hS, fun h => HK0.out m hk h, hb⟩)
    have h401 : w.heap.size ≤ W4.heap.size := HB4.out.size
    rcases h4 with rfl | rfl | rfl | rfl
    · obtain ⟨m, hm, hbm⟩ : ∃ m : List UInt8, m.length ≤ 2 ∧ ({ data := #[95] } : ByteArray) = bstr m := ⟨[95], by decide, rfl⟩
      go_wp2_with fail
      refine (HRn.out m _ hm (HB4.out.alloc h401 _)).mono ?_
      rintro e5 w5 ⟨⟨v5, cs5, rfl, hown5, hX5⟩, hb5⟩
      have HC2 := Lib.hid (HRc.out m _ _ _ _ hm hown5 hX5)
      obtain ⟨a5, c5, rfl, _, _⟩ := Sl.form (Sl.of_own hown5)
      have hb45 : Below W4.heap.size W4 w5 := Below.trans (((Below.refl W4.heap.size W4).alloc (Nat.le_refl _) _)) (hb5.mono (by simp))
      clear hown5 hX5 hb5
      go_wp2_with fail
      refine HC2.out.mono ?_
      rintro e6 w6 ⟨R2, s1, t1, rfl, hS6, hR2, hb6⟩
      have hb46 : Below W4.heap.size W4 w6 := hb45.trans (hb6.mono hb45.size)
      obtain ⟨W7, hW7, hX7, hb7⟩ : ∃ W7, W7 = w6.alloc (.cells #[.slice s1 (resP R2).code.length t1, .int .i64 (resP R2).locals, .int .u32 (w32 (resP R2).reads), .int .u32 (w32 (resP R2).writes)] 29) ∧ OwnV W7 w6.heap.size 29 [.slice s1 (resP R2).code.length t1, .int .i64 (resP R2).locals, .int .u32 (w32 (resP R2).reads), .int .u32 (w32 (resP R2).writes)] ∧ Below w6.heap.size w6 W7 := ⟨_, rfl, OwnV.new _ _ _, (Below.refl _ _).alloc (Nat.le_refl _) _⟩
      have hb47 : Below W4.heap.size W4 W7 := hb46.trans (hb7.mono hb46.size)
      have HB7 := Lib.hid (HB4.out.trans (hb47.mono h401))
      have HS7 := Lib.hid (SlC.below hS6 hb7)
      have HS4b := Lib.hid (SlC.below HS4.out hb47)
      have HX4b := Lib.hid (HX4.out.below hb47 (Nat.le_refl _))
      have HX7 := Lib.hid hX7
      have HW7 := Lib.hid hW7
      clear hW7 hX7 hb7 hb46 hb45 hb47 hS6 hb6
      unfold progV
      go_upto_region 9 with (fail)
      rw [← HW7.out]
      by_cases hk2 : resK R2 = 130
      · go_wp2_with fail
        go_ret
        exact ⟨rfl, HB7.out⟩
      · have hkb2 : (resK R2 == 130) = false := by simp [hk2]
        obtain rfl := hR2 hk2
        have HSa := Lib.hid (same_yes (resP R2) (.slice s0 (resP R2).code.length t0) (.slice s1 (resP R2).code.length t1) W7 HS4b.out HS7.out (by omega))
        unfold progV at HSa
        have x0 := HX4b.out.cell (i := 0) rfl
        have x1 := HX4b.out.cell (i := 1) rfl
        have x2 := HX4b.out.cell (i := 2) rfl
        have x3 := HX4b.out.cell (i := 3) rfl
        have y0 := HX7.out.cell (i := 0) rfl
        have y1 := HX7.out.cell (i := 1) rfl
        have y2 := HX7.out.cell (i := 2) rfl
        have y3 := HX7.out.cell (i := 3) rfl
        go_wp2_with fail
        refine HSa.out.mono ?_
        rintro e8 w8 ⟨rfl, hb8⟩
        have HB8 := Lib.hid (HB7.out.trans (hb8.mono HB7.out.size))
        clear hb8
        go_wp2_with fail
        go_ret
        exact ⟨rfl, HB8.out⟩
    · obtain ⟨m, hm, hbm⟩ : ∃ m : List UInt8, m.length ≤ 2 ∧ ({ data := #[120] } : ByteArray) = bstr m := ⟨[120], by decide, rfl⟩
      go_wp2_with fail
      refine (HRn.out m _ hm (HB4.out.alloc h401 _)).mono ?_
      rintro e5 w5 ⟨⟨v5, cs5, rfl, hown5, hX5⟩, hb5⟩
      have HC2 := Lib.hid (HRc.out m _ _ _ _ hm hown5 hX5)
      obtain ⟨a5, c5, rfl, _, _⟩ := Sl.form (Sl.of_own hown5)
      have hb45 : Below W4.heap.size W4 w5 := Below.trans (((Below.refl W4.heap.size W4).alloc (Nat.le_refl _) _)) (hb5.mono (by simp))
      clear hown5 hX5 hb5
      go_wp2_with fail
      refine HC2.out.mono ?_
      rintro e6 w6 ⟨R2, s1, t1, rfl, hS6, hR2, hb6⟩
      have hb46 : Below W4.heap.size W4 w6 := hb45.trans (hb6.mono hb45.size)
      obtain ⟨W7, hW7, hX7, hb7⟩ : ∃ W7, W7 = w6.alloc (.cells #[.slice s1 (resP R2).code.length t1, .int .i64 (resP R2).locals, .int .u32 (w32 (resP R2).reads), .int .u32 (w32 (resP R2).writes)] 29) ∧ OwnV W7 w6.heap.size 29 [.slice s1 (resP R2).code.length t1, .int .i64 (resP R2).locals, .int .u32 (w32 (resP R2).reads), .int .u32 (w32 (resP R2).writes)] ∧ Below w6.heap.size w6 W7 := ⟨_, rfl, OwnV.new _ _ _, (Below.refl _ _).alloc (Nat.le_refl _) _⟩
      have hb47 : Below W4.heap.size W4 W7 := hb46.trans (hb7.mono hb46.size)
      have HB7 := Lib.hid (HB4.out.trans (hb47.mono h401))
      have HS7 := Lib.hid (SlC.below hS6 hb7)
      have HS4b := Lib.hid (SlC.below HS4.out hb47)
      have HX4b := Lib.hid (HX4.out.below hb47 (Nat.le_refl _))
      have HX7 := Lib.hid hX7
      have HW7 := Lib.hid hW7
      clear hW7 hX7 hb7 hb46 hb45 hb47 hS6 hb6
      unfold progV
      go_upto_region 9 with (fail)
      rw [← HW7.out]
      by_cases hk2 : resK R2 = 130
      · go_wp2_with fail
        go_ret
        exact ⟨rfl, HB7.out⟩
      · have hkb2 : (resK R2 == 130) = false := by simp [hk2]
        obtain rfl := hR2 hk2
        have HSa := Lib.hid (same_yes (resP R2) (.slice s0 (resP R2).code.length t0) (.slice s1 (resP R2).code.length t1) W7 HS4b.out HS7.out (by omega))
        unfold progV at HSa
        have x0 := HX4b.out.cell (i := 0) rfl
        have x1 := HX4b.out.cell (i := 1) rfl
        have x2 := HX4b.out.cell (i := 2) rfl
        have x3 := HX4b.out.cell (i := 3) rfl
        have y0 := HX7.out.cell (i := 0) rfl
        have y1 := HX7.out.cell (i := 1) rfl
        have y2 := HX7.out.cell (i := 2) rfl
        have y3 := HX7.out.cell (i := 3) rfl
        go_wp2_with fail
        refine HSa.out.mono ?_
        rintro e8 w8 ⟨rfl, hb8⟩
        have HB8 := Lib.hid (HB7.out.trans (hb8.mono HB7.out.size))
        clear hb8
        go_wp2_with fail
        go_ret
        exact ⟨rfl, HB8.out⟩
    · obtain ⟨m, hm, hbm⟩ : ∃ m : List UInt8, m.length ≤ 2 ∧ ({ data := #[57] } : ByteArray) = bstr m := ⟨[57], by decide, rfl⟩
      go_wp2_with fail
      refine (HRn.out m _ hm (HB4.out.alloc h401 _)).mono ?_
      rintro e5 w5 ⟨⟨v5, cs5, rfl, hown5, hX5⟩, hb5⟩
      have HC2 := Lib.hid (HRc.out m _ _ _ _ hm hown5 hX5)
      obtain ⟨a5, c5, rfl, _, _⟩ := Sl.form (Sl.of_own hown5)
      have hb45 : Below W4.heap.size W4 w5 := Below.trans (((Below.refl W4.heap.size W4).alloc (Nat.le_refl _) _)) (hb5.mono (by simp))
      clear hown5 hX5 hb5
      go_wp2_with fail
      refine HC2.out.mono ?_
      rintro e6 w6 ⟨R2, s1, t1, rfl, hS6, hR2, hb6⟩
      have hb46 : Below W4.heap.size W4 w6 := hb45.trans (hb6.mono hb45.size)
      obtain ⟨W7, hW7, hX7, hb7⟩ : ∃ W7, W7 = w6.alloc (.cells #[.slice s1 (resP R2).code.length t1, .int .i64 (resP R2).locals, .int .u32 (w32 (resP R2).reads), .int .u32 (w32 (resP R2).writes)] 29) ∧ OwnV W7 w6.heap.size 29 [.slice s1 (resP R2).code.length t1, .int .i64 (resP R2).locals, .int .u32 (w32 (resP R2).reads), .int .u32 (w32 (resP R2).writes)] ∧ Below w6.heap.size w6 W7 := ⟨_, rfl, OwnV.new _ _ _, (Below.refl _ _).alloc (Nat.le_refl _) _⟩
      have hb47 : Below W4.heap.size W4 W7 := hb46.trans (hb7.mono hb46.size)
      have HB7 := Lib.hid (HB4.out.trans (hb47.mono h401))
      have HS7 := Lib.hid (SlC.below hS6 hb7)
      have HS4b := Lib.hid (SlC.below HS4.out hb47)
      have HX4b := Lib.hid (HX4.out.below hb47 (Nat.le_refl _))
      have HX7 := Lib.hid hX7
      have HW7 := Lib.hid hW7
      clear hW7 hX7 hb7 hb46 hb45 hb47 hS6 hb6
      unfold progV
      go_upto_region 9 with (fail)
      rw [← HW7.out]
      by_cases hk2 : resK R2 = 130
      · go_wp2_with fail
        go_ret
        exact ⟨rfl, HB7.out⟩
      · have hkb2 : (resK R2 == 130) = false := by simp [hk2]
        obtain rfl := hR2 hk2
        have HSa := Lib.hid (same_yes (resP R2) (.slice s0 (resP R2).code.length t0) (.slice s1 (resP R2).code.length t1) W7 HS4b.out HS7.out (by omega))
        unfold progV at HSa
        have x0 := HX4b.out.cell (i := 0) rfl
        have x1 := HX4b.out.cell (i := 1) rfl
        have x2 := HX4b.out.cell (i := 2) rfl
        have x3 := HX4b.out.cell (i := 3) rfl
        have y0 := HX7.out.cell (i := 0) rfl
        have y1 := HX7.out.cell (i := 1) rfl
        have y2 := HX7.out.cell (i := 2) rfl
        have y3 := HX7.out.cell (i := 3) rfl
        go_wp2_with fail
        refine HSa.out.mono ?_
        rintro e8 w8 ⟨rfl, hb8⟩
        have HB8 := Lib.hid (HB7.out.trans (hb8.mono HB7.out.size))
        clear hb8
        go_wp2_with fail
        go_ret
        exact ⟨rfl, HB8.out⟩
    · obtain ⟨m, hm, hbm⟩ : ∃ m : List UInt8, m.length ≤ 2 ∧ ({ data := #[95, 90] } : ByteArray) = bstr m := ⟨[95, 90], by decide, rfl⟩
      go_wp2_with fail
      refine (HRn.out m _ hm (HB4.out.alloc h401 _)).mono ?_
      rintro e5 w5 ⟨⟨v5, cs5, rfl, hown5, hX5⟩, hb5⟩
      have HC2 := Lib.hid (HRc.out m _ _ _ _ hm hown5 hX5)
      obtain ⟨a5, c5, rfl, _, _⟩ := Sl.form (Sl.of_own hown5)
      have hb45 : Below W4.heap.size W4 w5 := Below.trans (((Below.refl W4.heap.size W4).alloc (Nat.le_refl _) _)) (hb5.mono (by simp))
      clear hown5 hX5 hb5
      go_wp2_with fail
      refine HC2.out.mono ?_
      rintro e6 w6 ⟨R2, s1, t1, rfl, hS6, hR2, hb6⟩
      have hb46 : Below W4.heap.size W4 w6 := hb45.trans (hb6.mono hb45.size)
      obtain ⟨W7, hW7, hX7, hb7⟩ : ∃ W7, W7 = w6.alloc (.cells #[.slice s1 (resP R2).code.length t1, .int .i64 (resP R2).locals, .int .u32 (w32 (resP R2).reads), .int .u32 (w32 (resP R2).writes)] 29) ∧ OwnV W7 w6.heap.size 29 [.slice s1 (resP R2).code.length t1, .int .i64 (resP R2).locals, .int .u32 (w32 (resP R2).reads), .int .u32 (w32 (resP R2).writes)] ∧ Below w6.heap.size w6 W7 := ⟨_, rfl, OwnV.new _ _ _, (Below.refl _ _).alloc (Nat.le_refl _) _⟩
      have hb47 : Below W4.heap.size W4 W7 := hb46.trans (hb7.mono hb46.size)
      have HB7 := Lib.hid (HB4.out.trans (hb47.mono h401))
      have HS7 := Lib.hid (SlC.below hS6 hb7)
      have HS4b := Lib.hid (SlC.below HS4.out hb47)
      have HX4b := Lib.hid (HX4.out.below hb47 (Nat.le_refl _))
      have HX7 := Lib.hid hX7
      have HW7 := Lib.hid hW7
      clear hW7 hX7 hb7 hb46 hb45 hb47 hS6 hb6
      unfold progV
      go_upto_region 9 with (fail)
      rw [← HW7.out]
      by_cases hk2 : resK R2 = 130
      · go_wp2_with fail
        go_ret
        exact ⟨rfl, HB7.out⟩
      · have hkb2 : (resK R2 == 130) = false := by simp [hk2]
        obtain rfl := hR2 hk2
        have HSa := Lib.hid (same_yes (resP R2) (.slice s0 (resP R2).code.length t0) (.slice s1 (resP R2).code.length t1) W7 HS4b.out HS7.out (by omega))
        unfold progV at HSa
        have x0 := HX4b.out.cell (i := 0) rfl
        have x1 := HX4b.out.cell (i := 1) rfl
        have x2 := HX4b.out.cell (i := 2) rfl
        have x3 := HX4b.out.cell (i := 3) rfl
        have y0 := HX7.out.cell (i := 0) rfl
        have y1 := HX7.out.cell (i := 1) rfl
        have y2 := HX7.out.cell (i := 2) rfl
        have y3 := HX7.out.cell (i := 3) rfl
        go_wp2_with fail
        refine HSa.out.mono ?_
        rintro e8 w8 ⟨rfl, hb8⟩
        have HB8 := Lib.hid (HB7.out.trans (hb8.mono HB7.out.size))
        clear hb8
        go_wp2_with fail
        go_ret
        exact ⟨rfl, HB8.out⟩
end Go.Proofs.Ytdeneckmoejcfaa
