/- The program's Compile, walked. -/
import Derived.Test.YtdeneckmoejcfaaTransZJ
import Derived.Test.YtdeneckmoejcfaaPMaskJ
import Derived.Test.YtdeneckmoejcfaaMaskMJ
import Derived.Test.YtdeneckmoejcfaaQRightJ
import Derived.Test.YtdeneckmoejcfaaRParIJ
import Derived.Outline
set_option linter.unusedSimpArgs false
set_option linter.unusedVariables false
namespace Go.Proofs.Ytdeneckmoejcfaa
open Go.RowKit

def ts0 : TS := ⟨[], [], 0, 0⟩
def long1 (s : TS) : TS := if 4000 < s.code.length then s.fail 3 else s
theorem comp_law (l : List St) (h : rightS 40 l = true) :
    ((long1 ((tSs l ts0).back 0)).e ≠ 0 → compS l = .err (long1 ((tSs l ts0).back 0)).e ∧ ((long1 ((tSs l ts0).back 0)).e = 130 ∨ (long1 ((tSs l ts0).back 0)).e = 131 ∨ (long1 ((tSs l ts0).back 0)).e = 132 ∨ (long1 ((tSs l ts0).back 0)).e = 5 ∨ (long1 ((tSs l ts0).back 0)).e = 3)) ∧
    ((long1 ((tSs l ts0).back 0)).e = 0 → (long1 ((tSs l ts0).back 0)).code.length ≤ 4000 ∧ compS l = .ok ⟨(long1 ((tSs l ts0).back 0)).code, ((long1 ((tSs l ts0).back 0)).locals : Int), maskC 4 (long1 ((tSs l ts0).back 0)).code, maskC 5 (long1 ((tSs l ts0).back 0)).code⟩) := by
  have L := tSs_law 40 l ts0 h
  generalize hs : tSs l ts0 = s1 at *
  have hc : (s1.back 0).code = s1.code := rfl
  have hl : (s1.back 0).locals = s1.locals := rfl
  have hns : ts0.names = [] := rfl
  rw [hns] at L
  cases hcl : codeL [] l with
  | err k =>
    have he : s1.e = k := L.bad rfl (Nat.le_refl _) k hcl
    have hk := codeL_err [] l k hcl
    have he2 : (long1 (s1.back 0)).e = k := by
      unfold long1
      split
      · rw [TS.fail_keep (by show s1.e ≠ 0; omega)]; exact he
      · exact he
    refine ⟨fun _ => ⟨?_, by omega⟩, fun h0 => by omega⟩
    rw [compS, if_pos h, hcl, he2]; rfl
  | ok r =>
    obtain ⟨a1, a2, a3⟩ := L.ok rfl (Nat.le_refl _) r hcl
    have a2' : s1.code = r.1 := by rw [a2]; show joinC [] r.1 = _; exact joinC_nil _
    have a3' : s1.locals = r.2 := by rw [a3]; show max 0 r.2 = _; omega
    by_cases hlong : 4000 < s1.code.length
    · have e1 : long1 (s1.back 0) = (s1.back 0).fail 3 := if_pos hlong
      have e2 : (long1 (s1.back 0)).e = 3 := by rw [e1]; exact TS.fail_new a1 _
      refine ⟨fun _ => ⟨?_, by omega⟩, fun h0 => by omega⟩
      rw [compS, if_pos h, hcl, e2]
      show (if 4000 < r.1.length then CR.err 3 else _) = _
      rw [if_pos (by rw [← a2']; exact hlong)]
    · have e1 : long1 (s1.back 0) = s1.back 0 := if_neg hlong
      rw [e1]
      refine ⟨fun h0 => absurd a1 h0, fun _ => ⟨by rw [hc]; omega, ?_⟩⟩
      rw [compS, if_pos h, hcl, hc, hl, a2', a3']
      show (if 4000 < r.1.length then CR.err 3 else _) = _
      rw [if_neg (by rw [← a2']; exact hlong)]
theorem TrC.init (w : World) (B : Nat) (hB : B ≤ w.heap.size) : TrC (w.alloc (.cells #[.slice none 0 0, .int .i64 0, .int .u32 0, .int .u32 0, .slice none 0 0, .int .i64 0] 78)) w.heap.size B (.slice none 0 0) (.slice none 0 0) ts0 :=
  ⟨OwnV.new _ _ _, World.ownsRow_nil _ _ _ _, World.ownsRow_nil _ _ _ _, hB, by simp [Value.ownBlock], by simp [Value.ownBlock], by simp [Value.ownBlock]⟩
theorem SsL.up {w : World} {B B' : Nat} {l : List St} {v : Value} (h : SsL w B l v) (hB : B ≤ B') : SsL w B' l v := by
  obtain ⟨cs, h1, h2, h3⟩ := h
  exact ⟨cs, h1, h2.imp id fun h g hg => Nat.lt_of_lt_of_le (h g hg) hB, h3.weak fun g _ hg => Nat.lt_of_lt_of_le hg hB⟩
set_option maxRecDepth 100000 in
set_option maxHeartbeats 4000000 in
theorem pcomp_any (l : List St) (v : Value) (w : World) (B : Nat) (hok : okSs l) (hsz : szSs l ≤ 100000) (hL : SsL w B l v) (hB : B ≤ w.heap.size) :
    Calls Try.prog 24 #[v] w fun e w' => ProgE 35 w w' e (compS l) ∧ Below w.heap.size w w' := by
  obtain ⟨a, cap, rfl, _, _⟩ := hL.form
  obtain ⟨W1, hW1, hb1⟩ : ∃ W1, W1 = w.alloc (.cells #[.slice none 0 0, .int .i64 0, .int .u32 0, .int .u32 0] 29) ∧ Below w.heap.size w W1 := ⟨_, rfl, (Below.refl _ _).alloc (Nat.le_refl _) _⟩
  have hX : OwnV W1 w.heap.size 29 [.slice none 0 0, .int .i64 0, .int .u32 0, .int .u32 0] := by rw [hW1]; exact OwnV.new w _ _
  have hs1 := hb1.size
  have hlt1 := hX.lt
  have HP := Lib.hid (pprintable_any l _ W1 B hok (hL.low (hb1.mono hB)) (by omega))
  have HLW := Lib.hid (fun (W2 : World) (hb : Below W1.heap.size W1 W2) => hL.low ((hb1.trans (hb.mono hs1)).mono hB))
  have Hok := Lib.hid hok
  have HX := Lib.hid hX
  have Hb1 := Lib.hid hb1
  have HW1 := Lib.hid hW1
  obtain ⟨final, hfin⟩ : ∃ r, compS l = r := ⟨_, rfl⟩
  have HF : Hid (final = compS l) := Lib.hid hfin.symm
  rw [hfin]
  clear hfin hok hL hW1 hX hb1
  obtain ⟨q, hq⟩ : ∃ q, rightS 40 l = q := ⟨_, rfl⟩
  have Hq := Lib.hid hq
  rw [hq] at HP
  clear hq
  go_enter Try.func24, Try.ntmps24
  go_upto_region 1 with (fail)
  rw [← HW1.out]
  go_wp2_with fail
  refine HP.out.mono ?_
  rintro e2 w2 ⟨rfl, hb2⟩
  have HX2 := Lib.hid (HX.out.below hb2 (Nat.le_refl _))
  have Hb2 := Lib.hid (Hb1.out.trans (hb2.mono hs1))
  have hs2 := Hb2.out.size
  have HL2 := Lib.hid (HLW.out w2 hb2)
  have hlt2 := HX2.out.lt
  clear hb2 HX HP HLW
  cases q
  · obtain ⟨W3, hW3, hX3, hg3⟩ := set4 HX2.out (.slice none 0 0) (.int .i64 0) (.int .u32 0) (.int .u32 0)
    have x0 := HX2.out.cell (i := 0) rfl
    have x1 := HX2.out.cell (i := 1) rfl
    have x2 := HX2.out.cell (i := 2) rfl
    have x3 := HX2.out.cell (i := 3) rfl
    have xf := HX2.out.free
    have HW3 := Lib.hid hW3
    have HX3 := Lib.hid hX3
    have Hg3 := Lib.hid hg3
    have Hfz : Hid (final = .err 130) := Lib.hid (by rw [HF.out, compS, Hq.out]; rfl)
    clear hW3 hX3 hg3
    go_wp2_with fail
    rw [← HW3.out]
    have y0 := HX3.out.cell (i := 0) rfl
    have y1 := HX3.out.cell (i := 1) rfl
    have y2 := HX3.out.cell (i := 2) rfl
    have y3 := HX3.out.cell (i := 3) rfl
    refine bodyPost_ret (v := .tuple #[zeroP, .int .i64 130]) (by simp [results, Try.results24, go_sem, y0, y1, y2, y3, zeroP]) rfl ?_
    rw [Hfz.out]
    exact ⟨⟨rfl, by decide⟩, Hb2.out.trans (grown_below Hg3.out (by omega) hs2)⟩
  · obtain ⟨W3, hW3, hT3, hb3⟩ : ∃ W3, W3 = w2.alloc (.cells #[.slice none 0 0, .int .i64 0, .int .u32 0, .int .u32 0, .slice none 0 0, .int .i64 0] 78) ∧ TrC W3 w2.heap.size w2.heap.size (.slice none 0 0) (.slice none 0 0) ts0 ∧ Below w2.heap.size w2 W3 := ⟨_, rfl, TrC.init w2 w2.heap.size (Nat.le_refl _), (Below.refl _ _).alloc (Nat.le_refl _) _⟩
    have hs3 := hb3.size
    have HZ := Lib.hid (tlist_any 40 l _ W3 w2.heap.size w2.heap.size _ _ ts0 Hq.out Hok.out ((HL2.out.low (hb3.mono (by omega))).up (by omega)) hs3 hT3 (by show 0 + szSs l ≤ 900000; omega) (by show 0 + 4 * szSs l ≤ 900000; omega) (by show 0 ≤ 900000; omega))
    have HX3 := Lib.hid (HX2.out.below hb3 (Nat.le_refl _))
    have HT3 := Lib.hid hT3
    have HF3 := Lib.hid (TrF.of_below w2.heap.size (.slice none 0 0) (.slice none 0 0) hb3)
    have HW3 := Lib.hid hW3
    have Hlaw := Lib.hid (comp_law l Hq.out)
    obtain ⟨t, ht⟩ : ∃ t, t = w2.heap.size := ⟨_, rfl⟩
    have htw : w.heap.size < t := by omega
    have HxN : Hid (¬ TrS t (.slice none 0 0) (.slice none 0 0) w.heap.size) := Lib.hid (by
      rintro (h | h | h)
      · omega
      · cases h
      · cases h)
    clear hT3 hb3 hW3 HL2
    go_upto_region 4 with (fail)
    rw [← HW3.out]
    rw [← ht] at HZ HT3 HF3 ⊢
    have Ht := Lib.hid ht
    have hs3t : t ≤ W3.heap.size := by omega
    clear ht
    go_wp2_with fail
    refine HZ.out.mono ?_
    rintro e4 w4 ⟨rfl, vc, vn, hT4, hF4⟩
    have hT5 : TrC w4 t t vc vn ((tSs l ts0).back 0) := hT4
    have HX4 := Lib.hid (hF4.own HX3.out HxN.out)
    have H0 := Lib.hid (HF3.out.trans hF4)
    have HT := Lib.hid hT5
    have hsw : t ≤ w4.heap.size := Nat.le_trans hs3t hF4.size
    generalize hgs : (tSs l ts0).back 0 = s1 at *
    have Hs2 : Hid (long1 s1 = if 4000 < s1.code.length then s1.fail 3 else s1) := Lib.hid rfl
    generalize long1 s1 = s2 at *
    have HFa := Lib.hid (fail_any 3 w4 t t vc vn s1 hT5)
    obtain ⟨ac, capc, rfl, _, _⟩ := Sl.form (Sl.of_own hT5.code)
    obtain ⟨an, capn, rfl, _, _⟩ := Sl.form (Sl.of_own hT5.names)
    have z0 := hT5.blk.cell (i := 0) rfl
    clear hgs hT4 hT5 hF4 HX3 HZ HT3 HF3
    have hcl : s1.code.length ≤ 9223372036854775807 := by
      have := HT.out.code.2
      rcases this with ⟨-, h⟩ | ⟨g, cp, cur, hv, -, -, h1, h2, -⟩
      · omega
      · unfold maxLen at h2; omega
    by_cases hlong : 4000 < s1.code.length
    case' neg =>
      have hli : ¬ (s1.code.length : Int) > 4000 := by omega
      have hse : s2 = s1 := by rw [Hs2.out, if_neg hlong]
      clear HFa Hs2
      subst hse
      have HT2 : Hid (TrC w4 t t _ _ s2) := Lib.hid HT.out
      clear HT
      go_upto_region 7 with (fail)
    case' pos =>
      have hli : (s1.code.length : Int) > 4000 := by omega
      go_wp2_with fail
      refine HFa.out.mono ?_
      rintro e5 w4 ⟨rfl, vc, vn, hT, hF⟩
      have HT2 : Hid (TrC w4 t t vc vn s2) := Lib.hid (by rw [Hs2.out, if_pos hlong]; exact hT)
      replace H0 := Lib.hid (H0.out.trans hF)
      replace HX4 := Lib.hid (hF.own HX4.out.1 HX4.out.2)
      replace hsw := Nat.le_trans hsw hF.size
      clear HFa HT hT hF z0 Hs2
      obtain ⟨ac, capc, rfl, _, _⟩ := Sl.form (Sl.of_own HT2.out.code)
      obtain ⟨an, capn, rfl, _, _⟩ := Sl.form (Sl.of_own HT2.out.names)
      go_upto_region 7 with (fail)
    all_goals
      have z5 := HT2.out.blk.cell (i := 5) rfl
      have z0 := HT2.out.blk.cell (i := 0) rfl
      have z1 := HT2.out.blk.cell (i := 1) rfl
      have zf := HT2.out.blk.free
      have hne : w.heap.size ≠ t := by omega
      have hB4 : Below w.heap.size w w4 := Hb2.out.trans (((H0.out.only).below (B := w.heap.size) (fun k hk => by
        rcases hk with rfl | h | h
        · omega
        · cases h
        · cases h) (by omega)))
      have HB4 := Lib.hid hB4
      have hs4 := hB4.size
      clear hB4
      by_cases he : s2.e = 0
      · have hq : (s2.e != 0) = false := by rw [he]; rfl
        obtain ⟨hlc, hfc⟩ := Hlaw.out.2 he
        have Hfz : Hid (final = .ok ⟨s2.code, (s2.locals : Int), maskC 4 s2.code, maskC 5 s2.code⟩) := Lib.hid (by rw [HF.out, hfc])
        have HC := Lib.hid HT2.out.code
        have HM := Lib.hid (pmasks_any s2.code _ w4 (Sl.of_own HT2.out.code) (by omega))
        clear he Hlaw hfc
        go_upto_region 9 with (fail)
        go_wp2_with fail
        refine HM.out.mono ?_
        rintro e6 w6 ⟨rfl, hb6⟩
        have HT6 := Lib.hid (HT2.out.grown hb6)
        have HX6 := Lib.hid (HX4.out.1.below hb6 (Nat.le_refl _))
        have HB6 := Lib.hid (HB4.out.trans (hb6.mono hs4))
        have hs6 := HB6.out.size
        have z0 := HT6.out.blk.cell (i := 0) rfl
        have z1 := HT6.out.blk.cell (i := 1) rfl
        have z2 := HT6.out.blk.cell (i := 2) rfl
        have z3 := HT6.out.blk.cell (i := 3) rfl
        have zf := HT6.out.blk.free
        have HO6 := Lib.hid HT6.out.blk
        clear hb6 HM
        have hO7 := (HO6.out.set 2 (.int .u32 (w32 (maskC 4 s2.code)))).set 3 (.int .u32 (w32 (maskC 5 s2.code)))
        obtain ⟨W7, hW7, hg7⟩ : ∃ W7, W7 = (w6.setCell ⟨t, 2, none⟩ (.int .u32 (w32 (maskC 4 s2.code)))).setCell ⟨t, 3, none⟩ (.int .u32 (w32 (maskC 5 s2.code))) ∧ w6.grownBy W7 (some t) := ⟨_, rfl, grown_trans (set_grown _ _ _ _) (set_grown _ _ _ _)⟩
        rw [← hW7] at hO7
        have hX7 : OwnV W7 w.heap.size 29 [.slice none 0 0, .int .i64 0, .int .u32 0, .int .u32 0] := HX6.out.grown hg7 (fun e => by cases e; omega)
        have HC7 := Lib.hid (row_grown hg7 HT6.out.code (fun g hg e => by cases e; exact HT6.out.tc hg))
        have HW7 := Lib.hid hW7
        have HB7 := Lib.hid (HB6.out.trans (grown_below hg7 (by omega) hs6))
        have hs7 := HB7.out.size
        clear hW7 hg7
        go_upto_region 10 with (fail)
        rw [← HW7.out]
        have y0 := hO7.cell (i := 0) rfl
        have y1 := hO7.cell (i := 1) rfl
        have y2 := hO7.cell (i := 2) rfl
        have y3 := hO7.cell (i := 3) rfl
        obtain ⟨W9, hW9, hX9, hg9⟩ := set4 hX7 (.slice ac s2.code.length capc) (.int .i64 s2.locals) (.int .u32 (w32 (maskC 4 s2.code))) (.int .u32 (w32 (maskC 5 s2.code)))
        have x0 := hX7.cell (i := 0) rfl
        have x1 := hX7.cell (i := 1) rfl
        have x2 := hX7.cell (i := 2) rfl
        have x3 := hX7.cell (i := 3) rfl
        have xf := hX7.free
        have HW9 := Lib.hid hW9
        have HX9 := Lib.hid hX9
        have Hg9 := Lib.hid hg9
        clear hW9 hX9 hg9 z0 z1 z2 z3
        go_wp2_with fail
        rw [← HW9.out]
        have v0 := HX9.out.cell (i := 0) rfl
        have v1 := HX9.out.cell (i := 1) rfl
        have v2 := HX9.out.cell (i := 2) rfl
        have v3 := HX9.out.cell (i := 3) rfl
        refine bodyPost_ret (v := .tuple #[progV ⟨s2.code, (s2.locals : Int), maskC 4 s2.code, maskC 5 s2.code⟩ (.slice ac s2.code.length capc), .int .i64 0]) (by simp [results, Try.results24, go_sem, v0, v1, v2, v3, progV]) rfl ?_
        rw [Hfz.out]
        exact ⟨⟨_, rfl, own_mono' (row_grown Hg9.out HC7.out (fun g hg e => by cases e; have := (HC7.out.lt _ hg).1; omega)) (by omega)⟩, HB7.out.trans (grown_below Hg9.out (by omega) hs7)⟩
      · have hq : (s2.e != 0) = true := by rw [bne_iff_ne]; exact he
        obtain ⟨hfc, hek⟩ := Hlaw.out.1 he
        have Hfz : Hid (final = .err s2.e) := Lib.hid (by rw [HF.out, hfc])
        have Hek := Lib.hid hek
        have x0 := HX4.out.1.cell (i := 0) rfl
        have x1 := HX4.out.1.cell (i := 1) rfl
        have x2 := HX4.out.1.cell (i := 2) rfl
        have x3 := HX4.out.1.cell (i := 3) rfl
        have xf := HX4.out.1.free
        clear he Hlaw hfc hek
        obtain ⟨W9, hW9, hX9, hg9⟩ := set4 HX4.out.1 (.slice none 0 0) (.int .i64 0) (.int .u32 0) (.int .u32 0)
        have HW9 := Lib.hid hW9
        have HX9 := Lib.hid hX9
        have Hg9 := Lib.hid hg9
        clear hW9 hX9 hg9
        go_wp2_with fail
        go_region_with (fail)
        all_goals
          go_wp2_with fail
          rw [← HW9.out]
          have v0 := HX9.out.drew.cell (i := 0) rfl
          have v1 := HX9.out.drew.cell (i := 1) rfl
          have v2 := HX9.out.drew.cell (i := 2) rfl
          have v3 := HX9.out.drew.cell (i := 3) rfl
          refine bodyPost_ret (v := .tuple #[zeroP, .int .i64 s2.e]) (by simp [results, Try.results24, go_sem, v0, v1, v2, v3, zeroP]) rfl ?_
          rw [Hfz.out]
          exact ⟨⟨rfl, Hek.out⟩, (HB4.out.trans (grown_below Hg9.out (by omega) hs4)).drew⟩
end Go.Proofs.Ytdeneckmoejcfaa
