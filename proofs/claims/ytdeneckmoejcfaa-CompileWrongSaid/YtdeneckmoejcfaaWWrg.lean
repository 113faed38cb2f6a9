/- marcheslaw13.CompileWrong, walked. -/
import Derived.Test.YtdeneckmoejcfaaPCompJ
import Derived.Test.YtdeneckmoejcfaaTreeOJ
import Derived.Test.YtdeneckmoejcfaaWAwkJ
import Derived.Test.YtdeneckmoejcfaaWShift
import Derived.Test.YtdeneckmoejcfaaWrongM
set_option linter.unusedSimpArgs false
set_option linter.unusedVariables false
namespace Go.Proofs.Ytdeneckmoejcfaa
open Go.RowKit
theorem own_empty (w : World) (e : TypeId) (sz : Nat) : (w.alloc (.cells #[] e)).ownsRow w.heap.size e sz (.slice (some ⟨w.heap.size, 0, none⟩) 0 0) 0 [] :=
  ⟨by simp, .inr ⟨w.heap.size, 0, #[], rfl, Nat.le_refl _, OwnV.new w e [], Nat.le_refl _, Nat.zero_le _, by simp, by simp⟩⟩
theorem own_lit (w : World) (e : TypeId) (vs : List Value) (n : Nat) (hn : vs.length = n * 2) (hm : n ≤ maxLen) : (w.alloc (.cells vs.toArray e)).ownsRow w.heap.size e 2 (.slice (some ⟨w.heap.size, 0, none⟩) n n) n vs :=
  ⟨hn, .inr ⟨w.heap.size, n, vs.toArray, rfl, Nat.le_refl _, OwnV.new w e vs, Nat.le_refl _, hm, by simp [hn], by simp [← hn]⟩⟩
theorem notSound (pw : ProgS) (hns : ¬ SoundP pw) (s : Option Addr) (t : Nat) (W : World) (hC : SlC W pw.code (.slice s pw.code.length t)) (hl : pw.code.length ≤ 1000000) :
    Calls Try.prog 27 #[.agg #[.slice s pw.code.length t, .int .i64 pw.locals, .int .u32 (w32 pw.reads), .int .u32 (w32 pw.writes)]] W (BoolE false W) :=
  (psound_any pw _ W hC hl).mono fun e w' ⟨b, he, hb, hbel⟩ => by
    cases b with
    | true => exact absurd (hb.1 rfl) hns
    | false => exact ⟨he, hbel⟩
set_option maxRecDepth 100000 in
set_option maxHeartbeats 4000000 in
theorem wrong_any (l : List St) (v : Value) (d : Int) (w : World) (hd0 : 0 ≤ d) (hd1 : d ≤ 255) (hok : okSs l) (hL : SsL w w.heap.size l v) :
    Calls Try.prog 11 #[v, .int .u8 d] w fun e w' => e = .returned (.bool true) ∧ Below w.heap.size w w' := by
  obtain ⟨a, cap, rfl, _, _⟩ := hL.form
  have HL := Lib.hid hL
  have Hok := Lib.hid hok
  clear hL hok
  go_enter Try.func11, Try.ntmps11
  go_wp2_with fail
  refine (awake_any _).mono ?_
  rintro e1 w1 ⟨rfl, hb1⟩
  have HB1 := Lib.hid hb1
  have HS := Lib.hid (size_any (szSs l + 1) l _ w1 w.heap.size 400 (by omega) Hok.out (HL.out.low hb1) hb1.size (by omega) (by omega))
  clear hb1
  go_wp2_with fail
  refine HS.out.mono ?_
  rintro e2 w2 ⟨⟨r, rfl, -, hr, -⟩, hb2⟩
  have HB2 := Lib.hid (HB1.out.trans (hb2.mono HB1.out.size))
  have Hr := Lib.hid hr
  clear hb2 hr HS
  by_cases hrl : (r : Int) > 400
  · go_wp2_with fail
    go_ret
    exact ⟨rfl, HB2.out⟩
  have hrl2 : (r : Int) ≤ 400 := by omega
  have hsz : szSs l ≤ 400 := by have := Hr.out hrl2; omega
  have HC := Lib.hid (pcomp_any l _ w2 w.heap.size Hok.out (by omega) (HL.out.low HB2.out) HB2.out.size)
  clear hsz hrl
  go_wp2_with fail
  refine HC.out.mono ?_
  rintro e3 w3 ⟨hP, hb3⟩
  have HB3 := Lib.hid (HB2.out.trans (hb3.mono HB2.out.size))
  clear HC
  cases hc : compS l with
  | err k =>
    rw [hc] at hP
    obtain ⟨rfl, hk⟩ := hP
    rw [show zeroP = .agg #[.slice none 0 0, .int .i64 0, .int .u32 0, .int .u32 0] from rfl]
    rcases hk with rfl | rfl | rfl | rfl | rfl
    all_goals
      go_wp2_with fail
      go_ret
      exact ⟨rfl, HB3.out.trans (((Below.refl w3.heap.size w3).alloc (Nat.le_refl _) _).mono HB3.out.size)⟩
  | ok p =>
    rw [hc] at hP
    obtain ⟨q, rfl, hO⟩ := hP
    have hS : SlC w3 p.code q := OwnC.sl hO
    obtain ⟨s0, t0, rfl, hst, hst2⟩ := Sl.form hS
    have Hc := Lib.hid (comp_sound hc)
    have hcl : p.code.length ≤ 4000 := Hc.out.basic.len
    obtain ⟨W4, hW4, hX4, hb4⟩ : ∃ W4, W4 = w3.alloc (.cells #[.slice s0 p.code.length t0, .int .i64 p.locals, .int .u32 (w32 p.reads), .int .u32 (w32 p.writes)] 29) ∧ OwnV W4 w3.heap.size 29 [.slice s0 p.code.length t0, .int .i64 p.locals, .int .u32 (w32 p.reads), .int .u32 (w32 p.writes)] ∧ Below w3.heap.size w3 W4 := ⟨_, rfl, OwnV.new _ _ _, (Below.refl _ _).alloc (Nat.le_refl _) _⟩
    have HB4 := Lib.hid (HB3.out.trans (hb4.mono HB3.out.size))
    have HS4 := Lib.hid (hS.below hb4)
    have HX4 := Lib.hid hX4
    have HW4 := Lib.hid hW4
    have x0 := hX4.cell (i := 0) rfl
    clear hW4 hX4 hb4 hS hO
    unfold progV
    go_upto_region 6 with (fail)
    rw [← HW4.out]
    go_upto_region 9 with (fail)
    obtain ⟨zb, hzb⟩ : ∃ zb, zb = W4.heap.size := ⟨_, rfl⟩
    obtain ⟨W5, hW5, hR5, hb5⟩ : ∃ W5, W5 = W4.alloc (.cells #[] 35) ∧ W5.ownsRow W4.heap.size 35 2 (.slice (some ⟨W4.heap.size, 0, none⟩) 0 0) 0 [] ∧ Below W4.heap.size W4 W5 := ⟨_, rfl, own_empty W4 _ 2, (Below.refl _ _).alloc (Nat.le_refl _) _⟩
    have HR5 := Lib.hid hR5
    have HS5 := Lib.hid (HS4.out.below hb5)
    have hs5 := hb5.size
    have HB5 := Lib.hid hb5
    have x05 : W5.cell? ⟨w3.heap.size, 0, none⟩ = some (.slice s0 p.code.length t0) := (HX4.out.below hb5 (Nat.le_refl _)).cell (i := 0) rfl
    have HX5 := Lib.hid (HX4.out.below hb5 (Nat.le_refl _))
    rw [hW5] at HR5 HS5 HB5 x05 hs5 HX5
    clear hR5 hb5 hW5 hzb
    have hlt4 : w3.heap.size < W4.heap.size := HX4.out.lt
    clear x0
    go_upto_region 10 with (at_builtin; refine wpList_append_src rfl (.tmp 23) (.tmp 25) 26 rfl HR5.out info_pins Try.underlying26 rfl (by decide) rfl HS5.out rfl (cellsC_all p.code) (by unfold maxLen; omega) (by omega) hs5 ?_; intro v' w6 hown6 hg6 hb6 hat6; rw [Nat.zero_add, List.nil_append] at hown6; obtain ⟨a6, cap6, rfl, hc61, hc62⟩ := Sl.form (Sl.of_own hown6); have HX6 : Hid (OwnV w6 w3.heap.size 29 [.slice s0 p.code.length t0, .int .i64 p.locals, .int .u32 (w32 p.reads), .int .u32 (w32 p.writes)]) := Lib.hid (by unfold OwnV; rw [hb6.block _ hlt4]; exact HX5.out); have e0 := HX6.out.cell (i := 0) rfl; have ef := HX6.out.free 0)
    obtain ⟨W7, hW7, hX7, hR7, hb7⟩ : ∃ W7, W7 = w6.setCell ⟨w3.heap.size, 0, none⟩ (.slice a6 p.code.length cap6) ∧ OwnV W7 w3.heap.size 29 [.slice a6 p.code.length cap6, .int .i64 p.locals, .int .u32 (w32 p.reads), .int .u32 (w32 p.writes)] ∧ W7.ownsRow W4.heap.size 35 2 (.slice a6 p.code.length cap6) p.code.length (cellsC p.code) ∧ Below w.heap.size w W7 :=
      ⟨_, rfl, HX6.out.set 0 _, own_set_ne hown6 (fun g hg e => by have := (hown6.lt g hg).1; omega) _ _, (HB4.out.trans ((HB5.out.trans hb6).mono HB4.out.size)).setCell (by show w.heap.size ≤ w3.heap.size; exact HB3.out.size) _⟩
    rw [← hW7]
    have HX7 := Lib.hid hX7
    have HR7 := Lib.hid hR7
    have HB7 := Lib.hid hb7
    have x0 := hX7.cell (i := 0) rfl
    have x1 := hX7.cell (i := 1) rfl
    have x2 := hX7.cell (i := 2) rfl
    have x3 := hX7.cell (i := 3) rfl
    have xf := hX7.free
    have hs7 : W4.heap.size ≤ W7.heap.size := by rw [hW7]; have := hb6.size; simp at this ⊢; omega
    have HNS : Hid (∀ k, ¬ SoundP (wrongS p k)) := Lib.hid (fun k => wrong_not p k Hc.out)
    obtain ⟨k, hk, hkd⟩ : ∃ k : Nat, k < 6 ∧ d.tmod 6 = k := ⟨(d.tmod 6).toNat, by rw [Int.tmod_eq_emod_of_nonneg hd0]; omega, by rw [Int.tmod_eq_emod_of_nonneg hd0]; omega⟩
    clear hW7 hX7 hR7 hb7 hg6 hat6 hb6 e0 ef x05 HX5 HB5 HR5 HS5 HX6 hown6 hs5 hd0 hd1
    have h6 : k = 0 ∨ k = 1 ∨ k = 2 ∨ k = 3 ∨ k = 4 ∨ k = 5 := by omega
    rcases h6 with rfl | rfl | rfl | rfl | rfl | rfl
    · have Hjk : Hid (∀ i ∈ p.code, jumpB i = true → 0 ≤ i.a ∧ i.a ≤ 1000000) := Lib.hid (fun i hi hj => by
        have h := right_jump (Hc.out.basic.right i hi) (by unfold jumpB at hj; rw [decide_eq_true_eq] at hj; exact hj)
        omega)
      obtain ⟨W8, hW8, hR8, hb8⟩ : ∃ W8, W8 = W7.alloc (.cells #[.int .u8 10, .int .i64 0] 35) ∧ W8.ownsRow W7.heap.size 35 2 (.slice (some ⟨W7.heap.size, 0, none⟩) 1 1) 1 [.int .u8 10, .int .i64 0] ∧ Below W7.heap.size W7 W8 := ⟨_, rfl, own_lit W7 _ [.int .u8 10, .int .i64 0] 1 rfl (by decide), (Below.refl _ _).alloc (Nat.le_refl _) _⟩
      have hS8 : SlC W8 p.code (.slice a6 p.code.length cap6) := SlC.below (Sl.of_own HR7.out) hb8
      have HSh := Lib.hid (shifted_any p.code 1 _ W8 hS8 (by omega) (by omega) Hjk.out)
      have HX8 := Lib.hid (HX7.out.below hb8 (Nat.le_refl _))
      have HR8 := Lib.hid hR8
      have HB8 := Lib.hid (HB7.out.trans (hb8.mono HB7.out.size))
      have x0 := HX8.out.cell (i := 0) rfl
      rw [hW8] at HSh HX8 HR8 HB8 x0
      clear hW8 hR8 hb8 hS8 x1 x2 x3 xf hs7
      have hlt7 : w3.heap.size < W7.heap.size := HX7.out.lt
      go_upto_region 22 with (first | (go_at_call 30; refine HSh.out.mono ?_; rintro e9 w9 ⟨⟨v9, rfl, hO9⟩, hb9⟩; have hS9 := OwnC.sl hO9; unfold SlC at hS9; rw [shiftC_len] at hS9; have HR9 := Lib.hid (own_below HR8.out hb9 (Nat.le_refl _)); have HX9 := Lib.hid (HX8.out.below hb9 (Nat.le_refl _)); have HB9 := Lib.hid (HB8.out.trans (hb9.mono HB8.out.size)); have hs9 : W7.heap.size ≤ w9.heap.size := (by have := hb9.size; simp at this; omega)) | (at_builtin; refine wpList_append_src rfl (.tmp 43) (.tmp 46) 26 rfl HR9.out info_pins Try.underlying26 rfl (by decide) rfl hS9 rfl (cellsC_all _) (by unfold maxLen; omega) (by omega) hs9 ?_; intro v8 w8 hown8 hg8 hb8 hat8; obtain ⟨a8, cap8, rfl, hc81, hc82⟩ := Sl.form (Sl.of_own hown8); have HX10 : Hid (OwnV w8 w3.heap.size 29 [.slice a6 p.code.length cap6, .int .i64 p.locals, .int .u32 (w32 p.reads), .int .u32 (w32 p.writes)]) := Lib.hid (by unfold OwnV; rw [hb8.block _ hlt7]; exact HX9.out); have e0 := HX10.out.cell (i := 0) rfl; have e1 := HX10.out.cell (i := 1) rfl; have e2 := HX10.out.cell (i := 2) rfl; have e3 := HX10.out.cell (i := 3) rfl; have ef := HX10.out.free 0))
      have HS10 : Hid (SlC (w8.setCell ⟨w3.heap.size, 0, none⟩ (.slice a8 (1 + p.code.length) cap8)) (⟨10, 0⟩ :: shiftC 1 p.code) (.slice a8 (1 + p.code.length) cap8)) := Lib.hid (by
        have h := Sl.of_own (own_set_ne hown8 (fun g hg (e : g = w3.heap.size) => by have := (hown8.lt g hg).1; omega) 0 (.slice a8 (1 + p.code.length) cap8))
        show Sl _ 2 (List.length _) (cellsC _) _
        rw [List.length_cons, shiftC_len, Nat.add_comm p.code.length 1]
        have e1 : ((1 : Nat) : Int) = 1 := rfl
        have e2 : cellsC (⟨10, 0⟩ :: shiftC 1 p.code) = [.int .u8 10, .int .i64 0] ++ cellsC (shiftC 1 p.code) := by rw [show (⟨10, 0⟩ :: shiftC 1 p.code : Code1) = [⟨10, 0⟩] ++ shiftC 1 p.code from rfl, cellsC_app]; rfl
        rw [e1] at h
        rw [e2]
        exact h)
      have hln : (wrongS p 0).code.length = 1 + p.code.length := by show (List.length (_ :: shiftC 1 p.code)) = _; rw [List.length_cons, shiftC_len, Nat.add_comm]
      have HN := Lib.hid (notSound (wrongS p 0) (HNS.out 0) a8 cap8 (w8.setCell ⟨w3.heap.size, 0, none⟩ (.slice a8 (1 + p.code.length) cap8)) (by rw [hln]; exact HS10.out) (by rw [hln]; omega))
      rw [hln] at HN
      have HB10 := Lib.hid ((HB9.out.trans (hb8.mono HB7.out.size)).setCell (p := ⟨w3.heap.size, 0, none⟩) (by show w.heap.size ≤ w3.heap.size; exact HB3.out.size) (.slice a8 (1 + p.code.length) cap8))
      clear hown8 hg8 hb8 hat8 hln x0 hS9 hs9
      go_wp2_with fail
      refine HN.out.mono ?_
      rintro e11 w11 ⟨rfl, hb11⟩
      have HB11 := Lib.hid (HB10.out.trans (hb11.mono HB10.out.size))
      clear hb11
      go_wp2_with fail
      go_ret
      exact ⟨rfl, HB11.out⟩
    · have hcl2 : (p.code.length : Int) + 2 ≤ 9223372036854775807 := by omega
      go_upto_region 22 with (at_builtin; refine wpList_append_at rfl (.tmp 52) (.tmp 56) 26 rfl HR7.out info_pins Try.underlying26 rfl (by decide) rfl 1 1 rfl rfl rfl (by unfold maxLen; omega) (by omega) hs7 ?_; intro v8 w8 hown8 hg8 hb8 hat8; obtain ⟨a8, cap8, rfl, hc81, hc82⟩ := Sl.form (Sl.of_own hown8); have HX8 : Hid (OwnV w8 w3.heap.size 29 [.slice a6 p.code.length cap6, .int .i64 p.locals, .int .u32 (w32 p.reads), .int .u32 (w32 p.writes)]) := Lib.hid (by unfold OwnV; rw [hb8.block _ hlt4]; exact HX7.out); have e0 := HX8.out.cell (i := 0) rfl; have e1 := HX8.out.cell (i := 1) rfl; have e2 := HX8.out.cell (i := 2) rfl; have e3 := HX8.out.cell (i := 3) rfl; have ef := HX8.out.free 0)
      obtain ⟨X, hX⟩ : ∃ X : Value, X = .slice a8 (p.code.length + 1) cap8 := ⟨_, rfl⟩
      have HS9 : Hid (SlC (w8.setCell ⟨w3.heap.size, 0, none⟩ (.slice a8 (p.code.length + 1) cap8)) (p.code ++ [⟨11, p.code.length + 2⟩]) (.slice a8 (p.code.length + 1) cap8)) := Lib.hid (by
        have h := Sl.of_own (own_set_ne hown8 (fun g hg (e : g = w3.heap.size) => by have := (hown8.lt g hg).1; omega) 0 (.slice a8 (p.code.length + 1) cap8))
        show Sl _ 2 (p.code ++ [_]).length (cellsC (p.code ++ [_])) _
        rw [List.length_append, cellsC_app]; exact h)
      have hln : (wrongS p 1).code.length = p.code.length + 1 := by show (p.code ++ [_]).length = _; rw [List.length_append]; rfl
      have HN := Lib.hid (notSound (wrongS p 1) (HNS.out 1) a8 cap8 (w8.setCell ⟨w3.heap.size, 0, none⟩ (.slice a8 (p.code.length + 1) cap8)) (by rw [hln]; exact HS9.out) (by rw [hln]; omega))
      rw [hln] at HN
      have HB8 := Lib.hid ((HB7.out.trans (hb8.mono HB4.out.size)).setCell (p := ⟨w3.heap.size, 0, none⟩) (by show w.heap.size ≤ w3.heap.size; exact HB3.out.size) (.slice a8 (p.code.length + 1) cap8))
      clear hown8 hg8 hb8 hat8 hX hln x0 x1 x2 x3 xf hs7
      go_wp2_with fail
      refine HN.out.mono ?_
      rintro e9 w9 ⟨rfl, hb9⟩
      have HB9 := Lib.hid (HB8.out.trans (hb9.mono HB8.out.size))
      clear hb9
      go_wp2_with fail
      go_ret
      exact ⟨rfl, HB9.out⟩
    · have hcl2 : (p.code.length : Int) + 2 ≤ 9223372036854775807 := by omega
      go_upto_region 22 with (at_builtin; refine wpList_append_at rfl (.tmp 62) (.tmp 67) 26 rfl HR7.out info_pins Try.underlying26 rfl (by decide) rfl 2 2 rfl rfl rfl (by unfold maxLen; omega) (by omega) hs7 ?_; intro v8 w8 hown8 hg8 hb8 hat8; obtain ⟨a8, cap8, rfl, hc81, hc82⟩ := Sl.form (Sl.of_own hown8); have HX8 : Hid (OwnV w8 w3.heap.size 29 [.slice a6 p.code.length cap6, .int .i64 p.locals, .int .u32 (w32 p.reads), .int .u32 (w32 p.writes)]) := Lib.hid (by unfold OwnV; rw [hb8.block _ hlt4]; exact HX7.out); have e0 := HX8.out.cell (i := 0) rfl; have e1 := HX8.out.cell (i := 1) rfl; have e2 := HX8.out.cell (i := 2) rfl; have e3 := HX8.out.cell (i := 3) rfl; have ef := HX8.out.free 0)
      obtain ⟨X, hX⟩ : ∃ X : Value, X = .slice a8 (p.code.length + 2) cap8 := ⟨_, rfl⟩
      have HS9 : Hid (SlC (w8.setCell ⟨w3.heap.size, 0, none⟩ (.slice a8 (p.code.length + 2) cap8)) (p.code ++ [⟨2, p.locals⟩, ⟨14, 0⟩]) (.slice a8 (p.code.length + 2) cap8)) := Lib.hid (by
        have h := Sl.of_own (own_set_ne hown8 (fun g hg (e : g = w3.heap.size) => by have := (hown8.lt g hg).1; omega) 0 (.slice a8 (p.code.length + 2) cap8))
        show Sl _ 2 (p.code ++ [_, _]).length (cellsC (p.code ++ [_, _])) _
        rw [List.length_append, cellsC_app]; exact h)
      have hln : (wrongS p 2).code.length = p.code.length + 2 := by show (p.code ++ [_, _]).length = _; rw [List.length_append]; rfl
      have HN := Lib.hid (notSound (wrongS p 2) (HNS.out 2) a8 cap8 (w8.setCell ⟨w3.heap.size, 0, none⟩ (.slice a8 (p.code.length + 2) cap8)) (by rw [hln]; exact HS9.out) (by rw [hln]; omega))
      rw [hln] at HN
      have HB8 := Lib.hid ((HB7.out.trans (hb8.mono HB4.out.size)).setCell (p := ⟨w3.heap.size, 0, none⟩) (by show w.heap.size ≤ w3.heap.size; exact HB3.out.size) (.slice a8 (p.code.length + 2) cap8))
      clear hown8 hg8 hb8 hat8 hX hln x0 x1 x2 x3 xf hs7
      go_wp2_with fail
      refine HN.out.mono ?_
      rintro e9 w9 ⟨rfl, hb9⟩
      have HB9 := Lib.hid (HB8.out.trans (hb9.mono HB8.out.size))
      clear hb9
      go_wp2_with fail
      go_ret
      exact ⟨rfl, HB9.out⟩
    · have hx : bits .xor .u32 (w32 p.reads) 8 = w32 (p.reads ^^^ 8#32) := by
        show IntKind.u32.wrap ((BitVec.ofInt 32 (w32 p.reads) ^^^ BitVec.ofInt 32 8).toNat : Int) = _
        rw [w32_of, w32_wrap]; rfl
      have HS8 : Hid (SlC (W7.setCell ⟨w3.heap.size, 2, none⟩ (.int .u32 (w32 (p.reads ^^^ 8#32)))) p.code (.slice a6 p.code.length cap6)) := Lib.hid (Sl.of_own (own_set_ne HR7.out (fun g hg (e : g = w3.heap.size) => by have := (HR7.out.lt g hg).1; omega) _ _))
      have HB8 := Lib.hid (HB7.out.setCell (p := ⟨w3.heap.size, 2, none⟩) (by show w.heap.size ≤ w3.heap.size; exact HB3.out.size) (.int .u32 (w32 (p.reads ^^^ 8#32))))
      go_wp2_with fail
      refine (notSound (wrongS p 3) (HNS.out 3) a6 cap6 _ HS8.out (by show p.code.length ≤ 1000000; omega)).mono ?_
      rintro e8 w8 ⟨rfl, hb8⟩
      have HB9 := Lib.hid (HB8.out.trans (hb8.mono HB8.out.size))
      clear hb8
      go_wp2_with fail
      go_ret
      exact ⟨rfl, HB9.out⟩
    · have hx : (w32 p.writes + 1) % 4294967296 = w32 (p.writes + 1#32) := by
        unfold w32
        rw [BitVec.toNat_add]
        simp
      have HS8 : Hid (SlC (W7.setCell ⟨w3.heap.size, 3, none⟩ (.int .u32 (w32 (p.writes + 1#32)))) p.code (.slice a6 p.code.length cap6)) := Lib.hid (Sl.of_own (own_set_ne HR7.out (fun g hg (e : g = w3.heap.size) => by have := (HR7.out.lt g hg).1; omega) _ _))
      have HB8 := Lib.hid (HB7.out.setCell (p := ⟨w3.heap.size, 3, none⟩) (by show w.heap.size ≤ w3.heap.size; exact HB3.out.size) (.int .u32 (w32 (p.writes + 1#32))))
      go_wp2_with fail
      refine (notSound (wrongS p 4) (HNS.out 4) a6 cap6 _ HS8.out (by show p.code.length ≤ 1000000; omega)).mono ?_
      rintro e8 w8 ⟨rfl, hb8⟩
      have HB9 := Lib.hid (HB8.out.trans (hb8.mono HB8.out.size))
      clear hb8
      go_wp2_with fail
      go_ret
      exact ⟨rfl, HB9.out⟩
    · have hcl2 : (p.code.length : Int) + 2 ≤ 9223372036854775807 := by omega
      have Hjk : Hid (∀ i ∈ p.code, jumpB i = true → 0 ≤ i.a ∧ i.a ≤ 1000000) := Lib.hid (fun i hi hj => by
        have h := right_jump (Hc.out.basic.right i hi) (by unfold jumpB at hj; rw [decide_eq_true_eq] at hj; exact hj)
        omega)
      obtain ⟨W8, hW8, hR8, hb8⟩ : ∃ W8, W8 = W7.alloc (.cells #[.int .u8 1, .int .i64 1, .int .u8 11, .int .i64 (p.code.length + 2)] 35) ∧ W8.ownsRow W7.heap.size 35 2 (.slice (some ⟨W7.heap.size, 0, none⟩) 2 2) 2 [.int .u8 1, .int .i64 1, .int .u8 11, .int .i64 (p.code.length + 2)] ∧ Below W7.heap.size W7 W8 := ⟨_, rfl, own_lit W7 _ [.int .u8 1, .int .i64 1, .int .u8 11, .int .i64 (p.code.length + 2)] 2 rfl (by decide), (Below.refl _ _).alloc (Nat.le_refl _) _⟩
      have hS8 : SlC W8 p.code (.slice a6 p.code.length cap6) := SlC.below (Sl.of_own HR7.out) hb8
      have HSh := Lib.hid (shifted_any p.code 2 _ W8 hS8 (by omega) (by omega) Hjk.out)
      have HX8 := Lib.hid (HX7.out.below hb8 (Nat.le_refl _))
      have HR8 := Lib.hid hR8
      have HB8 := Lib.hid (HB7.out.trans (hb8.mono HB7.out.size))
      have x0 := HX8.out.cell (i := 0) rfl
      rw [hW8] at HSh HX8 HR8 HB8 x0
      clear hW8 hR8 hb8 hS8 x1 x2 x3 xf hs7
      have hlt7 : w3.heap.size < W7.heap.size := HX7.out.lt
      go_upto_region 22 with (first | (go_at_call 30; refine HSh.out.mono ?_; rintro e9 w9 ⟨⟨v9, rfl, hO9⟩, hb9⟩; have hS9 := OwnC.sl hO9; unfold SlC at hS9; rw [shiftC_len] at hS9; have HR9 := Lib.hid (own_below HR8.out hb9 (Nat.le_refl _)); have HX9 := Lib.hid (HX8.out.below hb9 (Nat.le_refl _)); have HB9 := Lib.hid (HB8.out.trans (hb9.mono HB8.out.size)); have hs9 : W7.heap.size ≤ w9.heap.size := (by have := hb9.size; simp at this; omega)) | (at_builtin; refine wpList_append_src rfl (.tmp 34) (.tmp 37) 26 rfl HR9.out info_pins Try.underlying26 rfl (by decide) rfl hS9 rfl (cellsC_all _) (by unfold maxLen; omega) (by omega) hs9 ?_; intro v8 w8 hown8 hg8 hb8 hat8; obtain ⟨a8, cap8, rfl, hc81, hc82⟩ := Sl.form (Sl.of_own hown8); have HX10 : Hid (OwnV w8 w3.heap.size 29 [.slice a6 p.code.length cap6, .int .i64 p.locals, .int .u32 (w32 p.reads), .int .u32 (w32 p.writes)]) := Lib.hid (by unfold OwnV; rw [hb8.block _ hlt7]; exact HX9.out); have e0 := HX10.out.cell (i := 0) rfl; have e1 := HX10.out.cell (i := 1) rfl; have e2 := HX10.out.cell (i := 2) rfl; have e3 := HX10.out.cell (i := 3) rfl; have ef := HX10.out.free 0))
      have HS10 : Hid (SlC (w8.setCell ⟨w3.heap.size, 0, none⟩ (.slice a8 (2 + p.code.length) cap8)) (⟨1, 1⟩ :: ⟨11, p.code.length + 2⟩ :: shiftC 2 p.code) (.slice a8 (2 + p.code.length) cap8)) := Lib.hid (by
        have h := Sl.of_own (own_set_ne hown8 (fun g hg (e : g = w3.heap.size) => by have := (hown8.lt g hg).1; omega) 0 (.slice a8 (2 + p.code.length) cap8))
        show Sl _ 2 (List.length _) (cellsC _) _
        rw [List.length_cons, List.length_cons, shiftC_len, Nat.add_assoc, Nat.add_comm p.code.length (1 + 1)]
        have e1 : ((2 : Nat) : Int) = 2 := rfl
        have e2 : cellsC (⟨1, 1⟩ :: ⟨11, p.code.length + 2⟩ :: shiftC 2 p.code) = [.int .u8 1, .int .i64 1, .int .u8 11, .int .i64 (p.code.length + 2)] ++ cellsC (shiftC 2 p.code) := by rw [show (⟨1, 1⟩ :: ⟨11, p.code.length + 2⟩ :: shiftC 2 p.code : Code1) = [⟨1, 1⟩, ⟨11, p.code.length + 2⟩] ++ shiftC 2 p.code from rfl, cellsC_app]; rfl
        rw [e1] at h
        rw [e2]
        exact h)
      have hln : (wrongS p 5).code.length = 2 + p.code.length := by show (List.length (_ :: _ :: shiftC 2 p.code)) = _; rw [List.length_cons, List.length_cons, shiftC_len]; omega
      have HN := Lib.hid (notSound (wrongS p 5) (HNS.out 5) a8 cap8 (w8.setCell ⟨w3.heap.size, 0, none⟩ (.slice a8 (2 + p.code.length) cap8)) (by rw [hln]; exact HS10.out) (by rw [hln]; omega))
      rw [hln] at HN
      have HB10 := Lib.hid ((HB9.out.trans (hb8.mono HB7.out.size)).setCell (p := ⟨w3.heap.size, 0, none⟩) (by show w.heap.size ≤ w3.heap.size; exact HB3.out.size) (.slice a8 (2 + p.code.length) cap8))
      clear hown8 hg8 hb8 hat8 hln x0 hS9 hs9
      go_wp2_with fail
      refine HN.out.mono ?_
      rintro e11 w11 ⟨rfl, hb11⟩
      have HB11 := Lib.hid (HB10.out.trans (hb11.mono HB10.out.size))
      clear hb11
      go_wp2_with fail
      go_ret
      exact ⟨rfl, HB11.out⟩
end Go.Proofs.Ytdeneckmoejcfaa
