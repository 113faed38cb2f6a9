/- marcheslaw13.CompileBlocks, walked. -/
import Derived.Test.YtdeneckmoejcfaaLawK
import Derived.Test.YtdeneckmoejcfaaTreeOJ
import Derived.Test.YtdeneckmoejcfaaWAwkJ
import Derived.Test.YtdeneckmoejcfaaWShift
import Derived.Test.YtdeneckmoejcfaaBlk
set_option linter.unusedSimpArgs false
set_option linter.unusedVariables false
namespace Go.Proofs.Ytdeneckmoejcfaa
open Go.RowKit
theorem own_lit (w : World) (e : TypeId) (vs : List Value) (n : Nat) (hn : vs.length = n * 2) (hm : n ≤ maxLen) : (w.alloc (.cells vs.toArray e)).ownsRow w.heap.size e 2 (.slice (some ⟨w.heap.size, 0, none⟩) n n) n vs :=
  ⟨hn, .inr ⟨w.heap.size, n, vs.toArray, rfl, Nat.le_refl _, OwnV.new w e vs, Nat.le_refl _, hm, by simp [hn], by simp [← hn]⟩⟩
theorem okI0 : okI 0 := ⟨by decide, by decide⟩
/-- a box of a program -/
def boxP (P : ProgS) (s : Option Addr) (t : Nat) : List Value := [.slice s P.code.length t, .int .i64 P.locals, .int .u32 (w32 P.reads), .int .u32 (w32 P.writes)]
theorem new_box (w : World) (P : ProgS) (s : Option Addr) (t : Nat) : ∃ W, W = w.alloc (.cells #[.slice s P.code.length t, .int .i64 P.locals, .int .u32 (w32 P.reads), .int .u32 (w32 P.writes)] 29) ∧ OwnV W w.heap.size 29 (boxP P s t) ∧ Below w.heap.size w W ∧ w.heap.size < W.heap.size :=
  ⟨_, rfl, OwnV.new _ _ _, (Below.refl _ _).alloc (Nat.le_refl _) _, by simp⟩
set_option maxRecDepth 100000 in
set_option maxHeartbeats 4000000 in
theorem blocks_any (l m : List St) (v u : Value) (w : World) (hokl : okSs l) (hokm : okSs m) (hL : SsL w w.heap.size l v) (hM : SsL w w.heap.size m u) :
    Calls Try.prog 9 #[v, u] w fun e w' => e = .returned (.bool true) ∧ Below w.heap.size w w' := by
  obtain ⟨a, cap, rfl, _, _⟩ := hL.form
  obtain ⟨b, cap2, rfl, _, _⟩ := hM.form
  have HL := Lib.hid hL
  have HM := Lib.hid hM
  have Hok := Lib.hid hokl
  have Hokm := Lib.hid hokm
  clear hL hM hokl hokm
  go_enter Try.func9, Try.ntmps9
  go_wp2_with fail
  refine (awake_any _).mono ?_
  rintro e1 w1 ⟨rfl, hb1⟩
  have HB1 := Lib.hid hb1
  have HS := Lib.hid (size_any (szSs l + 1) l _ w1 w.heap.size 200 (by omega) Hok.out (HL.out.low hb1) hb1.size (by omega) (by omega))
  clear hb1
  go_wp2_with fail
  refine HS.out.mono ?_
  rintro e2 w2 ⟨⟨r, rfl, -, hr, -⟩, hb2⟩
  have HB2 := Lib.hid (HB1.out.trans (hb2.mono HB1.out.size))
  have Hr := Lib.hid hr
  clear hb2 hr HS
  by_cases hrl : (r : Int) > 200
  · go_wp2_with fail
    go_ret
    exact ⟨rfl, HB2.out⟩
  have hrl2 : (r : Int) ≤ 200 := by omega
  have HS := Lib.hid (size_any (szSs m + 1) m _ w2 w.heap.size 200 (by omega) Hokm.out (HM.out.low HB2.out) HB2.out.size (by omega) (by omega))
  go_wp2_with fail
  refine HS.out.mono ?_
  rintro e3 w3 ⟨⟨r2, rfl, -, hr2, -⟩, hb3⟩
  have HB3 := Lib.hid (HB2.out.trans (hb3.mono HB2.out.size))
  have Hr2 := Lib.hid hr2
  clear hb3 hr2 HS
  by_cases hrm : (r2 : Int) > 200
  · go_wp2_with fail
    go_ret
    exact ⟨rfl, HB3.out⟩
  have hrm2 : (r2 : Int) ≤ 200 := by omega
  have Hsz : Hid (szSs l ≤ 200 ∧ szSs m ≤ 200) := Lib.hid ⟨by have := Hr.out hrl2; omega, by have := Hr2.out hrm2; omega⟩
  clear hrl hrm Hr Hr2
  have HC := Lib.hid (comp7_any l _ w3 w.heap.size Hok.out (by have := Hsz.out.1; omega) (HL.out.low HB3.out) HB3.out.size)
  go_wp2_with fail
  refine HC.out.mono ?_
  rintro e4 w4 ⟨⟨⟨s0, t0, rfl, hS⟩, hK⟩, hb4⟩
  have HB4 := Lib.hid (HB3.out.trans (hb4.mono HB3.out.size))
  have HK1 := Lib.hid hK
  clear HC hb4 hK
  have hl1 := resP_len l
  have hj1 := comp_jumps l
  obtain ⟨P1, hP1⟩ : ∃ P, P = resP (compS l) := ⟨_, rfl⟩
  obtain ⟨k1, hk1⟩ : ∃ k, k = resK (compS l) := ⟨_, rfl⟩
  have HP1 := Lib.hid hP1
  have Hk1 := Lib.hid hk1
  rw [← hP1] at hS hl1 hj1 ⊢
  rw [← hk1]
  have Hj1 := Lib.hid hj1
  clear hP1 hk1 hj1
  obtain ⟨W5, hW5, hX5, hb5, hlt5⟩ := new_box w4 P1 s0 t0
  have HB5 := Lib.hid (HB4.out.trans (hb5.mono HB4.out.size))
  have HS5 := Lib.hid (SlC.below hS hb5)
  have HX5 := Lib.hid hX5
  have HW5 := Lib.hid hW5
  have HC := Lib.hid (comp7_any m _ W5 w.heap.size Hokm.out (by have := Hsz.out.2; omega) (HM.out.low HB5.out) HB5.out.size)
  clear hW5 hX5 hb5 hS
  unfold progV
  go_upto_region 6 with (fail)
  rw [← HW5.out]
  go_wp2_with fail
  refine HC.out.mono ?_
  rintro e6 w6 ⟨⟨⟨s1, t1, rfl, hS⟩, hK⟩, hb6⟩
  have HB6 := Lib.hid (HB5.out.trans (hb6.mono HB5.out.size))
  have HK2 := Lib.hid hK
  have HX6 := Lib.hid (HX5.out.below hb6 (Nat.le_refl _))
  have HS6 := Lib.hid (SlC.below HS5.out hb6)
  have hlt6 : w4.heap.size < w6.heap.size := Nat.lt_of_lt_of_le hlt5 hb6.size
  clear HC hb6 hK HS5 HX5
  have hl2 := resP_len m
  have hj2 := comp_jumps m
  obtain ⟨P2, hP2⟩ : ∃ P, P = resP (compS m) := ⟨_, rfl⟩
  obtain ⟨k2, hk2⟩ : ∃ k, k = resK (compS m) := ⟨_, rfl⟩
  have HP2 := Lib.hid hP2
  have Hk2 := Lib.hid hk2
  rw [← hP2] at hS hl2 hj2 ⊢
  rw [← hk2]
  have Hj2 := Lib.hid hj2
  clear hP2 hk2 hj2
  obtain ⟨W7, hW7, hY7, hb7, hlt7⟩ := new_box w6 P2 s1 t1
  have HB7 := Lib.hid (HB6.out.trans (hb7.mono HB6.out.size))
  have HT7 := Lib.hid (SlC.below hS hb7)
  have HY7 := Lib.hid hY7
  have HX7 := Lib.hid (HX6.out.below hb7 (Nat.le_refl _))
  have HS7 := Lib.hid (SlC.below HS6.out hb7)
  have HW7 := Lib.hid hW7
  have HBl := Lib.hid (lawBlock_any a l.length cap W7)
  clear hW7 hY7 hb7 hS HX6 HS6
  unfold progV
  go_upto_region 7 with (fail)
  rw [← HW7.out]
  go_wp2_with fail
  refine HBl.out.mono ?_
  rintro e8 w8 ⟨⟨g1, rfl, hT1, hg1, hg1'⟩, hb8⟩
  have HBl2 := Lib.hid (lawBlock_any b m.length cap2 w8)
  go_wp2_with fail
  refine HBl2.out.mono ?_
  rintro e9 w9 ⟨⟨g2, rfl, hT2, hg2, hg2'⟩, hb9⟩
  have HB79 : Hid (Below W7.heap.size W7 w9) := Lib.hid (hb8.trans (hb9.mono hb8.size))
  have h79 := HB79.out.size
  obtain ⟨W10, hW10, hZ10, hb10, hlt10⟩ : ∃ W, W = w9.alloc (.cells (blkV g1 (.slice a l.length cap) ++ blkV g2 (.slice b m.length cap2)).toArray 59) ∧ OwnV W w9.heap.size 59 (blkV g1 (.slice a l.length cap) ++ blkV g2 (.slice b m.length cap2)) ∧ Below w9.heap.size w9 W ∧ w9.heap.size < W.heap.size :=
    ⟨_, rfl, OwnV.new _ _ _, (Below.refl _ _).alloc (Nat.le_refl _) _, by simp⟩
  have HB710 := Lib.hid (HB79.out.trans (hb10.mono h79))
  have HB10 := Lib.hid (HB7.out.trans (HB710.out.mono HB7.out.size))
  have HT1 : Hid (OwnV W10 g1 65 tickV) := Lib.hid ((hT1.below hb9 (Nat.le_refl _)).below hb10 (Nat.le_refl _))
  have HT2 : Hid (OwnV W10 g2 65 tickV) := Lib.hid (hT2.below hb10 (Nat.le_refl _))
  have h89 := hb9.size
  have hw7 := HB7.out.size
  have HLL : Hid (SsL W10 W10.heap.size [blkS l, blkS m] (.slice (some ⟨w9.heap.size, 0, none⟩) 2 2)) := Lib.hid
    ⟨_, sl_block hZ10 rfl (Nat.le_refl _) (by omega), .inr fun k hk => by cases hk; exact hlt10, StsC.join (blk_l HT1.out (by omega) ((HL.out.low HB10.out).up (by omega))) (blk_l HT2.out (by omega) ((HM.out.low HB10.out).up (by omega)))⟩
  have HC := Lib.hid (comp7_any [blkS l, blkS m] _ W10 W10.heap.size ⟨⟨by decide, okI0, by decide, ⟨⟨by decide, okI0, by decide, trivial⟩, trivial⟩, Hok.out, trivial⟩, ⟨by decide, okI0, by decide, ⟨⟨by decide, okI0, by decide, trivial⟩, trivial⟩, Hokm.out, trivial⟩, trivial⟩ (by have := Hsz.out; simp only [blkS, szSs, szS, szEs, szE, List.length_nil]; omega) HLL.out (Nat.le_refl _))
  have HX10 := Lib.hid (HX7.out.below HB710.out (Nat.le_refl _))
  have HY10 := Lib.hid (HY7.out.below HB710.out (Nat.le_refl _))
  have HS10 := Lib.hid (SlC.below HS7.out HB710.out)
  have HT10 := Lib.hid (SlC.below HT7.out HB710.out)
  have HW10 := Lib.hid hW10
  have h710 := HB710.out.size
  clear hW10 hZ10 hb10 hT1 hT2 hb8 hb9 hg1 hg1' hg2 hg2' HT1 HT2 HLL HBl HBl2
  go_wp2_with fail
  have hW10 := HW10.out
  simp only [blkV, List.cons_append, List.nil_append] at hW10
  rw [← hW10]
  clear hW10
  refine HC.out.mono ?_
  rintro e11 w11 ⟨⟨⟨s2, t2, rfl, hS⟩, hK⟩, hb11⟩
  have HB11 := Lib.hid (HB10.out.trans (hb11.mono HB10.out.size))
  have HX11 := Lib.hid (HX10.out.below hb11 (Nat.le_refl _))
  have HY11 := Lib.hid (HY10.out.below hb11 (Nat.le_refl _))
  have HS11 := Lib.hid (SlC.below HS10.out hb11)
  have HT11 := Lib.hid (SlC.below HT10.out hb11)
  have h1011 := hb11.size
  clear HC hb11 HX10 HY10 HS10 HT10 HX7 HY7 HS7 HT7
  have hl3 := resP_len [blkS l, blkS m]
  obtain ⟨P3, hP3⟩ : ∃ P, P = resP (compS [blkS l, blkS m]) := ⟨_, rfl⟩
  obtain ⟨k3, hk3⟩ : ∃ k, k = resK (compS [blkS l, blkS m]) := ⟨_, rfl⟩
  have HF : Hid (k1 = 0 → k2 = 0 → k3 ≠ 130 → k3 = 0 ∧ P3 = ⟨blkC P1.code ++ (⟨6, 0⟩ :: ⟨12, P1.code.length + 4 + P2.code.length⟩ :: shiftC (P1.code.length + 4) P2.code), max P1.locals P2.locals, P1.reads ||| P2.reads, P1.writes ||| P2.writes⟩) := Lib.hid (fun z1 z2 z3 => by
    have y1 := Hk1.out
    have y2 := Hk2.out
    obtain ⟨p, hp⟩ := HK1.out.ok (by rw [← y1]; exact z1)
    obtain ⟨q, hq⟩ := HK2.out.ok (by rw [← y2]; exact z2)
    have hc := comp_blocks hp hq (resK_right (by rw [← hk3]; exact z3)) (by have := Hsz.out; omega) (by have := Hsz.out; omega)
    rw [hk3, hP3, HP1.out, HP2.out, hc, hp, hq]
    exact ⟨rfl, rfl⟩)
  rw [← hP3] at hS hl3 ⊢
  rw [← hk3]
  clear hP3 hk3 hK
  obtain ⟨W12, hW12, hZ12, hb12, hlt12⟩ := new_box w11 P3 s2 t2
  have HB12 := Lib.hid (HB11.out.trans (hb12.mono HB11.out.size))
  have HX12 := Lib.hid (HX11.out.below hb12 (Nat.le_refl _))
  have HY12 := Lib.hid (HY11.out.below hb12 (Nat.le_refl _))
  have HZ12 := Lib.hid hZ12
  have HS12 := Lib.hid (SlC.below HS11.out hb12)
  have HT12 := Lib.hid (SlC.below HT11.out hb12)
  have HU12 := Lib.hid (SlC.below hS hb12)
  have HW12 := Lib.hid hW12
  have h1112 := hb12.size
  clear hW12 hZ12 hb12 hS HX11 HY11 HS11 HT11
  unfold progV
  go_upto_region 8 with (fail)
  rw [← HW12.out]
  by_cases z1 : k1 = 0
  case neg =>
    have zb : (k1 != 0) = true := by simp [z1]
    go_wp2_with fail
    go_ret
    exact ⟨rfl, HB12.out⟩
  by_cases z2 : k2 = 0
  case neg =>
    have zb : (k2 != 0) = true := by simp [z2]
    go_wp2_with fail
    go_ret
    exact ⟨rfl, HB12.out⟩
  by_cases z3 : k3 = 130
  case pos =>
    go_wp2_with fail
    go_ret
    exact ⟨rfl, HB12.out⟩
  obtain ⟨z4, z5⟩ := HF.out z1 z2 z3
  have hloc : P3.locals = max P1.locals P2.locals := by rw [z5]
  have hrd : P3.reads = P1.reads ||| P2.reads := by rw [z5]
  have hwr : P3.writes = P1.writes ||| P2.writes := by rw [z5]
  have Hcd : Hid (P3.code = blkC P1.code ++ (⟨6, 0⟩ :: ⟨12, P1.code.length + 4 + P2.code.length⟩ :: shiftC (P1.code.length + 4) P2.code)) := Lib.hid (by rw [z5])
  clear z5 z3 HF
  have x0 := HX12.out.cell (i := 0) rfl
  have x1 := HX12.out.cell (i := 1) rfl
  have x2 := HX12.out.cell (i := 2) rfl
  have x3 := HX12.out.cell (i := 3) rfl
  have y0 := HY12.out.cell (i := 0) rfl
  have y1 := HY12.out.cell (i := 1) rfl
  have y2 := HY12.out.cell (i := 2) rfl
  have y3 := HY12.out.cell (i := 3) rfl
  have v0 := HZ12.out.cell (i := 0) rfl
  have v1 := HZ12.out.cell (i := 1) rfl
  have v2 := HZ12.out.cell (i := 2) rfl
  have v3 := HZ12.out.cell (i := 3) rfl
  rw [hloc] at v1
  rw [hrd] at v2
  rw [hwr] at v3
  have hor : ∀ a b : BitVec 32, bits .or .u32 (w32 a) (w32 b) = w32 (a ||| b) := fun a b => by
    show IntKind.u32.wrap ((BitVec.ofInt 32 (w32 a) ||| BitVec.ofInt 32 (w32 b)).toNat : Int) = _
    rw [w32_of, w32_of, w32_wrap]
  have hor1 := hor P1.reads P2.reads
  have hor2 := hor P1.writes P2.writes
  clear hor hloc hrd hwr
  have hsp : (P1.locals < P2.locals ∧ max P1.locals P2.locals = P2.locals) ∨ (¬ P1.locals < P2.locals ∧ max P1.locals P2.locals = P1.locals) := by omega
  rcases hsp with ⟨hle, hmx⟩ | ⟨hle, hmx⟩
  all_goals
    rw [hmx] at v1
    go_upto_region 12 with (fail)
    clear hle hmx x1 x2 x3 y1 y2 y3 v1 v2 v3 hor1 hor2
    have hn2 : (P1.code.length : Int) + 2 ≤ 9223372036854775807 := by omega
    have hn4 : (P1.code.length : Int) + 4 ≤ 9223372036854775807 := by omega
    have hn5 : (P1.code.length : Int) + 4 + P2.code.length ≤ 9223372036854775807 := by omega
    go_upto_region 14 with (fail)
    obtain ⟨W13, hW13, hR13, hb13⟩ : ∃ W, W = W12.alloc (.cells #[.int .u8 6, .int .i64 0, .int .u8 12, .int .i64 (P1.code.length + 2)] 35) ∧ W.ownsRow W12.heap.size 35 2 (.slice (some ⟨W12.heap.size, 0, none⟩) 2 2) 2 [.int .u8 6, .int .i64 0, .int .u8 12, .int .i64 (P1.code.length + 2)] ∧ Below W12.heap.size W12 W := ⟨_, rfl, own_lit W12 _ [.int .u8 6, .int .i64 0, .int .u8 12, .int .i64 (P1.code.length + 2)] 2 rfl (by decide), (Below.refl _ _).alloc (Nat.le_refl _) _⟩
    rw [← hW13]
    have HR13 := Lib.hid hR13
    have Hb13 := Lib.hid hb13
    have HSh := Lib.hid (shifted_any P1.code 2 _ W13 (SlC.below HS12.out hb13) (by omega) (by omega) Hj1.out)
    have hs13 : W12.heap.size ≤ W13.heap.size := hb13.size
    clear hW13 hR13 hb13 x0 y0 v0
    have x0 := (HX12.out.below Hb13.out (Nat.le_refl _)).cell (i := 0) rfl
    go_upto_region 15 with (first | (go_at_call 30; refine HSh.out.mono ?_; rintro e14 w14 ⟨⟨v14, rfl, hO14⟩, hb14⟩; have hS14 := OwnC.sl hO14; unfold SlC at hS14; rw [shiftC_len] at hS14; have HR14 := Lib.hid (own_below HR13.out hb14 (Nat.le_refl _)); have hs14 : W12.heap.size ≤ w14.heap.size := Nat.le_trans hs13 hb14.size) | (at_builtin; refine wpList_append_src rfl (.tmp 92) (.tmp 95) 26 rfl HR14.out info_pins Try.underlying26 rfl (by decide) rfl hS14 rfl (cellsC_all _) (by unfold maxLen; omega) (by omega) hs14 ?_; intro v15 w15 hown15 hg15 hb15 hat15; obtain ⟨a15, cap15, rfl, hc151, hc152⟩ := Sl.form (Sl.of_own hown15)))
    have HR15 := Lib.hid hown15
    have Hb15 : Hid (Below W12.heap.size W12 w15) := Lib.hid ((Hb13.out.trans (hb14.mono hs13)).trans hb15)
    have hs15 : W12.heap.size ≤ w15.heap.size := Hb15.out.size
    clear hown15 hg15 hb15 hat15 hb14 hO14 hS14 hs14 x0 HSh
    have y0 := (HY12.out.below Hb15.out (Nat.le_refl _)).cell (i := 0) rfl
    go_upto_region 16 with (at_builtin; refine wpList_append_at rfl (.tmp 97) (.tmp 106) 26 rfl HR15.out info_pins Try.underlying26 rfl (by decide) rfl 2 2 rfl rfl rfl (by unfold maxLen; omega) (by omega) hs15 ?_; intro v16 w16 hown16 hg16 hb16 hat16; obtain ⟨a16, cap16, rfl, hc161, hc162⟩ := Sl.form (Sl.of_own hown16))
    have HR16 := Lib.hid hown16
    have Hb16 : Hid (Below W12.heap.size W12 w16) := Lib.hid (Hb15.out.trans hb16)
    have hs16 : W12.heap.size ≤ w16.heap.size := Hb16.out.size
    have hsh2 := shifted_any P2.code (P1.code.length + 4) _ w16 (SlC.below HT12.out Hb16.out) (by omega) (by omega) Hj2.out
    have hcast : ((P1.code.length + 4 : Nat) : Int) = (P1.code.length : Int) + 4 := by omega
    rw [hcast] at hsh2
    have HSh2 := Lib.hid hsh2
    clear hown16 hg16 hb16 hat16 hsh2 hcast y0
    have y0 := (HY12.out.below Hb16.out (Nat.le_refl _)).cell (i := 0) rfl
    go_upto_region 17 with (first | (go_at_call 30; refine HSh2.out.mono ?_; rintro e17 w17 ⟨⟨v17, rfl, hO17⟩, hb17⟩; have hS17 := OwnC.sl hO17; unfold SlC at hS17; rw [shiftC_len] at hS17; have HR17 := Lib.hid (own_below HR16.out hb17 (Nat.le_refl _)); have hs17 : W12.heap.size ≤ w17.heap.size := Nat.le_trans hs16 hb17.size) | (at_builtin; refine wpList_append_src rfl (.tmp 108) (.tmp 113) 26 rfl HR17.out info_pins Try.underlying26 rfl (by decide) rfl hS17 rfl (cellsC_all _) (by unfold maxLen; omega) (by omega) hs17 ?_; intro v18 w18 hown18 hg18 hb18 hat18; obtain ⟨a18, cap18, rfl, hc181, hc182⟩ := Sl.form (Sl.of_own hown18)))
    have Hb18 : Hid (Below W12.heap.size W12 w18) := Lib.hid ((Hb16.out.trans (hb17.mono hs16)).trans hb18)
    have hlen3 : P3.code.length = 2 + P1.code.length + 2 + P2.code.length := by
      rw [Hcd.out]
      unfold blkC
      simp only [List.length_append, List.length_cons, shiftC_len]
      omega
    have HV18 : Hid (SlC w18 P3.code (.slice a18 (2 + P1.code.length + 2 + P2.code.length) cap18)) := Lib.hid (by
      have h := Sl.of_own hown18
      unfold SlC
      rw [hlen3, Hcd.out]
      have e2 : cellsC (blkC P1.code ++ (⟨6, 0⟩ :: ⟨12, P1.code.length + 4 + P2.code.length⟩ :: shiftC (P1.code.length + 4) P2.code)) = [.int .u8 6, .int .i64 0, .int .u8 12, .int .i64 (P1.code.length + 2)] ++ cellsC (shiftC 2 P1.code) ++ [.int .u8 6, .int .i64 0, .int .u8 12, .int .i64 (P1.code.length + 4 + P2.code.length)] ++ cellsC (shiftC (P1.code.length + 4) P2.code) := by
        rw [cellsC_app, List.append_assoc]
        rfl
      rw [e2]
      exact h)
    have HU18 := Lib.hid (SlC.below HU12.out Hb18.out)
    have hsame := sameCode_any P3.code P3.code _ _ w18 HU18.out HV18.out (by omega) (by omega)
    rw [(sameC_iff P3.code P3.code).2 rfl] at hsame
    have HSm := Lib.hid hsame
    have HB18 := Lib.hid (HB12.out.trans (Hb18.out.mono HB12.out.size))
    clear hown18 hg18 hb18 hat18 hb17 hO17 hS17 hs17 y0 hsame HSh2 hlen3
    have v0 := (HZ12.out.below Hb18.out (Nat.le_refl _)).cell (i := 0) rfl
    go_wp2_with fail
    refine HSm.out.mono ?_
    rintro e19 w19 ⟨rfl, hb19⟩
    have HB19 := Lib.hid (HB18.out.trans (hb19.mono HB18.out.size))
    clear hb19
    go_wp2_with fail
    go_ret
    exact ⟨rfl, HB19.out⟩
end Go.Proofs.Ytdeneckmoejcfaa
