/- marcheslaw13.CompileErrors, walked. -/
import Derived.Test.YtdeneckmoejcfaaLawK
import Derived.Test.YtdeneckmoejcfaaTreeOJ
import Derived.Test.YtdeneckmoejcfaaWAwkJ
import Derived.Test.YtdeneckmoejcfaaKitCJ
import Derived.Test.YtdeneckmoejcfaaErrM
import Derived.Test.YtdeneckmoejcfaaSubM
import Derived.Deep.RegionHeld3
import Derived.Deep.DeepCutAuto
import Derived.IntWalk
set_option linter.unusedSimpArgs false
set_option linter.unusedVariables false
namespace Go.Proofs.Ytdeneckmoejcfaa
open Go.RowKit
theorem new_box (w : World) (P : ProgS) (s : Option Addr) (t : Nat) : ∃ W, W = w.alloc (.cells #[.slice s P.code.length t, .int .i64 P.locals, .int .u32 (w32 P.reads), .int .u32 (w32 P.writes)] 29) ∧ Below w.heap.size w W ∧ w.heap.size < W.heap.size :=
  ⟨_, rfl, (Below.refl _ _).alloc (Nat.le_refl _) _, by simp⟩
theorem okI0 : okI 0 := ⟨by decide, by decide⟩
theorem own_row (w : World) (e : TypeId) (sz : Nat) (vs : List Value) (hn : vs.length = 1 * sz) : (w.alloc (.cells vs.toArray e)).ownsRow w.heap.size e sz (.slice (some ⟨w.heap.size, 0, none⟩) 1 1) 1 vs :=
  ⟨hn, .inr ⟨w.heap.size, 1, vs.toArray, rfl, Nat.le_refl _, OwnV.new w e vs, Nat.le_refl _, by decide, by simp [hn], by simp [← hn]⟩⟩
theorem new_own (w : World) (e : TypeId) (vs : List Value) : ∃ W, W = w.alloc (.cells vs.toArray e) ∧ OwnV W w.heap.size e vs ∧ Below w.heap.size w W ∧ w.heap.size < W.heap.size ∧ Hid (W.heap.size = w.heap.size + 1) := ⟨_, rfl, OwnV.new _ _ _, (Below.refl _ _).alloc (Nat.le_refl _) _, by simp, Lib.hid (by simp)⟩
theorem sts_ones {w : World} {P : Nat → Prop} {xs : List St} {cs : List Value} (h : StsC w P xs cs) : cs.all (fun u => u.oneCell') = true := by
  induction h with
  | nil => rfl
  | cons h1 h2 h3 b1 b2 b3 l1 l2 l3 h4 _ _ ih =>
    obtain ⟨a1, c1, rfl, -, -⟩ := Sl.form h1
    obtain ⟨a2, c2, rfl, -, -⟩ := Sl.form b1
    obtain ⟨a3, c3, rfl, -, -⟩ := Sl.form l1
    simp only [List.all_cons, ih]
    rfl
theorem len_cons' (x : St) (l : List St) : (x :: l).length = 1 + l.length := by rw [List.length_cons, Nat.add_comm]
theorem twice_tree {Wp w8 w9 : World} {r7 v8 : Value} {xs : List St} {cs : List Value} (hX : StsC Wp (fun g => r7.ownBlock ≠ some g) xs cs) (hg8 : Wp.grownBy w8 r7.ownBlock)
    (hat8 : v8.ownBlock = r7.ownBlock ∨ ∃ g, v8.ownBlock = some g ∧ Wp.heap.size ≤ g) (hg9 : w8.grownBy w9 v8.ownBlock) : StsC w9 (fun g => g < w9.heap.size) xs cs := by
  have h1 : StsC Wp (fun g => r7.ownBlock ≠ some g ∧ g < Wp.heap.size) xs cs := hX.weak fun g hg hp => ⟨hp, hg⟩
  have h2 := h1.grown hg8 (fun g e hp => hp.1 e)
  have h3 := h2.grown hg9 (fun g e hp => by
    rcases hat8 with h | ⟨g', h, hl⟩
    · exact hp.1 (by rw [← h]; exact e)
    · rw [h] at e; cases e; omega)
  exact h3.weak fun g hg _ => hg
theorem sts_mkL {w : World} {B : Nat} {op n : Int} {name : List UInt8} {es : List Ex} {body els : List St} {ve vb vl : Value} (h1 : EsL w B es ve) (h2 : SsL w B body vb) (h3 : SsL w B els vl) : StsC w (fun g => g < B) [.mk op n name es body els] [.int .u8 op, .int .i64 n, .string (bstr name), ve, vb, vl] := by
  obtain ⟨c1, a1, a2, a3⟩ := h1
  obtain ⟨c2, b1, b2, b3⟩ := h2
  obtain ⟨c3, d1, d2, d3⟩ := h3
  exact StsC.cons a1 a2 a3 b1 b2 b3 d1 d2 d3 .nil
/-- the cells of a stop -/
def stopV : List Value := [.int .u8 6, .int .i64 0, .string { data := #[] }, .slice none 0 0, .slice none 0 0, .slice none 0 0]
theorem stop_c (w : World) (P : Nat → Prop) : StsC w P [stopS] stopV := StsC.cons (Sl.nil w 4) (.inl rfl) .nil (Sl.nil w 6) (.inl rfl) .nil (Sl.nil w 6) (.inl rfl) .nil .nil
def oneV : List Value := [.int .u8 1, .int .i64 1, .string { data := #[] }, .slice none 0 0]
def freeV : List Value := [.int .u8 2, .int .i64 0, .string { data := #[110, 111, 116, 95, 97, 95, 110, 97, 109, 101, 95, 111, 102, 95, 116, 104, 101, 95, 108, 105, 115, 116, 95] }, .slice none 0 0]
theorem one_c (w : World) (P : Nat → Prop) : ExsC w P [oneE] oneV := ExsC.cons (Sl.nil w 4) (.inl rfl) .nil .nil
theorem free_c (w : World) (P : Nat → Prop) : ExsC w P [.mk 2 0 freeN []] freeV := ExsC.cons (Sl.nil w 4) (.inl rfl) .nil .nil
def setV (g : Nat) : List Value := [.int .u8 2, .int .i64 0, .string { data := #[110, 111, 116, 95, 97, 95, 110, 97, 109, 101, 95, 111, 102, 95, 116, 104, 101, 95, 108, 105, 115, 116, 95] }, .slice (some ⟨g, 0, none⟩) 1 1, .slice none 0 0, .slice none 0 0]
def readV (g : Nat) : List Value := [.int .u8 3, .int .i64 7, .string { data := #[] }, .slice (some ⟨g, 0, none⟩) 2 2, .slice none 0 0, .slice none 0 0]
theorem set_c {w : World} {g : Nat} {P : Nat → Prop} (h : OwnV w g 65 oneV) (hg : P g) : StsC w P [setS] (setV g) :=
  StsC.cons (sl_block h rfl (Nat.le_refl _) (by omega)) (.inr fun k hk => by cases hk; exact hg) (one_c w P) (Sl.nil w 6) (.inl rfl) .nil (Sl.nil w 6) (.inl rfl) .nil .nil
theorem read_c {w : World} {g : Nat} {P : Nat → Prop} (h : OwnV w g 65 (oneV ++ freeV)) (hg : P g) : StsC w P [readS] (readV g) :=
  StsC.cons (sl_block h rfl (Nat.le_refl _) (by omega)) (.inr fun k hk => by cases hk; exact hg) (ExsC.join (one_c w P) (free_c w P)) (Sl.nil w 6) (.inl rfl) .nil (Sl.nil w 6) (.inl rfl) .nil .nil
theorem okSs_stop {l : List St} (h : okSs l) : okSs (l ++ [stopS]) := okSs_app h ⟨⟨by decide, okI0, by decide, trivial, trivial, trivial⟩, trivial⟩
theorem okSs_set {l : List St} (h : okSs l) : okSs (setS :: l) := ⟨⟨by decide, okI0, by decide, ⟨⟨by decide, ⟨by decide, by decide⟩, by decide, trivial⟩, trivial⟩, trivial, trivial⟩, h⟩
theorem okSs_read {l : List St} (h : okSs l) : okSs (readS :: l) := ⟨⟨by decide, ⟨by decide, by decide⟩, by decide, ⟨⟨by decide, ⟨by decide, by decide⟩, by decide, trivial⟩, ⟨by decide, okI0, by decide, trivial⟩, trivial⟩, trivial, trivial⟩, h⟩
theorem okSs_twice {l : List St} (h : okSs l) {i : Nat} {x : St} (hx : l[i]? = some x) : okSs (l.take (i + 1) ++ [x] ++ l.drop (i + 1)) := by
  have h1 : ∀ (a b : List St), okSs (a ++ b) → okSs a ∧ okSs b := by
    intro a b
    induction a with
    | nil => intro h; exact ⟨trivial, h⟩
    | cons y r ih => intro h; exact ⟨⟨h.1, (ih h.2).1⟩, (ih h.2).2⟩
  have h2 := h1 (l.take (i + 1)) (l.drop (i + 1)) (by rw [List.take_append_drop]; exact h)
  exact okSs_app (okSs_app h2.1 ⟨okSs_at h hx, trivial⟩) h2.2
set_option maxRecDepth 100000 in
set_option maxHeartbeats 4000000 in
theorem errors_any (l : List St) (v : Value) (w : World) (hok : okSs l) (hL : SsL w w.heap.size l v) :
    Calls Try.prog 10 #[v] w fun e w' => e = .returned (.bool true) ∧ Below w.heap.size w w' := by
  obtain ⟨a, cap, rfl, hcp1, hcp2⟩ := hL.form
  have HL := Lib.hid hL
  have Hok := Lib.hid hok
  clear hL hok
  go_enter Try.func10, Try.ntmps10
  go_wp2_with fail
  refine (awake_any _).mono ?_
  rintro e1 w1 ⟨rfl, hb1⟩
  have HB1 := Lib.hid hb1
  have HS := Lib.hid (size_any (szSs l + 1) l _ w1 w.heap.size 400 (by omega) Hok.out (HL.out.low hb1) hb1.size (by omega) (by omega))
  clear hb1
  go_wp2_with fail
  refine HS.out.mono ?_
  rintro e2 w2 ⟨⟨r, rfl, -, hr, -⟩, hb2⟩
  have HB2 := Lib.hid (HB1.out.trans (hb2.mono HB1.out.size))
  have Hr := Lib.hid hr
  clear hb2 hr HS
  by_cases hrl : (r : Int) > 400
  · go_wp2_with fail
    go_ret
    exact ⟨rfl, HB2.out⟩
  have hrl2 : (r : Int) ≤ 400 := by omega
  have hsz : szSs l ≤ 400 := by have := Hr.out hrl2; omega
  have hll : l.length ≤ 400 := Nat.le_trans (szSs_len l) hsz
  have HC := Lib.hid (comp7_any l _ w2 w.heap.size Hok.out (by omega) (HL.out.low HB2.out) HB2.out.size)
  have Hsz := Lib.hid hsz
  clear hsz hrl
  go_wp2_with fail
  refine HC.out.mono ?_
  rintro e3 w3 ⟨⟨⟨s0, t0, rfl, -⟩, hK⟩, hb3⟩
  have HB3 := Lib.hid (HB2.out.trans (hb3.mono HB2.out.size))
  have HK := Lib.hid hK
  clear HC hb3 hK
  obtain ⟨W4, hW4, hb4, hlt4⟩ := new_box w3 (resP (compS l)) s0 t0
  have HB4 := Lib.hid (HB3.out.trans (hb4.mono HB3.out.size))
  have hs4 : w.heap.size ≤ W4.heap.size := HB4.out.size
  have HW4 := Lib.hid hW4
  clear hb4 hW4
  unfold progV
  go_upto_region 6 with (fail)
  rw [← HW4.out]
  clear HW4
  obtain ⟨W5, hW5, hX5, hb5⟩ : ∃ W, W = W4.alloc (.cells oneV.toArray 65) ∧ OwnV W W4.heap.size 65 oneV ∧ Below W4.heap.size W4 W := ⟨_, rfl, OwnV.new _ _ _, (Below.refl _ _).alloc (Nat.le_refl _) _⟩
  simp only [oneV] at hW5
  have HW5 := Lib.hid hW5
  clear hW5
  go_upto_region 7 with (fail)
  rw [← HW5.out]
  clear HW5
  obtain ⟨W6, hW6, hS6, hb6⟩ : ∃ W, W = W5.alloc (.cells stopV.toArray 59) ∧ OwnV W W5.heap.size 59 stopV ∧ Below W5.heap.size W5 W := ⟨_, rfl, OwnV.new _ _ _, (Below.refl _ _).alloc (Nat.le_refl _) _⟩
  simp only [stopV] at hW6
  have HW6 := Lib.hid hW6
  clear hW6
  go_upto_region 8 with (fail)
  rw [← HW6.out]
  clear HW6
  have hb46 := hb5.trans (hb6.mono hb5.size)
  have HB6 := Lib.hid (HB4.out.trans (hb46.mono hs4))
  have HX6 := Lib.hid (hX5.below hb6 (Nat.le_refl _))
  have HS6 := Lib.hid hS6
  have hs6 : w.heap.size ≤ W6.heap.size := HB6.out.size
  have h56 : W4.heap.size < W6.heap.size := HX6.out.lt
  clear hX5 hb5 hS6 hb6 hb46 hlt4
  obtain ⟨k0, hk0⟩ : ∃ k, k = resK (compS l) := ⟨_, rfl⟩
  have Hk0 := Lib.hid hk0
  rw [← hk0]
  clear hk0
  by_cases hk : k0 = 0
  case neg =>
    have hkb : (k0 != 0) = true := by simp [hk]
    have Hce : Hid (compS l = .err k0) := Lib.hid (by have h := Hk0.out; rw [h]; exact (KindR.err (by rw [← h]; exact hk)).1)
    have HCp := Lib.hid (copySs_any (szSs l + 1) l _ W6 w.heap.size (by omega) (by have := Hsz.out; omega) (HL.out.low HB6.out) hs6)
    go_wp2_with fail
    refine HCp.out.mono ?_
    rintro e7 w7 ⟨⟨r7, cs7, rfl, hown7, hX7⟩, hb7⟩
    have HSt : Hid (Sl w7 6 1 stopV (.slice (some ⟨W5.heap.size, 0, none⟩) 1 1)) := Lib.hid (sl_block (HS6.out.below hb7 (Nat.le_refl _)) rfl (Nat.le_refl _) (by omega))
    have hs7 := hb7.size
    go_wp2_with (at_builtin; refine wpList_append_src rfl (.tmp 37) (.tmp 38) 22 rfl hown7 info_stmt Try.underlying22 rfl (by decide) rfl HSt.out rfl rfl (by unfold maxLen; omega) (by omega) hs7 ?_; intro v8 w8 hown8 hg8 hb8 hat8; obtain ⟨a8, cap8, rfl, hc81, hc82⟩ := Sl.form (Sl.of_own hown8))
    have hX8 := sts_push hown7 hX7 (Below.refl _ _) (stop_c w7 _) hs7 (Below.refl _ _) hg8 hat8
    have HB8 := Lib.hid (HB6.out.trans ((hb7.trans hb8).mono hs6))
    have HC2 := Lib.hid (comp7_any (l ++ [stopS]) (.slice a8 (l.length + 1) cap8) w8 w8.heap.size (okSs_stop Hok.out) (by rw [szSs_app]; have := Hsz.out; simp only [stopS, szSs, szS, szEs, List.length_nil]; omega) (ss_low (by rw [List.length_append]; exact hown8) hX8) (Nat.le_refl _))
    rw [comp_stop Hce.out] at HC2
    clear hown7 hX7 hb7 hown8 hg8 hb8 hat8 hX8 HSt
    refine HC2.out.mono ?_
    rintro e9 w9 ⟨⟨⟨s9, t9, rfl, -⟩, -⟩, hb9⟩
    have HB9 := Lib.hid (HB8.out.trans (hb9.mono HB8.out.size))
    obtain ⟨W10, hW10, hb10, hlt10⟩ := new_box w9 (resP (CR.err k0)) s9 t9
    have HB10 := Lib.hid (HB9.out.trans (hb10.mono HB9.out.size))
    have HW10 := Lib.hid hW10
    clear hb9 hb10 hlt10 hW10
    unfold progV
    go_upto_region 10 with (fail)
    rw [← HW10.out]
    rw [show resK (CR.err k0) = k0 from rfl]
    clear HW10
    go_wp2_with fail
    go_ret
    exact ⟨by first | rfl | simp, HB10.out⟩
  case pos =>
    subst hk
    obtain ⟨p, hp⟩ : ∃ p, compS l = .ok p := HK.out.ok Hk0.out.symm
    have Hset := Lib.hid (comp_set hp)
    have Hread := Lib.hid (comp_read hp)
    have Hp := Lib.hid hp
    clear hp
    have x0 := HX6.out.cell (i := 0) rfl
    have x1 := HX6.out.cell (i := 1) rfl
    have x2 := HX6.out.cell (i := 2) rfl
    have x3 := HX6.out.cell (i := 3) rfl
    obtain ⟨W7, hW7, hF7, hb7, hlt7, E7⟩ := new_own W6 65 freeV
    simp only [freeV] at hW7
    have HW7 := Lib.hid hW7
    clear hW7
    go_upto_region 12 with (fail)
    rw [← HW7.out]
    clear HW7
    have HX7 := Lib.hid (HX6.out.below hb7 (Nat.le_refl _))
    have HF7 := Lib.hid hF7
    have HB7 := Lib.hid (HB6.out.trans (hb7.mono hs6))
    have hs7 : W6.heap.size ≤ W7.heap.size := hb7.size
    clear x0 x1 x2 x3 hb7 hF7
    have x0 := HX7.out.cell (i := 0) rfl
    have x1 := HX7.out.cell (i := 1) rfl
    have x2 := HX7.out.cell (i := 2) rfl
    have x3 := HX7.out.cell (i := 3) rfl
    have y2 := HF7.out.cell (i := 2) rfl
    obtain ⟨W8, hW8, hO8, hb8, hlt8, E8⟩ := new_own W7 65 oneV
    obtain ⟨W9, hW9, hO9, hb9, hlt9, E9⟩ := new_own W8 59 (setV W7.heap.size)
    simp only [oneV] at hW8
    simp only [setV] at hW9
    have HW8 := Lib.hid hW8
    have HW9 := Lib.hid hW9
    clear hW8 hW9
    go_upto_region 13 with (fail)
    rw [← HW8.out]
    have hb79 := hb8.trans (hb9.mono (by omega))
    rw [E8.out] at hO9
    rw [← HW9.out]
    have HX9 := Lib.hid (HX7.out.below hb79 (Nat.le_refl _))
    have HF9 := Lib.hid (HF7.out.below hb79 (Nat.le_refl _))
    have HO9a := Lib.hid (hO8.below hb9 (Nat.le_refl _))
    have HO9 := Lib.hid hO9
    have HB9 := Lib.hid (HB7.out.trans (hb79.mono (Nat.le_trans hs6 hs7)))
    have hs9 : W7.heap.size < W9.heap.size := by omega
    clear x0 x1 x2 x3 y2 hb8 hb9 hb79 hO8 hO9 HW8 HW9 HX7 HF7
    have x0 := HX9.out.cell (i := 0) rfl
    have x1 := HX9.out.cell (i := 1) rfl
    have x2 := HX9.out.cell (i := 2) rfl
    have x3 := HX9.out.cell (i := 3) rfl
    have y0 := HF9.out.cell (i := 0) rfl
    have y1 := HF9.out.cell (i := 1) rfl
    have y2 := HF9.out.cell (i := 2) rfl
    have y3 := HF9.out.cell (i := 3) rfl
    obtain ⟨W10, hW10, hO10, hb10, hlt10, E10⟩ := new_own W9 65 (oneV ++ freeV)
    obtain ⟨W11, hW11, hO11, hb11, hlt11, E11⟩ := new_own W10 59 (readV W9.heap.size)
    simp only [oneV, freeV, List.cons_append, List.nil_append] at hW10
    simp only [readV] at hW11
    have HW10 := Lib.hid hW10
    have HW11 := Lib.hid hW11
    clear hW10 hW11
    go_upto_region 14 with (fail)
    rw [← HW10.out]
    have hb911 := hb10.trans (hb11.mono (by omega))
    rw [E10.out] at hO11
    rw [← HW11.out]
    have HO11a := Lib.hid (HO9a.out.below hb911 (Nat.le_refl _))
    have HO11 := Lib.hid (HO9.out.below hb911 (Nat.le_refl _))
    have HQ11a := Lib.hid (hO10.below hb11 (Nat.le_refl _))
    have HQ11 := Lib.hid hO11
    have HB11 := Lib.hid (HB9.out.trans (hb911.mono (by omega)))
    have hs11 : W9.heap.size < W11.heap.size := by omega
    clear x0 x1 x2 x3 y0 y1 y2 y3 hb10 hb11 hb911 hO10 hO11 HW10 HW11 HX9 HF9 HO9 HO9a
    obtain ⟨csl, hSl, hol, hXl⟩ := HL.out
    have HSl := Lib.hid hSl
    have Hol := Lib.hid hol
    have HXl := Lib.hid hXl
    have HRow : Hid (∀ (W : World) (vs : List Value), vs.length = 6 → w.heap.size ≤ W.heap.size → Below w.heap.size w W → (W.alloc (.cells vs.toArray 59)).ownsRow W.heap.size 59 6 (.slice (some ⟨W.heap.size, 0, none⟩) 1 1) 1 vs ∧ Sl (W.alloc (.cells vs.toArray 59)) 6 l.length csl (.slice a l.length cap) ∧ csl.all (fun u => u.oneCell') = true ∧ W.heap.size ≤ (W.alloc (.cells vs.toArray 59)).heap.size) := Lib.hid (fun W vs hvs hW hb => ⟨own_row W _ 6 vs (by omega), Sl.low HSl.out Hol.out (hb.alloc hW _), sts_ones HXl.out, by simp⟩)
    clear hSl hol hXl
    have x0 := HO11.out.cell (i := 0) rfl
    have x1 := HO11.out.cell (i := 1) rfl
    have x2 := HO11.out.cell (i := 2) rfl
    have x3 := HO11.out.cell (i := 3) rfl
    have x4 := HO11.out.cell (i := 4) rfl
    have x5 := HO11.out.cell (i := 5) rfl
    have hr12 := HRow.out W11 (setV W7.heap.size) rfl (by omega) HB11.out
    have HR12 := Lib.hid hr12
    clear hr12
    go_wp2_with (at_builtin; refine wpList_append_src rfl (.tmp 58) (.tmp 59) 22 rfl HR12.out.1 info_stmt Try.underlying22 rfl (by decide) rfl HR12.out.2.1 rfl HR12.out.2.2.1 (by unfold maxLen; omega) (by omega) HR12.out.2.2.2 ?_; intro v13 w13 hown13 hg13 hb13 hat13; obtain ⟨a13, cap13, rfl, hc131, hc132⟩ := Sl.form (Sl.of_own hown13))
    have b1113 : Below W11.heap.size W11 w13 := Below.trans ((Below.refl W11.heap.size W11).alloc (Nat.le_refl _) _) hb13
    have hwl11 : w.heap.size ≤ W11.heap.size := HB11.out.size
    have HB13 : Hid (Below w.heap.size w w13) := Lib.hid (HB11.out.trans (b1113.mono hwl11))
    have hX13 : StsC w13 (fun g => g < w13.heap.size) (setS :: l) (setV W7.heap.size ++ csl) := StsC.join (set_c (HO11a.out.below b1113 (Nat.le_refl _)) (by have := b1113.size; omega)) ((StsC.low HXl.out HB13.out).weak fun g hg _ => hg)
    have hc13 := comp7_any (setS :: l) (.slice a13 (1 + l.length) cap13) w13 w13.heap.size (okSs_set Hok.out) (by have := Hsz.out; simp only [setS, oneE, szSs, szS, szEs, szE, List.length_nil]; rw [show freeN.length = 23 from rfl]; omega) (ss_low (by rw [len_cons' setS l]; exact hown13) hX13) (Nat.le_refl _)
    rw [Hset.out] at hc13
    have HQ13 := Lib.hid (HQ11.out.below b1113 (Nat.le_refl _))
    have HQ13a := Lib.hid (HQ11a.out.below b1113 (Nat.le_refl _))
    have h1113 := b1113.size
    clear x0 x1 x2 x3 x4 x5 hown13 hg13 hb13 hat13 b1113 hX13 HO11 HO11a HQ11 HQ11a HR12
    refine hc13.mono ?_
    rintro e14 w14 ⟨⟨⟨s14, t14, rfl, -⟩, -⟩, hb14⟩
    have HB14 := Lib.hid (HB13.out.trans (hb14.mono HB13.out.size))
    obtain ⟨W15, hW15, hb15, hlt15⟩ := new_box w14 (resP (CR.err 131)) s14 t14
    have HW15 := Lib.hid hW15
    have HB15 := Lib.hid (HB14.out.trans (hb15.mono HB14.out.size))
    have b1315 : Below w13.heap.size w13 W15 := hb14.trans (hb15.mono hb14.size)
    have HQ15 := Lib.hid (HQ13.out.below b1315 (Nat.le_refl _))
    have HQ15a := Lib.hid (HQ13a.out.below b1315 (Nat.le_refl _))
    have h1315 := b1315.size
    clear hW15 hb14 hb15 b1315 hc13 HQ13 HQ13a
    unfold progV
    rw [show resK (CR.err 131) = 131 from rfl]
    go_upto_region 15 with (fail)
    rw [← HW15.out]
    clear HW15
    have x0 := HQ15.out.cell (i := 0) rfl
    have x1 := HQ15.out.cell (i := 1) rfl
    have x2 := HQ15.out.cell (i := 2) rfl
    have x3 := HQ15.out.cell (i := 3) rfl
    have x4 := HQ15.out.cell (i := 4) rfl
    have x5 := HQ15.out.cell (i := 5) rfl
    have hr16 := HRow.out W15 (readV W9.heap.size) rfl (by omega) HB15.out
    have HR16 := Lib.hid hr16
    clear hr16
    go_wp2_with (at_builtin; refine wpList_append_src rfl (.tmp 66) (.tmp 67) 22 rfl HR16.out.1 info_stmt Try.underlying22 rfl (by decide) rfl HR16.out.2.1 rfl HR16.out.2.2.1 (by unfold maxLen; omega) (by omega) HR16.out.2.2.2 ?_; intro v17 w17 hown17 hg17 hb17 hat17; obtain ⟨a17, cap17, rfl, hc171, hc172⟩ := Sl.form (Sl.of_own hown17))
    have b1517 : Below W15.heap.size W15 w17 := Below.trans ((Below.refl W15.heap.size W15).alloc (Nat.le_refl _) _) hb17
    have hwl15 : w.heap.size ≤ W15.heap.size := HB15.out.size
    have HB17 : Hid (Below w.heap.size w w17) := Lib.hid (HB15.out.trans (b1517.mono hwl15))
    have hX17 : StsC w17 (fun g => g < w17.heap.size) (readS :: l) (readV W9.heap.size ++ csl) := StsC.join (read_c (HQ15a.out.below b1517 (Nat.le_refl _)) (by have := b1517.size; omega)) ((StsC.low HXl.out HB17.out).weak fun g hg _ => hg)
    have hc17 := comp7_any (readS :: l) (.slice a17 (1 + l.length) cap17) w17 w17.heap.size (okSs_read Hok.out) (by have := Hsz.out; simp only [readS, oneE, szSs, szS, szEs, szE, List.length_nil]; rw [show freeN.length = 23 from rfl]; omega) (ss_low (by rw [len_cons' readS l]; exact hown17) hX17) (Nat.le_refl _)
    rw [Hread.out] at hc17
    have h1517 := b1517.size
    clear x0 x1 x2 x3 x4 x5 hown17 hg17 hb17 hat17 b1517 hX17 HQ15 HQ15a HR16 HRow
    refine hc17.mono ?_
    rintro e18 w18 ⟨⟨⟨s18, t18, rfl, -⟩, -⟩, hb18⟩
    have HB18 := Lib.hid (HB17.out.trans (hb18.mono HB17.out.size))
    obtain ⟨W19, hW19, hb19, hlt19⟩ := new_box w18 (resP (CR.err 131)) s18 t18
    have HW19 := Lib.hid hW19
    have HB19 := Lib.hid (HB18.out.trans (hb19.mono HB18.out.size))
    clear hW19 hb18 hb19 hc17
    unfold progV
    rw [show resK (CR.err 131) = 131 from rfl]
    go_upto_region 16 with (fail)
    rw [← HW19.out]
    clear HW19
    go_wp2_with fail
    go_loopw [2, 16, 17, 18, 19, 78, 79, 80, 81, 82, 83, 84, 85, 86, 87, 88, 89, 90, 91, 92, 93, 94, 95, 96, 97, 98, 99, 100, 101, 102, 103, 104, 105, 106, 107, 108, 109, 110, 111, 112, 113, 114, 115, 116] (fun _ t16 _ _ _ _ _ _ _ _ _ _ _ _ _ _ _ _ _ _ _ _ _ _ _ _ _ _ _ _ _ _ _ _ _ _ _ _ _ _ _ _ _ _ wr => ∃ k : Nat, k ≤ l.length ∧ t16 = .int .i64 k ∧ Hid (Below w.heap.size w wr)) (fun _ t16 _ _ _ _ _ _ _ _ _ _ _ _ _ _ _ _ _ _ _ _ _ _ _ _ _ _ _ _ _ _ _ _ _ _ _ _ _ _ _ _ _ _ _ => l.length - (intOf t16).toNat)
    case atStart => exact ⟨0, by omega, by first | rfl | go_num, HB19⟩
    case round =>
      obtain ⟨k, hkk, rfl, HBr⟩ := hrel
      have hsr := HBr.out.size
      by_cases hkl : k < l.length
      · have hki : (k : Int) < (l.length : Int) := by omega
        obtain ⟨b, off, op, n, name, es, body, els, ae, ce, ab, cb, al, cl, rfl, hbB, hbw, hat, d0, d1, d2, d3, d4, d5, hE, hBd, hEl⟩ := HL.out.at hkl
        have c0 := Below.keep HBr.out d0
        have c1 := Below.keep HBr.out d1
        have c2 := Below.keep HBr.out d2
        have c3 := Below.keep HBr.out d3
        have c4 := Below.keep HBr.out d4
        have c5 := Below.keep HBr.out d5
        have Hd := Lib.hid (And.intro d0 (And.intro d1 (And.intro d2 (And.intro d3 (And.intro d4 d5)))))
        have HE := Lib.hid hE
        have HBd := Lib.hid hBd
        have HEl := Lib.hid hEl
        have Hat := Lib.hid hat
        clear d0 d1 d2 d3 d4 d5 hE hBd hEl hat
        by_cases hop : op = 1
        case neg =>
          have hopb : (op != 1) = true := by simp [hop]
          go_wp2_with fail
          go_roundw
          case rel =>
            first
              | exact ⟨k + 1, by omega, by go_num, HBr⟩
              | exact ⟨k + 1, by omega, by omega, HBr⟩
          case measure => simp [intOf]; omega
        case pos =>
          subst hop
          go_upto_region 22 with (fail)
          go_cut [17] (fun s17 wx => ∃ (a17 : Option Addr) (c17 : Nat), s17 = .slice a17 (l.length + 1) c17 ∧ SsL wx wx.heap.size (l.take (k + 1) ++ [.mk 1 n name es body els] ++ l.drop (k + 1)) (.slice a17 (l.length + 1) c17) ∧ Below w.heap.size w wx)
          case first =>
            have hq0 : (0 : Int) ≤ (k : Int) + 1 := by omega
            have hq1 : (k : Int) + 1 ≤ (cap : Int) := by omega
            have hq2 : (k : Int) + 1 ≤ (l.length : Int) := by omega
            have hq3 : ((k : Int) + 1).toNat = k + 1 := by omega
            have hq4 : k + 1 ≤ cap := by omega
            have hq5 : k + 1 ≤ l.length := by omega
            have hq6 : (l.length : Int) ≤ (cap : Int) := by omega
            have hcz : ¬ cap = 0 := by omega
            have hwk : IntKind.i64.wrap ((k : Int) + 1) = (k : Int) + 1 := IntWalk.i64_in _ (by omega)
            have HCpk : Hid (∀ W, Below w.heap.size w W → Calls Try.prog 32 #[.slice (some ⟨b, off, none⟩) (k + 1) cap] W fun e w' => ∃ r cs, e = .returned r ∧ w'.ownsRow W.heap.size 59 6 r (k + 1) cs ∧ StsC w' (fun g => r.ownBlock ≠ some g) (l.take (k + 1)) cs ∧ Below W.heap.size W w' ∧ Below w.heap.size w w' ∧ w.heap.size ≤ W.heap.size) := Lib.hid (fun W hb => by
              have hlk : (l.take (k + 1)).length = k + 1 := by rw [List.length_take]; omega
              have hsk : szSs (l.take (k + 1)) ≤ szSs l := by have := szSs_app (l.take (k + 1)) (l.drop (k + 1)); rw [List.take_append_drop] at this; omega
              have hLk : SsL W w.heap.size (l.take (k + 1)) (.slice (some ⟨b, off, none⟩) (k + 1) cap) := ⟨csl.take ((k + 1) * 6), by rw [hlk]; exact Sl.low (Sl.take HSl.out hq5) (.inr fun g hg => by cases hg; exact hbB) hb, .inr fun g hg => by cases hg; exact hbB, (StsC.low HXl.out hb).split (k + 1) |>.1⟩
              refine (copySs_any (szSs l + 1) (l.take (k + 1)) _ W w.heap.size (by omega) (by have := Hsz.out; omega) hLk hb.size).mono ?_
              rintro e w' ⟨⟨r, cs, rfl, h1, h2⟩, h3⟩
              rw [hlk] at h1
              exact ⟨r, cs, rfl, h1, h2.weak fun _ _ hp => hp.2, h3, hb.trans (h3.mono hb.size), hb.size⟩)
            by_cases hce : cap = k + 1
            · subst hce
              have hl1 : l.length = k + 1 := by omega
              have hsub : l.length - (k + 1) = 0 := by omega
              have hdn : l.drop (k + 1) = [] := List.drop_eq_nil_of_le (by omega)
              have Hdn := Lib.hid hdn
              have Hl1 := Lib.hid hl1
              have HDr : Hid (∀ W, Below w.heap.size w W → Sl W 6 0 [] (.slice (some ⟨b, off, none⟩) 0 0)) := Lib.hid (fun W hb => ⟨some ⟨b, off, none⟩, 0, rfl, by omega, by omega, rfl, by omega⟩)
              have HDa : Hid (([] : List Value).all (fun u => u.oneCell') = true) := Lib.hid rfl
              clear hl1 hdn
              go_region_held3 (fun w' => w'.cell? ⟨b, off + k * 6, none⟩ = some (.int .u8 1) ∧ w'.cell? ⟨b, off + k * 6 + 1, none⟩ = some (.int .i64 n) ∧ w'.cell? ⟨b, off + k * 6 + 2, none⟩ = some (.string (bstr name)) ∧ w'.cell? ⟨b, off + k * 6 + 3, none⟩ = some (.slice ae es.length ce) ∧ w'.cell? ⟨b, off + k * 6 + 4, none⟩ = some (.slice ab body.length cb) ∧ w'.cell? ⟨b, off + k * 6 + 5, none⟩ = some (.slice al els.length cl)) (go_keep) (first | (go_at_call 32; refine (HCpk.out _ (by first | exact HBr.out.drew | exact (HBr.out.alloc hsr _).drew | exact HBr.out.drew.alloc hsr _)).mono ?_; rintro e7 w7 ⟨r7, cs7, rfl, hown7, hX7, hb7, B7, hWs⟩; obtain ⟨a7, c7, rfl, _, _⟩ := Sl.form (Sl.of_own hown7); have y0 := Below.keep B7 Hd.out.1; have y1 := Below.keep B7 Hd.out.2.1; have y2 := Below.keep B7 Hd.out.2.2.1; have y3 := Below.keep B7 Hd.out.2.2.2.1; have y4 := Below.keep B7 Hd.out.2.2.2.2.1; have y5 := Below.keep B7 Hd.out.2.2.2.2.2) | (refine step_append_src rfl (.tmp 94) (.tmp 99) 22 rfl (own_below hown7 (by first | exact Below.refl _ _ | exact (Below.refl w7.heap.size w7).alloc (Nat.le_refl _) _ | exact ((Below.refl w7.heap.size w7).alloc (Nat.le_refl _) _).drew | exact ((Below.refl w7.heap.size w7).drew).alloc (Nat.le_refl _) _) (Nat.le_refl _)) info_stmt Try.underlying22 rfl (by decide) rfl (sl_block (by first | exact OwnV.new w7 59 [.int .u8 1, .int .i64 n, .string (bstr name), .slice ae es.length ce, .slice ab body.length cb, .slice al els.length cl] | exact (OwnV.new w7 59 [.int .u8 1, .int .i64 n, .string (bstr name), .slice ae es.length ce, .slice ab body.length cb, .slice al els.length cl]).drew | exact OwnV.new w7.drew 59 [.int .u8 1, .int .i64 n, .string (bstr name), .slice ae es.length ce, .slice ab body.length cb, .slice al els.length cl] | exact ((OwnV.new wr 59 [.int .u8 1, .int .i64 n, .string (bstr name), .slice ae es.length ce, .slice ab body.length cb, .slice al els.length cl]).drew).below hb7 (Nat.le_refl _) | exact (OwnV.new wr.drew 59 [.int .u8 1, .int .i64 n, .string (bstr name), .slice ae es.length ce, .slice ab body.length cb, .slice al els.length cl]).below hb7 (Nat.le_refl _)) rfl (Nat.le_refl _) (by omega)) rfl rfl (by unfold maxLen; omega) (by omega) (by have := hb7.size; simp at this ⊢; omega) ?_; intro v8 w8 hown8 hg8 hb8 hat8; obtain ⟨a8, c8, rfl, _, _⟩ := Sl.form (Sl.of_own hown8); have B8 : Below w.heap.size w w8 := (by first | exact B7.trans (hb8.mono hWs) | exact (B7.alloc B7.size _).trans (hb8.mono hWs) | exact ((B7.alloc B7.size _).drew).trans (hb8.mono hWs) | exact ((B7.drew).alloc B7.size _).trans (hb8.mono hWs)); have z0 := Below.keep B8 Hd.out.1; have z1 := Below.keep B8 Hd.out.2.1; have z2 := Below.keep B8 Hd.out.2.2.1; have z3 := Below.keep B8 Hd.out.2.2.2.1; have z4 := Below.keep B8 Hd.out.2.2.2.2.1; have z5 := Below.keep B8 Hd.out.2.2.2.2.2) | (refine step_append_src rfl (.tmp 100) (.tmp 104) 22 rfl hown8 info_stmt Try.underlying22 rfl (by decide) rfl (HDr.out _ B8) rfl HDa.out (by unfold maxLen; omega) (by omega) (by first | exact Nat.le_trans hown8base (Nat.le_refl _) | (have := hb8.size; have := hb7.size; simp at *; omega)) ?_; intro v9 w9 hown9 hg9 hb9 hat9; obtain ⟨a9, c9, rfl, _, _⟩ := Sl.form (Sl.of_own hown9); have B9 : Below w.heap.size w w9 := B8.trans (hb9.mono hWs); have T9 := twice_tree (hX7.under (by first | exact Below.refl _ _ | exact (Below.refl w7.heap.size w7).alloc (Nat.le_refl _) _ | exact ((Below.refl w7.heap.size w7).alloc (Nat.le_refl _) _).drew | exact ((Below.refl w7.heap.size w7).drew).alloc (Nat.le_refl _) _) (Nat.le_refl _)) hg8 hat8 hg9; have q0 := Below.keep B9 Hd.out.1; have q1 := Below.keep B9 Hd.out.2.1; have q2 := Below.keep B9 Hd.out.2.2.1; have q3 := Below.keep B9 Hd.out.2.2.2.1; have q4 := Below.keep B9 Hd.out.2.2.2.2.1; have q5 := Below.keep B9 Hd.out.2.2.2.2.2))
              all_goals
                have hnn : k + 1 + 1 = l.length + 1 := by have := Hl1.out; omega
                have hl1 := Hl1.out
                have hlt3 : (l.take (k + 1) ++ [St.mk 1 n name es body els] ++ l.drop (k + 1)).length = l.length + 1 := by rw [List.length_append, List.length_append, List.length_take, List.length_drop, List.length_singleton]; omega
                rw [hnn] at hown9 ⊢
                have hf : SsL w9 w9.heap.size (l.take (k + 1) ++ [.mk 1 n name es body els] ++ l.drop (k + 1)) (.slice a9 (l.length + 1) c9) := ⟨_, by rw [hlt3]; exact Sl.of_own hown9, .inr fun g hg => (hown9.lt g hg).2, StsC.join (StsC.join T9 ((sts_mkL (HE.out.low B9) (HBd.out.low B9) (HEl.out.low B9)).weak fun g hg _ => by have := B9.size; omega)) (by rw [Hdn.out]; exact .nil)⟩
                go_wp2_with fail
                go_meet
                exact ⟨a9, c9, rfl, hf, B9⟩
            · have HDr : Hid (∀ W, Below w.heap.size w W → Sl W 6 (l.length - (k + 1)) (csl.drop ((k + 1) * 6)) (.slice (some ⟨b, off + (k + 1) * 6, none⟩) (l.length - (k + 1)) (cap - (k + 1)))) := Lib.hid (fun W hb => Sl.low (Sl.drop HSl.out hq5 (by omega)) (.inr fun g hg => by cases hg; exact hbB) hb)
              have HDa : Hid ((csl.drop ((k + 1) * 6)).all (fun u => u.oneCell') = true) := Lib.hid (sts_ones ((HXl.out.split (k + 1)).2))
              go_region_held3 (fun w' => w'.cell? ⟨b, off + k * 6, none⟩ = some (.int .u8 1) ∧ w'.cell? ⟨b, off + k * 6 + 1, none⟩ = some (.int .i64 n) ∧ w'.cell? ⟨b, off + k * 6 + 2, none⟩ = some (.string (bstr name)) ∧ w'.cell? ⟨b, off + k * 6 + 3, none⟩ = some (.slice ae es.length ce) ∧ w'.cell? ⟨b, off + k * 6 + 4, none⟩ = some (.slice ab body.length cb) ∧ w'.cell? ⟨b, off + k * 6 + 5, none⟩ = some (.slice al els.length cl)) (go_keep) (first | (go_at_call 32; refine (HCpk.out _ (by first | exact HBr.out.drew | exact (HBr.out.alloc hsr _).drew | exact HBr.out.drew.alloc hsr _)).mono ?_; rintro e7 w7 ⟨r7, cs7, rfl, hown7, hX7, hb7, B7, hWs⟩; obtain ⟨a7, c7, rfl, _, _⟩ := Sl.form (Sl.of_own hown7); have y0 := Below.keep B7 Hd.out.1; have y1 := Below.keep B7 Hd.out.2.1; have y2 := Below.keep B7 Hd.out.2.2.1; have y3 := Below.keep B7 Hd.out.2.2.2.1; have y4 := Below.keep B7 Hd.out.2.2.2.2.1; have y5 := Below.keep B7 Hd.out.2.2.2.2.2) | (refine step_append_src rfl (.tmp 94) (.tmp 99) 22 rfl (own_below hown7 (by first | exact Below.refl _ _ | exact (Below.refl w7.heap.size w7).alloc (Nat.le_refl _) _ | exact ((Below.refl w7.heap.size w7).alloc (Nat.le_refl _) _).drew | exact ((Below.refl w7.heap.size w7).drew).alloc (Nat.le_refl _) _) (Nat.le_refl _)) info_stmt Try.underlying22 rfl (by decide) rfl (sl_block (by first | exact OwnV.new w7 59 [.int .u8 1, .int .i64 n, .string (bstr name), .slice ae es.length ce, .slice ab body.length cb, .slice al els.length cl] | exact (OwnV.new w7 59 [.int .u8 1, .int .i64 n, .string (bstr name), .slice ae es.length ce, .slice ab body.length cb, .slice al els.length cl]).drew | exact OwnV.new w7.drew 59 [.int .u8 1, .int .i64 n, .string (bstr name), .slice ae es.length ce, .slice ab body.length cb, .slice al els.length cl] | exact ((OwnV.new wr 59 [.int .u8 1, .int .i64 n, .string (bstr name), .slice ae es.length ce, .slice ab body.length cb, .slice al els.length cl]).drew).below hb7 (Nat.le_refl _) | exact (OwnV.new wr.drew 59 [.int .u8 1, .int .i64 n, .string (bstr name), .slice ae es.length ce, .slice ab body.length cb, .slice al els.length cl]).below hb7 (Nat.le_refl _)) rfl (Nat.le_refl _) (by omega)) rfl rfl (by unfold maxLen; omega) (by omega) (by have := hb7.size; simp at this ⊢; omega) ?_; intro v8 w8 hown8 hg8 hb8 hat8; obtain ⟨a8, c8, rfl, _, _⟩ := Sl.form (Sl.of_own hown8); have B8 : Below w.heap.size w w8 := (by first | exact B7.trans (hb8.mono hWs) | exact (B7.alloc B7.size _).trans (hb8.mono hWs) | exact ((B7.alloc B7.size _).drew).trans (hb8.mono hWs) | exact ((B7.drew).alloc B7.size _).trans (hb8.mono hWs)); have z0 := Below.keep B8 Hd.out.1; have z1 := Below.keep B8 Hd.out.2.1; have z2 := Below.keep B8 Hd.out.2.2.1; have z3 := Below.keep B8 Hd.out.2.2.2.1; have z4 := Below.keep B8 Hd.out.2.2.2.2.1; have z5 := Below.keep B8 Hd.out.2.2.2.2.2) | (refine step_append_src rfl (.tmp 100) (.tmp 104) 22 rfl hown8 info_stmt Try.underlying22 rfl (by decide) rfl (HDr.out _ B8) rfl HDa.out (by unfold maxLen; omega) (by omega) (by first | exact Nat.le_trans hown8base (Nat.le_refl _) | (have := hb8.size; have := hb7.size; simp at *; omega)) ?_; intro v9 w9 hown9 hg9 hb9 hat9; obtain ⟨a9, c9, rfl, _, _⟩ := Sl.form (Sl.of_own hown9); have B9 : Below w.heap.size w w9 := B8.trans (hb9.mono hWs); have T9 := twice_tree (hX7.under (by first | exact Below.refl _ _ | exact (Below.refl w7.heap.size w7).alloc (Nat.le_refl _) _ | exact ((Below.refl w7.heap.size w7).alloc (Nat.le_refl _) _).drew | exact ((Below.refl w7.heap.size w7).drew).alloc (Nat.le_refl _) _) (Nat.le_refl _)) hg8 hat8 hg9; have q0 := Below.keep B9 Hd.out.1; have q1 := Below.keep B9 Hd.out.2.1; have q2 := Below.keep B9 Hd.out.2.2.1; have q3 := Below.keep B9 Hd.out.2.2.2.1; have q4 := Below.keep B9 Hd.out.2.2.2.2.1; have q5 := Below.keep B9 Hd.out.2.2.2.2.2))
              all_goals
                have hnn : k + 1 + 1 + (l.length - (k + 1)) = l.length + 1 := by omega
                have hlt3 : (l.take (k + 1) ++ [St.mk 1 n name es body els] ++ l.drop (k + 1)).length = l.length + 1 := by rw [List.length_append, List.length_append, List.length_take, List.length_drop, List.length_singleton]; omega
                rw [hnn] at hown9 ⊢
                have hf : SsL w9 w9.heap.size (l.take (k + 1) ++ [.mk 1 n name es body els] ++ l.drop (k + 1)) (.slice a9 (l.length + 1) c9) := ⟨_, by rw [hlt3]; exact Sl.of_own hown9, .inr fun g hg => (hown9.lt g hg).2, StsC.join (StsC.join T9 ((sts_mkL (HE.out.low B9) (HBd.out.low B9) (HEl.out.low B9)).weak fun g hg _ => by have := B9.size; omega)) ((StsC.low (HXl.out.split (k + 1)).2 B9).weak fun g hg _ => hg)⟩
                go_wp2_with fail
                go_meet
                exact ⟨a9, c9, rfl, hf, B9⟩
          case rest =>
            obtain ⟨a17, c17, rfl, hss, hbx⟩ := hcut
            have Htw := comp_twice Hp.out Hat.out
            have hzz : szSs (l.take (k + 1) ++ [.mk 1 n name es body els] ++ l.drop (k + 1)) ≤ 100000 := by
              have h1 := szSs_app (l.take (k + 1) ++ [.mk 1 n name es body els]) (l.drop (k + 1))
              have h2 := szSs_app (l.take (k + 1)) [.mk 1 n name es body els]
              have h3 := szSs_app (l.take (k + 1)) (l.drop (k + 1))
              rw [List.take_append_drop] at h3
              have h4 := szSs_le Hat.out
              have h5 : szSs [.mk 1 n name es body els] = szS (.mk 1 n name es body els) := by rw [szSs, szSs]; omega
              have := Hsz.out
              omega
            have hc := comp7_any _ _ wc wc.heap.size (okSs_twice Hok.out Hat.out) hzz hss (Nat.le_refl _)
            have HBx := Lib.hid hbx
            clear hss hbx hzz
            rcases Htw with ht | ht
            all_goals
              rw [ht] at hc
              clear ht
              go_wp2_with fail
              refine hc.mono ?_
              rintro e23 w23 ⟨⟨⟨s23, t23, rfl, -⟩, -⟩, hb23⟩
              have HB23 := Lib.hid (HBx.out.trans (hb23.mono HBx.out.size))
              clear hb23
              unfold progV
              first
                | rw [show resK (CR.err 132) = 132 from rfl]
                | rw [show resK (CR.err 131) = 131 from rfl]
              go_wp2_with fail
              go_ret
              exact ⟨rfl, HB23.out.alloc HB23.out.size _⟩
      · have hki : ¬ (k : Int) < (l.length : Int) := by omega
        go_wp2_with fail
        go_ret
        exact ⟨rfl, HBr.out⟩
end Go.Proofs.Ytdeneckmoejcfaa
