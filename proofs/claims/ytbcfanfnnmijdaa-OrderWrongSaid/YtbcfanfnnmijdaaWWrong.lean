/- OrderWrong, walked: for every list of numbers and each of the nine defects it answers true and writes nothing that was there. -/
import Derived.Test.YtbcfanfnnmijdaaRegion5
import Derived.Test.YtbcfanfnnmijdaaWChains
import Derived.Deep.DeepCutAuto
import Derived.Deep.CutBlock
namespace Go.Proofs.Ytbcfanfnnmijdaa
open Go.RowKit

/-- what stands behind the defect: a list of systems, one more that lies at block g, and both together are no valid list -/
def WrongAt (w wx : World) (s5 s6 : Value) : Prop :=
  ∃ (t : List Sys) (bad : Sys) (g : Nat), s6 = .pointer (some ⟨g, 0, none⟩) ∧ Syss wx t s5 ∧ OwnV wx g 35 bad.cells ∧ t.length ≤ 17 ∧ (∀ x ∈ t, x.ok) ∧ bad.ok ∧ validS (t ++ [bad]) = false ∧ Below w.heap.size w wx
theorem invalid_bad {t : List Sys} {bad : Sys} (h : okS bad = false) : validS (t ++ [bad]) = false := by
  unfold validS
  simp [h]
theorem invalid_twice {t : List Sys} {bad : Sys} : validS (t ++ [bad] ++ [bad]) = false := by
  unfold validS
  have : ¬ ((t ++ [bad] ++ [bad]).map nm).Nodup := by
    rw [List.map_append, List.nodup_append]
    rintro ⟨_, _, h⟩
    exact h (nm bad) (by simp) (nm bad) (by simp) rfl
  simp only [this, decide_false, Bool.and_false]
theorem invalid_long {t : List Sys} {bad : Sys} (h : t.length = 16) : validS (t ++ [bad]) = false := by
  unfold validS
  simp [h]
theorem own_drew5 {w : World} {base : Nat} {e : TypeId} {sz : Nat} {v : Value} {n : Nat} {xs : List Value} (h : w.ownsRow base e sz v n xs) : w.drew.ownsRow base e sz v n xs := h
theorem OwnV.drew {w : World} {g : Nat} {e : TypeId} {vs : List Value} (h : OwnV w g e vs) : OwnV w.drew g e vs := h
theorem sys_one (t : List Sys) : (t.flatMap Sys.cells).all (fun u => u.oneCell') = true := by
  rw [List.all_eq_true]
  intro u hu
  obtain ⟨s, _, hs⟩ := List.mem_flatMap.1 hu
  simp only [Sys.cells, List.mem_cons, List.not_mem_nil, or_false] at hs
  rcases hs with rfl | rfl | rfl | rfl <;> rfl
theorem bad_one (b : Sys) : b.cells.all (fun u => u.oneCell') = true := rfl
theorem own_take {w : World} {base : Nat} {e : TypeId} {sz : Nat} {a : Option Addr} {m cap n : Nat} {xs : List Value} (h : w.ownsRow base e sz (.slice a m cap) n xs) (k : Nat) (hk : k ≤ n) : w.ownsRow base e sz (.slice a k cap) k (xs.take (k * sz)) := by
  obtain ⟨h1, h2⟩ := h
  have hkn := Nat.mul_le_mul_right sz hk
  refine ⟨by rw [List.length_take, h1, Nat.min_eq_left hkn], ?_⟩
  rcases h2 with ⟨hv, rfl⟩ | ⟨g, cap', cur, hv, hg, hh, hn, hm, hs, ht⟩
  · cases hv
    obtain rfl : k = 0 := by omega
    exact .inl ⟨rfl, by simp⟩
  · cases hv
    refine .inr ⟨g, cap, cur, rfl, hg, hh, by omega, hm, hs, ?_⟩
    rw [← ht, List.take_take, Nat.min_eq_left hkn]
def zz : Sys := ⟨⟨#[122, 122]⟩, 0#32, 0#32, 0⟩
theorem zz_ok : zz.ok := ⟨by decide +kernel, by decide, by decide⟩
theorem flat_take {α β : Type} {f : α → List β} (sz : Nat) (hf : ∀ x, (f x).length = sz) (l : List α) (k : Nat) : (l.take k).flatMap f = (l.flatMap f).take (k * sz) := by
  induction l generalizing k with
  | nil => simp
  | cons x l ih =>
    cases k with
    | zero => simp
    | succ k =>
      rw [List.take_succ_cons, List.flatMap_cons, List.flatMap_cons, ih, Nat.succ_mul, Nat.add_comm, ← hf x, List.take_length_add_append]
def vlen : Value → Nat
  | .slice _ n _ => n
  | _ => 0
theorem built_sys (l : List (BitVec 32)) (v : Value) (w : World) (hS : Words w l v) :
    Calls Try.prog 10 #[v] w fun e w' => ∃ (u : Value) (s : List Sys), e = .returned u ∧ w'.ownsRow w.heap.size 35 4 u s.length (s.flatMap Sys.cells) ∧ s.length ≤ 16 ∧ (∀ x ∈ s, x.ok) ∧ Below w.heap.size w w' :=
  (built_own l v w hS).mono fun _ _ ⟨u, h1, h2, h3⟩ => ⟨u, bl l (min l.length 16), h1, by rw [bl_len]; exact h2, by rw [bl_len]; exact Nat.min_le_right _ _, bl_ok _ _ (by omega), h3⟩
theorem wrong_bad {w w0 : World} {s : List Sys} {sa : Option Addr} {scap : Nat} (hown : w0.ownsRow w.heap.size 35 4 (.slice sa s.length scap) s.length (s.flatMap Sys.cells)) (hl : s.length ≤ 16) (hk : ∀ x ∈ s, x.ok) (hb : Below w.heap.size w w0)
    (bad : Sys) (h1 : okS bad = false) (h2 : bad.name.size ≤ 9223372036854775807 ∧ -9223372036854775808 ≤ bad.pg ∧ bad.pg ≤ 9223372036854775807) :
    WrongAt w (w0.alloc (.cells #[.string bad.name, .int .u32 (w32 bad.rd), .int .u32 (w32 bad.wr), .int .i64 bad.pg] 35)) (.slice sa s.length scap) (.pointer (some ⟨w0.heap.size, 0, none⟩)) := by
  have hS : Syss w0 s (.slice sa s.length scap) := Sl.of_own hown
  exact ⟨_, bad, _, rfl, hS.below ((Below.refl _ _).alloc (Nat.le_refl _) _) (Nat.le_refl _), OwnV.new w0 _ bad.cells, by omega, hk, h2, invalid_bad h1, hb.alloc hb.size _⟩

set_option maxRecDepth 100000 in
set_option maxHeartbeats 1000000 in
theorem orderWrong_any (l : List (BitVec 32)) (way : Int) (v : Value) (w : World) (hL : Words w l v) (ha0 : 0 ≤ way) (ha1 : way ≤ 255) :
    Calls Try.prog 9 #[v, .int .u8 way] w fun e w' => e = .returned (.bool true) ∧ Below w.heap.size w w' := by
  have HB := Lib.hid (built_sys l v w hL)
  obtain ⟨r, hr, hr0, hr1⟩ : ∃ r : Int, way % 9 = r ∧ 0 ≤ r ∧ r < 9 := ⟨_, rfl, by omega, by omega⟩
  clear hL
  go_enter Try.func9, Try.ntmps9
  go_upto_block 0 with (go_at_call 10; refine HB.out.mono ?_; rintro e w0 ⟨sv, s, rfl, hown, hs16, hsk, hb1⟩; obtain ⟨sa, scap, rfl, hsc, hsm⟩ := (Sl.of_own hown).form; have Hown := Lib.hid hown; have Hb1 := Lib.hid hb1; have Hsk := Lib.hid hsk; clear hown hb1 hsk)
  go_cut [5, 6, 21] (fun s5 s6 _ wx => WrongAt w wx s5 s6)
  case first =>
    have hr9 : r = 0 ∨ r = 1 ∨ r = 2 ∨ r = 3 ∨ r = 4 ∨ r = 5 ∨ r = 6 ∨ r = 7 ∨ r = 8 := by omega
    clear hr0 hr1
    rcases hr9 with rfl | rfl | rfl | rfl | rfl | rfl | rfl | rfl | rfl
    · go_wp2_with fail
      go_loopw [5, 24, 25, 26, 27, 28, 29, 30, 31, 32, 33, 34, 35, 36] (fun t5 _ _ _ _ _ _ _ _ _ _ _ _ _ wr => ∃ t : List Sys, t.length ≤ 16 ∧ wr.ownsRow w.heap.size 35 4 t5 t.length (t.flatMap Sys.cells) ∧ t5.ownBlock ≠ some w0.heap.size ∧ OwnV wr w0.heap.size 35 zz.cells ∧ (∀ x ∈ t, x.ok) ∧ Below w.heap.size w wr) (fun t5 _ _ _ _ _ _ _ _ _ _ _ _ _ _ => 16 - vlen t5)
      case atStart =>
        have h3 := Hown.out.alloc (.cells #[.string ⟨#[122, 122]⟩, .int .u32 0, .int .u32 0, .int .i64 0] 35)
        refine ⟨s, hs16, h3, ?_, OwnV.new w0 _ zz.cells, Hsk.out, Hb1.out.alloc Hb1.out.size _⟩
        intro e
        have := (Hown.out.lt _ e).2
        omega
      case round =>
        obtain ⟨t, ht, hown, hne, hB, hk, hb⟩ := hrel
        obtain ⟨ta, tcap, rfl, htc, htm⟩ := (Sl.of_own hown).form
        have hgl := hB.lt
        by_cases hlt : t.length < 16
        · have hconv := letter_conv wr t.length hlt
          have hown1 := own_below hown ((Below.refl _ _).alloc (Nat.le_refl wr.heap.size) (.cells #[.int .u8 (97 + (t.length : Int))] 5)) (Nat.le_refl _)
          have hb1 : Below w.heap.size w (wr.alloc (.cells #[.int .u8 (97 + (t.length : Int))] 5)) := hb.alloc hb.size _
          have hB1 := hB.alloc (.cells #[.int .u8 (97 + (t.length : Int))] 5)
          have HB1 := Lib.hid hB1
          have Hk := Lib.hid hk
          have Hne := Lib.hid hne
          clear hown hB hk hb hB1 hne
          go_wp2_with (at_builtin; refine wpList_append_at rfl _ _ 24 rfl hown1 info_sys Try.underlying24 rfl (by decide) rfl 1 1 (by show Value.slice (some ⟨wr.heap.size + 1, 0, none⟩) 1 1 = _; simp) rfl rfl (by unfold maxLen; omega) (by omega) hb1.size ?_; intro v' w' hown2 hg2 hb3 hat)
          go_roundw
          case rel =>
            refine ⟨t ++ [⟨letter t.length, 0, 0, 0⟩], by simp; omega, by rw [List.length_append, List.flatMap_append]; exact hown2, ?_, HB1.out.grown hg2 (fun e => Hne.out e.symm), ?_, hb1.trans hb3⟩
            · intro e
              rcases hat with h | ⟨g, h, hg⟩
              · rw [h] at e; exact Hne.out e
              · rw [h] at e; cases e; simp at hg; omega
            · intro x hx
              rw [List.mem_append, List.mem_singleton] at hx
              rcases hx with hx | rfl
              · exact Hk.out x hx
              · exact ⟨by show 1 ≤ _; omega, by show (-9223372036854775808 : Int) ≤ 0; omega, by show (0 : Int) ≤ _; omega⟩
          case measure =>
            obtain ⟨_, _, rfl, _, _⟩ := (Sl.of_own hown2).form
            simp [vlen]; omega
        · have e : t.length = 16 := by omega
          have hnlt : ¬ (t.length : Int) < 16 := by omega
          have hS : Syss wr t (.slice ta t.length tcap) := Sl.of_own hown
          have HS := Lib.hid hS
          have HB := Lib.hid hB
          have Hk := Lib.hid hk
          have Hb := Lib.hid hb
          have He := Lib.hid e
          clear hown hB hk hb hne hS e
          go_wp2_with fail
          go_meet
          exact ⟨t, zz, _, rfl, HS.out, HB.out, by omega, Hk.out, ⟨by decide +kernel, by decide, by decide⟩, invalid_long He.out, Hb.out⟩
    · go_wp2_with fail
      go_meet
      exact wrong_bad Hown.out hs16 Hsk.out Hb1.out ⟨⟨#[]⟩, 0#32, 0#32, 0⟩ (by decide +kernel) (by decide +kernel)
    · go_wp2_with fail
      go_meet
      exact wrong_bad Hown.out hs16 Hsk.out Hb1.out ⟨⟨#[97, 98, 99, 100, 101, 102, 103, 104, 105, 106, 107, 108, 109, 110, 111, 112, 113, 114, 115, 116, 117, 118, 119, 120, 121]⟩, 0#32, 0#32, 0⟩ (by decide +kernel) (by decide +kernel)
    · by_cases hlt : s.length ≤ 14
      · have hlt2 : ((14 : Int) < s.length) = False := eq_false (by omega)
        have hzz : OwnV (w0.alloc (.cells #[.string ⟨#[122, 122]⟩, .int .u32 0, .int .u32 0, .int .i64 0] 35)) w0.heap.size 35 zz.cells := OwnV.new w0 _ zz.cells
        have hown1 := (own_take Hown.out s.length (by omega)).alloc (.cells #[.string ⟨#[122, 122]⟩, .int .u32 0, .int .u32 0, .int .i64 0] 35)
        have hb1 := Hb1.out.alloc Hb1.out.size (.cells #[.string ⟨#[122, 122]⟩, .int .u32 0, .int .u32 0, .int .i64 0] 35)
        have hgl : w0.heap.size < (w0.alloc (.cells #[.string ⟨#[122, 122]⟩, .int .u32 0, .int .u32 0, .int .i64 0] 35)).heap.size := by simp
        have hne : ∀ g, (Value.slice sa s.length scap).ownBlock = some g → g < w0.heap.size := fun g hg => (Hown.out.lt g (by cases sa <;> exact hg)).2
        have Hne := Lib.hid hne
        have hcap : (s.length : Int) ≤ scap := by omega
        go_wp2_with fail
        generalize hw1 : w0.alloc _ = w1 at *
        have z0 := hzz.cell (i := 0) rfl
        have z1 := hzz.cell (i := 1) rfl
        have z2 := hzz.cell (i := 2) rfl
        have z3 := hzz.cell (i := 3) rfl
        have Hzz := Lib.hid hzz
        have Hown1 := Lib.hid hown1
        have Hb2 := Lib.hid hb1
        have Hgl := Lib.hid hgl
        clear hzz hown1 hb1 hw1 hne hgl
        have hO1 := (own_drew5 Hown1.out).alloc (.cells zz.cells.toArray 35)
        have HO1 := Lib.hid hO1
        have hsrc := Sl.of_block (OwnV.new w1.drew 35 zz.cells) (sz := 4) (n := 1) (cap := 1) rfl (Nat.le_refl _) (by decide)
        have Hsrc := Lib.hid hsrc
        have hB2 := (Hzz.out.drew).alloc (.cells zz.cells.toArray 35)
        have HB2 := Lib.hid hB2
        have Hb3 := Lib.hid (Hb2.out.drew.alloc Hb2.out.size (.cells zz.cells.toArray 35))
        have hb3 := Hb3.out.size
        clear hO1 hsrc hB2
        go_region_law (refine step_append_src rfl (.tmp 49) (.tmp 51) 24 rfl HO1.out info_sys Try.underlying24 rfl (by decide) (by simp [Act.eval, Act.put]) Hsrc.out (by simp [Act.eval, Act.put]) rfl (by unfold maxLen; omega) (by omega) hb3 ?_; intro v' w3 hown3 hg3 hb4 hat)
        all_goals
         go_wp2_with fail
         go_meet
         have hS : Syss w3 (s.take s.length ++ [zz]) v' := by
           have h := Sl.of_own hown3
           unfold Syss
           have e : (s.take s.length ++ [zz]).length = s.length + 1 := by simp
           rw [e, List.flatMap_append, List.flatMap_cons, List.flatMap_nil, List.append_nil, flat_take (f := Sys.cells) 4 (fun _ => rfl)]
           exact h
         exact ⟨s.take s.length ++ [zz], zz, _, rfl, hS, HB2.out.grown hg3 (fun e => by have := Hne.out _ e.symm; omega), by simp <;> omega, fun x hx => by
           rw [List.mem_append, List.mem_singleton] at hx
           rcases hx with hx | rfl
           · exact Hsk.out x (List.mem_of_mem_take hx)
           · exact zz_ok, zz_ok, invalid_twice, Hb3.out.trans hb4⟩
      · have hlt2 : (14 : Int) < s.length := by omega
        have hzz : OwnV (w0.alloc (.cells #[.string ⟨#[122, 122]⟩, .int .u32 0, .int .u32 0, .int .i64 0] 35)) w0.heap.size 35 zz.cells := OwnV.new w0 _ zz.cells
        have hown1 := (own_take Hown.out 14 (by omega)).alloc (.cells #[.string ⟨#[122, 122]⟩, .int .u32 0, .int .u32 0, .int .i64 0] 35)
        have hb1 := Hb1.out.alloc Hb1.out.size (.cells #[.string ⟨#[122, 122]⟩, .int .u32 0, .int .u32 0, .int .i64 0] 35)
        have hgl : w0.heap.size < (w0.alloc (.cells #[.string ⟨#[122, 122]⟩, .int .u32 0, .int .u32 0, .int .i64 0] 35)).heap.size := by simp
        have hne : ∀ g, (Value.slice sa 14 scap).ownBlock = some g → g < w0.heap.size := fun g hg => (Hown.out.lt g (by cases sa <;> exact hg)).2
        have Hne := Lib.hid hne
        have hcap : (14 : Int) ≤ scap := by omega
        go_wp2_with fail
        generalize hw1 : w0.alloc _ = w1 at *
        have z0 := hzz.cell (i := 0) rfl
        have z1 := hzz.cell (i := 1) rfl
        have z2 := hzz.cell (i := 2) rfl
        have z3 := hzz.cell (i := 3) rfl
        have Hzz := Lib.hid hzz
        have Hown1 := Lib.hid hown1
        have Hb2 := Lib.hid hb1
        have Hgl := Lib.hid hgl
        clear hzz hown1 hb1 hw1 hne hgl
        have hO1 := (own_drew5 Hown1.out).alloc (.cells zz.cells.toArray 35)
        have HO1 := Lib.hid hO1
        have hsrc := Sl.of_block (OwnV.new w1.drew 35 zz.cells) (sz := 4) (n := 1) (cap := 1) rfl (Nat.le_refl _) (by decide)
        have Hsrc := Lib.hid hsrc
        have hB2 := (Hzz.out.drew).alloc (.cells zz.cells.toArray 35)
        have HB2 := Lib.hid hB2
        have Hb3 := Lib.hid (Hb2.out.drew.alloc Hb2.out.size (.cells zz.cells.toArray 35))
        have hb3 := Hb3.out.size
        clear hO1 hsrc hB2
        go_region_law (refine step_append_src rfl (.tmp 49) (.tmp 51) 24 rfl HO1.out info_sys Try.underlying24 rfl (by decide) (by simp [Act.eval, Act.put]) Hsrc.out (by simp [Act.eval, Act.put]) rfl (by unfold maxLen; omega) (by omega) hb3 ?_; intro v' w3 hown3 hg3 hb4 hat)
        all_goals
         go_wp2_with fail
         go_meet
         have hS : Syss w3 (s.take 14 ++ [zz]) v' := by
           have h := Sl.of_own hown3
           unfold Syss
           have e : (s.take 14 ++ [zz]).length = 14 + 1 := by simp; omega
           rw [e, List.flatMap_append, List.flatMap_cons, List.flatMap_nil, List.append_nil, flat_take (f := Sys.cells) 4 (fun _ => rfl)]
           exact h
         exact ⟨s.take 14 ++ [zz], zz, _, rfl, hS, HB2.out.grown hg3 (fun e => by have := Hne.out _ e.symm; omega), by simp <;> omega, fun x hx => by
           rw [List.mem_append, List.mem_singleton] at hx
           rcases hx with hx | rfl
           · exact Hsk.out x (List.mem_of_mem_take hx)
           · exact zz_ok, zz_ok, invalid_twice, Hb3.out.trans hb4⟩
    · go_wp2_with fail
      go_meet
      exact wrong_bad Hown.out hs16 Hsk.out Hb1.out ⟨⟨#[122, 122]⟩, 1#32, 0#32, 0⟩ (by decide +kernel) (by decide +kernel)
    · go_wp2_with fail
      go_meet
      exact wrong_bad Hown.out hs16 Hsk.out Hb1.out ⟨⟨#[122, 122]⟩, 0#32, 2048#32, 0⟩ (by decide +kernel) (by decide +kernel)
    · go_wp2_with fail
      go_meet
      exact wrong_bad Hown.out hs16 Hsk.out Hb1.out ⟨⟨#[122, 122]⟩, 0#32, 512#32, 0⟩ (by decide +kernel) (by decide +kernel)
    · go_wp2_with fail
      go_meet
      exact wrong_bad Hown.out hs16 Hsk.out Hb1.out ⟨⟨#[122, 122]⟩, 0#32, 0#32, 16⟩ (by decide +kernel) (by decide +kernel)
    · go_wp2_with fail
      go_meet
      exact wrong_bad Hown.out hs16 Hsk.out Hb1.out ⟨⟨#[122, 122]⟩, 0#32, 0#32, -1⟩ (by decide +kernel) (by decide +kernel)
  case rest =>
    obtain ⟨t, bad, g, rfl, hT, hB, htl, htk, hbk, hinv, hb⟩ := hcut
    obtain ⟨ta, tcap, rfl, htc, htm⟩ := hT.form
    have hgl := hB.lt
    have hgn : g ≠ wc.heap.size := by omega
    have hgn1 : g ≠ wc.heap.size + 1 := by omega
    have c0 := hB.cell (i := 0) rfl
    have c1 := hB.cell (i := 1) rfl
    have c2 := hB.cell (i := 2) rfl
    have c3 := hB.cell (i := 3) rfl
    have HT := Lib.hid hT
    have Htk := Lib.hid htk
    have Hbk := Lib.hid hbk
    have Hinv := Lib.hid hinv
    have Hb := Lib.hid hb
    have Hgl := Lib.hid hgl
    clear hT hB htk hbk hinv hb
    go_upto_region 23 with fail
    go_cut [5] (fun s5 wx => ∃ t' : List Sys, Syss wx t' s5 ∧ t'.length ≤ 18 ∧ (∀ x ∈ t', x.ok) ∧ validS t' = false ∧ Below w.heap.size w wx)
    case first =>
      have HS1 : ∀ o, Sl (wc.drew.alloc o) 4 t.length (t.flatMap Sys.cells) (.slice ta t.length tcap) := fun o => Sl.below (by omega) HT.out ((Below.refl _ wc).drew.alloc (Nat.le_refl _) _) (Nat.le_refl _)
      have HS2 : ∀ o o', Sl ((wc.drew.alloc o).alloc o') 4 t.length (t.flatMap Sys.cells) (.slice ta t.length tcap) := fun o o' => Sl.below (by omega) HT.out (((Below.refl _ wc).drew.alloc (Nat.le_refl _) _).alloc (by simp) _) (Nat.le_refl _)
      have hA := World.ownsRow_lit (base := wc.heap.size) (e := 35) (size := 4) wc.drew #[] 0 (Nat.le_refl _) (by unfold maxLen; omega) rfl
      have hC := fun o => World.ownsRow_lit (base := wc.heap.size) (e := 35) (size := 4) (wc.drew.alloc o) #[] 0 (by simp) (by unfold maxLen; omega) rfl
      have HK : Hid (∀ w6, Below wc.heap.size wc w6 → w6.cell? ⟨g, 0, none⟩ = some (.string bad.name) ∧ w6.cell? ⟨g, 1, none⟩ = some (.int .u32 (w32 bad.rd)) ∧ w6.cell? ⟨g, 2, none⟩ = some (.int .u32 (w32 bad.wr)) ∧ w6.cell? ⟨g, 3, none⟩ = some (.int .i64 bad.pg)) := Lib.hid fun w6 h => ⟨Below.keep h c0, Below.keep h c1, Below.keep h c2, Below.keep h c3⟩
      have HA := Lib.hid hA
      have HC := Lib.hid hC
      have H1 := Lib.hid HS1
      have H2 := Lib.hid HS2
      clear hA hC HS1 HS2
      go_region_law (first | (refine step_append_src rfl (.tmp 68) (.tmp 69) 24 rfl HA.out info_sys Try.underlying24 rfl (by decide) (by simp [Act.eval]) (H1.out _) (by simp [Act.eval]) (sys_one _) (by unfold maxLen; omega) (by omega) (by simp) ?_; intro v6 w6 hown6 hg6 hb6 hat6; obtain ⟨k0, k1, k2, k3⟩ := HK.out _ (((Below.refl _ wc).drew.alloc (Nat.le_refl _) _).trans hb6)) | (refine step_append_src rfl (.tmp 68) (.tmp 69) 24 rfl (HA.out.alloc _) info_sys Try.underlying24 rfl (by decide) (by simp [Act.eval]) (H2.out _ _) (by simp [Act.eval]) (sys_one _) (by unfold maxLen; omega) (by omega) (by simp; omega) ?_; intro v6 w6 hown6 hg6 hb6 hat6; obtain ⟨k0, k1, k2, k3⟩ := HK.out _ ((((Below.refl _ wc).drew.alloc (Nat.le_refl _) _).alloc (by simp) _).trans hb6); have hz6 := Sl.of_block ((OwnV.new (wc.drew.alloc _) 35 bad.cells).grown hg6 (by simp [Value.ownBlock])) (sz := 4) (n := 1) (cap := 1) rfl (Nat.le_refl _) (by decide)) | (refine step_append_src rfl (.tmp 68) (.tmp 69) 24 rfl (HC.out _) info_sys Try.underlying24 rfl (by decide) (by simp [Act.eval]) (H2.out _ _) (by simp [Act.eval]) (sys_one _) (by unfold maxLen; omega) (by omega) (by simp; omega) ?_; intro v6 w6 hown6 hg6 hb6 hat6; obtain ⟨k0, k1, k2, k3⟩ := HK.out _ ((((Below.refl _ wc).drew.alloc (Nat.le_refl _) _).alloc (by simp) _).trans hb6); have hz6 := Sl.of_block (((OwnV.new wc.drew 35 bad.cells).alloc _).grown hg6 (by simp [Value.ownBlock])) (sz := 4) (n := 1) (cap := 1) rfl (Nat.le_refl _) (by decide)) | (refine step_append_src rfl (.tmp 70) (.tmp 72) 24 rfl (hown6.alloc _) info_sys Try.underlying24 rfl (by decide) (by simp [Act.eval]) (Sl.of_block (OwnV.new w6 35 bad.cells) (sz := 4) (n := 1) (cap := 1) rfl (Nat.le_refl _) (by decide)) (by simp [Act.eval]) (bad_one bad) (by unfold maxLen; omega) (by omega) (by have := hb6.size; simp at this ⊢; omega) ?_; intro v7 w7 hown7 hg7 hb7 hat7) | (refine step_append_src rfl (.tmp 70) (.tmp 72) 24 rfl hown6 info_sys Try.underlying24 rfl (by decide) (by simp [Act.eval]) hz6 (by simp [Act.eval]) (bad_one bad) (by unfold maxLen; omega) (by omega) (by have := hb6.size; simp at this ⊢; omega) ?_; intro v7 w7 hown7 hg7 hb7 hat7))
      all_goals
        go_wp2_with fail
        go_meet
        have hS7 : Syss w7 (t ++ [bad]) v7 := by
          have h := Sl.of_own hown7
          unfold Syss
          have e : (t ++ [bad]).length = 0 + t.length + 1 := by simp
          rw [e, List.flatMap_append, List.flatMap_cons, List.flatMap_nil, List.append_nil]
          exact h
        have hb67 : Below wc.heap.size wc w7 := by
          first
            | exact (((Below.refl _ wc).drew.alloc (Nat.le_refl _) _).trans hb6).trans ((((Below.refl _ w6).alloc (Nat.le_trans ((Below.refl _ wc).drew.alloc (Nat.le_refl _) _).size hb6.size) _)).trans hb7)
            | exact ((((Below.refl _ wc).drew.alloc (Nat.le_refl _) _).alloc (by simp) _).trans hb6).trans hb7
        exact ⟨t ++ [bad], hS7, by simp; omega, fun x hx => by
          rw [List.mem_append, List.mem_singleton] at hx
          rcases hx with hx | rfl
          · exact Htk.out x hx
          · exact Hbk.out, Hinv.out, Hb.out.trans (hb67.mono Hb.out.size)⟩
    case rest =>
      obtain ⟨t', hT, hl, hk, hinv, hb⟩ := hcut
      obtain ⟨ta', tcap', rfl, htc', htm'⟩ := hT.form
      have HT' := Lib.hid hT
      have Hk' := Lib.hid hk
      have Hi' := Lib.hid hinv
      have Hb' := Lib.hid hb
      clear hT hk hinv hb
      have HN : Hid (∀ w1, Below wc.heap.size wc w1 → Calls Try.prog 18 #[.slice ta' t'.length tcap', .int .i64 0] w1 fun e w' => ∃ r, e = .returned (.tuple #[r, .int .i64 2]) ∧ Below w1.heap.size w1 w') := Lib.hid fun w1 h => by
        have h1 := needsF_any t' _ 0 w1 (HT'.out.below h (Nat.le_refl _)) Hk'.out
        have e : needsR t' 0 = ([], 2) := by simp [needsR, Hi'.out]
        rw [e] at h1
        exact h1.mono fun _ _ ⟨r, a, _, c⟩ => ⟨r, a, c⟩
      have HSt : Hid (∀ w1, Below wc.heap.size wc w1 → Calls Try.prog 17 #[.slice ta' t'.length tcap'] w1 fun e w' => ∃ a c, e = .returned (.tuple #[.slice a 0 c, .int .i64 2]) ∧ Below w1.heap.size w1 w') := Lib.hid fun w1 h =>
        (stages_any t' _ w1 (HT'.out.below h (Nat.le_refl _)) Hk'.out).mono fun _ _ ⟨r, c, xss, a, ⟨vs, hs, _⟩, b, d⟩ => by
          rcases d with ⟨_, rfl, rfl⟩ | ⟨h, _⟩
          · obtain ⟨ad, cp, rfl, _⟩ := hs.form
            exact ⟨ad, cp, a, b⟩
          · rw [Hi'.out] at h; cases h
      have HR : Hid (∀ w1, Below wc.heap.size wc w1 → Calls Try.prog 12 #[.slice ta' t'.length tcap', .slice none 0 0] w1 fun e w' => ∃ r, e = .returned (.tuple #[r, .int .i64 2]) ∧ Below w1.heap.size w1 w') := Lib.hid fun w1 h => by
        have h1 := ready_any t' [] _ _ w1 (HT'.out.below h (Nat.le_refl _)) Hk'.out (Ints.nil w1) (by simp)
        have e : readyR t' [] = ([], 2) := by simp [readyR, Hi'.out]
        rw [e] at h1
        exact h1.mono fun _ _ ⟨r, a, _, c⟩ => ⟨r, a, c⟩
      have HCh : Hid (∀ w1, Below wc.heap.size wc w1 → Calls Try.prog 16 #[.slice ta' t'.length tcap'] w1 fun e w' => ∃ a c, e = .returned (.tuple #[.slice a 0 c, .int .i64 2]) ∧ Below w1.heap.size w1 w') := Lib.hid fun w1 h =>
        (chain_any t' _ w1 (HT'.out.below h (Nat.le_refl _)) Hk'.out).mono fun _ _ ⟨r, c, xs, a, hs, b, d⟩ => by
          rcases d with ⟨_, rfl, rfl⟩ | ⟨h, _⟩
          · obtain ⟨ad, cp, rfl, _⟩ := hs.form
            exact ⟨ad, cp, a, b⟩
          · rw [Hi'.out] at h; cases h
      have HVa : Hid (∀ w1, Below wc.heap.size wc w1 → Calls Try.prog 11 #[.slice ta' t'.length tcap'] w1 fun e w' => e = .returned (.bool false) ∧ Below w1.heap.size w1 w') := Lib.hid fun w1 h => by
        have h1 := valid_any t' _ w1 (HT'.out.below h (Nat.le_refl _)) Hk'.out
        rwa [Hi'.out] at h1
      go_wp2_with fail
      go_at_call 18
      refine (HN.out _ (Below.refl _ _)).mono ?_
      rintro e w1 ⟨r1, rfl, hb1⟩
      go_wp2_with fail
      go_at_call 17
      refine (HSt.out _ hb1).mono ?_
      rintro e w2 ⟨sa, sc, rfl, hb2⟩
      have hb12 := hb1.trans (hb2.mono hb1.size)
      go_wp2_with fail
      go_at_call 12
      refine (HR.out _ hb12).mono ?_
      rintro e w3 ⟨r3, rfl, hb3⟩
      have hb13 := hb12.trans (hb3.mono hb12.size)
      go_wp2_with fail
      go_at_call 16
      refine (HCh.out _ hb13).mono ?_
      rintro e w4 ⟨ca, cc, rfl, hb4⟩
      have hb14 := hb13.trans (hb4.mono hb13.size)
      have Hb14 := Lib.hid hb14
      have Hb4 := Lib.hid (Hb'.out.trans (hb14.mono Hb'.out.size))
      clear hb1 hb2 hb12 hb3 hb13 hb4 hb14
      go_wp2_with fail
      go_loopw [15, 16, 96, 97, 98, 99, 100, 101, 102, 103] (fun t15 _ t96 _ _ _ _ _ _ _ wr => ∃ k : Nat, k ≤ t'.length ∧ t96 = .int .i64 k ∧ wr.ownsRow w4.heap.size 3 1 t15 k (((List.range k).map fun i : Nat => (i : Int)).map (Value.int .i64)) ∧ Below w4.heap.size w4 wr) (fun _ _ t96 _ _ _ _ _ _ _ _ => t'.length - (intOf t96).toNat)
      case atStart => exact ⟨0, by omega, rfl, World.ownsRow_nil _ _ _ _, Below.refl _ _⟩
      case round =>
        obtain ⟨k, hk, rfl, hown2, hb02⟩ := hrel
        by_cases hks : k < t'.length
        · go_wp2_with (at_builtin; refine wpList_append_new rfl _ _ 27 rfl hown2 info_int Try.underlying27 rfl (by decide) rfl 1 1 rfl rfl rfl (by unfold maxLen; omega) (by omega) hb02.size ?_; intro v' w' hown4 hg4 hb4)
          go_roundw
          case rel => exact ⟨k + 1, by omega, by go_num, by rw [List.range_succ, List.map_append, List.map_append]; exact hown4, hb02.trans hb4⟩
          case measure => simp [intOf]; omega
        · have hks2 : ¬ (k : Int) < t'.length := by omega
          have e : k = t'.length := by omega
          subst e
          have hI5 : Ints wr ((List.range t'.length).map fun i : Nat => (i : Int)) _ := Ints.of_own (by simpa using hown2)
          obtain ⟨qa, qcap, rfl, hqc, hqm⟩ := hI5.form
          rw [List.length_map, List.length_range] at *
          have hb5 := Hb14.out.trans (hb02.mono Hb14.out.size)
          have HLe : Hid (∀ w1, Below wr.heap.size wr w1 → Calls Try.prog 13 #[.slice ta' t'.length tcap', .slice qa t'.length qcap] w1 fun e w' => e = .returned (.bool false) ∧ Below w1.heap.size w1 w') := Lib.hid fun w1 h => by
            have h1 := legal_any t' _ _ _ w1 (HT'.out.below (hb5.trans (h.mono hb5.size)) (Nat.le_refl _)) Hk'.out (hI5.below h (Nat.le_refl _)) (fun x hx => by
              obtain ⟨i, hi, rfl⟩ := List.mem_map.1 hx
              have := List.mem_range.1 hi
              exact wf_i64 (by omega) (by omega))
            have e : legalR t' ((List.range t'.length).map fun i : Nat => (i : Int)) = false := by simp [legalR, Hi'.out]
            rwa [e] at h1
          have HVb := Lib.hid (HVa.out wr hb5)
          have Hb6 := Lib.hid (Hb4.out.trans (hb02.mono Hb4.out.size))
          clear hown2 hI5 hb02 hb5
          go_wp2_with (first | (go_at_call 11; refine HVb.out.mono ?_; rintro e w5 ⟨rfl, hb5⟩) | (go_at_call 13; refine (HLe.out _ hb5).mono ?_; rintro e w6 ⟨rfl, hb6⟩) | (go_at_call 15; refine (awake_any _).mono ?_; rintro e w7 ⟨rfl, hb7⟩))
          go_ret
          have h5 := Hb6.out.trans (hb5.mono Hb6.out.size)
          have h6 := h5.trans (hb6.mono h5.size)
          exact ⟨rfl, h6.trans (hb7.mono h6.size)⟩
end Go.Proofs.Ytbcfanfnnmijdaa
