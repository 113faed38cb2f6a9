/- What marcheslaw15.Ints and marcheslaw16.example give; the pure side of the example. -/
import Derived.Test.YtbcfanfnnmijdaaChain
namespace Go.Proofs.Ytbcfanfnnmijdaa
open Go.RowKit

set_option maxHeartbeats 400000 in
theorem ints_any (xs ys : List Int) (v u : Value) (w : World) (hX : Ints w xs v) (hY : Ints w ys u) :
    Calls Try.prog 23 #[v, u] w fun e w' => e = .returned (.bool (decide (xs = ys))) ∧ Below w.heap.size w w' := by
  obtain ⟨a, cap, rfl, hlc, hcm⟩ := hX.form
  obtain ⟨a2, cap2, rfl, hlc2, hcm2⟩ := hY.form
  have HX := Lib.hid hX
  have HY := Lib.hid hY
  clear hX hY
  by_cases hl : xs.length = ys.length
  case neg =>
    have h1 : ((xs.length : Int) != ys.length) = true := by simp; omega
    have e1 : decide (xs = ys) = false := by simp; intro h; exact hl (by rw [h])
    rw [e1]
    clear hl e1
    go_enter Try.func23, Try.ntmps23
    go_wp2
    go_ret
    exact ⟨rfl, Below.refl _ _⟩
  have h1 : ((xs.length : Int) != ys.length) = false := by simp [hl]
  have Hl := Lib.hid hl
  clear hl
  go_enter Try.func23, Try.ntmps23
  go_wp2
  go_loopw [4, 5, 13, 14, 15, 16, 17, 18, 19, 20, 21, 22, 23, 24, 25] (fun _ _ t13 _ _ _ _ _ _ _ _ _ _ _ _ wr => ∃ k : Nat, k ≤ xs.length ∧ t13 = .int .i64 k ∧ xs.take k = ys.take k ∧ Below w.heap.size w wr) (fun _ _ t13 _ _ _ _ _ _ _ _ _ _ _ _ _ => xs.length - (intOf t13).toNat)
  case atStart => exact ⟨0, by omega, rfl, by simp, Below.refl _ _⟩
  case round =>
    obtain ⟨k, hk, rfl, htk, hb⟩ := hrel
    have Htk := Lib.hid htk
    clear htk
    by_cases hlt : k < xs.length
    · have hlt2 : k < ys.length := by have := Hl.out; omega
      obtain ⟨b, off, rfl, _, hc⟩ := (HX.out.below hb (Nat.le_refl _)).at hlt
      obtain ⟨b2, off2, rfl, _, hc2⟩ := (HY.out.below hb (Nat.le_refl _)).at hlt2
      have c0 := hc k hlt
      have d0 := hc2 k hlt2
      have q0 : (k : Int) < xs.length := by omega
      have q1 : (k : Int) < ys.length := by omega
      have q2 : (0 : Int) ≤ k := by omega
      clear hc hc2
      by_cases he : xs[k] = ys[k]
      · have h2 : (xs[k] != ys[k]) = false := by simp [he]
        have He := Lib.hid he
        clear he
        go_wp2
        go_region
        go_wp2
        go_roundw
        case rel => exact ⟨k + 1, by omega, by go_num, by rw [List.take_succ_eq_append_getElem hlt, List.take_succ_eq_append_getElem hlt2, Htk.out, He.out], hb.drew⟩
        case measure => simp [intOf]; omega
      · have h2 : (xs[k] != ys[k]) = true := by simp [he]
        have He := Lib.hid he
        clear he
        go_wp2
        go_region
        go_wp2
        go_ret
        refine ⟨retb ?_, hb.drew⟩
        symm
        rw [decide_eq_false_iff_not]
        intro e
        exact He.out (by subst e; rfl)
    · have e : k = xs.length := by omega
      subst e
      have hf : xs = ys := by
        have := Htk.out
        rw [Hl.out, List.take_length, ← Hl.out, List.take_length] at this
        exact this
      have Hf := Lib.hid hf
      clear hf
      go_wp2
      go_ret
      exact ⟨retb (by simp [Hf.out]), hb⟩

theorem Sl.of_block {w : World} {g : Nat} {e : TypeId} {cs : List Value} (h : OwnV w g e cs) {sz n cap : Nat} (hl : cs.length = n * sz) (hn : n ≤ cap) (hm : cap ≤ 9223372036854775807) : Sl w sz n cs (.slice (some ⟨g, 0, none⟩) n cap) :=
  ⟨some ⟨g, 0, none⟩, cap, rfl, hn, hm, hl, fun _ => ⟨g, 0, rfl, fun j hj => by rw [Nat.zero_add, h.cell (List.getElem?_eq_getElem (by omega)), List.getElem?_eq_getElem (by omega)]⟩⟩

/-- the systems of the example -/
def exL : List Sys := [⟨⟨#[109, 111, 118, 101]⟩, 4#32, 2#32, 0⟩, ⟨⟨#[116, 104, 105, 110, 107]⟩, 1026#32, 4#32, 0⟩, ⟨⟨#[104, 101, 97, 108]⟩, 256#32, 256#32, 0⟩, ⟨⟨#[109, 97, 114, 107]⟩, 2#32, 1024#32, 0⟩]
def exCells : List Value := [.string ⟨#[109, 111, 118, 101]⟩, .int .u32 4, .int .u32 2, .int .i64 0, .string ⟨#[116, 104, 105, 110, 107]⟩, .int .u32 1026, .int .u32 4, .int .i64 0, .string ⟨#[104, 101, 97, 108]⟩, .int .u32 256, .int .u32 256, .int .i64 0, .string ⟨#[109, 97, 114, 107]⟩, .int .u32 2, .int .u32 1024, .int .i64 0]
theorem exL_cells : exL.flatMap Sys.cells = exCells := rfl
theorem exL_ok : ∀ s ∈ exL, s.ok := by
  intro s hs
  simp only [exL, List.mem_cons, List.not_mem_nil, or_false] at hs
  rcases hs with rfl | rfl | rfl | rfl <;> refine ⟨?_, by simp, by simp⟩ <;> decide
theorem example_any (w : World) : Calls Try.prog 32 #[] w fun e w' => e = .returned (.slice (some ⟨w.heap.size, 0, none⟩) 4 4) ∧ Syss w' exL (.slice (some ⟨w.heap.size, 0, none⟩) 4 4) ∧ Below w.heap.size w w' := by
  have hnew : Syss (w.alloc (.cells exCells.toArray 35)) exL (.slice (some ⟨w.heap.size, 0, none⟩) 4 4) := Sl.of_block (OwnV.new w 35 exCells) rfl (by decide) (by decide)
  have Hnew := Lib.hid hnew
  clear hnew
  go_enter Try.func32, Try.ntmps32
  go_wp2
  go_ret
  exact ⟨rfl, Hnew.out, (Below.refl _ _).alloc (Nat.le_refl _) _⟩
end Go.Proofs.Ytbcfanfnnmijdaa
