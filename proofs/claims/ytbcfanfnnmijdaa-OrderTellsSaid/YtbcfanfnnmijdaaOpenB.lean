/- What comes in, opened: a slice of words, a slice of bytes. -/
import Derived.Test.YtbcfanfnnmijdaaWReady
import Derived.OpenShut
namespace Go.Proofs.Ytbcfanfnnmijdaa
open Go.ChangeShapes Go.WideShapes Go.ChangeAt Go.RowKit

theorem open_row {H : Type} {enc : TypeId × Value → H} {w : World} {base : Nat} {spare : Nat → Bool} {held : Bool} {r : Reach} {b0 : Nat} {t e : TypeId} {k : IntKind} {v : Value} {d : DataW H} {p : List MemPlace}
    (ht : Try.prog.underlying t = some (.slice e)) (he : Try.prog.underlying e = some (.int k)) (hc : Try.prog.cellsOf e = 1)
    (hv : Value.okWide Try.prog w r b0 t v) (h : DataW.Trod enc Try.prog w base spare held t v d p) : ∃ zs : List Int, Sl w 1 zs.length (zs.map (Value.int k)) v ∧ ∀ z ∈ zs, (Lit.int k z).wf = true := by
  obtain ⟨a, len, cap, rfl⟩ := okWide_slice ht hv
  obtain ⟨fuel, hf⟩ := h
  rcases open_ints ht he hc hf with ⟨hcs, _⟩ | ⟨x, l, c, zs, hcs, _, hl, hm, hz, _, hcell, hwz⟩
  · simp [Value.cells] at hcs
    obtain ⟨rfl, rfl, rfl⟩ := hcs
    exact ⟨[], Sl.nil w 1, by simp⟩
  · simp [Value.cells] at hcs
    obtain ⟨rfl, rfl, rfl⟩ := hcs
    have hlz : len ≤ zs.length := by rw [hz]; split <;> omega
    have hl' : (zs.take len).length = len := by rw [List.length_take]; omega
    refine ⟨zs.take len, ?_, fun z hz => hwz z (List.mem_of_mem_take hz)⟩
    rw [hl']
    refine ⟨some x, cap, rfl, hl, hm, by simp; omega, fun h0 => ?_⟩
    obtain ⟨b, off, spot⟩ := x
    have e0 := hcell 0 (by omega)
    have hs : spot = none := by
      have : w.cell? ⟨b, off, spot⟩ = some (.int k (zs.getD 0 0)) := by simpa [Addr.add] using e0
      exact World.cell?_spot this
    subst hs
    refine ⟨b, off, rfl, fun j hj => ?_⟩
    have h1 := hcell j (by omega)
    rw [add_none] at h1
    rw [h1]
    simp only [List.getElem?_map, List.getElem?_take_of_lt (show j < len by omega), List.getElem?_eq_getElem (show j < zs.length by omega), Option.map_some, List.getD_eq_getElem?_getD, Option.getD_some]
theorem words_of : ∀ zs : List Int, (∀ z ∈ zs, (Lit.int .u32 z).wf = true) → ∃ l : List (BitVec 32), zs = l.map w32
  | [], _ => ⟨[], rfl⟩
  | z :: zs, h => by
    obtain ⟨x, hx⟩ := w32_mk (h z (List.mem_cons_self ..))
    obtain ⟨l, hl⟩ := words_of zs (fun y hy => h y (List.mem_cons_of_mem _ hy))
    exact ⟨x :: l, by rw [hx, hl]; rfl⟩
theorem open_words {H : Type} {enc : TypeId × Value → H} {w : World} {base : Nat} {spare : Nat → Bool} {held : Bool} {r : Reach} {b0 : Nat} {v : Value} {d : DataW H} {p : List MemPlace}
    (hv : Value.okWide Try.prog w r b0 22 v) (h : DataW.Trod enc Try.prog w base spare held 22 v d p) : ∃ l : List (BitVec 32), Words w l v := by
  obtain ⟨zs, hs, hw⟩ := open_row Try.underlying22 Try.underlying33 (by kernel_rfl) hv h
  obtain ⟨l, rfl⟩ := words_of zs hw
  refine ⟨l, ?_⟩
  unfold Words
  simp only [List.map_map, List.length_map] at hs
  exact hs
theorem u8_of {n : Int} (h : (Lit.int .u8 n).wf = true) : 0 ≤ n ∧ n ≤ 255 := by
  simpa [Lit.wf, IntKind.min, IntKind.max, IntKind.signed, IntKind.bits] using h
theorem open_bytes {H : Type} {enc : TypeId × Value → H} {w : World} {base : Nat} {spare : Nat → Bool} {held : Bool} {r : Reach} {b0 : Nat} {v : Value} {d : DataW H} {p : List MemPlace}
    (hv : Value.okWide Try.prog w r b0 23 v) (h : DataW.Trod enc Try.prog w base spare held 23 v d p) : ∃ zs : List Int, Bytes8 w zs v := by
  obtain ⟨zs, hs, hw⟩ := open_row Try.underlying23 Try.underlying5 (by kernel_rfl) hv h
  exact ⟨zs, hs, fun z hz => u8_of (hw z hz)⟩
theorem open_i64s {H : Type} {enc : TypeId × Value → H} {w : World} {base : Nat} {spare : Nat → Bool} {held : Bool} {r : Reach} {b0 : Nat} {v : Value} {d : DataW H} {p : List MemPlace}
    (hv : Value.okWide Try.prog w r b0 27 v) (h : DataW.Trod enc Try.prog w base spare held 27 v d p) : ∃ zs : List Int, Ints w zs v ∧ ∀ z ∈ zs, (Lit.int .i64 z).wf = true := by
  obtain ⟨zs, hs, hw⟩ := open_row Try.underlying27 Try.underlying3 (by kernel_rfl) hv h
  exact ⟨zs, hs, hw⟩
end Go.Proofs.Ytbcfanfnnmijdaa
