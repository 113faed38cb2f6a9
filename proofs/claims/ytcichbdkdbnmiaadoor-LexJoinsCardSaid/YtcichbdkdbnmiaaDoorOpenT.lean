/- A slice of tokens that comes in, opened. -/
import Derived.Test.YtcichbdkdbnmiaaDoorTokC
import Derived.Lib.SmallJoins
import Derived.Deep.Slices
import Derived.ChangeArms
namespace Go.Proofs.YtcichbdkdbnmiaaDoor
open Go.ChangeShapes Go.WideShapes Go.RowKit

theorem add_none (b off k : Nat) : (⟨b, off, none⟩ : Addr).add k = ⟨b, off + k, none⟩ := by
  unfold Addr.add
  split
  · next h => rw [h, Nat.add_zero]
  · rfl
theorem bstr_back (s : ByteArray) : bstr s.data.toList = s := by cases s; unfold bstr; simp
theorem tok_of {H : Type} {enc : TypeId × Value → H} {w : World} {base : Nat} {spare : Nat → Bool} {held : Bool} {n : Nat} {v0 v1 v2 v3 v4 : Value} {y0 y1 y2 y3 y4 : DataW H × List MemPlace}
    (h0 : DataW.trod enc Tryd.prog w base spare held n 5 [v0] = some y0) (h1 : DataW.trod enc Tryd.prog w base spare held n 9 [v1] = some y1)
    (h2 : DataW.trod enc Tryd.prog w base spare held n 3 [v2] = some y2) (h3 : DataW.trod enc Tryd.prog w base spare held n 3 [v3] = some y3) (h4 : DataW.trod enc Tryd.prog w base spare held n 3 [v4] = some y4) :
    ∃ t : Tok, [v0, v1, v2, v3, v4] = t.cells := by
  obtain ⟨k, e0, _, _⟩ := DataW.trod_int Tryd.underlying5 h0
  obtain ⟨s, e1, _, hs⟩ := DataW.trod_string Tryd.underlying9 h1
  obtain ⟨a, e2, _, _⟩ := DataW.trod_int Tryd.underlying3 h2
  obtain ⟨b, e3, _, _⟩ := DataW.trod_int Tryd.underlying3 h3
  obtain ⟨c, e4, _, _⟩ := DataW.trod_int Tryd.underlying3 h4
  cases e0; cases e1; cases e2; cases e3; cases e4
  exact ⟨⟨k, s.data.toList, a, b, c⟩, by simp [Tok.cells, bstr_back]⟩
theorem each {α β : Type} [Inhabited α] (m : Nat) (R : Nat → List β → Prop) (f : α → List β) (hR : ∀ i, i < m → ∃ s, R i (f s)) :
    ∃ l : List α, l.length = m ∧ ∀ i (h : i < l.length), R i (f l[i]) := by
  let g : Nat → α := fun i => if h : i < m then (hR i h).choose else default
  have hg : ∀ i, i < m → R i (f (g i)) := fun i h => by
    simp only [g, dif_pos h]
    exact (hR i h).choose_spec
  refine ⟨(List.range m).map g, by simp, ?_⟩
  intro i hi
  have hi' : i < m := by simpa using hi
  simpa using hg i hi'
instance : Inhabited Tok := ⟨⟨0, [], 0, 0, 0⟩⟩
set_option maxRecDepth 100000 in
theorem open_toks {H : Type} {enc : TypeId × Value → H} {w : World} {base : Nat} {spare : Nat → Bool} {held : Bool} {r : Reach} {b0 : Nat} {v : Value} {d : DataW H} {p : List MemPlace}
    (hv : Value.okWide Tryd.prog w r b0 27 v) (h : DataW.Trod enc Tryd.prog w base spare held 27 v d p) : ∃ l : List Tok, Toks w l v ∧ l.length ≤ 9223372036854775807 := by
  obtain ⟨a, len, cap, rfl⟩ := okWide_slice Tryd.underlying27 hv
  obtain ⟨fuel, hf⟩ := h
  have c5 : Tryd.prog.cellsOf 29 = 5 := by kernel_rfl
  rcases Go.Deep.open_slice Tryd.underlying27 hf with ⟨hcs, _⟩ | ⟨x, l, c, m, n, D, Pl, hcs, _, hl, hm, hmm, _, hx⟩
  · simp [Value.cells] at hcs
    obtain ⟨rfl, rfl, rfl⟩ := hcs
    exact ⟨[], Sl.nil w 5, by simp⟩
  · simp [Value.cells] at hcs
    obtain ⟨rfl, rfl, rfl⟩ := hcs
    have hlm : len ≤ m := by rw [hmm]; split <;> omega
    have key : ∀ i, i < len → ∃ s : Tok, ∀ j, j < 5 → w.cell? ((x.add (i * 5)).add j) = s.cells[j]? := by
      intro i hi
      obtain ⟨cs', hc, ht⟩ := hx i (by omega)
      rw [c5] at hc
      obtain ⟨_, hlen, hcell⟩ := World.cells?_some hc
      obtain ⟨xs, n', _, _, _, hxl, hel⟩ := DataW.trod_struct Tryd.underlying29 ht
      match cs', hlen, xs, hxl with
      | [v0, v1, v2, v3, v4], _, [y0, y1, y2, y3, y4], _ =>
        obtain ⟨s, hs⟩ := tok_of (v0 := v0) (v1 := v1) (v2 := v2) (v3 := v3) (v4 := v4) (hel 0 _ rfl) (hel 1 _ rfl) (hel 2 _ rfl) (hel 3 _ rfl) (hel 4 _ rfl)
        rw [hs] at hcell
        exact ⟨s, hcell⟩
    obtain ⟨l, hl', hr⟩ := each (f := Tok.cells) len (fun i cs => ∀ j, j < 5 → w.cell? ((x.add (i * 5)).add j) = cs[j]?) key
    subst hl'
    refine ⟨l, ⟨some x, cap, rfl, hl, hm, flat_len _ 5 (fun _ => rfl) l, fun h0 => ?_⟩, by have : maxLen = 9223372036854775807 := rfl; omega⟩
    obtain ⟨b, off, spot⟩ := x
    have e0 := hr 0 h0 0 (by omega)
    have hs : spot = none := by
      have : w.cell? ⟨b, off, spot⟩ = some (.int .u8 (l[0]'h0).kind) := by simpa [Addr.add, Tok.cells] using e0
      exact World.cell?_spot this
    subst hs
    refine ⟨b, off, rfl, fun j hj => ?_⟩
    have := hr (j / 5) (by omega) (j % 5) (by omega)
    rw [← flat_cell Tok.cells 5 (fun _ => rfl) l (j / 5) (by omega) (j % 5) (by omega)] at this
    have e : j / 5 * 5 + j % 5 = j := by omega
    rw [e] at this
    rw [← this]
    have e2 : off + j = off + j / 5 * 5 + j % 5 := by omega
    rw [e2, add_none, add_none]
end Go.Proofs.YtcichbdkdbnmiaaDoor
