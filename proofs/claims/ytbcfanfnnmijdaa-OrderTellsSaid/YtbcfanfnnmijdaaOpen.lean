/- What comes in, opened: a system by value, a slice of systems, a slice of integers. -/
import Derived.Test.YtbcfanfnnmijdaaConf
import Derived.Lib.SmallJoins
import Derived.Deep.Slices
namespace Go.Proofs.Ytbcfanfnnmijdaa
open Go.ChangeShapes Go.WideShapes Go.ChangeAt Go.RowKit

theorem i64_of {n : Int} (h : (Lit.int .i64 n).wf = true) : -9223372036854775808 ≤ n ∧ n ≤ 9223372036854775807 := by
  simp [Lit.wf, IntKind.min, IntKind.max, IntKind.signed, IntKind.bits] at h
  omega
theorem add_none (b off k : Nat) : (⟨b, off, none⟩ : Addr).add k = ⟨b, off + k, none⟩ := by
  unfold Addr.add
  split
  · next h => rw [h, Nat.add_zero]
  · rfl
theorem sys_of {H : Type} {enc : TypeId × Value → H} {w : World} {base : Nat} {spare : Nat → Bool} {held : Bool} {n : Nat} {v0 v1 v2 v3 : Value} {y0 y1 y2 y3 : DataW H × List MemPlace}
    (h0 : DataW.trod enc Try.prog w base spare held n 9 [v0] = some y0) (h1 : DataW.trod enc Try.prog w base spare held n 33 [v1] = some y1)
    (h2 : DataW.trod enc Try.prog w base spare held n 33 [v2] = some y2) (h3 : DataW.trod enc Try.prog w base spare held n 3 [v3] = some y3) :
    ∃ s : Sys, [v0, v1, v2, v3] = s.cells ∧ s.ok := by
  obtain ⟨s, e0, _, hs⟩ := DataW.trod_string Try.underlying9 h0
  obtain ⟨r, e1, _, hr⟩ := DataW.trod_int Try.underlying33 h1
  obtain ⟨u, e2, _, hu⟩ := DataW.trod_int Try.underlying33 h2
  obtain ⟨g, e3, _, hg⟩ := DataW.trod_int Try.underlying3 h3
  obtain ⟨r, rfl⟩ := w32_mk hr
  obtain ⟨u, rfl⟩ := w32_mk hu
  cases e0; cases e1; cases e2; cases e3
  exact ⟨⟨s, r, u, g⟩, rfl, hs, i64_of hg⟩
theorem open_sys {H : Type} {enc : TypeId × Value → H} {w : World} {base : Nat} {spare : Nat → Bool} {held : Bool} {r : Reach} {b0 : Nat} {v : Value} {d : DataW H} {p : List MemPlace}
    (hv : Value.okWide Try.prog w r b0 35 v) (h : DataW.Trod enc Try.prog w base spare held 35 v d p) : ∃ s : Sys, v = s.val ∧ s.ok := by
  obtain ⟨v0, v1, v2, v3, y0, y1, y2, y3, n, rfl, _, _, h0, h1, h2, h3⟩ := Joins.open_agg4 Try.underlying35 (by kernel_rfl) (by kernel_rfl) hv h
  obtain ⟨s, hs, hk⟩ := sys_of h0 h1 h2 h3
  refine ⟨s, ?_, hk⟩
  simp only [Sys.cells, List.cons.injEq, and_true] at hs
  obtain ⟨rfl, rfl, rfl, rfl⟩ := hs
  rfl
theorem many {α β : Type} [Inhabited α] (m : Nat) (R : Nat → List β → Prop) (f : α → List β) (ok : α → Prop) (hR : ∀ i, i < m → ∃ s, R i (f s) ∧ ok s) :
    ∃ l : List α, l.length = m ∧ (∀ s ∈ l, ok s) ∧ ∀ i (h : i < l.length), R i (f l[i]) := by
  let g : Nat → α := fun i => if h : i < m then (hR i h).choose else default
  have hg : ∀ i, i < m → R i (f (g i)) ∧ ok (g i) := fun i h => by
    simp only [g, dif_pos h]
    exact (hR i h).choose_spec
  refine ⟨(List.range m).map g, by simp, ?_, ?_⟩
  · intro s hs
    obtain ⟨i, hi, rfl⟩ := List.mem_map.1 hs
    exact (hg i (List.mem_range.1 hi)).2
  · intro i hi
    have hi' : i < m := by simpa using hi
    simpa using (hg i hi').1
instance : Inhabited Sys := ⟨⟨ByteArray.empty, 0, 0, 0⟩⟩
theorem open_syss {H : Type} {enc : TypeId × Value → H} {w : World} {base : Nat} {spare : Nat → Bool} {held : Bool} {r : Reach} {b0 : Nat} {v : Value} {d : DataW H} {p : List MemPlace}
    (hv : Value.okWide Try.prog w r b0 24 v) (h : DataW.Trod enc Try.prog w base spare held 24 v d p) : ∃ l : List Sys, Syss w l v ∧ ∀ s ∈ l, s.ok := by
  obtain ⟨a, len, cap, rfl⟩ := okWide_slice Try.underlying24 hv
  obtain ⟨fuel, hf⟩ := h
  have c4 : Try.prog.cellsOf 35 = 4 := by kernel_rfl
  rcases Go.Deep.open_slice Try.underlying24 hf with ⟨hcs, _⟩ | ⟨x, l, c, m, n, D, Pl, hcs, _, hl, hm, hmm, _, hx⟩
  · simp [Value.cells] at hcs
    obtain ⟨rfl, rfl, rfl⟩ := hcs
    exact ⟨[], Sl.nil w 4, by simp⟩
  · simp [Value.cells] at hcs
    obtain ⟨rfl, rfl, rfl⟩ := hcs
    have hlm : len ≤ m := by rw [hmm]; split <;> omega
    have key : ∀ i, i < len → ∃ s : Sys, (∀ j, j < 4 → w.cell? ((x.add (i * 4)).add j) = s.cells[j]?) ∧ s.ok := by
      intro i hi
      obtain ⟨cs', hc, ht⟩ := hx i (by omega)
      rw [c4] at hc
      obtain ⟨_, hlen, hcell⟩ := World.cells?_some hc
      obtain ⟨y0, y1, y2, y3, n', _, _, h0, h1, h2, h3⟩ := Joins.trod_struct4 Try.underlying35 ht
      match cs', hlen with
      | [v0, v1, v2, v3], _ =>
        obtain ⟨s, hs, hk⟩ := sys_of (v0 := v0) (v1 := v1) (v2 := v2) (v3 := v3) h0 h1 h2 h3
        rw [hs] at hcell
        exact ⟨s, hcell, hk⟩
    obtain ⟨l, hl', hk, hr⟩ := many (f := Sys.cells) len (fun i cs => ∀ j, j < 4 → w.cell? ((x.add (i * 4)).add j) = cs[j]?) Sys.ok key
    subst hl'
    refine ⟨l, ⟨some x, cap, rfl, hl, hm, flat_len _ 4 (fun _ => rfl) l, fun h0 => ?_⟩, hk⟩
    obtain ⟨b, off, spot⟩ := x
    have e0 := hr 0 h0 0 (by omega)
    have hs : spot = none := by
      have : w.cell? ⟨b, off, spot⟩ = some (.string (l[0]'h0).name) := by simpa [Addr.add, Sys.cells] using e0
      exact World.cell?_spot this
    subst hs
    refine ⟨b, off, rfl, fun j hj => ?_⟩
    have := hr (j / 4) (by omega) (j % 4) (by omega)
    rw [← flat_cell Sys.cells 4 (fun _ => rfl) l (j / 4) (by omega) (j % 4) (by omega)] at this
    have e : j / 4 * 4 + j % 4 = j := by omega
    rw [e] at this
    rw [← this]
    have e2 : off + j = off + j / 4 * 4 + j % 4 := by omega
    rw [e2, add_none, add_none]
end Go.Proofs.Ytbcfanfnnmijdaa
