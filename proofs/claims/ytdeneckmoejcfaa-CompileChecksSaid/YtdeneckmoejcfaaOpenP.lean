/- What comes in, opened: a program as code. -/
import Derived.Test.YtdeneckmoejcfaaTreeOJ
import Derived.Test.YtdeneckmoejcfaaTransMJ
import Derived.Test.YtdeneckmoejcfaaMaskMJ
import Derived.Test.YtdeneckmoejcfaaKitCJ
import Derived.Lib.SmallJoins
import Derived.Deep.Slices
import Derived.OpenShut
import Derived.KernelRfl
set_option linter.unusedSimpArgs false
set_option linter.unusedVariables false
namespace Go.Proofs.Ytdeneckmoejcfaa
open Go.ChangeShapes Go.WideShapes Go.RowKit
set_option maxRecDepth 100000
variable {H : Type} {enc : TypeId × Value → H} {w : World} {base : Nat} {spare : Nat → Bool} {held : Bool}
theorem open_inss (fuel : Nat) (cs : List Value) (x : DataW H × List MemPlace) (h : DataW.trod enc Try.prog w base spare held fuel 26 cs = some x) :
    ∃ (v : Value) (c : Code1), cs = [v] ∧ SlC w c v := by
  obtain ⟨v, l, ds, rfl, h1, h2, h3⟩ := open_flat (α := InsS) 2 (by omega) Try.underlying26 (by kernel_rfl) (fun (l : List InsS) ds => ds = cellsC l) rfl (fun a b c d g1 g2 => by rw [g1, g2, cellsC_app]) (fun n cs y hn hy => by
    obtain ⟨xs, m, rfl, -, hl, hlen, hf⟩ := DataW.trod_struct Try.underlying35 hy
    have hl2 : cs.length = 2 := hl.trans (by kernel_rfl)
    match xs, hlen with
    | [y0, y1], _ =>
    match cs, hl2 with
    | [c0, c1], _ =>
    have g0 := hf 0 _ rfl
    have g1 := hf 1 _ rfl
    have k1 : Try.prog.cellsOf 5 = 1 := by kernel_rfl
    have k2 : Try.prog.cellsOf 3 = 1 := by kernel_rfl
    simp [k1, k2] at g0 g1
    obtain ⟨op, e0, -, w0⟩ := DataW.trod_int Try.underlying5 g0
    obtain ⟨a, e1, -, w1⟩ := DataW.trod_int Try.underlying3 g1
    cases e0; cases e1
    exact ⟨⟨op, a⟩, rfl⟩) h
  rw [h3] at h1
  exact ⟨v, l, rfl, h1⟩
theorem open_prog {r : Reach} {b0 : Nat} {v : Value} {d : DataW H} {p : List MemPlace}
    (hv : Value.okWide Try.prog w r b0 29 v) (h : DataW.Trod enc Try.prog w base spare held 29 v d p) : ∃ (P : ProgS) (vc : Value), v = progV P vc ∧ SlC w P.code vc := by
  obtain ⟨v0, v1, v2, v3, y0, y1, y2, y3, n, rfl, _, _, h0, h1, h2, h3⟩ := Joins.open_agg4 Try.underlying29 (by kernel_rfl) (by kernel_rfl) hv h
  obtain ⟨vc, c, e0, hS⟩ := open_inss n _ _ h0
  obtain ⟨l, e1, -, _⟩ := DataW.trod_int Try.underlying3 h1
  obtain ⟨r1, e2, -, w2⟩ := DataW.trod_int Try.underlying27 h2
  obtain ⟨r2, e3, -, w3⟩ := DataW.trod_int Try.underlying27 h3
  obtain ⟨a1, rfl⟩ := w32_mk w2
  obtain ⟨a2, rfl⟩ := w32_mk w3
  cases e0; cases e1; cases e2; cases e3
  exact ⟨⟨c, l, a1, a2⟩, _, rfl, hS⟩
end Go.Proofs.Ytdeneckmoejcfaa
