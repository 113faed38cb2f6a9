/- A token's cells, at its place in a slice. -/
import Derived.Test.YtcichbdkdbnmiaaDoorRLex
import Derived.Test.YtcichbdkdbnmiaaDoorWordS
namespace Go.Proofs.YtcichbdkdbnmiaaDoor
open Go.RowKit

theorem tokAt_eq {l : List Tok} {i : Nat} (hi : i < l.length) : tokAt l i = l[i] := by
  unfold tokAt
  rw [List.getD_eq_getElem?_getD, List.getElem?_eq_getElem hi]; rfl
/-- a token's cells, at its place -/
theorem tok_cells {w : World} {l : List Tok} {a : Option Addr} {m cap : Nat} (h : Toks w l (.slice a m cap)) {i : Nat} (hi : i < l.length) :
    ∃ b off, a = some ⟨b, off, none⟩ ∧ w.cell? ⟨b, off + i * 5, none⟩ = some (.int .u8 (tokAt l i).kind) ∧ w.cell? ⟨b, off + i * 5 + 1, none⟩ = some (.string (bstr (tokAt l i).text)) ∧ w.cell? ⟨b, off + i * 5 + 2, none⟩ = some (.int .i64 (tokAt l i).n) ∧ w.cell? ⟨b, off + i * 5 + 3, none⟩ = some (.int .i64 (tokAt l i).line) ∧ w.cell? ⟨b, off + i * 5 + 4, none⟩ = some (.int .i64 (tokAt l i).col) := by
  obtain ⟨b, off, rfl, hlt, hb⟩ := Sl.at (by omega) h (by omega)
  have hc : ∀ j, j < 5 → w.cell? ⟨b, off + (i * 5 + j), none⟩ = (Tok.cells (tokAt l i))[j]? := by
    intro j hj
    rw [hb (i * 5 + j) (by omega), flat_cell Tok.cells 5 (fun _ => rfl) l i hi j hj]
    rw [tokAt_eq hi]
  exact ⟨b, off, rfl, hc 0 (by omega), hc 1 (by omega), hc 2 (by omega), hc 3 (by omega), hc 4 (by omega)⟩
end Go.Proofs.YtcichbdkdbnmiaaDoor
