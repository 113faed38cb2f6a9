/- marcheslaw13.block, walked: a program in a block of its own. -/
import Derived.Test.YtdeneckmoejcfaaKitCJ
import Derived.Test.YtdeneckmoejcfaaBlkM
set_option linter.unusedSimpArgs false
set_option linter.unusedVariables false
namespace Go.Proofs.Ytdeneckmoejcfaa
open Go.RowKit

/-- the cells of a block of its own -/
def blkV (g : Nat) (v : Value) : List Value := [.int .u8 4, .int .i64 0, .string { data := #[] }, .slice (some ⟨g, 0, none⟩) 1 1, v, .slice none 0 0]
def tickV : List Value := [.int .u8 4, .int .i64 0, .string { data := #[] }, .slice none 0 0]
theorem tick_l {w : World} {g B : Nat} (h : OwnV w g 65 tickV) (hg : g < B) : EsL w B [.mk 4 0 [] []] (.slice (some ⟨g, 0, none⟩) 1 1) :=
  ⟨tickV, sl_block h rfl (Nat.le_refl _) (by omega), .inr fun k hk => by cases hk; exact hg, ExsC.cons (Sl.nil w 4) (.inl rfl) .nil .nil⟩
theorem blk_l {w : World} {g B : Nat} {l : List St} {v : Value} (h : OwnV w g 65 tickV) (hg : g < B) (hL : SsL w B l v) : StsC w (fun g => g < B) [blkS l] (blkV g v) := by
  obtain ⟨c1, a1, a2, a3⟩ := tick_l h hg
  obtain ⟨c2, b1, b2, b3⟩ := hL
  exact StsC.cons a1 a2 a3 b1 b2 b3 (Sl.nil w 6) (.inl rfl) .nil .nil
set_option maxRecDepth 100000 in
set_option maxHeartbeats 1000000 in
theorem lawBlock_any (a : Option Addr) (n cap : Nat) (w : World) :
    Calls Try.prog 29 #[.slice a n cap] w fun e w' => (∃ g, e = .returned (.agg #[.int .u8 4, .int .i64 0, .string { data := #[] }, .slice (some ⟨g, 0, none⟩) 1 1, .slice a n cap, .slice none 0 0]) ∧ OwnV w' g 65 tickV ∧ w.heap.size ≤ g ∧ g < w'.heap.size) ∧ Below w.heap.size w w' := by
  go_enter Try.func29, Try.ntmps29
  go_wp2_with fail
  obtain ⟨W0, hW0, hb0, hR0, hT0, hsz⟩ := opened2 w (blkV (w.heap.size + 1) (.slice a n cap)) tickV 59 65
  simp only [blkV, tickV] at hW0
  rw [← hW0]
  have y0 := hR0.cell (i := 0) rfl
  have y1 := hR0.cell (i := 1) rfl
  have y2 := hR0.cell (i := 2) rfl
  have y3 := hR0.cell (i := 3) rfl
  have y4 := hR0.cell (i := 4) rfl
  have y5 := hR0.cell (i := 5) rfl
  refine bodyPost_ret (v := .agg #[.int .u8 4, .int .i64 0, .string { data := #[] }, .slice (some ⟨w.heap.size + 1, 0, none⟩) 1 1, .slice a n cap, .slice none 0 0]) (by simp [results, Try.results29, go_sem, y0, y1, y2, y3, y4, y5, blkV]) rfl ⟨⟨_, rfl, hT0, by omega, by omega⟩, hb0⟩
end Go.Proofs.Ytdeneckmoejcfaa
