/- What the library's variables that the lexer comes to hold, and that they hold it while memory grows. -/
import Derived.Test.YtcichbdkdbnmiaaDoorShelf
import Derived.Test.YtcichbdkdbnmiaaDoorRows
import Derived.Test.YtcichbdkdbnmiaaDoorOnly
import Derived.Lib.LaidTab
import Derived.WalkSmall
import Derived.ChangeBears2
namespace Go.Proofs.YtcichbdkdbnmiaaDoor
open Go.RowKit

def spaceTab : List Int := (List.range 256).map fun i => if i = 9 ∨ i = 10 ∨ i = 11 ∨ i = 12 ∨ i = 13 ∨ i = 32 then 1 else 0
def glB : Nat := max (max 0 7) (max 5 6) + 1
structure Glob (w : World) : Prop where
  size : glB ≤ w.heap.size
  space : Lib.TabIs Tryd.prog w "strings.asciiSpace" .u8 spaceTab
  pow : Lib.TabIs Tryd.prog w "internal/strconv.uint64pow10" .u64 Lib.pow10Tab
  syn : ∃ tp p, w.var? Tryd.prog "strconv.ErrSyntax" = some #[.iface tp p]
  rng : ∃ tp p, w.var? Tryd.prog "strconv.ErrRange" = some #[.iface tp p]
theorem gl0 : Tryd.prog.globalNamed "strings.asciiSpace" = some 0 := by kernel_rfl
theorem gl1 : Tryd.prog.globalNamed "internal/strconv.uint64pow10" = some 7 := by kernel_rfl
theorem gl2 : Tryd.prog.globalNamed "strconv.ErrSyntax" = some 5 := by kernel_rfl
theorem gl3 : Tryd.prog.globalNamed "strconv.ErrRange" = some 6 := by kernel_rfl
theorem Glob.below {w w' : World} (h : Glob w) {B : Nat} (hb : Below B w w') (hB : glB ≤ B) : Glob w' := by
  obtain ⟨h0, h1, h2, ⟨a, b, h3⟩, ⟨c, d, h4⟩⟩ := h
  exact ⟨Nat.le_trans h0 hb.size, var?_below hb gl0 (Nat.lt_of_lt_of_le (by decide) hB) h1, var?_below hb gl1 (Nat.lt_of_lt_of_le (by decide) hB) h2, ⟨a, b, var?_below hb gl2 (Nat.lt_of_lt_of_le (by decide) hB) h3⟩, ⟨c, d, var?_below hb gl3 (Nat.lt_of_lt_of_le (by decide) hB) h4⟩⟩
theorem Glob.only {w w' : World} (h : Glob w) {S : Nat → Prop} (ho : Only S w w') (hS : ∀ k, S k → glB ≤ k) : Glob w' := h.below (ho.below hS h.size) (Nat.le_refl _)
theorem Glob.alloc {w : World} (h : Glob w) (o : Obj) : Glob (w.alloc o) := h.below ((Below.refl _ _).alloc h.size o) (Nat.le_refl _)
theorem Glob.drewN {w : World} (h : Glob w) (n : Nat) : Glob (w.drewN n) := h.below ⟨rfl, rfl, rfl, Nat.le_refl _, fun _ _ => rfl⟩ (Nat.le_refl _)
theorem Glob.spaceCell {w : World} (h : Glob w) (i : Nat) : w.cell? ⟨0, i, none⟩ = (spaceTab.map fun z => Value.int .u8 z)[i]? := by
  have := Go.var?_cell gl0 h.space i
  simpa using this
end Go.Proofs.YtcichbdkdbnmiaaDoor
