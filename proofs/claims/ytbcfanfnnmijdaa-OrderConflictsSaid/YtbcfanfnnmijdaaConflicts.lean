/- OrderConflicts, for every input: true, and nothing that was there is written: the four cases joined. -/
import Derived.Test.YtbcfanfnnmijdaaCf11
import Derived.Test.YtbcfanfnnmijdaaCf10
import Derived.Test.YtbcfanfnnmijdaaCf01
import Derived.Test.YtbcfanfnnmijdaaCf00
namespace Go.Proofs.Ytbcfanfnnmijdaa
open Go.RowKit

theorem conflict_to {n1 n2 : ByteArray} {r1 w1 r2 w2 : BitVec 32} {p1 p2 : Int} {x : Bool} (h : conf ⟨n1, r1, w1, p1⟩ ⟨n2, r2, w2, p2⟩ = x) :
    Hid (∀ w, Calls Try.prog 14 #[.agg #[.string n1, .int .u32 (w32 r1), .int .u32 (w32 w1), .int .i64 p1], .agg #[.string n2, .int .u32 (w32 r2), .int .u32 (w32 w2), .int .i64 p2]] w fun e w' => e = .returned (.bool x) ∧ Below w.heap.size w w') :=
  Lib.hid fun w => conflict_as h w
theorem conflict_own {n1 : ByteArray} {r1 w1 : BitVec 32} {p1 : Int} :
    Hid (∀ w, Calls Try.prog 14 #[.agg #[.string n1, .int .u32 (w32 r1), .int .u32 (w32 w1), .int .i64 p1], .agg #[.string n1, .int .u32 (w32 r1), .int .u32 (w32 w1), .int .i64 p1]] w fun e w' => e = .returned (.bool (w32 w1 != 0)) ∧ Below w.heap.size w w') := by
  rw [w32_ne]
  exact conflict_to (conf_self ⟨n1, r1, w1, p1⟩)
theorem conflict_still {n1 n2 : ByteArray} {r1 r2 : BitVec 32} {p1 p2 : Int} :
    Hid (∀ w, Calls Try.prog 14 #[.agg #[.string n1, .int .u32 (w32 r1), .int .u32 0, .int .i64 p1], .agg #[.string n2, .int .u32 (w32 r2), .int .u32 0, .int .i64 p2]] w fun e w' => e = .returned (.bool false) ∧ Below w.heap.size w w') := by
  have h := conflict_to (conf_quiet ⟨n1, r1, 0, p1⟩ ⟨n2, r2, 0, p2⟩ rfl rfl)
  have hz : w32 0 = 0 := rfl
  rw [hz] at h
  exact h
theorem conflicts_any (a b c : Sys) (w : World) : Calls Try.prog 5 #[a.val, b.val, c.val] w fun e w' => e = .returned (.bool true) ∧ Below w.heap.size w w' := by
  obtain ⟨n1, r1, w1, p1⟩ := a
  obtain ⟨n2, r2, w2, p2⟩ := b
  obtain ⟨n3, r3, w3, p3⟩ := c
  have hcm := conf_comm ⟨n1, r1, w1, p1⟩ ⟨n2, r2, w2, p2⟩
  have hm := conf_more ⟨n1, r1, w1, p1⟩ ⟨n2, r2, w2, p2⟩ ⟨n3, r3, w3, p3⟩
  simp only [Sys.val]
  cases hp : conf ⟨n1, r1, w1, p1⟩ ⟨n2, r2, w2, p2⟩ <;> cases hc : conf ⟨n3, r3, w3, p3⟩ ⟨n2, r2, w2, p2⟩ <;> rw [hp, hc] at hm <;> rw [hp] at hcm <;> have K1 := conflict_to hp <;> have K2 := conflict_to hcm.symm <;> have K3 := conflict_to hm
  · have K4 := conflict_to hc
    have hbn := conf_none _ _ hp
    simp only at hbn
    rw [← w32_ne, ← bits_and32] at hbn
    exact conflicts_00 n1 n2 n3 r1 w1 r2 w2 r3 w3 p1 p2 p3 w K1 K2 conflict_own conflict_still K3 K4 hbn
  · have K4 := conflict_to hc
    exact conflicts_01 n1 n2 n3 r1 w1 r2 w2 r3 w3 p1 p2 p3 w K1 K2 conflict_own conflict_still K3 K4
  · exact conflicts_10 n1 n2 n3 r1 w1 r2 w2 r3 w3 p1 p2 p3 w K1 K2 conflict_own conflict_still K3
  · exact conflicts_11 n1 n2 n3 r1 w1 r2 w2 r3 w3 p1 p2 p3 w K1 K2 conflict_own conflict_still K3
end Go.Proofs.Ytbcfanfnnmijdaa
