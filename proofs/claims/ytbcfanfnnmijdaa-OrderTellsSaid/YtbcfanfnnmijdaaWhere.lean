/- What order.where gives: a new slice of the indices for which the function that is handed in says yes; no condition but that this function answers as p says, and makes memory only. -/
import Derived.Test.YtbcfanfnnmijdaaConf
namespace Go.Proofs.Ytbcfanfnnmijdaa
open Go.RowKit

theorem info_int : (Try.prog.info? 3).map (fun i => (i.zero, i.size, i.bytes)) = some (some (.int .i64 0), 1, 8) := by kernel_rfl
/-- the indices below n for which p says yes -/
def pick (p : Nat → Bool) (n : Nat) : List Int := ((List.range n).filter p).map fun i : Nat => (i : Int)
theorem pick_succ (p : Nat → Bool) (n : Nat) : pick p (n + 1) = pick p n ++ (if p n then [(n : Int)] else []) := by
  unfold pick
  rw [List.range_succ, List.filter_append, List.map_append]
  by_cases h : p n <;> simp [h]
theorem pick_len (p : Nat → Bool) (n : Nat) : (pick p n).length ≤ n := by
  unfold pick
  have := List.length_filter_le p (List.range n)
  simpa using this

set_option maxHeartbeats 400000 in
theorem where_any (n : Nat) (hn : n ≤ 1000000000000) (F : Nat) (caps : Array Value) (p : Nat → Bool) (w : World) (Inv : World → Prop) (hF : ∀ args w, (callFunc F args).run Try.prog w = .ok (.enter F args) w) (h0 : Inv w) (hm : ∀ w1 w2, Inv w1 → Below w1.heap.size w1 w2 → Inv w2)
    (hf : ∀ (i : Nat) w1, i < n → Inv w1 → Calls Try.prog F (#[.int .i64 i] ++ caps) w1 fun e w2 => e = .returned (.bool (p i)) ∧ Below w1.heap.size w1 w2) :
    Calls Try.prog 28 #[.int .i64 n, .func (.func F) #[] caps] w fun e w' => ∃ v, e = .returned v ∧ w'.ownsRow w.heap.size 3 1 v (pick p n).length ((pick p n).map (Value.int .i64)) ∧ Below w.heap.size w w' := by
  have Hm := Lib.hid hm
  have Hf := Lib.hid hf
  have Hi : Hid (Hid (∀ wr, Below w.heap.size w wr → Inv wr)) := Lib.hid (Lib.hid (fun wr h => hm w wr h0 h))
  clear hm hf
  go_enter Try.func28, Try.ntmps28
  go_wp2
  go_loopw [5, 6, 8, 9, 10, 11, 12, 13, 14, 15, 16, 17, 18] (fun t5 _ t8 _ _ _ _ _ _ _ _ _ _ wr => ∃ k : Nat, k ≤ n ∧ t8 = .int .i64 k ∧ wr.ownsRow w.heap.size 3 1 t5 (pick p k).length ((pick p k).map (Value.int .i64)) ∧ Below w.heap.size w wr) (fun _ _ t8 _ _ _ _ _ _ _ _ _ _ _ => n - (intOf t8).toNat)
  case atStart => exact ⟨0, by omega, rfl, World.ownsRow_nil _ _ _ _, Below.refl _ _⟩
  case round =>
    obtain ⟨k, hk, rfl, hown, hb⟩ := hrel
    by_cases hlt : k < n
    · go_wp2_with fail
      refine (Hf.out k wr hlt (Hi.out.out wr hb)).mono ?_
      rintro e w1 ⟨rfl, hb1⟩
      have hb2 := hb.trans (hb1.mono hb.size)
      have hown1 := own_below hown hb1 (Nat.le_refl _)
      have hl := pick_len p k
      have hps := pick_succ p k
      have Hps := Lib.hid hps
      clear hown hb1 hps
      go_wp2_with (at_builtin; refine wpList_append_new rfl _ _ 27 rfl hown1 info_int Try.underlying27 rfl (by decide) rfl 1 1 rfl rfl rfl (by unfold maxLen; omega) (by omega) hb2.size ?_; intro v' w' hown2 hg2 hb3)
      · have hp : p k = true := by assumption
        go_roundw
        case rel => exact ⟨k + 1, by omega, by go_num, by rw [Hps.out, hp]; simpa using hown2, hb2.trans hb3⟩
        case measure => simp [intOf]; omega
      · have hp : p k = false := by assumption
        go_roundw
        case rel => exact ⟨k + 1, by omega, by go_num, by rw [Hps.out, hp]; simpa using hown1, hb2⟩
        case measure => simp [intOf]; omega
    · have e : k = n := by omega
      subst e
      go_wp2
      go_ret
      exact ⟨_, rfl, hown, hb⟩
end Go.Proofs.Ytbcfanfnnmijdaa
