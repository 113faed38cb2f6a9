/- index of the laws: the place of a number in a list, or a negative number. -/
import Derived.Test.YtbcfanfnnmijdaaRun
namespace Go.Proofs.Ytbcfanfnnmijdaa
open Go.RowKit

theorem place_any (xs : List Int) (x : Int) (v : Value) (w : World) (hS : Ints w xs v) :
    Calls Try.prog 27 #[v, .int .i64 x] w fun e w' => ∃ i : Int, e = .returned (.int .i64 i) ∧ (0 ≤ i ↔ x ∈ xs) ∧ w = w' := by
  obtain ⟨a, cap, rfl, hlc, hcm⟩ := hS.form
  have HS := Lib.hid hS
  clear hS
  go_enter Try.func27, Try.ntmps27
  go_wp2
  go_loop [4, 5, 6, 9, 10, 11, 12, 13, 14, 15, 16, 17, 18] (fun _ _ _ t9 _ _ _ _ _ _ _ _ _ => ∃ k : Nat, k ≤ xs.length ∧ t9 = .int .i64 k ∧ x ∉ xs.take k) (fun _ _ _ t9 _ _ _ _ _ _ _ _ _ => xs.length - (intOf t9).toNat)
  case atStart => exact ⟨0, by omega, rfl, by simp⟩
  case round =>
    obtain ⟨k, hk, rfl, hno⟩ := hrel
    have Hno := Lib.hid hno
    clear hno
    by_cases hlt : k < xs.length
    · obtain ⟨b, off, rfl, hbw, hc⟩ := HS.out.at hlt
      have ck := hc k hlt
      clear hc
      by_cases he : xs[k] = x
      · have h1 : (xs[k] == x) = true := by simpa using he
        have He := Lib.hid he
        clear he
        go_wp2
        go_ret
        refine ⟨k, rfl, ⟨fun _ => by rw [← He.out]; exact List.getElem_mem hlt, fun _ => by omega⟩, rfl⟩
      · have h1 : (xs[k] == x) = false := by simpa using he
        have He := Lib.hid he
        clear he
        go_wp2
        go_round
        case rel =>
          refine ⟨k + 1, by omega, by go_num, ?_⟩
          rw [List.take_succ_eq_append_getElem hlt, List.mem_append, List.mem_singleton]
          exact fun h => h.elim Hno.out (fun e => He.out e.symm)
        case measure => simp [intOf]; omega
    · have e : k = xs.length := by omega
      subst e
      have hno := Hno.out
      rw [List.take_length] at hno
      have Hno2 := Lib.hid hno
      clear hno
      go_wp2
      go_ret
      exact ⟨-1, rfl, ⟨fun h => by omega, fun h => absurd h Hno2.out⟩, rfl⟩
end Go.Proofs.Ytbcfanfnnmijdaa
