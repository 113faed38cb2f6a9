/- What order.needs gives: a new map of the systems that must run before a system; no condition but that the argument reads as systems and the index is one. -/
import Derived.Test.YtbcfanfnnmijdaaConf
import Derived.StillTailTactics
namespace Go.Proofs.Ytbcfanfnnmijdaa
open Go.RowKit

/-- do systems k and i of a list conflict -/
def cfl (l : List Sys) (k i : Nat) : Bool := match l[k]?, l[i]? with | some a, some b => conf a b | _, _ => false
theorem cfl_eq {l : List Sys} {k i : Nat} (hk : k < l.length) (hi : i < l.length) : cfl l k i = conf l[k] l[i] := by simp [cfl, hk, hi]
def needB (l : List Sys) (i m : Nat) (k : Int) : Bool := decide (0 ≤ k) && (decide (k < m) && cfl l k.toNat i)
theorem needB_step (l : List Sys) (i m : Nat) (k : Int) : needB l i (m + 1) k = ((k == m && cfl l m i) || needB l i m k) := by
  unfold needB
  by_cases e : k = m
  · subst e; simp; intro _; omega
  · have : decide (k < ((m + 1 : Nat) : Int)) = decide (k < m) := by simp; omega
    rw [this]; simp [e]

set_option maxHeartbeats 400000 in
theorem needs_any (l : List Sys) (v : Value) (i : Nat) (hi : i < l.length) (w : World) (hS : Syss w l v) :
    Calls Try.prog 30 #[v, .int .i64 i] w fun e w' => ∃ b, e = .returned (.map (some b)) ∧ w.heap.size ≤ b ∧ IMap w' b i (needB l i i) (fun k => if needB l i i k then 1 else 0) ∧ Below w.heap.size w w' := by
  obtain ⟨a, cap, rfl, hlc, hcm⟩ := hS.form
  obtain ⟨b, off, rfl, hbw, hc⟩ := hS.at hi
  have hmm := @run_makeMap Try.prog
  have hi1 : (i : Int) < l.length := by omega
  go_enter Try.func30, Try.ntmps30
  go_wp2
  clear hmm
  go_loopw [6, 7, 13, 14, 15, 16, 17, 18, 19, 20, 21, 22, 23, 24, 25, 26, 27, 28] (fun _ _ t13 _ _ _ _ _ _ _ _ _ _ _ _ _ _ _ wr => ∃ k : Nat, k ≤ i ∧ t13 = .int .i64 k ∧ IMap wr w.heap.size k (needB l i k) (fun j => if needB l i k j then 1 else 0) ∧ Below w.heap.size w wr) (fun _ _ t13 _ _ _ _ _ _ _ _ _ _ _ _ _ _ _ _ => i - (intOf t13).toNat)
  case atStart => exact ⟨0, by omega, rfl, (IMap.made w).congr (by omega) (by intro k; simp [needB]; omega) (by intro k; simp [needB]; omega), (Below.refl _ _).alloc (Nat.le_refl _) _⟩
  case round =>
    obtain ⟨k, hk, rfl, hM, hb⟩ := hrel
    by_cases hlt : k < i
    · obtain ⟨c0, c1, c2, c3⟩ := hc k (by omega)
      obtain ⟨d0, d1, d2, d3⟩ := hc i hi
      rw [← hb.cell (by simpa using hbw)] at c0 c1 c2 c3 d0 d1 d2 d3
      have hbr : b < wr.heap.size := Nat.lt_of_lt_of_le hbw hb.size
      clear hc
      have hn0 : b ≠ wr.heap.size := by omega
      go_wp2
      go_region_held3 (fun w' => w'.cell? ⟨wr.heap.size, 0, none⟩ = some (.string l[k].name) ∧ w'.cell? ⟨wr.heap.size, 1, none⟩ = some (.int .u32 (w32 l[k].rd)) ∧ w'.cell? ⟨wr.heap.size, 2, none⟩ = some (.int .u32 (w32 l[k].wr)) ∧ w'.cell? ⟨wr.heap.size, 3, none⟩ = some (.int .i64 l[k].pg) ∧ w'.cell? ⟨b, off + i * 4, none⟩ = some (.string l[i].name) ∧ w'.cell? ⟨b, off + i * 4 + 1, none⟩ = some (.int .u32 (w32 l[i].rd)) ∧ w'.cell? ⟨b, off + i * 4 + 2, none⟩ = some (.int .u32 (w32 l[i].wr)) ∧ w'.cell? ⟨b, off + i * 4 + 3, none⟩ = some (.int .i64 l[i].pg)) (first | go_keep | (refine ⟨?_, ?_, ?_, ?_, ?_, ?_, ?_, ?_⟩ <;> exact Below.keep hb1 (by go_keep))) (first | (go_at_call 14; refine (conflict_any l[k] l[i] _).mono ?_; rintro e w' ⟨rfl, hb1⟩))
      rename_i hHeld
      clear hHeld
      have hb2 : Below w.heap.size w w' := ((hb.drew.alloc (by simpa using hb.size) _).trans (hb1.mono (by simp; have := hb.size; omega)))
      have hM1 : IMap w' w.heap.size k (needB l i k) (fun j => if needB l i k j then 1 else 0) := (hM.alloc _).drew.below hb1 (Nat.le_refl _)
      clear hb1 hM c0 c1 c2 c3 d0 d1 d2 d3
      have e1 : cfl l k i = conf l[k] l[i] := cfl_eq (by omega) hi
      have H1 := Lib.hid e1
      clear e1
      have hnk : needB l i k k = false := by simp [needB]
      have Hnk := Lib.hid hnk
      clear hnk
      go_wp2_with (first | (at_lookup; refine wpList_imap_lookup rfl _ _ rfl hM1 rfl k rfl (wf_i64 (by omega) (by omega)) ?_; intro hwf; rw [Hnk.out]) | (at_mapUpdate; refine wpList_imap_update rfl _ _ _ rfl hM1 rfl k 1 rfl rfl (wf_i64 (by omega) (by omega)) (by decide) (by unfold maxLen; omega) ?_; intro w2 hM2 hg2))
      · have hcf : conf l[k] l[i] = true := by assumption
        go_round
        case rel =>
          refine ⟨k + 1, by omega, by go_num, hM2.congr (Nat.le_refl _) (fun j => ?_) (fun j => ?_), hb2.grown hg2 hb2.size (by simp)⟩
          · rw [needB_step, H1.out, hcf]; simp
          · rw [needB_step, H1.out, hcf]; by_cases e : j = k <;> simp [e]
        case measure => simp [intOf]; omega
      · have hcf : conf l[k] l[i] = false := by assumption
        go_round
        case rel =>
          refine ⟨k + 1, by omega, by go_num, hM1.congr (by omega) (fun j => ?_) (fun j => ?_), hb2⟩
          · rw [needB_step, H1.out, hcf]; simp
          · rw [needB_step, H1.out, hcf]; simp
        case measure => simp [intOf]; omega
    · have e : k = i := by omega
      subst e
      go_wp2
      go_ret
      exact ⟨_, rfl, Nat.le_refl _, hM, hb⟩
end Go.Proofs.Ytbcfanfnnmijdaa
