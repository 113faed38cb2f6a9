/- What order.Needs gives; no condition but that the argument reads as systems. -/
import Derived.Test.YtbcfanfnnmijdaaNeeds
import Derived.Test.YtbcfanfnnmijdaaWhere
import Derived.Test.YtbcfanfnnmijdaaValid
namespace Go.Proofs.Ytbcfanfnnmijdaa
open Go.RowKit

theorem Ints.of_own {w : World} {base : Nat} {v : Value} {xs : List Int} (h : w.ownsRow base 3 1 v xs.length (xs.map (Value.int .i64))) : Ints w xs v := Sl.of_own h
theorem Ints.nil (w : World) : Ints w [] (.slice none 0 0) := ⟨none, 0, rfl, by simp, by simp, rfl, by simp⟩
theorem Ints.form {w : World} {xs : List Int} {v : Value} (h : Ints w xs v) : ∃ a cap, v = .slice a xs.length cap ∧ xs.length ≤ cap ∧ cap ≤ 9223372036854775807 := Sl.form h
theorem Ints.at {w : World} {xs : List Int} {a : Option Addr} {n cap : Nat} (h : Ints w xs (.slice a n cap)) {k : Nat} (hk : k < xs.length) :
    ∃ b off, a = some ⟨b, off, none⟩ ∧ b < w.heap.size ∧ ∀ (k : Nat) (h : k < xs.length), w.cell? ⟨b, off + k, none⟩ = some (.int .i64 xs[k]) := by
  obtain ⟨b, off, e, hlt, hc⟩ := Sl.at (by omega) h (by omega)
  exact ⟨b, off, e, hlt, fun k hk => by rw [hc k (by omega)]; simp [hk]⟩

theorem needs1_any (i : Int) (pb bm n : Nat) (has : Int → Bool) (val : Int → Int) (w : World) (hi1 : -9223372036854775808 ≤ i) (hi2 : i ≤ 9223372036854775807) (hc : w.cell? ⟨pb, 0, none⟩ = some (.map (some bm))) (hM : IMap w bm n has val) :
    Calls Try.prog 37 #[.int .i64 i, .pointer (some ⟨pb, 0, none⟩)] w fun e w' => e = .returned (.bool (decide (0 < val i))) ∧ Below w.heap.size w w' := by
  go_enter Try.func37, Try.ntmps37
  go_wp2_with (at_lookup; refine wpList_imap_lookup rfl _ _ rfl hM rfl i rfl (wf_i64 hi1 hi2) ?_; intro hwf)
  go_ret
  exact ⟨rfl, Below.refl _ _⟩

theorem valid_len {l : List Sys} (h : validS l = true) : l.length ≤ 16 := by
  unfold validS at h
  simp only [Bool.and_eq_true, decide_eq_true_eq] at h
  exact h.1
/-- what Needs returns -/
def needsR (l : List Sys) (i : Int) : List Int × Int :=
  if validS l then (if 0 ≤ i ∧ i < l.length then (pick (fun k => cfl l k i.toNat) i.toNat, 0) else ([], 6)) else ([], 2)

set_option maxHeartbeats 400000 in
theorem needsF_any (l : List Sys) (v : Value) (i : Int) (w : World) (hS : Syss w l v) (hok : ∀ s ∈ l, s.ok) :
    Calls Try.prog 18 #[v, .int .i64 i] w fun e w' => ∃ r, e = .returned (.tuple #[r, .int .i64 (needsR l i).2]) ∧ Ints w' (needsR l i).1 r ∧ Below w.heap.size w w' := by
  have hV := valid_any l v w hS hok
  obtain ⟨a, cap, rfl, hlc, hcm⟩ := hS.form
  have HV := Lib.hid hV
  have HS := Lib.hid hS
  clear hV hS hok
  cases hv : validS l
  · go_enter Try.func18, Try.ntmps18
    rw [hv] at HV
    have e1 : needsR l i = ([], 2) := by simp [needsR, hv]
    have E1 := Lib.hid e1
    clear hv e1
    go_wp2_with (go_at_call 11; refine HV.out.mono ?_; rintro e w1 ⟨rfl, hb1⟩)
    go_ret2
    rw [E1.out]
    exact ⟨_, rfl, Ints.nil _, hb1⟩
  · rw [hv] at HV
    by_cases hi : 0 ≤ i ∧ i < l.length
    · obtain ⟨n, rfl⟩ := Int.eq_ofNat_of_zero_le hi.1
      have hn : n < l.length := by omega
      have h0 : decide ((n : Int) < 0) = false := by simp
      have hl16 : l.length ≤ 16 := valid_len hv
      have h1 : ¬ (l.length : Int) ≤ n := by omega
      have e1 : needsR l n = (pick (fun k => cfl l k n) n, 0) := by simp [needsR, hv, hn]
      have E1 := Lib.hid e1
      clear hv e1 hi
      go_enter Try.func18, Try.ntmps18
      go_wp2_with (first | (go_at_call 11; refine HV.out.mono ?_; rintro e w1 ⟨rfl, hb1⟩) | (go_at_call 30; refine (needs_any l _ n hn _ (Syss.below HS.out hb1 (Nat.le_refl _))).mono ?_; rintro e w2 ⟨bm, rfl, hbm, hM, hb2⟩))
      refine (where_any n (by omega) _ _ (fun k => cfl l k n) _ (fun w1 => w1.cell? ⟨w2.heap.size, 0, none⟩ = some (.map (some bm)) ∧ IMap w1 bm n (needB l n n) (fun k => if needB l n n k = true then 1 else 0)) Try.call37 ⟨by simp, hM.alloc _⟩ (fun w1 w2 h hb => ⟨Below.keep hb h.1, h.2.below hb (Nat.le_refl _)⟩) (fun i w1 hi hI => ?_)).mono ?_
      · refine (needs1_any i w2.heap.size bm n _ _ w1 (by omega) (by omega) hI.1 hI.2).mono ?_
        rintro e w' ⟨rfl, hb'⟩
        refine ⟨retb ?_, hb'⟩
        have : needB l n n i = cfl l i n := by simp [needB, hi]
        rw [this]; cases cfl l i n <;> rfl
      · rintro e w3 ⟨v, rfl, hown, hb3⟩
        go_wp2
        go_ret2
        rw [E1.out]
        exact ⟨_, rfl, Ints.of_own hown, (hb1.trans (hb2.mono hb1.size)).trans (((Below.refl _ _).alloc (Nat.le_refl _) _).trans (hb3.mono (by simp)) |>.mono (Nat.le_trans hb1.size hb2.size))⟩
    · have e1 : needsR l i = ([], 6) := by simp [needsR, hv, hi]
      have E1 := Lib.hid e1
      clear hv e1
      by_cases h0 : i < 0
      · have h1 : decide (i < 0) = true := by simpa using h0
        clear hi
        go_enter Try.func18, Try.ntmps18
        go_wp2_with (go_at_call 11; refine HV.out.mono ?_; rintro e w1 ⟨rfl, hb1⟩)
        go_ret2
        rw [E1.out]
        exact ⟨_, rfl, Ints.nil _, hb1⟩
      · have h1 : decide (i < 0) = false := by simpa using h0
        have h2 : (l.length : Int) ≤ i := by omega
        clear hi
        go_enter Try.func18, Try.ntmps18
        go_wp2_with (go_at_call 11; refine HV.out.mono ?_; rintro e w1 ⟨rfl, hb1⟩)
        go_ret2
        rw [E1.out]
        exact ⟨_, rfl, Ints.nil _, hb1⟩
end Go.Proofs.Ytbcfanfnnmijdaa
