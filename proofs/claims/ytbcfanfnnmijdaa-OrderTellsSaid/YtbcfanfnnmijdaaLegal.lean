/- What slices.Index, Contains, Clone and order.Legal give; no condition but that the arguments read as systems and ints. -/
import Derived.Test.YtbcfanfnnmijdaaReady
namespace Go.Proofs.Ytbcfanfnnmijdaa
open Go.RowKit

set_option maxHeartbeats 400000 in
theorem index_any (xs : List Int) (x : Int) (v : Value) (w : World) (hS : Ints w xs v) :
    Calls Try.prog 40 #[v, .int .i64 x] w fun e w' => ∃ i : Int, e = .returned (.int .i64 i) ∧ (0 ≤ i ↔ x ∈ xs) ∧ w = w' := by
  obtain ⟨a, cap, rfl, hlc, hcm⟩ := hS.form
  have HS := Lib.hid hS
  clear hS
  go_enter Try.func40, Try.ntmps40
  go_wp2
  go_loop [4, 5, 8, 9, 10, 11, 12, 13, 14, 15, 16, 17, 18] (fun _ _ t8 _ _ _ _ _ _ _ _ _ _ => ∃ k : Nat, k ≤ xs.length ∧ t8 = .int .i64 k ∧ x ∉ xs.take k) (fun _ _ t8 _ _ _ _ _ _ _ _ _ _ => xs.length - (intOf t8).toNat)
  case atStart => exact ⟨0, by omega, rfl, by simp⟩
  case round =>
    obtain ⟨k, hk, rfl, hno⟩ := hrel
    have Hno := Lib.hid hno
    clear hno
    by_cases hlt : k < xs.length
    · obtain ⟨b, off, rfl, hbw, hc⟩ := HS.out.at hlt
      have ck := hc k hlt
      clear hc
      by_cases he : x = xs[k]
      · have h1 : (x == xs[k]) = true := by simpa using he
        have He := Lib.hid he
        clear he
        go_wp2
        go_ret
        refine ⟨k, rfl, ⟨fun _ => by rw [He.out]; exact List.getElem_mem hlt, fun _ => by omega⟩, rfl⟩
      · have h1 : (x == xs[k]) = false := by simpa using he
        have He := Lib.hid he
        clear he
        go_wp2
        go_round
        case rel =>
          refine ⟨k + 1, by omega, by go_num, ?_⟩
          rw [List.take_succ_eq_append_getElem hlt, List.mem_append, List.mem_singleton]
          exact fun h => h.elim Hno.out He.out
        case measure => simp [intOf]; omega
    · have e : k = xs.length := by omega
      subst e
      have hno := Hno.out
      rw [List.take_length] at hno
      have Hno2 := Lib.hid hno
      clear hno
      go_wp2
      go_ret
      exact ⟨-1, rfl, ⟨fun h => by omega, fun h => absurd h Hno2.out⟩, rfl⟩

theorem contains_any (xs : List Int) (x : Int) (v : Value) (w : World) (hS : Ints w xs v) :
    Calls Try.prog 31 #[v, .int .i64 x] w fun e w' => e = .returned (.bool (xs.contains x)) ∧ w = w' := by
  have H := index_any xs x v w hS
  obtain ⟨a, cap, rfl, hlc, hcm⟩ := hS.form
  have H1 := Lib.hid H
  clear H hS
  go_enter Try.func31, Try.ntmps31
  go_wp2_with (go_at_call 40; refine H1.out.mono ?_; rintro e w' ⟨i, rfl, hi, rfl⟩; have Hi := Lib.hid hi; clear hi)
  go_ret
  refine ⟨retb ?_, rfl⟩
  rw [Bool.eq_iff_iff, decide_eq_true_eq, List.contains_iff_mem]
  exact Hi.out

theorem clone_any (xs : List Int) (v : Value) (w : World) (hS : Ints w xs v) (hl : xs.length ≤ 1000000000000) :
    Calls Try.prog 33 #[v] w fun e w' => ∃ r, e = .returned r ∧ Ints w' xs r ∧ Below w.heap.size w w' := by
  obtain ⟨a, cap, rfl, hlc, hcm⟩ := hS.form
  cases a with
  | none =>
    have hl0 : xs = [] := by
      refine List.eq_nil_of_length_eq_zero ?_
      rcases Nat.eq_zero_or_pos xs.length with h | h
      · exact h
      · obtain ⟨b, off, h', _⟩ := hS.at h
        cases h'
    subst hl0
    have hq := Lib.run_eql_slice_nil (P := Try.prog) w 27 3 none 0 cap 0 0 Try.underlying27
    clear hS
    go_enter Try.func33, Try.ntmps33
    go_wp2
    go_ret
    exact ⟨_, rfl, Ints.nil _, Below.refl _ _⟩
  | some ad =>
    have hq := Lib.run_eql_slice_nil (P := Try.prog) w 27 3 (some ad) xs.length cap 0 0 Try.underlying27
    have hS1 := hS.below (Below.alloc (Below.refl _ _) (Nat.le_refl _) (.cells #[] 3)) (Nat.le_refl _)
    have hown : (w.alloc (.cells #[] 3)).ownsRow w.heap.size 3 1 (.slice (some ⟨w.heap.size, 0, none⟩) 0 0) 0 [] := World.ownsRow_made w #[] 0 (Nat.le_refl _) (by unfold maxLen; omega) rfl
    clear hS
    go_enter Try.func33, Try.ntmps33
    go_wp2_with (at_builtin; refine wpList_append_src rfl _ _ 27 rfl hown info_int Try.underlying27 rfl (by decide) rfl hS1 rfl (by simp [Value.oneCell']) (by unfold maxLen; omega) (by omega) (by simp) ?_; intro v' w' hown2 hg2 hb2 _)
    go_ret
    exact ⟨_, rfl, Ints.of_own (by simpa using hown2), ((Below.refl _ _).alloc (Nat.le_refl _) _).trans hb2⟩

theorem Ints.take {w : World} {xs : List Int} {a : Option Addr} {n cap : Nat} (h : Ints w xs (.slice a n cap)) (k : Nat) (hk : k ≤ xs.length) : Ints w (xs.take k) (.slice a k cap) := by
  obtain ⟨a', cap', e, h2, h3, h4, h5⟩ := h
  cases e
  have hl : (xs.take k).length = k := by simp; omega
  unfold Ints
  rw [hl]
  refine ⟨a, cap, rfl, by omega, h3, by simp; omega, fun hn => ?_⟩
  obtain ⟨b, off, e, hc⟩ := h5 (by omega)
  refine ⟨b, off, e, fun j hj => ?_⟩
  rw [hc j (by omega), List.map_take, List.getElem?_take, if_pos (by omega)]

/-- what Legal returns -/
def legalR (l : List Sys) (o : List Int) : Bool := validS l && (decide (o.length = l.length) && (List.range o.length).all fun n => (readyR l (o.take n)).2 == 0 && (readyR l (o.take n)).1.contains (o.getD n 0))
theorem legalR_no {l : List Sys} {o : List Int} {k : Nat} (hk : k < o.length) (h : ((readyR l (o.take k)).2 == 0 && (readyR l (o.take k)).1.contains o[k]) = false) : legalR l o = false := by
  have : ((List.range o.length).all fun n => (readyR l (o.take n)).2 == 0 && (readyR l (o.take n)).1.contains (o.getD n 0)) = false := by
    rw [List.all_eq_false]
    refine ⟨k, by simpa using hk, ?_⟩
    rw [List.getD_eq_getElem?_getD, List.getElem?_eq_getElem hk, Option.getD_some, h]
    simp
  unfold legalR
  rw [this]
  simp

set_option maxHeartbeats 400000 in
theorem legal_any (l : List Sys) (o : List Int) (v ov : Value) (w : World) (hS : Syss w l v) (hok : ∀ s ∈ l, s.ok) (hO : Ints w o ov) (how : ∀ x ∈ o, (Lit.int .i64 x).wf = true) :
    Calls Try.prog 13 #[v, ov] w fun e w' => e = .returned (.bool (legalR l o)) ∧ Below w.heap.size w w' := by
  obtain ⟨a, cap, rfl, hlc, hcm⟩ := hS.form
  obtain ⟨oa, ocap, rfl, hoc, hocm⟩ := hO.form
  have HV := Lib.hid (valid_any l _ w hS hok)
  have HS := Lib.hid hS
  have HO := Lib.hid hO
  have How := Lib.hid how
  have Hok := Lib.hid hok
  clear hS hO how hok
  by_cases hv : validS l = true
  case neg =>
    rw [Bool.not_eq_true] at hv
    have e1 : legalR l o = false := by simp [legalR, hv]
    rw [hv] at HV
    rw [e1]
    clear hv e1
    go_enter Try.func13, Try.ntmps13
    go_wp2_with (go_at_call 11; refine HV.out.mono ?_; rintro e w1 ⟨rfl, hb1⟩)
    go_ret
    exact ⟨rfl, hb1⟩
  rw [hv] at HV
  have Hv := Lib.hid hv
  clear hv
  by_cases hl : o.length = l.length
  case neg =>
    have e1 : legalR l o = false := by simp [legalR, hl]
    rw [e1]
    have h1 : ((o.length : Int) != l.length) = true := by simp; omega
    clear hl e1
    go_enter Try.func13, Try.ntmps13
    go_wp2_with (go_at_call 11; refine HV.out.mono ?_; rintro e w1 ⟨rfl, hb1⟩)
    go_ret
    exact ⟨rfl, hb1⟩
  have h1 : ((o.length : Int) != l.length) = false := by simp [hl]
  have Hl := Lib.hid hl
  clear hl
  go_enter Try.func13, Try.ntmps13
  go_wp2_with (go_at_call 11; refine HV.out.mono ?_; rintro e w1 ⟨rfl, hb1⟩)
  go_loopw [4, 5, 6, 7, 8, 21, 22, 23, 24, 25, 26, 27, 28, 29, 30, 31, 32, 33, 34, 35, 36, 37, 38, 39, 40, 41, 42] (fun _ _ _ _ _ t21 _ _ _ _ _ _ _ _ _ _ _ _ _ _ _ _ _ _ _ _ _ wr => ∃ k : Nat, k ≤ o.length ∧ t21 = .int .i64 k ∧ (∀ n, n < k → ((readyR l (o.take n)).2 == 0 && (readyR l (o.take n)).1.contains (o.getD n 0)) = true) ∧ Below w.heap.size w wr) (fun _ _ _ _ _ t21 _ _ _ _ _ _ _ _ _ _ _ _ _ _ _ _ _ _ _ _ _ _ => o.length - (intOf t21).toNat)
  case atStart => exact ⟨0, by omega, rfl, fun n hn => by omega, hb1⟩
  case round =>
    clear hb1
    obtain ⟨k, hk, rfl, hall, hb⟩ := hrel
    have Hall := Lib.hid hall
    clear hall
    by_cases hlt : k < o.length
    · have hO1 := HO.out.below hb (Nat.le_refl _)
      obtain ⟨b, off, rfl, hbw, hc⟩ := hO1.at hlt
      have ck := hc k hlt
      have hR := ready_any l (o.take k) (.slice a l.length cap) (.slice (some ⟨b, off, none⟩) k ocap) wr (HS.out.below hb (Nat.le_refl _)) Hok.out (hO1.take k (by omega)) (fun x hx => How.out x (List.mem_of_mem_take hx))
      have HR := Lib.hid hR
      clear hR hO1 hc
      generalize hg : readyR l (o.take k) = R at *
      obtain ⟨R1, R2⟩ := R
      have Hg := Lib.hid hg
      clear hg
      by_cases h2 : R2 = 0
      case neg =>
        have h3 : (R2 != 0) = true := by simpa using h2
        have e1 : legalR l o = false := legalR_no hlt (by rw [Hg.out]; simp [h2])
        have E1 := Lib.hid e1
        clear e1 h2
        go_wp2_with (go_at_call 12; refine HR.out.mono ?_; rintro e w2 ⟨r, rfl, hr, hb2⟩)
        go_ret
        rw [E1.out]
        exact ⟨rfl, hb.trans (hb2.mono hb.size)⟩
      subst h2
      by_cases h3 : R1.contains o[k] = true
      · have hC : ∀ r w2, Ints w2 R1 r → Calls Try.prog 31 #[r, .int .i64 o[k]] w2 fun e w' => e = .returned (.bool true) ∧ w2 = w' := fun r w2 hr => by have := contains_any R1 o[k] r w2 hr; rw [h3] at this; exact this
        have HC := Lib.hid hC
        have H3 := Lib.hid h3
        clear h3 hC
        go_wp2_with (first | (go_at_call 12; refine HR.out.mono ?_; rintro e w2 ⟨r, rfl, hr, hb2⟩) | (go_at_call 31; refine (HC.out _ _ hr).mono ?_; rintro e w3 ⟨rfl, rfl⟩))
        go_roundw
        case rel =>
          refine ⟨k + 1, by omega, by go_num, fun n hn => ?_, hb.trans (hb2.mono hb.size)⟩
          by_cases e : n = k
          · subst e
            rw [Hg.out, List.getD_eq_getElem?_getD, List.getElem?_eq_getElem hlt, Option.getD_some, H3.out]; rfl
          · exact Hall.out n (by omega)
        case measure => simp [intOf]; omega
      · rw [Bool.not_eq_true] at h3
        have hC : ∀ r w2, Ints w2 R1 r → Calls Try.prog 31 #[r, .int .i64 o[k]] w2 fun e w' => e = .returned (.bool false) ∧ w2 = w' := fun r w2 hr => by have := contains_any R1 o[k] r w2 hr; rw [h3] at this; exact this
        have HC := Lib.hid hC
        have e1 : legalR l o = false := legalR_no hlt (by rw [Hg.out, h3]; rfl)
        have E1 := Lib.hid e1
        clear h3 hC e1
        go_wp2_with (first | (go_at_call 12; refine HR.out.mono ?_; rintro e w2 ⟨r, rfl, hr, hb2⟩) | (go_at_call 31; refine (HC.out _ _ hr).mono ?_; rintro e w3 ⟨rfl, rfl⟩))
        go_ret
        rw [E1.out]
        exact ⟨rfl, hb.trans (hb2.mono hb.size)⟩
    · have e : k = o.length := by omega
      subst e
      go_wp2
      go_ret
      refine ⟨retb ?_, hb⟩
      unfold legalR
      rw [Hv.out, Hl.out]
      simp only [decide_true, Bool.true_and]
      symm
      rw [List.all_eq_true]
      intro n hn
      exact Hall.out n (by rw [Hl.out]; simpa using hn)
end Go.Proofs.Ytbcfanfnnmijdaa
