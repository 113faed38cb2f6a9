/- The reference's Ready, walked: it answers as the program's. No condition but that the arguments read as systems and integers. -/
import Derived.Test.YtbcfanfnnmijdaaRLegal
namespace Go.Proofs.Ytbcfanfnnmijdaa
open Go.RowKit

set_option maxRecDepth 100000 in
set_option maxHeartbeats 1000000 in
theorem refReady_any (l : List Sys) (d : List Int) (v dv : Value) (w : World) (hS : Syss w l v) (hok : ∀ s ∈ l, s.ok) (hD : Ints w d dv) :
    Calls Try.prog 19 #[v, dv] w fun e w' => ∃ r, e = .returned (.tuple #[r, .int .i64 (readyR l d).2]) ∧ Ints w' (readyR l d).1 r ∧ Below w.heap.size w w' := by
  obtain ⟨a, cap, rfl, hlc, hcm⟩ := hS.form
  obtain ⟨da, dcap, rfl, hdc, hdm⟩ := hD.form
  have HV := Lib.hid (refValid_any l _ w hS hok)
  have HS := Lib.hid hS
  have HD := Lib.hid hD
  clear hS hD hok
  cases hv : validS l
  · have hr : readyR l d = ([], 2) := by simp [readyR, hv]
    rw [hv] at HV
    rw [hr]
    clear hv hr
    go_enter Try.func19, Try.ntmps19
    go_wp2_with (go_at_call 20; refine HV.out.mono ?_; rintro e w1 ⟨rfl, hb1⟩)
    go_ret2
    exact ⟨_, rfl, Ints.nil _, hb1⟩
  · have h16 := valid_len hv
    rw [hv] at HV
    have Hno : Hid (doneOk l.length d = false → readyR l d = ([], 2)) := Lib.hid fun h => by simp [readyR, h]
    have Hyes : Hid (doneOk l.length d = true → readyR l d = (pick (rdy l (cnt d)) l.length, 0)) := Lib.hid fun h => by simp [readyR, h, hv]
    clear hv
    go_enter Try.func19, Try.ntmps19
    go_wp2_with (go_at_call 20; refine HV.out.mono ?_; rintro e w1 ⟨rfl, hb1⟩)
    have HS1 := Lib.hid (HS.out.below hb1 (Nat.le_refl _))
    have HD1 := Lib.hid (HD.out.below hb1 (Nat.le_refl _))
    have Hb1 := Lib.hid hb1
    clear hb1
    go_loopw [4, 5, 6, 15, 16, 17, 18, 19, 20, 21, 22, 23, 24, 25, 26, 27, 28, 29, 30, 31, 32, 33, 34, 35, 36, 37, 38, 39, 40, 41, 42, 43, 44] (fun _ _ t6 _ _ _ _ _ _ _ _ _ _ _ _ _ _ _ _ _ _ _ _ _ _ _ _ _ _ _ _ _ _ wr => ∃ i : Nat, i ≤ d.length ∧ t6 = .int .i64 i ∧ Hid (∀ (j : Nat) (h : j < d.length), j < i → 0 ≤ d[j] ∧ d[j] < l.length ∧ atI d d[j] = j) ∧ wr = w1) (fun _ _ t6 _ _ _ _ _ _ _ _ _ _ _ _ _ _ _ _ _ _ _ _ _ _ _ _ _ _ _ _ _ _ _ => d.length - (intOf t6).toNat)
    case atStart => exact ⟨0, by omega, rfl, Lib.hid (by intro j _ hj; omega), rfl⟩
    case round =>
      obtain ⟨i, hi, rfl, Hi, rfl⟩ := hrel
      by_cases hlt : i < d.length
      · have hlt1 : (i : Int) < d.length := by omega
        obtain ⟨db, doff, rfl, _, hdcl⟩ := HD1.out.at hlt
        have ci := hdcl i hlt
        have HAt := Lib.hid (at_any d d[i] _ wr HD1.out)
        obtain ⟨p1, p2, p3, q1, q2, q3, hpp⟩ : ∃ p1 p2 p3 : Bool, decide (d[i] < 0) = p1 ∧ decide (d[i] ≥ (l.length : Int)) = p2 ∧ (atI d d[i] != (i : Int)) = p3 ∧ ((p1 || (p2 || p3)) = false ↔ (0 ≤ d[i] ∧ d[i] < l.length ∧ atI d d[i] = i)) := by
          refine ⟨_, _, _, rfl, rfl, rfl, ?_⟩
          simp only [Bool.or_eq_false_iff, decide_eq_false_iff_not, bne_eq_false_iff_eq]
          constructor
          · rintro ⟨h1, h2, h3⟩; exact ⟨by omega, by omega, h3⟩
          · rintro ⟨h1, h2, h3⟩; exact ⟨by omega, by omega, h3⟩
        have Hpp := Lib.hid hpp
        have Hbad : Hid (¬ (0 ≤ d[i] ∧ d[i] < l.length ∧ atI d d[i] = i) → doneOk l.length d = false) := Lib.hid fun h => by
          rw [← Bool.not_eq_true, done_places]
          exact fun h2 => h (h2 i hlt)
        have Hstep : Hid ((0 ≤ d[i] ∧ d[i] < l.length ∧ atI d d[i] = i) → ∀ (j : Nat) (h : j < d.length), j < i + 1 → 0 ≤ d[j] ∧ d[j] < l.length ∧ atI d d[j] = j) := Lib.hid fun h j hj hji => by
          rcases Nat.lt_or_ge j i with h' | h'
          · exact Hi.out j hj h'
          · obtain rfl : j = i := by omega
            exact h
        generalize d[i] = x at *
        clear hdcl hpp
        cases p1 <;> cases p2 <;> cases p3
        all_goals
          go_wp2_with (go_at_call 38; refine HAt.out.mono ?_; rintro e w2 ⟨rfl, rfl⟩)
          first
          | (go_roundw
             case rel => exact ⟨i + 1, by omega, by go_num, Lib.hid (Hstep.out (Hpp.out.1 rfl)), by first | rfl | trivial⟩
             case measure => simp [intOf]; omega)
          | (go_ret2
             have h := Hno.out (Hbad.out (fun h => by have := Hpp.out.2 h; cases this))
             rw [h]
             exact ⟨_, rfl, Ints.nil _, Hb1.out⟩)
      · have hge : ¬ (i : Int) < d.length := by omega
        have hdn : doneOk l.length d = true := done_places.2 fun j hj => Hi.out j hj (by omega)
        have hr := Hyes.out hdn
        have Hr := Lib.hid hr
        clear hdn hr
        go_wp2
        obtain ⟨wo, rfl⟩ : ∃ wo : World, wo = wr := ⟨_, rfl⟩
        go_loopw [7, 8, 9, 10, 11, 45, 46, 47, 48, 49, 50, 51, 52, 53, 54, 55, 56, 57, 58, 59, 60, 61, 62, 63, 64, 65, 66, 67, 68, 69, 70, 71, 72, 73, 74, 75, 76, 77, 78] (fun t7 t8 _ _ _ _ _ _ _ _ _ _ _ _ _ _ _ _ _ _ _ _ _ _ _ _ _ _ _ _ _ _ _ _ _ _ _ _ _ wr => ∃ n : Nat, n ≤ l.length ∧ t8 = .int .i64 n ∧ wr.ownsRow wo.heap.size 3 1 t7 (pick (rdy l (cnt d)) n).length ((pick (rdy l (cnt d)) n).map (Value.int .i64)) ∧ Below wo.heap.size wo wr) (fun _ t8 _ _ _ _ _ _ _ _ _ _ _ _ _ _ _ _ _ _ _ _ _ _ _ _ _ _ _ _ _ _ _ _ _ _ _ _ _ _ => l.length - (intOf t8).toNat)
        case atStart => exact ⟨0, by omega, rfl, World.ownsRow_nil _ _ _ _, Below.refl _ _⟩
        case round =>
          obtain ⟨n, hn, rfl, hown, hb⟩ := hrel
          obtain ⟨wp, rfl⟩ : ∃ wp : World, wp = wr := ⟨_, rfl⟩
          have Hown := Lib.hid hown
          have Hb := Lib.hid hb
          have HD2 := Lib.hid (HD1.out.below hb (Nat.le_refl _))
          have hp := pick_len (rdy l (cnt d)) n
          have Hps := Lib.hid (pick_succ (rdy l (cnt d)) n)
          have Hrd := Lib.hid (rdy_places l d n)
          by_cases hnl : n < l.length
          · have hnl1 : (n : Int) < l.length := by omega
            have HAt := Lib.hid (at_any d (n : Int) _ wp HD2.out)
            have HN := Lib.hid (refNeeds_any l _ n wp (HS1.out.below hb (Nat.le_refl _)) hnl (by omega))
            generalize pick (fun k => cfl l k n) n = N at *
            obtain ⟨b0, hb0⟩ : ∃ b0 : Bool, decide (atI d (n : Int) < 0) = b0 := ⟨_, rfl⟩
            have Hb0 := Lib.hid hb0
            clear hown hb
            go_wp2_with (first | (go_at_call 38; refine HAt.out.mono ?_; rintro e w2 ⟨rfl, rfl⟩) | (go_at_call 24; refine HN.out.mono ?_; rintro e w2 ⟨nr, rfl, hnr, hb2⟩; obtain ⟨na, ncap, rfl, hnc, hnm⟩ := hnr.form))
            have HNr := Lib.hid hnr
            have HD3 := Lib.hid (HD2.out.below hb2 (Nat.le_refl _))
            have Hown3 := Lib.hid (own_below Hown.out hb2 (Nat.le_refl _))
            have Hb3 := Lib.hid (Hb.out.trans (hb2.mono Hb.out.size))
            clear hnr hb2 hb0
            go_loopw [9, 11, 58, 59, 60, 61, 62, 63, 64, 65, 66, 67, 68, 69, 70, 71, 72, 73] (fun t9 t11 _ _ _ _ _ _ _ _ _ _ _ _ _ _ _ _ wr => ∃ (k : Nat) (bf : Bool), k ≤ N.length ∧ t11 = .int .i64 k ∧ t9 = .bool bf ∧ Hid (bf = (b0 && (N.take k).all fun x => decide (0 ≤ atI d x))) ∧ wr = w2) (fun _ t11 _ _ _ _ _ _ _ _ _ _ _ _ _ _ _ _ _ => N.length - (intOf t11).toNat)
            case atStart => exact ⟨0, b0, by omega, rfl, rfl, Lib.hid (by simp), rfl⟩
            case round =>
              obtain ⟨k, bf, hk, rfl, rfl, Hbf, rfl⟩ := hrel
              by_cases hkl : k < N.length
              · have hkl1 : (k : Int) < N.length := by omega
                obtain ⟨nb, noff, rfl, _, hcn⟩ := HNr.out.at hkl
                have cn := hcn k hkl
                have HA2 := Lib.hid (at_any d N[k] _ wr HD3.out)
                have Htk := Lib.hid (List.take_succ_eq_append_getElem hkl)
                generalize N[k] = y at *
                clear hcn
                cases bf with
                | false =>
                  go_wp2
                  go_roundw
                  case rel => exact ⟨k + 1, false, by omega, by go_num, rfl, Lib.hid (by rw [Htk.out, List.all_append, ← Bool.and_assoc, ← Hbf.out]; rfl), by first | rfl | trivial⟩
                  case measure => simp [intOf]; omega
                | true =>
                  go_wp2_with (go_at_call 38; refine HA2.out.mono ?_; rintro e w3 ⟨rfl, rfl⟩)
                  go_roundw
                  case rel => exact ⟨k + 1, decide (0 ≤ atI d y), by omega, by go_num, by first | rfl | simp, Lib.hid (by rw [Htk.out, List.all_append, ← Bool.and_assoc, ← Hbf.out]; simp), by first | rfl | trivial⟩
                  case measure => simp [intOf]; omega
              · have hkl1 : ¬ (k : Int) < N.length := by omega
                have hfin : rdy l (cnt d) n = bf := by
                  have h := Hbf.out
                  rw [List.take_of_length_le (by omega)] at h
                  rw [Hrd.out, Hb0.out, h]
                have Hfin := Lib.hid hfin
                clear hfin
                have hb4 := Hb3.out.size
                have hown4 := Hown3.out
                cases bf with
                | false =>
                  have Hown4 := Lib.hid hown4
                  clear hown4
                  go_wp2
                  go_roundw
                  case rel => exact ⟨n + 1, by omega, by go_num, by rw [Hps.out, Hfin.out]; simpa using Hown4.out, Hb3.out⟩
                  case measure => simp [intOf]; omega
                | true =>
                  go_wp2_with (at_builtin; refine wpList_append_new rfl _ _ 27 rfl hown4 info_int Try.underlying27 rfl (by decide) rfl 1 1 rfl rfl rfl (by unfold maxLen; omega) (by omega) hb4 ?_; intro v' w' hown5 hg5 hb5)
                  go_roundw
                  case rel => exact ⟨n + 1, by omega, by go_num, by rw [Hps.out, Hfin.out]; simpa using hown5, Hb3.out.trans hb5⟩
                  case measure => simp [intOf]; omega
          · obtain rfl : n = l.length := by omega
            clear hown hb
            go_wp2
            go_ret2
            rw [Hr.out]
            exact ⟨_, rfl, Ints.of_own Hown.out, Hb1.out.trans (Hb.out.mono Hb1.out.size)⟩
end Go.Proofs.Ytbcfanfnnmijdaa
