/- OrderTells, walked: for all systems, all numbers and any two systems it answers true and writes nothing that was there. -/
import Derived.Test.YtbcfanfnnmijdaaRChain
import Derived.Test.YtbcfanfnnmijdaaWStages
namespace Go.Proofs.Ytbcfanfnnmijdaa
open Go.RowKit

set_option maxRecDepth 100000 in
set_option maxHeartbeats 4000000 in
theorem orderTells_any (l : List Sys) (d : List Int) (i : Int) (a b : Sys) (v dv : Value) (w : World) (hS : Syss w l v) (hok : ∀ s ∈ l, s.ok) (hD : Ints w d dv) (hdw : ∀ x ∈ d, (Lit.int .i64 x).wf = true) (_hi0 : -9223372036854775808 ≤ i) (_hi1 : i ≤ 9223372036854775807) :
    Calls Try.prog 6 #[v, dv, .int .i64 i, a.val, b.val] w fun e w' => e = .returned (.bool true) ∧ Below w.heap.size w w' := by
  obtain ⟨la, lcap, rfl, hlc, hlm⟩ := hS.form
  obtain ⟨da, dcap, rfl, hdc, hdm⟩ := hD.form
  obtain ⟨n1, r1, m1, p1⟩ := a
  obtain ⟨n2, r2, m2, p2⟩ := b
  unfold Sys.val
  have HS := Lib.hid hS
  have Hok := Lib.hid hok
  have HD := Lib.hid hD
  have Hdw := Lib.hid hdw
  clear hS hok hD hdw
  have hb0 : Below w.heap.size w ((w.alloc (.cells #[.string n1, .int .u32 (w32 r1), .int .u32 (w32 m1), .int .i64 p1] 35)).alloc (.cells #[.string n2, .int .u32 (w32 r2), .int .u32 (w32 m2), .int .i64 p2] 35)) := ((Below.refl _ _).alloc (Nat.le_refl _) _).alloc (by simp) _
  have hA := (OwnV.new w 35 [.string n1, .int .u32 (w32 r1), .int .u32 (w32 m1), .int .i64 p1]).alloc (.cells #[.string n2, .int .u32 (w32 r2), .int .u32 (w32 m2), .int .i64 p2] 35)
  have hB := OwnV.new (w.alloc (.cells #[.string n1, .int .u32 (w32 r1), .int .u32 (w32 m1), .int .i64 p1] 35)) 35 [.string n2, .int .u32 (w32 r2), .int .u32 (w32 m2), .int .i64 p2]
  have hs : (w.alloc (.cells #[.string n1, .int .u32 (w32 r1), .int .u32 (w32 m1), .int .i64 p1] 35)).heap.size = w.heap.size + 1 := by simp
  rw [hs] at hB
  have HA := Lib.hid hA
  have HB := Lib.hid hB
  have Hb0 := Lib.hid hb0
  clear hA hB hb0 hs
  obtain ⟨q1, q2, hq1, hq2, hqq⟩ : ∃ q1 q2 : Bool, decide ((l.length : Int) > 20) = q1 ∧ decide ((d.length : Int) > 20) = q2 ∧ ((q1 || q2) = false → l.length ≤ 20 ∧ d.length ≤ 20) := by
    refine ⟨_, _, rfl, rfl, fun h => ?_⟩
    simp only [Bool.or_eq_false_iff, decide_eq_false_iff_not] at h
    omega
  have hq4 : (q1 || q2) = true ∨ (q1 || q2) = false := by cases (q1 || q2) <;> simp
  rcases hq4 with hq4 | hq4
  · clear hqq
    cases q1 <;> cases q2
    all_goals first
    | (exfalso; revert hq4; decide)
    | (clear hq4
       go_enter Try.func6, Try.ntmps6
       go_wp2_with (go_at_call 15; refine (awake_any _).mono ?_; rintro e w3 ⟨rfl, hb4⟩)
       go_ret
       exact ⟨rfl, Hb0.out.trans (hb4.mono Hb0.out.size)⟩)
  · obtain ⟨h20, hd20⟩ := hqq hq4
    obtain ⟨rfl, rfl⟩ : q1 = false ∧ q2 = false := by revert hq4; cases q1 <;> cases q2 <;> decide
    clear hqq hq4
    go_enter Try.func6, Try.ntmps6
    go_wp2_with fail
    generalize (w.alloc (.cells #[.string n1, .int .u32 (w32 r1), .int .u32 (w32 m1), .int .i64 p1] 35)).alloc (.cells #[.string n2, .int .u32 (w32 r2), .int .u32 (w32 m2), .int .i64 p2] 35) = w0 at *
    have HS0 := Lib.hid (HS.out.below Hb0.out (Nat.le_refl _))
    have HD0 := Lib.hid (HD.out.below Hb0.out (Nat.le_refl _))
    have HRd : Hid ((readyR l d).2 = 0 ∨ (readyR l d).2 = 2) := Lib.hid (by unfold readyR; split <;> simp)
    cases hv : validS l
    · have HNr : Hid (needsR l i = ([], 2)) := Lib.hid (by simp [needsR, hv])
      have HRr : Hid (readyR l d = ([], 2)) := Lib.hid (by simp [readyR, hv])
      obtain ⟨N, nc, hNe, hN0, hN1⟩ : ∃ N nc, needsR l i = (N, nc) ∧ N = [] ∧ nc = 2 := ⟨_, _, HNr.out, rfl, rfl⟩
      obtain ⟨R, rc, hRe, hrc⟩ : ∃ R rc, readyR l d = (R, rc) ∧ rc = 2 := ⟨_, _, HRr.out, rfl⟩
      subst hN0; subst hN1; subst hrc
      have HN1 := Lib.hid (needsF_any l _ i w0 HS0.out Hok.out)
      rw [hNe] at HN1
      have Hv1 := Lib.hid hv
      have HReq := Lib.hid hRe
      clear hNe hRe hv
      go_at_call 18
      refine HN1.out.mono ?_
      rintro e w1 ⟨nr, rfl, hn, hb1⟩
      obtain ⟨na, ncap, rfl, _, _⟩ := hn.form
      have Hn1 := Lib.hid hn
      have Hb1 := Lib.hid hb1
      clear hn hb1
      go_wp2_with fail
      go_at_call 17
      refine (stages_any l _ _ (HS0.out.below Hb1.out (Nat.le_refl _)) Hok.out).mono ?_
      rintro e w2 ⟨sr, sc, xss, rfl, hsr, hb2, hst⟩
      obtain ⟨ssa, sscap, rfl, _, _⟩ := Sl.form hsr.choose_spec.1
      have Hst : Hid (sc = 2 ∧ xss = []) := Lib.hid (by rcases hst with ⟨h, h1, h2⟩ | ⟨h, h1, h2⟩ <;> first | exact ⟨h1, h2⟩ | (rw [Hv1.out] at h; cases h))
      have Hsr := Lib.hid hsr
      have Hb2 := Lib.hid (Hb1.out.trans (hb2.mono Hb1.out.size))
      have hb12 := Lib.hid hb2
      obtain rfl : sc = 2 := Hst.out.1
      obtain rfl : xss = [] := Hst.out.2
      clear hsr hb2 hst
      go_wp2_with fail
      have HR3 := Lib.hid (ready_any l d _ _ w2 (HS0.out.below Hb2.out (Nat.le_refl _)) Hok.out (HD0.out.below Hb2.out (Nat.le_refl _)) Hdw.out)
      rw [HReq.out] at HR3
      go_at_call 12
      refine HR3.out.mono ?_
      rintro e w3 ⟨rr, rfl, hr, hb3⟩
      obtain ⟨ra, rcap, rfl, _, _⟩ := hr.form
      have Hr3 := Lib.hid hr
      have Hb3 := Lib.hid (Hb2.out.trans (hb3.mono Hb2.out.size))
      have hb13 := Lib.hid hb3
      clear hr hb3
      go_wp2_with fail
      go_at_call 16
      refine (chain_any l _ _ (HS0.out.below Hb3.out (Nat.le_refl _)) Hok.out).mono ?_
      rintro e w4 ⟨cr, cc, cs, rfl, hcr, hb4, hct⟩
      obtain ⟨ca, ccap, rfl, _, _⟩ := hcr.form
      have Hct : Hid (cc = 2 ∧ cs = []) := Lib.hid (by rcases hct with ⟨h, h1, h2⟩ | ⟨h, h1, h2⟩ <;> first | exact ⟨h1, h2⟩ | (rw [Hv1.out] at h; cases h))
      have Hcr := Lib.hid hcr
      have Hb4 := Lib.hid (Hb3.out.trans (hb4.mono Hb3.out.size))
      have hb14 := Lib.hid hb4
      obtain rfl : cc = 2 := Hct.out.1
      obtain rfl : cs = [] := Hct.out.2
      clear hcr hb4 hct
      go_wp2_with fail
      have HR5 := Lib.hid (refReady_any l d _ _ w4 (HS0.out.below Hb4.out (Nat.le_refl _)) Hok.out (HD0.out.below Hb4.out (Nat.le_refl _)))
      rw [HReq.out] at HR5
      go_at_call 19
      refine HR5.out.mono ?_
      rintro e w5 ⟨xr, rfl, hx, hb5⟩
      obtain ⟨xa, xcap, rfl, _, _⟩ := hx.form
      have Hx5 := Lib.hid hx
      have Hb50 := Lib.hid (Hb4.out.trans (hb5.mono Hb4.out.size))
      have hb15 := Lib.hid hb5
      clear hx hb5
      go_wp2_with fail
      have HV6 := Lib.hid (refValid_any l _ w5 (HS0.out.below Hb50.out (Nat.le_refl _)) Hok.out)
      rw [Hv1.out] at HV6
      go_at_call 20
      refine HV6.out.mono ?_
      rintro e w6 ⟨rfl, hb6⟩
      have Hb5 := Lib.hid (Hb50.out.trans (hb6.mono Hb50.out.size))
      have Hx6 := Lib.hid (Hx5.out.below hb6 (Nat.le_refl _))
      have hb46 := hb15.out.trans (hb6.mono hb15.out.size)
      have hb36 := hb14.out.trans (hb46.mono hb14.out.size)
      have hb26 := hb13.out.trans (hb36.mono hb13.out.size)
      have Hr6 := Lib.hid (Hr3.out.below hb36 (Nat.le_refl _))
      have Hc6 := Lib.hid (Hcr.out.below hb46 (Nat.le_refl _))
      have Hs6 := Lib.hid (Hsr.out.below hb26 (Nat.le_refl _))
      have Hn6 := Lib.hid (Hn1.out.below (hb12.out.trans (hb26.mono hb12.out.size)) (Nat.le_refl _))
      clear hb6 hb46 hb36 hb26
      have hv := Hv1.out
      have hA5 := HA.out.below Hb5.out (Nat.le_refl _)
      have hB5 := HB.out.below Hb5.out (Nat.le_refl _)
      have a0 := hA5.cell (i := 0) rfl
      have a1 := hA5.cell (i := 1) rfl
      have a2 := hA5.cell (i := 2) rfl
      have a3 := hA5.cell (i := 3) rfl
      have b0 := hB5.cell (i := 0) rfl
      have b1 := hB5.cell (i := 1) rfl
      have b2 := hB5.cell (i := 2) rfl
      have b3 := hB5.cell (i := 3) rfl
      have HVa : Hid (∀ w', Below w6.heap.size w6 w' → Calls Try.prog 11 #[.slice la l.length lcap] w' fun e w2 => e = .returned (.bool false) ∧ Below w'.heap.size w' w2) := Lib.hid fun w' h => by
        have := valid_any l _ w' (HS0.out.below (Hb5.out.trans (h.mono Hb5.out.size)) (Nat.le_refl _)) Hok.out
        rwa [hv] at this
      have HLa : Hid (∀ w', Below w6.heap.size w6 w' → Calls Try.prog 13 #[.slice la l.length lcap, .slice da d.length dcap] w' fun e w2 => e = .returned (.bool (legalR l d)) ∧ Below w'.heap.size w' w2) := Lib.hid fun w' h =>
        legal_any l d _ _ w' (HS0.out.below (Hb5.out.trans (h.mono Hb5.out.size)) (Nat.le_refl _)) Hok.out (HD0.out.below (Hb5.out.trans (h.mono Hb5.out.size)) (Nat.le_refl _)) Hdw.out
      have HLr : Hid (∀ w', Below w6.heap.size w6 w' → Calls Try.prog 22 #[.slice la l.length lcap, .slice da d.length dcap] w' fun e w2 => e = .returned (.bool (legalR l d)) ∧ Below w'.heap.size w' w2) := Lib.hid fun w' h =>
        refLegal_any l d _ _ w' (HS0.out.below (Hb5.out.trans (h.mono Hb5.out.size)) (Nat.le_refl _)) Hok.out (HD0.out.below (Hb5.out.trans (h.mono Hb5.out.size)) (Nat.le_refl _))
      have HIn : Hid (∀ w', Below w6.heap.size w6 w' → Calls Try.prog 23 #[.slice ra R.length rcap, .slice xa R.length xcap] w' fun e w2 => e = .returned (.bool true) ∧ Below w'.heap.size w' w2) := Lib.hid fun w' h =>
        ints_same R _ _ w' (Hr6.out.below h (Nat.le_refl _)) (Hx6.out.below h (Nat.le_refl _))
      have Hv := Lib.hid hv
      generalize legalR l d = leg at HLa HLr
      obtain ⟨cf, hcf⟩ : ∃ cf, conf ⟨n1, r1, m1, p1⟩ ⟨n2, r2, m2, p2⟩ = cf := ⟨_, rfl⟩
      have HC1 : Hid (∀ w', Calls Try.prog 14 #[.agg #[.string n1, .int .u32 (w32 r1), .int .u32 (w32 m1), .int .i64 p1], .agg #[.string n2, .int .u32 (w32 r2), .int .u32 (w32 m2), .int .i64 p2]] w' fun e w2 => e = .returned (.bool cf) ∧ Below w'.heap.size w' w2) := Lib.hid fun w' => by have h := conflict_as hcf w'; exact h
      have HC2 : Hid (∀ w', Calls Try.prog 21 #[.agg #[.string n1, .int .u32 (w32 r1), .int .u32 (w32 m1), .int .i64 p1], .agg #[.string n2, .int .u32 (w32 r2), .int .u32 (w32 m2), .int .i64 p2]] w' fun e w2 => e = .returned (.bool cf) ∧ Below w'.heap.size w' w2) := Lib.hid fun w' => by have h := refConflict_as hcf w'; exact h
      clear hA5 hB5 hv hcf
      go_wp2_with fail
      refine wp_region_seq (fun w' => Below w6.heap.size w6 w') (by kernel_rfl) (by kernel_rfl) ((Below.refl _ _).drew) ?_
      repeat
        try simp only [Act.put, List.setIfInBounds_toArray, List.set_cons_succ, List.set_cons_zero]
        apply stepsSeq.cons
        · intro w' hb1
          have Hb1' := Lib.hid hb1
          have a0' := Below.keep hb1 a0
          have a1' := Below.keep hb1 a1
          have a2' := Below.keep hb1 a2
          have a3' := Below.keep hb1 a3
          have b0' := Below.keep hb1 b0
          have b1' := Below.keep hb1 b1
          have b2' := Below.keep hb1 b2
          have b3' := Below.keep hb1 b3
          simp only [Act.put, List.setIfInBounds_toArray, List.set_cons_succ, List.set_cons_zero]
          go_wp2_with (first | (go_at_call 11; refine (HVa.out _ Hb1'.out).mono ?_; rintro e w8 ⟨rfl, hb2⟩) | (go_at_call 14; refine (HC1.out _).mono ?_; rintro e w8 ⟨rfl, hb2⟩) | (go_at_call 21; refine (HC2.out _).mono ?_; rintro e w8 ⟨rfl, hb2⟩) | (go_at_call 13; refine (HLa.out _ Hb1'.out).mono ?_; rintro e w8 ⟨rfl, hb2⟩) | (go_at_call 22; refine (HLr.out _ Hb1'.out).mono ?_; rintro e w8 ⟨rfl, hb2⟩) | (go_at_call 23; refine (HIn.out _ Hb1'.out).mono ?_; rintro e w8 ⟨rfl, hb2⟩))
          first | exact ⟨rfl, Hb1'.out⟩ | exact ⟨rfl, Hb1'.out.trans (hb2.mono Hb1'.out.size)⟩
      try simp only [Act.put, List.setIfInBounds_toArray, List.set_cons_succ, List.set_cons_zero]
      refine stepsSeq.nil ?_
      intro w' hb1
      have Hb6 := Lib.hid (Hb5.out.trans (hb1.mono Hb5.out.size))
      have Hb6w := Lib.hid hb1
      clear a0 a1 a2 a3 b0 b1 b2 b3 hb1
      go_wp2_with (go_at_call 15; refine (awake_any _).mono ?_; rintro e w9 ⟨rfl, hb9⟩)
      go_ret
      have hb10 := Hb0.out.trans (Hb6.out.mono Hb0.out.size)
      exact ⟨rfl, hb10.trans (hb9.mono hb10.size)⟩
    · have h16 := valid_len hv
      have HNr : Hid ((0 ≤ i ∧ i < l.length ∧ needsR l i = (pick (fun k => cfl l k i.toNat) i.toNat, 0)) ∨ (¬ (0 ≤ i ∧ i < l.length) ∧ needsR l i = ([], 6))) := Lib.hid (by
        by_cases h : 0 ≤ i ∧ i < l.length
        · exact .inl ⟨h.1, h.2, by simp [needsR, hv, h]⟩
        · exact .inr ⟨h, by rw [needsR, hv, if_pos rfl, if_neg h]⟩)
      obtain ⟨N, nc, hNe⟩ : ∃ N nc, needsR l i = (N, nc) := ⟨_, _, rfl⟩
      obtain ⟨R, rc, hRe, hrc⟩ : ∃ R rc, readyR l d = (R, rc) ∧ (rc = 0 ∨ rc = 2) := ⟨_, _, rfl, HRd.out⟩
      rw [hNe] at HNr
      have HN1 := Lib.hid (needsF_any l _ i w0 HS0.out Hok.out)
      rw [hNe] at HN1
      have Hv1 := Lib.hid hv
      have HReq := Lib.hid hRe
      clear hNe hRe hv
      go_at_call 18
      refine HN1.out.mono ?_
      rintro e w1 ⟨nr, rfl, hn, hb1⟩
      obtain ⟨na, ncap, rfl, _, _⟩ := hn.form
      have Hn1 := Lib.hid hn
      have Hb1 := Lib.hid hb1
      clear hn hb1
      go_wp2_with fail
      go_at_call 17
      refine (stages_any l _ _ (HS0.out.below Hb1.out (Nat.le_refl _)) Hok.out).mono ?_
      rintro e w2 ⟨sr, sc, xss, rfl, hsr, hb2, hst⟩
      obtain ⟨ssa, sscap, rfl, _, _⟩ := Sl.form hsr.choose_spec.1
      have Hst : Hid (sc = 0 ∧ StagesOk l xss) := Lib.hid (by rcases hst with ⟨h, h1, h2⟩ | ⟨h, h1, h2⟩ <;> first | exact ⟨h1, h2⟩ | (rw [Hv1.out] at h; cases h))
      have Hsr := Lib.hid hsr
      have Hb2 := Lib.hid (Hb1.out.trans (hb2.mono Hb1.out.size))
      have hb12 := Lib.hid hb2
      obtain rfl : sc = 0 := Hst.out.1
      clear hsr hb2 hst
      go_wp2_with fail
      have HR3 := Lib.hid (ready_any l d _ _ w2 (HS0.out.below Hb2.out (Nat.le_refl _)) Hok.out (HD0.out.below Hb2.out (Nat.le_refl _)) Hdw.out)
      rw [HReq.out] at HR3
      go_at_call 12
      refine HR3.out.mono ?_
      rintro e w3 ⟨rr, rfl, hr, hb3⟩
      obtain ⟨ra, rcap, rfl, _, _⟩ := hr.form
      have Hr3 := Lib.hid hr
      have Hb3 := Lib.hid (Hb2.out.trans (hb3.mono Hb2.out.size))
      have hb13 := Lib.hid hb3
      clear hr hb3
      go_wp2_with fail
      go_at_call 16
      refine (chain_any l _ _ (HS0.out.below Hb3.out (Nat.le_refl _)) Hok.out).mono ?_
      rintro e w4 ⟨cr, cc, cs, rfl, hcr, hb4, hct⟩
      obtain ⟨ca, ccap, rfl, _, _⟩ := hcr.form
      have Hct : Hid (cc = 0 ∧ ChainOk l cs) := Lib.hid (by rcases hct with ⟨h, h1, h2⟩ | ⟨h, h1, h2⟩ <;> first | exact ⟨h1, h2⟩ | (rw [Hv1.out] at h; cases h))
      have Hcr := Lib.hid hcr
      have Hb4 := Lib.hid (Hb3.out.trans (hb4.mono Hb3.out.size))
      have hb14 := Lib.hid hb4
      obtain rfl : cc = 0 := Hct.out.1
      clear hcr hb4 hct
      go_wp2_with fail
      have HR5 := Lib.hid (refReady_any l d _ _ w4 (HS0.out.below Hb4.out (Nat.le_refl _)) Hok.out (HD0.out.below Hb4.out (Nat.le_refl _)))
      rw [HReq.out] at HR5
      go_at_call 19
      refine HR5.out.mono ?_
      rintro e w5 ⟨xr, rfl, hx, hb5⟩
      obtain ⟨xa, xcap, rfl, _, _⟩ := hx.form
      have Hx5 := Lib.hid hx
      have Hb50 := Lib.hid (Hb4.out.trans (hb5.mono Hb4.out.size))
      have hb15 := Lib.hid hb5
      clear hx hb5
      go_wp2_with fail
      have HV6 := Lib.hid (refValid_any l _ w5 (HS0.out.below Hb50.out (Nat.le_refl _)) Hok.out)
      rw [Hv1.out] at HV6
      go_at_call 20
      refine HV6.out.mono ?_
      rintro e w6 ⟨rfl, hb6⟩
      have Hb5 := Lib.hid (Hb50.out.trans (hb6.mono Hb50.out.size))
      have Hx6 := Lib.hid (Hx5.out.below hb6 (Nat.le_refl _))
      have hb46 := hb15.out.trans (hb6.mono hb15.out.size)
      have hb36 := hb14.out.trans (hb46.mono hb14.out.size)
      have hb26 := hb13.out.trans (hb36.mono hb13.out.size)
      have Hr6 := Lib.hid (Hr3.out.below hb36 (Nat.le_refl _))
      have Hc6 := Lib.hid (Hcr.out.below hb46 (Nat.le_refl _))
      have Hs6 := Lib.hid (Hsr.out.below hb26 (Nat.le_refl _))
      have Hn6 := Lib.hid (Hn1.out.below (hb12.out.trans (hb26.mono hb12.out.size)) (Nat.le_refl _))
      clear hb6 hb46 hb36 hb26
      have hv := Hv1.out
      have hA5 := HA.out.below Hb5.out (Nat.le_refl _)
      have hB5 := HB.out.below Hb5.out (Nat.le_refl _)
      have a0 := hA5.cell (i := 0) rfl
      have a1 := hA5.cell (i := 1) rfl
      have a2 := hA5.cell (i := 2) rfl
      have a3 := hA5.cell (i := 3) rfl
      have b0 := hB5.cell (i := 0) rfl
      have b1 := hB5.cell (i := 1) rfl
      have b2 := hB5.cell (i := 2) rfl
      have b3 := hB5.cell (i := 3) rfl
      have HVa : Hid (∀ w', Below w6.heap.size w6 w' → Calls Try.prog 11 #[.slice la l.length lcap] w' fun e w2 => e = .returned (.bool true) ∧ Below w'.heap.size w' w2) := Lib.hid fun w' h => by
        have := valid_any l _ w' (HS0.out.below (Hb5.out.trans (h.mono Hb5.out.size)) (Nat.le_refl _)) Hok.out
        rwa [hv] at this
      have HLa : Hid (∀ w', Below w6.heap.size w6 w' → Calls Try.prog 13 #[.slice la l.length lcap, .slice da d.length dcap] w' fun e w2 => e = .returned (.bool (legalR l d)) ∧ Below w'.heap.size w' w2) := Lib.hid fun w' h =>
        legal_any l d _ _ w' (HS0.out.below (Hb5.out.trans (h.mono Hb5.out.size)) (Nat.le_refl _)) Hok.out (HD0.out.below (Hb5.out.trans (h.mono Hb5.out.size)) (Nat.le_refl _)) Hdw.out
      have HLr : Hid (∀ w', Below w6.heap.size w6 w' → Calls Try.prog 22 #[.slice la l.length lcap, .slice da d.length dcap] w' fun e w2 => e = .returned (.bool (legalR l d)) ∧ Below w'.heap.size w' w2) := Lib.hid fun w' h =>
        refLegal_any l d _ _ w' (HS0.out.below (Hb5.out.trans (h.mono Hb5.out.size)) (Nat.le_refl _)) Hok.out (HD0.out.below (Hb5.out.trans (h.mono Hb5.out.size)) (Nat.le_refl _))
      have HIn : Hid (∀ w', Below w6.heap.size w6 w' → Calls Try.prog 23 #[.slice ra R.length rcap, .slice xa R.length xcap] w' fun e w2 => e = .returned (.bool true) ∧ Below w'.heap.size w' w2) := Lib.hid fun w' h =>
        ints_same R _ _ w' (Hr6.out.below h (Nat.le_refl _)) (Hx6.out.below h (Nat.le_refl _))
      have Hv := Lib.hid hv
      generalize legalR l d = leg at HLa HLr
      obtain ⟨cf, hcf⟩ : ∃ cf, conf ⟨n1, r1, m1, p1⟩ ⟨n2, r2, m2, p2⟩ = cf := ⟨_, rfl⟩
      have HC1 : Hid (∀ w', Calls Try.prog 14 #[.agg #[.string n1, .int .u32 (w32 r1), .int .u32 (w32 m1), .int .i64 p1], .agg #[.string n2, .int .u32 (w32 r2), .int .u32 (w32 m2), .int .i64 p2]] w' fun e w2 => e = .returned (.bool cf) ∧ Below w'.heap.size w' w2) := Lib.hid fun w' => by have h := conflict_as hcf w'; exact h
      have HC2 : Hid (∀ w', Calls Try.prog 21 #[.agg #[.string n1, .int .u32 (w32 r1), .int .u32 (w32 m1), .int .i64 p1], .agg #[.string n2, .int .u32 (w32 r2), .int .u32 (w32 m2), .int .i64 p2]] w' fun e w2 => e = .returned (.bool cf) ∧ Below w'.heap.size w' w2) := Lib.hid fun w' => by have h := refConflict_as hcf w'; exact h
      clear hA5 hB5 hv hcf
      go_wp2_with fail
      refine wp_region_seq (fun w' => Below w6.heap.size w6 w') (by kernel_rfl) (by kernel_rfl) ((Below.refl _ _).drew) ?_
      repeat
        try simp only [Act.put, List.setIfInBounds_toArray, List.set_cons_succ, List.set_cons_zero]
        apply stepsSeq.cons
        · intro w' hb1
          have Hb1' := Lib.hid hb1
          have a0' := Below.keep hb1 a0
          have a1' := Below.keep hb1 a1
          have a2' := Below.keep hb1 a2
          have a3' := Below.keep hb1 a3
          have b0' := Below.keep hb1 b0
          have b1' := Below.keep hb1 b1
          have b2' := Below.keep hb1 b2
          have b3' := Below.keep hb1 b3
          simp only [Act.put, List.setIfInBounds_toArray, List.set_cons_succ, List.set_cons_zero]
          go_wp2_with (first | (go_at_call 11; refine (HVa.out _ Hb1'.out).mono ?_; rintro e w8 ⟨rfl, hb2⟩) | (go_at_call 14; refine (HC1.out _).mono ?_; rintro e w8 ⟨rfl, hb2⟩) | (go_at_call 21; refine (HC2.out _).mono ?_; rintro e w8 ⟨rfl, hb2⟩) | (go_at_call 13; refine (HLa.out _ Hb1'.out).mono ?_; rintro e w8 ⟨rfl, hb2⟩) | (go_at_call 22; refine (HLr.out _ Hb1'.out).mono ?_; rintro e w8 ⟨rfl, hb2⟩) | (go_at_call 23; refine (HIn.out _ Hb1'.out).mono ?_; rintro e w8 ⟨rfl, hb2⟩))
          first | exact ⟨rfl, Hb1'.out⟩ | exact ⟨rfl, Hb1'.out.trans (hb2.mono Hb1'.out.size)⟩
      try simp only [Act.put, List.setIfInBounds_toArray, List.set_cons_succ, List.set_cons_zero]
      refine stepsSeq.nil ?_
      intro w' hb1
      have Hb6 := Lib.hid (Hb5.out.trans (hb1.mono Hb5.out.size))
      have Hb6w := Lib.hid hb1
      clear a0 a1 a2 a3 b0 b1 b2 b3 hb1
      have HSt6 := Lib.hid (refStages_any l _ w' (HS0.out.below Hb6.out (Nat.le_refl _)) h16)
      rcases HNr.out with ⟨h0, h1, h2⟩ | ⟨h1, h2⟩
      · cases h2
        have Hbx := Lib.hid (Hb0.out.trans (Hb6.out.mono Hb0.out.size))
        obtain ⟨iN, rfl⟩ := Int.eq_ofNat_of_zero_le h0
        rw [Int.toNat_natCast] at *
        go_wp2_with fail
        go_at_call 24
        refine (refNeeds_any l _ iN _ (HS0.out.below Hb6.out (Nat.le_refl _)) (by omega) (by omega)).mono ?_
        rintro e w10 ⟨nr2, rfl, hnr2, hb10⟩
        obtain ⟨na2, ncap2, rfl, _, _⟩ := hnr2.form
        have Hnr2 := Lib.hid hnr2
        have Hn10 := Lib.hid (Hn6.out.below (Hb6w.out.trans (hb10.mono Hb6w.out.size)) (Nat.le_refl _))
        have Hb10 := Lib.hid (Hb6.out.trans (hb10.mono Hb6.out.size))
        have hb610 := Lib.hid (Hb6w.out.trans (hb10.mono Hb6w.out.size))
        clear hnr2 hb10
        go_wp2_with fail
        go_at_call 23
        refine (ints_same _ _ _ _ Hn10.out Hnr2.out).mono ?_
        rintro e wt ⟨rfl, hb10'⟩
        have Hbt := Lib.hid (Hb10.out.trans (hb10'.mono Hb10.out.size))
        have Hb6t := Lib.hid (hb610.out.trans (hb10'.mono hb610.out.size))
        clear hb10'
        go_wp2_with fail
        go_at_call 25
        refine (refStages_any l _ _ (HS0.out.below Hbt.out (Nat.le_refl _)) h16).mono ?_
        rintro e w11 ⟨tr, yss, rfl, hyr, hb11, hst2⟩
        obtain ⟨ta, tcap, rfl, _, _⟩ := Sl.form hyr.choose_spec.1
        obtain rfl : yss = xss := stages_uniq hst2 Hst.out.2
        have Hyr := Lib.hid hyr
        have Hs11 := Lib.hid (Hs6.out.below (Hb6t.out.trans (hb11.mono Hb6t.out.size)) (Nat.le_refl _))
        have Hc11 := Lib.hid (Hc6.out.below (Hb6t.out.trans (hb11.mono Hb6t.out.size)) (Nat.le_refl _))
        have Hb11 := Lib.hid (Hbt.out.trans (hb11.mono Hbt.out.size))
        clear hyr hb11 hst2
        go_wp2_with fail
        go_at_call 26
        refine (refChain_any l cs _ _ (HS0.out.below Hb11.out (Nat.le_refl _)) h16 Hct.out.2).mono ?_
        rintro e w12 ⟨cr2, rfl, hcr2, hb12'⟩
        obtain ⟨ca2, ccap2, rfl, _, _⟩ := hcr2.form
        have Hc12 := Lib.hid (Hc11.out.below hb12' (Nat.le_refl _))
        have Hcr2 := Lib.hid hcr2
        have Hs12 := Lib.hid (Hs11.out.below hb12' (Nat.le_refl _))
        have Hy12 := Lib.hid (Hyr.out.below hb12' (Nat.le_refl _))
        have Hb12 := Lib.hid (Hb11.out.trans (hb12'.mono Hb11.out.size))
        clear hcr2 hb12'
        go_wp2_with fail
        go_at_call 23
        refine (ints_same cs _ _ _ Hc12.out Hcr2.out).mono ?_
        rintro e w13 ⟨rfl, hb13'⟩
        have Hs13 := Lib.hid (Hs12.out.below hb13' (Nat.le_refl _))
        have Hy13 := Lib.hid (Hy12.out.below hb13' (Nat.le_refl _))
        have Hb13 := Lib.hid (Hb12.out.trans (hb13'.mono Hb12.out.size))
        clear hb13'
        go_wp2_with fail
        go_loopw [10, 23, 173, 174, 175, 176, 177, 178, 179, 180, 181, 182, 183, 184, 185, 186] (fun _ _ t173 _ _ _ _ _ _ _ _ _ _ _ _ _ wr => ∃ k : Nat, k ≤ yss.length ∧ t173 = .int .i64 k ∧ Below w13.heap.size w13 wr) (fun _ _ t173 _ _ _ _ _ _ _ _ _ _ _ _ _ _ => yss.length - (intOf t173).toNat)
        case atStart => exact ⟨0, by omega, rfl, Below.refl _ _⟩
        case round =>
          obtain ⟨k, hk, rfl, hb14'⟩ := hrel
          by_cases hkl : k < yss.length
          · have hkl1 : (k : Int) < yss.length := by omega
            obtain ⟨sb1, so1, rfl, hs1⟩ := (Hs13.out.below hb14' (Nat.le_refl _)).at (by omega)
            obtain ⟨sb2, so2, rfl, hs2⟩ := (Hy13.out.below hb14' (Nat.le_refl _)).at (by omega)
            obtain ⟨u1, cu1, hu1⟩ := hs1 k hkl
            obtain ⟨u2, cu2, hu2⟩ := hs2 k hkl
            have HI2 : Hid (∀ w', Below wr.heap.size wr w' → Calls Try.prog 23 #[u1, u2] w' fun e w2 => e = .returned (.bool true) ∧ Below w'.heap.size w' w2) := Lib.hid fun w' h => ints_same _ _ _ w' (hu1.below h (Nat.le_refl _)) (hu2.below h (Nat.le_refl _))
            have Hb14 := Lib.hid hb14'
            have hsz : w13.heap.size ≤ wr.heap.size := hb14'.size
            clear hs1 hs2 hu1 hu2 hb14'
            go_wp2
            refine wp_region_seq (fun w' => Below wr.heap.size wr w') (by kernel_rfl) (by kernel_rfl) ((Below.refl _ _).drew) ?_
            repeat
              try simp only [Act.put, List.setIfInBounds_toArray, List.set_cons_succ, List.set_cons_zero]
              apply stepsSeq.cons
              · intro w' hb1
                have Hb1' := Lib.hid hb1
                have cu1' := Below.keep hb1 cu1
                have cu2' := Below.keep hb1 cu2
                simp only [Act.put, List.setIfInBounds_toArray, List.set_cons_succ, List.set_cons_zero]
                go_wp2_with (go_at_call 23; refine (HI2.out _ Hb1'.out).mono ?_; rintro e w8 ⟨rfl, hb2⟩)
                first | exact ⟨rfl, Hb1'.out⟩ | exact ⟨rfl, Hb1'.out.trans (hb2.mono Hb1'.out.size)⟩
            try simp only [Act.put, List.setIfInBounds_toArray, List.set_cons_succ, List.set_cons_zero]
            refine stepsSeq.nil ?_
            intro w' hb1
            have Hb15 := Lib.hid (Hb14.out.trans (hb1.mono hsz))
            clear cu1 cu2 hb1
            go_wp2
            go_roundw
            case rel => exact ⟨k + 1, by omega, by go_num, Hb15.out⟩
            case measure => simp [intOf]; omega
          · obtain rfl : k = yss.length := by omega
            have hkl1 : ¬ (yss.length : Int) < yss.length := by omega
            have Hb14 := Lib.hid (Hb0.out.trans ((Hb13.out.trans (hb14'.mono Hb13.out.size)).mono Hb0.out.size))
            clear hb14'
            go_wp2_with (go_at_call 15; refine (awake_any _).mono ?_; rintro e w9 ⟨rfl, hb9⟩)
            go_ret
            exact ⟨rfl, Hb14.out.trans (hb9.mono Hb14.out.size)⟩
      · cases h2
        obtain ⟨q1, q2, hq1, hq2, hqq⟩ : ∃ q1 q2 : Bool, decide (i < 0) = q1 ∧ decide (i ≥ (l.length : Int)) = q2 ∧ (q1 || q2) = true := by
          refine ⟨_, _, rfl, rfl, ?_⟩
          simp only [Bool.or_eq_true, decide_eq_true_eq]
          omega
        have Hbt := Hb6
        have Hb6t := Hb6w
        cases q1 <;> cases q2
        all_goals first
        | (exfalso; revert hqq; decide)
        | (clear hqq h1
           go_wp2_with fail
           go_at_call 25
           refine (refStages_any l _ _ (HS0.out.below Hbt.out (Nat.le_refl _)) h16).mono ?_
           rintro e w11 ⟨tr, yss, rfl, hyr, hb11, hst2⟩
           obtain ⟨ta, tcap, rfl, _, _⟩ := Sl.form hyr.choose_spec.1
           obtain rfl : yss = xss := stages_uniq hst2 Hst.out.2
           have Hyr := Lib.hid hyr
           have Hs11 := Lib.hid (Hs6.out.below (Hb6t.out.trans (hb11.mono Hb6t.out.size)) (Nat.le_refl _))
           have Hc11 := Lib.hid (Hc6.out.below (Hb6t.out.trans (hb11.mono Hb6t.out.size)) (Nat.le_refl _))
           have Hb11 := Lib.hid (Hbt.out.trans (hb11.mono Hbt.out.size))
           clear hyr hb11 hst2
           go_wp2_with fail
           go_at_call 26
           refine (refChain_any l cs _ _ (HS0.out.below Hb11.out (Nat.le_refl _)) h16 Hct.out.2).mono ?_
           rintro e w12 ⟨cr2, rfl, hcr2, hb12'⟩
           obtain ⟨ca2, ccap2, rfl, _, _⟩ := hcr2.form
           have Hc12 := Lib.hid (Hc11.out.below hb12' (Nat.le_refl _))
           have Hcr2 := Lib.hid hcr2
           have Hs12 := Lib.hid (Hs11.out.below hb12' (Nat.le_refl _))
           have Hy12 := Lib.hid (Hyr.out.below hb12' (Nat.le_refl _))
           have Hb12 := Lib.hid (Hb11.out.trans (hb12'.mono Hb11.out.size))
           clear hcr2 hb12'
           go_wp2_with fail
           go_at_call 23
           refine (ints_same cs _ _ _ Hc12.out Hcr2.out).mono ?_
           rintro e w13 ⟨rfl, hb13'⟩
           have Hs13 := Lib.hid (Hs12.out.below hb13' (Nat.le_refl _))
           have Hy13 := Lib.hid (Hy12.out.below hb13' (Nat.le_refl _))
           have Hb13 := Lib.hid (Hb12.out.trans (hb13'.mono Hb12.out.size))
           clear hb13'
           go_wp2_with fail
           go_loopw [10, 23, 173, 174, 175, 176, 177, 178, 179, 180, 181, 182, 183, 184, 185, 186] (fun _ _ t173 _ _ _ _ _ _ _ _ _ _ _ _ _ wr => ∃ k : Nat, k ≤ yss.length ∧ t173 = .int .i64 k ∧ Below w13.heap.size w13 wr) (fun _ _ t173 _ _ _ _ _ _ _ _ _ _ _ _ _ _ => yss.length - (intOf t173).toNat)
           case atStart => exact ⟨0, by omega, rfl, Below.refl _ _⟩
           case round =>
             obtain ⟨k, hk, rfl, hb14'⟩ := hrel
             by_cases hkl : k < yss.length
             · have hkl1 : (k : Int) < yss.length := by omega
               obtain ⟨sb1, so1, rfl, hs1⟩ := (Hs13.out.below hb14' (Nat.le_refl _)).at (by omega)
               obtain ⟨sb2, so2, rfl, hs2⟩ := (Hy13.out.below hb14' (Nat.le_refl _)).at (by omega)
               obtain ⟨u1, cu1, hu1⟩ := hs1 k hkl
               obtain ⟨u2, cu2, hu2⟩ := hs2 k hkl
               have HI2 : Hid (∀ w', Below wr.heap.size wr w' → Calls Try.prog 23 #[u1, u2] w' fun e w2 => e = .returned (.bool true) ∧ Below w'.heap.size w' w2) := Lib.hid fun w' h => ints_same _ _ _ w' (hu1.below h (Nat.le_refl _)) (hu2.below h (Nat.le_refl _))
               have Hb14 := Lib.hid hb14'
               have hsz : w13.heap.size ≤ wr.heap.size := hb14'.size
               clear hs1 hs2 hu1 hu2 hb14'
               go_wp2
               refine wp_region_seq (fun w' => Below wr.heap.size wr w') (by kernel_rfl) (by kernel_rfl) ((Below.refl _ _).drew) ?_
               repeat
                 try simp only [Act.put, List.setIfInBounds_toArray, List.set_cons_succ, List.set_cons_zero]
                 apply stepsSeq.cons
                 · intro w' hb1
                   have Hb1' := Lib.hid hb1
                   have cu1' := Below.keep hb1 cu1
                   have cu2' := Below.keep hb1 cu2
                   simp only [Act.put, List.setIfInBounds_toArray, List.set_cons_succ, List.set_cons_zero]
                   go_wp2_with (go_at_call 23; refine (HI2.out _ Hb1'.out).mono ?_; rintro e w8 ⟨rfl, hb2⟩)
                   first | exact ⟨rfl, Hb1'.out⟩ | exact ⟨rfl, Hb1'.out.trans (hb2.mono Hb1'.out.size)⟩
               try simp only [Act.put, List.setIfInBounds_toArray, List.set_cons_succ, List.set_cons_zero]
               refine stepsSeq.nil ?_
               intro w' hb1
               have Hb15 := Lib.hid (Hb14.out.trans (hb1.mono hsz))
               clear cu1 cu2 hb1
               go_wp2
               go_roundw
               case rel => exact ⟨k + 1, by omega, by go_num, Hb15.out⟩
               case measure => simp [intOf]; omega
             · obtain rfl : k = yss.length := by omega
               have hkl1 : ¬ (yss.length : Int) < yss.length := by omega
               have Hb14 := Lib.hid (Hb0.out.trans ((Hb13.out.trans (hb14'.mono Hb13.out.size)).mono Hb0.out.size))
               clear hb14'
               go_wp2_with (go_at_call 15; refine (awake_any _).mono ?_; rintro e w9 ⟨rfl, hb9⟩)
               go_ret
               exact ⟨rfl, Hb14.out.trans (hb9.mono Hb14.out.size)⟩)
end Go.Proofs.Ytbcfanfnnmijdaa
