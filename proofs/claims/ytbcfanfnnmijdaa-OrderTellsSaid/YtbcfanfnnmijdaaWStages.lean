/- OrderStages, walked: for every list of numbers and all turns it answers true and writes nothing that was there. -/
import Derived.Test.YtbcfanfnnmijdaaStagesM
import Derived.Test.YtbcfanfnnmijdaaRegion4
import Derived.Test.YtbcfanfnnmijdaaWChains
namespace Go.Proofs.Ytbcfanfnnmijdaa
open Go.RowKit

theorem Rows2.at {w : World} {xss : List (List Int)} {a : Option Addr} {n cap : Nat} (h : Rows2 w xss (.slice a n cap)) (h0 : 0 < xss.length) :
    ∃ b off, a = some ⟨b, off, none⟩ ∧ ∀ (k : Nat) (h : k < xss.length), ∃ u, w.cell? ⟨b, off + k, none⟩ = some u ∧ Ints w xss[k] u := by
  obtain ⟨vs, hs, hr, hi⟩ := h
  obtain ⟨b, off, e, _, hc⟩ := Sl.at (by omega) hs h0
  refine ⟨b, off, e, fun k hk => ?_⟩
  have hk' : k < vs.length := by omega
  have := hc k (by omega)
  rw [List.getElem?_eq_getElem hk'] at this
  exact ⟨_, this, (hi k _ _ (List.getElem?_eq_getElem hk') (List.getElem?_eq_getElem hk)).1⟩
theorem Rows2.below {w w' : World} {xss : List (List Int)} {v : Value} {B : Nat} (h : Rows2 w xss v) (hb : Below B w w') (hB : w.heap.size ≤ B) : Rows2 w' xss v := by
  obtain ⟨vs, hs, hr⟩ := h
  exact ⟨vs, Sl.below (by omega) hs hb hB, hr.below hb hB⟩
theorem Ints.drop {w : World} {xs : List Int} {b off n cap : Nat} (h : Ints w xs (.slice (some ⟨b, off, none⟩) n cap)) (k : Nat) (hk : k < xs.length) : Ints w (xs.drop k) (.slice (some ⟨b, off + k, none⟩) (n - k) (cap - k)) := by
  obtain ⟨a', cap', e, h2, h3, h4, h5⟩ := h
  cases e
  have hl : (xs.drop k).length = xs.length - k := by simp
  unfold Ints
  rw [hl]
  refine ⟨_, _, rfl, by omega, by omega, by simp, fun hn => ?_⟩
  obtain ⟨b', off', e, hc⟩ := h5 (by omega)
  cases e
  refine ⟨b, off + k, rfl, fun j hj => ?_⟩
  rw [Nat.add_assoc, hc (k + j) (by omega), List.map_drop, List.getElem?_drop]
theorem all_one (xs : List Int) : (xs.map (Value.int .i64)).all (fun u => u.oneCell') = true := by simp [Value.oneCell']
theorem own_drew {w : World} {base : Nat} {e : TypeId} {sz : Nat} {v : Value} {n : Nat} {xs : List Value} (h : w.ownsRow base e sz v n xs) : w.drew.ownsRow base e sz v n xs := h
theorem Ints.drew {w : World} {xs : List Int} {v : Value} (h : Ints w xs v) : Ints w.drew xs v := h

set_option maxRecDepth 100000 in
set_option maxHeartbeats 2000000 in
theorem orderStages_any (l : List (BitVec 32)) (zs : List Int) (v pv : Value) (w : World) (hL : Words w l v) (hP : Bytes8 w zs pv) :
    Calls Try.prog 7 #[v, pv] w fun e w' => e = .returned (.bool true) ∧ Below w.heap.size w w' := by
  obtain ⟨pa, pcap, rfl, hpc, hpm⟩ := hP.1.form
  have HB := Lib.hid (built_valid l v w hL)
  have hST : Hid (∀ s sv w1, Syss w1 s sv → (∀ x ∈ s, x.ok) → validS s = true → Calls Try.prog 17 #[sv] w1 fun e w' => ∃ r xs, e = .returned (.tuple #[r, .int .i64 0]) ∧ Rows2 w' xs r ∧ Below w1.heap.size w1 w' ∧ StagesOk s xs) := Lib.hid fun s sv w1 h1 h2 h3 =>
    (stages_any s sv w1 h1 h2).mono fun e w' ⟨r, c, xs, he, hi, hb, hc⟩ => by
      rcases hc with ⟨h, _⟩ | ⟨_, rfl, hc⟩
      · rw [h3] at h; cases h
      · exact ⟨r, xs, he, hi, hb, hc⟩
  go_enter Try.func7, Try.ntmps7
  go_wp2_with fail
  go_at_call 10
  refine HB.out.mono ?_
  rintro e w0 ⟨sv, s, rfl, hS, hv, hok, hb1⟩
  obtain ⟨sa, scap, rfl, hsc, hsm⟩ := hS.form
  have hs16 := valid_len hv
  have Hv := Lib.hid hv
  have Hok := Lib.hid hok
  have HS0 := Lib.hid hS
  have HP := Lib.hid hP
  clear hS hok hv hP hL
  go_wp2_with fail
  go_at_call 17
  refine (hST.out _ _ _ HS0.out Hok.out Hv.out).mono ?_
  rintro e w1 ⟨r, xss, rfl, hr, hb2, hso⟩
  obtain ⟨lev, L⟩ := stages_lev hso
  have HL := Lib.hid L
  have hxl : xss.length ≤ 16 := by have := chain_stages_len hso; omega
  have HS1 := Lib.hid (HS0.out.below hb2 (Nat.le_refl _))
  have HR1 := Lib.hid hr
  have Hb1 := Lib.hid (hb1.trans (hb2.mono hb1.size))
  obtain ⟨ra, rcap, rfl, hrc, hrm⟩ := Sl.form hr.choose_spec.1
  obtain ⟨t, h1, h2⟩ : ∃ t : Bool, ((xss.length : Int) == 0) = t ∧ ((s.length : Int) == 0) = t := by
    have hz := L.zero
    by_cases h : xss.length = 0
    · exact ⟨true, by simp [h], by simp [hz.1 h]⟩
    · exact ⟨false, by rw [beq_eq_false_iff_ne]; omega, by rw [beq_eq_false_iff_ne]; have := mt hz.2 h; omega⟩
  clear L hso hr hb1 hb2
  go_wp2_with fail
  clear h1 h2
  go_loopw [4, 8, 9, 10, 11, 12, 14, 15, 16, 17, 19, 20, 43, 44, 45, 46, 47, 48, 49, 50, 51, 52, 53, 54, 55, 56, 57, 58, 59, 60, 61, 62, 63, 64, 65, 66, 67, 68, 69, 70, 71, 72, 73, 74, 75, 76, 77, 78, 79, 80, 81, 82, 83, 84, 85, 86, 87, 88, 89, 90, 91, 92, 93, 94, 95, 96, 97, 98, 99, 100, 101, 102, 103, 104, 105, 106, 107, 108, 109, 110, 111, 112, 113, 114, 115, 116, 117, 118, 119, 120, 121, 122, 123, 124, 125, 126, 127, 128, 129, 130, 131, 132, 133, 134, 135, 136, 137, 138, 139] (fun _ t8 _ _ _ _ _ _ _ _ _ _ t43 _ _ _ _ _ _ _ _ _ _ _ _ _ _ _ _ _ _ _ _ _ _ _ _ _ _ _ _ _ _ _ _ _ _ _ _ _ _ _ _ _ _ _ _ _ _ _ _ _ _ _ _ _ _ _ _ _ _ _ _ _ _ _ _ _ _ _ _ _ _ _ _ _ _ _ _ _ _ _ _ _ _ _ _ _ _ _ _ _ _ _ _ _ _ _ _ wr => ∃ (n : Nat) (o : List Int), n ≤ xss.length ∧ t43 = .int .i64 n ∧ OSt s lev n o ∧ wr.ownsRow w1.heap.size 3 1 t8 o.length (o.map (Value.int .i64)) ∧ Below w1.heap.size w1 wr) (fun _ _ _ _ _ _ _ _ _ _ _ _ t43 _ _ _ _ _ _ _ _ _ _ _ _ _ _ _ _ _ _ _ _ _ _ _ _ _ _ _ _ _ _ _ _ _ _ _ _ _ _ _ _ _ _ _ _ _ _ _ _ _ _ _ _ _ _ _ _ _ _ _ _ _ _ _ _ _ _ _ _ _ _ _ _ _ _ _ _ _ _ _ _ _ _ _ _ _ _ _ _ _ _ _ _ _ _ _ _ _ => xss.length - (intOf t43).toNat)
  case atStart => exact ⟨0, [], by omega, rfl, OSt.start, World.ownsRow_nil _ _ _ _, Below.refl _ _⟩
  case round =>
    obtain ⟨n, o, hn, rfl, ho, hown, hb⟩ := hrel
    obtain ⟨wo, rfl⟩ : ∃ wo : World, wo = wr := ⟨_, rfl⟩
    by_cases hlt : n < xss.length
    · obtain ⟨rb, roff, rfl, hrc⟩ := HR1.out.at (by omega)
      obtain ⟨u, cu1, hu1⟩ := hrc n hlt
      obtain ⟨ua, ucap, rfl, huc, hum⟩ := hu1.form
      have hpos := HL.out.pos hlt
      obtain ⟨ub, uoff, rfl, hublt, _⟩ := hu1.at hpos
      have cu := Below.keep hb cu1
      have hu := hu1.below hb (Nat.le_refl _)
      have Hu1 := Lib.hid hu1
      clear cu1 hu1
      have Hu := Lib.hid hu
      have Ho := Lib.hid ho
      have Hown := Lib.hid hown
      have Hb := Lib.hid hb
      have hp1 : ((xss[n].length : Int) == 0) = false := by rw [beq_eq_false_iff_ne]; omega
      generalize hR : xss[n] = R at *
      have HR := Lib.hid hR
      clear hR hrc hu ho hown hb
      go_wp2
      go_loopw [4, 11, 12, 14, 15, 16, 17, 19, 53, 54, 55, 56, 57, 58, 59, 60, 61, 62, 63, 64, 65, 66, 67, 68, 69, 70, 71, 72, 73, 74, 75, 76, 77, 78, 79, 80, 81, 82, 83, 84, 85, 86, 87, 88, 89, 90, 91, 92, 93, 94, 95, 96, 97, 98, 99, 100, 101, 102, 103, 104, 105, 106, 107, 108, 109, 110, 111, 112, 113, 114, 115, 116, 117] (fun _ _ _ _ _ _ _ _ t53 _ _ _ _ _ _ _ _ _ _ _ _ _ _ _ _ _ _ _ _ _ _ _ _ _ _ _ _ _ _ _ _ _ _ _ _ _ _ _ _ _ _ _ _ _ _ _ _ _ _ _ _ _ _ _ _ _ _ _ _ _ _ _ _ wr => ∃ i : Nat, i ≤ R.length ∧ t53 = .int .i64 i ∧ Below wo.heap.size wo wr) (fun _ _ _ _ _ _ _ _ t53 _ _ _ _ _ _ _ _ _ _ _ _ _ _ _ _ _ _ _ _ _ _ _ _ _ _ _ _ _ _ _ _ _ _ _ _ _ _ _ _ _ _ _ _ _ _ _ _ _ _ _ _ _ _ _ _ _ _ _ _ _ _ _ _ _ => R.length - (intOf t53).toNat)
      case atStart => exact ⟨0, by omega, rfl, Below.refl _ _⟩
      case round =>
        obtain ⟨i, hi, rfl, hb3⟩ := hrel
        obtain ⟨wp, rfl⟩ : ∃ wp : World, wp = wr := ⟨_, rfl⟩
        have Hb3 := Lib.hid hb3
        clear hb3
        by_cases hil : i < R.length
        · have hI := Hu.out.below Hb3.out (Nat.le_refl _)
          obtain ⟨b2, off2, he2, _, hc⟩ := hI.at hil
          cases he2
          have ci := hc i hil
          have hmem : ∀ j (h : j < R.length), 0 ≤ R[j] ∧ R[j] < s.length ∧ lev (R[j]).toNat = n := fun j hj => (HL.out.mem hlt).1 (by rw [HR.out]; exact List.getElem_mem hj)
          have hrise : ∀ j (h : j < i), R[j] < R[i] := fun j hj => by
            have e := HR.out
            subst e
            exact HL.out.rise hlt hj hil
          obtain ⟨g0, g1, g2⟩ := hmem i hil
          have Htake := Lib.hid (hI.take i (by omega))
          have Hmem := Lib.hid hmem
          have Hrise := Lib.hid hrise
          generalize hA : R[i] = A' at *
          obtain ⟨A, rfl⟩ := Int.eq_ofNat_of_zero_le g0
          rw [Int.toNat_natCast] at g2
          have Hlev := Lib.hid g2
          have hAl : A < s.length := by omega
          have HAe := Lib.hid hA
          have hi1 : (i : Int) ≤ R.length := by omega
          clear hmem hrise hI hc g2 hA
          go_wp2
          go_loopw [4, 14, 62, 63, 64, 65, 66, 67, 68, 69, 70, 71, 72, 73, 74, 75, 76, 77, 78, 79, 80] (fun _ _ t62 _ _ _ _ _ _ _ _ _ _ _ _ _ _ _ _ _ _ wr => ∃ j : Nat, j ≤ i ∧ t62 = .int .i64 j ∧ Below wp.heap.size wp wr) (fun _ _ t62 _ _ _ _ _ _ _ _ _ _ _ _ _ _ _ _ _ _ _ => i - (intOf t62).toNat)
          case atStart => exact ⟨0, by omega, rfl, Below.refl _ _⟩
          case round =>
            obtain ⟨j, hj, rfl, hb4⟩ := hrel
            by_cases hjl : j < i
            · have hb14 := Hb.out.trans ((Hb3.out.trans (hb4.mono Hb3.out.size)).mono Hb.out.size)
              have hS := HS1.out.below hb14 (Nat.le_refl _)
              obtain ⟨b3, off3, he3, _, hc3⟩ := (Hu.out.below (Hb3.out.trans (hb4.mono Hb3.out.size)) (Nat.le_refl _)).at hil
              cases he3
              have cj := hc3 j (by omega)
              obtain ⟨k0, k1, k2⟩ := Hmem.out j (by omega)
              have hlt2 := Hrise.out j hjl
              generalize R[j] = B' at *
              obtain ⟨B, rfl⟩ := Int.eq_ofNat_of_zero_le k0
              rw [Int.toNat_natCast] at k2
              have hBl : B < s.length := by omega
              have HC := Lib.hid (conflict_as (HL.out.free hAl hBl Hlev.out k2 (by omega)))
              obtain ⟨sb, soff, rfl, _, hsc⟩ := hS.at hAl
              obtain ⟨a0, a1, a2, a3⟩ := hsc A hAl
              obtain ⟨b0, b1, b2, b3⟩ := hsc B hBl
              have hd1 : decide ((B : Int) ≥ A) = false := by simp only [ge_iff_le, decide_eq_false_iff_not]; omega
              have hA1 : (A : Int) < s.length := by omega
              have hB1 : (B : Int) < s.length := by omega
              have Hb4 := Lib.hid hb4
              have hsz : wp.heap.size ≤ wr.heap.size := hb4.size
              clear k2 hS hsc hc3 hb14 hb4
              go_wp2
              refine wp_region_seq (fun w' => Below wr.heap.size wr w') (by kernel_rfl) (by kernel_rfl) ((Below.refl _ _).drew) ?_
              repeat
                try simp only [Act.put, List.setIfInBounds_toArray, List.set_cons_succ, List.set_cons_zero]
                apply stepsSeq.cons
                · intro w' hb1
                  have Hb1' := Lib.hid hb1
                  have a0' := Below.keep hb1 a0
                  have a1' := Below.keep hb1 a1
                  have a2' := Below.keep hb1 a2
                  have a3' := Below.keep hb1 a3
                  have b0' := Below.keep hb1 b0
                  have b1' := Below.keep hb1 b1
                  have b2' := Below.keep hb1 b2
                  have b3' := Below.keep hb1 b3
                  simp only [Act.put, List.setIfInBounds_toArray, List.set_cons_succ, List.set_cons_zero]
                  go_wp2_with (go_at_call 14; refine (HC.out _).mono ?_; rintro e w3 ⟨rfl, hb2⟩)
                  first | exact ⟨rfl, Hb1'.out⟩ | exact ⟨rfl, Hb1'.out.trans (hb2.mono Hb1'.out.size)⟩
              try simp only [Act.put, List.setIfInBounds_toArray, List.set_cons_succ, List.set_cons_zero]
              refine stepsSeq.nil ?_
              intro w' hb1
              have hb5 := Hb4.out.trans (hb1.mono hsz)
              clear cj a0 a1 a2 a3 b0 b1 b2 b3 hb1
              go_wp2
              go_roundw
              case rel => exact ⟨j + 1, by omega, by go_num, hb5⟩
              case measure => simp [intOf]; omega
            · have hjn : ¬ (j : Int) < i := by omega
              have Hb4 := Lib.hid hb4
              clear hb4
              have hS := HS1.out.below (Hb.out.trans ((Hb3.out.trans (Hb4.out.mono Hb3.out.size)).mono Hb.out.size)) (Nat.le_refl _)
              have HN := Lib.hid (needs_at hS Hok.out Hv.out (a := (A : Int)) (by omega) (by omega))
              rw [Int.toNat_natCast] at HN
              obtain ⟨hn0, hn1⟩ := HL.out.needs hlt hAl Hlev.out
              generalize hNe : pick (fun k => cfl s k A) A = N at *
              have Hn0 := Lib.hid hn0
              have Hn1 := Lib.hid hn1
              clear hS hn0 hn1 hNe
              go_wp2_with (go_at_call 18; refine HN.out.mono ?_; rintro e w3 ⟨nr, rfl, hn, hb5⟩; obtain ⟨na, ncap, rfl, hnc, hnm⟩ := hn.form)
              have hb13 := Hb3.out.trans ((Hb4.out.trans (hb5.mono Hb4.out.size)).mono Hb3.out.size)
              have Hb13 := Lib.hid hb13
              have Hn3 := Lib.hid hn
              have HR3 := Lib.hid (HR1.out.below (Hb.out.trans (hb13.mono Hb.out.size)) (Nat.le_refl _))
              clear hb5 hn hb13
              go_loopw [4, 17, 19, 89, 90, 91, 92, 93, 94, 95, 96, 97, 98, 99, 100, 101, 102, 103, 104, 105, 106] (fun _ t17 _ t89 _ _ _ _ _ _ _ _ _ _ _ _ _ _ _ _ _ wr => ∃ (m : Nat) (bf : Bool), m ≤ N.length ∧ t89 = .int .i64 m ∧ t17 = .bool bf ∧ Hid (∀ x ∈ N.take m, x ∈ xss.getD (n - 1) [] → bf = true) ∧ wr = w3) (fun _ _ _ t89 _ _ _ _ _ _ _ _ _ _ _ _ _ _ _ _ _ _ => N.length - (intOf t89).toNat)
              case atStart => exact ⟨0, false, by omega, rfl, rfl, Lib.hid (by simp), rfl⟩
              case round =>
                obtain ⟨m, bf, hm, rfl, rfl, Hbf, rfl⟩ := hrel
                by_cases hlm : m < N.length
                · have hn0 : 0 < n := by
                    rcases Nat.eq_zero_or_pos n with h | h
                    · have := Hn0.out h
                      rw [this] at hlm
                      exact absurd hlm (by simp)
                    · exact h
                  have hprev := (HR3.out.at (by omega))
                  obtain ⟨b5, off5, he5, hprev⟩ := hprev
                  cases he5
                  obtain ⟨pu, cpu, hpu⟩ := hprev (n - 1) (by omega)
                  have Hpu := Lib.hid hpu
                  have HP1 : Hid (xss.getD (n - 1) [] = xss[n - 1]) := Lib.hid (by rw [List.getD_eq_getElem?_getD, List.getElem?_eq_getElem (by omega)]; rfl)
                  generalize xss[n - 1] = P at *
                  have hn1 : ((n : Int) == 0) = false := by rw [beq_eq_false_iff_ne]; omega
                  have hn2 : (n : Int) - 1 = ((n - 1 : Nat) : Int) := by omega
                  obtain ⟨nb, noff, rfl, hnbw, hcn⟩ := Hn3.out.at hlm
                  have cn := hcn m hlm
                  have Htk := Lib.hid (List.take_succ_eq_append_getElem hlm)
                  clear hcn hprev hpu
                  generalize N[m] = y at *
                  cases bf with
                  | true =>
                    go_wp2
                    go_roundw
                    case rel => exact ⟨m + 1, true, by omega, by go_num, rfl, Lib.hid (fun _ _ _ => rfl), by first | rfl | trivial⟩
                    case measure => simp [intOf]; omega
                  | false =>
                    go_wp2_with (go_at_call 27; refine (place_any P y _ _ Hpu.out).mono ?_; rintro e w4 ⟨i2, rfl, hi2, rfl⟩; have Hi2 := Lib.hid hi2; clear hi2)
                    go_roundw
                    case rel =>
                      refine ⟨m + 1, decide (0 ≤ i2), by omega, by go_num, by first | rfl | simp, Lib.hid (fun z hz hz2 => ?_), by first | rfl | trivial⟩
                      rw [Htk.out, List.mem_append, List.mem_singleton] at hz
                      rcases hz with hz | rfl
                      · have := Hbf.out z hz hz2; cases this
                      · rw [HP1.out] at hz2
                        simpa using Hi2.out.2 hz2
                    case measure => simp [intOf]; omega
                · have hml : ¬ (m : Int) < N.length := by omega
                  have hfin : (0 < n ∧ bf = true) ∨ ¬ 0 < n := by
                    rcases Nat.eq_zero_or_pos n with h | h
                    · right; omega
                    · left
                      refine ⟨h, ?_⟩
                      obtain ⟨x, h1, h2⟩ := Hn1.out h
                      refine Hbf.out x (by rw [List.take_of_length_le (by omega)]; exact h1) ?_
                      rw [List.getD_eq_getElem?_getD, List.getElem?_eq_getElem (by omega)]
                      exact h2
                  rcases hfin with ⟨hp, rfl⟩ | hp
                  · go_wp2
                    go_roundw
                    case rel => exact ⟨i + 1, by omega, by go_num, Hb13.out⟩
                    case measure => simp [intOf]; omega
                  · go_wp2
                    go_roundw
                    case rel => exact ⟨i + 1, by omega, by go_num, Hb13.out⟩
                    case measure => simp [intOf]; omega
        · have hil2 : ¬ (i : Int) < R.length := by omega
          have Hown3 := Lib.hid (own_below Hown.out Hb3.out (Nat.le_refl _))
          have hb13 := Lib.hid (Hb.out.trans (Hb3.out.mono Hb.out.size))
          have hol : o.length ≤ s.length := by
            have := Run.ok _ _ Ho.out.run (done_nil _)
            rw [List.nil_append] at this
            exact done_len this
          have hRl : R.length ≤ s.length := by
            have := HL.out.row n hlt
            rw [HR.out] at this
            rw [this]
            exact pick_len _ _
          have hI := Hu.out.below Hb3.out (Nat.le_refl _)
          by_cases hp : n < zs.length
          · obtain ⟨pb, poff, rfl, hpb, hz0, hz1⟩ := (HP.out.below (Hb1.out.trans (hb13.out.mono Hb1.out.size)) (Nat.le_refl _)).at hp
            generalize zs[n] = z at hpb hz0 hz1
            obtain ⟨zn, rfl⟩ := Int.eq_ofNat_of_zero_le hz0
            have hm1 : (zn : Int) % (R.length : Int) < R.length := Int.emod_lt_of_pos _ (by omega)
            have hm0 : 0 ≤ (zn : Int) % (R.length : Int) := Int.emod_nonneg _ (by omega)
            obtain ⟨q, hq, hq1⟩ : ∃ q : Nat, (zn : Int) % (R.length : Int) = (q : Int) ∧ q < R.length := ⟨zn % R.length, Int.natCast_emod _ _ |>.symm, Nat.mod_lt _ (by omega)⟩
            have hq2 : (q : Int) ≤ R.length := by omega
            have hq3 : (q : Int) ≤ ucap := by omega
            have hq4 : q ≤ ucap := by omega
            have hne : ¬ ucap = q := by omega
            go_wp2
            have hI1 := (hI.drop q hq1).drew
            have HI2 : Hid (∀ w6, Below w1.heap.size wp.drew w6 → Ints w6 R (.slice (some ⟨ub, uoff, none⟩) R.length ucap)) := Lib.hid fun w6 h => Hu1.out.below (hb13.out.drew.trans h) (Nat.le_refl _)
            have hO1 := own_drew Hown3.out
            have hbz : w1.heap.size ≤ wp.heap.size := hb13.out.size
            have HI1 := Lib.hid hI1
            have HO1 := Lib.hid hO1
            clear hI hI1 hO1
            go_region_law (first | (refine step_append_src rfl (.tmp 130) (.tmp 133) 27 rfl HO1.out info_int Try.underlying27 rfl (by decide) (by simp [Act.eval, Act.put]) HI1.out (by simp [Act.eval, Act.put]) (all_one _) (by simp; unfold maxLen; omega) (by simp; omega) hbz ?_; intro v6 w6 hown6 hg6 hb6 hat6) | (refine step_append_src rfl (.tmp 134) (.tmp 137) 27 rfl hown6 info_int Try.underlying27 rfl (by decide) (by simp [Act.eval]) ((HI2.out _ hb6).take q (by omega)) (by simp [Act.eval]) (all_one _) (by simp; unfold maxLen; omega) (by simp; omega) (Nat.le_trans hbz hg6.size) ?_; intro v7 w7 hown7 hg7 hb7 hat7))
            all_goals
              go_wp2
              go_roundw
              case rel =>
                refine ⟨n + 1, o ++ R.drop q ++ R.take q, by omega, by go_num, ?_, ?_, ?_⟩
                · have h := OSt.step HL.out hlt Ho.out q
                  rw [HR.out] at h
                  exact h
                · have e : (o ++ R.drop q ++ R.take q).length = o.length + (R.drop q).length + (R.take q).length := by simp only [List.length_append]
                  rw [e, List.map_append, List.map_append]
                  exact hown7
                · exact (hb13.out.drew.trans hb6).trans hb7
              case measure => simp [intOf]; omega
          · have hq1 : 0 < R.length := hpos
            have hne : ¬ ucap = 0 := by omega
            go_wp2
            have hI1 := (hI.drop 0 hq1).drew
            have HI2 : Hid (∀ w6, Below w1.heap.size wp.drew w6 → Ints w6 R (.slice (some ⟨ub, uoff, none⟩) R.length ucap)) := Lib.hid fun w6 h => Hu1.out.below (hb13.out.drew.trans h) (Nat.le_refl _)
            have hO1 := own_drew Hown3.out
            have hbz : w1.heap.size ≤ wp.heap.size := hb13.out.size
            have HI1 := Lib.hid hI1
            have HO1 := Lib.hid hO1
            clear hI hI1 hO1
            go_region_law (first | (refine step_append_src rfl (.tmp 130) (.tmp 133) 27 rfl HO1.out info_int Try.underlying27 rfl (by decide) (by simp [Act.eval, Act.put]) HI1.out (by simp [Act.eval, Act.put]) (all_one _) (by simp; unfold maxLen; omega) (by simp; omega) hbz ?_; intro v6 w6 hown6 hg6 hb6 hat6) | (refine step_append_src rfl (.tmp 134) (.tmp 137) 27 rfl hown6 info_int Try.underlying27 rfl (by decide) (by simp [Act.eval]) ((HI2.out _ hb6).take 0 (by omega)) (by simp [Act.eval]) (all_one _) (by simp; unfold maxLen; omega) (by simp; omega) (Nat.le_trans hbz hg6.size) ?_; intro v7 w7 hown7 hg7 hb7 hat7))
            all_goals
              go_wp2
              go_roundw
              case rel =>
                refine ⟨n + 1, o ++ R.drop 0 ++ R.take 0, by omega, by go_num, ?_, ?_, ?_⟩
                · have h := OSt.step HL.out hlt Ho.out 0
                  rw [HR.out] at h
                  exact h
                · have e : (o ++ R.drop 0 ++ R.take 0).length = o.length + (R.drop 0).length + (R.take 0).length := by simp only [List.length_append]
                  rw [e, List.map_append, List.map_append]
                  exact hown7
                · exact (hb13.out.drew.trans hb6).trans hb7
              case measure => simp [intOf]; omega
    · have hnl : ¬ (n : Int) < xss.length := by omega
      have e : n = xss.length := by omega
      subst e
      obtain ⟨hleg, hol, how⟩ := OSt.legal HL.out Hv.out ho
      obtain ⟨hsl, hsw⟩ := same_legal Hv.out
      have hIo := Ints.of_own hown
      have Hleg := Lib.hid hleg
      have How := Lib.hid how
      have Hsl := Lib.hid hsl
      have Hsw := Lib.hid hsw
      have HIo := Lib.hid hIo
      have Hb := Lib.hid hb
      clear hleg hol how hsl hsw hIo ho hown hb
      go_wp2
      go_loopw [21, 22, 142, 143, 144, 145, 146, 147, 148, 149] (fun t21 _ t142 _ _ _ _ _ _ _ wr => ∃ k : Nat, k ≤ s.length ∧ t142 = .int .i64 k ∧ wr.ownsRow wo.heap.size 3 1 t21 k (((List.range k).map fun i : Nat => (i : Int)).map (Value.int .i64)) ∧ Below wo.heap.size wo wr) (fun _ _ t142 _ _ _ _ _ _ _ _ => s.length - (intOf t142).toNat)
      case atStart => exact ⟨0, by omega, rfl, World.ownsRow_nil _ _ _ _, Below.refl _ _⟩
      case round =>
        obtain ⟨k, hk, rfl, hown2, hb02⟩ := hrel
        by_cases hks : k < s.length
        · go_wp2_with (at_builtin; refine wpList_append_new rfl _ _ 27 rfl hown2 info_int Try.underlying27 rfl (by decide) rfl 1 1 rfl rfl rfl (by unfold maxLen; omega) (by omega) hb02.size ?_; intro v' w' hown4 hg4 hb4)
          go_roundw
          case rel => exact ⟨k + 1, by omega, by go_num, by rw [List.range_succ, List.map_append, List.map_append]; exact hown4, hb02.trans hb4⟩
          case measure => simp [intOf]; omega
        · have hks2 : ¬ (k : Int) < s.length := by omega
          have e : k = s.length := by omega
          subst e
          have hI5 : Ints wr ((List.range s.length).map fun i : Nat => (i : Int)) _ := Ints.of_own (by simpa using hown2)
          obtain ⟨qa, qcap, rfl, hqc, hqm⟩ := hI5.form
          rw [List.length_map, List.length_range] at *
          have hS5 := HS1.out.below (Hb.out.trans (hb02.mono Hb.out.size)) (Nat.le_refl _)
          have HL1 := Lib.hid (legal_any s o _ _ wr hS5 Hok.out (HIo.out.below hb02 (Nat.le_refl _)) How.out)
          have HL2 : Hid (∀ w2, Below wr.heap.size wr w2 → Calls Try.prog 13 #[.slice sa s.length scap, .slice qa s.length qcap] w2 fun e w' => e = .returned (.bool true) ∧ Below w2.heap.size w2 w') := Lib.hid fun w2 h => by
            have := legal_any s _ _ _ w2 (hS5.below h (Nat.le_refl _)) Hok.out (hI5.below h (Nat.le_refl _)) Hsw.out
            rwa [Hsl.out] at this
          rw [Hleg.out] at HL1
          have Hb7 := Lib.hid (Hb1.out.trans ((Hb.out.trans (hb02.mono Hb.out.size)).mono Hb1.out.size))
          clear hown2 hI5 hS5 hb02
          go_wp2_with fail
          go_at_call 13
          refine HL1.out.mono ?_
          rintro e w2 ⟨rfl, hb2⟩
          have HL3 := Lib.hid (HL2.out _ hb2)
          have hb3 := Hb7.out.trans (hb2.mono Hb7.out.size)
          clear hb2
          go_wp2_with (first | (go_at_call 13; refine HL3.out.mono ?_; rintro e w3 ⟨rfl, hb4⟩) | (go_at_call 15; refine (awake_any _).mono ?_; rintro e w4 ⟨rfl, hb5⟩))
          go_ret
          have hb6 := hb3.trans (hb4.mono hb3.size)
          exact ⟨rfl, hb6.trans (hb5.mono hb6.size)⟩
end Go.Proofs.Ytbcfanfnnmijdaa
