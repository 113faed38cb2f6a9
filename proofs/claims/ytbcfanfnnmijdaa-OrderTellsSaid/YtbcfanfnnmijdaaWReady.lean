/- OrderReady, walked: for every list of numbers and every list of picks it answers true and writes nothing that was there. -/
import Derived.Test.YtbcfanfnnmijdaaIndex
import Derived.Test.YtbcfanfnnmijdaaOpen
namespace Go.Proofs.Ytbcfanfnnmijdaa
open Go.RowKit

/-- a slice of bytes -/
def Bytes8 (w : World) (zs : List Int) (v : Value) : Prop := Sl w 1 zs.length (zs.map (Value.int .u8))
  v ∧ ∀ z ∈ zs, 0 ≤ z ∧ z ≤ 255
theorem Bytes8.below {w w' : World} {zs : List Int} {v : Value} {B : Nat} (h : Bytes8 w zs v) (hb : Below B w w') (hB : w.heap.size ≤ B) : Bytes8 w' zs v := ⟨Sl.below (by omega) h.1 hb hB, h.2⟩
theorem Bytes8.at {w : World} {zs : List Int} {a : Option Addr} {n cap : Nat} (h : Bytes8 w zs (.slice a n cap)) {k : Nat} (hk : k < zs.length) :
    ∃ b off, a = some ⟨b, off, none⟩ ∧ w.cell? ⟨b, off + k, none⟩ = some (.int .u8 zs[k]) ∧ 0 ≤ zs[k] ∧ zs[k] ≤ 255 := by
  obtain ⟨b, off, e, _, hc⟩ := Sl.at (by omega) h.1 (by omega)
  refine ⟨b, off, e, ?_, h.2 _ (List.getElem_mem hk)⟩
  have h0 := hc k (by omega)
  simpa [hk] using h0
/-- Ready, told of a valid list and a list that names systems -/
theorem ready_at {l : List Sys} {d : List Int} {v dv : Value} {w : World} (hS : Syss w l v) (hok : ∀ s ∈ l, s.ok) (hv : validS l = true) (hd : doneOk l.length d = true) (hD : Ints w d dv) :
    Calls Try.prog 12 #[v, dv] w fun e w' => ∃ r, e = .returned (.tuple #[r, .int .i64 0]) ∧ Ints w' (readyR l d).1 r ∧ Below w.heap.size w w' := by
  have h := ready_any l d v dv w hS hok hD (fun x hx => by have := (doneOk_iff.1 hd).2 x hx; have := valid_len hv; exact wf_i64 (by omega) (by omega))
  rwa [(mem_ready hv hd).1] at h
theorem needs_at {l : List Sys} {a : Int} {v : Value} {w : World} (hS : Syss w l v) (hok : ∀ s ∈ l, s.ok) (hv : validS l = true) (h0 : 0 ≤ a) (h1 : a < l.length) :
    Calls Try.prog 18 #[v, .int .i64 a] w fun e w' => ∃ r, e = .returned (.tuple #[r, .int .i64 0]) ∧ Ints w' (pick (fun k => cfl l k a.toNat) a.toNat) r ∧ Below w.heap.size w w' := by
  have h := needsF_any l v a w hS hok
  have e : needsR l a = (pick (fun k => cfl l k a.toNat) a.toNat, 0) := by simp [needsR, hv, h0, h1]
  rwa [e] at h
theorem pick_lt (p : Nat → Bool) (n : Nat) {i j : Nat} (hi : i < j) (hj : j < (pick p n).length) : (pick p n)[i] < (pick p n)[j] := by
  have h : (pick p n).Pairwise (· < ·) := by
    unfold pick
    refine List.pairwise_map.2 (List.Pairwise.imp ?_ (List.Pairwise.filter _ (List.pairwise_lt_range (n := n))))
    intro a b h
    omega
  exact List.pairwise_iff_getElem.1 h i j (by omega) hj hi
theorem ready_lt (l : List Sys) (d : List Int) {i j : Nat} (hi : i < j) (hj : j < (readyR l d).1.length) : (readyR l d).1[i] < (readyR l d).1[j] := by
  unfold readyR at hj ⊢
  split at hj
  · rename_i h
    simp only [h, if_true]
    exact pick_lt _ _ hi hj
  · simp at hj

set_option maxRecDepth 100000 in
theorem orderReady_any (l : List (BitVec 32)) (zs : List Int) (v pv : Value) (w : World) (hL : Words w l v) (hP : Bytes8 w zs pv) :
    Calls Try.prog 8 #[v, pv] w fun e w' => e = .returned (.bool true) ∧ Below w.heap.size w w' := by
  obtain ⟨pa, pcap, rfl, hpc, hpm⟩ := hP.1.form
  have HB := Lib.hid (built_valid l v w hL)
  go_enter Try.func8, Try.ntmps8
  go_wp2_with (go_at_call 10; refine HB.out.mono ?_; rintro e w1 ⟨sv, s, rfl, hS, hv, hok, hb1⟩)
  obtain ⟨sa, scap, rfl, hsc, hsm⟩ := hS.form
  have hs16 := valid_len hv
  have Hv := Lib.hid hv
  have Hok := Lib.hid hok
  have HS1 := Lib.hid hS
  have HP := Lib.hid hP
  have Hb1 := Lib.hid hb1
  clear hv hok hS hP hL hb1
  go_loopw [4, 6, 7, 8, 9, 10, 11, 12, 13, 15, 16, 19, 20, 21, 22, 23, 24, 25, 26, 27, 28, 29, 30, 31, 32, 33, 34, 35, 36, 37, 38, 39, 40, 41, 42, 43, 44, 45, 46, 47, 48, 49, 50, 51, 52, 53, 54, 55, 56, 57, 58, 59, 60, 61, 62, 63, 64, 65, 66, 67, 68, 69, 70, 71, 72, 73, 74, 75, 76, 77, 78, 79, 80, 81, 82, 83, 84, 85, 86, 87, 88, 89, 90, 91, 92, 93, 94, 95, 96, 97, 98, 99, 100, 101, 102, 103, 104, 105, 106, 107, 108] (fun _ t6 t7 _ _ _ _ _ _ _ _ _ _ _ _ _ _ _ _ _ _ _ _ _ _ _ _ _ _ _ _ _ _ _ _ _ _ _ _ _ _ _ _ _ _ _ _ _ _ _ _ _ _ _ _ _ _ _ _ _ _ _ _ _ _ _ _ _ _ _ _ _ _ _ _ _ _ _ _ _ _ _ _ _ _ _ _ _ _ _ _ _ _ _ _ _ _ _ _ _ _ wr => ∃ d : List Int, t7 = .int .i64 d.length ∧ Run s [] d ∧ wr.ownsRow w1.heap.size 3 1 t6 d.length (d.map (Value.int .i64)) ∧ Below w1.heap.size w1 wr) (fun _ _ t7 _ _ _ _ _ _ _ _ _ _ _ _ _ _ _ _ _ _ _ _ _ _ _ _ _ _ _ _ _ _ _ _ _ _ _ _ _ _ _ _ _ _ _ _ _ _ _ _ _ _ _ _ _ _ _ _ _ _ _ _ _ _ _ _ _ _ _ _ _ _ _ _ _ _ _ _ _ _ _ _ _ _ _ _ _ _ _ _ _ _ _ _ _ _ _ _ _ _ _ => s.length + 1 - (intOf t7).toNat)
  case atStart => exact ⟨[], rfl, trivial, World.ownsRow_nil _ _ _ _, Below.refl _ _⟩
  case round =>
    obtain ⟨d, rfl, hrun, hown, hb⟩ := hrel
    have hS := HS1.out.below hb (Nat.le_refl _)
    obtain ⟨da, dcap, rfl, hdc, hdm⟩ := (Ints.of_own hown).form
    have hd : doneOk s.length d = true := by have := hrun.ok _ _ (done_nil _); simpa using this
    have hdl := done_len hd
    have hrl := ready_len Hv.out hd
    have HR := Lib.hid (ready_at hS Hok.out Hv.out hd (Ints.of_own hown))
    have Hrun := Lib.hid hrun
    have Hd := Lib.hid hd
    clear hrun hd
    generalize hR : (readyR s d).1 = R at HR hrl
    have HRe := Lib.hid hR
    clear hR
    obtain ⟨t, h1, h2, h3⟩ : ∃ t : Bool, ((R.length : Int) == 0) = t ∧ ((d.length : Int) == s.length) = t ∧ (t = true ↔ R.length = 0) := by
      by_cases h : R.length = 0
      · exact ⟨true, by simp [h], by simp; exact_mod_cast hrl.1 h, by simp [h]⟩
      · exact ⟨false, by simp; intro e; subst e; exact h rfl, by simp; intro e; exact h (hrl.2 (by exact_mod_cast e)), by simp [h]⟩
    have H3 := Lib.hid h3
    obtain ⟨wo, rfl⟩ : ∃ wo : World, wo = wr := ⟨_, rfl⟩
    clear hrl h3
    go_wp2_with (go_at_call 12; refine HR.out.mono ?_; rintro e w2 ⟨r, rfl, hr, hb2⟩; obtain ⟨ra, rcap, rfl, hrc, hrm⟩ := hr.form)
    have hown2 := own_below hown hb2 (Nat.le_refl _)
    have hS2 := hS.below hb2 (Nat.le_refl _)
    have hb02 : Below w1.heap.size w1 w2 := hb.trans (hb2.mono hb.size)
    have Hown2 := Lib.hid hown2
    have HS2 := Lib.hid hS2
    have Hr2 := Lib.hid hr
    clear hown2 hS2 hr hown hS hb2 hb
    go_loopw [4, 10, 11, 12, 13, 15, 42, 43, 44, 45, 46, 47, 48, 49, 50, 51, 52, 53, 54, 55, 56, 57, 58, 59, 60, 61, 62, 63, 64, 65, 66, 67, 68, 69, 70, 71, 72, 73, 74, 75, 76, 77, 78, 79, 80, 81, 82, 83, 84, 85] (fun _ _ _ _ _ _ t42 _ _ _ _ _ _ _ _ _ _ _ _ _ _ _ _ _ _ _ _ _ _ _ _ _ _ _ _ _ _ _ _ _ _ _ _ _ _ _ _ _ _ _ wr => ∃ k : Nat, k ≤ R.length ∧ t42 = .int .i64 k ∧ Below w2.heap.size w2 wr) (fun _ _ _ _ _ _ t42 _ _ _ _ _ _ _ _ _ _ _ _ _ _ _ _ _ _ _ _ _ _ _ _ _ _ _ _ _ _ _ _ _ _ _ _ _ _ _ _ _ _ _ _ => R.length - (intOf t42).toNat)
    case atStart => exact ⟨0, by omega, rfl, Below.refl _ _⟩
    case round =>
      obtain ⟨k, hk, rfl, hb3⟩ := hrel
      have hI := Hr2.out.below hb3 (Nat.le_refl _)
      have hown3 := own_below Hown2.out hb3 (Nat.le_refl _)
      have hS3 := HS2.out.below hb3 (Nat.le_refl _)
      by_cases hlt : k < R.length
      · have hq := (mem_ready Hv.out Hd.out).2 R[k]
        rw [HRe.out] at hq
        obtain ⟨q0, q1, q2, q3⟩ := hq.1 (List.getElem_mem hlt)
        obtain ⟨b, off, rfl, hbw, hc⟩ := hI.at hlt
        have ck := hc k hlt
        have HN := Lib.hid (needs_at hS3 Hok.out Hv.out q0 q1)
        have Hk0 : Hid (0 < k → wr.cell? ⟨b, off + (k - 1), none⟩ = some (.int .i64 (R.getD (k - 1) 0)) ∧ ¬ R.getD (k - 1) 0 ≥ R[k]) := Lib.hid fun hk0 => by
          have e : R.getD (k - 1) 0 = R[k - 1] := by simp [show k - 1 < R.length by omega]
          rw [e]
          refine ⟨hc (k - 1) (by omega), ?_⟩
          have := HRe.out
          subst this
          have := ready_lt s d (i := k - 1) (j := k) (by omega) hlt
          omega
        have Hq2 := Lib.hid q2
        have Hr3 := Lib.hid hI
        have Hown3 := Lib.hid hown3
        generalize hN : pick (fun j => cfl s j (R[k]).toNat) (R[k]).toNat = N at HN
        have Hall : Hid (∀ y ∈ N, y ∈ d) := Lib.hid (by
          rw [← hN]
          intro y hy
          obtain ⟨g0, g1, g2⟩ := mem_pick.1 hy
          have := q3 y.toNat (by omega) g2
          rwa [show ((y.toNat : Nat) : Int) = y by omega] at this)
        generalize hx : R[k] = x at *
        have Hx := Lib.hid hx
        clear hq hc hN q2 q3 hI hown3 hS3 hx
        rcases Nat.eq_zero_or_pos k with hk0 | hk0
        · subst hk0
          rw [Nat.add_zero] at ck
          go_wp2_with (first | (go_at_call 18; go_loud (refine HN.out.mono ?_; rintro e w3 ⟨nr, rfl, hn, hb4⟩; obtain ⟨na, ncap, rfl, hnc, hnm⟩ := hn.form; have HD3 := Lib.hid (Ints.of_own (own_below Hown3.out hb4 (Nat.le_refl _))); skip)) | (go_at_call 27; go_loud (refine (place_any d x _ _ HD3.out).mono ?_; rintro e w4 ⟨i, rfl, hi, rfl⟩; have hi2 : i < 0 := Int.not_le.1 (fun h => Hq2.out (hi.1 h)); clear hi)))
          have hbo : Below w2.heap.size w2 w3 := hb3.trans (hb4.mono hb3.size)
          have Hn := Lib.hid hn
          clear hn hb4
          go_loopw [4, 15, 76, 77, 78, 79, 80, 81, 82, 83, 84] (fun _ _ t76 _ _ _ _ _ _ _ _ wr => ∃ m : Nat, m ≤ N.length ∧ t76 = .int .i64 m ∧ wr = w3) (fun _ _ t76 _ _ _ _ _ _ _ _ _ => N.length - (intOf t76).toNat)
          case atStart => exact ⟨0, by omega, rfl, rfl⟩
          case round =>
            obtain ⟨m, hm, rfl, rfl⟩ := hrel
            by_cases hlm : m < N.length
            · obtain ⟨nb, noff, rfl, hnbw, hcn⟩ := Hn.out.at hlm
              have cn := hcn m hlm
              have hmem : N[m] ∈ d := Hall.out _ (List.getElem_mem hlm)
              have Hmem := Lib.hid hmem
              clear hmem hcn
              go_wp2_with (go_at_call 27; refine (place_any d N[m] _ _ HD3.out).mono ?_; rintro e w4 ⟨i2, rfl, hi, rfl⟩; have hi3 : ¬ i2 < 0 := (by have := hi.2 Hmem.out; omega); clear hi)
              go_roundw
              case rel => exact ⟨m + 1, by omega, by go_num, trivial⟩
              case measure => simp [intOf]; omega
            · have e : m = N.length := by omega
              subst e
              go_wp2
              go_roundw
              case rel => exact ⟨1, by omega, by go_num, hbo⟩
              case measure => simp [intOf]; omega
        · obtain ⟨c1, c2⟩ := Hk0.out hk0
          obtain ⟨kp, rfl⟩ : ∃ kp, k = kp + 1 := ⟨k - 1, by omega⟩
          rw [Nat.add_sub_cancel] at c1 c2
          generalize hy : R.getD kp 0 = y at c1 c2
          clear hy
          go_wp2_with (first | (go_at_call 18; go_loud (refine HN.out.mono ?_; rintro e w3 ⟨nr, rfl, hn, hb4⟩; obtain ⟨na, ncap, rfl, hnc, hnm⟩ := hn.form; have HD3 := Lib.hid (Ints.of_own (own_below Hown3.out hb4 (Nat.le_refl _))); have c3 := Below.keep hb4 c1)) | (go_at_call 27; go_loud (refine (place_any d x _ _ HD3.out).mono ?_; rintro e w4 ⟨i, rfl, hi, rfl⟩; have hi2 : i < 0 := Int.not_le.1 (fun h => Hq2.out (hi.1 h)); clear hi)))
          have hbo : Below w2.heap.size w2 w3 := hb3.trans (hb4.mono hb3.size)
          have Hn := Lib.hid hn
          clear hn hb4
          go_loopw [4, 15, 76, 77, 78, 79, 80, 81, 82, 83, 84] (fun _ _ t76 _ _ _ _ _ _ _ _ wr => ∃ m : Nat, m ≤ N.length ∧ t76 = .int .i64 m ∧ wr = w3) (fun _ _ t76 _ _ _ _ _ _ _ _ _ => N.length - (intOf t76).toNat)
          case atStart => exact ⟨0, by omega, rfl, rfl⟩
          case round =>
            obtain ⟨m, hm, rfl, rfl⟩ := hrel
            by_cases hlm : m < N.length
            · obtain ⟨nb, noff, rfl, hnbw, hcn⟩ := Hn.out.at hlm
              have cn := hcn m hlm
              have hmem : N[m] ∈ d := Hall.out _ (List.getElem_mem hlm)
              have Hmem := Lib.hid hmem
              clear hmem hcn
              go_wp2_with (go_at_call 27; refine (place_any d N[m] _ _ HD3.out).mono ?_; rintro e w4 ⟨i2, rfl, hi, rfl⟩; have hi3 : ¬ i2 < 0 := (by have := hi.2 Hmem.out; omega); clear hi)
              go_roundw
              case rel => exact ⟨m + 1, by omega, by go_num, trivial⟩
              case measure => simp [intOf]; omega
            · have e : m = N.length := by omega
              subst e
              go_wp2
              go_roundw
              case rel => exact ⟨kp + 1 + 1, by omega, by go_num, hbo⟩
              case measure => simp [intOf]; omega
      · have e : k = R.length := by omega
        subst e
        have hbw : Below w1.heap.size w1 wr := hb02.trans (hb3.mono hb02.size)
        have hbv : Below w.heap.size w wr := Hb1.out.trans (hbw.mono Hb1.out.size)
        cases t with
        | true =>
          clear hI hown3 hS3
          go_wp2_with (go_at_call 15; refine (awake_any _).mono ?_; rintro e w3 ⟨rfl, hb4⟩)
          go_ret
          exact ⟨rfl, hbv.trans (hb4.mono hbv.size)⟩
        | false =>
          have hR0 : 0 < R.length := Nat.pos_of_ne_zero fun h => by have := H3.out.2 h; cases this
          obtain ⟨b, off, rfl, _, hc⟩ := hI.at hR0
          have Hc := Lib.hid hc
          have hP2 := HP.out.below hbv (Nat.le_refl _)
          clear hI hc hS3
          by_cases hp : d.length < zs.length
          · obtain ⟨pb, poff, rfl, hpb, hz0, hz1⟩ := hP2.at hp
            generalize zs[d.length] = z at hpb hz0 hz1
            obtain ⟨zn, rfl⟩ := Int.eq_ofNat_of_zero_le hz0
            have hm1 : (zn : Int) % (R.length : Int) < R.length := Int.emod_lt_of_pos _ (by omega)
            have hm0 : 0 ≤ (zn : Int) % (R.length : Int) := Int.emod_nonneg _ (by omega)
            have hlt : zn % R.length < R.length := Nat.mod_lt _ hR0
            have cy := Hc.out _ hlt
            have hy : R[zn % R.length] ∈ R := List.getElem_mem hlt
            generalize R[zn % R.length] = y at cy hy
            clear hlt
            have hin := (mem_ready Hv.out Hd.out).2 y
            rw [HRe.out] at hin
            have hy2 := hin.1 hy
            have hrun2 : Run s [] (d ++ [y]) := (Run.append d [y] []).2 ⟨Hrun.out, by rw [List.nil_append]; exact ⟨hy2, trivial⟩⟩
            have Hrun2 := Lib.hid hrun2
            clear hy hin hy2 hrun2
            go_wp2_with (at_builtin; refine wpList_append_new rfl _ _ 27 rfl hown3 info_int Try.underlying27 rfl (by decide) rfl 1 1 rfl rfl rfl (by unfold maxLen; omega) (by omega) hbw.size ?_; intro v' w' hown4 hg4 hb4)
            go_roundw
            case rel => exact ⟨d ++ [y], by simp, Hrun2.out, by simpa using hown4, hbw.trans hb4⟩
            case measure => simp [intOf]; omega
          · have cy := Hc.out 0 hR0
            rw [Nat.add_zero] at cy
            have hy : R[0] ∈ R := List.getElem_mem hR0
            generalize R[0] = y at cy hy
            have hin := (mem_ready Hv.out Hd.out).2 y
            rw [HRe.out] at hin
            have hy2 := hin.1 hy
            have hrun2 : Run s [] (d ++ [y]) := (Run.append d [y] []).2 ⟨Hrun.out, by rw [List.nil_append]; exact ⟨hy2, trivial⟩⟩
            have Hrun2 := Lib.hid hrun2
            clear hy hin hy2 hrun2
            go_wp2_with (at_builtin; refine wpList_append_new rfl _ _ 27 rfl hown3 info_int Try.underlying27 rfl (by decide) rfl 1 1 rfl rfl rfl (by unfold maxLen; omega) (by omega) hbw.size ?_; intro v' w' hown4 hg4 hb4)
            go_roundw
            case rel => exact ⟨d ++ [y], by simp, Hrun2.out, by simpa using hown4, hbw.trans hb4⟩
            case measure => simp [intOf]; omega
end Go.Proofs.Ytbcfanfnnmijdaa
