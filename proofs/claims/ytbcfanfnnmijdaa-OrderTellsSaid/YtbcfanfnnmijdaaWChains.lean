/- OrderChains, walked: for every list of numbers and every choice of bits it answers true and writes nothing that was there. -/
import Derived.Test.YtbcfanfnnmijdaaWReady
import Derived.Test.YtbcfanfnnmijdaaChainM
import Derived.Test.YtbcfanfnnmijdaaRegion3
namespace Go.Proofs.Ytbcfanfnnmijdaa
open Go.RowKit

theorem u16_of {n : Int} (h : (Lit.int .u16 n).wf = true) : 0 ≤ n ∧ n ≤ 65535 := by
  simpa [Lit.wf, IntKind.min, IntKind.max, IntKind.signed, IntKind.bits] using h
set_option maxRecDepth 100000 in
set_option maxHeartbeats 1000000 in
theorem orderChains_any (l : List (BitVec 32)) (at' : Int) (v : Value) (w : World) (hL : Words w l v) (_ha0 : 0 ≤ at') (_ha1 : at' ≤ 65535) :
    Calls Try.prog 4 #[v, .int .u16 at'] w fun e w' => e = .returned (.bool true) ∧ Below w.heap.size w w' := by
  have HB := Lib.hid (built_valid l v w hL)
  have hCH : Hid (∀ s sv w1, Syss w1 s sv → (∀ x ∈ s, x.ok) → validS s = true → Calls Try.prog 16 #[sv] w1 fun e w' => ∃ r xs, e = .returned (.tuple #[r, .int .i64 0]) ∧ Ints w' xs r ∧ Below w1.heap.size w1 w' ∧ ChainOk s xs) := Lib.hid fun s sv w1 h1 h2 h3 =>
    (chain_any s sv w1 h1 h2).mono fun e w' ⟨r, c, xs, he, hi, hb, hc⟩ => by
      rcases hc with ⟨h, _⟩ | ⟨_, rfl, hc⟩
      · rw [h3] at h; cases h
      · exact ⟨r, xs, he, hi, hb, hc⟩
  have hST : Hid (∀ s sv w1, Syss w1 s sv → (∀ x ∈ s, x.ok) → validS s = true → Calls Try.prog 17 #[sv] w1 fun e w' => ∃ r xs, e = .returned (.tuple #[r, .int .i64 0]) ∧ (∃ a cap, r = .slice a xs.length cap) ∧ Below w1.heap.size w1 w' ∧ StagesOk s xs) := Lib.hid fun s sv w1 h1 h2 h3 =>
    (stages_any s sv w1 h1 h2).mono fun e w' ⟨r, c, xs, he, hi, hb, hc⟩ => by
      rcases hc with ⟨h, _⟩ | ⟨_, rfl, hc⟩
      · rw [h3] at h; cases h
      · obtain ⟨vs, h1, _⟩ := hi
        obtain ⟨a, cap, h2, _⟩ := h1.form
        exact ⟨r, xs, he, ⟨a, cap, h2⟩, hb, hc⟩
  go_enter Try.func4, Try.ntmps4
  go_wp2_with fail
  go_at_call 10
  refine HB.out.mono ?_
  rintro e w0 ⟨sv, s, rfl, hS, hv, hok, hb1⟩
  obtain ⟨sa, scap, rfl, hsc, hsm⟩ := hS.form
  have hs16 := valid_len hv; have Hv := Lib.hid hv; have Hok := Lib.hid hok; have HS0 := Lib.hid hS; clear hS hok hv
  go_wp2_with fail
  go_at_call 16
  refine (hCH.out _ _ _ HS0.out Hok.out Hv.out).mono ?_
  rintro e w1 ⟨r, c, rfl, hc, hb2, hco⟩
  obtain ⟨ca, ccap, rfl, hcc, hcm⟩ := hc.form; have HS1 := Lib.hid (HS0.out.below hb2 (Nat.le_refl _)); have Hc1 := Lib.hid hc; have Hco := Lib.hid hco; clear hc hco
  go_wp2_with fail
  go_at_call 17
  refine (hST.out _ _ _ HS1.out Hok.out Hv.out).mono ?_
  rintro e w2 ⟨r2, xss, rfl, ⟨ta, tcap, rfl⟩, hb3, hso⟩
  obtain ⟨hgood, hlen, hlev⟩ := chain_stages Hco.out hso; have Hgood := Lib.hid hgood; have Hlev := Lib.hid hlev
  have hl1 : ((c.length : Int) != (xss.length : Int)) = false := by simp [hlen]
  have Hlen := Lib.hid hlen; clear hgood hlev hlen hso
  have Hb12 := Lib.hid (hb1.trans ((hb2.trans (hb3.mono hb2.size)).mono hb1.size))
  have HS2 := Lib.hid (HS1.out.below hb3 (Nat.le_refl _))
  have Hc2 := Lib.hid (Hc1.out.below hb3 (Nat.le_refl _))
  clear hb1 hb2 hb3
  go_wp2_with fail
  go_loopw [4, 10, 38, 39, 40, 41, 42, 43, 44, 45, 46, 47, 48, 49, 50, 51, 52, 53, 54, 55, 56, 57, 58, 59, 60, 61, 62, 63, 64, 65, 66, 67, 68, 69, 70, 71, 72, 73, 74, 75, 76, 77, 78, 79, 80, 81, 82, 83, 84, 85, 86, 87, 88, 89] (fun _ t10 _ _ _ _ _ _ _ _ _ _ _ _ _ _ _ _ _ _ _ _ _ _ _ _ _ _ _ _ _ _ _ _ _ _ _ _ _ _ _ _ _ _ _ _ _ _ _ _ _ _ _ _ wr => ∃ i : Nat, 1 ≤ i ∧ (i ≤ c.length ∨ i = 1) ∧ t10 = .int .i64 i ∧ Below w2.heap.size w2 wr) (fun _ t10 _ _ _ _ _ _ _ _ _ _ _ _ _ _ _ _ _ _ _ _ _ _ _ _ _ _ _ _ _ _ _ _ _ _ _ _ _ _ _ _ _ _ _ _ _ _ _ _ _ _ _ _ _ => c.length - (intOf t10).toNat)
  case atStart => exact ⟨1, by omega, .inr rfl, rfl, Below.refl _ _⟩
  case round =>
    obtain ⟨i, hi1, hi2, rfl, hb⟩ := hrel
    by_cases hlt : i < c.length
    · have hci := (Hc2.out.below hb (Nat.le_refl _))
      have hS := HS2.out.below hb (Nat.le_refl _)
      obtain ⟨cb, coff, rfl, _, hcc⟩ := hci.at hlt
      obtain ⟨j, rfl⟩ : ∃ j, i = j + 1 := ⟨i - 1, by omega⟩
      have ci := hcc j (by omega)
      have ck := hcc (j + 1) hlt
      obtain ⟨g0, g1⟩ := Hgood.out.1 j (by omega)
      obtain ⟨g2, g3⟩ := Hgood.out.1 (j + 1) hlt
      obtain ⟨g4, g5⟩ := Hgood.out.2 j hlt
      generalize c[j] = A' at *
      generalize c[j + 1] = B' at *
      obtain ⟨A, rfl⟩ := Int.eq_ofNat_of_zero_le g0
      obtain ⟨B, rfl⟩ := Int.eq_ofNat_of_zero_le g2
      have hAl : A < s.length := by omega
      have hBl : B < s.length := by omega
      obtain ⟨sb, soff, rfl, _, hsc⟩ := hS.at hAl
      obtain ⟨a0, a1, a2, a3⟩ := hsc A hAl
      obtain ⟨b0, b1, b2, b3⟩ := hsc B hBl
      rw [Int.toNat_natCast, Int.toNat_natCast, cfl_eq hAl hBl] at g5
      have HC := Lib.hid (conflict_as g5)
      have hlti : (j : Int) < c.length := by omega
      have hltk : (j : Int) + 1 < c.length := by omega
      have hj1 : ((j + 1 : Nat) : Int) - 1 = j := by omega
      have hj2 : ((j + 1 : Nat) : Int) = (j : Int) + 1 := by omega
      have hd1 : decide ((A : Int) ≥ B) = false := by simp only [ge_iff_le, decide_eq_false_iff_not]; omega
      have hd2 : decide ((B : Int) ≥ s.length) = false := by simp; omega
      have hd3 : decide ((A : Int) < 0) = false := by simp
      have hwo : w2.heap.size ≤ wr.heap.size := hb.size
      clear g5 hS hcc hsc hci hi1 hi2
      go_wp2
      refine wp_region_seq (fun w' => Below wr.heap.size wr w') (by kernel_rfl) (by kernel_rfl) ((Below.refl _ _).drew) ?_
      repeat
        try simp only [Act.put, List.setIfInBounds_toArray, List.set_cons_succ, List.set_cons_zero]
        apply stepsSeq.cons
        · intro w' hb1
          have Hb1' := Lib.hid hb1
          have ci' := Below.keep hb1 ci
          have ck' := Below.keep hb1 ck
          have a0' := Below.keep hb1 a0
          have a1' := Below.keep hb1 a1
          have a2' := Below.keep hb1 a2
          have a3' := Below.keep hb1 a3
          have b0' := Below.keep hb1 b0
          have b1' := Below.keep hb1 b1
          have b2' := Below.keep hb1 b2
          have b3' := Below.keep hb1 b3
          simp only [Act.put, List.setIfInBounds_toArray, List.set_cons_succ, List.set_cons_zero]
          go_wp2_with (go_at_call 14; refine (HC.out _).mono ?_; rintro e w3 ⟨rfl, hb2⟩)
          first | exact ⟨rfl, Hb1'.out⟩ | exact ⟨rfl, Hb1'.out.trans (hb2.mono Hb1'.out.size)⟩
      try simp only [Act.put, List.setIfInBounds_toArray, List.set_cons_succ, List.set_cons_zero]
      refine stepsSeq.nil ?_
      intro w' hb1
      have hb3 : Below w2.heap.size w2 w' := hb.trans (hb1.mono hwo)
      clear ci ck a0 a1 a2 a3 b0 b1 b2 b3 hb1 hb
      go_wp2
      go_roundw
      case rel => exact ⟨j + 2, by omega, .inl (by omega), by go_num, hb3⟩
      case measure => simp [intOf]; omega
    · have hge : ¬ (i : Int) < c.length := by omega
      have Hb := Lib.hid hb
      clear hi1 hi2 hlt
      obtain ⟨wo, rfl⟩ : ∃ wo : World, wo = wr := ⟨_, rfl⟩
      go_wp2
      go_loopw [11, 12, 92, 93, 94, 95, 96, 97, 98, 99, 100, 101, 102, 103, 104, 105, 106, 107, 108, 109, 110, 111, 112, 113, 114, 115, 116, 117, 118, 119, 120, 121, 122, 123, 124, 125] (fun t11 _ t92 _ _ _ _ _ _ _ _ _ _ _ _ _ _ _ _ _ _ _ _ _ _ _ _ _ _ _ _ _ _ _ _ _ wr => ∃ (k : Nat) (d : List Int), k ≤ s.length ∧ d.length ≤ k ∧ t92 = .int .i64 k ∧ wr.ownsRow wo.heap.size 3 1 t11 d.length (d.map (Value.int .i64)) ∧ (d.length = 0 ∨ ∃ x : Nat, d[d.length - 1]? = some (x : Int) ∧ x < k ∧ ∀ lev : Nat → Nat, (∀ i k, i < k → k < s.length → cfl s i k = true → lev i + 1 ≤ lev k) → d.length ≤ lev x + 1) ∧ Below wo.heap.size wo wr) (fun _ _ t92 _ _ _ _ _ _ _ _ _ _ _ _ _ _ _ _ _ _ _ _ _ _ _ _ _ _ _ _ _ _ _ _ _ _ => s.length - (intOf t92).toNat)
      case atStart => exact ⟨0, [], by omega, by simp, rfl, World.ownsRow_nil _ _ _ _, .inl rfl, Below.refl _ _⟩
      case round =>
        obtain ⟨k, d, hk, hdk, rfl, hown, hd, hb2⟩ := hrel
        by_cases hlt : k < s.length
        · have hS := HS2.out.below (Hb.out.trans (hb2.mono Hb.out.size)) (Nat.le_refl _)
          obtain ⟨sb, soff, rfl, _, hsc⟩ := hS.at hlt
          obtain ⟨b0, b1, b2, b3⟩ := hsc k hlt
          have hk1 : (k : Int) < s.length := by omega
          have hk16 : k < 16 := by omega
          have Hown := Lib.hid hown
          have hsz : wo.heap.size ≤ wr.heap.size := hb2.size
          have Hb2 := Lib.hid hb2
          clear hS hown hb2 hge
          have hwr : Below wr.heap.size wr wr := Below.refl _ _
          cases hy : (bits .and .u16 (at' / 2 ^ k) 1 == 1)
          · have Hd := Lib.hid hd
            clear hd
            obtain ⟨da, dcap, rfl, hdc, hdm⟩ := (Ints.of_own Hown.out).form
            go_wp2
            refine wp_region_seq (fun w' => Below wr.heap.size wr w') (by kernel_rfl) (by kernel_rfl) ((Below.refl _ _).drew) ?_
            repeat
              try simp only [Act.put, List.setIfInBounds_toArray, List.set_cons_succ, List.set_cons_zero]
              apply stepsSeq.cons
              · intro w' hb1
                have Hb1' := Lib.hid hb1
                simp only [Act.put, List.setIfInBounds_toArray, List.set_cons_succ, List.set_cons_zero]
                go_wp2_with (fail)
                first | exact ⟨rfl, Hb1'.out⟩ | exact ⟨rfl, Hb1'.out.trans (hb2.mono Hb1'.out.size)⟩
            try simp only [Act.put, List.setIfInBounds_toArray, List.set_cons_succ, List.set_cons_zero]
            refine stepsSeq.nil ?_
            intro w' hb1
            have hown2 := own_below Hown.out hb1 (Nat.le_refl _)
            have hb02 := Hb2.out.trans (hb1.mono hsz)
            have Hb02 := Lib.hid hb02
            clear hb1 hwr b0 b1 b2 b3
            go_wp2
            go_roundw
            case rel => exact ⟨k + 1, d, by omega, by omega, by go_num, hown2, Hd.out.imp id (fun ⟨x, h1, h2, h3⟩ => ⟨x, h1, by omega, h3⟩), Hb02.out⟩
            case measure => simp [intOf]; omega
          · rcases hd with hd0 | ⟨x, hx1, hx2, hx3⟩
            · obtain rfl : d = [] := List.eq_nil_of_length_eq_zero hd0
              obtain ⟨da, dcap, rfl, hdc, hdm⟩ := (Ints.of_own (xs := []) Hown.out).form
              go_wp2
              refine wp_region_seq (fun w' => Below wr.heap.size wr w') (by kernel_rfl) (by kernel_rfl) ((Below.refl _ _).drew) ?_
              repeat
                try simp only [Act.put, List.setIfInBounds_toArray, List.set_cons_succ, List.set_cons_zero]
                apply stepsSeq.cons
                · intro w' hb1
                  have Hb1' := Lib.hid hb1
                  simp only [Act.put, List.setIfInBounds_toArray, List.set_cons_succ, List.set_cons_zero]
                  go_wp2_with (fail)
                  first | exact ⟨rfl, Hb1'.out⟩ | exact ⟨rfl, Hb1'.out.trans (hb2.mono Hb1'.out.size)⟩
              try simp only [Act.put, List.setIfInBounds_toArray, List.set_cons_succ, List.set_cons_zero]
              refine stepsSeq.nil ?_
              intro w' hb1
              have hown2 := own_below Hown.out hb1 (Nat.le_refl _)
              have hb02 := Hb2.out.trans (hb1.mono hsz)
              clear hb1 hwr b0 b1 b2 b3
              go_wp2_with (at_builtin; refine wpList_append_new rfl _ _ 27 rfl hown2 info_int Try.underlying27 rfl (by decide) rfl 1 1 rfl rfl rfl (by unfold maxLen; omega) (by omega) hb02.size ?_; intro v' w' hown4 hg4 hb4)
              go_roundw
              case rel => exact ⟨k + 1, [(k : Int)], by omega, by simp, by go_num, by simpa using hown4, .inr ⟨k, by simp, by omega, fun lev _ => by simp⟩, hb02.trans hb4⟩
              case measure => simp [intOf]; omega
            · have hxs : x < s.length := by omega
              obtain ⟨m, hm⟩ : ∃ m, d.length = m + 1 := ⟨d.length - 1, by have := (List.getElem?_eq_some_iff.1 hx1).1; omega⟩
              have hI := Ints.of_own Hown.out
              obtain ⟨da, dcap, rfl, hdc, hdm⟩ := hI.form
              obtain ⟨db, doff, rfl, _, hdcl⟩ := hI.at (k := m) (by omega)
              have hmd : m < d.length := by omega
              have cm := hdcl m hmd
              have e1 : d[m]'hmd = (x : Int) := by rw [show d.length - 1 = m from by rw [hm]; rfl, List.getElem?_eq_getElem hmd] at hx1; exact Option.some.inj hx1
              rw [e1] at cm
              obtain ⟨a0, a1, a2, a3⟩ := hsc x hxs
              have hm1 : (d.length : Int) - 1 = m := by omega
              have hm2 : (m : Int) < d.length := by omega
              have hm3 : ((d.length : Int) == 0) = false := by rw [beq_eq_false_iff_ne]; omega
              have hxl : (x : Int) < s.length := by omega
              have Hm := Lib.hid hm
              have Hx3 := Lib.hid hx3
              have Hx2 := Lib.hid hx2
              have Hx1 := Lib.hid hx1
              clear hI hdcl hm hx1 hx3 hsc
              cases hz : conf (s[x]'hxs) s[k]
              · have HC := Lib.hid (conflict_as hz)
                clear hz
                go_wp2
                refine wp_region_seq (fun w' => Below wr.heap.size wr w') (by kernel_rfl) (by kernel_rfl) ((Below.refl _ _).drew) ?_
                repeat
                  try simp only [Act.put, List.setIfInBounds_toArray, List.set_cons_succ, List.set_cons_zero]
                  apply stepsSeq.cons
                  · intro w' hb1
                    have Hb1' := Lib.hid hb1
                    have cm' := Below.keep hb1 cm
                    have a0' := Below.keep hb1 a0
                    have a1' := Below.keep hb1 a1
                    have a2' := Below.keep hb1 a2
                    have a3' := Below.keep hb1 a3
                    have b0' := Below.keep hb1 b0
                    have b1' := Below.keep hb1 b1
                    have b2' := Below.keep hb1 b2
                    have b3' := Below.keep hb1 b3
                    simp only [Act.put, List.setIfInBounds_toArray, List.set_cons_succ, List.set_cons_zero]
                    go_wp2_with (go_at_call 14; refine (HC.out _).mono ?_; rintro e w3 ⟨rfl, hb2⟩)
                    first | exact ⟨rfl, Hb1'.out⟩ | exact ⟨rfl, Hb1'.out.trans (hb2.mono Hb1'.out.size)⟩
                try simp only [Act.put, List.setIfInBounds_toArray, List.set_cons_succ, List.set_cons_zero]
                refine stepsSeq.nil ?_
                intro w' hb1
                have hown2 := own_below Hown.out hb1 (Nat.le_refl _)
                have hb02 := Hb2.out.trans (hb1.mono hsz)
                have Hb02 := Lib.hid hb02
                clear hb1 hwr b0 b1 b2 b3 a0 a1 a2 a3 cm
                go_wp2
                go_roundw
                case rel => exact ⟨k + 1, d, by omega, by omega, by go_num, hown2, .inr ⟨x, Hx1.out, by omega, Hx3.out⟩, Hb02.out⟩
                case measure => simp [intOf]; omega
              · have Hz := Lib.hid hz
                have HC := Lib.hid (conflict_as hz)
                clear hz
                go_wp2
                refine wp_region_seq (fun w' => Below wr.heap.size wr w') (by kernel_rfl) (by kernel_rfl) ((Below.refl _ _).drew) ?_
                repeat
                  try simp only [Act.put, List.setIfInBounds_toArray, List.set_cons_succ, List.set_cons_zero]
                  apply stepsSeq.cons
                  · intro w' hb1
                    have Hb1' := Lib.hid hb1
                    have cm' := Below.keep hb1 cm
                    have a0' := Below.keep hb1 a0
                    have a1' := Below.keep hb1 a1
                    have a2' := Below.keep hb1 a2
                    have a3' := Below.keep hb1 a3
                    have b0' := Below.keep hb1 b0
                    have b1' := Below.keep hb1 b1
                    have b2' := Below.keep hb1 b2
                    have b3' := Below.keep hb1 b3
                    simp only [Act.put, List.setIfInBounds_toArray, List.set_cons_succ, List.set_cons_zero]
                    go_wp2_with (go_at_call 14; refine (HC.out _).mono ?_; rintro e w3 ⟨rfl, hb2⟩)
                    first | exact ⟨rfl, Hb1'.out⟩ | exact ⟨rfl, Hb1'.out.trans (hb2.mono Hb1'.out.size)⟩
                try simp only [Act.put, List.setIfInBounds_toArray, List.set_cons_succ, List.set_cons_zero]
                refine stepsSeq.nil ?_
                intro w' hb1
                have hown2 := own_below Hown.out hb1 (Nat.le_refl _)
                have hb02 := Hb2.out.trans (hb1.mono hsz)
                clear hb1 hwr b0 b1 b2 b3 a0 a1 a2 a3 cm
                go_wp2_with (at_builtin; refine wpList_append_new rfl _ _ 27 rfl hown2 info_int Try.underlying27 rfl (by decide) rfl 1 1 rfl rfl rfl (by unfold maxLen; omega) (by omega) hb02.size ?_; intro v' w' hown4 hg4 hb4)
                go_roundw
                case rel => exact ⟨k + 1, d ++ [(k : Int)], by omega, by simp; omega, by go_num, by simpa using hown4, .inr ⟨k, by simp, by omega, fun lev hl => by have h1 := Hx3.out lev hl; have h2 := hl x k Hx2.out hlt (by rw [cfl_eq hxs hlt]; exact Hz.out); simp; omega⟩, hb02.trans hb4⟩
                case measure => simp [intOf]; omega
        · have hl : d.length ≤ c.length := by
            rcases hd with h | ⟨x, h1, h2, h3⟩
            · omega
            · obtain ⟨lev, h4, h5⟩ := Hlev.out
              have := h3 lev h5
              have := h4 x (by omega)
              omega
          obtain ⟨da, dcap, rfl, hdc, hdm⟩ := (Ints.of_own hown).form
          have hb3 := Hb12.out.trans ((Hb.out.trans (hb2.mono Hb.out.size)).mono Hb12.out.size)
          clear hown hb2 hd
          go_wp2_with (go_at_call 15; refine (awake_any _).mono ?_; rintro e w3 ⟨rfl, hb4⟩)
          go_ret
          exact ⟨rfl, hb3.trans (hb4.mono hb3.size)⟩
end Go.Proofs.Ytbcfanfnnmijdaa
