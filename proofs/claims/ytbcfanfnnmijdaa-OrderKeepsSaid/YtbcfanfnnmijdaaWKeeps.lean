/- OrderKeeps, walked: for every list of numbers, every list of picks and every place it answers true and writes nothing that was there. -/
import Derived.Test.YtbcfanfnnmijdaaWReady
namespace Go.Proofs.Ytbcfanfnnmijdaa
open Go.RowKit

theorem own_form {w : World} {base n : Nat} {v : Value} {e : TypeId} {xs : List Value} (h : w.ownsRow base e 1 v (0 + n) ([] ++ xs)) (hn : 0 < n) :
    ∃ g cap, v = .slice (some ⟨g, 0, none⟩) n cap ∧ base ≤ g ∧ w.ownsRow base e 1 (.slice (some ⟨g, 0, none⟩) n cap) n xs := by
  rw [Nat.zero_add, List.nil_append] at h
  rcases h.2 with ⟨_, h0⟩ | ⟨g, cap, cur, rfl, hb, _⟩
  · omega
  · exact ⟨g, cap, rfl, hb, h⟩
set_option maxRecDepth 100000 in
set_option maxHeartbeats 1000000 in
theorem orderKeeps_any (l : List (BitVec 32)) (zs : List Int) (at' : Int) (v pv : Value) (w : World) (hL : Words w l v) (hP : Bytes8 w zs pv) (ha0 : 0 ≤ at') (ha1 : at' ≤ 255) :
    Calls Try.prog 3 #[v, pv, .int .u8 at'] w fun e w' => e = .returned (.bool true) ∧ Below w.heap.size w w' := by
  obtain ⟨pa, pcap, rfl, hpc, hpm⟩ := hP.1.form
  have HB := Lib.hid (built_valid l v w hL)
  have hVA : Hid (∀ s sv w1, Syss w1 s sv → (∀ x ∈ s, x.ok) → validS s = true → Calls Try.prog 11 #[sv] w1 fun e w' => e = .returned (.bool true) ∧ Below w1.heap.size w1 w') := Lib.hid fun s sv w1 h1 h2 h3 => by
    have := valid_any s sv w1 h1 h2
    rwa [h3] at this
  go_enter Try.func3, Try.ntmps3
  go_wp2_with (first | (go_at_call 10; refine HB.out.mono ?_; rintro e w0 ⟨sv, s, rfl, hS, hv, hok, hb1⟩; obtain ⟨sa, scap, rfl, hsc, hsm⟩ := hS.form; have hs16 := valid_len hv; have Hv := Lib.hid hv; have Hok := Lib.hid hok; have HS0 := Lib.hid hS; clear hS hok hv) | (go_at_call 11; refine (hVA.out _ _ _ HS0.out Hok.out Hv.out).mono ?_; rintro e w1 ⟨rfl, hb2⟩))
  have HS1 := Lib.hid (HS0.out.below hb2 (Nat.le_refl _))
  have Hb1 := Lib.hid (hb1.trans (hb2.mono hb1.size))
  have HP := Lib.hid hP
  clear hP hL hb1 hb2
  go_loopw [6, 8, 9, 10, 11, 12, 24, 25, 26, 27, 28, 29, 30, 31, 32, 33, 34, 35, 36, 37, 38, 39, 40, 41, 42, 43, 44, 45, 46, 47, 48, 49, 50, 51, 52, 53, 54, 55, 56, 57, 58, 59] (fun _ t8 _ _ _ _ t24 _ _ _ _ _ _ _ _ _ _ _ _ _ _ _ _ _ _ _ _ _ _ _ _ _ _ _ _ _ _ _ _ _ _ _ wr => ∃ d : List Int, t24 = .int .i64 d.length ∧ Run s [] d ∧ wr.ownsRow w1.heap.size 3 1 t8 d.length (d.map (Value.int .i64)) ∧ Below w1.heap.size w1 wr) (fun _ _ _ _ _ _ t24 _ _ _ _ _ _ _ _ _ _ _ _ _ _ _ _ _ _ _ _ _ _ _ _ _ _ _ _ _ _ _ _ _ _ _ _ => s.length - (intOf t24).toNat)
  case atStart => exact ⟨[], rfl, trivial, World.ownsRow_nil _ _ _ _, Below.refl _ _⟩
  case round =>
    obtain ⟨d, rfl, hrun, hown, hb⟩ := hrel
    have hS := HS1.out.below hb (Nat.le_refl _)
    obtain ⟨da, dcap, rfl, hdc, hdm⟩ := (Ints.of_own hown).form
    have hd : doneOk s.length d = true := by have := hrun.ok _ _ (done_nil _); simpa using this
    have hdl := done_len hd
    by_cases hlt : d.length < s.length
    · have hrl := ready_len Hv.out hd
      have HR := Lib.hid (ready_at hS Hok.out Hv.out hd (Ints.of_own hown))
      have Hrun := Lib.hid hrun
      have Hd := Lib.hid hd
      clear hrun hd
      generalize hR : (readyR s d).1 = R at HR hrl
      have HRe := Lib.hid hR
      clear hR
      have hR0 : 0 < R.length := by have := mt hrl.1 (by omega); omega
      have h1 : ((R.length : Int) == 0) = false := by simp; intro e; subst e; simp at hR0
      obtain ⟨wo, rfl⟩ : ∃ wo : World, wo = wr := ⟨_, rfl⟩
      have hbv : Below w.heap.size w wo := Hb1.out.trans (hb.mono Hb1.out.size)
      have hP2 := HP.out.below hbv (Nat.le_refl _)
      clear hrl hS
      by_cases hp : d.length < zs.length
      · obtain ⟨pb, poff, rfl, hpb, hz0, hz1⟩ := hP2.at hp
        generalize zs[d.length] = z at hpb hz0 hz1
        obtain ⟨zn, rfl⟩ := Int.eq_ofNat_of_zero_le hz0
        have hm1 : (zn : Int) % (R.length : Int) < R.length := Int.emod_lt_of_pos _ (by omega)
        have hm0 : 0 ≤ (zn : Int) % (R.length : Int) := Int.emod_nonneg _ (by omega)
        have hlt2 : zn % R.length < R.length := Nat.mod_lt _ hR0
        have Hown := Lib.hid hown
        clear hown hP2
        go_wp2_with (first | (go_at_call 12; refine HR.out.mono ?_; rintro e w2 ⟨r, rfl, hr, hb2⟩; obtain ⟨ra, rcap, rfl, hrc, hrm⟩ := hr.form; obtain ⟨b, off, rfl, _, hc⟩ := hr.at hR0; have hpb2 := Below.keep hb2 hpb; have cy := hc _ hlt2; have hown2 := own_below Hown.out hb2 (Nat.le_refl _); have hb02 : Below w1.heap.size w1 w2 := hb.trans (hb2.mono hb.size); clear hc hr hb2) | (at_builtin; refine wpList_append_new rfl _ _ 27 rfl hown2 info_int Try.underlying27 rfl (by decide) rfl 1 1 rfl rfl rfl (by unfold maxLen; omega) (by omega) hb02.size ?_; intro v' w' hown4 hg4 hb4))
        have hin := (mem_ready Hv.out Hd.out).2 R[zn % R.length]
        rw [HRe.out] at hin
        have hy2 := hin.1 (List.getElem_mem hlt2)
        go_roundw
        case rel => exact ⟨d ++ [R[zn % R.length]], by simp, (Run.append d _ []).2 ⟨Hrun.out, by rw [List.nil_append]; exact ⟨hy2, trivial⟩⟩, by simpa using hown4, hb02.trans hb4⟩
        case measure => simp [intOf]; omega
      · have Hown := Lib.hid hown
        clear hown hP2
        go_wp2_with (first | (go_at_call 12; refine HR.out.mono ?_; rintro e w2 ⟨r, rfl, hr, hb2⟩; obtain ⟨ra, rcap, rfl, hrc, hrm⟩ := hr.form; obtain ⟨b, off, rfl, _, hc⟩ := hr.at hR0; have cy := hc 0 hR0; rw [Nat.add_zero] at cy; have hown2 := own_below Hown.out hb2 (Nat.le_refl _); have hb02 : Below w1.heap.size w1 w2 := hb.trans (hb2.mono hb.size); clear hc hr hb2) | (at_builtin; refine wpList_append_new rfl _ _ 27 rfl hown2 info_int Try.underlying27 rfl (by decide) rfl 1 1 rfl rfl rfl (by unfold maxLen; omega) (by omega) hb02.size ?_; intro v' w' hown4 hg4 hb4))
        have hin := (mem_ready Hv.out Hd.out).2 R[0]
        rw [HRe.out] at hin
        have hy2 := hin.1 (List.getElem_mem hR0)
        go_roundw
        case rel => exact ⟨d ++ [R[0]], by simp, (Run.append d _ []).2 ⟨Hrun.out, by rw [List.nil_append]; exact ⟨hy2, trivial⟩⟩, by simpa using hown4, hb02.trans hb4⟩
        case measure => simp [intOf]; omega
    · have e : d.length = s.length := by omega
      have hleg := (legal_iff Hv.out e).2 hrun
      have hwf : ∀ x ∈ d, (Lit.int .i64 x).wf = true := fun x hx => by have := (doneOk_iff.1 hd).2 x hx; exact wf_i64 (by omega) (by omega)
      have hL := legal_any s d _ _ wr hS Hok.out (Ints.of_own hown) hwf
      rw [hleg] at hL
      have HL := Lib.hid hL
      have Hrun := Lib.hid hrun
      have Hd := Lib.hid hd
      have Hwf := Lib.hid hwf
      have Hown := Lib.hid hown
      obtain ⟨wo, rfl⟩ : ∃ wo : World, wo = wr := ⟨_, rfl⟩
      have He := Lib.hid e
      have hge : ¬ (d.length : Int) < s.length := by omega
      clear hrun hd hL hleg hwf hown hS e hlt
      go_wp2_with (go_at_call 13; refine HL.out.mono ?_; rintro e w5 ⟨rfl, hb5⟩)
      have Hown5 := Lib.hid (own_below Hown.out hb5 (Nat.le_refl _))
      have hb15 : Below w1.heap.size w1 w5 := hb.trans (hb5.mono hb.size)
      clear hb hb5
      go_loopw [6, 13, 14, 66, 67, 68, 69, 70, 71, 72, 73, 74, 75, 76, 77, 78, 79, 80, 81, 82, 83, 84, 85, 86, 87, 88, 89, 90, 91, 92, 93, 94, 95, 96, 97, 98, 99, 100, 101, 102, 103] (fun _ _ _ t66 _ _ _ _ _ _ _ _ _ _ _ _ _ _ _ _ _ _ _ _ _ _ _ _ _ _ _ _ _ _ _ _ _ _ _ _ _ wr => ∃ i : Nat, i ≤ d.length ∧ t66 = .int .i64 i ∧ Below w5.heap.size w5 wr) (fun _ _ _ t66 _ _ _ _ _ _ _ _ _ _ _ _ _ _ _ _ _ _ _ _ _ _ _ _ _ _ _ _ _ _ _ _ _ _ _ _ _ _ => d.length - (intOf t66).toNat)
      case atStart => exact ⟨0, by omega, rfl, Below.refl _ _⟩
      case round =>
        obtain ⟨i, hi, rfl, hb6⟩ := hrel
        by_cases hil : i < d.length
        · go_wp2
          go_loopw [6, 14, 71, 72, 73, 74, 75, 76, 77, 78, 79, 80, 81, 82, 83, 84, 85, 86, 87, 88, 89, 90, 91, 92, 93, 94, 95, 96, 97, 98, 99, 100, 101, 102] (fun _ t14 _ _ _ _ _ _ _ _ _ _ _ _ _ _ _ _ _ _ _ _ _ _ _ _ _ _ _ _ _ _ _ _ wr => ∃ k : Nat, i < k ∧ k ≤ d.length ∧ t14 = .int .i64 k ∧ Below w5.heap.size w5 wr) (fun _ t14 _ _ _ _ _ _ _ _ _ _ _ _ _ _ _ _ _ _ _ _ _ _ _ _ _ _ _ _ _ _ _ _ _ => d.length - (intOf t14).toNat)
          case atStart => exact ⟨i + 1, by omega, by omega, by go_num, hb6⟩
          case round =>
            clear hb6
            obtain ⟨k, hik, hk, rfl, hb7⟩ := hrel
            by_cases hkl : k < d.length
            · have hb17 : Below w1.heap.size w1 wr := hb15.trans (hb7.mono hb15.size)
              have hI := Ints.of_own (own_below Hown5.out hb7 (Nat.le_refl _))
              have hS7 := HS1.out.below hb17 (Nat.le_refl _)
              obtain ⟨ob, ooff, rfl, _, hoc⟩ := hI.at hil
              have ci := hoc i hil
              have ck := hoc k hkl
              obtain ⟨gi0, gi1⟩ := (doneOk_iff.1 Hd.out).2 d[i] (List.getElem_mem hil)
              obtain ⟨gk0, gk1⟩ := (doneOk_iff.1 Hd.out).2 d[k] (List.getElem_mem hkl)
              have hord := run_order Hrun.out hik hkl
              generalize hA : d[i] = A' at *
              generalize hB : d[k] = B' at *
              obtain ⟨A, rfl⟩ := Int.eq_ofNat_of_zero_le gi0
              obtain ⟨B, rfl⟩ := Int.eq_ofNat_of_zero_le gk0
              have hAl : A < s.length := by omega
              have hBl : B < s.length := by omega
              obtain ⟨sb, soff, rfl, _, hsc⟩ := hS7.at hAl
              obtain ⟨a0, a1, a2, a3⟩ := hsc A hAl
              obtain ⟨b0, b1, b2, b3⟩ := hsc B hBl
              have hlti : (i : Int) < d.length := by omega
              have hltk : (k : Int) < d.length := by omega
              clear hI hS7 hoc hA hB hsc hb17
              by_cases hgt : B < A
              · have hcf := hord (by omega)
                rw [Int.toNat_natCast, Int.toNat_natCast, cfl_comm, cfl_eq hAl hBl] at hcf
                have HC := Lib.hid (conflict_as hcf)
                have hd1 : decide ((A : Int) > B) = true := by simpa using hgt
                clear hord hcf
                go_wp2
                refine wp_region_vals [.slice (some ⟨ob, ooff, none⟩) d.length dcap, .int .i64 i, .pointer (some ⟨ob, ooff + i, none⟩), .int .i64 A, .slice (some ⟨ob, ooff, none⟩) d.length dcap, .int .i64 k, .pointer (some ⟨ob, ooff + k, none⟩), .int .i64 B, .bool true, .bool true, .slice (some ⟨sb, soff, none⟩) s.length scap, .slice (some ⟨ob, ooff, none⟩) d.length dcap, .int .i64 i, .pointer (some ⟨ob, ooff + i, none⟩), .int .i64 A, .pointer (some ⟨sb, soff + A * 4, none⟩), s[A].val, .slice (some ⟨sb, soff, none⟩) s.length scap, .slice (some ⟨ob, ooff, none⟩) d.length dcap, .int .i64 k, .pointer (some ⟨ob, ooff + k, none⟩), .int .i64 B, .pointer (some ⟨sb, soff + B * 4, none⟩), s[B].val, .bool false, .bool false] (fun w' => Below wr.heap.size wr w') (by kernel_rfl) (by kernel_rfl) ((Below.refl _ _).drew) ?hs ?hf
                all_goals simp only [fill_cons, fill_nil, Act.put, List.setIfInBounds_toArray, List.set_cons_succ, List.set_cons_zero]
                case hs =>
                  repeat' (first | exact stepsOk.nil | refine stepsOk.cons ?_ ?_)
                  all_goals
                    intro w' hb1
                    have ci' := Below.keep hb1 ci
                    have ck' := Below.keep hb1 ck
                    have a0' := Below.keep hb1 a0
                    have a1' := Below.keep hb1 a1
                    have a2' := Below.keep hb1 a2
                    have a3' := Below.keep hb1 a3
                    have b0' := Below.keep hb1 b0
                    have b1' := Below.keep hb1 b1
                    have b2' := Below.keep hb1 b2
                    have b3' := Below.keep hb1 b3
                    have Hb1' := Lib.hid hb1
                    clear ci ck a0 a1 a2 a3 b0 b1 b2 b3 hb1
                    go_wp2_with (go_at_call 14; refine (HC.out _).mono ?_; rintro e w2 ⟨rfl, hb2⟩)
                    all_goals first | exact ⟨rfl, Hb1'.out⟩ | exact ⟨rfl, Hb1'.out.trans (hb2.mono Hb1'.out.size)⟩
                case hf =>
                  intro w' hb1
                  have hb8 : Below w5.heap.size w5 w' := hb7.trans (hb1.mono hb7.size)
                  clear hb1 ci ck a0 a1 a2 a3 b0 b1 b2 b3
                  go_wp2
                  go_roundw
                  case rel => exact ⟨k + 1, by omega, by omega, by go_num, hb8⟩
                  case measure => simp [intOf]; omega
              · have hd1 : decide ((A : Int) > B) = false := by simp; omega
                clear hord a0 a1 a2 a3 b0 b1 b2 b3
                go_wp2
                refine wp_region_vals [.slice (some ⟨ob, ooff, none⟩) d.length dcap, .int .i64 i, .pointer (some ⟨ob, ooff + i, none⟩), .int .i64 A, .slice (some ⟨ob, ooff, none⟩) d.length dcap, .int .i64 k, .pointer (some ⟨ob, ooff + k, none⟩), .int .i64 B, .bool false, .bool false, undef, undef, undef, undef, undef, undef, undef, undef, undef, undef, undef, undef, undef, undef, undef, .bool false] (fun w' => Below wr.heap.size wr w') (by kernel_rfl) (by kernel_rfl) ((Below.refl _ _).drew) ?hs ?hf
                all_goals simp only [fill_cons, fill_nil, Act.put, List.setIfInBounds_toArray, List.set_cons_succ, List.set_cons_zero]
                case hs =>
                  repeat' (first | exact stepsOk.nil | refine stepsOk.cons ?_ ?_)
                  all_goals
                    intro w' hb1
                    have ci' := Below.keep hb1 ci
                    have ck' := Below.keep hb1 ck
                    have Hb1' := Lib.hid hb1
                    clear ci ck hb1
                    go_wp2
                    all_goals exact ⟨rfl, Hb1'.out⟩
                case hf =>
                  intro w' hb1
                  have hb8 : Below w5.heap.size w5 w' := hb7.trans (hb1.mono hb7.size)
                  clear hb1 ci ck
                  go_wp2
                  go_roundw
                  case rel => exact ⟨k + 1, by omega, by omega, by go_num, hb8⟩
                  case measure => simp [intOf]; omega
            · obtain rfl : k = d.length := by omega
              go_wp2
              go_roundw
              case rel => exact ⟨i + 1, by omega, by go_num, hb7⟩
              case measure => simp [intOf]; omega
        · obtain rfl : i = d.length := by omega
          have hb16 : Below w1.heap.size w1 wr := hb15.trans (hb6.mono hb15.size)
          have hown6 := own_below Hown5.out hb6 (Nat.le_refl _)
          have hS6 := HS1.out.below hb16 (Nat.le_refl _)
          have hb0 : Below w.heap.size w wr := Hb1.out.trans (hb16.mono Hb1.out.size)
          by_cases h2 : d.length < 2
          · clear hown6 hS6
            go_wp2_with (go_at_call 15; refine (awake_any _).mono ?_; rintro e w3 ⟨rfl, hb4⟩)
            go_ret
            exact ⟨rfl, hb0.trans (hb4.mono hb0.size)⟩
          · obtain ⟨z, rfl⟩ := Int.eq_ofNat_of_zero_le ha0
            obtain ⟨q, hq, hq1⟩ : ∃ q : Nat, (z : Int) % ((d.length : Int) - 1) = (q : Int) ∧ q + 1 < d.length := by
              refine ⟨z % (d.length - 1), ?_, ?_⟩
              · rw [Int.natCast_emod, Int.natCast_sub (by omega)]; rfl
              · have := Nat.mod_lt z (show 0 < d.length - 1 by omega); omega
            have hz0 : ((d.length : Int) - 1 == 0) = false := by simp; omega
            have hI6 := Ints.of_own hown6
            obtain ⟨ob, ooff, rfl, _, hoc⟩ := hI6.at (k := q) (by omega)
            have ci := hoc q (by omega)
            have ck := hoc (q + 1) hq1
            obtain ⟨gi0, gi1⟩ := (doneOk_iff.1 Hd.out).2 d[q] (List.getElem_mem _)
            obtain ⟨gk0, gk1⟩ := (doneOk_iff.1 Hd.out).2 d[q + 1] (List.getElem_mem _)
            have hsplit : d = d.take q ++ d[q] :: d[q + 1] :: d.drop (q + 2) := by rw [← List.drop_eq_getElem_cons, ← List.drop_eq_getElem_cons, List.take_append_drop]
            have hpl : (d.take q).length = q := by rw [List.length_take]; omega
            generalize d[q] = A' at *
            generalize d[q + 1] = B' at *
            generalize d.take q = p at hsplit hpl
            generalize d.drop (q + 2) = r at hsplit
            obtain ⟨A, rfl⟩ := Int.eq_ofNat_of_zero_le gi0
            obtain ⟨B, rfl⟩ := Int.eq_ofNat_of_zero_le gk0
            have hAl : A < s.length := by omega
            have hBl : B < s.length := by omega
            obtain ⟨sb, soff, rfl, _, hsc⟩ := hS6.at hAl
            obtain ⟨a0, a1, a2, a3⟩ := hsc A hAl
            obtain ⟨b0, b1, b2, b3⟩ := hsc B hBl
            have Hsplit := Lib.hid hsplit
            have Hpl := Lib.hid hpl
            have Hq := Lib.hid hq1
            have HS6 := Lib.hid hS6
            have hsl : Sl (wr.alloc (.cells #[] 3)) 1 d.length (d.map (Value.int .i64)) (.slice (some ⟨ob, ooff, none⟩) d.length dcap) := Sl.below (by omega) hI6 ((Below.refl _ _).alloc (Nat.le_refl _) _) (Nat.le_refl _)
            have hlit := World.ownsRow_lit (base := wr.heap.size) (e := 3) (size := 1) wr #[] 0 (Nat.le_refl _) (by unfold maxLen; omega) rfl
            have Hsl := Lib.hid hsl
            have Hlit := Lib.hid hlit
            clear hoc hsc hsplit hpl hsl hlit hown6 hI6 hS6
            go_wp2_with (at_builtin; refine wpList_append_src rfl _ _ 27 rfl Hlit.out info_int Try.underlying27 rfl (by decide) rfl Hsl.out rfl (by simp [Value.oneCell']) (by unfold maxLen; omega) (by omega) (by simp) ?_; intro v' w6 hownT _ hbT _; obtain ⟨g, tcap, rfl, hgw, hT⟩ := own_form hownT (by omega); clear hownT)
            have e1 : (d.map (Value.int .i64))[q]? = some (.int .i64 A) := by rw [← Hpl.out, Hsplit.out]; simp
            have e2 : (d.map (Value.int .i64))[q + 1]? = some (.int .i64 B) := by rw [← Hpl.out, Hsplit.out]; simp
            have hTq := (hT.cellAt q (by omega)).trans e1
            have hTq1 := (hT.cellAt (q + 1) (by omega)).trans e2
            clear e1 e2
            have hFq := hT.frozenAt q
            have hFq1 := hT.frozenAt (q + 1)
            have HbT := Lib.hid hbT
            clear hbT
            go_region
            generalize hw7 : (World.drew _ : World) = w7
            have hst := hT.stored q (.int .i64 (B : Int))
            have hst2 := hst.1.stored (q + 1) (.int .i64 (A : Int))
            have hT7 : w7.ownsRow wr.heap.size 3 1 (.slice (some ⟨g, 0, none⟩) d.length tcap) d.length (((d.map (Value.int .i64)).set q (.int .i64 (B : Int))).set (q + 1) (.int .i64 (A : Int))) := by subst hw7; exact hst2.1
            have hb67 : Below wr.heap.size wr w7 := by
              have h1 : Below wr.heap.size wr w6 := ((Below.refl _ _).alloc (Nat.le_refl _) _).trans HbT.out
              have h2 := h1.grown hst.2 h1.size (by simp; omega)
              have h3 := h2.grown hst2.2 h2.size (by simp; omega)
              subst hw7
              exact h3.drew
            have hset : ((d.map (Value.int .i64)).set q (.int .i64 (B : Int))).set (q + 1) (.int .i64 (A : Int)) = (p ++ (B : Int) :: (A : Int) :: r).map (Value.int .i64) := by
              rw [← Hpl.out, Hsplit.out]
              simp
            have hlen : (p ++ (B : Int) :: (A : Int) :: r).length = d.length := by rw [Hsplit.out]; simp
            rw [hset] at hT7
            have hI7 : Ints w7 (p ++ (B : Int) :: (A : Int) :: r) (.slice (some ⟨g, 0, none⟩) d.length tcap) := by unfold Ints; rw [hlen]; exact Sl.of_own hT7
            have hsw := run_swap (l := s) (p := p) (q := r) (a := (A : Int)) (b := (B : Int)) (by rw [← Hsplit.out]; exact Hrun.out)
            rw [Int.toNat_natCast, Int.toNat_natCast, cfl_eq hAl hBl] at hsw
            obtain ⟨y, hy⟩ : ∃ y, conf s[A] s[B] = y := ⟨_, rfl⟩
            have HC := Lib.hid (conflict_as hy)
            have hleg2 : legalR s (p ++ (B : Int) :: (A : Int) :: r) = !y := by
              rw [hy] at hsw
              have h := (legal_iff Hv.out (hlen.trans He.out)).trans hsw
              cases y
              · simpa using h
              · exact Bool.eq_false_iff.2 (fun h' => by have := h.1 h'; cases this)
            have hwf2 : ∀ x ∈ p ++ (B : Int) :: (A : Int) :: r, (Lit.int .i64 x).wf = true := fun x hx => Hwf.out x (by
              rw [Hsplit.out]
              simp only [List.mem_append, List.mem_cons] at hx ⊢
              rcases hx with h | h | h | h
              · exact .inl h
              · exact .inr (.inr (.inl h))
              · exact .inr (.inl h)
              · exact .inr (.inr (.inr h)))
            have hS7 := HS6.out.below hb67 (Nat.le_refl _)
            have HL2 : Hid (∀ w', Below w7.heap.size w7 w' → Calls Try.prog 13 #[.slice (some ⟨sb, soff, none⟩) s.length scap, .slice (some ⟨g, 0, none⟩) d.length tcap] w' fun e w2 => e = .returned (.bool (!y)) ∧ Below w'.heap.size w' w2) := Lib.hid fun w' h => by
              have := legal_any s _ _ _ w' (hS7.below h (Nat.le_refl _)) Hok.out (hI7.below h (Nat.le_refl _)) hwf2
              rwa [hleg2] at this
            have kci := Below.keep hb67 ci
            have kck := Below.keep hb67 ck
            have ka0 := Below.keep hb67 a0
            have ka1 := Below.keep hb67 a1
            have ka2 := Below.keep hb67 a2
            have ka3 := Below.keep hb67 a3
            have kb0 := Below.keep hb67 b0
            have kb1 := Below.keep hb67 b1
            have kb2 := Below.keep hb67 b2
            have kb3 := Below.keep hb67 b3
            have hb07 : Below w.heap.size w w7 := hb0.trans (hb67.mono hb0.size)
            have hq2 : (q : Int) + 1 < d.length := by have := Hq.out; omega
            have hq3 : (q : Int) < d.length := by omega
            have hA1 : (A : Int) < s.length := by omega
            have hB1 : (B : Int) < s.length := by omega
            clear hst hst2 hT7 hset hI7 hsw hleg2 hwf2 hS7 hy hTq hTq1 hFq hFq1 hw7 hT hlen ci ck a0 a1 a2 a3 b0 b1 b2 b3
            go_wp2
            refine wp_region_vals [.slice (some ⟨sb, soff, none⟩) s.length scap, .slice (some ⟨g, 0, none⟩) d.length tcap, .bool (!y), .slice (some ⟨sb, soff, none⟩) s.length scap, .slice (some ⟨ob, ooff, none⟩) d.length dcap, .int .i64 q, .pointer (some ⟨ob, ooff + q, none⟩), .int .i64 A, .pointer (some ⟨sb, soff + A * 4, none⟩), s[A].val, .slice (some ⟨sb, soff, none⟩) s.length scap, .slice (some ⟨ob, ooff, none⟩) d.length dcap, .int .i64 q, .int .i64 ((q : Int) + 1), .pointer (some ⟨ob, ooff + (q + 1), none⟩), .int .i64 B, .pointer (some ⟨sb, soff + B * 4, none⟩), s[B].val, .bool y, .bool (!y), .bool true, .bool true, .bool true, .bool true, .bool true] (fun w' => Below w7.heap.size w7 w') (by kernel_rfl) (by kernel_rfl) ((Below.refl _ _).drew) ?hs ?hf
            all_goals simp only [fill_cons, fill_nil, Act.put, List.setIfInBounds_toArray, List.set_cons_succ, List.set_cons_zero]
            case hs =>
              repeat' (first | exact stepsOk.nil | refine stepsOk.cons ?_ ?_)
              all_goals
                intro w' hb1
                have mci := Below.keep hb1 kci
                have mck := Below.keep hb1 kck
                have ma0 := Below.keep hb1 ka0
                have ma1 := Below.keep hb1 ka1
                have ma2 := Below.keep hb1 ka2
                have ma3 := Below.keep hb1 ka3
                have mb0 := Below.keep hb1 kb0
                have mb1 := Below.keep hb1 kb1
                have mb2 := Below.keep hb1 kb2
                have mb3 := Below.keep hb1 kb3
                have Hb1' := Lib.hid hb1
                clear kci kck ka0 ka1 ka2 ka3 kb0 kb1 kb2 kb3 hb1
                go_wp2_with (first | (go_at_call 14; refine (HC.out _).mono ?_; rintro e w2 ⟨rfl, hb2⟩) | (go_at_call 13; refine (HL2.out _ Hb1'.out).mono ?_; rintro e w2 ⟨rfl, hb2⟩) | (go_at_call 15; refine (awake_any _).mono ?_; rintro e w2 ⟨rfl, hb2⟩))
                all_goals first | exact ⟨rfl, Hb1'.out⟩ | exact ⟨rfl, Hb1'.out.trans (hb2.mono Hb1'.out.size)⟩
            case hf =>
              intro w' hb1
              have hb8 : Below w.heap.size w w' := hb07.trans (hb1.mono hb07.size)
              clear hb1 kci kck ka0 ka1 ka2 ka3 kb0 kb1 kb2 kb3
              go_wp2
              go_ret
              exact ⟨rfl, hb8⟩
end Go.Proofs.Ytbcfanfnnmijdaa
