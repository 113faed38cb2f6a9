/- The reference's Valid, walked: it answers as the program's. No condition but that the argument reads as systems. -/
import Derived.Test.YtbcfanfnnmijdaaRConf
import Derived.Test.YtbcfanfnnmijdaaValid
namespace Go.Proofs.Ytbcfanfnnmijdaa
open Go.RowKit

def bitBad (r w : BitVec 32) (k : Nat) : Bool := ((decide (k < 1) || decide (10 < k)) && (r.getLsbD k || w.getLsbD k)) || (k == 9 && w.getLsbD k)
theorem and_eq_zero {x y : BitVec 32} : x &&& y = 0 ↔ ∀ i, i < 32 → ¬ (x.getLsbD i = true ∧ y.getLsbD i = true) := by
  have h := @and_ne_zero x y
  constructor
  · intro e i _ hi
    have := h.2 ⟨i, hi⟩
    rw [e] at this
    simp at this
  · intro hn
    refine Classical.byContradiction fun hne => ?_
    obtain ⟨i, h1, h2⟩ := h.1 (by simpa using hne)
    exact hn i (BitVec.lt_of_getLsbD h1) ⟨h1, h2⟩
theorem mask_bits (r w : BitVec 32) : (r &&& ~~~2046#32 = 0 ∧ w &&& ~~~1534#32 = 0) ↔ ∀ k, k < 32 → bitBad r w k = false := by
  rw [and_eq_zero, and_eq_zero]
  have k1 : ∀ j : Fin 32, (~~~2046#32).getLsbD j.val = (decide (j.val < 1) || decide (10 < j.val)) := by decide
  have k2 : ∀ j : Fin 32, (~~~1534#32).getLsbD j.val = ((decide (j.val < 1) || decide (10 < j.val)) || j.val == 9) := by decide
  constructor
  · rintro ⟨h1, h2⟩ k hk
    have a := h1 k hk
    have b := h2 k hk
    rw [k1 ⟨k, hk⟩] at a
    rw [k2 ⟨k, hk⟩] at b
    unfold bitBad
    revert a b
    simp only
    generalize (decide (k < 1) || decide (10 < k)) = p
    generalize (k == 9) = q
    generalize r.getLsbD k = y
    generalize w.getLsbD k = z
    cases p <;> cases q <;> cases y <;> cases z <;> decide
  · intro h
    refine ⟨fun k hk => ?_, fun k hk => ?_⟩
    · have a := h k hk
      rw [k1 ⟨k, hk⟩]
      unfold bitBad at a
      revert a
      simp only
      generalize (decide (k < 1) || decide (10 < k)) = p
      generalize (k == 9) = q
      generalize r.getLsbD k = y
      generalize w.getLsbD k = z
      cases p <;> cases q <;> cases y <;> cases z <;> decide
    · have a := h k hk
      rw [k2 ⟨k, hk⟩]
      unfold bitBad at a
      revert a
      simp only
      generalize (decide (k < 1) || decide (10 < k)) = p
      generalize (k == 9) = q
      generalize r.getLsbD k = y
      generalize w.getLsbD k = z
      cases p <;> cases q <;> cases y <;> cases z <;> decide
theorem okS_iff (s : Sys) : okS s = true ↔ (1 ≤ s.name.size ∧ s.name.size ≤ 24 ∧ 0 ≤ s.pg ∧ s.pg ≤ 15) ∧ ∀ k, k < 32 → bitBad s.rd s.wr k = false := by
  rw [← mask_bits]
  unfold okS
  simp only [Bool.and_eq_true, decide_eq_true_eq, beq_iff_eq]
  constructor
  · rintro ⟨h1, h2, h3, h4, h5, h6⟩; exact ⟨⟨h1, h2, h5, by omega⟩, h3, h4⟩
  · rintro ⟨⟨h1, h2, h5, h6⟩, h3, h4⟩; exact ⟨h1, h2, h3, h4, h5, by omega⟩

set_option maxRecDepth 100000 in
set_option maxHeartbeats 1000000 in
theorem refValid_any (l : List Sys) (v : Value) (w : World) (hS : Syss w l v) (hok : ∀ s ∈ l, s.ok) :
    Calls Try.prog 20 #[v] w fun e w' => e = .returned (.bool (validS l)) ∧ Below w.heap.size w w' := by
  obtain ⟨a, cap, rfl, hlc, hcm⟩ := hS.form
  have HS := Lib.hid hS
  have Hok := Lib.hid hok
  clear hS hok
  by_cases hl : l.length ≤ 16
  · have hl1 : ¬ (16 : Int) < l.length := by omega
    go_enter Try.func20, Try.ntmps20
    go_wp2
    go_loopw [2, 3, 4, 5, 6, 10, 11, 12, 13, 14, 15, 16, 17, 18, 19, 20, 21, 22, 23, 24, 25, 26, 27, 28, 29, 30, 31, 32, 33, 34, 35, 36, 37, 38, 39, 40, 41, 42, 43, 44, 45, 46, 47, 48, 49, 50, 51, 52, 53, 54, 55, 56, 57, 58, 59, 60, 61, 62, 63, 64, 65, 66, 67, 68, 69, 70, 71, 72, 73, 74, 75, 76, 77, 78, 79, 80, 81, 82, 83, 84, 85, 86, 87, 88, 89, 90] (fun _ t3 _ _ _ _ _ _ _ _ _ _ _ _ _ _ _ _ _ _ _ _ _ _ _ _ _ _ _ _ _ _ _ _ _ _ _ _ _ _ _ _ _ _ _ _ _ _ _ _ _ _ _ _ _ _ _ _ _ _ _ _ _ _ _ _ _ _ _ _ _ _ _ _ _ _ _ _ _ _ _ _ _ _ _ _ wr => ∃ i : Nat, i ≤ l.length ∧ t3 = .int .i64 i ∧ Hid ((l.take i).all okS = true ∧ ((l.take i).map nm).Nodup) ∧ Below w.heap.size w wr) (fun _ t3 _ _ _ _ _ _ _ _ _ _ _ _ _ _ _ _ _ _ _ _ _ _ _ _ _ _ _ _ _ _ _ _ _ _ _ _ _ _ _ _ _ _ _ _ _ _ _ _ _ _ _ _ _ _ _ _ _ _ _ _ _ _ _ _ _ _ _ _ _ _ _ _ _ _ _ _ _ _ _ _ _ _ _ _ _ => l.length - (intOf t3).toNat)
    case atStart => exact ⟨0, by omega, rfl, Lib.hid (by simp), Below.refl _ _⟩
    case round =>
      obtain ⟨i, hi, rfl, Hg, hb⟩ := hrel
      obtain ⟨wo, rfl⟩ : ∃ wo : World, wo = wr := ⟨_, rfl⟩
      by_cases hlt : i < l.length
      · obtain ⟨sb, soff, rfl, hsb, hsc⟩ := (HS.out.below hb (Nat.le_refl _)).at hlt
        obtain ⟨a0, a1, a2, a3⟩ := hsc i hlt
        obtain ⟨o1, o2, o3⟩ := Hok.out l[i] (List.getElem_mem hlt)
        have Hb := Lib.hid hb
        have Hsc := Lib.hid hsc
        have Hs : Hid (okS l[i] = true ↔ (1 ≤ l[i].name.size ∧ l[i].name.size ≤ 24 ∧ 0 ≤ l[i].pg ∧ l[i].pg ≤ 15) ∧ ∀ k, k < 32 → bitBad l[i].rd l[i].wr k = false) := Lib.hid (okS_iff l[i])
        have Hbad : Hid (okS l[i] = false → validS l = false) := Lib.hid (valid_bad hlt)
        have Hdup : Hid (nm l[i] ∈ (l.take i).map nm → validS l = false) := Lib.hid (valid_dup hlt)
        have Hgo : Hid (okS l[i] = true → nm l[i] ∉ (l.take i).map nm → (l.take (i + 1)).all okS = true ∧ ((l.take (i + 1)).map nm).Nodup) := Lib.hid (good_step hlt Hg.out)
        have Hnm : Hid (nm l[i] = (l[i]).name.data.toList) := Lib.hid rfl
        generalize hx : l[i] = x at *
        obtain ⟨xn, xr, xw, xp⟩ := x
        simp only at a0 a1 a2 a3 o1 o2 o3
        clear hb hsc hx Hg
        by_cases hA : 1 ≤ xn.size ∧ xn.size ≤ 24 ∧ 0 ≤ xp ∧ xp ≤ 15
        · obtain ⟨A1, A2, A3, A4⟩ := hA
          have hbx : Below w.heap.size w (wo.alloc (.cells #[.string xn, .int .u32 (w32 xr), .int .u32 (w32 xw), .int .i64 xp] 35)) := Hb.out.alloc Hb.out.size _
          have hB := OwnV.new wo 35 [.string xn, .int .u32 (w32 xr), .int .u32 (w32 xw), .int .i64 xp]
          have hbw : Below wo.heap.size wo (wo.alloc (.cells #[.string xn, .int .u32 (w32 xr), .int .u32 (w32 xw), .int .i64 xp] 35)) := (Below.refl _ _).alloc (Nat.le_refl _) _
          have Hbx := Lib.hid hbx
          have HB := Lib.hid hB
          have Hbw := Lib.hid hbw
          have t1 : ¬ (xn.size : Int) < 1 := by omega
          have t2 : ¬ (24 : Int) < xn.size := by omega
          have t3' : ¬ xp < 0 := by omega
          have t4 : ¬ 15 < xp := by omega
          clear hbx hB hbw
          go_wp2
          generalize wo.alloc (.cells #[.string xn, .int .u32 (w32 xr), .int .u32 (w32 xw), .int .i64 xp] 35) = w1 at *
          go_loopw [2, 5, 40, 41, 42, 43, 44, 45, 46, 47, 48, 49, 50, 51, 52, 53, 54, 55, 56, 57, 58, 59, 60, 61, 62, 63, 64, 65, 66, 67, 68, 69, 70, 71, 72, 73, 74, 75, 76, 77] (fun _ t5 _ _ _ _ _ _ _ _ _ _ _ _ _ _ _ _ _ _ _ _ _ _ _ _ _ _ _ _ _ _ _ _ _ _ _ _ _ _ wr => ∃ k : Nat, k ≤ 32 ∧ t5 = .int .i64 k ∧ Hid (∀ j, j < k → bitBad xr xw j = false) ∧ wr = w1) (fun _ t5 _ _ _ _ _ _ _ _ _ _ _ _ _ _ _ _ _ _ _ _ _ _ _ _ _ _ _ _ _ _ _ _ _ _ _ _ _ _ _ => 32 - (intOf t5).toNat)
          case atStart => exact ⟨0, by omega, rfl, Lib.hid (by intro j hj; omega), rfl⟩
          case round =>
            obtain ⟨k, hk, rfl, Hno, rfl⟩ := hrel
            by_cases hk32 : k < 32
            · have c1 := HB.out.cell (i := 1) rfl
              have c2 := HB.out.cell (i := 2) rfl
              have g1 := bit_test xr k
              have g2 := bit_test xw k
              have hbb : bitBad xr xw k = (((decide (k < 1) || decide (10 < k)) && (xr.getLsbD k || xw.getLsbD k)) || (k == 9 && xw.getLsbD k)) := rfl
              generalize xr.getLsbD k = y1 at *
              generalize xw.getLsbD k = y2 at *
              have Hbb := Lib.hid hbb
              have hk1 : (k : Int) < 32 := by omega
              clear hbb
              obtain ⟨p1, p2, p3, q1, q2, q3, hpp⟩ : ∃ p1 p2 p3 : Bool, decide ((k : Int) < 1) = p1 ∧ decide ((k : Int) > 10) = p2 ∧ ((k : Int) == 9) = p3 ∧ bitBad xr xw k = (((p1 || p2) && (y1 || y2)) || (p3 && y2)) := by
                refine ⟨_, _, _, rfl, rfl, rfl, ?_⟩
                rw [Hbb.out]
                have e1 : decide ((k : Int) < 1) = decide (k < 1) := by rw [Bool.eq_iff_iff, decide_eq_true_eq, decide_eq_true_eq]; omega
                have e2 : decide ((k : Int) > 10) = decide (10 < k) := by rw [Bool.eq_iff_iff, decide_eq_true_eq, decide_eq_true_eq]; omega
                have e3 : ((k : Int) == 9) = (k == 9) := by rw [Bool.eq_iff_iff, beq_iff_eq, beq_iff_eq]; omega
                rw [e1, e2, e3]
              have Hpp := Lib.hid hpp
              have hp19 : ¬ (p1 = true ∧ (k : Int) = 9) := by rintro ⟨rfl, h⟩; rw [decide_eq_true_eq] at q1; omega
              clear hpp hp19
              cases p1 <;> cases p2 <;> cases p3 <;> cases y1 <;> cases y2
              all_goals
                go_wp2
                first
                | (go_ret
                   refine ⟨retb (Hbad.out ?_).symm, Hbx.out⟩
                   rw [← Bool.not_eq_true, Hs.out]
                   rintro ⟨_, h⟩
                   have h := (h k hk32).symm.trans Hpp.out
                   cases h)
                | (go_roundw
                   case rel =>
                     refine ⟨k + 1, by omega, by go_num, Lib.hid (fun j hj => ?_), by first | rfl | trivial⟩
                     rcases Nat.lt_or_ge j k with h | h
                     · exact Hno.out j h
                     · obtain rfl : j = k := by omega
                       exact Hpp.out
                   case measure => simp [intOf]; omega)
            · have hk1 : ¬ (k : Int) < 32 := by omega
              have hall : okS ⟨xn, xr, xw, xp⟩ = true := Hs.out.2 ⟨⟨A1, A2, A3, A4⟩, fun j hj => Hno.out j (by omega)⟩
              have Hall := Lib.hid hall
              clear hall
              go_wp2
              obtain ⟨wp, rfl⟩ : ∃ wp : World, wp = wr := ⟨_, rfl⟩
              go_loopw [2, 6, 78, 79, 80, 81, 82, 83, 84, 85, 86, 87, 88, 89, 90] (fun _ t6 _ _ _ _ _ _ _ _ _ _ _ _ _ wr => ∃ j : Nat, j ≤ i ∧ t6 = .int .i64 j ∧ Hid (nm ⟨xn, xr, xw, xp⟩ ∉ (l.take j).map nm) ∧ Below wp.heap.size wp wr) (fun _ t6 _ _ _ _ _ _ _ _ _ _ _ _ _ _ => i - (intOf t6).toNat)
              case atStart => exact ⟨0, by omega, rfl, Lib.hid (by simp), Below.refl _ _⟩
              case round =>
                obtain ⟨j, hj, rfl, Hnn, hb3⟩ := hrel
                have Hb3 := Lib.hid hb3
                clear hb3
                by_cases hji : j < i
                · have hB3 := HB.out.below Hb3.out (Nat.le_refl _)
                  have d0 := hB3.cell (i := 0) rfl
                  have e0 := Below.keep Hb3.out (Below.keep Hbw.out (Hsc.out j (by omega)).1)
                  have hjl : (j : Int) < l.length := by omega
                  have hsz : wp.heap.size ≤ wr.heap.size := Hb3.out.size
                  have Htk := Lib.hid (List.take_succ_eq_append_getElem (show j < l.length by omega))
                  have Hmem : Hid (nm l[j] ∈ (l.take i).map nm) := Lib.hid (List.mem_map.2 ⟨l[j], List.mem_take_iff_getElem.2 ⟨j, by omega, rfl⟩, rfl⟩)
                  obtain ⟨q, hq⟩ : ∃ q : Bool, (l[j].name.toList == xn.toList) = q := ⟨_, rfl⟩
                  have Hq : Hid (q = true ↔ nm l[j] = xn.data.toList) := Lib.hid (by rw [← hq, beq_iff_eq, ByteArray.toList_eq, ByteArray.toList_eq]; rfl)
                  clear hB3
                  go_wp2
                  refine wp_region_seq (fun w' => Below wr.heap.size wr w') (by kernel_rfl) (by kernel_rfl) ((Below.refl _ _).drew) ?_
                  repeat
                    try simp only [Act.put, List.setIfInBounds_toArray, List.set_cons_succ, List.set_cons_zero]
                    apply stepsSeq.cons
                    · intro w' hb1
                      have Hb1' := Lib.hid hb1
                      have d0' := Below.keep hb1 d0
                      have e0' := Below.keep hb1 e0
                      simp only [Act.put, List.setIfInBounds_toArray, List.set_cons_succ, List.set_cons_zero]
                      go_wp2_with (fail)
                      first | exact ⟨rfl, Hb1'.out⟩ | exact ⟨rfl, Hb1'.out.trans (hb2.mono Hb1'.out.size)⟩
                  try simp only [Act.put, List.setIfInBounds_toArray, List.set_cons_succ, List.set_cons_zero]
                  refine stepsSeq.nil ?_
                  intro w' hb1
                  have hb4 := Hb3.out.trans (hb1.mono hsz)
                  clear d0 e0 hb1
                  cases q
                  · go_wp2
                    go_roundw
                    case rel =>
                      refine ⟨j + 1, by omega, by go_num, Lib.hid ?_, hb4⟩
                      rw [Htk.out, List.map_append, List.mem_append]
                      rintro (h | h)
                      · exact Hnn.out h
                      · simp only [List.map_cons, List.map_nil, List.mem_singleton] at h
                        rw [Hnm.out] at h
                        have := Hq.out.2 h.symm
                        cases this
                    case measure => simp [intOf]; omega
                  · go_wp2
                    go_ret
                    refine ⟨retb (Hdup.out ?_).symm, Hbx.out.trans (hb4.mono Hbx.out.size)⟩
                    rw [Hnm.out, ← Hq.out.1 (by first | rfl | trivial)]
                    exact Hmem.out
                · obtain rfl : j = i := by omega
                  have hjj : ¬ (j : Int) < j := by omega
                  go_wp2
                  go_roundw
                  case rel => exact ⟨j + 1, by omega, by go_num, Lib.hid (Hgo.out Hall.out Hnn.out), Hbx.out.trans (Hb3.out.mono Hbx.out.size)⟩
                  case measure => simp [intOf]; omega
        · have hA' : ¬ (1 ≤ xn.size ∧ xn.size ≤ 24 ∧ 0 ≤ xp ∧ xp ≤ 15) := hA
          obtain ⟨p1, p2, p3, p4, q1, q2, q3, q4, hpp⟩ : ∃ p1 p2 p3 p4 : Bool, decide ((xn.size : Int) < 1) = p1 ∧ decide ((xn.size : Int) > 24) = p2 ∧ decide (xp < 0) = p3 ∧ decide (xp > 15) = p4 ∧ (p1 || (p2 || (p3 || p4))) = true := by
            refine ⟨_, _, _, _, rfl, rfl, rfl, rfl, ?_⟩
            simp only [Bool.or_eq_true, decide_eq_true_eq]
            omega
          have Hbx : Hid (Below w.heap.size w (wo.alloc (.cells #[.string xn, .int .u32 (w32 xr), .int .u32 (w32 xw), .int .i64 xp] 35))) := Lib.hid (Hb.out.alloc Hb.out.size _)
          have Hf : Hid (validS l = false) := Lib.hid (Hbad.out (by rw [← Bool.not_eq_true, Hs.out]; exact fun h => hA' h.1))
          clear hA hA'
          cases p1 <;> cases p2 <;> cases p3 <;> cases p4
          all_goals first
          | (exfalso; revert hpp; decide)
          | (clear hpp
             go_wp2
             go_ret
             exact ⟨retb Hf.out.symm, Hbx.out⟩)
      · obtain rfl : i = l.length := by omega
        go_wp2
        go_ret
        refine ⟨retb ?_, hb⟩
        have h := Hg.out
        rw [List.take_length] at h
        unfold validS
        simp [hl, h.1, h.2]
  · have hl1 : (16 : Int) < l.length := by omega
    go_enter Try.func20, Try.ntmps20
    go_wp2
    go_ret
    exact ⟨retb (by simp [validS, hl]), Below.refl _ _⟩
end Go.Proofs.Ytbcfanfnnmijdaa
