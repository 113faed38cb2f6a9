/- The reference lexer's sign, walked. No condition but that the string is not empty. -/
import Derived.Test.YtcichbdkdbnmiaaDoorRLexA
import Derived.Test.YtcichbdkdbnmiaaDoorRegion5
namespace Go.Proofs.YtcichbdkdbnmiaaDoor
open Go.RowKit

/-- the signs of one byte, as the program has them -/
def oneStr : ByteArray := ⟨#[43, 45, 42, 47, 37, 60, 62, 33, 61, 40, 41, 91, 93, 123, 125, 44, 59]⟩
theorem oneStr_list : oneStr.data.toList.map UInt8.toNat = oneSigns := rfl
theorem oneStr_mem (a : Nat) : a ∈ oneSigns ↔ ∃ (j : Nat) (h : j < oneStr.size), oneStr[j].toNat = a := by
  rw [← oneStr_list, List.mem_map]
  constructor
  · rintro ⟨x, hx, rfl⟩
    obtain ⟨j, hj, rfl⟩ := List.getElem_of_mem hx
    exact ⟨j, hj, rfl⟩
  · rintro ⟨j, h, rfl⟩
    exact ⟨oneStr[j], List.getElem_mem (l := oneStr.data.toList) h, rfl⟩
theorem sub_list (s : ByteArray) (i j : Nat) : (s.extract i j).data.toList = (s.data.toList.drop i).take (j - i) := by
  rw [ByteArray.data_extract, Array.toList_extract, List.extract_eq_take_drop]
theorem two_of (a b : UInt8) (x y : UInt8) : ([a, b] == [x, y]) = decide ((a.toNat, b.toNat) = (x.toNat, y.toNat)) := by
  rw [Bool.eq_iff_iff, beq_iff_eq, decide_eq_true_eq]
  simp [UInt8.toNat_inj]
theorem sign_split (s : ByteArray) (h2 : 2 ≤ s.size) :
    ∃ p1 p2 p3 p4 p5 p6 : Bool, ((s.extract 0 2).toList == [61, 61]) = p1 ∧ ((s.extract 0 2).toList == [33, 61]) = p2 ∧ ((s.extract 0 2).toList == [60, 61]) = p3 ∧ ((s.extract 0 2).toList == [62, 61]) = p4 ∧ ((s.extract 0 2).toList == [38, 38]) = p5 ∧ ((s.extract 0 2).toList == [124, 124]) = p6 ∧
      signLen s.data.toList = if (p1 || (p2 || (p3 || (p4 || (p5 || p6))))) = true then 2 else if (s[0]'(by omega)).toNat ∈ oneSigns then 1 else 0 := by
  refine ⟨_, _, _, _, _, _, rfl, rfl, rfl, rfl, rfl, rfl, ?_⟩
  have hl : s.data.toList.length = s.size := str_len s
  have e0 : s.data.toList = s[0] :: s[1] :: s.data.toList.drop 2 := by
    have h1 := List.drop_eq_getElem_cons (l := s.data.toList) (i := 0) (by omega)
    have h2 := List.drop_eq_getElem_cons (l := s.data.toList) (i := 1) (by omega)
    rw [List.drop_zero] at h1
    rw [h1, h2]
    rfl
  have e1 : (s.extract 0 2).toList = [s[0], s[1]] := by
    rw [ByteArray.toList_eq, sub_list, List.drop_zero, e0]
    rfl
  rw [e1, e0]
  simp only [two_of, signLen, twoSigns]
  simp only [List.mem_cons, List.not_mem_nil, or_false, Bool.or_eq_true, decide_eq_true_eq]
  rfl
theorem sign_short (s : ByteArray) (h0 : 0 < s.size) (h2 : s.size < 2) : signLen s.data.toList = if (s[0]'h0).toNat ∈ oneSigns then 1 else 0 := by
  have hl : s.data.toList.length = s.size := str_len s
  have e0 : s.data.toList = [s[0]] := by
    have h1 := List.drop_eq_getElem_cons (l := s.data.toList) (i := 0) (by omega)
    rw [List.drop_zero, List.drop_of_length_le (by omega)] at h1
    exact h1
  rw [e0]
  rfl
set_option maxRecDepth 100000 in
set_option maxHeartbeats 1000000 in
theorem sign_any (s : ByteArray) (w : World) (h0 : 0 < s.size) (hs : s.size ≤ 9223372036854775807) :
    Calls Tryd.prog 36 #[.string s] w fun e w' => e = .returned (.int .i64 (signLen s.data.toList : Nat)) ∧ Below w.heap.size w w' := by
  by_cases h2 : 2 ≤ s.size
  · have h2' : (2 : Int) ≤ s.size := by omega
    obtain ⟨p1, p2, p3, p4, p5, p6, q1, q2, q3, q4, q5, q6, hp⟩ := sign_split s h2
    have hpp : (p1 || (p2 || (p3 || (p4 || (p5 || p6))))) = true ∨ (p1 || (p2 || (p3 || (p4 || (p5 || p6))))) = false := by cases (p1 || (p2 || (p3 || (p4 || (p5 || p6))))) <;> simp
    rcases hpp with hpp | hpp
    · rw [hpp, if_pos rfl] at hp
      have HS := Lib.hid hp
      clear hp
      cases p1 <;> cases p2 <;> cases p3 <;> cases p4 <;> cases p5 <;> cases p6
      all_goals first
      | (exfalso; revert hpp; decide)
      | (clear hpp
         go_enter Tryd.func36, Tryd.ntmps36
         go_wp2
         go_ret
         exact ⟨by rw [HS.out]; rfl, Below.refl _ _⟩)
    · rw [hpp, if_neg (by decide)] at hp
      have HS := Lib.hid hp
      obtain ⟨rfl, rfl, rfl, rfl, rfl, rfl⟩ : p1 = false ∧ p2 = false ∧ p3 = false ∧ p4 = false ∧ p5 = false ∧ p6 = false := by revert hpp; cases p1 <;> cases p2 <;> cases p3 <;> cases p4 <;> cases p5 <;> cases p6 <;> decide
      clear hp hpp
      go_enter Tryd.func36, Tryd.ntmps36
      go_wp2
      go_loopw [2, 5, 33, 34, 35, 36, 37, 38, 39, 40, 41, 42, 43, 44] (fun _ t5 _ _ _ _ _ _ _ _ _ _ _ _ wr => ∃ k : Nat, k ≤ 17 ∧ t5 = .int .i64 k ∧ Hid (∀ (j : Nat) (h : j < oneStr.size), j < k → oneStr[j].toNat ≠ s[0].toNat) ∧ Below w.heap.size w wr) (fun _ t5 _ _ _ _ _ _ _ _ _ _ _ _ _ => 17 - (intOf t5).toNat)
      case atStart => exact ⟨0, by omega, rfl, Lib.hid (by intro j _ hj; omega), Below.refl _ _⟩
      case round =>
        obtain ⟨k, hk, rfl, Hno, hb⟩ := hrel
        by_cases hlt : k < 17
        · have hlt1 : (k : Int) < 17 := by omega
          have hk2 : k < oneStr.size := hlt
          obtain ⟨q, hq, hq2⟩ : ∃ q : Bool, (s[0].toNat == (oneStr[k]'hk2).toNat) = q ∧ (q = true ↔ oneStr[k].toNat = s[0].toNat) := ⟨_, rfl, by rw [beq_iff_eq]; exact eq_comm⟩
          have Hq := Lib.hid hq2
          have Hb := Lib.hid hb
          have hsz : w.heap.size ≤ wr.heap.size := hb.size
          clear hq2 hb
          unfold oneStr at hq
          go_wp2
          refine wp_region_seq (fun w' => Below wr.heap.size wr w') (by kernel_rfl) (by kernel_rfl) ((Below.refl _ _).drew) ?_
          repeat
            try simp only [Act.put, List.setIfInBounds_toArray, List.set_cons_succ, List.set_cons_zero]
            apply stepsSeq.cons
            · intro w' hb1
              have Hb1' := Lib.hid hb1
              simp only [Act.put, List.setIfInBounds_toArray, List.set_cons_succ, List.set_cons_zero]
              go_wp2_with (fail)
              first | exact ⟨rfl, Hb1'.out⟩ | exact ⟨rfl, Hb1'.out.trans (hb2.mono Hb1'.out.size)⟩
          try simp only [Act.put, List.setIfInBounds_toArray, List.set_cons_succ, List.set_cons_zero]
          refine stepsSeq.nil ?_
          intro w' hb1
          have Hb2 := Lib.hid (Hb.out.trans (hb1.mono hsz))
          clear hb1
          cases q
          · go_wp2
            go_roundw
            case rel =>
              refine ⟨k + 1, by omega, by go_num, Lib.hid (fun j hj hjk => ?_), Hb2.out⟩
              rcases Nat.lt_or_ge j k with h | h
              · exact Hno.out j hj h
              · obtain rfl : j = k := by omega
                intro e
                have := Hq.out.2 e
                cases this
            case measure => simp [intOf]; omega
          · go_wp2
            go_ret
            refine ⟨?_, Hb2.out⟩
            rw [HS.out, if_pos ((oneStr_mem _).2 ⟨k, hk2, Hq.out.1 (by first | rfl | trivial)⟩)]
            rfl
        · obtain rfl : k = 17 := by omega
          go_wp2
          go_ret
          refine ⟨?_, hb⟩
          rw [HS.out, if_neg (fun h => by obtain ⟨j, hj, e⟩ := (oneStr_mem _).1 h; exact Hno.out j hj hj e)]
          rfl
  · have h2' : ¬ (2 : Int) ≤ s.size := by omega
    have HS := Lib.hid (sign_short s h0 (by omega))
    go_enter Tryd.func36, Tryd.ntmps36
    go_wp2
    go_loopw [2, 5, 33, 34, 35, 36, 37, 38, 39, 40, 41, 42, 43, 44] (fun _ t5 _ _ _ _ _ _ _ _ _ _ _ _ wr => ∃ k : Nat, k ≤ 17 ∧ t5 = .int .i64 k ∧ Hid (∀ (j : Nat) (h : j < oneStr.size), j < k → oneStr[j].toNat ≠ s[0].toNat) ∧ Below w.heap.size w wr) (fun _ t5 _ _ _ _ _ _ _ _ _ _ _ _ _ => 17 - (intOf t5).toNat)
    case atStart => exact ⟨0, by omega, rfl, Lib.hid (by intro j _ hj; omega), Below.refl _ _⟩
    case round =>
      obtain ⟨k, hk, rfl, Hno, hb⟩ := hrel
      by_cases hlt : k < 17
      · have hlt1 : (k : Int) < 17 := by omega
        have hk2 : k < oneStr.size := hlt
        obtain ⟨q, hq, hq2⟩ : ∃ q : Bool, (s[0].toNat == (oneStr[k]'hk2).toNat) = q ∧ (q = true ↔ oneStr[k].toNat = s[0].toNat) := ⟨_, rfl, by rw [beq_iff_eq]; exact eq_comm⟩
        have Hq := Lib.hid hq2
        have Hb := Lib.hid hb
        have hsz : w.heap.size ≤ wr.heap.size := hb.size
        clear hq2 hb
        unfold oneStr at hq
        go_wp2
        refine wp_region_seq (fun w' => Below wr.heap.size wr w') (by kernel_rfl) (by kernel_rfl) ((Below.refl _ _).drew) ?_
        repeat
          try simp only [Act.put, List.setIfInBounds_toArray, List.set_cons_succ, List.set_cons_zero]
          apply stepsSeq.cons
          · intro w' hb1
            have Hb1' := Lib.hid hb1
            simp only [Act.put, List.setIfInBounds_toArray, List.set_cons_succ, List.set_cons_zero]
            go_wp2_with (fail)
            first | exact ⟨rfl, Hb1'.out⟩ | exact ⟨rfl, Hb1'.out.trans (hb2.mono Hb1'.out.size)⟩
        try simp only [Act.put, List.setIfInBounds_toArray, List.set_cons_succ, List.set_cons_zero]
        refine stepsSeq.nil ?_
        intro w' hb1
        have Hb2 := Lib.hid (Hb.out.trans (hb1.mono hsz))
        clear hb1
        cases q
        · go_wp2
          go_roundw
          case rel =>
            refine ⟨k + 1, by omega, by go_num, Lib.hid (fun j hj hjk => ?_), Hb2.out⟩
            rcases Nat.lt_or_ge j k with h | h
            · exact Hno.out j hj h
            · obtain rfl : j = k := by omega
              intro e
              have := Hq.out.2 e
              cases this
          case measure => simp [intOf]; omega
        · go_wp2
          go_ret
          refine ⟨?_, Hb2.out⟩
          rw [HS.out, if_pos ((oneStr_mem _).2 ⟨k, hk2, Hq.out.1 (by first | rfl | trivial)⟩)]
          rfl
      · obtain rfl : k = 17 := by omega
        go_wp2
        go_ret
        refine ⟨?_, hb⟩
        rw [HS.out, if_neg (fun h => by obtain ⟨j, hj, e⟩ := (oneStr_mem _).1 h; exact Hno.out j hj hj e)]
        rfl
end Go.Proofs.YtcichbdkdbnmiaaDoor
