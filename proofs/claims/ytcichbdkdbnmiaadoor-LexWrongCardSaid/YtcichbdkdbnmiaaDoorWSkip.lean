/- The laws' own 'skip', walked. -/
import Derived.Test.YtcichbdkdbnmiaaDoorPosM
namespace Go.Proofs.YtcichbdkdbnmiaaDoor
open Go.RowKit

/-- how many bytes are skipped, inside a comment or not -/
def skC (cm : Bool) (bs : List UInt8) : Nat := bs.length - (skipS bs cm 1 1).1.length
theorem skC_false (bs : List UInt8) : skC false bs = skN bs := rfl
theorem skC_nil (cm : Bool) : skC cm [] = 0 := by cases cm <;> rfl
theorem skC_le (cm : Bool) (bs : List UInt8) : skC cm bs ≤ bs.length := Nat.sub_le _ _
theorem skC_len (cm : Bool) (bs : List UInt8) : (skipS bs cm 1 1).1.length ≤ bs.length := skip_len bs cm 1 1
theorem skC_blank {b : UInt8} {r : List UInt8} (h : b.toNat = 32 ∨ b.toNat = 9 ∨ b.toNat = 10) : skC false (b :: r) = skC false r + 1 := by
  unfold skC
  have h0 := skip_len r false 1 1
  have e : (skipS (b :: r) false 1 1).1 = (skipS r false 1 1).1 := by
    rcases h with h | h | h
    · rw [skip_sp (.inl h)]; exact skip_any _ _ _ _ _ _
    · rw [skip_sp (.inr h)]; exact skip_any _ _ _ _ _ _
    · rw [skip_nl h]; exact skip_any _ _ _ _ _ _
  rw [e]
  simp only [List.length_cons]
  omega
theorem skC_comment {b : UInt8} {r : List UInt8} (h : b.toNat = 35) : skC false (b :: r) = skC true r + 1 := by
  unfold skC
  have h0 := skip_len r true 1 1
  have e : (skipS (b :: r) false 1 1).1 = (skipS r true 1 1).1 := by rw [skip_cm h]; exact skip_any _ _ _ _ _ _
  rw [e]
  simp only [List.length_cons]
  omega
theorem skC_in {b : UInt8} {r : List UInt8} (h : b.toNat ≠ 10) : skC true (b :: r) = skC true r + 1 := by
  unfold skC
  have h0 := skip_len r true 1 1
  have e : (skipS (b :: r) true 1 1).1 = (skipS r true 1 1).1 := by rw [skip_in h]; exact skip_any _ _ _ _ _ _
  rw [e]
  simp only [List.length_cons]
  omega
theorem skC_out {b : UInt8} {r : List UInt8} (h : b.toNat = 10) : skC true (b :: r) = skC false (b :: r) := by
  unfold skC
  rw [skip_out (.inr ⟨b, r, rfl, h⟩)]
theorem skC_stop {b : UInt8} {r : List UInt8} (h1 : b.toNat ≠ 10) (h2 : b.toNat ≠ 32) (h3 : b.toNat ≠ 9) (h4 : b.toNat ≠ 35) : skC false (b :: r) = 0 := by
  unfold skC
  rw [skip_stop h1 h2 h3 h4]
  simp
set_option maxRecDepth 100000 in
set_option maxHeartbeats 1000000 in
theorem skip_calls (s : ByteArray) (a : Nat) (w : World) (ha : a ≤ s.size) (hs : s.size ≤ 1000000) :
    Calls Tryd.prog 24 #[.string s, .int .i64 a] w fun e w' => e = .returned (.int .i64 (a + skN (s.data.toList.drop a) : Nat)) ∧ w = w' := by
  obtain ⟨J, hJ⟩ : ∃ J, a + skN (s.data.toList.drop a) = J := ⟨_, rfl⟩
  have HJ : Hid (a + skC false (s.data.toList.drop a) = J) := Lib.hid hJ
  rw [hJ]
  clear hJ
  go_enter Tryd.func24, Tryd.ntmps24
  go_wp2_with fail
  go_loopw [1, 5, 6, 7, 8, 9, 10, 11, 12, 13, 14, 15, 16, 17, 18, 19, 20, 21, 22, 23, 24, 25, 26, 27, 28, 29, 30, 31, 32, 33, 34, 35, 36, 37, 38, 39, 40, 41, 42, 43, 44, 45, 46, 47, 48, 49, 50, 51, 52, 53, 54] (fun t1 _ _ _ _ _ _ _ _ _ _ _ _ _ _ _ _ _ _ _ _ _ _ _ _ _ _ _ _ _ _ _ _ _ _ _ _ _ _ _ _ _ _ _ _ _ _ _ _ _ _ wr => ∃ k : Nat, k ≤ s.size ∧ t1 = .int .i64 k ∧ Hid (k + skC false (s.data.toList.drop k) = J) ∧ w = wr) (fun t1 _ _ _ _ _ _ _ _ _ _ _ _ _ _ _ _ _ _ _ _ _ _ _ _ _ _ _ _ _ _ _ _ _ _ _ _ _ _ _ _ _ _ _ _ _ _ _ _ _ _ _ => s.size - (intOf t1).toNat)
  case atStart => exact ⟨a, ha, rfl, HJ, by first | trivial | rfl⟩
  case round =>
    obtain ⟨k, hk, rfl, Hk, rfl⟩ := hrel
    by_cases hlt : k < s.size
    · have Hd := Lib.hid (drop_get s hlt)
      obtain ⟨B, hB⟩ : ∃ B, s[k] = B := ⟨_, rfl⟩
      rw [hB] at Hd
      have hbl : B.toNat < 256 := B.toNat_lt
      by_cases hbk : B.toNat = 32 ∨ B.toNat = 9 ∨ B.toNat = 10
      · have hn35 : ¬ (B.toNat : Int) = 35 := by omega
        have Hn : Hid (k + 1 + skC false (s.data.toList.drop (k + 1)) = J) := Lib.hid (by
          have := Hk.out
          rw [Hd.out, skC_blank hbk] at this
          omega)
        rcases hbk with hbk | hbk | hbk
        all_goals
          have hbi : (B.toNat : Int) = _ := congrArg Nat.cast hbk
          go_wp2_with fail
          go_loopw [1, 40, 41, 42, 43, 44, 45, 46, 47, 48, 49, 50, 51, 52, 53, 54] (fun t1 _ _ _ _ _ _ _ _ _ _ _ _ _ _ _ wr => t1 = .int .i64 (k + 1 : Nat) ∧ w = wr) (fun _ _ _ _ _ _ _ _ _ _ _ _ _ _ _ _ _ => 0)
          case atStart => exact ⟨by go_num, by first | trivial | rfl⟩
          case round =>
            obtain ⟨rfl, rfl⟩ := hrel
            go_wp2_with fail
            go_roundw
            case rel => exact ⟨k + 1, by omega, by go_num, Hn, by first | trivial | rfl⟩
            case measure => simp [intOf]; omega
      · by_cases hcm : B.toNat = 35
        · have Hn : Hid (k + 1 + skC true (s.data.toList.drop (k + 1)) = J) := Lib.hid (by
            have := Hk.out
            rw [Hd.out, skC_comment hcm] at this
            omega)
          have hbi : (B.toNat : Int) = 35 := congrArg Nat.cast hcm
          go_wp2_with fail
          go_loopw [1, 40, 41, 42, 43, 44, 45, 46, 47, 48, 49, 50, 51, 52, 53, 54] (fun t1 _ _ _ _ _ _ _ _ _ _ _ _ _ _ _ wr => ∃ m : Nat, k + 1 ≤ m ∧ m ≤ s.size ∧ t1 = .int .i64 m ∧ Hid (m + skC true (s.data.toList.drop m) = J) ∧ w = wr) (fun t1 _ _ _ _ _ _ _ _ _ _ _ _ _ _ _ _ => s.size - (intOf t1).toNat)
          case atStart => exact ⟨k + 1, Nat.le_refl _, by omega, by go_num, Hn, by first | trivial | rfl⟩
          case round =>
            obtain ⟨m, hm1, hm2, rfl, Hm, rfl⟩ := hrel
            by_cases hlm : m < s.size
            · have He := Lib.hid (drop_get s hlm)
              obtain ⟨C, hC⟩ : ∃ C, s[m] = C := ⟨_, rfl⟩
              rw [hC] at He
              by_cases hc : C.toNat = 10
              · have hci : (C.toNat : Int) = 10 := congrArg Nat.cast hc
                go_wp2_with fail
                go_roundw
                case rel => exact ⟨m, by omega, rfl, Lib.hid (by
                  have := Hm.out
                  rw [He.out, skC_out hc, ← He.out] at this
                  exact this), by first | trivial | rfl⟩
                case measure => simp [intOf]; omega
              · have hci : ¬ (C.toNat : Int) = 10 := by omega
                go_wp2_with fail
                go_roundw
                case rel => exact ⟨m + 1, by omega, by omega, by go_num, Lib.hid (by
                  have := Hm.out
                  rw [He.out, skC_in hc] at this
                  omega), by first | trivial | rfl⟩
                case measure => simp [intOf]; omega
            · obtain rfl : m = s.size := by omega
              go_wp2_with fail
              go_roundw
              case rel => exact ⟨s.size, by omega, rfl, Lib.hid (by
                have := Hm.out
                rw [drop_nil s (Nat.le_refl _), skC_nil] at this ⊢
                exact this), by first | trivial | rfl⟩
              case measure => simp [intOf]; omega
        · have hn1 : ((B.toNat : Int) == 32) = false := by simp only [beq_eq_false_iff_ne, ne_eq]; omega
          have hn2 : ((B.toNat : Int) == 9) = false := by simp only [beq_eq_false_iff_ne, ne_eq]; omega
          have hn3 : ((B.toNat : Int) == 10) = false := by simp only [beq_eq_false_iff_ne, ne_eq]; omega
          have hn4 : ((B.toNat : Int) == 35) = false := by simp only [beq_eq_false_iff_ne, ne_eq]; omega
          have e : k = J := by
            have := Hk.out
            rw [Hd.out, skC_stop (by omega) (by omega) (by omega) hcm] at this
            omega
          subst e
          go_wp2_with fail
          go_ret
          exact ⟨rfl, rfl⟩
    · obtain rfl : k = s.size := by omega
      have e : s.size = J := by
        have := Hk.out
        rw [drop_nil s (Nat.le_refl _), skC_nil] at this
        omega
      subst e
      go_wp2_with fail
      go_ret
      exact ⟨rfl, rfl⟩
end Go.Proofs.YtcichbdkdbnmiaaDoor
