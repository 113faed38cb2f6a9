/- The reference's Join and Place, walked. -/
import Derived.Test.YtcichbdkdbnmiaaDoorPJoin
import Derived.Test.YtcichbdkdbnmiaaDoorPPlace
namespace Go.Proofs.YtcichbdkdbnmiaaDoor
open Go.RowKit

theorem join_snoc (ts : List (List UInt8)) (x : List UInt8) : Lib.join (ts ++ [x]) [32] = if ts = [] then x else Lib.join ts [32] ++ [32] ++ x := by
  cases ts with
  | nil => exact Lib.join_one _ _
  | cons y r =>
    rw [if_neg (by simp), List.cons_append, Lib.join_cons, Lib.join_cons]
    simp [Lib.joinTail]
theorem bstr_app (a b : List UInt8) : bstr a ++ bstr b = bstr (a ++ b) := by
  apply ByteArray.ext
  unfold bstr
  simp
theorem bstr_size' (l : List UInt8) : (bstr l).size = l.length := by rw [← str_len]; unfold bstr; simp
theorem joinS_le {l : List Tok} {k : Nat} : (joinS (l.take k)).length ≤ (joinS l).length := by
  unfold joinS
  have h : textsS l = textsS (l.take k) ++ textsS (l.drop k) := by
    unfold textsS
    conv => lhs; rw [← List.take_append_drop k l]
    rw [List.filter_append, List.map_append]
  rw [h]
  generalize textsS (l.take k) = a
  generalize textsS (l.drop k) = b
  induction b generalizing a with
  | nil => simp
  | cons x r ih =>
    have := ih (a ++ [x])
    rw [List.append_assoc, List.singleton_append] at this
    refine Nat.le_trans ?_ this
    rw [join_snoc]
    split
    · rename_i e; rw [e]; simp [Lib.join]
    · simp
set_option maxRecDepth 100000 in
set_option maxHeartbeats 1000000 in
theorem refJoin_any (l : List Tok) (v : Value) (w : World) (hT : Toks w l v) (hn : l.length ≤ 1000000) (hlen : (joinS l).length ≤ 140737488355328) :
    Calls Tryd.prog 20 #[v] w fun e w' => e = .returned (.string (bstr (joinS l))) ∧ w = w' := by
  obtain ⟨a, cap, rfl, hc1, hc2⟩ := Sl.form hT
  have HT := Lib.hid hT
  have Hlen := Lib.hid hlen
  clear hT hlen
  go_enter Tryd.func20, Tryd.ntmps20
  go_wp2_with fail
  obtain ⟨wq, rfl⟩ : ∃ wq : World, wq = w := ⟨_, rfl⟩
  go_loopw [3, 4, 5, 6, 7, 8, 9, 10, 11, 12, 13, 14, 15, 16, 17, 18, 19, 20, 21, 22, 23, 24, 25, 26, 27] (fun t3 t4 t5 _ _ _ _ _ _ _ _ _ _ _ _ _ _ _ _ _ _ _ _ _ _ wr => ∃ (k : Nat) (s : ByteArray) (q : Bool), k ≤ l.length ∧ t5 = .int .i64 k ∧ t3 = .string s ∧ t4 = .bool q ∧ Hid (s = bstr (joinS (l.take k))) ∧ Hid (q = true ↔ textsS (l.take k) ≠ []) ∧ wr = wq) (fun _ _ t5 _ _ _ _ _ _ _ _ _ _ _ _ _ _ _ _ _ _ _ _ _ _ _ => l.length - (intOf t5).toNat)
  case atStart => exact ⟨0, _, _, by omega, rfl, rfl, rfl, Lib.hid rfl, Lib.hid (by simp [textsS]), rfl⟩
  case round =>
    obtain ⟨k, s, q, hk, rfl, rfl, rfl, Hs, Hq, rfl⟩ := hrel
    by_cases hlt : k < l.length
    · obtain ⟨b, off, rfl, d0, d1, d2, d3, d4⟩ := tok_cells HT.out hlt
      have Hst := Lib.hid (texts_step hlt)
      have Hat := Lib.hid (tokAt_eq hlt)
      obtain ⟨p, hp, Hp⟩ : ∃ p : Bool, ((tokAt l k).kind == 4) = p ∧ Hid (textsS (l.take (k + 1)) = textsS (l.take k) ++ (if p = true then [] else [(tokAt l k).text])) := ⟨_, rfl, Lib.hid (by
        rw [Hst.out, Hat.out]
        by_cases e : l[k].kind = 4
        · simp [e]
        · have : (l[k].kind == 4) = false := by rw [beq_eq_false_iff_ne]; exact e
          rw [if_pos e, this, if_neg (by decide)])⟩
      obtain ⟨x, hx⟩ : ∃ x, bstr (tokAt l k).text = x := ⟨_, rfl⟩
      obtain ⟨y, hy⟩ : ∃ y, (tokAt l k).text = y := ⟨_, rfl⟩
      have Hxy : Hid (x = bstr y) := Lib.hid (by rw [← hx, hy])
      rw [hx] at d1
      rw [hy] at Hp
      clear hx hy Hst Hat
      have hb1 : s.size ≤ 140737488355328 := by rw [Hs.out, bstr_size']; exact Nat.le_trans joinS_le Hlen.out
      cases p
      · have Hj : Hid (joinS (l.take (k + 1)) = if textsS (l.take k) = [] then y else joinS (l.take k) ++ [32] ++ y) := Lib.hid (by
          unfold joinS
          rw [Hp.out, if_neg (by decide), join_snoc])
        have hb2 : (joinS (l.take (k + 1))).length ≤ 140737488355328 := Nat.le_trans joinS_le Hlen.out
        have hb3 : x.size ≤ 140737488355328 := by
          rw [Hxy.out, bstr_size']
          rw [Hj.out] at hb2
          split at hb2
          · exact hb2
          · simp at hb2; omega
        have Hb2 := Lib.hid hb2
        clear hb2
        cases q
        · have hnil : Hid (textsS (l.take k) = []) := Lib.hid (Classical.byContradiction fun h => by have := Hq.out.2 h; cases this)
          go_wp2_with fail
          go_roundw
          case rel => exact ⟨k + 1, s ++ x, true, by omega, by go_num, rfl, rfl, Lib.hid (by rw [Hj.out, if_pos hnil.out, Hs.out, Hxy.out, bstr_app]; unfold joinS; rw [hnil.out]; rfl), Lib.hid (by rw [Hp.out]; simp), by first | rfl | trivial⟩
          case measure => simp [intOf]; omega
        · have hne : Hid (textsS (l.take k) ≠ []) := Lib.hid (Hq.out.1 rfl)
          go_wp2_with fail
          go_roundw
          case rel => exact ⟨k + 1, s ++ { data := #[32] } ++ x, true, by omega, by go_num, rfl, rfl, Lib.hid (by rw [Hj.out, if_neg hne.out, Hs.out, Hxy.out, ← bstr_app, ← bstr_app]; rfl), Lib.hid (by rw [Hp.out]; simp), by first | rfl | trivial⟩
          case measure => simp [intOf]; omega
      · go_wp2_with fail
        go_roundw
        case rel => exact ⟨k + 1, s, q, by omega, by go_num, rfl, rfl, Lib.hid (by rw [Hs.out]; unfold joinS; rw [Hp.out, if_pos rfl, List.append_nil]), Lib.hid (by rw [Hp.out, if_pos rfl, List.append_nil]; exact Hq.out), by first | rfl | trivial⟩
        case measure => simp [intOf]; omega
    · obtain rfl : k = l.length := by omega
      go_wp2_with fail
      go_ret
      exact ⟨by have := Hs.out; rw [List.take_length] at this; exact congrArg (fun z => Ending.returned (.string z)) this, rfl⟩
theorem pls_zero (s : List UInt8) : plS s 0 = (1, 1) := by unfold plS; rw [List.take_zero]; rfl
set_option maxHeartbeats 1000000 in
theorem refPlace_any (s : ByteArray) (a : Int) (w : World) (hs : s.size ≤ 1000000) (ha1 : -9223372036854775808 ≤ a) (ha2 : a ≤ 9223372036854775807) :
    Calls Tryd.prog 16 #[.string s, .int .i64 a] w fun e w' => e = .returned (.tuple #[.int .i64 (placeS2 s.data.toList a).1, .int .i64 (placeS2 s.data.toList a).2]) ∧ w = w' := by
  by_cases hin : 0 ≤ a ∧ a ≤ s.size
  · obtain ⟨n, rfl⟩ : ∃ n : Nat, a = n := ⟨a.toNat, by omega⟩
    have hn : n ≤ s.size := by omega
    have h1 : ¬ (n : Int) < 0 := by omega
    have h2 : ¬ (n : Int) > (s.size : Int) := by omega
    have h2' : ¬ s.size < n := by omega
    have Hf : Hid (placeS2 s.data.toList n = plS s.data.toList n) := Lib.hid (by unfold placeS2; rw [if_pos ⟨by omega, by rw [str_len]; omega⟩, Int.toNat_natCast])
    generalize placeS2 s.data.toList n = final at Hf ⊢
    clear hin ha1 ha2
    go_enter Tryd.func16, Tryd.ntmps16
    go_wp2_with fail
    obtain ⟨wq, rfl⟩ : ∃ wq : World, wq = w := ⟨_, rfl⟩
    go_loopw [6, 7, 8, 17, 18, 19, 20, 21, 22, 23, 24, 25, 26, 27, 28, 29] (fun t6 t7 t8 _ _ _ _ _ _ _ _ _ _ _ _ _ wr => ∃ (k : Nat) (L C : Int), k ≤ n ∧ t8 = .int .i64 k ∧ t6 = .int .i64 L ∧ t7 = .int .i64 C ∧ Hid (plS s.data.toList k = (L, C)) ∧ wr = wq) (fun _ _ t8 _ _ _ _ _ _ _ _ _ _ _ _ _ _ => n - (intOf t8).toNat)
    case atStart => exact ⟨0, 1, 1, by omega, rfl, rfl, rfl, Lib.hid (pls_zero _), rfl⟩
    case round =>
      obtain ⟨k, L, C, hk, rfl, rfl, rfl, HP, rfl⟩ := hrel
      have hle := pl_le s (i := k) (by omega)
      rw [HP.out] at hle
      obtain ⟨⟨hL0, hL1⟩, ⟨hC0, hC1⟩⟩ := hle
      simp only at hL0 hL1 hC0 hC1
      by_cases hlt : k < n
      · have hks : k < s.size := by omega
        have hb0 : s[k].toNat ≤ 255 := by have := s[k].toNat_lt; omega
        have Hnx := Lib.hid (pl_next s hks)
        obtain ⟨t, ht, HT⟩ : ∃ t : Bool, ((s[k].toNat : Int) == 10) = t ∧ Hid (plS s.data.toList (k + 1) = if t = true then (L + 1, 1) else (L, C + 1)) := ⟨_, rfl, Lib.hid (by
          rw [Hnx.out, HP.out]
          by_cases e : s[k].toNat = 10
          · have e2 : ((s[k].toNat : Int) == 10) = true := by simp [e]
            rw [if_pos e, e2, if_pos rfl]
          · have e2 : ((s[k].toNat : Int) == 10) = false := by rw [beq_eq_false_iff_ne]; omega
            rw [if_neg e, e2, if_neg (by decide)])⟩
        cases t
        · go_wp2_with fail
          go_roundw
          case rel => exact ⟨k + 1, L, C + 1, by omega, by go_num, rfl, rfl, Lib.hid (by rw [HT.out]; rfl), by first | rfl | trivial⟩
          case measure => simp [intOf]; omega
        · go_wp2_with fail
          go_roundw
          case rel => exact ⟨k + 1, L + 1, 1, by omega, by go_num, rfl, rfl, Lib.hid (by rw [HT.out]; rfl), by first | rfl | trivial⟩
          case measure => simp [intOf]; omega
      · obtain rfl : k = n := by omega
        go_wp2_with fail
        go_ret2
        exact ⟨by rw [Hf.out, HP.out]; rfl, rfl⟩
  · have Hf : Hid (placeS2 s.data.toList a = (0, 0)) := Lib.hid (by unfold placeS2; rw [if_neg (by rw [str_len]; exact hin)])
    generalize placeS2 s.data.toList a = final at Hf ⊢
    by_cases h1 : a < 0
    · go_enter Tryd.func16, Tryd.ntmps16
      go_wp2_with fail
      go_ret2
      exact ⟨by rw [Hf.out]; rfl, rfl⟩
    · have h2 : a > (s.size : Int) := by omega
      clear hin
      go_enter Tryd.func16, Tryd.ntmps16
      go_wp2_with fail
      go_ret2
      exact ⟨by rw [Hf.out]; rfl, rfl⟩
end Go.Proofs.YtcichbdkdbnmiaaDoor
