/- marcheslaw11.LexJoins, walked. -/
import Derived.Test.YtcichbdkdbnmiaaDoorWLexA
namespace Go.Proofs.YtcichbdkdbnmiaaDoor
open Go.RowKit

theorem joinS_len (l : List Tok) : (joinS l).length ≤ (l.map fun t => t.text.length + 1).sum := by
  induction l with
  | nil => simp [joinS, textsS, Lib.join]
  | cons t l ih =>
    by_cases h : t.kind = 4
    · have e : joinS (t :: l) = joinS l := by unfold joinS textsS; simp [h]
      rw [e]; simp only [List.map_cons, List.sum_cons]; omega
    · have := join_cons' (ts := l) h
      simp only [List.map_cons, List.sum_cons]; omega
theorem sum_le (f : Tok → Nat) (M : Nat) (l : List Tok) (h : ∀ t ∈ l, f t ≤ M) : (l.map f).sum ≤ l.length * M := by
  induction l with
  | nil => simp
  | cons t l ih =>
    have h1 := h t (by simp)
    have h2 := ih fun t ht => h t (by simp [ht])
    simp only [List.map_cons, List.sum_cons, List.length_cons, Nat.succ_mul]; omega
set_option maxRecDepth 100000 in
set_option maxHeartbeats 1000000 in
theorem lexJoins_any (l : List Tok) (v : Value) (w : World) (hT : Toks w l v) (hn : l.length ≤ 9223372036854775807) (hG : Glob w) :
    Calls Tryd.prog 5 #[v] w fun e w' => e = .returned (.bool true) ∧ Below w.heap.size w w' := by
  have HA : Hid (∀ w, Glob w → _) := Lib.hid (fun (w : World) (h : Glob w) => awake_any w h)
  have HG := Lib.hid hG
  clear hG
  obtain ⟨a, cap, rfl, hc1, hc2⟩ := Sl.form hT
  have HT := Lib.hid hT
  clear hT
  by_cases h1 : 200 < l.length
  · go_enter Tryd.func5, Tryd.ntmps5
    go_wp2_with fail
    go_at_call 14
    refine (HA.out w HG.out).mono ?_
    rintro e1 w1 ⟨rfl, hb1⟩
    go_wp2_with fail
    go_ret
    exact ⟨rfl, hb1⟩
  · go_enter Tryd.func5, Tryd.ntmps5
    go_wp2_with fail
    go_loopw [2, 3, 8, 9, 10, 11, 12, 13, 14, 15, 16, 17, 18, 19, 20, 21] (fun _ t3 _ _ _ _ _ _ _ _ _ _ _ _ _ _ wr => ∃ k : Nat, k ≤ l.length ∧ t3 = .int .i64 k ∧ wr = w ∧ Hid (∀ i, i < k → (tokAt l i).text.length ≤ 300)) (fun _ t3 _ _ _ _ _ _ _ _ _ _ _ _ _ _ _ => l.length - (intOf t3).toNat)
    case atStart => exact ⟨0, by omega, rfl, by first | trivial | rfl, Lib.hid (fun i hi => by omega)⟩
    case round =>
      obtain ⟨k, hk, rfl, rfl, Hs⟩ := hrel
      by_cases hlt : k < l.length
      · obtain ⟨b, off, rfl, d0, d1, d2, d3, d4⟩ := tok_cells HT.out hlt
        obtain ⟨T, hT⟩ : ∃ T, tokAt l k = T := ⟨_, rfl⟩
        have HtT := Lib.hid hT
        rw [hT] at d0 d1 d2 d3 d4
        clear hT
        have hsz : (bstr T.text).size = T.text.length := by rw [← str_len, bstr_data]
        by_cases h3 : 300 < T.text.length
        · go_wp2_with fail
          go_at_call 14
          refine (HA.out wr HG.out).mono ?_
          rintro e1 w1 ⟨rfl, hb1⟩
          go_wp2_with fail
          go_ret
          exact ⟨rfl, hb1⟩
        · go_wp2_with fail
          go_roundw
          case rel => exact ⟨k + 1, by omega, by go_num, by first | trivial | rfl, Lib.hid (fun i hi => by
            by_cases e : i = k
            · rw [e, HtT.out]; omega
            · exact Hs.out i (by omega))⟩
          case measure => simp [intOf]; omega
      · obtain rfl : k = l.length := by omega
        have Hlen : Hid ((joinS l).length ≤ 100000) := Lib.hid (by
          have h1 := joinS_len l
          have h2 := sum_le (fun t => t.text.length + 1) 301 l (fun t ht => by
            obtain ⟨i, hi, rfl⟩ := List.getElem_of_mem ht
            have := Hs.out i hi
            rw [tokAt_eq hi] at this
            omega)
          have h3 : l.length * 301 ≤ 200 * 301 := Nat.mul_le_mul_right _ (by omega)
          omega)
        have HJ1 := Lib.hid (join_any l _ wr HT.out (by omega) (by have := Hlen.out; omega))
        have HGv := Lib.hid (fun (w' : World) (hb : Below wr.heap.size wr w') => Given_any l _ w' (HT.out.below hb) (by omega))
        go_wp2_with fail
        go_at_call 19
        refine HJ1.out.mono ?_
        rintro e5 w5 ⟨rfl, hb5⟩
        have Hb5 := Lib.hid hb5
        have HGv := Lib.hid (HGv.out w5 hb5)
        clear hb5
        go_wp2_with fail
        go_at_call 21
        refine HGv.out.mono ?_
        rintro e6 w6 ⟨⟨v6, rfl, hT6⟩, hb6⟩
        have HJ2 := Lib.hid (refJoin_any l v6 w6 hT6 (by omega) (by have := Hlen.out; omega))
        have Hb6 := Lib.hid (Hb5.out.trans (hb6.mono Hb5.out.size))
        clear hb6 hT6
        go_wp2_with fail
        go_at_call 20
        refine HJ2.out.mono ?_
        rintro e7 w7 ⟨rfl, rfl⟩
        go_wp2_with fail
        go_at_call 14
        refine (HA.out w6 (HG.out.next Hb6.out)).mono ?_
        rintro e2 w2 ⟨rfl, hb2⟩
        have Hb2 := Lib.hid (Hb6.out.trans (hb2.mono Hb6.out.size))
        clear hb2
        go_wp2_with fail
        go_ret
        exact ⟨rfl, Hb2.out⟩
end Go.Proofs.YtcichbdkdbnmiaaDoor
