/- The reference's Lex, walked: what it gives is what the bytes say. No condition but the size that every string has. -/
import Derived.Test.YtcichbdkdbnmiaaDoorRLexB
namespace Go.Proofs.YtcichbdkdbnmiaaDoor
open Go.RowKit

/-- a string of bytes -/
def bstr (l : List UInt8) : ByteArray := ⟨l.toArray⟩
def Tok.cells (t : Tok) : List Value := [.int .u8 t.kind, .string (bstr t.text), .int .i64 t.n, .int .i64 t.line, .int .i64 t.col]
def Toks (w : World) (l : List Tok) (v : Value) : Prop := Sl w 5 l.length (l.flatMap Tok.cells) v
theorem info_tok : (Tryd.prog.info? 48).map (fun i => (i.zero, i.size, i.bytes)) = some (some (.agg #[.int .u8 0, .string ByteArray.empty, .int .i64 0, .int .i64 0, .int .i64 0]), 5, 48) := by kernel_rfl
/-- what Lex answers -/
def LexE (w' : World) (e : Ending) : LexR → Prop
  | .ok l => ∃ r, e = .returned (.tuple #[r, .int .i64 0, .int .i64 0, .int .i64 0]) ∧ Toks w' l r
  | .err a b c => e = .returned (.tuple #[.slice none 0 0, .int .i64 a, .int .i64 b, .int .i64 c])
theorem bstr_extract (s : ByteArray) (i j : Nat) : s.extract i j = bstr ((s.data.toList.drop i).take (j - i)) := by
  have h := sub_list s i j
  unfold bstr
  rw [← h]
theorem drop_get (s : ByteArray) {k : Nat} (h : k < s.size) : s.data.toList.drop k = s[k] :: s.data.toList.drop (k + 1) := by
  rw [List.drop_eq_getElem_cons (by rw [str_len]; exact h), str_get s k h]
theorem drop_nil (s : ByteArray) {k : Nat} (h : s.size ≤ k) : s.data.toList.drop k = [] := List.drop_of_length_le (by rw [str_len]; exact h)

theorem word_len (s : ByteArray) {a e : Nat} (ha : a < s.size) (hae : a ≤ e) (he : e ≤ s.size) (h1 : ∀ (j : Nat) (h : j < s.size), a ≤ j → j < e → partB s[j] = true) (h2 : ∀ h : e < s.size, partB s[e] = false) :
    (s.data.toList.drop a).takeWhile partB = (s.data.toList.drop a).take (e - a) ∧ ((s.data.toList.drop a).takeWhile partB).length = e - a := by
  have hl : (s.data.toList.drop a).length = s.size - a := by rw [List.length_drop, str_len]
  have key : (s.data.toList.drop a).takeWhile partB = (s.data.toList.drop a).take (e - a) := by
    refine takeWhile_len (by omega) (fun j h hj => ?_) (fun h => ?_)
    · rw [List.getElem_drop]
      exact h1 (a + j) (by omega) (by omega) (by omega)
    · rw [List.getElem_drop]
      have e1 : a + (e - a) = e := by omega
      have := h2 (by omega)
      simp only [e1]
      exact this
  exact ⟨key, by rw [key, List.length_take, hl]; omega⟩
theorem signLen_le (l : List UInt8) : signLen l ≤ l.length ∧ signLen l ≤ 2 := by
  match l with
  | [] => exact ⟨Nat.le_refl _, by decide⟩
  | [a] => rw [signLen]; split <;> simp
  | a :: b :: r =>
    rw [signLen]
    split
    · simp
    · split <;> simp
theorem own_set_ne {w : World} {base : Nat} {e : TypeId} {sz : Nat} {v : Value} {n : Nat} {xs : List Value} (h : w.ownsRow base e sz v n xs) {g : Nat} (hg : ∀ b, v.ownBlock = some b → b ≠ g) (i : Nat) (x : Value) : (w.setCell ⟨g, i, none⟩ x).ownsRow base e sz v n xs := by
  obtain ⟨h1, h2⟩ := h
  refine ⟨h1, ?_⟩
  rcases h2 with hn | ⟨b, cap, cur, hv, hb, hh, rest⟩
  · exact .inl hn
  · refine .inr ⟨b, cap, cur, hv, hb, ?_, rest⟩
    rw [Below.heap_setCell _ _ _ _ (by show b ≠ g; exact hg b (by rw [hv]; rfl))]
    exact hh

set_option maxRecDepth 100000 in
set_option maxHeartbeats 16000000 in
theorem refLex_any (s : ByteArray) (w : World) (hs : s.size ≤ 9223372036854775807) :
    Calls Tryd.prog 27 #[.string s] w fun e w' => LexE w' e (lexS s.data.toList) ∧ Below w.heap.size w w' := by
  by_cases hl : s.size ≤ 16384
  · have hl1 : ¬ (16384 : Int) < s.size := by omega
    have Hf : Hid (lexS s.data.toList = (lexGo (s.size + 1) (s.data.toList.drop 0) 1 1).pre []) := Lib.hid (by rw [LexR.pre_nil, List.drop_zero, lexS, str_len, if_neg (by omega)])
    generalize lexS s.data.toList = final at Hf ⊢
    go_enter Tryd.func27, Tryd.ntmps27
    go_wp2
    go_loopw [2, 3, 4, 5, 6, 7, 8, 9, 10, 11, 12, 13, 14, 18, 19, 20, 21, 22, 23, 24, 25, 26, 27, 28, 29, 30, 31, 32, 33, 34, 35, 36, 37, 38, 39, 40, 41, 42, 43, 44, 45, 46, 47, 48, 49, 50, 51, 52, 53, 54, 55, 56, 57, 58, 59, 60, 61, 62, 63, 64, 65, 66, 67, 68, 69, 70, 71, 72, 73, 74, 75, 76, 77, 78, 79, 80, 81, 82, 83, 84, 85, 86, 87, 88, 89, 90, 91, 92, 93, 94, 95, 96, 97, 98, 99, 100, 101, 102, 103, 104, 105, 106, 107, 108, 109, 110, 111, 112, 113, 114, 115, 116, 117, 118, 119, 120, 121, 122, 123, 124, 125, 126, 127, 128, 129, 130, 131, 132, 133, 134, 135, 136, 137, 138, 139, 140, 141, 142, 143, 144, 145, 146, 147, 148, 149, 150, 151, 152, 153, 154, 155, 156, 157, 158, 159, 160, 161, 162] (fun _ _ _ _ t6 t7 t8 t9 _ _ _ _ _ _ _ _ _ _ _ _ _ _ _ _ _ _ _ _ _ _ _ _ _ _ _ _ _ _ _ _ _ _ _ _ _ _ _ _ _ _ _ _ _ _ _ _ _ _ _ _ _ _ _ _ _ _ _ _ _ _ _ _ _ _ _ _ _ _ _ _ _ _ _ _ _ _ _ _ _ _ _ _ _ _ _ _ _ _ _ _ _ _ _ _ _ _ _ _ _ _ _ _ _ _ _ _ _ _ _ _ _ _ _ _ _ _ _ _ _ _ _ _ _ _ _ _ _ _ _ _ _ _ _ _ _ _ _ _ _ _ _ _ _ _ _ _ _ _ wr => ∃ (at' line first f : Nat) (ts : List Tok), at' ≤ s.size ∧ first ≤ at' ∧ line ≤ at' + 1 ∧ s.size < f + at' ∧ ts.length ≤ at' ∧ t9 = .int .i64 at' ∧ t7 = .int .i64 line ∧ t8 = .int .i64 first ∧ wr.ownsRow w.heap.size 48 5 t6 ts.length (ts.flatMap Tok.cells) ∧ Hid (final = (lexGo f (s.data.toList.drop at') (line : Int) ((at' : Int) - first + 1)).pre ts) ∧ Below w.heap.size w wr) (fun _ _ _ _ _ _ _ t9 _ _ _ _ _ _ _ _ _ _ _ _ _ _ _ _ _ _ _ _ _ _ _ _ _ _ _ _ _ _ _ _ _ _ _ _ _ _ _ _ _ _ _ _ _ _ _ _ _ _ _ _ _ _ _ _ _ _ _ _ _ _ _ _ _ _ _ _ _ _ _ _ _ _ _ _ _ _ _ _ _ _ _ _ _ _ _ _ _ _ _ _ _ _ _ _ _ _ _ _ _ _ _ _ _ _ _ _ _ _ _ _ _ _ _ _ _ _ _ _ _ _ _ _ _ _ _ _ _ _ _ _ _ _ _ _ _ _ _ _ _ _ _ _ _ _ _ _ _ _ _ => s.size + 1 - (intOf t9).toNat)
    case atStart => exact ⟨0, 1, 0, s.size + 1, [], by omega, by omega, by omega, by omega, by simp, rfl, rfl, rfl, World.ownsRow_nil _ _ _ _, Lib.hid Hf.out, Below.refl _ _⟩
    case round =>
      obtain ⟨at', line, first, f, ts, hat, hfi, hli, hf, hts, rfl, rfl, rfl, hown, Hfin, hb⟩ := hrel
      obtain ⟨wo, rfl⟩ : ∃ wo : World, wo = wr := ⟨_, rfl⟩
      obtain ⟨oa, ocap, rfl, _, _⟩ := (Sl.of_own hown).form
      have Hown := Lib.hid hown
      have Hb := Lib.hid hb
      obtain ⟨f', rfl⟩ : ∃ f', f = f' + 1 := ⟨f - 1, by omega⟩
      have HT : Hid (∃ T, skipS (s.data.toList.drop at') false (line : Int) ((at' : Int) - first + 1) = T ∧ final = (lexTok (lexGo f') T.1 T.2.1 T.2.2).pre ts) := Lib.hid ⟨_, rfl, Hfin.out⟩
      obtain ⟨T, hT1, hT2⟩ := HT.out
      have HT1 := Lib.hid hT1
      have HT2 := Lib.hid hT2
      clear hown hb hT1 hT2 HT Hfin
      go_wp2_with fail
      go_loopw [7, 8, 9, 18, 19, 20, 21, 22, 23, 24, 25, 26, 27, 28, 29, 30, 31, 32, 33, 34, 35, 36, 37, 38, 39, 40, 41, 42, 43, 44, 45, 46, 47, 48, 49, 50, 51, 52, 53, 54, 55, 56, 57, 58, 59, 60, 61, 62, 63, 64, 65, 66, 67, 68, 69, 70, 71] (fun t7 t8 t9 _ _ _ _ _ _ _ _ _ _ _ _ _ _ _ _ _ _ _ _ _ _ _ _ _ _ _ _ _ _ _ _ _ _ _ _ _ _ _ _ _ _ _ _ _ _ _ _ _ _ _ _ _ _ wr => ∃ at2 line2 first2 : Nat, at' ≤ at2 ∧ at2 ≤ s.size ∧ first2 ≤ at2 ∧ line2 ≤ at2 + 1 ∧ t9 = .int .i64 at2 ∧ t7 = .int .i64 line2 ∧ t8 = .int .i64 first2 ∧ Hid (skipS (s.data.toList.drop at2) false (line2 : Int) ((at2 : Int) - first2 + 1) = T) ∧ wr = wo) (fun _ _ t9 _ _ _ _ _ _ _ _ _ _ _ _ _ _ _ _ _ _ _ _ _ _ _ _ _ _ _ _ _ _ _ _ _ _ _ _ _ _ _ _ _ _ _ _ _ _ _ _ _ _ _ _ _ _ _ => s.size + 1 - (intOf t9).toNat)
      case atStart => exact ⟨at', line, first, by omega, hat, hfi, hli, rfl, rfl, rfl, Lib.hid HT1.out, rfl⟩
      case round =>
        obtain ⟨at2, line2, first2, ha2, hat2, hfi2, hli2, rfl, rfl, rfl, Hsk, rfl⟩ := hrel
        by_cases hlt : at2 < s.size
        · have hlt1 : (at2 : Int) < s.size := by omega
          have Hdg := Lib.hid (drop_get s hlt)
          have hb255 : s[at2].toNat ≤ 255 := by have := s[at2].toNat_lt; omega
          obtain ⟨p32, p9, p10, p35, q32, q9, q10, q35, hp32, hp9, hp10, hp35⟩ : ∃ p32 p9 p10 p35 : Bool, ((s[at2].toNat : Int) == 32) = p32 ∧ ((s[at2].toNat : Int) == 9) = p9 ∧ ((s[at2].toNat : Int) == 10) = p10 ∧ ((s[at2].toNat : Int) == 35) = p35 ∧ (p32 = true ↔ s[at2].toNat = 32) ∧ (p9 = true ↔ s[at2].toNat = 9) ∧ (p10 = true ↔ s[at2].toNat = 10) ∧ (p35 = true ↔ s[at2].toNat = 35) := by
            refine ⟨_, _, _, _, rfl, rfl, rfl, rfl, ?_, ?_, ?_, ?_⟩ <;> rw [beq_iff_eq] <;> omega
          generalize hx : s[at2] = x at *
          have Hx := Lib.hid hx
          have Hp := Lib.hid (And.intro hp32 (And.intro hp9 (And.intro hp10 hp35)))
          clear hp32 hp9 hp10 hp35
          cases p35
          · cases p10
            · cases p32 <;> cases p9
              · have hst : skipS (s.data.toList.drop at2) false (line2 : Int) ((at2 : Int) - first2 + 1) = (s.data.toList.drop at2, (line2 : Int), (at2 : Int) - first2 + 1) := by
                  rw [Hdg.out]
                  exact skip_stop (fun h => by have := Hp.out.2.2.1.2 h; cases this) (fun h => by have := Hp.out.1.2 h; cases this) (fun h => by have := Hp.out.2.1.2 h; cases this) (fun h => by have := Hp.out.2.2.2.2 h; cases this)
                have HTe : Hid (T = (s.data.toList.drop at2, (line2 : Int), (at2 : Int) - first2 + 1)) := Lib.hid (Hsk.out.symm.trans hst)
                clear hst Hsk Hp
                have hne : ((at2 : Int) == (s.size : Int)) = false := by rw [beq_eq_false_iff_ne]; omega
                have Hfi : Hid (final = (lexTok (lexGo f') (x :: s.data.toList.drop (at2 + 1)) (line2 : Int) ((at2 : Int) - first2 + 1)).pre ts) := Lib.hid (by
                  have h := HT2.out
                  rw [HTe.out] at h
                  simp only at h
                  rw [Hdg.out] at h
                  exact h)
                clear HTe
                obtain ⟨wq, rfl⟩ : ∃ wq : World, wq = wr := ⟨_, rfl⟩
                go_wp2_with fail
                go_loopw [11, 87, 88, 89, 90, 91, 92, 93, 94, 95, 96, 97, 98, 99, 100, 101, 102, 103, 104] (fun t11 _ _ _ _ _ _ _ _ _ _ _ _ _ _ _ _ _ _ wr => ∃ e : Nat, at2 ≤ e ∧ e ≤ s.size ∧ t11 = .int .i64 e ∧ Hid (∀ (j : Nat) (h : j < s.size), at2 ≤ j → j < e → partB s[j] = true) ∧ wr = wq.alloc (.cells #[.int .u8 4, .string ByteArray.empty, .int .i64 0, .int .i64 (line2 : Int), .int .i64 ((at2 : Int) - first2 + 1)] 48)) (fun t11 _ _ _ _ _ _ _ _ _ _ _ _ _ _ _ _ _ _ _ => s.size - (intOf t11).toNat)
                case atStart => exact ⟨at2, by omega, by omega, rfl, Lib.hid (by intro j _ h1 h2; omega), by first | rfl | trivial⟩
                case round =>
                  obtain ⟨e, he, hes, rfl, He, rfl⟩ := hrel
                  by_cases hle : e < s.size
                  · have hle1 : (e : Int) < s.size := by omega
                    have HL := Lib.hid (letter_any (s[e].toNat : Int) (wq.alloc (.cells #[.int .u8 4, .string ByteArray.empty, .int .i64 0, .int .i64 (line2 : Int), .int .i64 ((at2 : Int) - first2 + 1)] 48)))
                    have HD := Lib.hid (digit_any (s[e].toNat : Int) (wq.alloc (.cells #[.int .u8 4, .string ByteArray.empty, .int .i64 0, .int .i64 (line2 : Int), .int .i64 ((at2 : Int) - first2 + 1)] 48)))
                    obtain ⟨pl, pd, hpl, hpd, hpp⟩ : ∃ pl pd : Bool, letterI (s[e].toNat : Int) = pl ∧ digitI (s[e].toNat : Int) = pd ∧ partB s[e] = (pl || pd) := ⟨_, _, rfl, rfl, rfl⟩
                    rw [hpl] at HL
                    rw [hpd] at HD
                    have Hpp := Lib.hid hpp
                    have hse : s[e].toNat ≤ 255 := by have := s[e].toNat_lt; omega
                    clear hpl hpd hpp
                    cases pl
                    · cases pd
                      · go_wp2_with fail
                        go_at_call 31
                        refine HL.out.mono ?_
                        rintro e1 w2 ⟨rfl, rfl⟩
                        go_wp2_with fail
                        go_at_call 32
                        refine HD.out.mono ?_
                        rintro e1 w2 ⟨rfl, rfl⟩
                        go_wp2_with fail
                        have HWL := Lib.hid (word_len s hlt he hes He.out (fun _ => Hpp.out))
                        rw [Hdg.out] at HWL
                        have HLx := Lib.hid (letter_any (x.toNat : Int) (wq.alloc (.cells #[.int .u8 4, .string ByteArray.empty, .int .i64 0, .int .i64 (line2 : Int), .int .i64 ((at2 : Int) - first2 + 1)] 48)))
                        have HDx := Lib.hid (digit_any (x.toNat : Int) (wq.alloc (.cells #[.int .u8 4, .string ByteArray.empty, .int .i64 0, .int .i64 (line2 : Int), .int .i64 ((at2 : Int) - first2 + 1)] 48)))
                        obtain ⟨px, py, hpx, hpy, hlx, hdx⟩ : ∃ px py : Bool, letterI (x.toNat : Int) = px ∧ digitI (x.toNat : Int) = py ∧ letterB x = px ∧ digitB x = py := ⟨_, _, rfl, rfl, rfl, rfl⟩
                        rw [hpx] at HLx
                        rw [hpy] at HDx
                        have Hlx := Lib.hid hlx
                        have Hdx := Lib.hid hdx
                        clear hpx hpy hlx hdx
                        go_at_call 31
                        refine HLx.out.mono ?_
                        rintro e1 w2 ⟨rfl, rfl⟩
                        cases px with
                        | true =>
                          obtain ⟨q, hq, hq2⟩ : ∃ q : Bool, decide ((e : Int) - at2 > 24) = q ∧ (q = true ↔ 24 < e - at2) := ⟨_, rfl, by rw [decide_eq_true_eq]; omega⟩
                          have Hq := Lib.hid hq2
                          clear hq2
                          cases q
                          · have Hf2 : Hid (final = (lexGo f' (s.data.toList.drop e) (line2 : Int) ((e : Int) - first2 + 1)).pre (ts ++ [⟨1, (s.data.toList.drop at2).take (e - at2), 0, (line2 : Int), (at2 : Int) - first2 + 1⟩])) := Lib.hid (by
                              rw [Hfi.out, lexTok, if_pos Hlx.out, HWL.out.2, if_neg (fun h => by have := Hq.out.2 h; cases this), LexR.pre_cons, HWL.out.1, Hdg.out]
                              congr 2
                              · rw [← Hdg.out, List.drop_drop]; congr 1; omega
                              · omega)
                            have hown1 := Hown.out.alloc (.cells #[.int .u8 1, .string (s.extract at2 e), .int .i64 0, .int .i64 (line2 : Int), .int .i64 ((at2 : Int) - first2 + 1)] 48)
                            have hb1 := Hb.out.alloc Hb.out.size (.cells #[.int .u8 1, .string (s.extract at2 e), .int .i64 0, .int .i64 (line2 : Int), .int .i64 ((at2 : Int) - first2 + 1)] 48)
                            have Hbs := Lib.hid (bstr_extract s at2 e)
                            have he1 : at2 < e := by
                              refine Nat.lt_of_le_of_ne he (fun h => ?_)
                              have h2 := HWL.out.2
                              rw [List.takeWhile_cons, if_pos (by rw [partB, Hlx.out]; rfl)] at h2
                              simp at h2
                              omega
                            have hi1 : (at2 : Int) ≤ e := by omega
                            have hi2 : (e : Int) ≤ s.size := by omega
                            go_wp2_with (at_builtin; refine wpList_append_new rfl (.tmp 158) (.tmp 160) 32 rfl hown1 info_tok Tryd.underlying32 rfl (by decide) rfl 1 1 (by show Value.slice (some ⟨wq.heap.size + 1, 0, none⟩) 1 1 = _; simp) rfl rfl (by unfold maxLen; omega) (by omega) hb1.size ?_; intro v' w3 hown3 hg3 hb4)
                            go_roundw
                            case rel =>
                              refine ⟨e, line2, first2, f', ts ++ [⟨1, (s.data.toList.drop at2).take (e - at2), 0, (line2 : Int), (at2 : Int) - first2 + 1⟩], by omega, by omega, by omega, by omega, by simp; omega, rfl, rfl, rfl, ?_, Lib.hid Hf2.out, hb1.trans hb4⟩
                              rw [Hbs.out] at hown3
                              rw [List.length_append, List.flatMap_append]
                              exact hown3
                            case measure => simp [intOf]; omega
                          · have Hf2 : Hid (final = .err (line2 : Int) ((at2 : Int) - first2 + 1) 111) := Lib.hid (by
                              rw [Hfi.out, lexTok, if_pos Hlx.out, HWL.out.2, if_pos (Hq.out.1 rfl)]
                              rfl)
                            have hB := OwnV.new wq 48 [.int .u8 1, .string ByteArray.empty, .int .i64 0, .int .i64 (line2 : Int), .int .i64 ((at2 : Int) - first2 + 1)]
                            have hb1 := Hb.out.alloc Hb.out.size (.cells #[.int .u8 1, .string ByteArray.empty, .int .i64 0, .int .i64 (line2 : Int), .int .i64 ((at2 : Int) - first2 + 1)] 48)
                            go_wp2_with fail
                            generalize wq.alloc (.cells #[.int .u8 1, .string ByteArray.empty, .int .i64 0, .int .i64 (line2 : Int), .int .i64 ((at2 : Int) - first2 + 1)] 48) = w8 at *
                            have c3 := hB.cell (i := 3) rfl
                            have c4 := hB.cell (i := 4) rfl
                            have Hb8 := Lib.hid hb1
                            clear hB hb1
                            refine wp_region_seq (fun w' => Below w8.heap.size w8 w') (by kernel_rfl) (by kernel_rfl) ((Below.refl _ _).drew) ?_
                            repeat
                              try simp only [Act.put, List.setIfInBounds_toArray, List.set_cons_succ, List.set_cons_zero]
                              apply stepsSeq.cons
                              · intro w' hb1
                                have Hb1' := Lib.hid hb1
                                have c3' := Below.keep hb1 c3
                                have c4' := Below.keep hb1 c4
                                simp only [Act.put, List.setIfInBounds_toArray, List.set_cons_succ, List.set_cons_zero]
                                go_wp2_with (fail)
                                first | exact ⟨rfl, Hb1'.out⟩ | exact ⟨rfl, Hb1'.out.trans (hb2.mono Hb1'.out.size)⟩
                            try simp only [Act.put, List.setIfInBounds_toArray, List.set_cons_succ, List.set_cons_zero]
                            refine stepsSeq.nil ?_
                            intro w' hb1
                            clear c3 c4
                            go_wp2
                            exact bodyPost_ret (v := .tuple #[.slice none 0 0, .int .i64 (line2 : Int), .int .i64 ((at2 : Int) - first2 + 1), .int .i64 111]) (by simp [results, Tryd.results27, go_sem]) rfl ⟨by rw [Hf2.out]; rfl, Hb8.out.trans (hb1.mono Hb8.out.size)⟩
                        | false =>
                          go_wp2_with fail
                          go_at_call 32
                          refine HDx.out.mono ?_
                          rintro e1 w2 ⟨rfl, rfl⟩
                          cases py with
                          | true =>
                            have he1 : at2 < e := by
                              refine Nat.lt_of_le_of_ne he (fun h => ?_)
                              have h2 := HWL.out.2
                              rw [List.takeWhile_cons, if_pos (by rw [partB, Hdx.out]; simp)] at h2
                              simp at h2
                              omega
                            have hi1 : (at2 : Int) ≤ e := by omega
                            have hi2 : (e : Int) ≤ s.size := by omega
                            have Hbs := Lib.hid (bstr_extract s at2 e)
                            have Hlist : Hid ((s.extract at2 e).data.toList = (x :: s.data.toList.drop (at2 + 1)).takeWhile partB) := Lib.hid (by rw [sub_list, HWL.out.1, Hdg.out])
                            have HVl := Lib.hid (value_any (s.extract at2 e) (wq.alloc (.cells #[.int .u8 4, .string ByteArray.empty, .int .i64 0, .int .i64 (line2 : Int), .int .i64 ((at2 : Int) - first2 + 1)] 48)) (by
                              have h := str_len (s.extract at2 e)
                              rw [sub_list, List.length_take, List.length_drop, str_len] at h
                              omega))
                            rw [Hlist.out] at HVl
                            cases hvr : valueR ((x :: s.data.toList.drop (at2 + 1)).takeWhile partB) with
                            | none =>
                              have Hf2 : Hid (final = .err (line2 : Int) ((at2 : Int) - first2 + 1) 112) := Lib.hid (by
                                rw [Hfi.out, lexTok, if_neg (by rw [Hlx.out]; decide), if_pos Hdx.out, hvr]
                                rfl)
                              rw [hvr] at HVl
                              clear hvr
                              go_wp2_with fail
                              go_at_call 35
                              refine HVl.out.mono ?_
                              rintro e1 w2 ⟨rfl, rfl⟩
                              unfold numE
                              have hB := OwnV.new wq 48 [.int .u8 4, .string ByteArray.empty, .int .i64 0, .int .i64 (line2 : Int), .int .i64 ((at2 : Int) - first2 + 1)]
                              have hb1 := Hb.out.alloc Hb.out.size (.cells #[.int .u8 4, .string ByteArray.empty, .int .i64 0, .int .i64 (line2 : Int), .int .i64 ((at2 : Int) - first2 + 1)] 48)
                              go_wp2_with fail
                              generalize wq.alloc (.cells #[.int .u8 4, .string ByteArray.empty, .int .i64 0, .int .i64 (line2 : Int), .int .i64 ((at2 : Int) - first2 + 1)] 48) = w8 at *
                              have c3 := hB.cell (i := 3) rfl
                              have c4 := hB.cell (i := 4) rfl
                              have Hb8 := Lib.hid hb1
                              clear hB hb1
                              refine wp_region_seq (fun w' => Below w8.heap.size w8 w') (by kernel_rfl) (by kernel_rfl) ((Below.refl _ _).drew) ?_
                              repeat
                                try simp only [Act.put, List.setIfInBounds_toArray, List.set_cons_succ, List.set_cons_zero]
                                apply stepsSeq.cons
                                · intro w' hb1
                                  have Hb1' := Lib.hid hb1
                                  have c3' := Below.keep hb1 c3
                                  have c4' := Below.keep hb1 c4
                                  simp only [Act.put, List.setIfInBounds_toArray, List.set_cons_succ, List.set_cons_zero]
                                  go_wp2_with (fail)
                                  first | exact ⟨rfl, Hb1'.out⟩ | exact ⟨rfl, Hb1'.out.trans (hb2.mono Hb1'.out.size)⟩
                              try simp only [Act.put, List.setIfInBounds_toArray, List.set_cons_succ, List.set_cons_zero]
                              refine stepsSeq.nil ?_
                              intro w' hb1
                              clear c3 c4
                              go_wp2
                              exact bodyPost_ret (v := .tuple #[.slice none 0 0, .int .i64 (line2 : Int), .int .i64 ((at2 : Int) - first2 + 1), .int .i64 112]) (by simp [results, Tryd.results27, go_sem]) rfl ⟨by rw [Hf2.out]; rfl, Hb8.out.trans (hb1.mono Hb8.out.size)⟩
                            | some n =>
                              have Hf2 : Hid (final = (lexGo f' (s.data.toList.drop e) (line2 : Int) ((e : Int) - first2 + 1)).pre (ts ++ [⟨2, (s.data.toList.drop at2).take (e - at2), n, (line2 : Int), (at2 : Int) - first2 + 1⟩])) := Lib.hid (by
                                rw [Hfi.out, lexTok, if_neg (by rw [Hlx.out]; decide), if_pos Hdx.out, hvr]
                                simp only
                                rw [HWL.out.2, LexR.pre_cons, HWL.out.1, Hdg.out]
                                congr 2
                                · rw [← Hdg.out, List.drop_drop]; congr 1; omega
                                · omega)
                              rw [hvr] at HVl
                              clear hvr
                              have hown1 := Hown.out.alloc (.cells #[.int .u8 2, .string (s.extract at2 e), .int .i64 n, .int .i64 (line2 : Int), .int .i64 ((at2 : Int) - first2 + 1)] 48)
                              have hb1 := Hb.out.alloc Hb.out.size (.cells #[.int .u8 2, .string (s.extract at2 e), .int .i64 n, .int .i64 (line2 : Int), .int .i64 ((at2 : Int) - first2 + 1)] 48)
                              go_wp2_with fail
                              go_at_call 35
                              refine HVl.out.mono ?_
                              rintro e1 w2 ⟨rfl, rfl⟩
                              unfold numE
                              go_wp2_with (at_builtin; refine wpList_append_new rfl (.tmp 158) (.tmp 160) 32 rfl hown1 info_tok Tryd.underlying32 rfl (by decide) rfl 1 1 (by show Value.slice (some ⟨wq.heap.size + 1, 0, none⟩) 1 1 = _; simp) rfl rfl (by unfold maxLen; omega) (by omega) hb1.size ?_; intro v' w3 hown3 hg3 hb4)
                              go_roundw
                              case rel =>
                                refine ⟨e, line2, first2, f', ts ++ [⟨2, (s.data.toList.drop at2).take (e - at2), n, (line2 : Int), (at2 : Int) - first2 + 1⟩], by omega, by omega, by omega, by omega, by simp; omega, rfl, rfl, rfl, ?_, Lib.hid Hf2.out, hb1.trans hb4⟩
                                rw [Hbs.out] at hown3
                                rw [List.length_append, List.flatMap_append]
                                exact hown3
                              case measure => simp [intOf]; omega
                          | false =>
                            have Hxn : Hid ((s.extract at2 s.size).data.toList = x :: s.data.toList.drop (at2 + 1)) := Lib.hid (by rw [sub_list, ← Hdg.out, List.take_of_length_le (by rw [List.length_drop, str_len]; omega)])
                            have hxs : (s.extract at2 s.size).size = s.size - at2 := by
                              have h := str_len (s.extract at2 s.size)
                              rw [sub_list, List.length_take, List.length_drop, str_len] at h
                              omega
                            have HSg := Lib.hid (sign_any (s.extract at2 s.size) (wq.alloc (.cells #[.int .u8 4, .string ByteArray.empty, .int .i64 0, .int .i64 (line2 : Int), .int .i64 ((at2 : Int) - first2 + 1)] 48)) (by omega) (by omega))
                            rw [Hxn.out] at HSg
                            have hi2 : (at2 : Int) ≤ s.size := by omega
                            clear hxs
                            have hsl := signLen_le (x :: s.data.toList.drop (at2 + 1))
                            have hsl1 : at2 + signLen (x :: s.data.toList.drop (at2 + 1)) ≤ s.size := by
                              have h := hsl.1
                              rw [← Hdg.out, List.length_drop, str_len] at h
                              rw [← Hdg.out]; omega
                            have hsl2 := hsl.2
                            have Hfs : Hid (lexTok (lexGo f') (x :: s.data.toList.drop (at2 + 1)) (line2 : Int) ((at2 : Int) - first2 + 1) = if signLen (x :: s.data.toList.drop (at2 + 1)) = 0 then .err (line2 : Int) ((at2 : Int) - first2 + 1) 110 else (lexGo f' ((x :: s.data.toList.drop (at2 + 1)).drop (signLen (x :: s.data.toList.drop (at2 + 1)))) (line2 : Int) ((at2 : Int) - first2 + 1 + signLen (x :: s.data.toList.drop (at2 + 1)))).cons ⟨3, (x :: s.data.toList.drop (at2 + 1)).take (signLen (x :: s.data.toList.drop (at2 + 1))), 0, (line2 : Int), (at2 : Int) - first2 + 1⟩) := Lib.hid (by
                              rw [lexTok, if_neg (by rw [Hlx.out]; decide), if_neg (by rw [Hdx.out]; decide)])
                            generalize signLen (x :: s.data.toList.drop (at2 + 1)) = sl at *
                            clear hsl
                            go_wp2_with fail
                            go_at_call 36
                            refine HSg.out.mono ?_
                            rintro e1 w5 ⟨rfl, hb5⟩
                            have hgw : w.heap.size ≤ wq.heap.size := Hb.out.size
                            have hB := (OwnV.new wq 48 [.int .u8 4, .string ByteArray.empty, .int .i64 0, .int .i64 (line2 : Int), .int .i64 ((at2 : Int) - first2 + 1)]).below hb5 (Nat.le_refl _)
                            have hown5 := own_below (Hown.out.alloc (.cells #[.int .u8 4, .string ByteArray.empty, .int .i64 0, .int .i64 (line2 : Int), .int .i64 ((at2 : Int) - first2 + 1)] 48)) hb5 (Nat.le_refl _)
                            have hb8 := (Hb.out.alloc Hb.out.size (.cells #[.int .u8 4, .string ByteArray.empty, .int .i64 0, .int .i64 (line2 : Int), .int .i64 ((at2 : Int) - first2 + 1)] 48)).trans (hb5.mono (by simp; omega))
                            have hbn : ∀ b, (Value.slice oa ts.length ocap).ownBlock = some b → b ≠ wq.heap.size := fun b hb' => by have := (Hown.out.lt b hb').2; omega
                            have c0 := hB.cell (i := 0) rfl
                            have c1 := hB.cell (i := 1) rfl
                            have c2 := hB.cell (i := 2) rfl
                            have c3 := hB.cell (i := 3) rfl
                            have c4 := hB.cell (i := 4) rfl
                            have f0 := hB.free 0
                            have f1 := hB.free 1
                            have Hb8 := Lib.hid hb8
                            have Hown5 := Lib.hid hown5
                            have Hbn := Lib.hid hbn
                            have hglt := hB.lt
                            clear hb5 hB hown5 hb8 hbn
                            rcases Nat.eq_zero_or_pos sl with h0 | h0
                            · have Hf2 : Hid (final = .err (line2 : Int) ((at2 : Int) - first2 + 1) 110) := Lib.hid (by
                                rw [Hfi.out, Hfs.out, if_pos h0]
                                rfl)
                              have hz : ((sl : Int) == 0) = true := by simp [h0]
                              clear h0
                              go_wp2_with fail
                              refine wp_region_seq (fun w' => Below w5.heap.size w5 w') (by kernel_rfl) (by kernel_rfl) ((Below.refl _ _).drew) ?_
                              repeat
                                try simp only [Act.put, List.setIfInBounds_toArray, List.set_cons_succ, List.set_cons_zero]
                                apply stepsSeq.cons
                                · intro w' hb1
                                  have Hb1' := Lib.hid hb1
                                  have c3' := Below.keep hb1 c3
                                  have c4' := Below.keep hb1 c4
                                  simp only [Act.put, List.setIfInBounds_toArray, List.set_cons_succ, List.set_cons_zero]
                                  go_wp2_with (fail)
                                  first | exact ⟨rfl, Hb1'.out⟩ | exact ⟨rfl, Hb1'.out.trans (hb2.mono Hb1'.out.size)⟩
                              try simp only [Act.put, List.setIfInBounds_toArray, List.set_cons_succ, List.set_cons_zero]
                              refine stepsSeq.nil ?_
                              intro w' hb1
                              clear c0 c1 c2 c3 c4 f0 f1
                              go_wp2
                              exact bodyPost_ret (v := .tuple #[.slice none 0 0, .int .i64 (line2 : Int), .int .i64 ((at2 : Int) - first2 + 1), .int .i64 110]) (by simp [results, Tryd.results27, go_sem]) rfl ⟨by rw [Hf2.out]; rfl, Hb8.out.trans (hb1.mono Hb8.out.size)⟩
                            · have Hf2 : Hid (final = (lexGo f' (s.data.toList.drop (at2 + sl)) (line2 : Int) (((at2 + sl : Nat) : Int) - first2 + 1)).pre (ts ++ [⟨3, (s.data.toList.drop at2).take (at2 + sl - at2), 0, (line2 : Int), (at2 : Int) - first2 + 1⟩])) := Lib.hid (by
                                rw [Hfi.out, Hfs.out, if_neg (by omega), LexR.pre_cons, Hdg.out, Nat.add_sub_cancel_left]
                                congr 2
                                · rw [← Hdg.out, List.drop_drop]
                                · omega)
                              have hz : ((sl : Int) == 0) = false := by rw [beq_eq_false_iff_ne]; omega
                              have he2 : (at2 : Int) + sl ≤ s.size := by omega
                              have he3 : (at2 : Int) ≤ (at2 : Int) + sl := by omega
                              have he4 : ((at2 : Int) + (sl : Int)).toNat = at2 + sl := by omega
                              have he5 : (0 : Int) ≤ (at2 : Int) + sl := by omega
                              have hown1 : (((w5.setCell ⟨wq.heap.size, 0, none⟩ (.int .u8 3)).setCell ⟨wq.heap.size, 1, none⟩ (.string (s.extract at2 (at2 + sl))))).ownsRow w.heap.size 48 5 (.slice oa ts.length ocap) ts.length (ts.flatMap Tok.cells) := own_set_ne (own_set_ne Hown5.out Hbn.out 0 _) Hbn.out 1 _
                              have hb1 : Below w.heap.size w ((w5.setCell ⟨wq.heap.size, 0, none⟩ (.int .u8 3)).setCell ⟨wq.heap.size, 1, none⟩ (.string (s.extract at2 (at2 + sl)))) := (Hb8.out.setCell (p := Addr.mk wq.heap.size 0 none) hgw _).setCell (p := Addr.mk wq.heap.size 1 none) hgw _
                              have Hbs := Lib.hid (bstr_extract s at2 (at2 + sl))
                              have hws : ((w5.setCell ⟨wq.heap.size, 0, none⟩ (.int .u8 3)).setCell ⟨wq.heap.size, 1, none⟩ (.string (s.extract at2 (at2 + sl)))).heap.size = w5.heap.size := by simp
                              go_wp2_with (at_builtin; refine wpList_append_new rfl (.tmp 158) (.tmp 160) 32 rfl hown1 info_tok Tryd.underlying32 rfl (by decide) rfl 1 1 (by show Value.slice (some ⟨w5.heap.size, 0, none⟩) 1 1 = _; simp) rfl rfl (by unfold maxLen; omega) (by omega) hb1.size ?_; intro v' w3 hown3 hg3 hb4)
                              go_roundw
                              case rel =>
                                refine ⟨at2 + sl, line2, first2, f', ts ++ [⟨3, (s.data.toList.drop at2).take (at2 + sl - at2), 0, (line2 : Int), (at2 : Int) - first2 + 1⟩], by omega, by omega, by omega, by omega, by simp; omega, by go_num, rfl, rfl, ?_, Lib.hid Hf2.out, hb1.trans hb4⟩
                                rw [Hbs.out] at hown3
                                rw [List.length_append, List.flatMap_append]
                                exact hown3
                              case measure => simp [intOf]; omega
                      · go_wp2_with (first | (go_at_call 31; refine HL.out.mono ?_; rintro e1 w2 ⟨rfl, rfl⟩) | (go_at_call 32; refine HD.out.mono ?_; rintro e1 w2 ⟨rfl, rfl⟩))
                        go_roundw
                        case rel =>
                          refine ⟨e + 1, by omega, by omega, by go_num, Lib.hid (fun j hj h1 h2 => ?_), by first | rfl | trivial⟩
                          rcases Nat.lt_or_ge j e with h | h
                          · exact He.out j hj h1 h
                          · obtain rfl : j = e := by omega
                            exact Hpp.out
                        case measure => simp [intOf]; omega
                    · go_wp2_with (first | (go_at_call 31; refine HL.out.mono ?_; rintro e1 w2 ⟨rfl, rfl⟩) | (go_at_call 32; refine HD.out.mono ?_; rintro e1 w2 ⟨rfl, rfl⟩))
                      go_roundw
                      case rel =>
                        refine ⟨e + 1, by omega, by omega, by go_num, Lib.hid (fun j hj h1 h2 => ?_), by first | rfl | trivial⟩
                        rcases Nat.lt_or_ge j e with h | h
                        · exact He.out j hj h1 h
                        · obtain rfl : j = e := by omega
                          rw [Hpp.out]; rfl
                      case measure => simp [intOf]; omega
                  · have hle1 : ¬ (e : Int) < s.size := by omega
                    go_wp2_with fail
                    have HWL := Lib.hid (word_len s hlt he hes He.out (fun h => absurd h (by omega)))
                    rw [Hdg.out] at HWL
                    have HLx := Lib.hid (letter_any (x.toNat : Int) (wq.alloc (.cells #[.int .u8 4, .string ByteArray.empty, .int .i64 0, .int .i64 (line2 : Int), .int .i64 ((at2 : Int) - first2 + 1)] 48)))
                    have HDx := Lib.hid (digit_any (x.toNat : Int) (wq.alloc (.cells #[.int .u8 4, .string ByteArray.empty, .int .i64 0, .int .i64 (line2 : Int), .int .i64 ((at2 : Int) - first2 + 1)] 48)))
                    obtain ⟨px, py, hpx, hpy, hlx, hdx⟩ : ∃ px py : Bool, letterI (x.toNat : Int) = px ∧ digitI (x.toNat : Int) = py ∧ letterB x = px ∧ digitB x = py := ⟨_, _, rfl, rfl, rfl, rfl⟩
                    rw [hpx] at HLx
                    rw [hpy] at HDx
                    have Hlx := Lib.hid hlx
                    have Hdx := Lib.hid hdx
                    clear hpx hpy hlx hdx
                    go_at_call 31
                    refine HLx.out.mono ?_
                    rintro e1 w2 ⟨rfl, rfl⟩
                    cases px with
                    | true =>
                      obtain ⟨q, hq, hq2⟩ : ∃ q : Bool, decide ((e : Int) - at2 > 24) = q ∧ (q = true ↔ 24 < e - at2) := ⟨_, rfl, by rw [decide_eq_true_eq]; omega⟩
                      have Hq := Lib.hid hq2
                      clear hq2
                      cases q
                      · have Hf2 : Hid (final = (lexGo f' (s.data.toList.drop e) (line2 : Int) ((e : Int) - first2 + 1)).pre (ts ++ [⟨1, (s.data.toList.drop at2).take (e - at2), 0, (line2 : Int), (at2 : Int) - first2 + 1⟩])) := Lib.hid (by
                          rw [Hfi.out, lexTok, if_pos Hlx.out, HWL.out.2, if_neg (fun h => by have := Hq.out.2 h; cases this), LexR.pre_cons, HWL.out.1, Hdg.out]
                          congr 2
                          · rw [← Hdg.out, List.drop_drop]; congr 1; omega
                          · omega)
                        have hown1 := Hown.out.alloc (.cells #[.int .u8 1, .string (s.extract at2 e), .int .i64 0, .int .i64 (line2 : Int), .int .i64 ((at2 : Int) - first2 + 1)] 48)
                        have hb1 := Hb.out.alloc Hb.out.size (.cells #[.int .u8 1, .string (s.extract at2 e), .int .i64 0, .int .i64 (line2 : Int), .int .i64 ((at2 : Int) - first2 + 1)] 48)
                        have Hbs := Lib.hid (bstr_extract s at2 e)
                        have he1 : at2 < e := by
                          refine Nat.lt_of_le_of_ne he (fun h => ?_)
                          have h2 := HWL.out.2
                          rw [List.takeWhile_cons, if_pos (by rw [partB, Hlx.out]; rfl)] at h2
                          simp at h2
                          omega
                        have hi1 : (at2 : Int) ≤ e := by omega
                        have hi2 : (e : Int) ≤ s.size := by omega
                        go_wp2_with (at_builtin; refine wpList_append_new rfl (.tmp 158) (.tmp 160) 32 rfl hown1 info_tok Tryd.underlying32 rfl (by decide) rfl 1 1 (by show Value.slice (some ⟨wq.heap.size + 1, 0, none⟩) 1 1 = _; simp) rfl rfl (by unfold maxLen; omega) (by omega) hb1.size ?_; intro v' w3 hown3 hg3 hb4)
                        go_roundw
                        case rel =>
                          refine ⟨e, line2, first2, f', ts ++ [⟨1, (s.data.toList.drop at2).take (e - at2), 0, (line2 : Int), (at2 : Int) - first2 + 1⟩], by omega, by omega, by omega, by omega, by simp; omega, rfl, rfl, rfl, ?_, Lib.hid Hf2.out, hb1.trans hb4⟩
                          rw [Hbs.out] at hown3
                          rw [List.length_append, List.flatMap_append]
                          exact hown3
                        case measure => simp [intOf]; omega
                      · have Hf2 : Hid (final = .err (line2 : Int) ((at2 : Int) - first2 + 1) 111) := Lib.hid (by
                          rw [Hfi.out, lexTok, if_pos Hlx.out, HWL.out.2, if_pos (Hq.out.1 rfl)]
                          rfl)
                        have hB := OwnV.new wq 48 [.int .u8 1, .string ByteArray.empty, .int .i64 0, .int .i64 (line2 : Int), .int .i64 ((at2 : Int) - first2 + 1)]
                        have hb1 := Hb.out.alloc Hb.out.size (.cells #[.int .u8 1, .string ByteArray.empty, .int .i64 0, .int .i64 (line2 : Int), .int .i64 ((at2 : Int) - first2 + 1)] 48)
                        go_wp2_with fail
                        generalize wq.alloc (.cells #[.int .u8 1, .string ByteArray.empty, .int .i64 0, .int .i64 (line2 : Int), .int .i64 ((at2 : Int) - first2 + 1)] 48) = w8 at *
                        have c3 := hB.cell (i := 3) rfl
                        have c4 := hB.cell (i := 4) rfl
                        have Hb8 := Lib.hid hb1
                        clear hB hb1
                        refine wp_region_seq (fun w' => Below w8.heap.size w8 w') (by kernel_rfl) (by kernel_rfl) ((Below.refl _ _).drew) ?_
                        repeat
                          try simp only [Act.put, List.setIfInBounds_toArray, List.set_cons_succ, List.set_cons_zero]
                          apply stepsSeq.cons
                          · intro w' hb1
                            have Hb1' := Lib.hid hb1
                            have c3' := Below.keep hb1 c3
                            have c4' := Below.keep hb1 c4
                            simp only [Act.put, List.setIfInBounds_toArray, List.set_cons_succ, List.set_cons_zero]
                            go_wp2_with (fail)
                            first | exact ⟨rfl, Hb1'.out⟩ | exact ⟨rfl, Hb1'.out.trans (hb2.mono Hb1'.out.size)⟩
                        try simp only [Act.put, List.setIfInBounds_toArray, List.set_cons_succ, List.set_cons_zero]
                        refine stepsSeq.nil ?_
                        intro w' hb1
                        clear c3 c4
                        go_wp2
                        exact bodyPost_ret (v := .tuple #[.slice none 0 0, .int .i64 (line2 : Int), .int .i64 ((at2 : Int) - first2 + 1), .int .i64 111]) (by simp [results, Tryd.results27, go_sem]) rfl ⟨by rw [Hf2.out]; rfl, Hb8.out.trans (hb1.mono Hb8.out.size)⟩
                    | false =>
                      go_wp2_with fail
                      go_at_call 32
                      refine HDx.out.mono ?_
                      rintro e1 w2 ⟨rfl, rfl⟩
                      cases py with
                      | true =>
                        have he1 : at2 < e := by
                          refine Nat.lt_of_le_of_ne he (fun h => ?_)
                          have h2 := HWL.out.2
                          rw [List.takeWhile_cons, if_pos (by rw [partB, Hdx.out]; simp)] at h2
                          simp at h2
                          omega
                        have hi1 : (at2 : Int) ≤ e := by omega
                        have hi2 : (e : Int) ≤ s.size := by omega
                        have Hbs := Lib.hid (bstr_extract s at2 e)
                        have Hlist : Hid ((s.extract at2 e).data.toList = (x :: s.data.toList.drop (at2 + 1)).takeWhile partB) := Lib.hid (by rw [sub_list, HWL.out.1, Hdg.out])
                        have HVl := Lib.hid (value_any (s.extract at2 e) (wq.alloc (.cells #[.int .u8 4, .string ByteArray.empty, .int .i64 0, .int .i64 (line2 : Int), .int .i64 ((at2 : Int) - first2 + 1)] 48)) (by
                          have h := str_len (s.extract at2 e)
                          rw [sub_list, List.length_take, List.length_drop, str_len] at h
                          omega))
                        rw [Hlist.out] at HVl
                        cases hvr : valueR ((x :: s.data.toList.drop (at2 + 1)).takeWhile partB) with
                        | none =>
                          have Hf2 : Hid (final = .err (line2 : Int) ((at2 : Int) - first2 + 1) 112) := Lib.hid (by
                            rw [Hfi.out, lexTok, if_neg (by rw [Hlx.out]; decide), if_pos Hdx.out, hvr]
                            rfl)
                          rw [hvr] at HVl
                          clear hvr
                          go_wp2_with fail
                          go_at_call 35
                          refine HVl.out.mono ?_
                          rintro e1 w2 ⟨rfl, rfl⟩
                          unfold numE
                          have hB := OwnV.new wq 48 [.int .u8 4, .string ByteArray.empty, .int .i64 0, .int .i64 (line2 : Int), .int .i64 ((at2 : Int) - first2 + 1)]
                          have hb1 := Hb.out.alloc Hb.out.size (.cells #[.int .u8 4, .string ByteArray.empty, .int .i64 0, .int .i64 (line2 : Int), .int .i64 ((at2 : Int) - first2 + 1)] 48)
                          go_wp2_with fail
                          generalize wq.alloc (.cells #[.int .u8 4, .string ByteArray.empty, .int .i64 0, .int .i64 (line2 : Int), .int .i64 ((at2 : Int) - first2 + 1)] 48) = w8 at *
                          have c3 := hB.cell (i := 3) rfl
                          have c4 := hB.cell (i := 4) rfl
                          have Hb8 := Lib.hid hb1
                          clear hB hb1
                          refine wp_region_seq (fun w' => Below w8.heap.size w8 w') (by kernel_rfl) (by kernel_rfl) ((Below.refl _ _).drew) ?_
                          repeat
                            try simp only [Act.put, List.setIfInBounds_toArray, List.set_cons_succ, List.set_cons_zero]
                            apply stepsSeq.cons
                            · intro w' hb1
                              have Hb1' := Lib.hid hb1
                              have c3' := Below.keep hb1 c3
                              have c4' := Below.keep hb1 c4
                              simp only [Act.put, List.setIfInBounds_toArray, List.set_cons_succ, List.set_cons_zero]
                              go_wp2_with (fail)
                              first | exact ⟨rfl, Hb1'.out⟩ | exact ⟨rfl, Hb1'.out.trans (hb2.mono Hb1'.out.size)⟩
                          try simp only [Act.put, List.setIfInBounds_toArray, List.set_cons_succ, List.set_cons_zero]
                          refine stepsSeq.nil ?_
                          intro w' hb1
                          clear c3 c4
                          go_wp2
                          exact bodyPost_ret (v := .tuple #[.slice none 0 0, .int .i64 (line2 : Int), .int .i64 ((at2 : Int) - first2 + 1), .int .i64 112]) (by simp [results, Tryd.results27, go_sem]) rfl ⟨by rw [Hf2.out]; rfl, Hb8.out.trans (hb1.mono Hb8.out.size)⟩
                        | some n =>
                          have Hf2 : Hid (final = (lexGo f' (s.data.toList.drop e) (line2 : Int) ((e : Int) - first2 + 1)).pre (ts ++ [⟨2, (s.data.toList.drop at2).take (e - at2), n, (line2 : Int), (at2 : Int) - first2 + 1⟩])) := Lib.hid (by
                            rw [Hfi.out, lexTok, if_neg (by rw [Hlx.out]; decide), if_pos Hdx.out, hvr]
                            simp only
                            rw [HWL.out.2, LexR.pre_cons, HWL.out.1, Hdg.out]
                            congr 2
                            · rw [← Hdg.out, List.drop_drop]; congr 1; omega
                            · omega)
                          rw [hvr] at HVl
                          clear hvr
                          have hown1 := Hown.out.alloc (.cells #[.int .u8 2, .string (s.extract at2 e), .int .i64 n, .int .i64 (line2 : Int), .int .i64 ((at2 : Int) - first2 + 1)] 48)
                          have hb1 := Hb.out.alloc Hb.out.size (.cells #[.int .u8 2, .string (s.extract at2 e), .int .i64 n, .int .i64 (line2 : Int), .int .i64 ((at2 : Int) - first2 + 1)] 48)
                          go_wp2_with fail
                          go_at_call 35
                          refine HVl.out.mono ?_
                          rintro e1 w2 ⟨rfl, rfl⟩
                          unfold numE
                          go_wp2_with (at_builtin; refine wpList_append_new rfl (.tmp 158) (.tmp 160) 32 rfl hown1 info_tok Tryd.underlying32 rfl (by decide) rfl 1 1 (by show Value.slice (some ⟨wq.heap.size + 1, 0, none⟩) 1 1 = _; simp) rfl rfl (by unfold maxLen; omega) (by omega) hb1.size ?_; intro v' w3 hown3 hg3 hb4)
                          go_roundw
                          case rel =>
                            refine ⟨e, line2, first2, f', ts ++ [⟨2, (s.data.toList.drop at2).take (e - at2), n, (line2 : Int), (at2 : Int) - first2 + 1⟩], by omega, by omega, by omega, by omega, by simp; omega, rfl, rfl, rfl, ?_, Lib.hid Hf2.out, hb1.trans hb4⟩
                            rw [Hbs.out] at hown3
                            rw [List.length_append, List.flatMap_append]
                            exact hown3
                          case measure => simp [intOf]; omega
                      | false =>
                        have Hxn : Hid ((s.extract at2 s.size).data.toList = x :: s.data.toList.drop (at2 + 1)) := Lib.hid (by rw [sub_list, ← Hdg.out, List.take_of_length_le (by rw [List.length_drop, str_len]; omega)])
                        have hxs : (s.extract at2 s.size).size = s.size - at2 := by
                          have h := str_len (s.extract at2 s.size)
                          rw [sub_list, List.length_take, List.length_drop, str_len] at h
                          omega
                        have HSg := Lib.hid (sign_any (s.extract at2 s.size) (wq.alloc (.cells #[.int .u8 4, .string ByteArray.empty, .int .i64 0, .int .i64 (line2 : Int), .int .i64 ((at2 : Int) - first2 + 1)] 48)) (by omega) (by omega))
                        rw [Hxn.out] at HSg
                        have hi2 : (at2 : Int) ≤ s.size := by omega
                        clear hxs
                        have hsl := signLen_le (x :: s.data.toList.drop (at2 + 1))
                        have hsl1 : at2 + signLen (x :: s.data.toList.drop (at2 + 1)) ≤ s.size := by
                          have h := hsl.1
                          rw [← Hdg.out, List.length_drop, str_len] at h
                          rw [← Hdg.out]; omega
                        have hsl2 := hsl.2
                        have Hfs : Hid (lexTok (lexGo f') (x :: s.data.toList.drop (at2 + 1)) (line2 : Int) ((at2 : Int) - first2 + 1) = if signLen (x :: s.data.toList.drop (at2 + 1)) = 0 then .err (line2 : Int) ((at2 : Int) - first2 + 1) 110 else (lexGo f' ((x :: s.data.toList.drop (at2 + 1)).drop (signLen (x :: s.data.toList.drop (at2 + 1)))) (line2 : Int) ((at2 : Int) - first2 + 1 + signLen (x :: s.data.toList.drop (at2 + 1)))).cons ⟨3, (x :: s.data.toList.drop (at2 + 1)).take (signLen (x :: s.data.toList.drop (at2 + 1))), 0, (line2 : Int), (at2 : Int) - first2 + 1⟩) := Lib.hid (by
                          rw [lexTok, if_neg (by rw [Hlx.out]; decide), if_neg (by rw [Hdx.out]; decide)])
                        generalize signLen (x :: s.data.toList.drop (at2 + 1)) = sl at *
                        clear hsl
                        go_wp2_with fail
                        go_at_call 36
                        refine HSg.out.mono ?_
                        rintro e1 w5 ⟨rfl, hb5⟩
                        have hgw : w.heap.size ≤ wq.heap.size := Hb.out.size
                        have hB := (OwnV.new wq 48 [.int .u8 4, .string ByteArray.empty, .int .i64 0, .int .i64 (line2 : Int), .int .i64 ((at2 : Int) - first2 + 1)]).below hb5 (Nat.le_refl _)
                        have hown5 := own_below (Hown.out.alloc (.cells #[.int .u8 4, .string ByteArray.empty, .int .i64 0, .int .i64 (line2 : Int), .int .i64 ((at2 : Int) - first2 + 1)] 48)) hb5 (Nat.le_refl _)
                        have hb8 := (Hb.out.alloc Hb.out.size (.cells #[.int .u8 4, .string ByteArray.empty, .int .i64 0, .int .i64 (line2 : Int), .int .i64 ((at2 : Int) - first2 + 1)] 48)).trans (hb5.mono (by simp; omega))
                        have hbn : ∀ b, (Value.slice oa ts.length ocap).ownBlock = some b → b ≠ wq.heap.size := fun b hb' => by have := (Hown.out.lt b hb').2; omega
                        have c0 := hB.cell (i := 0) rfl
                        have c1 := hB.cell (i := 1) rfl
                        have c2 := hB.cell (i := 2) rfl
                        have c3 := hB.cell (i := 3) rfl
                        have c4 := hB.cell (i := 4) rfl
                        have f0 := hB.free 0
                        have f1 := hB.free 1
                        have Hb8 := Lib.hid hb8
                        have Hown5 := Lib.hid hown5
                        have Hbn := Lib.hid hbn
                        have hglt := hB.lt
                        clear hb5 hB hown5 hb8 hbn
                        rcases Nat.eq_zero_or_pos sl with h0 | h0
                        · have Hf2 : Hid (final = .err (line2 : Int) ((at2 : Int) - first2 + 1) 110) := Lib.hid (by
                            rw [Hfi.out, Hfs.out, if_pos h0]
                            rfl)
                          have hz : ((sl : Int) == 0) = true := by simp [h0]
                          clear h0
                          go_wp2_with fail
                          refine wp_region_seq (fun w' => Below w5.heap.size w5 w') (by kernel_rfl) (by kernel_rfl) ((Below.refl _ _).drew) ?_
                          repeat
                            try simp only [Act.put, List.setIfInBounds_toArray, List.set_cons_succ, List.set_cons_zero]
                            apply stepsSeq.cons
                            · intro w' hb1
                              have Hb1' := Lib.hid hb1
                              have c3' := Below.keep hb1 c3
                              have c4' := Below.keep hb1 c4
                              simp only [Act.put, List.setIfInBounds_toArray, List.set_cons_succ, List.set_cons_zero]
                              go_wp2_with (fail)
                              first | exact ⟨rfl, Hb1'.out⟩ | exact ⟨rfl, Hb1'.out.trans (hb2.mono Hb1'.out.size)⟩
                          try simp only [Act.put, List.setIfInBounds_toArray, List.set_cons_succ, List.set_cons_zero]
                          refine stepsSeq.nil ?_
                          intro w' hb1
                          clear c0 c1 c2 c3 c4 f0 f1
                          go_wp2
                          exact bodyPost_ret (v := .tuple #[.slice none 0 0, .int .i64 (line2 : Int), .int .i64 ((at2 : Int) - first2 + 1), .int .i64 110]) (by simp [results, Tryd.results27, go_sem]) rfl ⟨by rw [Hf2.out]; rfl, Hb8.out.trans (hb1.mono Hb8.out.size)⟩
                        · have Hf2 : Hid (final = (lexGo f' (s.data.toList.drop (at2 + sl)) (line2 : Int) (((at2 + sl : Nat) : Int) - first2 + 1)).pre (ts ++ [⟨3, (s.data.toList.drop at2).take (at2 + sl - at2), 0, (line2 : Int), (at2 : Int) - first2 + 1⟩])) := Lib.hid (by
                            rw [Hfi.out, Hfs.out, if_neg (by omega), LexR.pre_cons, Hdg.out, Nat.add_sub_cancel_left]
                            congr 2
                            · rw [← Hdg.out, List.drop_drop]
                            · omega)
                          have hz : ((sl : Int) == 0) = false := by rw [beq_eq_false_iff_ne]; omega
                          have he2 : (at2 : Int) + sl ≤ s.size := by omega
                          have he3 : (at2 : Int) ≤ (at2 : Int) + sl := by omega
                          have he4 : ((at2 : Int) + (sl : Int)).toNat = at2 + sl := by omega
                          have he5 : (0 : Int) ≤ (at2 : Int) + sl := by omega
                          have hown1 : (((w5.setCell ⟨wq.heap.size, 0, none⟩ (.int .u8 3)).setCell ⟨wq.heap.size, 1, none⟩ (.string (s.extract at2 (at2 + sl))))).ownsRow w.heap.size 48 5 (.slice oa ts.length ocap) ts.length (ts.flatMap Tok.cells) := own_set_ne (own_set_ne Hown5.out Hbn.out 0 _) Hbn.out 1 _
                          have hb1 : Below w.heap.size w ((w5.setCell ⟨wq.heap.size, 0, none⟩ (.int .u8 3)).setCell ⟨wq.heap.size, 1, none⟩ (.string (s.extract at2 (at2 + sl)))) := (Hb8.out.setCell (p := Addr.mk wq.heap.size 0 none) hgw _).setCell (p := Addr.mk wq.heap.size 1 none) hgw _
                          have Hbs := Lib.hid (bstr_extract s at2 (at2 + sl))
                          have hws : ((w5.setCell ⟨wq.heap.size, 0, none⟩ (.int .u8 3)).setCell ⟨wq.heap.size, 1, none⟩ (.string (s.extract at2 (at2 + sl)))).heap.size = w5.heap.size := by simp
                          go_wp2_with (at_builtin; refine wpList_append_new rfl (.tmp 158) (.tmp 160) 32 rfl hown1 info_tok Tryd.underlying32 rfl (by decide) rfl 1 1 (by show Value.slice (some ⟨w5.heap.size, 0, none⟩) 1 1 = _; simp) rfl rfl (by unfold maxLen; omega) (by omega) hb1.size ?_; intro v' w3 hown3 hg3 hb4)
                          go_roundw
                          case rel =>
                            refine ⟨at2 + sl, line2, first2, f', ts ++ [⟨3, (s.data.toList.drop at2).take (at2 + sl - at2), 0, (line2 : Int), (at2 : Int) - first2 + 1⟩], by omega, by omega, by omega, by omega, by simp; omega, by go_num, rfl, rfl, ?_, Lib.hid Hf2.out, hb1.trans hb4⟩
                            rw [Hbs.out] at hown3
                            rw [List.length_append, List.flatMap_append]
                            exact hown3
                          case measure => simp [intOf]; omega
              all_goals
                have Hsk2 : Hid (skipS (s.data.toList.drop (at2 + 1)) false (line2 : Int) (((at2 + 1 : Nat) : Int) - first2 + 1) = T) := Lib.hid (by
                  have h := Hsk.out
                  rw [Hdg.out, skip_sp (by first | exact .inl (Hp.out.1.1 rfl) | exact .inr (Hp.out.2.1.1 rfl))] at h
                  rw [← h]; congr 1; omega)
                clear Hsk Hp
                go_wp2
                go_roundw
                case rel => exact ⟨at2 + 1, line2, first2, by omega, by omega, by omega, by omega, by go_num, rfl, rfl, Hsk2, by first | rfl | trivial⟩
                case measure => simp [intOf]; omega
            · have Hsk2 : Hid (skipS (s.data.toList.drop (at2 + 1)) false ((line2 + 1 : Nat) : Int) (((at2 + 1 : Nat) : Int) - ((at2 + 1 : Nat) : Int) + 1) = T) := Lib.hid (by
                have h := Hsk.out
                rw [Hdg.out, skip_nl (Hp.out.2.2.1.1 rfl)] at h
                rw [← h]; congr 1 <;> omega)
              have h10 := Hp.out.2.2.1.1 rfl
              obtain ⟨rfl, rfl⟩ : p32 = false ∧ p9 = false := by
                have h1 := Hp.out.1.1
                have h2 := Hp.out.2.1.1
                constructor
                · cases p32
                  · rfl
                  · have := h1 rfl; omega
                · cases p9
                  · rfl
                  · have := h2 rfl; omega
              clear Hsk Hp h10
              go_wp2
              go_roundw
              case rel => exact ⟨at2 + 1, line2 + 1, at2 + 1, by omega, by omega, by omega, by omega, by go_num, by go_num, by go_num, Hsk2, by first | rfl | trivial⟩
              case measure => simp [intOf]; omega
          · have h35 := Hp.out.2.2.2.1 rfl
            have Hn10 : Hid (x.toNat ≠ 10) := Lib.hid (by omega)
            obtain ⟨rfl, rfl, rfl⟩ : p32 = false ∧ p9 = false ∧ p10 = false := by
              have h1 := Hp.out.1.1
              have h2 := Hp.out.2.1.1
              have h3 := Hp.out.2.2.1.1
              refine ⟨?_, ?_, ?_⟩
              · cases p32
                · rfl
                · have := h1 rfl; omega
              · cases p9
                · rfl
                · have := h2 rfl; omega
              · cases p10
                · rfl
                · have := h3 rfl; omega
            have Hsk3 : Hid (skipS (s.data.toList.drop at2) true (line2 : Int) ((at2 : Int) - first2 + 1) = T) := Lib.hid (by
              have h := Hsk.out
              rw [Hdg.out, skip_cm h35] at h
              rw [Hdg.out, skip_in (by omega)]
              exact h)
            clear Hsk Hp h35
            go_wp2_with fail
            obtain ⟨wp, rfl⟩ : ∃ wp : World, wp = wr := ⟨_, rfl⟩
            go_loopw [9, 50, 51, 52, 53, 54, 55, 56, 57, 58, 59, 60, 61] (fun t9 _ _ _ _ _ _ _ _ _ _ _ _ wr => ∃ at3 : Nat, at2 ≤ at3 ∧ at3 ≤ s.size ∧ t9 = .int .i64 at3 ∧ Hid (skipS (s.data.toList.drop at3) true (line2 : Int) ((at3 : Int) - first2 + 1) = T) ∧ wr = wp) (fun t9 _ _ _ _ _ _ _ _ _ _ _ _ _ => s.size - (intOf t9).toNat)
            case atStart => exact ⟨at2, by omega, by omega, rfl, Lib.hid Hsk3.out, rfl⟩
            case round =>
              obtain ⟨at3, ha3, hat3, rfl, Hs3, rfl⟩ := hrel
              by_cases hlt3 : at3 < s.size
              · have hlt31 : (at3 : Int) < s.size := by omega
                have Hdg3 := Lib.hid (drop_get s hlt3)
                have hy255 : s[at3].toNat ≤ 255 := by have := s[at3].toNat_lt; omega
                have Hxy : Hid (∀ h : at3 < s.size, s[at3].toNat = 10 → at3 ≠ at2) := Lib.hid (by
                  rintro h e rfl
                  exact Hn10.out (by rw [← Hx.out]; exact e))
                obtain ⟨q, q', hq, hq', hqq, hq2⟩ : ∃ q q' : Bool, ((s[at3].toNat : Int) != 10) = q ∧ ((s[at3].toNat : Int) == 10) = q' ∧ q' = !q ∧ (q = false ↔ s[at3].toNat = 10) := ⟨_, _, rfl, rfl, by rw [bne, Bool.not_not], by rw [bne_eq_false_iff_eq]; omega⟩
                subst hqq
                have Hq := Lib.hid hq2
                have Hxy2 := Lib.hid (Hxy.out hlt3)
                generalize hy : s[at3] = y at *
                clear hq2
                cases q <;> simp only [Bool.not_false, Bool.not_true] at hq'
                · have h10 := Hq.out.1 rfl
                  have Hsk2 : Hid (skipS (s.data.toList.drop at3) false (line2 : Int) ((at3 : Int) - first2 + 1) = T) := Lib.hid (by
                    rw [← skip_out (.inr ⟨y, _, Hdg3.out, h10⟩)]; exact Hs3.out)
                  have hne := Hxy2.out h10
                  clear h10
                  go_wp2
                  go_roundw
                  case rel => exact ⟨at3, line2, first2, by omega, by omega, by omega, by omega, rfl, rfl, rfl, Hsk2, by first | rfl | trivial⟩
                  case measure => simp [intOf]; omega
                · have Hs4 : Hid (skipS (s.data.toList.drop (at3 + 1)) true (line2 : Int) (((at3 + 1 : Nat) : Int) - first2 + 1) = T) := Lib.hid (by
                    have h := Hs3.out
                    rw [Hdg3.out, skip_in (fun e => by have := Hq.out.2 e; cases this)] at h
                    rw [← h]; congr 1; omega)
                  go_wp2
                  go_roundw
                  case rel => exact ⟨at3 + 1, by omega, by omega, by go_num, Hs4, by first | rfl | trivial⟩
                  case measure => simp [intOf]; omega
              · obtain rfl : at3 = s.size := by omega
                have Hsk2 : Hid (skipS (s.data.toList.drop s.size) false (line2 : Int) ((s.size : Int) - first2 + 1) = T) := Lib.hid (by
                  rw [← skip_out (.inl (drop_nil s (Nat.le_refl _)))]; exact Hs3.out)
                go_wp2
                go_roundw
                case rel => exact ⟨s.size, line2, first2, by omega, by omega, by omega, by omega, rfl, rfl, rfl, Hsk2, by first | rfl | trivial⟩
                case measure => simp [intOf]; omega
        · obtain rfl : at2 = s.size := by omega
          have hlt1 : ¬ (s.size : Int) < s.size := by omega
          have HTe : Hid (final = .ok (ts ++ [⟨4, [], 0, (line2 : Int), (s.size : Int) - first2 + 1⟩])) := Lib.hid (by
            have h := HT2.out
            have h2 := Hsk.out
            rw [drop_nil s (Nat.le_refl _), skip_end] at h2
            rw [← h2] at h
            exact h)
          have hown1 := Hown.out.alloc (.cells #[.int .u8 4, .string ByteArray.empty, .int .i64 0, .int .i64 (line2 : Int), .int .i64 ((s.size : Int) - first2 + 1)] 48)
          have hb1 := Hb.out.alloc Hb.out.size (.cells #[.int .u8 4, .string ByteArray.empty, .int .i64 0, .int .i64 (line2 : Int), .int .i64 ((s.size : Int) - first2 + 1)] 48)
          clear Hsk
          go_wp2_with (at_builtin; refine wpList_append_new rfl (.tmp 82) (.tmp 84) 32 rfl hown1 info_tok Tryd.underlying32 rfl (by decide) rfl 1 1 (by show Value.slice (some ⟨wr.heap.size + 1, 0, none⟩) 1 1 = _; simp) rfl rfl (by unfold maxLen; omega) (by omega) hb1.size ?_; intro v' w3 hown3 hg3 hb4)
          exact bodyPost_ret (v := .tuple #[v', .int .i64 0, .int .i64 0, .int .i64 0]) (by simp [results, Tryd.results27, go_sem]) rfl ⟨by
            rw [HTe.out]
            refine ⟨v', rfl, ?_⟩
            have h := Sl.of_own hown3
            unfold Toks
            rw [List.length_append, List.flatMap_append]
            exact h, hb1.trans hb4⟩
  · have hl1 : (16384 : Int) < s.size := by omega
    have Hf : Hid (lexS s.data.toList = .err 0 0 3) := Lib.hid (by rw [lexS, str_len, if_pos (by omega)])
    go_enter Tryd.func27, Tryd.ntmps27
    go_wp2
    exact bodyPost_ret (v := .tuple #[.slice none 0 0, .int .i64 0, .int .i64 0, .int .i64 3]) (by simp [results, Tryd.results27, go_sem]) rfl ⟨by rw [Hf.out]; rfl, Below.refl _ _⟩
end Go.Proofs.YtcichbdkdbnmiaaDoor
