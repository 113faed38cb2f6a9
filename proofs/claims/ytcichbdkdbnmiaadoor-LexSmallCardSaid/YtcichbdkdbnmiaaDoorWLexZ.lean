/- marcheslaw11.LexSmall, walked. -/
import Derived.Test.YtcichbdkdbnmiaaDoorWLexA
import Derived.Test.YtcichbdkdbnmiaaDoorWDec
namespace Go.Proofs.YtcichbdkdbnmiaaDoor
open Go.RowKit

theorem u8_mk {c : Int} (h0 : 0 ≤ c) (h1 : c < 256) : ∃ x : UInt8, c = (x.toNat : Int) := ⟨UInt8.ofNat c.toNat, by
  rw [UInt8.toNat_ofNat']
  omega⟩
/-- bytes of a block, as a string -/
theorem conv_row (w : World) (g n cap : Nat) (l : List UInt8) (h : ∀ i, i < l.length → w.cell? ⟨g, i, none⟩ = some (.int .u8 ((l[i]?).getD 0).toNat)) (hn : l.length = n) :
    (convert 36 9 (.slice (some ⟨g, 0, none⟩) n cap)).run Tryd.prog w = .ok (.string (bstr l)) w := by
  subst hn
  have hl : (bstr l).size = l.length := by rw [← str_len, bstr_data]
  have := Lib.run_convert_whole (P := Tryd.prog) w 36 5 9 Tryd.underlying36 Tryd.underlying5 Tryd.underlying9 g 0 (bstr l) (fun i hi => by
    rw [hl] at hi
    rw [Nat.zero_add, h i hi, ← str_get _ i (by rw [hl]; exact hi)]
    simp [bstr_data, hi]) cap
  rw [hl] at this
  exact this
theorem conv_two (w : World) (x y : UInt8) (c d : Int) (hc : c = (x.toNat : Int)) (hd : d = (y.toNat : Int)) :
    (convert 36 9 (.slice (some ⟨w.heap.size, 0, none⟩) 2 2)).run Tryd.prog (w.alloc (.cells #[.int .u8 c, .int .u8 d] 5)) = .ok (.string (bstr [x, y])) (w.alloc (.cells #[.int .u8 c, .int .u8 d] 5)) := by
  subst hc; subst hd
  refine conv_row _ _ 2 2 [x, y] (fun i hi => ?_) rfl
  have : i = 0 ∨ i = 1 := by simp only [List.length_cons, List.length_nil] at hi; omega
  rcases this with rfl | rfl
  all_goals rw [World.cell?_alloc_new]; rfl
theorem info_u8 : (Tryd.prog.info? 5).map (fun i => (i.zero, i.size, i.bytes)) = some (some (.int .u8 0), 1, 1) := by kernel_rfl
def u8v (b : UInt8) : Value := .int .u8 b.toNat
theorem own_conv {w : World} {B n c : Nat} {a : Option Addr} {l : List UInt8} (h : w.ownsRow B 5 1 (.slice a n c) n (l.map u8v)) (hn : l.length = n) (h0 : 0 < n) (k cap : Nat) (hk : k ≤ n) : (convert 36 9 (.slice a k cap)).run Tryd.prog w = .ok (.string (bstr (l.take k))) w := by
  subst hn
  obtain ⟨b, off, rfl, -, hc⟩ := Sl.at (by omega) (Sl.of_own h) h0
  obtain ⟨h1, h2⟩ := h
  rcases h2 with ⟨e, -⟩ | ⟨g, c', cur, e, -⟩
  · cases e
  · cases e
    refine conv_row w b k cap (l.take k) (fun i hi => ?_) (by rw [List.length_take]; omega)
    rw [List.length_take] at hi
    have := hc i (by omega)
    rw [Nat.zero_add] at this
    rw [this, List.getElem?_map, List.getElem?_take_of_lt (by omega), List.getElem?_eq_getElem (by omega)]
    rfl
def numsB : List ByteArray := [{ data := #[48] }, { data := #[48, 48] }, { data := #[48, 49] }, { data := #[57, 50, 50, 51, 51, 55, 50, 48, 51, 54, 56, 53, 52, 55, 55, 53, 56, 48, 54] }, { data := #[57, 50, 50, 51, 51, 55, 50, 48, 51, 54, 56, 53, 52, 55, 55, 53, 56, 48, 55] }, { data := #[57, 50, 50, 51, 51, 55, 50, 48, 51, 54, 56, 53, 52, 55, 55, 53, 56, 48, 56] }, { data := #[57, 50, 50, 51, 51, 55, 50, 48, 51, 54, 56, 53, 52, 55, 55, 53, 56, 49, 48] }, { data := #[49, 56, 52, 52, 54, 55, 52, 52, 48, 55, 51, 55, 48, 57, 53, 53, 49, 54, 49, 53] }, { data := #[49, 56, 52, 52, 54, 55, 52, 52, 48, 55, 51, 55, 48, 57, 53, 53, 49, 54, 49, 54] }, { data := #[57, 57, 57, 57, 57, 57, 57, 57, 57, 57, 57, 57, 57, 57, 57, 57, 57, 57, 57, 57] }, { data := #[49, 95] }, { data := #[49, 97] }, { data := #[48, 97] }, { data := #[48, 95] }]
theorem mk_u8 (n : Nat) (hn : n ≤ 20000) : ∀ u : World, (Instr.makeSlice 36 (.int .i64 (n : Int)) (.int .i64 (n : Int))).run Tryd.prog u =
      .ok (.slice (some ⟨u.heap.size, 0, none⟩) n n) (u.alloc (.cells (List.replicate n (Value.int .u8 0)).toArray 5)) := fun u => by
  obtain ⟨i0, hi, hz0, hz1, hz2⟩ := info_parts info_u8
  have h := run_make (P := Tryd.prog) u 36 5 i0 (.int .u8 0) Tryd.underlying36 hi hz0 .i64 .i64 (n : Int) (n : Int) (by omega) (Int.le_refl _) (by rw [hz2]; omega) (by omega)
  rw [hz1, Nat.mul_one, made_one _ _ rfl] at h
  simpa using h
theorem letters_set {l : List UInt8} {i : Nat} {x : UInt8} (hi : i < l.length) (h : ∀ j, j < i → letterB (l.getD j 0) = true) (hx : letterB x = true) : ∀ j, j < i + 1 → letterB ((l.set i x).getD j 0) = true := by
  intro j hj
  rw [List.getD_eq_getElem?_getD, List.getElem?_set]
  by_cases e : i = j
  · subst e; simp [hi, hx]
  · rw [if_neg e, ← List.getD_eq_getElem?_getD]
    exact h j (by omega)
theorem letters_word {l : List UInt8} {n : Nat} (hl : l.length = n) (h0 : 0 < n) (h : ∀ j, j < n → letterB (l.getD j 0) = true) : wordS l = decide ((n : Int) ≤ 24) := by
  have hall : ∀ x ∈ l, letterB x = true := by
    intro x hx
    obtain ⟨j, hj, rfl⟩ := List.getElem_of_mem hx
    have := h j (by omega)
    rwa [List.getD_eq_getElem?_getD, List.getElem?_eq_getElem hj] at this
  cases l with
  | nil => simp at hl; omega
  | cons b r =>
    have h1 := hall b (by simp)
    have h2 : r.all partB = true := List.all_eq_true.2 fun x hx => part_letter (hall x (by simp [hx]))
    simp only [wordS, h1, h2, Bool.and_true]
    rw [hl, decide_eq_decide]
    omega
theorem nums_le : ∀ x ∈ numsB, x.size ≤ 20 := by decide
theorem map_get {α β : Type} (f : α → β) {l : List α} {i : Nat} (h : i < l.length) : (l.map f)[i]? = some (f l[i]) := by
  rw [List.getElem?_map, List.getElem?_eq_getElem h]; rfl
set_option maxRecDepth 100000 in
set_option maxHeartbeats 4000000 in
theorem lexSmall_any (w : World) (hG : Glob w) :
    Calls Tryd.prog 6 #[] w fun e w' => e = .returned (.bool true) ∧ Below w.heap.size w w' := by
  have HA : Hid (∀ w, Glob w → _) := Lib.hid (fun (w : World) (h : Glob w) => awake_any w h)
  have HG := Lib.hid hG
  have HX : Hid (∀ (s : ByteArray) (w : World), s.size ≤ 9223372036854775807 → Glob w → _) := Lib.hid (fun (s : ByteArray) (w : World) (hs : s.size ≤ 9223372036854775807) (h : Glob w) => lexes_any s w hs h)
  have HW1 : Hid (∀ (s : ByteArray) (w : World), _) := Lib.hid (fun (s : ByteArray) (w : World) => pword_any s w)
  have HW2 : Hid (∀ (s : ByteArray) (w : World), Calls Tryd.prog 18 #[.string s] w fun e w' => e = .returned (.bool (wordS s.data.toList)) ∧ w = w') := Lib.hid (fun (s : ByteArray) (w : World) => word_any s w)
  clear hG
  go_enter Tryd.func6, Tryd.ntmps6
  go_wp2_with fail
  go_at_call 13
  refine (HX.out _ w (by decide) HG.out).mono ?_
  rintro e1 w1 ⟨rfl, hb1⟩
  have Hb1 := Lib.hid hb1
  clear hb1
  go_wp2_with fail
  go_loopw [0, 1, 2, 19, 20, 21, 22, 23, 24, 25, 26, 27, 28, 29, 30, 31, 32, 33, 34, 35, 36, 37, 38, 39, 40, 41, 42, 43, 44, 45] (fun _ t1 _ _ _ _ _ _ _ _ _ _ _ _ _ _ _ _ _ _ _ _ _ _ _ _ _ _ _ _ wr => ∃ k : Nat, k ≤ 65536 ∧ t1 = .int .i64 k ∧ Hid (Below w.heap.size w wr)) (fun _ t1 _ _ _ _ _ _ _ _ _ _ _ _ _ _ _ _ _ _ _ _ _ _ _ _ _ _ _ _ _ => 65536 - (intOf t1).toNat)
  case atStart => exact ⟨0, by omega, rfl, Hb1⟩
  case round =>
    obtain ⟨k, hk, rfl, Hb⟩ := hrel
    by_cases hlt : k < 65536
    · have hltI : (k : Int) < 65536 := by omega
      have Hlt := Lib.hid hlt
      have Hk := Lib.hid hk
      clear hlt hk
      obtain ⟨x, hx⟩ := u8_mk (c := (k : Int) % 256) (by omega) (by omega)
      obtain ⟨y, hy⟩ := u8_mk (c := (k : Int) / 256) (by omega) (by omega)
      have kc := conv_two wr x y _ _ hx hy
      have hS : (bstr [x, y]).size = 2 := by rw [← str_len, bstr_data]; rfl
      generalize bstr [x, y] = S at *
      clear hx hy
      have hS1 : ¬ S.size < 1 := by omega
      have HS := Lib.hid hS
      have HSm : Hid (S.size ≤ 9223372036854775807 ∧ (S.extract 0 1).size ≤ 9223372036854775807) := Lib.hid ⟨by omega, by rw [ByteArray.size_extract]; omega⟩
      clear hS
      go_wp2_with fail
      go_at_call 13
      refine (HX.out S _ HSm.out.1 (HG.out.below (Hb.out.alloc Hb.out.size _) HG.out.size)).mono ?_
      rintro e2 w2 ⟨rfl, hb2⟩
      have Hb2 := Lib.hid ((Hb.out.alloc Hb.out.size _).trans (hb2.mono (Hb.out.alloc Hb.out.size _).size))
      clear hb2
      go_wp2_with fail
      go_at_call 13
      refine (HX.out (S.extract 0 1) _ HSm.out.2 (HG.out.below Hb2.out HG.out.size)).mono ?_
      rintro e3 w3 ⟨rfl, hb3⟩
      have Hb3 := Lib.hid (Hb2.out.trans (hb3.mono Hb2.out.size))
      clear hb3
      go_wp2_with fail
      go_at_call 17
      refine (HW1.out S _).mono ?_
      rintro e4 w4 ⟨rfl, rfl⟩
      go_wp2_with fail
      go_at_call 18
      refine (HW2.out S _).mono ?_
      rintro e4 w4 ⟨rfl, rfl⟩
      go_wp2_with fail
      go_roundw
      case rel => exact ⟨k + 1, by have := Hlt.out; omega, by go_num, Hb3⟩
      case measure => have := Hlt.out; simp [intOf]; omega
    · have hltI : ¬ (k : Int) < 65536 := by omega
      clear hlt hk
      go_wp2_with fail
      obtain ⟨STR, hSTR, hST7⟩ : ∃ STR : ByteArray, ({ data := #[97, 48, 61, 38, 32, 10, 35] } : ByteArray) = STR ∧ 7 ≤ STR.size := ⟨_, rfl, by decide⟩
      rw [hSTR]
      clear hSTR
      go_loopw [0, 4, 5, 6, 7, 8, 46, 47, 48, 49, 50, 51, 52, 53, 54, 55, 56, 57, 58, 59, 60, 61, 62, 63, 64, 65, 66, 67, 68, 69, 70, 71, 72, 73] (fun _ t4 _ _ _ _ _ _ _ _ _ _ _ _ _ _ _ _ _ _ _ _ _ _ _ _ _ _ _ _ _ _ _ _ wr => ∃ k : Nat, k ≤ 16807 ∧ t4 = .int .i64 k ∧ Hid (Below w.heap.size w wr)) (fun _ t4 _ _ _ _ _ _ _ _ _ _ _ _ _ _ _ _ _ _ _ _ _ _ _ _ _ _ _ _ _ _ _ _ _ => 16807 - (intOf t4).toNat)
      case atStart => exact ⟨0, by omega, rfl, Hb⟩
      case round =>
        clear Hb hltI
        obtain ⟨k2, hk2, rfl, Hb⟩ := hrel
        by_cases hlt : k2 < 16807
        · have hltI : (k2 : Int) < 16807 := by omega
          have Hlt := Lib.hid hlt
          have Hk := Lib.hid hk2
          clear hlt hk2
          go_wp2_with fail
          obtain ⟨wo, rfl⟩ : ∃ wo : World, wo = wr := ⟨_, rfl⟩
          go_loopw [5, 6, 7, 51, 52, 53, 54, 55, 56, 57, 58, 59, 60, 61, 62, 63] (fun t5 t6 t7 _ _ _ _ _ _ _ _ _ _ _ _ _ wr => ∃ (m : Nat) (n : Nat) (l : List UInt8), m ≤ 5 ∧ t6 = .int .i64 m ∧ t7 = .int .i64 n ∧ (n : Int) ≤ 16807 ∧ l.length = m ∧ Hid (wr.ownsRow w.heap.size 5 1 t5 m (l.map u8v)) ∧ Hid (Below w.heap.size w wr)) (fun _ t6 _ _ _ _ _ _ _ _ _ _ _ _ _ _ _ => 5 - (intOf t6).toNat)
          case atStart => exact ⟨0, k2, [], by omega, rfl, rfl, by omega, rfl, Lib.hid (World.ownsRow_nil _ _ _ _), Hb⟩
          case round =>
            clear Hb
            obtain ⟨m, n, l, hm, rfl, rfl, hn1, hl, HO, Hb⟩ := hrel
            by_cases hlt : m < 5
            · obtain ⟨r, hr, hr7⟩ : ∃ r : Nat, (n : Int) % 7 = r ∧ r < STR.size := ⟨n % 7, by omega, by omega⟩
              have Hl := Lib.hid hl
              have hown := HO.out
              clear hl
              go_wp2_with (at_builtin; refine wpList_append_new rfl _ _ 36 rfl hown info_u8 Tryd.underlying36 rfl (by decide) rfl 1 1 rfl rfl rfl (by unfold maxLen; omega) (by omega) Hb.out.size ?_; intro v' w3 hown4 hg4 hb4; have Hown4 := Lib.hid hown4; have Hb4 := Lib.hid (Hb.out.trans hb4); clear hown hown4 hg4 hb4)
              go_roundw
              case rel => exact ⟨m + 1, n / 7, l ++ [STR[r]], by omega, by go_num, by go_num, by omega, by rw [List.length_append, Hl.out]; rfl, Lib.hid (by rw [List.map_append]; exact Hown4.out), Hb4⟩
              case measure => simp [intOf]; omega
            · obtain rfl : m = 5 := by omega
              rw [show ((5 : Nat) : Int) = 5 from rfl]
              obtain ⟨a5, c5, rfl, hc51, hc52⟩ := Sl.form (Sl.of_own HO.out)
              go_wp2_with fail
              go_loopw [0, 8, 64, 65, 66, 67, 68, 69, 70, 71, 72, 73] (fun _ t8 _ _ _ _ _ _ _ _ _ _ wr => ∃ q : Nat, 3 ≤ q ∧ q ≤ 6 ∧ t8 = .int .i64 q ∧ Hid (wr.ownsRow w.heap.size 5 1 (.slice a5 5 c5) 5 (l.map u8v)) ∧ Hid (Below w.heap.size w wr)) (fun _ t8 _ _ _ _ _ _ _ _ _ _ _ => 6 - (intOf t8).toNat)
              case atStart => exact ⟨3, by omega, by omega, rfl, HO, Hb⟩
              case round =>
                clear HO Hb
                obtain ⟨q, hq3, hq6, rfl, HO, Hb⟩ := hrel
                by_cases hq : q ≤ 5
                · have hqI : (q : Int) ≤ 5 := by omega
                  have hqc : q ≤ c5 := by omega
                  have kc := own_conv HO.out hl (by omega) q c5 hq
                  have hS : (bstr (l.take q)).size ≤ 9223372036854775807 := by rw [← str_len, bstr_data, List.length_take]; omega
                  generalize bstr (l.take q) = S at *
                  have HS := Lib.hid hS
                  clear hS
                  go_wp2_with fail
                  go_at_call 13
                  refine (HX.out S _ HS.out (HG.out.below Hb.out HG.out.size)).mono ?_
                  rintro e2 w2 ⟨rfl, hb2⟩
                  have HO2 := Lib.hid (own_below HO.out hb2 (Nat.le_refl _))
                  have Hb2 := Lib.hid (Hb.out.trans (hb2.mono Hb.out.size))
                  clear hb2
                  go_wp2_with fail
                  go_roundw
                  case rel => exact ⟨q + 1, by omega, by omega, by go_num, HO2, Hb2⟩
                  case measure => simp [intOf]; omega
                · obtain rfl : q = 6 := by omega
                  go_wp2_with fail
                  go_roundw
                  case rel => exact ⟨k2 + 1, by have := Hlt.out; omega, by go_num, Hb⟩
                  case measure => have := Hlt.out; simp [intOf]; omega
        · have hltI : ¬ (k2 : Int) < 16807 := by omega
          clear hlt hk2
          go_wp2_with fail
          obtain ⟨g, hg⟩ : ∃ g, wr.heap.size = g := ⟨_, rfl⟩
          have HO : Hid (OwnV (wr.alloc (.cells (numsB.map Value.string).toArray 9)) wr.heap.size 9 (numsB.map Value.string)) := Lib.hid (OwnV.new _ _ _)
          rw [show (numsB.map Value.string).toArray = #[.string { data := #[48] }, .string { data := #[48, 48] }, .string { data := #[48, 49] }, .string { data := #[57, 50, 50, 51, 51, 55, 50, 48, 51, 54, 56, 53, 52, 55, 55, 53, 56, 48, 54] }, .string { data := #[57, 50, 50, 51, 51, 55, 50, 48, 51, 54, 56, 53, 52, 55, 55, 53, 56, 48, 55] }, .string { data := #[57, 50, 50, 51, 51, 55, 50, 48, 51, 54, 56, 53, 52, 55, 55, 53, 56, 48, 56] }, .string { data := #[57, 50, 50, 51, 51, 55, 50, 48, 51, 54, 56, 53, 52, 55, 55, 53, 56, 49, 48] }, .string { data := #[49, 56, 52, 52, 54, 55, 52, 52, 48, 55, 51, 55, 48, 57, 53, 53, 49, 54, 49, 53] }, .string { data := #[49, 56, 52, 52, 54, 55, 52, 52, 48, 55, 51, 55, 48, 57, 53, 53, 49, 54, 49, 54] }, .string { data := #[57, 57, 57, 57, 57, 57, 57, 57, 57, 57, 57, 57, 57, 57, 57, 57, 57, 57, 57, 57] }, .string { data := #[49, 95] }, .string { data := #[49, 97] }, .string { data := #[48, 97] }, .string { data := #[48, 95] }] from rfl] at HO
          have Hb2 := Lib.hid (Hb.out.alloc Hb.out.size (.cells #[.string { data := #[48] }, .string { data := #[48, 48] }, .string { data := #[48, 49] }, .string { data := #[57, 50, 50, 51, 51, 55, 50, 48, 51, 54, 56, 53, 52, 55, 55, 53, 56, 48, 54] }, .string { data := #[57, 50, 50, 51, 51, 55, 50, 48, 51, 54, 56, 53, 52, 55, 55, 53, 56, 48, 55] }, .string { data := #[57, 50, 50, 51, 51, 55, 50, 48, 51, 54, 56, 53, 52, 55, 55, 53, 56, 48, 56] }, .string { data := #[57, 50, 50, 51, 51, 55, 50, 48, 51, 54, 56, 53, 52, 55, 55, 53, 56, 49, 48] }, .string { data := #[49, 56, 52, 52, 54, 55, 52, 52, 48, 55, 51, 55, 48, 57, 53, 53, 49, 54, 49, 53] }, .string { data := #[49, 56, 52, 52, 54, 55, 52, 52, 48, 55, 51, 55, 48, 57, 53, 53, 49, 54, 49, 54] }, .string { data := #[57, 57, 57, 57, 57, 57, 57, 57, 57, 57, 57, 57, 57, 57, 57, 57, 57, 57, 57, 57] }, .string { data := #[49, 95] }, .string { data := #[49, 97] }, .string { data := #[48, 97] }, .string { data := #[48, 95] }] 9))
          rw [hg] at HO
          rw [hg]
          clear Hb
          go_loopw [0, 10, 75, 76, 77, 78, 79, 80, 81, 82, 83, 84, 85, 86, 87, 88, 89, 90, 91, 92, 93, 94, 95, 96, 97, 98, 99, 100, 101] (fun _ t10 _ _ _ _ _ _ _ _ _ _ _ _ _ _ _ _ _ _ _ _ _ _ _ _ _ _ _ wr => ∃ q : Nat, q ≤ 14 ∧ t10 = .int .i64 q ∧ Hid (OwnV wr g 9 (numsB.map Value.string)) ∧ Hid (Below w.heap.size w wr)) (fun _ t10 _ _ _ _ _ _ _ _ _ _ _ _ _ _ _ _ _ _ _ _ _ _ _ _ _ _ _ _ => 14 - (intOf t10).toNat)
          case atStart => exact ⟨0, by omega, rfl, HO, Hb2⟩
          case round =>
            clear HO Hb2 hg
            obtain ⟨q, hq14, rfl, HO, Hb⟩ := hrel
            by_cases hq : q < 14
            · have hqI : (q : Int) < 14 := by omega
              have hd := OwnV.cell HO.out (map_get Value.string (l := numsB) (i := q) hq)
              have hsz := nums_le _ (List.getElem_mem (l := numsB) (n := q) hq)
              generalize numsB[q]'hq = T at *
              obtain ⟨X, hX, hXs⟩ : ∃ X, X = { data := #[45] } ++ T ++ { data := #[43] } ++ T ∧ X.size ≤ 9223372036854775807 := ⟨_, rfl, by
                have : ({ data := #[45] } ++ T ++ { data := #[43] } ++ T : ByteArray).size = 1 + T.size + 1 + T.size := by simp only [ByteArray.size_append]; rfl
                omega⟩
              have HXa : Hid (∀ w', Below wr.heap.size wr w' → Calls Tryd.prog 13 #[.string T] w' fun e w'' => e = .returned (.bool true) ∧ Below w'.heap.size w' w'') := Lib.hid (fun w' hb => HX.out T w' (by omega) (HG.out.below (Hb.out.trans (hb.mono Hb.out.size)) HG.out.size))
              have HXb : Hid (∀ w', Below wr.heap.size wr w' → Calls Tryd.prog 13 #[.string ({ data := #[45] } ++ T ++ { data := #[43] } ++ T)] w' fun e w'' => e = .returned (.bool true) ∧ Below w'.heap.size w' w'') := Lib.hid (fun w' hb => by rw [← hX]; exact HX.out X w' hXs (HG.out.below (Hb.out.trans (hb.mono Hb.out.size)) HG.out.size))
              clear hX hXs X
              go_wp2_with fail
              refine wp_region_seq (fun w' => Below wr.heap.size wr w') (by kernel_rfl) (by kernel_rfl) ((Below.refl _ _).drew) ?_
              repeat
                try simp only [Act.put, List.setIfInBounds_toArray, List.set_cons_succ, List.set_cons_zero]
                apply stepsSeq.cons
                · intro w' hb1
                  have Hb1' := Lib.hid hb1
                  have hd' := Below.keep hb1 hd
                  simp only [Act.put, List.setIfInBounds_toArray, List.set_cons_succ, List.set_cons_zero]
                  go_wp2_with (first | (go_at_call 13; ((with_reducible refine (HXa.out _ Hb1'.out).mono ?_); rintro e5 w5 ⟨rfl, hb2⟩)) | (go_at_call 13; ((with_reducible refine (HXb.out _ Hb1'.out).mono ?_); rintro e5 w5 ⟨rfl, hb2⟩)))
                  first | exact ⟨rfl, Hb1'.out⟩ | exact ⟨rfl, Hb1'.out.trans (hb2.mono Hb1'.out.size)⟩
              try simp only [Act.put, List.setIfInBounds_toArray, List.set_cons_succ, List.set_cons_zero]
              refine stepsSeq.nil ?_
              intro w' hb1
              have HO2 := Lib.hid (OwnV.below HO.out hb1 (Nat.le_refl _))
              have Hb2 := Lib.hid (Hb.out.trans (hb1.mono Hb.out.size))
              clear hb1 hd
              go_wp2_with fail
              go_roundw
              case rel => exact ⟨q + 1, by omega, by go_num, HO2, Hb2⟩
              case measure => simp [intOf]; omega
            · have hqI : ¬ (q : Int) < 14 := by omega
              clear HO
              go_wp2_with fail
              go_loopw [0, 11, 12, 13, 102, 103, 104, 105, 106, 107, 108, 109, 110, 111, 112, 113, 114, 115, 116, 117, 118, 119, 120, 121, 122, 123, 124, 125, 126, 127, 128, 129, 130, 131, 132, 133, 134, 135, 136, 137, 138, 139, 140] (fun _ t11 _ _ _ _ _ _ _ _ _ _ _ _ _ _ _ _ _ _ _ _ _ _ _ _ _ _ _ _ _ _ _ _ _ _ _ _ _ _ _ _ _ wr => ∃ q : Nat, 23 ≤ q ∧ q ≤ 27 ∧ t11 = .int .i64 q ∧ Hid (Below w.heap.size w wr)) (fun _ t11 _ _ _ _ _ _ _ _ _ _ _ _ _ _ _ _ _ _ _ _ _ _ _ _ _ _ _ _ _ _ _ _ _ _ _ _ _ _ _ _ _ _ => 27 - (intOf t11).toNat)
              case atStart => exact ⟨23, by omega, by omega, rfl, Hb⟩
              case round =>
                clear Hb
                obtain ⟨n, hn23, hn27, rfl, Hb⟩ := hrel
                by_cases hn : n ≤ 26
                · have hnI : (n : Int) ≤ 26 := by omega
                  have hmk := mk_u8 n (by omega)
                  have HO : Hid (OwnV (wr.alloc (.cells (List.replicate n (Value.int .u8 0)).toArray 5)) wr.heap.size 5 ((List.replicate n (0 : UInt8)).map u8v)) := Lib.hid (by rw [List.map_replicate]; exact OwnV.new _ _ _)
                  have Hb2 : Hid (Below w.heap.size w (wr.alloc (.cells (List.replicate n (Value.int .u8 0)).toArray 5))) := Lib.hid (Hb.out.alloc Hb.out.size _)
                  have hgB := Hb.out.size
                  go_wp2_with fail
                  clear hmk
                  obtain ⟨g, hg⟩ : ∃ g, wr.heap.size = g := ⟨_, rfl⟩
                  rw [hg] at HO hgB
                  rw [hg]
                  clear Hb hg
                  go_loopw [13, 108, 109, 110, 111, 112, 113, 114, 115, 116, 117, 118, 119, 120] (fun t13 _ _ _ _ _ _ _ _ _ _ _ _ _ wr => ∃ (i : Nat) (l : List UInt8), i ≤ n ∧ t13 = .int .i64 i ∧ l.length = n ∧ Hid (∀ j, j < i → letterB (l.getD j 0) = true) ∧ Hid (OwnV wr g 5 (l.map u8v)) ∧ Hid (Below w.heap.size w wr)) (fun t13 _ _ _ _ _ _ _ _ _ _ _ _ _ _ => n - (intOf t13).toNat)
                  case atStart => exact ⟨0, _, by omega, rfl, List.length_replicate, Lib.hid (fun j hj => by omega), Lib.hid (by simpa using HO.out), Lib.hid (by simpa using Hb2.out)⟩
                  case round =>
                    clear HO Hb2
                    obtain ⟨i, l, hi, rfl, hl, Hlet, HO, Hb⟩ := hrel
                    have Hl := Lib.hid hl
                    by_cases hin : i < n
                    · have hinI : (i : Int) < (n : Int) := by omega
                      have cg := HO.out.cell (map_get u8v (l := l) (i := i) (by omega))
                      have fg := HO.out.free i
                      have hr : ((i : Int) + (n : Int)) % 3 = 0 ∨ ((i : Int) + (n : Int)) % 3 = 1 ∨ ((i : Int) + (n : Int)) % 3 = 2 := by omega
                      generalize u8v l[i] = old at *
                      clear hl
                      rcases hr with hr | hr | hr
                      all_goals
                        go_wp2_with fail
                        go_roundw
                        case rel => first | exact ⟨i + 1, l.set i 97, by omega, by go_num, by rw [List.length_set]; exact Hl.out, Lib.hid (letters_set (by rw [Hl.out]; exact hin) Hlet.out (by decide)), Lib.hid (by rw [List.map_set]; exact HO.out.set i (u8v 97)), Lib.hid (Hb.out.setCell hgB _)⟩ | exact ⟨i + 1, l.set i 90, by omega, by go_num, by rw [List.length_set]; exact Hl.out, Lib.hid (letters_set (by rw [Hl.out]; exact hin) Hlet.out (by decide)), Lib.hid (by rw [List.map_set]; exact HO.out.set i (u8v 90)), Lib.hid (Hb.out.setCell hgB _)⟩ | exact ⟨i + 1, l.set i 95, by omega, by go_num, by rw [List.length_set]; exact Hl.out, Lib.hid (letters_set (by rw [Hl.out]; exact hin) Hlet.out (by decide)), Lib.hid (by rw [List.map_set]; exact HO.out.set i (u8v 95)), Lib.hid (Hb.out.setCell hgB _)⟩
                        case measure => simp [intOf]; omega
                    · obtain rfl : i = n := by omega
                      have hl0 := Hl.out
                      have HC : Hid (∀ w', Below wr.heap.size wr w' → (convert 36 9 (.slice (some ⟨g, 0, none⟩) i i)).run Tryd.prog w' = .ok (.string (bstr l)) w') := Lib.hid (fun w' hb => by
                        have h := own_conv ((OwnV.below HO.out hb (Nat.le_refl _)).own (n := i) (cap := i) hgB (by rw [List.length_map]; exact hl0) rfl (by unfold maxLen; omega)) hl0 (by omega) i i (Nat.le_refl _)
                        rw [List.take_of_length_le (by omega)] at h
                        exact h)
                      have hw := letters_word hl0 (by omega) Hlet.out
                      have hS : (bstr l).size = i := by rw [← str_len, bstr_data]; exact hl0
                      have hw2 : wordS (bstr l).data.toList = decide ((i : Int) ≤ 24) := by rw [bstr_data]; exact hw
                      generalize bstr l = S at *
                      obtain ⟨X, hX, hXs⟩ : ∃ X, X = { data := #[40] } ++ S ++ { data := #[57, 41] } ∧ X.size ≤ 9223372036854775807 := ⟨_, rfl, by
                        have : ({ data := #[40] } ++ S ++ { data := #[57, 41] } : ByteArray).size = 1 + S.size + 2 := by simp only [ByteArray.size_append]; rfl
                        omega⟩
                      have HXb : Hid (∀ (w : World), Glob w → Calls Tryd.prog 13 #[.string ({ data := #[40] } ++ S ++ { data := #[57, 41] })] w fun e w'' => e = .returned (.bool true) ∧ Below w.heap.size w w'') := Lib.hid (fun w hG => by rw [← hX]; exact HX.out X w hXs hG)
                      have HS : Hid (S.size ≤ 9223372036854775807) := Lib.hid (by omega)
                      have hsum : 1 + S.size + 2 ≤ 9223372036854775807 := by omega
                      have HWd : Hid (∀ w : World, _) := Lib.hid (fun w : World => HW1.out S w)
                      rw [hw2] at HWd
                      have kc := HC.out wr (Below.refl _ _)
                      clear hX hXs X hl hw hw2 hS hl0
                      go_wp2_with fail
                      go_at_call 13
                      refine (HX.out S _ HS.out (HG.out.below Hb.out HG.out.size)).mono ?_
                      rintro e2 w2 ⟨rfl, hb2⟩
                      have Hb2 := Lib.hid (Hb.out.trans (hb2.mono Hb.out.size))
                      have Hc2 := Lib.hid hb2
                      replace kc := HC.out w2 hb2
                      clear hb2
                      go_wp2_with fail
                      go_at_call 13
                      refine (HXb.out _ (HG.out.below Hb2.out HG.out.size)).mono ?_
                      rintro e3 w3 ⟨rfl, hb3⟩
                      have Hb3 := Lib.hid (Hb2.out.trans (hb3.mono Hb2.out.size))
                      replace kc := HC.out w3 (Hc2.out.trans (hb3.mono Hc2.out.size))
                      clear hb3
                      go_wp2_with fail
                      go_at_call 17
                      refine (HWd.out _).mono ?_
                      rintro e4 w4 ⟨rfl, rfl⟩
                      clear kc
                      go_wp2_with fail
                      go_roundw
                      case rel => exact ⟨i + 1, by omega, by omega, by go_num, Hb3⟩
                      case measure => simp [intOf]; omega
                · have hnI : ¬ (n : Int) ≤ 26 := by omega
                  go_wp2_with fail
                  go_loopw [0, 14, 15, 16, 141, 142, 143, 144, 145, 146, 147, 148, 149, 150, 151, 152, 153, 154, 155, 156, 157, 158, 159, 160, 161, 162] (fun _ t14 _ _ _ _ _ _ _ _ _ _ _ _ _ _ _ _ _ _ _ _ _ _ _ _ wr => ∃ q : Nat, 16383 ≤ (q : Int) ∧ (q : Int) ≤ 16386 ∧ t14 = .int .i64 q ∧ Hid (Below w.heap.size w wr)) (fun _ t14 _ _ _ _ _ _ _ _ _ _ _ _ _ _ _ _ _ _ _ _ _ _ _ _ _ => 16386 - (intOf t14).toNat)
                  case atStart => exact ⟨16383, by omega, by omega, rfl, Hb⟩
                  case round =>
                    clear Hb hnI
                    obtain ⟨n2, hm1, hm2, rfl, Hb⟩ := hrel
                    by_cases hnI : (n2 : Int) ≤ 16385
                    · have hmk := mk_u8 n2 (by omega)
                      have HO : Hid (OwnV (wr.alloc (.cells (List.replicate n2 (Value.int .u8 0)).toArray 5)) wr.heap.size 5 ((List.replicate n2 (0 : UInt8)).map u8v)) := Lib.hid (by rw [List.map_replicate]; exact OwnV.new _ _ _)
                      have Hb2 : Hid (Below w.heap.size w (wr.alloc (.cells (List.replicate n2 (Value.int .u8 0)).toArray 5))) := Lib.hid (Hb.out.alloc Hb.out.size _)
                      have hgB := Hb.out.size
                      go_wp2_with fail
                      clear hmk
                      obtain ⟨g, hg⟩ : ∃ g, wr.heap.size = g := ⟨_, rfl⟩
                      rw [hg] at HO hgB
                      rw [hg]
                      clear Hb hg
                      go_loopw [16, 147, 148, 149, 150, 151, 152, 153, 154, 155, 156, 157, 158] (fun t16 _ _ _ _ _ _ _ _ _ _ _ _ wr => ∃ (i : Nat) (l : List UInt8), (i : Int) ≤ (n2 : Int) ∧ t16 = .int .i64 i ∧ Hid (l.length = n2) ∧ Hid (OwnV wr g 5 (l.map u8v)) ∧ Hid (Below w.heap.size w wr)) (fun t16 _ _ _ _ _ _ _ _ _ _ _ _ _ => n2 - (intOf t16).toNat)
                      case atStart => exact ⟨0, _, by omega, rfl, Lib.hid List.length_replicate, Lib.hid (by simpa using HO.out), Lib.hid (by simpa using Hb2.out)⟩
                      case round =>
                        clear HO Hb2
                        obtain ⟨i, l, hi, rfl, Hl, HO, Hb⟩ := hrel
                        by_cases hin : (i : Int) < (n2 : Int)
                        · have cg := HO.out.cell (map_get u8v (l := l) (i := i) (by have := Hl.out; omega))
                          have fg := HO.out.free i
                          have hr : ((i : Int) / 8000) % 2 = 0 ∨ ((i : Int) / 8000) % 2 = 1 := by omega
                          have hi63 : (i : Int) ≤ 20000 := by omega
                          generalize u8v (l[i]'(by have := Hl.out; omega)) = old at *
                          rcases hr with hr | hr
                          all_goals
                            go_wp2_with fail
                            go_roundw
                            case rel => first | exact ⟨i + 1, l.set i 32, by omega, by go_num, Lib.hid (by rw [List.length_set]; exact Hl.out), Lib.hid (by rw [List.map_set]; exact HO.out.set i (u8v 32)), Lib.hid (Hb.out.setCell hgB _)⟩ | exact ⟨i + 1, l.set i 59, by omega, by go_num, Lib.hid (by rw [List.length_set]; exact Hl.out), Lib.hid (by rw [List.map_set]; exact HO.out.set i (u8v 59)), Lib.hid (Hb.out.setCell hgB _)⟩
                            case measure => simp [intOf]; omega
                        · obtain rfl : i = n2 := by omega
                          have hl0 := Hl.out
                          have kc : (convert 36 9 (.slice (some ⟨g, 0, none⟩) i i)).run Tryd.prog wr = .ok (.string (bstr l)) wr := by
                            have h := own_conv (HO.out.own (n := i) (cap := i) hgB (by rw [List.length_map]; exact hl0) rfl (by unfold maxLen; omega)) hl0 (by omega) i i (Nat.le_refl _)
                            rw [List.take_of_length_le (by omega)] at h
                            exact h
                          have hS : (bstr l).size = i := by rw [← str_len, bstr_data]; exact hl0
                          generalize bstr l = S at *
                          have HS : Hid (S.size ≤ 9223372036854775807) := Lib.hid (by omega)
                          clear hS hl0
                          go_wp2_with fail
                          go_at_call 13
                          refine (HX.out S _ HS.out (HG.out.below Hb.out HG.out.size)).mono ?_
                          rintro e2 w2 ⟨rfl, hb2⟩
                          have Hb2 := Lib.hid (Hb.out.trans (hb2.mono Hb.out.size))
                          clear hb2 kc
                          go_wp2_with fail
                          go_roundw
                          case rel => exact ⟨i + 1, by omega, by omega, by go_num, Hb2⟩
                          case measure => simp [intOf]; omega
                    · go_wp2_with fail
                      go_at_call 14
                      refine (HA.out _ (HG.out.below Hb.out HG.out.size)).mono ?_
                      rintro e2 w2 ⟨rfl, hb2⟩
                      have Hb2 := Lib.hid (Hb.out.trans (hb2.mono Hb.out.size))
                      go_wp2_with fail
                      go_ret
                      exact ⟨rfl, Hb2.out⟩
end Go.Proofs.YtcichbdkdbnmiaaDoor
