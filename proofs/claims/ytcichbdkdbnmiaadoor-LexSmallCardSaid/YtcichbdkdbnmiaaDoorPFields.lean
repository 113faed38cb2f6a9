/- The library's strings.FieldsSeq, at the string of all signs: the iterator hands on one sign after the other. -/
import Derived.Test.YtcichbdkdbnmiaaDoorSignM
import Derived.Test.YtcichbdkdbnmiaaDoorGlob
import Derived.Test.YtcichbdkdbnmiaaDoorRLex
import Derived.Test.YtcichbdkdbnmiaaDoorRegionIn
import Derived.Shelf.Abstract
import Derived.Shelf.RegionOpen
namespace Go.Proofs.YtcichbdkdbnmiaaDoor
open Go.RowKit Go.Shelf
attribute [local go_sem] Oper.semAt_some

def sigS : ByteArray := bstr sigL
theorem sigS_size : sigS.size = 51 := by rw [← str_len]; rfl
theorem sigS_get (i : Nat) (h : i < sigS.size) : sigS[i] = sigL.getD i 0 := by
  rw [← str_get sigS i h]
  have hl : sigS.data.toList = sigL := by unfold sigS bstr; simp
  rw [List.getD_eq_getElem?_getD, List.getElem?_eq_getElem (by rw [← hl, str_len]; exact h)]
  simp only [hl, Option.getD_some]
theorem sigS_cut (a b : Nat) : sigS.extract a b = bstr ((sigL.drop a).take (b - a)) := by
  rw [bstr_extract]
  have hl : sigS.data.toList = sigL := by unfold sigS bstr; simp
  rw [hl]
set_option maxRecDepth 100000 in
set_option maxHeartbeats 1000000 in
theorem fieldsSeq_in (n : Nat) (s : ByteArray) (w : World) :
    CallsIn Fence.wide n Tryd.prog 43 #[.string s] w fun e w' => e = .returned (.func (.func 53) #[] #[.pointer (some ⟨w.heap.size, 0, none⟩)]) ∧ w' = w.alloc (.cells #[.string s] 9) := by
  refine callsIn_of_wp Tryd.func43 rfl trivial ?_ rfl
  simp only [Tryd.ntmps43, List.size_toArray, List.length_cons, List.length_nil, Nat.reduceAdd, Nat.reduceSub, Array.replicate_succ, Array.replicate_zero, List.push_toArray, List.append_toArray, List.nil_append, List.cons_append]
  gi_wp2
  go_ret
  exact ⟨rfl, rfl⟩
theorem take_next {k : Nat} (h : k < 23) : (List.finRange 23).take k ++ [⟨k, h⟩] = (List.finRange 23).take (k + 1) := by
  rw [List.take_succ_eq_append_getElem (by simpa using h)]
  simp
set_option maxRecDepth 100000 in
set_option maxHeartbeats 2000000 in
theorem fields1_in (n : Nat) (hn : 1 ≤ n) (l Bn n₀ : Nat) (hB : Bn < n₀) (J Jx : List (Fin 23) → World → Prop)
    (hY : ∀ pre x W, J pre W → pre.length < 23 → YieldAt Fence.wide (n - 1) Tryd.prog l #[.string (bstr (sg x.val))] W fun e W' =>
      (e = .returned (.bool true) ∧ J (pre ++ [x]) W' ∧ Below n₀ W W') ∨ (e = .returned (.bool false) ∧ Jx (pre ++ [x]) W'))
    (W : World) (hG : Glob W) (hn0 : glB ≤ n₀) (hBn : W.cell? ⟨Bn, 0, none⟩ = some (.string sigS)) (h0 : J [] W) :
    CallsIn Fence.wide n Tryd.prog 53 #[.func (.yield l) #[] #[], .pointer (some ⟨Bn, 0, none⟩)] W fun e W' => (∃ v, e = .returned v) ∧
      ((∃ ys, ys = List.finRange 23 ∧ J ys W') ∨ (∃ pre, pre <+: List.finRange 23 ∧ Jx pre W')) := by
  have Hsz := Lib.hid sigS_size
  have Hget := Lib.hid sigS_get
  have Hcut := Lib.hid sigS_cut
  generalize sigS = s at *
  have hs51 : s.size ≤ 51 := by rw [Hsz.out]; omega
  have hs51' : 51 ≤ s.size := by rw [Hsz.out]; omega
  have HG := Lib.hid hG
  have HBn := Lib.hid hBn
  clear hG
  refine callsIn_of_wp Tryd.func53 rfl trivial ?_ rfl
  simp only [Tryd.ntmps53, List.size_toArray, List.length_cons, List.length_nil, Nat.reduceAdd, Nat.reduceSub, Array.replicate_succ, Array.replicate_zero, List.push_toArray, List.append_toArray, List.nil_append, List.cons_append]
  gi_wp2
  clear hBn
  gi_loopw [3, 4, 5, 6, 7, 8, 9, 10, 11, 12, 13, 14, 15, 16, 17, 18, 19, 20, 21, 22, 23, 24, 25, 26, 27, 28, 29, 30, 31, 32, 33, 34, 35, 36, 37, 38, 39, 40, 41, 42, 43, 44, 45, 46, 47, 48] (fun t3 t4 _ _ _ _ _ _ _ _ _ _ _ _ _ _ _ _ _ _ _ _ _ _ _ _ _ _ _ _ _ _ _ _ _ _ _ _ _ _ _ _ _ _ _ _ wr => ∃ (i : Nat) (st : Int), i ≤ 51 ∧ t4 = .int .i64 i ∧ t3 = .int .i64 st ∧ Hid (st = stT i) ∧ J ((List.finRange 23).take (cntT i)) wr ∧ Below n₀ W wr) (fun _ t4 _ _ _ _ _ _ _ _ _ _ _ _ _ _ _ _ _ _ _ _ _ _ _ _ _ _ _ _ _ _ _ _ _ _ _ _ _ _ _ _ _ _ _ _ _ => 51 - (intOf t4).toNat)
  case atStart => exact ⟨0, -1, by omega, rfl, rfl, Lib.hid rfl, h0, Below.refl _ _⟩
  case round =>
    obtain ⟨i, st, hi, rfl, rfl, Hst, hJ, hb⟩ := hrel
    have hc := (hb.cell (p := ⟨Bn, 0, none⟩) hB).trans HBn.out
    have Hb := Lib.hid hb
    have HG1 := Lib.hid (HG.out.below hb hn0)
    have Htb := Lib.hid (tab_bound ⟨i, by omega⟩)
    clear hb
    by_cases hlt : i < 51
    · have hlt' : i < s.size := by omega
      have Hsp := Lib.hid (tab_space ⟨i, hlt⟩)
      have Hsm := Lib.hid (tab_small ⟨i, hlt⟩)
      have Hgi := Lib.hid (Hget.out i hlt')
      have hb1 : s[i].toNat < 128 := by rw [Hgi.out]; exact Hsm.out.1
      have hb2 : ¬ ((s[i].toNat : Int) ≥ 128) := by omega
      have hcell := HG1.out.spaceCell s[i].toNat
      by_cases h32 : s[i].toNat = 32
      · have e32 : sigL.getD i 0 = 32 := by rw [← Hgi.out]; exact UInt8.toNat_inj.1 (by simpa using h32)
        obtain ⟨k0, k1, k2, k3⟩ := Hsp.out e32
        have hcell' : wr.cell? ⟨0, s[i].toNat, none⟩ = some (.int .u8 1) := by rw [hcell, h32]; rfl
        clear hcell
        obtain ⟨m, rfl⟩ : ∃ m : Nat, st = m := ⟨st.toNat, by have := Hst.out; simp only at k0; omega⟩
        have hm : (stT i).toNat = m := by have := Hst.out; omega
        have hmi : m ≤ i := by rw [← hm]; exact k1
        have hcut : s.extract m i = bstr (sg (cntT i)) := by rw [Hcut.out, ← k3]; simp only [hm]
        have Hc1 : Hid (cntT (i + 1) = cntT i + 1) := Lib.hid (by rw [cntT, if_pos e32])
        have Hs1 : Hid (stT (i + 1) = -1) := Lib.hid (by rw [stT, if_pos e32])
        have hk23 : cntT i < 23 := by simp only at k2; omega
        obtain ⟨fn, tmps, assign, body, hy, hR⟩ := hY _ ⟨cntT i, hk23⟩ wr hJ (by rw [List.length_take]; simp; omega)
        dsimp only at hy
        rw [← hcut] at hy
        clear hcut k0 k1 k2 k3 hm e32 hJ h32
        gi_wp2
        refine hR.mono ?_
        rintro e W3 (⟨rfl, hJ3, hk3⟩ | ⟨rfl, hJx3⟩)
        · have Hk3 := Lib.hid hk3
          clear hk3
          gi_wp2
          go_roundw
          case rel => exact ⟨i + 1, -1, by omega, by go_num, rfl, Lib.hid (by rw [Hs1.out]), by rw [Hc1.out, ← take_next hk23]; exact hJ3, Hb.out.trans Hk3.out⟩
          case measure => simp [intOf]; omega
        · gi_wp2
          refine bodyPost_ret (results_none rfl _ _ _) rfl ?_
          refine ⟨⟨_, rfl⟩, .inr ⟨_, ?_, hJx3⟩⟩
          rw [take_next hk23]
          exact List.take_prefix _ _
      · have hne : ¬ sigL.getD i 0 = 32 := by rw [← Hgi.out]; intro e; exact h32 (by rw [e]; rfl)
        have hcell' : wr.cell? ⟨0, s[i].toNat, none⟩ = some (.int .u8 0) := by
          have h9 := Hsm.out.2 (by rw [← Hgi.out]; exact h32)
          rw [← Hgi.out] at h9
          rw [hcell]
          have : ∀ j : Nat, j < 128 → (j < 9 ∨ 33 ≤ j) → (spaceTab.map fun z => Value.int .u8 z)[j]? = some (.int .u8 0) := by
            intro j hj hj2
            simp only [spaceTab, List.map_map, List.getElem?_map, List.getElem?_range (show j < 256 by omega), Option.map_some, Function.comp]
            rw [if_neg (by omega)]
          exact this _ hb1 h9
        clear hcell
        have Hc1 : Hid (cntT (i + 1) = cntT i) := Lib.hid (by rw [cntT, if_neg hne])
        by_cases hst : st < 0
        · have Hs1 : Hid (stT (i + 1) = i) := Lib.hid (by rw [stT, if_neg hne, if_pos (by rw [← Hst.out]; exact hst)])
          clear hne
          gi_wp2
          go_roundw
          case rel => exact ⟨i + 1, i, by omega, by go_num, rfl, Lib.hid (by rw [Hs1.out]), by rw [Hc1.out]; exact hJ, Hb.out⟩
          case measure => simp [intOf]; omega
        · have Hs1 : Hid (stT (i + 1) = st) := Lib.hid (by rw [stT, if_neg hne, if_neg (by rw [← Hst.out]; exact hst), Hst.out])
          have hst' : 0 ≤ st := by omega
          clear hne
          gi_wp2
          go_roundw
          case rel => exact ⟨i + 1, st, by omega, by go_num, rfl, Lib.hid (by rw [Hs1.out]), by rw [Hc1.out]; exact hJ, Hb.out⟩
          case measure => simp [intOf]; omega
    · obtain rfl : i = 51 := by omega
      have hle : ¬ 51 < s.size := by omega
      have hst : st = 50 := by rw [Hst.out]; exact tab_last.1
      subst hst
      have hcut : s.extract 50 s.size = bstr (sg 22) := by rw [Hcut.out, ← tab_last.2.2, Hsz.out]; rfl
      have hJ' : J ((List.finRange 23).take 22) wr := by have := hJ; rw [tab_last.2.1] at this; exact this
      obtain ⟨fn, tmps, assign, body, hy, hR⟩ := hY _ ⟨22, by omega⟩ wr hJ' (by rw [List.length_take]; simp)
      dsimp only at hy
      rw [← hcut] at hy
      clear hcut hJ hJ'
      gi_wp2
      refine hR.mono ?_
      rintro e W3 (⟨rfl, hJ3, hk3⟩ | ⟨rfl, hJx3⟩)
      all_goals
        gi_wp2
        refine bodyPost_end (results_none rfl _ _ _) rfl ?_
      · refine ⟨⟨_, rfl⟩, .inl ⟨_, ?_, hJ3⟩⟩
        rw [take_next (by omega)]
        rfl
      · refine ⟨⟨_, rfl⟩, .inr ⟨_, ?_, hJx3⟩⟩
        rw [take_next (by omega)]
        exact List.take_prefix _ _
theorem fields_stops (n : Nat) (hn : 1 ≤ n) (Bn : Nat) (w : World) (hG : Glob w) (hBn : w.cell? ⟨Bn, 0, none⟩ = some (.string sigS)) (hlt : Bn < w.heap.size) :
    SeqStopsK Fence.wide n Tryd.prog 53 #[.pointer (some ⟨Bn, 0, none⟩)] (fun x : Fin 23 => #[Value.string (bstr (sg x.val))]) (Below w.heap.size) (fun ys => ys = List.finRange 23) (fun pre => pre <+: List.finRange 23) 23 w :=
  fun l J Jx W hW _ _ hY h0 => fields1_in n hn l Bn w.heap.size hlt J Jx hY W (hG.below hW hG.size) hG.size ((hW.cell (p := ⟨Bn, 0, none⟩) hlt).trans hBn) h0
end Go.Proofs.YtcichbdkdbnmiaaDoor
