/- What order.Ready gives; no condition but that the arguments read as systems and ints. -/
import Derived.Test.YtbcfanfnnmijdaaStages
namespace Go.Proofs.Ytbcfanfnnmijdaa
open Go.RowKit

/-- may system i run when hv says how often each was done -/
def rdy (l : List Sys) (hv : Int → Int) (i : Nat) : Bool := ((List.range i).all fun k => !cfl l k i || hv k != 0) && hv i == 0

set_option maxHeartbeats 400000 in
theorem ready1_any (l : List Sys) (lv : Value) (i pl ph bm n : Nat) (has : Int → Bool) (hv : Int → Int) (w : World) (hi : i < l.length) (h1 : w.cell? ⟨pl, 0, none⟩ = some lv) (hS : Syss w l lv) (h3 : w.cell? ⟨ph, 0, none⟩ = some (.map (some bm))) (hM : IMap w bm n has hv) :
    Calls Try.prog 29 #[.int .i64 i, .pointer (some ⟨pl, 0, none⟩), .pointer (some ⟨ph, 0, none⟩)] w fun e w' => e = .returned (.bool (rdy l hv i)) ∧ Below w.heap.size w w' := by
  obtain ⟨a, cap, rfl, hlc, hcm⟩ := hS.form
  have HS := Lib.hid hS
  clear hS
  go_enter Try.func29, Try.ntmps29
  go_wp2_with (first | (go_at_call 30; refine (needs_any l _ i hi _ HS.out).mono ?_; rintro e w2 ⟨nb, rfl, hnb, ⟨D, hD1, hD2, hD3⟩, hb2⟩) | (at_range; refine wpList_range_own _ rfl _ 58 rfl 3 3 keyed Try.underlying58 _ nb i D rfl hD1 ?_; intro w3 hrg0 hg3 hs3))
  go_frame
  have hb3 : Below w.heap.size w w3 := hb2.grown hg3 hb2.size (by simp)
  have hsz : w.heap.size ≤ w2.heap.size := hb2.size
  have HD2 := Lib.hid hD2
  clear hb2 hD1 hg3 hs3 hD2 hD3
  go_loopw [4, 5, 10, 11, 12, 13, 14, 15, 16, 17] (fun _ _ _ _ _ _ _ _ _ _ wr => ∃ (left : Lit → Bool) (cnt : Nat), wr.ranges Try.prog 3 (plainElem Try.prog 3) nb w2.heap.size i D left cnt ∧ (∀ j : Nat, j < i → cfl l j i = true → left (.int .i64 (j : Int)) = false → hv j ≠ 0) ∧ Below w.heap.size w wr) (fun _ _ _ _ _ _ _ _ _ _ wr => wr.rangeLeft nb w2.heap.size)
  case atStart => exact ⟨_, _, hrg0, fun j hj hc hf => by rw [HD2.out] at hf; simp [needB, hj, hc] at hf, hb3⟩
  case round =>
    clear hb3 hrg0
    obtain ⟨left, cnt, hrg, hI, hb⟩ := hrel
    have hM1 := hM.below hb (Nat.le_refl _)
    have h31 : wr.cell? ⟨ph, 0, none⟩ = some (.map (some bm)) := Below.keep hb h3
    have HI := Lib.hid hI
    have Hrg := Lib.hid hrg
    clear hI
    go_wp2_with (at_next; refine wpList_next_ranges_ii _ rfl _ rfl 3 3 .i64 .i64 keyed Try.underlying3 Try.underlying3 nb w2.heap.size i _ _ _ rfl hrg ?_ ?_)
    · intro _ hl0
      have hall : ((List.range i).all fun k => !cfl l k i || hv k != 0) = true := by
        rw [List.all_eq_true]
        intro k hk
        by_cases hc : cfl l k i = true
        · have := HI.out k (by simpa using hk) hc (hl0 _); simp [this]
        · simp [hc]
      have Hall := Lib.hid hall
      clear hall hl0 hrg
      go_wp2_with (at_lookup; refine wpList_imap_lookup rfl _ _ rfl hM1 rfl i rfl (wf_i64 (by omega) (by omega)) ?_; intro hwf)
      go_ret
      exact ⟨retb (by unfold rdy; rw [Hall.out]; rfl), hb⟩
    · intro x c w4 cnt1 hwx hwc hlx hat hrg1 hlt1 hg4 hs4 hen
      have hx := HD2.out x
      rw [Maps.has_true_of_atKey hat] at hx
      have hx2 : 0 ≤ x ∧ x < i ∧ cfl l x.toNat i = true := by simpa [needB] using hx.symm
      obtain ⟨hx3, hx4, hx5⟩ := hx2
      obtain ⟨j, rfl⟩ := Int.eq_ofNat_of_zero_le hx3
      rw [Int.toNat_natCast] at hx5
      have hj : j < i := by omega
      have hb4 : Below w.heap.size w w4 := hb.grown hg4 hb.size (by simp; omega)
      have hM4 := hM.below hb4 (Nat.le_refl _)
      have h34 : w4.cell? ⟨ph, 0, none⟩ = some (.map (some bm)) := Below.keep hb4 h3
      have Hrg1 := Lib.hid hrg1
      have Hx5 := Lib.hid hx5
      clear hrg hrg1 hx5 hx hat hlx hwc hg4 hs4 hM1 h31
      go_wp2_with (at_lookup; refine wpList_imap_lookup rfl _ _ rfl hM4 rfl j rfl (wf_i64 (by omega) (by omega)) ?_; intro hwf)
      · have h0 : (hv j == 0) = true := by assumption
        go_ret
        refine ⟨retb ?_, hb4⟩
        have : ((List.range i).all fun k => !cfl l k i || hv k != 0) = false := by
          rw [List.all_eq_false]
          exact ⟨j, by simpa using hj, by simp [Hx5.out]; simpa using h0⟩
        unfold rdy; rw [this]; rfl
      · have h0 : (hv j == 0) = false := by assumption
        go_roundw
        case rel =>
          refine ⟨_, cnt1, Hrg1.out, fun q hq hc hf => ?_, hb4⟩
          by_cases e : q = j
          · subst e; simpa using h0
          · refine HI.out q hq hc ?_
            have hsk : (Lit.int .i64 (q : Int)).sameKey (.int .i64 (j : Int)) = false := by simp [Lit.sameKey]; omega
            rw [hsk] at hf
            simpa using hf
        case measure => rw [World.ranges.left_eq Hrg1.out, World.ranges.left_eq Hrg.out]; exact hlt1

/-- does a list of numbers name systems, none twice -/
def doneOk (n : Nat) (done : List Int) : Bool := decide done.Nodup && done.all fun x => decide (0 ≤ x) && decide (x < n)
def cnt (done : List Int) (x : Int) : Int := if x ∈ done then 1 else 0
/-- what Ready returns -/
def readyR (l : List Sys) (done : List Int) : List Int × Int := if validS l && doneOk l.length done then (pick (rdy l (cnt done)) l.length, 0) else ([], 2)
theorem cnt_snoc (done : List Int) (x k : Int) : cnt (done ++ [x]) k = if k = x then 1 else cnt done k := by
  unfold cnt
  by_cases h : k = x
  · subst h; simp
  · by_cases h2 : k ∈ done <;> simp [h, h2]
theorem doneOk_dup {n : Nat} {done : List Int} {k : Nat} (hk : k < done.length) (h : done[k] ∈ done.take k) : doneOk n done = false := by
  have hn : ¬ done.Nodup := by
    intro hn
    rw [← List.take_append_drop k done, List.nodup_append] at hn
    exact hn.2.2 _ h _ (by rw [List.drop_eq_getElem_cons hk]; exact List.mem_cons_self ..) rfl
  simp [doneOk, hn]
theorem doneOk_bad {n : Nat} {done : List Int} {k : Nat} (hk : k < done.length) (h : ¬ (0 ≤ done[k] ∧ done[k] < n)) : doneOk n done = false := by
  have : (done.all fun x => decide (0 ≤ x) && decide (x < n)) = false := by
    rw [List.all_eq_false]
    exact ⟨done[k], List.getElem_mem hk, by simp only [Bool.and_eq_true, decide_eq_true_eq]; exact h⟩
  simp [doneOk, this]
theorem doneOk_step {n : Nat} {done : List Int} {k : Nat} (hk : k < done.length) (h0 : doneOk n (done.take k) = true) (h1 : done[k] ∉ done.take k) (h2 : 0 ≤ done[k] ∧ done[k] < n) : doneOk n (done.take (k + 1)) = true := by
  rw [List.take_succ_eq_append_getElem hk]
  unfold doneOk at *
  rw [Bool.and_eq_true, decide_eq_true_eq] at *
  refine ⟨?_, by rw [List.all_append, h0.2]; simp [h2]⟩
  rw [List.nodup_append]
  exact ⟨h0.1, by simp, by intro a ha b hb e; simp at hb; subst hb; subst e; exact h1 ha⟩

set_option maxHeartbeats 400000 in
theorem ready_any (l : List Sys) (done : List Int) (v dv : Value) (w : World) (hS : Syss w l v) (hok : ∀ s ∈ l, s.ok) (hD : Ints w done dv) (hdw : ∀ x ∈ done, (Lit.int .i64 x).wf = true) :
    Calls Try.prog 12 #[v, dv] w fun e w' => ∃ r, e = .returned (.tuple #[r, .int .i64 (readyR l done).2]) ∧ Ints w' (readyR l done).1 r ∧ Below w.heap.size w w' := by
  obtain ⟨a, cap, rfl, hlc, hcm⟩ := hS.form
  obtain ⟨da, dcap, rfl, hdlc, hdcm⟩ := hD.form
  have hV := valid_any l (.slice a l.length cap) (w.alloc (.cells #[.slice a l.length cap] 24)) (hS.below (Below.alloc (Below.refl _ _) (Nat.le_refl _) _) (Nat.le_refl _)) hok
  have HV := Lib.hid hV
  have HS := Lib.hid hS
  have Hdw := Lib.hid hdw
  clear hV hS hok hdw
  by_cases hv : validS l = true
  case neg =>
    rw [Bool.not_eq_true] at hv
    have e1 : readyR l done = ([], 2) := by simp [readyR, hv]
    rw [hv] at HV
    rw [e1]
    clear hv e1
    go_enter Try.func12, Try.ntmps12
    go_wp2_with (go_at_call 11; refine HV.out.mono ?_; rintro e w1 ⟨rfl, hb1⟩)
    go_ret2
    exact ⟨_, rfl, Ints.nil _, ((Below.refl _ _).alloc (Nat.le_refl _) _).trans (hb1.mono (by simp))⟩
  rw [hv] at HV
  have hl16 : l.length ≤ 16 := valid_len hv
  have Hv := Lib.hid hv
  clear hv
  have hmm := @run_makeMap Try.prog
  go_enter Try.func12, Try.ntmps12
  go_wp2_with (go_at_call 11; refine HV.out.mono ?_; rintro e w1 ⟨rfl, hb1⟩)
  clear hmm
  have c1 : w1.cell? ⟨w.heap.size, 0, none⟩ = some (.slice a l.length cap) := Below.keep hb1 (by simp)
  have hs1 : w.heap.size < w1.heap.size := by have := hb1.size; simp at this; omega
  have cb1 : ((w1.alloc (.map #[] 0)).alloc (.cells #[.map (some w1.heap.size)] 58)).cell? ⟨w.heap.size, 0, none⟩ = some (.slice a l.length cap) := by
    rw [World.cell?_alloc_lt _ _ _ (by simp; omega), World.cell?_alloc_lt _ _ _ hs1]; exact c1
  have cb2 : ((w1.alloc (.map #[] 0)).alloc (.cells #[.map (some w1.heap.size)] 58)).cell? ⟨w1.heap.size + 1, 0, none⟩ = some (.map (some w1.heap.size)) := by
    simp
  have hb2 : Below w.heap.size w w1 := ((Below.refl _ _).alloc (Nat.le_refl _) _).trans (hb1.mono (by simp))
  have hbB : Below w.heap.size w ((w1.alloc (.map #[] 0)).alloc (.cells #[.map (some w1.heap.size)] 58)) := (hb2.alloc hb2.size _).alloc (by simp; omega) _
  have hMb : IMap ((w1.alloc (.map #[] 0)).alloc (.cells #[.map (some w1.heap.size)] 58)) w1.heap.size 0 (fun _ => false) (fun _ => 0) := (IMap.made w1).alloc _
  generalize (w1.alloc (.map #[] 0)).alloc (.cells #[.map (some w1.heap.size)] 58) = wb at *
  clear hb1 c1 hb2
  go_loopw [4, 5, 8, 15, 16, 17, 18, 19, 20, 21, 22, 23, 24, 25, 26, 27, 28, 29, 30, 31, 32, 33, 34, 35, 36, 37] (fun _ _ _ t15 _ _ _ _ _ _ _ _ _ _ _ _ _ _ _ _ _ _ _ _ _ _ wr => ∃ k : Nat, k ≤ done.length ∧ t15 = .int .i64 k ∧ doneOk l.length (done.take k) = true ∧ IMap wr w1.heap.size k (fun x => decide (x ∈ done.take k)) (cnt (done.take k)) ∧ wb.grownBy wr (some w1.heap.size)) (fun _ _ _ t15 _ _ _ _ _ _ _ _ _ _ _ _ _ _ _ _ _ _ _ _ _ _ _ => done.length - (intOf t15).toNat)
  case atStart => exact ⟨0, by omega, rfl, by simp [doneOk], hMb.congr (by omega) (by simp) (by simp [cnt]), ⟨rfl, rfl, rfl, Nat.le_refl _, fun _ _ _ => rfl⟩⟩
  case round =>
    obtain ⟨k, hk, rfl, hgood, hM, hgr⟩ := hrel
    have hb0 : Below w.heap.size w wr := hbB.grown hgr hbB.size (by simp; omega)
    have d1 : wr.cell? ⟨w.heap.size, 0, none⟩ = some (.slice a l.length cap) := hgr.cell cb1 (by simp; omega)
    have d2 : wr.cell? ⟨w1.heap.size + 1, 0, none⟩ = some (.map (some w1.heap.size)) := hgr.cell cb2 (by simp)
    have Hgood := Lib.hid hgood
    clear hgood
    by_cases hlt : k < done.length
    · obtain ⟨b, off, rfl, hbw, hc⟩ := hD.at hlt
      have e0 := Below.keep (hb0.mono (Nat.le_refl _)) (hc k hlt)
      have hwf := Hdw.out done[k] (List.getElem_mem hlt)
      have hstep : ∀ x, cnt (done.take (k + 1)) x = if x = done[k] then 1 else cnt (done.take k) x := fun x => by rw [List.take_succ_eq_append_getElem hlt, cnt_snoc]
      have Hstep := Lib.hid hstep
      have HD := Lib.hid hD
      clear hc hstep hD
      by_cases hin : done[k] ∈ done.take k
      · have h1 : cnt (done.take k) done[k] = 1 := if_pos hin
        have H1 := Lib.hid h1
        have e1 : readyR l done = ([], 2) := by simp [readyR, doneOk_dup hlt hin]
        have E1 := Lib.hid e1
        clear h1 hin e1
        go_wp2_with (first | (at_lookup; refine wpList_imap_lookup rfl _ _ rfl hM2 rfl done[k] rfl hwf ?_; intro hwf2; rw [if_pos rfl]) | (at_lookup; refine wpList_imap_lookup rfl _ _ rfl hM rfl done[k] rfl hwf ?_; intro hwf2; rw [H1.out]) | (at_mapUpdate; refine wpList_imap_update rfl _ _ _ rfl hM rfl done[k] 2 rfl rfl hwf (by decide) (by unfold maxLen; omega) ?_; intro w2 hM2 hg2; have hgr2 := hgr.trans hg2; have f1 := hgr2.cell cb1 (by simp; omega); have f2 := hgr2.cell cb2 (by simp)))
        go_ret2
        rw [E1.out]
        exact ⟨_, rfl, Ints.nil _, hbB.grown hgr2 hbB.size (by simp; omega)⟩
      · have h1 : cnt (done.take k) done[k] = 0 := if_neg hin
        have H1 := Lib.hid h1
        have Hin := Lib.hid hin
        clear h1 hin
        by_cases hr : 0 ≤ done[k] ∧ done[k] < l.length
        · obtain ⟨r1, r2⟩ := hr
          go_wp2_with (first | (at_lookup; refine wpList_imap_lookup rfl _ _ rfl hM2 rfl done[k] rfl hwf ?_; intro hwf2; rw [if_pos rfl]) | (at_lookup; refine wpList_imap_lookup rfl _ _ rfl hM rfl done[k] rfl hwf ?_; intro hwf2; rw [H1.out]) | (at_mapUpdate; refine wpList_imap_update rfl _ _ _ rfl hM rfl done[k] 1 rfl rfl hwf (by decide) (by unfold maxLen; omega) ?_; intro w2 hM2 hg2; have hgr2 := hgr.trans hg2; have f1 := hgr2.cell cb1 (by simp; omega); have f2 := hgr2.cell cb2 (by simp)))
          go_roundw
          case rel =>
            refine ⟨k + 1, by omega, by go_num, doneOk_step hlt Hgood.out Hin.out ⟨r1, r2⟩, hM2.congr (Nat.le_refl _) (fun x => ?_) (fun x => (Hstep.out x).symm), hgr2⟩
            rw [Bool.eq_iff_iff]
            simp only [Bool.or_eq_true, beq_iff_eq, decide_eq_true_eq, List.take_succ_eq_append_getElem hlt, List.mem_append, List.mem_singleton]
            exact Or.comm
          case measure => simp [intOf]; omega
        · have e1 : readyR l done = ([], 2) := by simp [readyR, doneOk_bad hlt hr]
          have E1 := Lib.hid e1
          clear e1
          by_cases r1 : done[k] < 0
          all_goals
            go_wp2_with (first | (at_lookup; refine wpList_imap_lookup rfl _ _ rfl hM2 rfl done[k] rfl hwf ?_; intro hwf2; rw [if_pos rfl]) | (at_lookup; refine wpList_imap_lookup rfl _ _ rfl hM rfl done[k] rfl hwf ?_; intro hwf2; rw [H1.out]) | (at_mapUpdate; refine wpList_imap_update rfl _ _ _ rfl hM rfl done[k] 1 rfl rfl hwf (by decide) (by unfold maxLen; omega) ?_; intro w2 hM2 hg2; have hgr2 := hgr.trans hg2; have f1 := hgr2.cell cb1 (by simp; omega); have f2 := hgr2.cell cb2 (by simp)))
            go_ret2
            rw [E1.out]
            exact ⟨_, rfl, Ints.nil _, hbB.grown hgr2 hbB.size (by simp; omega)⟩
    · have e : k = done.length := by omega
      subst e
      have e1 : readyR l done = (pick (rdy l (cnt done)) l.length, 0) := by
        have := Hgood.out
        rw [List.take_length] at this
        simp [readyR, Hv.out, this]
      rw [List.take_length] at hM
      have E1 := Lib.hid e1
      clear e1 hD
      have hS0 : Syss wr l (.slice a l.length cap) := HS.out.below hb0 (Nat.le_refl _)
      go_wp2_with fail
      refine (where_any l.length (by omega) _ _ (rdy l (cnt done)) _ (fun w1' => w1'.cell? ⟨w.heap.size, 0, none⟩ = some (.slice a l.length cap) ∧ Syss w1' l (.slice a l.length cap) ∧ w1'.cell? ⟨w1.heap.size + 1, 0, none⟩ = some (.map (some w1.heap.size)) ∧ IMap w1' w1.heap.size done.length (fun x => decide (x ∈ done)) (cnt done)) Try.call29 ⟨d1, hS0, d2, hM⟩ (fun w1 w2 h hb => ⟨Below.keep hb h.1, h.2.1.below hb (Nat.le_refl _), Below.keep hb h.2.2.1, h.2.2.2.below hb (Nat.le_refl _)⟩) (fun i w1' hi hI => ?_)).mono ?_
      · exact ready1_any l _ i _ _ _ _ _ _ w1' hi hI.1 hI.2.1 hI.2.2.1 hI.2.2.2
      · rintro e w3 ⟨v, rfl, hown3, hb5⟩
        go_wp2
        go_ret2
        rw [E1.out]
        exact ⟨_, rfl, Ints.of_own hown3, hb0.trans (hb5.mono hb0.size)⟩
end Go.Proofs.Ytbcfanfnnmijdaa
