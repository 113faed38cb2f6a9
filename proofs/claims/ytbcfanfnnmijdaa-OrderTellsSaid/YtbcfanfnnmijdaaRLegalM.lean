/- A legal order by places: every system is in it, and of two that conflict the elder stands first. Plain mathematics. -/
import Derived.Test.YtbcfanfnnmijdaaRAt
import Derived.Test.YtbcfanfnnmijdaaRun
namespace Go.Proofs.Ytbcfanfnnmijdaa

theorem nodup_inj {o : List Int} (h : o.Nodup) {i j : Nat} {hi : i < o.length} {hj : j < o.length} (e : o[i] = o[j]) : i = j := by
  have hp := List.pairwise_iff_getElem.1 h
  rcases Nat.lt_trichotomy i j with hlt | rfl | hlt
  · exact absurd e (hp i j hi hj hlt)
  · rfl
  · exact absurd e.symm (hp j i hj hi hlt)
/-- what the reference's Legal asks of a list as long as the systems -/
def legalP (l : List Sys) (o : List Int) : Prop := ∀ i : Nat, i < l.length → 0 ≤ atI o i ∧ ∀ k : Nat, k < i → cfl l k i = true → atI o k ≤ atI o i
theorem atI_spec {o : List Int} {x : Int} (h : x ∈ o) : ∃ (i : Nat) (hi : i < o.length), atI o x = i ∧ o[i] = x ∧ x ∉ o.take i := by
  obtain ⟨i, hi, h1, h2, h3⟩ := atR_yes o x 0 h
  exact ⟨i, hi, by unfold atI; rw [h1, Nat.zero_add], h2, h3⟩
/-- a list as long as the numbers below n that holds them all holds each once, and no other -/
theorem full_nodup : ∀ (n : Nat) (o : List Int), o.length = n → (∀ k : Nat, k < n → (k : Int) ∈ o) → o.Nodup ∧ ∀ x ∈ o, 0 ≤ x ∧ x < n := by
  intro n
  induction n with
  | zero => intro o ho _; obtain rfl := List.eq_nil_of_length_eq_zero ho; simp
  | succ n ih =>
    intro o ho h
    have hm := h n (by omega)
    have hl : (o.erase (n : Int)).length = n := by rw [List.length_erase_of_mem hm]; omega
    obtain ⟨h1, h2⟩ := ih (o.erase (n : Int)) hl (fun k hk => (List.mem_erase_of_ne (by omega)).2 (h k (by omega)))
    have hp : o.Perm ((n : Int) :: o.erase (n : Int)) := List.perm_cons_erase hm
    refine ⟨hp.nodup_iff.2 (List.nodup_cons.2 ⟨fun hn => by have := h2 _ hn; omega, h1⟩), fun x hx => ?_⟩
    rcases List.mem_cons.1 (hp.mem_iff.1 hx) with rfl | hx
    · omega
    · have := h2 x hx; omega
theorem run_of_places {l : List Sys} {o : List Int} (hl : o.length = l.length) (h : legalP l o) : Run l [] o := by
  have hall : ∀ k : Nat, k < l.length → (k : Int) ∈ o := fun k hk => atI_pos.1 (h k hk).1
  obtain ⟨hnd, hrange⟩ := full_nodup l.length o hl hall
  have key : ∀ n, n ≤ o.length → Run l [] (o.take n) := by
    intro n
    induction n with
    | zero => intro _; simp [Run]
    | succ n ih =>
      intro hn
      rw [List.take_succ_eq_append_getElem (by omega), Run.append, List.nil_append]
      have hx := hrange o[n] (List.getElem_mem _)
      refine ⟨ih (by omega), ⟨hx.1, hx.2, ?_, fun k hk hc => ?_⟩, trivial⟩
      · intro hm
        obtain ⟨j, hj, e⟩ := List.mem_take_iff_getElem.1 hm
        have := nodup_inj hnd e
        omega
      · have hxe : ((o[n].toNat : Nat) : Int) = o[n] := by omega
        have h2 := (h o[n].toNat (by omega)).2 k (by omega) hc
        rw [hxe] at h2
        have hkm := hall k (by omega)
        obtain ⟨j, hj, e1, e2, _⟩ := atI_spec hkm
        have hnn : o[n] ∉ o.take n := by
          intro hm
          obtain ⟨j, hj, e⟩ := List.mem_take_iff_getElem.1 hm
          have := nodup_inj hnd e
          omega
        have e3 := atI_of (xs := o) (k := n) (by omega) rfl hnn
        rw [e1, e3] at h2
        have hjn : j ≠ n := by
          rintro rfl
          rw [e2] at hk
          omega
        exact List.mem_take_iff_getElem.2 ⟨j, by omega, e2⟩
  have := key o.length (Nat.le_refl _)
  rwa [List.take_length] at this
theorem places_of_run {l : List Sys} {o : List Int} (hl : o.length = l.length) (h : Run l [] o) : legalP l o := by
  have hd := Run.ok _ _ h (done_nil _)
  rw [List.nil_append] at hd
  intro i hi
  have hm := done_full hd hl i hi
  refine ⟨atI_pos.2 hm, fun k hk hc => ?_⟩
  obtain ⟨a, ha, e1, e2, e3⟩ := atI_spec hm
  obtain ⟨b, hb, f1, f2, f3⟩ := atI_spec (done_full hd hl k (by omega))
  rw [e1, f1]
  have hr := (h.at ha).1
  rw [e2] at hr
  have := hr.2.2.2 k (by omega) (by rw [Int.toNat_natCast]; exact hc)
  obtain ⟨j, hj, e⟩ := List.mem_take_iff_getElem.1 this
  rcases Nat.lt_or_ge a b with hlt | hge
  · exact absurd (List.mem_take_iff_getElem.2 ⟨j, by omega, e⟩) f3
  · omega
theorem legal_places {l : List Sys} {o : List Int} (hv : validS l = true) (hl : o.length = l.length) : legalR l o = true ↔ legalP l o :=
  (legal_iff hv hl).trans ⟨places_of_run hl, run_of_places hl⟩
/-- what the reference's Ready asks of what was done -/
theorem done_places {n : Nat} {d : List Int} : doneOk n d = true ↔ ∀ (i : Nat) (h : i < d.length), 0 ≤ d[i] ∧ d[i] < n ∧ atI d d[i] = i := by
  rw [doneOk_iff]
  constructor
  · rintro ⟨hnd, hr⟩ i hi
    have := hr d[i] (List.getElem_mem hi)
    refine ⟨this.1, this.2, atI_of hi rfl ?_⟩
    intro hm
    obtain ⟨j, hj, e⟩ := List.mem_take_iff_getElem.1 hm
    have := nodup_inj hnd e
    omega
  · intro h
    refine ⟨?_, fun x hx => ?_⟩
    · refine List.pairwise_iff_getElem.2 fun i j hi hj hij e => ?_
      have h1 := (h i hi).2.2
      have h2 := (h j hj).2.2
      rw [e, h2] at h1
      omega
    · obtain ⟨i, hi, rfl⟩ := List.getElem_of_mem hx
      exact ⟨(h i hi).1, (h i hi).2.1⟩
theorem ready_pick {l : List Sys} {d : List Int} (hv : validS l = true) (hd : doneOk l.length d = true) : (readyR l d).1 = pick (rdy l (cnt d)) l.length := by
  simp [readyR, hv, hd]
theorem rdy_places (l : List Sys) (d : List Int) (i : Nat) : rdy l (cnt d) i = (decide (atI d i < 0) && (pick (fun k => cfl l k i) i).all fun x => decide (0 ≤ atI d x)) := by
  unfold rdy
  rw [Bool.and_comm]
  congr 1
  · unfold cnt
    by_cases h : (i : Int) ∈ d
    · have := (@atI_pos d i).2 h; simp [h]; omega
    · have := (@atI_neg d i).2 h; simp [h, this]
  · rw [Bool.eq_iff_iff, List.all_eq_true, List.all_eq_true]
    constructor
    · intro h x hx
      obtain ⟨h0, h1, h2⟩ := mem_pick.1 hx
      have := h x.toNat (List.mem_range.2 (by omega))
      rw [h2] at this
      have e : ((x.toNat : Nat) : Int) = x := by omega
      rw [e] at this
      rw [decide_eq_true_eq, atI_pos]
      refine Classical.byContradiction fun hn => ?_
      simp [cnt, hn] at this
    · intro h k hk
      have hk' := List.mem_range.1 hk
      cases hc : cfl l k i
      · rfl
      · have := h (k : Int) (mem_pick.2 ⟨by omega, by omega, by simpa using hc⟩)
        rw [decide_eq_true_eq, atI_pos] at this
        simp [cnt, this]
end Go.Proofs.Ytbcfanfnnmijdaa
