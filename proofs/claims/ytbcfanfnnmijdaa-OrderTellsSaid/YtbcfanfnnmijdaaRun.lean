/- Legal orders as runs: one system after the other, each ready when its turn comes. Plain mathematics. -/
import Derived.Test.YtbcfanfnnmijdaaBuilt
import Derived.Test.YtbcfanfnnmijdaaConfM
namespace Go.Proofs.Ytbcfanfnnmijdaa
open Go.RowKit

/-- system x is ready when d was done -/
def RdyA (l : List Sys) (d : List Int) (x : Int) : Prop := 0 ≤ x ∧ x < l.length ∧ x ∉ d ∧ ∀ k : Nat, (k : Int) < x → cfl l k x.toNat = true → (k : Int) ∈ d
def Run (l : List Sys) : List Int → List Int → Prop
  | _, [] => True
  | d, x :: xs => RdyA l d x ∧ Run l (d ++ [x]) xs

theorem RdyA.congr {l : List Sys} {d e : List Int} (h : ∀ x, x ∈ d ↔ x ∈ e) (x : Int) : RdyA l d x ↔ RdyA l e x := by
  unfold RdyA
  simp only [h]
theorem Run.congr {l : List Sys} : ∀ (q d e : List Int), (∀ x, x ∈ d ↔ x ∈ e) → (Run l d q ↔ Run l e q)
  | [], _, _, _ => Iff.rfl
  | x :: q, d, e, h => by
    unfold Run
    rw [RdyA.congr h, Run.congr q (d ++ [x]) (e ++ [x]) (fun y => by simp only [List.mem_append, h])]
theorem Run.append {l : List Sys} : ∀ (p q d : List Int), Run l d (p ++ q) ↔ Run l d p ∧ Run l (d ++ p) q
  | [], q, d => by simp [Run]
  | x :: p, q, d => by
    rw [List.cons_append]
    show RdyA l d x ∧ Run l (d ++ [x]) (p ++ q) ↔ (RdyA l d x ∧ Run l (d ++ [x]) p) ∧ Run l (d ++ x :: p) q
    rw [Run.append p q (d ++ [x]), List.append_assoc, List.singleton_append]
    exact and_assoc.symm
theorem doneOk_iff {n : Nat} {d : List Int} : doneOk n d = true ↔ d.Nodup ∧ ∀ x ∈ d, 0 ≤ x ∧ x < n := by
  unfold doneOk
  rw [Bool.and_eq_true, decide_eq_true_eq, List.all_eq_true]
  simp only [Bool.and_eq_true, decide_eq_true_eq]
theorem RdyA.ok {l : List Sys} {d : List Int} {x : Int} (h : RdyA l d x) (hd : doneOk l.length d = true) : doneOk l.length (d ++ [x]) = true := by
  rw [doneOk_iff] at *
  refine ⟨?_, fun y hy => ?_⟩
  · rw [List.nodup_append]
    exact ⟨hd.1, by simp, by intro a ha b hb e; simp at hb; subst hb; subst e; exact h.2.2.1 ha⟩
  · rw [List.mem_append, List.mem_singleton] at hy
    rcases hy with hy | rfl
    · exact hd.2 y hy
    · exact ⟨h.1, h.2.1⟩
theorem Run.ok {l : List Sys} : ∀ (p d : List Int), Run l d p → doneOk l.length d = true → doneOk l.length (d ++ p) = true
  | [], d, _, hd => by simpa using hd
  | x :: p, d, h, hd => by
    have := Run.ok p (d ++ [x]) h.2 (h.1.ok hd)
    simpa using this
theorem done_nil (n : Nat) : doneOk n [] = true := by simp [doneOk]
theorem mem_pick {p : Nat → Bool} {n : Nat} {x : Int} : x ∈ pick p n ↔ 0 ≤ x ∧ x < n ∧ p x.toNat = true := by
  unfold pick
  rw [List.mem_map]
  constructor
  · rintro ⟨i, hi, rfl⟩
    rw [List.mem_filter, List.mem_range] at hi
    exact ⟨by omega, by omega, by simpa using hi.2⟩
  · rintro ⟨h0, h1, h2⟩
    exact ⟨x.toNat, by rw [List.mem_filter, List.mem_range]; exact ⟨by omega, h2⟩, by omega⟩
theorem mem_ready {l : List Sys} {d : List Int} (hv : validS l = true) (hd : doneOk l.length d = true) : (readyR l d).2 = 0 ∧ ∀ x, x ∈ (readyR l d).1 ↔ RdyA l d x := by
  have e : readyR l d = (pick (rdy l (cnt d)) l.length, 0) := by simp [readyR, hv, hd]
  rw [e]
  refine ⟨rfl, fun x => ?_⟩
  show x ∈ pick _ _ ↔ _
  rw [mem_pick]
  unfold RdyA rdy
  have hc : ∀ y : Int, (cnt d y == 0) = decide (y ∉ d) := fun y => by unfold cnt; by_cases h : y ∈ d <;> simp [h]
  have hc2 : ∀ y : Int, (cnt d y != 0) = decide (y ∈ d) := fun y => by unfold cnt; by_cases h : y ∈ d <;> simp [h]
  simp only [hc, hc2, Bool.and_eq_true, List.all_eq_true, List.mem_range, Bool.or_eq_true, Bool.not_eq_true', decide_eq_true_eq]
  constructor
  · rintro ⟨h0, h1, h2, h3⟩
    have e0 : ((x.toNat : Nat) : Int) = x := by omega
    rw [e0] at h3
    refine ⟨h0, h1, h3, fun k hk hc => ?_⟩
    rcases h2 k (by omega) with h | h
    · rw [hc] at h; cases h
    · exact h
  · rintro ⟨h0, h1, h3, h2⟩
    have e0 : ((x.toNat : Nat) : Int) = x := by omega
    rw [e0]
    refine ⟨h0, h1, fun k hk => ?_, h3⟩
    cases hc : cfl l k x.toNat
    · exact .inl rfl
    · exact .inr (h2 k (by omega) hc)
theorem legal_iff {l : List Sys} {o : List Int} (hv : validS l = true) (hl : o.length = l.length) : legalR l o = true ↔ Run l [] o := by
  unfold legalR
  rw [hv, hl]
  simp only [decide_true, Bool.true_and, List.all_eq_true, List.mem_range, Bool.and_eq_true, beq_iff_eq, List.contains_iff_mem]
  constructor
  · intro h
    have key : ∀ k, k ≤ o.length → Run l [] (o.take k) := by
      intro k
      induction k with
      | zero => intro _; simp [Run]
      | succ k ih =>
        intro hk
        have h0 := ih (by omega)
        have hd := Run.ok _ _ h0 (done_nil _)
        rw [List.nil_append] at hd
        have h1 := (h k (by omega)).2
        rw [(mem_ready hv hd).2, List.getD_eq_getElem?_getD, List.getElem?_eq_getElem (by omega), Option.getD_some] at h1
        rw [List.take_succ_eq_append_getElem (by omega), Run.append]
        exact ⟨h0, h1, trivial⟩
    have := key o.length (Nat.le_refl _)
    rwa [List.take_length] at this
  · intro h k hk
    have hs : o = o.take k ++ (o[k]'(by omega) :: o.drop (k + 1)) := by rw [← List.drop_eq_getElem_cons, List.take_append_drop]
    rw [hs, Run.append] at h
    have hd := Run.ok _ _ h.1 (done_nil _)
    rw [List.nil_append] at hd
    have hr := mem_ready hv hd
    refine ⟨hr.1, ?_⟩
    rw [hr.2, List.getD_eq_getElem?_getD, List.getElem?_eq_getElem (by omega), Option.getD_some]
    exact h.2.1
theorem Run.at {l : List Sys} {o : List Int} (h : Run l [] o) {k : Nat} (hk : k < o.length) : RdyA l (o.take k) o[k] ∧ doneOk l.length (o.take k) = true := by
  have hs : o = o.take k ++ (o[k]'(by omega) :: o.drop (k + 1)) := by rw [← List.drop_eq_getElem_cons, List.take_append_drop]
  rw [hs, Run.append] at h
  have hd := Run.ok _ _ h.1 (done_nil _)
  rw [List.nil_append] at hd
  exact ⟨h.2.1, hd⟩

/-! counting -/
theorem pigeon : ∀ (n : Nat) (d : List Int), (∀ k : Nat, k < n → (k : Int) ∈ d) → n ≤ d.length
  | 0, _, _ => Nat.zero_le _
  | n + 1, d, h => by
    have h0 := h n (by omega)
    have := pigeon n (d.erase (n : Int)) (fun k hk => (List.mem_erase_of_ne (by omega)).2 (h k (by omega)))
    rw [List.length_erase_of_mem h0] at this
    have := List.length_pos_of_mem h0
    omega
theorem nodup_len : ∀ (n : Nat) (d : List Int), d.Nodup → (∀ x ∈ d, 0 ≤ x ∧ x < n) → d.length ≤ n
  | 0, d, _, h => by
    cases d with
    | nil => simp
    | cons x d => have := h x (List.mem_cons_self ..); omega
  | n + 1, d, hd, h => by
    have := nodup_len n (d.erase (n : Int)) (hd.erase _) (fun x hx => by
      rw [hd.mem_erase_iff] at hx
      have := h x hx.2
      omega)
    by_cases hm : (n : Int) ∈ d
    · rw [List.length_erase_of_mem hm] at this; omega
    · rw [List.erase_of_not_mem hm] at this; omega
theorem done_len {n : Nat} {d : List Int} (h : doneOk n d = true) : d.length ≤ n := nodup_len n d (doneOk_iff.1 h).1 (doneOk_iff.1 h).2
theorem done_full {n : Nat} {d : List Int} (h : doneOk n d = true) (hl : d.length = n) (k : Nat) (hk : k < n) : (k : Int) ∈ d := by
  refine Classical.byContradiction fun hn => ?_
  have h' := doneOk_iff.1 h
  have := nodup_len n ((k : Int) :: d) (List.nodup_cons.2 ⟨hn, h'.1⟩) (fun x hx => by
    rw [List.mem_cons] at hx
    rcases hx with rfl | hx
    · omega
    · exact h'.2 x hx)
  simp at this
  omega
/-- something is ready as long as not everything is done -/
theorem some_ready {l : List Sys} {d : List Int} (hl : d.length < l.length) : ∃ x, RdyA l d x := by
  have h1 : ∃ k : Nat, k < l.length ∧ (k : Int) ∉ d := by
    refine Classical.byContradiction fun hn => ?_
    have := pigeon l.length d (fun k hk => Classical.byContradiction fun h => hn ⟨k, hk, h⟩)
    omega
  have key : ∀ m : Nat, (∃ k : Nat, k < m ∧ k < l.length ∧ (k : Int) ∉ d) → ∃ x, RdyA l d x := by
    intro m
    induction m with
    | zero => rintro ⟨k, hk, _⟩; omega
    | succ m ih =>
      rintro ⟨k, hk, hk2, hk3⟩
      by_cases h : ∃ j : Nat, j < m ∧ j < l.length ∧ (j : Int) ∉ d
      · exact ih h
      · refine ⟨k, by omega, by omega, hk3, fun j hj _ => Classical.byContradiction fun hn => ?_⟩
        exact h ⟨j, by omega, by omega, hn⟩
  obtain ⟨k, h2, h3⟩ := h1
  exact key (k + 1) ⟨k, by omega, h2, h3⟩
theorem ready_len {l : List Sys} {d : List Int} (hv : validS l = true) (hd : doneOk l.length d = true) : (readyR l d).1.length = 0 ↔ d.length = l.length := by
  have hr := (mem_ready hv hd).2
  have hle := done_len hd
  constructor
  · intro h0
    refine Classical.byContradiction fun hn => ?_
    obtain ⟨x, hx⟩ := some_ready (l := l) (d := d) (by omega)
    rw [← hr, List.eq_nil_of_length_eq_zero h0] at hx
    cases hx
  · intro hl
    refine Classical.byContradiction fun hn => ?_
    obtain ⟨x, hx⟩ := List.exists_mem_of_length_pos (Nat.pos_of_ne_zero hn)
    rw [hr] at hx
    refine hx.2.2.1 ?_
    have := done_full hd hl x.toNat (by have := hx.2.1; have := hx.1; omega)
    rwa [show ((x.toNat : Nat) : Int) = x from by have := hx.1; omega] at this

/-! neighbours -/
theorem run_order {l : List Sys} {o : List Int} (h : Run l [] o) {i k : Nat} (hi : i < k) (hk : k < o.length) (hlt : o[k] < o[i]) : cfl l o[k].toNat o[i].toNat = false := by
  obtain ⟨hr, hd⟩ := h.at (k := i) (by omega)
  obtain ⟨hr2, hd2⟩ := h.at hk
  rw [← Bool.not_eq_true]
  intro hc
  have h0 := hr2.1
  have e : ((o[k].toNat : Nat) : Int) = o[k] := by omega
  have hm := hr.2.2.2 o[k].toNat (by omega) hc
  rw [e] at hm
  refine hr2.2.2.1 ?_
  have : o.take i = (o.take k).take i := by rw [List.take_take, Nat.min_eq_left (by omega)]
  rw [this] at hm
  exact List.mem_of_mem_take hm
theorem cfl_comm (l : List Sys) (i k : Nat) : cfl l i k = cfl l k i := by
  unfold cfl
  cases l[i]? <;> cases l[k]? <;> simp [conf_comm]
theorem run_swap {l : List Sys} {p q : List Int} {a b : Int} (h : Run l [] (p ++ a :: b :: q)) : Run l [] (p ++ b :: a :: q) ↔ cfl l a.toNat b.toNat = false := by
  rw [Run.append] at h ⊢
  obtain ⟨hp, ha, hb, hq⟩ := h
  rw [List.nil_append] at *
  have h0 := ha.1
  have h1 := hb.1
  have ea : ((a.toNat : Nat) : Int) = a := by omega
  have eb : ((b.toNat : Nat) : Int) = b := by omega
  have hab : a ≠ b := by rintro rfl; exact hb.2.2.1 (by simp)
  have hbp : b ∉ p := fun h => hb.2.2.1 (List.mem_append.2 (.inl h))
  constructor
  · rintro ⟨_, hb2, ha2, _⟩
    rw [← Bool.not_eq_true]
    intro hc
    by_cases hlt : a < b
    · exact ha.2.2.1 (by have := hb2.2.2.2 a.toNat (by omega) hc; rwa [ea] at this)
    · rw [cfl_comm] at hc
      exact hbp (by have := ha.2.2.2 b.toNat (by omega) hc; rwa [eb] at this)
  · intro hc
    refine ⟨hp, ⟨h1, hb.2.1, hbp, fun k hk hck => ?_⟩, ⟨h0, ha.2.1, ?_, fun k hk hck => List.mem_append.2 (.inl (ha.2.2.2 k hk hck))⟩, ?_⟩
    · have := hb.2.2.2 k hk hck
      rw [List.mem_append, List.mem_singleton] at this
      rcases this with h | h
      · exact h
      · subst h
        rw [Int.toNat_natCast, hck] at hc
        cases hc
    · rw [List.mem_append, List.mem_singleton]
      rintro (h | h)
      · exact ha.2.2.1 h
      · exact hab h
    · refine (Run.congr q _ _ fun x => ?_).1 hq
      simp only [List.mem_append, List.mem_singleton]
      constructor
      · rintro ((h | h) | h)
        · exact .inl (.inl h)
        · exact .inr h
        · exact .inl (.inr h)
      · rintro ((h | h) | h)
        · exact .inl (.inl h)
        · exact .inr h
        · exact .inl (.inr h)
end Go.Proofs.Ytbcfanfnnmijdaa
