/- The stages one after the other, each in any order, are a legal order. Plain mathematics. -/
import Derived.Test.YtbcfanfnnmijdaaChainM
import Derived.Test.YtbcfanfnnmijdaaWReady
namespace Go.Proofs.Ytbcfanfnnmijdaa

/-- the stage of each system, as numbers -/
structure LevN (l : List Sys) (xss : List (List Int)) (lev : Nat → Nat) : Prop where
  gt : ∀ i k, i < k → k < l.length → cfl l i k = true → lev i < lev k
  next : ∀ k, k < l.length → lev k = 0 ∨ ∃ i, i < k ∧ cfl l i k = true ∧ lev k = lev i + 1
  lt : ∀ k, k < l.length → lev k < xss.length
  row : ∀ (n : Nat) (h : n < xss.length), xss[n] = pick (fun i => lev i == n) l.length
  has : ∀ n, n < xss.length → ∃ k, k < l.length ∧ lev k = n
  zero : xss.length = 0 ↔ l.length = 0
theorem pick_congr {p q : Nat → Bool} {n : Nat} (h : ∀ i, i < n → p i = q i) : pick p n = pick q n := by
  unfold pick
  rw [List.filter_congr fun x hx => h x (List.mem_range.1 hx)]
theorem stages_lev {l : List Sys} {xss : List (List Int)} (hs : StagesOk l xss) : ∃ lev, LevN l xss lev := by
  rcases hs with ⟨rfl, rfl⟩ | ⟨xs, m, hl, hx, hm, rfl⟩
  · exact ⟨fun _ => 0, fun i k _ hk => absurd hk (by simp), fun k hk => absurd hk (by simp), fun k hk => absurd hk (by simp), fun n hn => absurd hn (by simp), fun n hn => absurd hn (by simp), by simp⟩
  · have hbnd := lev_bound hl hx hm
    have hmx : ∀ k, k < l.length → xs.getD k 0 ≤ m := fun k hk => hm.2 _ (by
      have : k < xs.length := by omega
      simp [List.getD_eq_getElem?_getD, this])
    have hge : ∀ k, k < l.length → 0 ≤ xs.getD k 0 := fun k hk => (hx k hk).1.2.2
    have hlen := rowsOf_len l.length xs (m + 1).toNat
    refine ⟨fun k => (xs.getD k 0).toNat, fun i k hi hk hc => ?_, fun k hk => ?_, fun k hk => ?_, fun n hn => ?_, fun n hn => ?_, ?_⟩
    · have := lev_gt hx hi hk hc
      have := hge i (by omega)
      show (xs.getD i 0).toNat < (xs.getD k 0).toNat
      omega
    · rcases lev_next hx hk with h | ⟨i, h1, h2, h3⟩
      · left; show (xs.getD k 0).toNat = 0; omega
      · right
        have := hge i (by omega)
        exact ⟨i, h1, h2, by show (xs.getD k 0).toNat = (xs.getD i 0).toNat + 1; omega⟩
    · have := hmx k hk
      have := hge k hk
      rw [hlen]
      show (xs.getD k 0).toNat < _
      omega
    · have h1 : (rowsOf l.length xs (m + 1).toNat)[n] = pick (fun i => xs.getD i 0 == (n : Int)) l.length := by simp [rowsOf]
      rw [h1]
      refine pick_congr fun i hi => ?_
      have := hge i hi
      rw [Bool.eq_iff_iff, beq_iff_eq, beq_iff_eq]
      show xs.getD i 0 = (n : Int) ↔ (xs.getD i 0).toNat = n
      omega
    · rw [hlen] at hn
      have key : ∀ d : Nat, (d : Int) ≤ m → ∃ k, k < l.length ∧ xs.getD k 0 = m - d := by
        intro d
        induction d with
        | zero =>
          intro _
          obtain ⟨j, hj, hje⟩ := List.getElem_of_mem hm.1
          exact ⟨j, by omega, by rw [List.getD_eq_getElem?_getD, List.getElem?_eq_getElem hj]; simpa using hje⟩
        | succ d ih =>
          intro hd
          obtain ⟨k, hk, e⟩ := ih (by omega)
          rcases lev_next hx hk with h | ⟨i, h1, h2, h3⟩
          · omega
          · exact ⟨i, by omega, by omega⟩
      obtain ⟨k, hk, e⟩ := key (m.toNat - n) (by omega)
      exact ⟨k, hk, by show (xs.getD k 0).toNat = n; omega⟩
    · rw [hlen]; omega

theorem chain_stages_len {l : List Sys} {xss : List (List Int)} (hs : StagesOk l xss) : xss.length ≤ l.length := by
  rcases hs with ⟨rfl, rfl⟩ | ⟨xs, m, hl, hx, hm, rfl⟩
  · exact Nat.le_refl _
  · have := lev_bound hl hx hm
    rw [rowsOf_len]; omega
section
variable {l : List Sys} {xss : List (List Int)} {lev : Nat → Nat} (L : LevN l xss lev)
include L
theorem LevN.mem {n : Nat} (hn : n < xss.length) {x : Int} : x ∈ xss[n] ↔ 0 ≤ x ∧ x < l.length ∧ lev x.toNat = n := by
  rw [L.row n hn, mem_pick, beq_iff_eq]
theorem LevN.pos {n : Nat} (hn : n < xss.length) : 0 < xss[n].length := by
  obtain ⟨k, hk, e⟩ := L.has n hn
  exact List.length_pos_of_mem ((L.mem hn (x := (k : Int))).2 ⟨by omega, by omega, by simpa using e⟩)
theorem LevN.rise {n : Nat} (hn : n < xss.length) {i j : Nat} (hi : i < j) (hj : j < xss[n].length) : xss[n][i] < xss[n][j] := by
  have e := L.row n hn
  have key : ∀ (r : List Int) (hj : j < r.length), r = pick (fun i => lev i == n) l.length → r[i] < r[j] := by
    intro r hj e
    subst e
    exact pick_lt _ _ hi hj
  exact key _ hj e
/-- systems of one stage do not conflict -/
theorem LevN.free {n a b : Nat} (ha : a < l.length) (hb : b < l.length) (ea : lev a = n) (eb : lev b = n) (hab : b < a) : conf l[a] l[b] = false := by
  rw [conf_comm, ← cfl_eq hb ha, ← Bool.not_eq_true]
  intro hc
  have := L.gt b a hab ha hc
  omega
/-- what was done before stage n -/
structure OSt (l : List Sys) (lev : Nat → Nat) (n : Nat) (o : List Int) : Prop where
  run : Run l [] o
  mem : ∀ x : Int, x ∈ o ↔ 0 ≤ x ∧ x < l.length ∧ lev x.toNat < n
omit L in
theorem OSt.start : OSt l lev 0 [] := ⟨trivial, fun x => by simp⟩
theorem LevN.runRow {n : Nat} : ∀ (q d : List Int), q.Nodup → (∀ x ∈ q, 0 ≤ x ∧ x < l.length ∧ lev x.toNat = n ∧ x ∉ d) → (∀ k : Nat, k < l.length → lev k < n → (k : Int) ∈ d) → Run l d q
  | [], _, _, _, _ => trivial
  | x :: q, d, hq, hx, hd => by
    obtain ⟨h0, h1, h2, h3⟩ := hx x (List.mem_cons_self ..)
    refine ⟨⟨h0, h1, h3, fun k hk hc => hd k (by omega) ?_⟩, LevN.runRow q (d ++ [x]) (List.nodup_cons.1 hq).2 (fun y hy => ?_) (fun k hk hl => List.mem_append_left _ (hd k hk hl))⟩
    · have := L.gt k x.toNat (by omega) (by omega) hc
      omega
    · obtain ⟨g0, g1, g2, g3⟩ := hx y (List.mem_cons_of_mem _ hy)
      refine ⟨g0, g1, g2, ?_⟩
      rw [List.mem_append, List.mem_singleton]
      rintro (h | rfl)
      · exact g3 h
      · exact (List.nodup_cons.1 hq).1 hy
theorem OSt.step {n : Nat} (hn : n < xss.length) {o : List Int} (h : OSt l lev n o) (k : Nat) : OSt l lev (n + 1) (o ++ xss[n].drop k ++ xss[n].take k) := by
  have hp : (xss[n].drop k ++ xss[n].take k).Perm xss[n] := by
    have := List.perm_append_comm (l₁ := xss[n].drop k) (l₂ := xss[n].take k)
    rwa [List.take_append_drop] at this
  have hnd : xss[n].Nodup := by
    rw [L.row n hn]
    refine List.pairwise_iff_getElem.2 fun i j hi hj hij => ?_
    have := pick_lt (fun i => lev i == n) l.length hij hj
    omega
  have hm : ∀ x, x ∈ xss[n].drop k ++ xss[n].take k ↔ 0 ≤ x ∧ x < l.length ∧ lev x.toNat = n := fun x => by rw [hp.mem_iff, L.mem hn]
  rw [List.append_assoc]
  refine ⟨?_, fun x => ?_⟩
  · rw [Run.append, List.nil_append]
    refine ⟨h.run, L.runRow (n := n) _ _ (hp.nodup_iff.2 hnd) (fun x hx => ?_) (fun k hk hl => (h.mem k).2 ⟨by omega, by omega, by simpa using hl⟩)⟩
    obtain ⟨h0, h1, h2⟩ := (hm x).1 hx
    exact ⟨h0, h1, h2, fun hx => by have := ((h.mem x).1 hx).2.2; omega⟩
  · rw [List.mem_append, h.mem, hm]
    omega
theorem OSt.legal (hv : validS l = true) {o : List Int} (h : OSt l lev xss.length o) : legalR l o = true ∧ o.length = l.length ∧ ∀ x ∈ o, (Lit.int .i64 x).wf = true := by
  have hd := Run.ok _ _ h.run (done_nil _)
  rw [List.nil_append] at hd
  have h1 := done_len hd
  have h2 := pigeon l.length o fun k hk => (h.mem k).2 ⟨by omega, by omega, by simpa using L.lt k hk⟩
  have hl : o.length = l.length := by omega
  have h16 := valid_len hv
  exact ⟨(legal_iff hv hl).2 h.run, hl, fun x hx => by have := (h.mem x).1 hx; exact wf_i64 (by omega) (by omega)⟩
omit L in
theorem same_run (l : List Sys) : ∀ k, k ≤ l.length → Run l [] ((List.range k).map fun i : Nat => (i : Int))
  | 0, _ => trivial
  | k + 1, hk => by
    rw [List.range_succ, List.map_append, Run.append, List.nil_append]
    refine ⟨same_run l k (by omega), ⟨Int.natCast_nonneg k, by show (k : Int) < l.length; omega, ?_, fun j hj _ => ?_⟩, trivial⟩
    · rw [List.mem_map]
      rintro ⟨x, hx, e⟩
      have := List.mem_range.1 hx
      have e' : (x : Int) = k := e
      omega
    · have hj' : (j : Int) < k := hj
      exact List.mem_map.2 ⟨j, List.mem_range.2 (by omega), rfl⟩
omit L in
theorem same_legal (hv : validS l = true) : legalR l ((List.range l.length).map fun i : Nat => (i : Int)) = true ∧ ∀ x ∈ (List.range l.length).map fun i : Nat => (i : Int), (Lit.int .i64 x).wf = true := by
  have h16 := valid_len hv
  refine ⟨(legal_iff hv (by simp)).2 (same_run l _ (Nat.le_refl _)), fun x hx => ?_⟩
  obtain ⟨i, hi, rfl⟩ := List.mem_map.1 hx
  have := List.mem_range.1 hi
  exact wf_i64 (by omega) (by omega)
/-- what a system of stage n needs: nothing at n = 0; else one of the stage before -/
theorem LevN.needs {n a : Nat} (hn : n < xss.length) (ha : a < l.length) (ea : lev a = n) :
    (n = 0 → pick (fun k => cfl l k a) a = []) ∧ (0 < n → ∃ x ∈ pick (fun k => cfl l k a) a, x ∈ xss[n - 1]) := by
  refine ⟨fun h0 => ?_, fun h0 => ?_⟩
  · rw [List.eq_nil_iff_forall_not_mem]
    intro x hx
    obtain ⟨g0, g1, g2⟩ := mem_pick.1 hx
    have := L.gt x.toNat a (by omega) ha g2
    omega
  · rcases L.next a ha with h | ⟨i, h1, h2, h3⟩
    · omega
    · exact ⟨i, mem_pick.2 ⟨by omega, by omega, by simpa using h2⟩, (L.mem (by omega)).2 ⟨by omega, by omega, by simp; omega⟩⟩
end
end Go.Proofs.Ytbcfanfnnmijdaa
