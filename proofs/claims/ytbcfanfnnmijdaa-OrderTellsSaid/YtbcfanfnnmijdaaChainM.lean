/- Stages and chains: the longest chain has as many systems as there are stages. Plain mathematics. -/
import Derived.Test.YtbcfanfnnmijdaaRun
namespace Go.Proofs.Ytbcfanfnnmijdaa

/-- how long the chain of bs is that begins with system i -/
def blen (bs : List (List Int)) (i : Nat) : Nat := (bs.getD i []).length
theorem blen_pos {l : List Sys} {bs : List (List Int)} (hb : IsBests l bs 0) {i : Nat} (hi : i < l.length) : 1 ≤ blen bs i := by
  obtain ⟨r, e, _⟩ := hb i (by omega) hi
  unfold blen; rw [e]; simp
/-- who conflicts with a later system has a longer chain -/
theorem blen_gt {l : List Sys} {bs : List (List Int)} (hb : IsBests l bs 0) {i k : Nat} (hi : i < k) (hk : k < l.length) (hc : cfl l i k = true) : blen bs k + 1 ≤ blen bs i := by
  obtain ⟨r, e, hr⟩ := hb i (by omega) (by omega)
  unfold blen
  rw [e]
  rcases hr with ⟨_, h2⟩ | ⟨m, h1, h2, h3, rfl, h5⟩
  · rw [h2 k (by omega) hk] at hc; cases hc
  · have := (h5 k (by omega) hk hc).1
    simp only [List.length_cons]
    omega
/-- a chain of one system, or one that goes on with a later one -/
theorem blen_next {l : List Sys} {bs : List (List Int)} (hb : IsBests l bs 0) {i : Nat} (hi : i < l.length) : blen bs i = 1 ∨ ∃ k, i < k ∧ k < l.length ∧ cfl l i k = true ∧ blen bs i = blen bs k + 1 := by
  obtain ⟨r, e, hr⟩ := hb i (by omega) hi
  unfold blen
  rw [e]
  rcases hr with ⟨rfl, h2⟩ | ⟨m, h1, h2, h3, rfl, h5⟩
  · exact .inl rfl
  · exact .inr ⟨m, by omega, h2, h3, by simp⟩
theorem lev_gt {l : List Sys} {xs : List Int} (hx : IsLev l l.length xs) {i k : Nat} (hi : i < k) (hk : k < l.length) (hc : cfl l i k = true) : xs.getD i 0 + 1 ≤ xs.getD k 0 := (hx k hk).1.1 i ⟨hi, hc⟩
theorem lev_next {l : List Sys} {xs : List Int} (hx : IsLev l l.length xs) {k : Nat} (hk : k < l.length) : xs.getD k 0 = 0 ∨ ∃ i, i < k ∧ cfl l i k = true ∧ xs.getD k 0 = xs.getD i 0 + 1 := by
  rcases (hx k hk).1.2.1 with h | ⟨i, h1, h2⟩
  · exact .inl h
  · exact .inr ⟨i, h1.1, h1.2, h2⟩
theorem sum_le_top {l : List Sys} {xs : List Int} {bs : List (List Int)} (hx : IsLev l l.length xs) (hb : IsBests l bs 0) {t : Int} (ht : ∀ i, i < l.length → (blen bs i : Int) ≤ t) : ∀ i, i < l.length → xs.getD i 0 + blen bs i ≤ t := by
  intro i
  induction i using Nat.strongRecOn with
  | _ i ih =>
    intro hi
    rcases lev_next hx hi with h | ⟨k, h1, h2, h3⟩
    · have := ht i hi; omega
    · have := ih k h1 (by omega)
      have := blen_gt hb h1 hi h2
      omega
theorem sum_le_lev {l : List Sys} {xs : List Int} {bs : List (List Int)} (hx : IsLev l l.length xs) (hb : IsBests l bs 0) {m : Int} (hm : ∀ i, i < l.length → xs.getD i 0 ≤ m) : ∀ d i, i < l.length → l.length - i = d → xs.getD i 0 + blen bs i ≤ m + 1 := by
  intro d
  induction d using Nat.strongRecOn with
  | _ d ih =>
    intro i hi hd
    rcases blen_next hb hi with h | ⟨k, h1, h2, h3, h4⟩
    · have := hm i hi; omega
    · have := ih (l.length - k) (by omega) k h2 rfl
      have := lev_gt hx h1 h2 h3
      omega
/-- what is said of a chain: its systems rise, and each conflicts with the next one -/
def ChainGood (l : List Sys) (c : List Int) : Prop := (∀ (i : Nat) (h : i < c.length), 0 ≤ c[i] ∧ c[i] < l.length) ∧ ∀ (i : Nat) (h : i + 1 < c.length), c[i] < c[i + 1] ∧ cfl l c[i].toNat c[i + 1].toNat = true
theorem best_good {l : List Sys} {bs : List (List Int)} (hb : IsBests l bs 0) : ∀ d i, i < l.length → l.length - i = d → ChainGood l (bs.getD i []) := by
  intro d
  induction d using Nat.strongRecOn with
  | _ d ih =>
    intro i hi hd
    obtain ⟨r, e, hr⟩ := hb i (by omega) hi
    rw [e]
    rcases hr with ⟨rfl, h2⟩ | ⟨k, h1, h2, h3, rfl, h5⟩
    · refine ⟨fun j hj => ?_, fun j hj => absurd hj (by simp)⟩
      obtain rfl : j = 0 := by simp at hj; omega
      simp only [List.getElem_cons_zero]
      omega
    · obtain ⟨g1, g2⟩ := ih (l.length - k) (by omega) k h2 rfl
      obtain ⟨r', e', _⟩ := hb k (by omega) h2
      refine ⟨fun j hj => ?_, fun j hj => ?_⟩
      · cases j with
        | zero => simp only [List.getElem_cons_zero]; omega
        | succ j => simp only [List.getElem_cons_succ]; exact g1 j (by simpa using hj)
      · cases j with
        | zero =>
          simp only [List.getElem_cons_zero, List.getElem_cons_succ]
          simp only [e', List.getElem_cons_zero]
          exact ⟨by omega, h3⟩
        | succ j => simp only [List.getElem_cons_succ]; exact g2 j (by simpa using hj)
/-- ████ the chain is a chain, and as long as there are stages; and a choice of systems that goes up the stages is not longer -/
theorem chain_stages {l : List Sys} {c : List Int} {xss : List (List Int)} (hc : ChainOk l c) (hs : StagesOk l xss) :
    ChainGood l c ∧ c.length = xss.length ∧ ∃ lev : Nat → Nat, (∀ i, i < l.length → lev i + 1 ≤ c.length) ∧ ∀ i k, i < k → k < l.length → cfl l i k = true → lev i + 1 ≤ lev k := by
  obtain ⟨bs, hbl, hb, ho⟩ := hc
  rcases hs with ⟨rfl, rfl⟩ | ⟨xs, m, hl, hx, hm, rfl⟩
  · rcases ho with ⟨rfl, _⟩ | ⟨i, _, h2, _⟩
    · exact ⟨⟨fun i hi => absurd hi (by simp), fun i hi => absurd hi (by simp)⟩, rfl, fun _ => 0, fun i hi => absurd hi (by simp), fun i k _ hk => absurd hk (by simp)⟩
    · exact absurd h2 (by simp)
  · have hbnd := lev_bound hl hx hm
    rcases ho with ⟨rfl, h2⟩ | ⟨i, _, h2, rfl, h4⟩
    · omega
    · have hmx : ∀ k, k < l.length → xs.getD k 0 ≤ m := fun k hk => hm.2 _ (by
        have : k < xs.length := by omega
        simp [List.getD_eq_getElem?_getD, this])
      have htop : ∀ k, k < l.length → (blen bs k : Int) ≤ (bs.getD i []).length := fun k hk => by have := (h4 k (by omega) hk).1; unfold blen; omega
      obtain ⟨j, hj, hje⟩ := List.getElem_of_mem hm.1
      have h1 := sum_le_top hx hb htop j (by omega)
      have h3 := sum_le_lev hx hb hmx _ i h2 rfl
      have hp := blen_pos hb (i := j) (by omega)
      have hjx : xs.getD j 0 = m := by rw [List.getD_eq_getElem?_getD, List.getElem?_eq_getElem hj]; simpa using hje
      have hi0 := (hx i h2).1.2.2
      have hle : ((bs.getD i []).length : Int) = m + 1 := by unfold blen at *; omega
      refine ⟨best_good hb _ i h2 rfl, ?_, fun k => (xs.getD k 0).toNat, fun k hk => ?_, fun a b hab hb' hc' => ?_⟩
      · rw [rowsOf_len]; omega
      · have := hmx k hk
        have := (hx k hk).1.2.2
        show (xs.getD k 0).toNat + 1 ≤ _
        omega
      · have := lev_gt hx hab hb' hc'
        have := (hx a (by omega)).1.2.2
        show (xs.getD a 0).toNat + 1 ≤ (xs.getD b 0).toNat
        omega
end Go.Proofs.Ytbcfanfnnmijdaa
