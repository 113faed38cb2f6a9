/- The pure side: stages and chains are fixed by what is said of them; those of the example. -/
import Derived.Test.YtbcfanfnnmijdaaEx
namespace Go.Proofs.Ytbcfanfnnmijdaa

theorem IsTop.le {f g : Nat → Int} {p : Nat → Prop} {x y : Int} (hx : IsTop f p x) (hy : IsTop g p y) (h : ∀ k, p k → f k = g k) : x ≤ y := by
  rcases hx.2.1 with e | ⟨k, hk, e⟩
  · have := hy.2.2; omega
  · have := hy.1 k hk; rw [← h k hk] at this; omega
theorem IsTop.uniq {f g : Nat → Int} {p : Nat → Prop} {x y : Int} (hx : IsTop f p x) (hy : IsTop g p y) (h : ∀ k, p k → f k = g k) : x = y :=
  Int.le_antisymm (hx.le hy h) (hy.le hx fun k hk => (h k hk).symm)
theorem lev_uniq {l : List Sys} {n : Nat} {xs ys : List Int} (hx : IsLev l n xs) (hy : IsLev l n ys) : ∀ i, i < n → xs.getD i 0 = ys.getD i 0 := by
  intro i
  induction i using Nat.strongRecOn with
  | _ i ih => intro hi; exact (hx i hi).1.uniq (hy i hi).1 fun k hk => ih k hk.1 (by omega)
theorem lev_eq {l : List Sys} {xs ys : List Int} (hx : IsLev l l.length xs) (hy : IsLev l l.length ys) (h1 : xs.length = l.length) (h2 : ys.length = l.length) : xs = ys := by
  apply List.ext_getElem (by omega)
  intro i hi1 hi2
  have := lev_uniq hx hy i (by omega)
  simpa [hi1, hi2] using this
theorem max_uniq {xs : List Int} {m m' : Int} (h : IsMax xs m) (h' : IsMax xs m') : m = m' := Int.le_antisymm (h'.2 _ h.1) (h.2 _ h'.1)
theorem stages_uniq {l : List Sys} {a b : List (List Int)} (ha : StagesOk l a) (hb : StagesOk l b) : a = b := by
  rcases ha with ⟨rfl, rfl⟩ | ⟨xs, m, hl, hx, hm, rfl⟩
  · rcases hb with ⟨_, rfl⟩ | ⟨ys, m', hl', hy, hm', rfl⟩
    · rfl
    · have e : ys = [] := List.eq_nil_of_length_eq_zero (by simpa using hl')
      subst e
      exact absurd hm'.1 (by simp)
  · rcases hb with ⟨rfl, rfl⟩ | ⟨ys, m', hl', hy, hm', rfl⟩
    · have e : xs = [] := List.eq_nil_of_length_eq_zero (by simpa using hl)
      subst e
      exact absurd hm.1 (by simp)
    · obtain rfl := lev_eq hx hy hl hl'
      obtain rfl := max_uniq hm hm'
      rfl

theorem IsRest.uniq {l : List Sys} {bs bs' : List (List Int)} {i lo : Nat} {r r' : List Int} (h : IsRest l bs i r lo) (h' : IsRest l bs' i r' lo) (he : ∀ k, lo ≤ k → k < l.length → bs.getD k [] = bs'.getD k []) : r = r' := by
  rcases h with ⟨rfl, h2⟩ | ⟨k, h1, h2, h3, rfl, h5⟩
  · rcases h' with ⟨rfl, _⟩ | ⟨k', g1, g2, g3, _, _⟩
    · rfl
    · rw [h2 k' g1 g2] at g3; cases g3
  · rcases h' with ⟨_, g2⟩ | ⟨k', g1, g2, g3, rfl, g5⟩
    · rw [g2 k h1 h2] at h3; cases h3
    · have a := h5 k' g1 g2 g3
      have b := g5 k h1 h2 h3
      rw [he k h1 h2] at a ⊢
      rw [he k' g1 g2] at a
      rcases Nat.lt_trichotomy k k' with h | rfl | h
      · have := b.2 h; omega
      · rfl
      · have := a.2 h; omega
theorem bests_uniq {l : List Sys} {bs bs' : List (List Int)} (h : IsBests l bs 0) (h' : IsBests l bs' 0) : ∀ d i, i < l.length → l.length - i = d → bs.getD i [] = bs'.getD i [] := by
  intro d
  induction d using Nat.strongRecOn with
  | _ d ih =>
    intro i hi hd
    obtain ⟨r, e, hr⟩ := h i (by omega) hi
    obtain ⟨r', e', hr'⟩ := h' i (by omega) hi
    rw [e, e', hr.uniq hr' fun k hk1 hk2 => ih (l.length - k) (by omega) k hk2 rfl]
theorem IsOut.uniq {l : List Sys} {bs bs' : List (List Int)} {lo : Nat} {r r' : List Int} (h : IsOut l bs r lo) (h' : IsOut l bs' r' lo) (he : ∀ k, k < l.length → bs.getD k [] = bs'.getD k []) : r = r' := by
  rcases h with ⟨rfl, h2⟩ | ⟨k, h1, h2, rfl, h5⟩
  · rcases h' with ⟨rfl, _⟩ | ⟨k', g1, g2, _⟩
    · rfl
    · omega
  · rcases h' with ⟨_, g2⟩ | ⟨k', g1, g2, rfl, g5⟩
    · omega
    · have a := h5 k' g1 g2
      have b := g5 k h1 h2
      rw [he k h2] at a ⊢
      rw [he k' g2] at a
      rcases Nat.lt_trichotomy k k' with h | rfl | h
      · have := b.2 h; omega
      · rfl
      · have := a.2 h; omega
theorem chain_uniq {l : List Sys} {c c' : List Int} (h : ChainOk l c) (h' : ChainOk l c') : c = c' := by
  obtain ⟨bs, _, hb, ho⟩ := h
  obtain ⟨bs', _, hb', ho'⟩ := h'
  exact ho.uniq ho' fun k hk => bests_uniq hb hb' _ k hk rfl

theorem ex_valid : validS exL = true := by decide +kernel
theorem ex_lev : IsLev exL 4 [0, 1, 0, 2] := by
  intro i hi
  have hi' : i = 0 ∨ i = 1 ∨ i = 2 ∨ i = 3 := by omega
  rcases hi' with rfl | rfl | rfl | rfl
  · exact ⟨⟨fun k hk => absurd hk.1 (by omega), .inl rfl, by decide⟩, by decide⟩
  · refine ⟨⟨fun k hk => ?_, .inr ⟨0, ⟨by decide, by decide +kernel⟩, rfl⟩, by decide⟩, by decide⟩
    obtain rfl : k = 0 := by omega
    decide
  · refine ⟨⟨fun k hk => ?_, .inl rfl, by decide⟩, by decide⟩
    exfalso
    obtain ⟨h1, h2⟩ := hk
    have : k = 0 ∨ k = 1 := by omega
    rcases this with rfl | rfl
    · exact absurd h2 (by decide +kernel)
    · exact absurd h2 (by decide +kernel)
  · refine ⟨⟨fun k hk => ?_, .inr ⟨1, ⟨by decide, by decide +kernel⟩, rfl⟩, by decide⟩, by decide⟩
    obtain ⟨h1, h2⟩ := hk
    have : k = 0 ∨ k = 1 ∨ k = 2 := by omega
    rcases this with rfl | rfl | rfl <;> decide
theorem ex_max : IsMax [0, 1, 0, 2] 2 := ⟨by decide, by decide⟩
theorem ex_stages {xss : List (List Int)} (h : StagesOk exL xss) : xss = [[0, 2], [1], [3]] := by
  refine stages_uniq h (.inr ⟨[0, 1, 0, 2], 2, rfl, ex_lev, ex_max, ?_⟩)
  decide +kernel
theorem ex_chain {c : List Int} (h : ChainOk exL c) : c = [0, 1, 3] := by
  refine chain_uniq h ⟨[[0, 1, 3], [1, 3], [2], [3]], rfl, fun i _ hi => ?_, .inr ⟨0, by decide, by decide, rfl, fun q _ hq => ?_⟩⟩
  · have hi' : i = 0 ∨ i = 1 ∨ i = 2 ∨ i = 3 := by have : exL.length = 4 := rfl; omega
    rcases hi' with rfl | rfl | rfl | rfl
    · refine ⟨[1, 3], rfl, .inr ⟨1, by decide, by decide, by decide +kernel, rfl, fun q h1 h2 h3 => ?_⟩⟩
      have : q = 1 ∨ q = 2 ∨ q = 3 := by have : exL.length = 4 := rfl; omega
      rcases this with rfl | rfl | rfl <;> decide
    · refine ⟨[3], rfl, .inr ⟨3, by decide, by decide, by decide +kernel, rfl, fun q h1 h2 h3 => ?_⟩⟩
      have : q = 2 ∨ q = 3 := by have : exL.length = 4 := rfl; omega
      rcases this with rfl | rfl
      · exact absurd h3 (by decide +kernel)
      · decide
    · refine ⟨[], rfl, .inl ⟨rfl, fun k h1 h2 => ?_⟩⟩
      have : k = 3 := by have : exL.length = 4 := rfl; omega
      subst this
      decide +kernel
    · refine ⟨[], rfl, .inl ⟨rfl, fun k h1 h2 => ?_⟩⟩
      have : exL.length = 4 := rfl
      omega
  · have : q = 0 ∨ q = 1 ∨ q = 2 ∨ q = 3 := by have : exL.length = 4 := rfl; omega
    rcases this with rfl | rfl | rfl | rfl <;> decide
theorem ex_ready : readyR exL [0] = ([1, 2], 0) := by decide +kernel
theorem ex_legal1 : legalR exL [2, 0, 1, 3] = true := by decide +kernel
theorem ex_legal2 : legalR exL [0, 1, 3, 2] = true := by decide +kernel
theorem ex_legal3 : legalR exL [1, 0, 2, 3] = false := by decide +kernel
end Go.Proofs.Ytbcfanfnnmijdaa
