/- The longest chain, told place by place: at each place the smallest system with which a longest chain goes on. Plain mathematics. -/
import Derived.Test.YtbcfanfnnmijdaaChainM
namespace Go.Proofs.Ytbcfanfnnmijdaa

/-- number i of xs is the length of the longest chain that begins with system i, as far as the systems below n tell -/
def LongIn (l : List Sys) (xs : List Int) (i n : Nat) : Prop :=
  (∀ k, i < k → k < n → cfl l i k = true → xs.getD k 0 + 1 ≤ xs.getD i 0) ∧ (xs.getD i 0 = 1 ∨ ∃ k, i < k ∧ k < n ∧ cfl l i k = true ∧ xs.getD i 0 = xs.getD k 0 + 1) ∧ 1 ≤ xs.getD i 0 ∧ xs.getD i 0 ≤ (l.length : Int) - i
def LongFrom (l : List Sys) (xs : List Int) (n : Nat) : Prop := ∀ i, n ≤ i → i < l.length → LongIn l xs i l.length
theorem getD_set_ne' {ys : List Int} {k i : Nat} (h : i ≠ k) (x : Int) : (ys.set k x).getD i 0 = ys.getD i 0 := by
  simp only [List.getD_eq_getElem?_getD]
  rw [List.getElem?_set_ne (Ne.symm h)]
theorem getD_set_eq' {ys : List Int} {k : Nat} (h : k < ys.length) (x : Int) : (ys.set k x).getD k 0 = x := by
  simp only [List.getD_eq_getElem?_getD]
  rw [List.getElem?_set_self h]; rfl
theorem LongFrom.set {l : List Sys} {xs : List Int} {i : Nat} (h : LongFrom l xs (i + 1)) (x : Int) : LongFrom l (xs.set i x) (i + 1) := by
  intro j hj hjl
  obtain ⟨h1, h2, h3, h4⟩ := h j hj hjl
  have e : ∀ k, j ≤ k → (xs.set i x).getD k 0 = xs.getD k 0 := fun k hk => getD_set_ne' (by omega) x
  refine ⟨fun k hk hkl hc => by rw [e k (by omega), e j (Nat.le_refl _)]; exact h1 k hk hkl hc, ?_, by rw [e j (Nat.le_refl _)]; exact h3, by rw [e j (Nat.le_refl _)]; exact h4⟩
  rw [e j (Nat.le_refl _)]
  rcases h2 with h2 | ⟨k, a, b, c, d⟩
  · exact .inl h2
  · exact .inr ⟨k, a, b, c, by rw [e k (by omega)]; exact d⟩
theorem LongIn.start {l : List Sys} {xs : List Int} {i : Nat} (hi : i < l.length) (hx : xs.length = l.length) : LongIn l (xs.set i 1) i (i + 1) := by
  rw [LongIn, getD_set_eq' (by omega)]
  exact ⟨fun k hk hkl _ => by omega, .inl rfl, by omega, by omega⟩
theorem LongIn.skip {l : List Sys} {xs : List Int} {i k : Nat} (h : LongIn l xs i k) (hc : cfl l i k = false ∨ xs.getD k 0 + 1 ≤ xs.getD i 0) : LongIn l xs i (k + 1) := by
  obtain ⟨h1, h2, h3, h4⟩ := h
  refine ⟨fun q hq hqk hcq => ?_, ?_, h3, h4⟩
  · rcases Nat.lt_or_ge q k with h | h
    · exact h1 q hq h hcq
    · obtain rfl : q = k := by omega
      rcases hc with hc | hc
      · rw [hc] at hcq; cases hcq
      · exact hc
  · rcases h2 with h2 | ⟨q, a, b, c, d⟩
    · exact .inl h2
    · exact .inr ⟨q, a, by omega, c, d⟩
theorem LongIn.take {l : List Sys} {xs : List Int} {i k : Nat} (h : LongIn l xs i k) (hi : i < xs.length) (hik : i < k) (hc : cfl l i k = true) (hg : xs.getD i 0 < xs.getD k 0 + 1) (hk : xs.getD k 0 ≤ (l.length : Int) - k) : LongIn l (xs.set i (xs.getD k 0 + 1)) i (k + 1) := by
  obtain ⟨h1, h2, h3, h4⟩ := h
  have e : ∀ q, i < q → (xs.set i (xs.getD k 0 + 1)).getD q 0 = xs.getD q 0 := fun q hq => getD_set_ne' (by omega) _
  rw [LongIn, getD_set_eq' hi]
  refine ⟨fun q hq hqk hcq => ?_, .inr ⟨k, hik, by omega, hc, by rw [e k hik]⟩, by omega, by omega⟩
  rw [e q hq]
  rcases Nat.lt_or_ge q k with h | h
  · have := h1 q hq h hcq; omega
  · obtain rfl : q = k := by omega
    exact Int.le_refl _
theorem LongFrom.step {l : List Sys} {xs : List Int} {i : Nat} (h : LongFrom l xs (i + 1)) (hi : LongIn l xs i l.length) : LongFrom l xs i := by
  intro j hj hjl
  rcases Nat.lt_or_ge i j with h' | h'
  · exact h j h' hjl
  · obtain rfl : j = i := by omega
    exact hi
theorem long_blen {l : List Sys} {xs : List Int} {bs : List (List Int)} (hx : LongFrom l xs 0) (hb : IsBests l bs 0) : ∀ d i, i < l.length → l.length - i = d → xs.getD i 0 = (blen bs i : Int) := by
  intro d
  induction d using Nat.strongRecOn with
  | _ d ih =>
    intro i hi hd
    obtain ⟨h1, h2, h3, _⟩ := hx i (by omega) hi
    have hp := blen_pos hb hi
    have hle : xs.getD i 0 ≤ blen bs i := by
      rcases h2 with h2 | ⟨k, a, b, c, e⟩
      · omega
      · have := ih (l.length - k) (by omega) k b rfl
        have := blen_gt hb a b c
        omega
    have hge : (blen bs i : Int) ≤ xs.getD i 0 := by
      rcases blen_next hb hi with h | ⟨k, a, b, c, e⟩
      · omega
      · have := ih (l.length - k) (by omega) k b rfl
        have := h1 k a b c
        omega
    omega
/-- what is said of place t of the chain c: system K stands there, it is the smallest that can -/
def SpotOk (l : List Sys) (xs : List Int) (c : List Int) : Prop :=
  (∀ i, i < l.length → xs.getD i 0 ≤ c.length) ∧ (c.length = 0 → l.length = 0) ∧
  ∀ (t : Nat) (h : t < c.length), ∃ K : Nat, c[t] = (K : Int) ∧ K < l.length ∧ xs.getD K 0 = (c.length : Int) - t ∧
    ((t = 0 ∧ ∀ q, q < K → xs.getD q 0 ≠ (c.length : Int) - t) ∨ ∃ x : Nat, 0 < t ∧ c[t - 1]? = some (x : Int) ∧ x < K ∧ cfl l x K = true ∧ ∀ q, q < K → ¬ (xs.getD q 0 = (c.length : Int) - t ∧ x < q ∧ cfl l x q = true))
theorem best_drop {l : List Sys} {bs : List (List Int)} (hb : IsBests l bs 0) : ∀ (c : List Int) (i : Nat), i < l.length → bs.getD i [] = c → ∀ (t : Nat) (h : t < c.length), ∃ K : Nat, c[t] = (K : Int) ∧ K < l.length ∧ c.drop t = bs.getD K [] ∧
    (t = 0 ∧ K = i ∨ ∃ x : Nat, 0 < t ∧ c[t - 1]? = some (x : Int) ∧ x < K ∧ cfl l x K = true ∧ ∀ q, q < K → x < q → cfl l x q = true → blen bs q < blen bs K) := by
  intro c
  induction c with
  | nil => intro i _ _ t h; simp at h
  | cons y c ih =>
    intro i hi he t ht
    obtain ⟨r, e, hr⟩ := hb i (by omega) hi
    rw [e] at he
    cases he
    cases t with
    | zero => exact ⟨i, rfl, hi, by rw [e]; rfl, .inl ⟨rfl, rfl⟩⟩
    | succ t =>
      have ht' : t < c.length := by simpa using ht
      rcases hr with ⟨rfl, _⟩ | ⟨k, h1, h2, h3, h4, h5⟩
      · simp at ht'
      · obtain ⟨K, g1, g2, g3, g4⟩ := ih k h2 h4.symm t ht'
        refine ⟨K, by simpa using g1, g2, by simpa using g3, .inr ?_⟩
        rcases g4 with ⟨rfl, rfl⟩ | ⟨x, a, b, c', d, f⟩
        · refine ⟨i, by omega, by simp, by omega, h3, fun q hq hiq hc => ?_⟩
          exact (h5 q (by omega) (by omega) hc).2 hq
        · refine ⟨x, by omega, ?_, c', d, f⟩
          rw [show t + 1 - 1 = (t - 1) + 1 from by omega, List.getElem?_cons_succ]
          exact b
theorem chain_spots {l : List Sys} {xs : List Int} {c : List Int} (hx : LongFrom l xs 0) (hc : ChainOk l c) : SpotOk l xs c := by
  obtain ⟨bs, _, hb, ho⟩ := hc
  rcases ho with ⟨rfl, h2⟩ | ⟨i, _, h2, rfl, h4⟩
  · exact ⟨fun i hi => absurd hi (by omega), fun _ => by omega, fun t h => by simp at h⟩
  · have hlb := long_blen hx hb
    refine ⟨fun k hk => ?_, fun h => ?_, fun t ht => ?_⟩
    · rw [hlb _ k hk rfl]
      have := (h4 k (by omega) hk).1
      unfold blen; omega
    · have := blen_pos hb h2
      unfold blen at this; omega
    · obtain ⟨K, g1, g2, g3, g4⟩ := best_drop hb _ i h2 rfl t ht
      have hK : xs.getD K 0 = ((bs.getD i []).length : Int) - t := by
        rw [hlb _ K g2 rfl]
        unfold blen
        rw [← g3, List.length_drop]
        omega
      have hKb : (blen bs K : Int) = ((bs.getD i []).length : Int) - t := by rw [← hlb _ K g2 rfl]; exact hK
      refine ⟨K, g1, g2, hK, ?_⟩
      rcases g4 with ⟨rfl, rfl⟩ | ⟨x, a, b, c', d, f⟩
      · refine .inl ⟨rfl, fun q hq e => ?_⟩
        have := (h4 q (by omega) (by omega)).2 hq
        rw [hlb _ q (by omega) rfl] at e
        unfold blen at e; omega
      · refine .inr ⟨x, a, b, c', d, fun q hq ⟨e1, e2, e3⟩ => ?_⟩
        have := f q hq e2 e3
        rw [hlb _ q (by omega) rfl] at e1
        omega
end Go.Proofs.Ytbcfanfnnmijdaa
