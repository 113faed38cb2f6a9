/- What a lexed list looks like, and that its joined texts are lexed to the same tokens. Plain mathematics. -/
import Derived.Test.YtcichbdkdbnmiaaDoorLexM
import Derived.Lib.Join
namespace Go.Proofs.YtcichbdkdbnmiaaDoor

def textsS (l : List Tok) : List (List UInt8) := (l.filter fun t => decide (t.kind ≠ 4)).map (·.text)
def joinS (l : List Tok) : List UInt8 := Lib.join (textsS l) [32]
def endT (l c : Int) : Tok := ⟨4, [], 0, l, c⟩
theorem lexF_shape : ∀ (n : Nat) (bs : List UInt8), bs.length ≤ n → ∀ (l c : Int) (ts : List Tok), lexF bs l c = .ok ts → ∃ us l' c', ts = us ++ [endT l' c'] ∧ ∀ t ∈ us, TokOk t := by
  intro n
  induction n with
  | zero =>
    intro bs hb l c ts h
    obtain rfl : bs = [] := List.eq_nil_of_length_eq_zero (by omega)
    rw [lexF_nil] at h
    cases h
    exact ⟨[], l, c, rfl, by simp⟩
  | succ n ih =>
    intro bs hb l c ts h
    rw [lexF_eq] at h
    have hsl := skip_len bs false l c
    generalize (skipS bs false l c).1 = bs' at *
    generalize (skipS bs false l c).2.1 = l' at *
    generalize (skipS bs false l c).2.2 = c' at *
    rcases lexT_cases bs' l' c' with ⟨_, h1⟩ | ⟨code, _, h1, _⟩ | ⟨t, ht, _, _, h2, h3, h1⟩
    · rw [h1] at h
      cases h
      exact ⟨[], l', c', rfl, by simp⟩
    · rw [h1] at h; cases h
    · rw [h1] at h
      have ht1 : 1 ≤ t.text.length := List.length_pos_iff.2 ht.text
      cases hr : lexF (bs'.drop t.text.length) l' (c' + t.text.length) with
      | err a b c => rw [hr] at h; cases h
      | ok m =>
        rw [hr] at h
        cases h
        have hl : (bs'.drop t.text.length).length = bs'.length - t.text.length := List.length_drop
        obtain ⟨us, a, b, rfl, hu⟩ := ih _ (by omega) _ _ _ hr
        refine ⟨t :: us, a, b, rfl, fun x hx => ?_⟩
        rcases List.mem_cons.1 hx with rfl | hx
        · exact ht
        · exact hu x hx
theorem texts_good {us : List Tok} (hu : ∀ t ∈ us, TokOk t) (l c : Int) : textsS (us ++ [endT l c]) = us.map (·.text) := by
  unfold textsS
  rw [List.filter_append]
  have e : us.filter (fun t => decide (t.kind ≠ 4)) = us := List.filter_eq_self.2 fun t ht => decide_eq_true (hu t ht).kind
  rw [e]
  simp [endT]
theorem relex : ∀ (us : List Tok), (∀ t ∈ us, TokOk t) → ∀ (l c : Int), ∃ us' c', lexF (Lib.join (us.map (·.text)) [32]) l c = .ok (us' ++ [endT l c']) ∧ us'.map Tok.bare = us.map Tok.bare ∧ ∀ t ∈ us', TokOk t := by
  intro us
  induction us with
  | nil => intro _ l c; exact ⟨[], c, by simp [Lib.join, lexF_nil, endT], rfl, by simp⟩
  | cons t us ih =>
    intro hu l c
    have ht := hu t (by simp)
    cases us with
    | nil =>
      refine ⟨[t.moved l c], c + t.text.length, ?_, rfl, by simpa using ht.moved l c⟩
      have := lexF_tok ht (r := []) rfl l c
      rw [List.append_nil] at this
      have e0 : Lib.join ([t].map (·.text)) [32] = t.text := by simp [Lib.join_cons, Lib.joinTail]
      rw [e0, this, lexF_nil]
      rfl
    | cons u us =>
      obtain ⟨us', c', h1, h2, h3⟩ := ih (fun x hx => hu x (List.mem_cons_of_mem _ hx)) l (c + t.text.length + 1)
      refine ⟨t.moved l c :: us', c', ?_, by simp only [List.map_cons] at h2 ⊢; rw [h2]; rfl, fun x hx => ?_⟩
      · have e : Lib.join ((t :: u :: us).map (·.text)) [32] = t.text ++ (32 :: Lib.join ((u :: us).map (·.text)) [32]) := by
          simp only [List.map_cons, Lib.join_cons]
          simp [Lib.joinTail]
        rw [e, lexF_tok ht rfl, lexF_space, h1]
        rfl
      · rcases List.mem_cons.1 hx with rfl | hx
        · exact ht.moved l c
        · exact h3 x hx
theorem texts_bare {us us' : List Tok} (h : us'.map Tok.bare = us.map Tok.bare) : us'.map (·.text) = us.map (·.text) := by
  have := congrArg (List.map fun x : Int × List UInt8 × Int => x.2.1) h
  simpa [List.map_map, Tok.bare, Function.comp_def] using this
/-- joined, lexed and joined again -/
theorem joined_same {bs : List UInt8} {ts : List Tok} (h : lexF bs 1 1 = .ok ts) : ∃ ms, lexF (joinS ts) 1 1 = .ok ms ∧ ms.map Tok.bare = ts.map Tok.bare ∧ joinS ms = joinS ts := by
  obtain ⟨us, l, c, rfl, hu⟩ := lexF_shape _ bs (Nat.le_refl _) _ _ _ h
  obtain ⟨us', c', h1, h2, h3⟩ := relex us hu 1 1
  refine ⟨us' ++ [endT 1 c'], ?_, by rw [List.map_append, List.map_append, h2]; rfl, ?_⟩
  · unfold joinS; rw [texts_good hu]; exact h1
  · unfold joinS; rw [texts_good hu, texts_good h3, texts_bare h2]
/-- the codes of an error -/
theorem lexF_code : ∀ (n : Nat) (bs : List UInt8), bs.length ≤ n → ∀ (l c a b e : Int), lexF bs l c = .err a b e → e = 110 ∨ e = 111 ∨ e = 112 := by
  intro n
  induction n with
  | zero =>
    intro bs hb l c a b e h
    obtain rfl : bs = [] := List.eq_nil_of_length_eq_zero (by omega)
    rw [lexF_nil] at h
    cases h
  | succ n ih =>
    intro bs hb l c a b e h
    rw [lexF_eq] at h
    have hsl := skip_len bs false l c
    generalize (skipS bs false l c).1 = bs' at *
    generalize (skipS bs false l c).2.1 = l' at *
    generalize (skipS bs false l c).2.2 = c' at *
    rcases lexT_cases bs' l' c' with ⟨_, h1⟩ | ⟨code, _, h1, hc⟩ | ⟨t, ht, _, _, h2, h3, h1⟩
    · rw [h1] at h; cases h
    · rw [h1] at h; cases h; exact hc
    · rw [h1] at h
      have ht1 : 1 ≤ t.text.length := List.length_pos_iff.2 ht.text
      cases hr : lexF (bs'.drop t.text.length) l' (c' + t.text.length) with
      | ok m => rw [hr] at h; cases h
      | err a' b' e' =>
        rw [hr] at h
        cases h
        have hl : (bs'.drop t.text.length).length = bs'.length - t.text.length := List.length_drop
        exact ih _ (by omega) _ _ _ _ _ hr
end Go.Proofs.YtcichbdkdbnmiaaDoor
