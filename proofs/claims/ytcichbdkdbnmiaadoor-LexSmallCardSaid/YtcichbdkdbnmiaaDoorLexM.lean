/- The lexer's answer without fuel; what its tokens are like; joining. Plain mathematics. -/
import Derived.Test.YtcichbdkdbnmiaaDoorLexS
namespace Go.Proofs.YtcichbdkdbnmiaaDoor

theorem part_letter {b : UInt8} (h : letterB b = true) : partB b = true := by simp [partB, h]
theorem part_digit {b : UInt8} (h : digitB b = true) : partB b = true := by simp [partB, h]
theorem run_pos {b : UInt8} {r : List UInt8} (h : partB b = true) : 1 ≤ ((b :: r).takeWhile partB).length := by
  simp [h]
theorem lexTok_congr {go go' : List UInt8 → Int → Int → LexR} {xs : List UInt8} {l c : Int} (h : ∀ ys a b, ys.length < xs.length → go ys a b = go' ys a b) : lexTok go xs l c = lexTok go' xs l c := by
  cases xs with
  | nil => rfl
  | cons b r =>
    simp only [lexTok]
    split
    · rename_i hl
      have := run_pos (r := r) (part_letter hl)
      rw [h _ _ _ (by simp only [List.length_drop, List.length_cons]; omega)]
    · split
      · rename_i hd
        have := run_pos (r := r) (part_digit hd)
        rw [h _ _ _ (by simp only [List.length_drop, List.length_cons]; omega)]
      · split
        · rfl
        · rw [h _ _ _ (by simp only [List.length_drop, List.length_cons]; omega)]
theorem skip_len : ∀ (bs : List UInt8) (cm : Bool) (l c : Int), (skipS bs cm l c).1.length ≤ bs.length := by
  intro bs
  induction bs with
  | nil => intro cm l c; simp [skipS]
  | cons b r ih =>
    intro cm l c
    rw [skipS]
    split
    · have := ih false (l + 1) 1; simp only [List.length_cons]; omega
    · split
      · have := ih true l (c + 1); simp only [List.length_cons]; omega
      · split
        · have := ih false l (c + 1); simp only [List.length_cons]; omega
        · split
          · have := ih true l (c + 1); simp only [List.length_cons]; omega
          · exact Nat.le_refl _
theorem lexGo_fuel : ∀ (f g : Nat) (bs : List UInt8) (l c : Int), bs.length < f → bs.length < g → lexGo f bs l c = lexGo g bs l c := by
  intro f
  induction f with
  | zero => intro g bs l c h; omega
  | succ f ih =>
    intro g bs l c hf hg
    cases g with
    | zero => omega
    | succ g =>
      rw [lexGo, lexGo]
      refine lexTok_congr fun ys a b hy => ih g ys a b ?_ ?_
      · have := skip_len bs false l c; omega
      · have := skip_len bs false l c; omega
/-- the lexer's answer from here on -/
def lexF (bs : List UInt8) (l c : Int) : LexR := lexGo (bs.length + 1) bs l c
/-- .. where no blank stands in front -/
def lexT (bs : List UInt8) (l c : Int) : LexR := lexTok lexF bs l c
theorem lexF_eq (bs : List UInt8) (l c : Int) : lexF bs l c = lexT (skipS bs false l c).1 (skipS bs false l c).2.1 (skipS bs false l c).2.2 := by
  show lexGo (bs.length + 1) bs l c = _
  rw [lexGo]
  refine lexTok_congr fun ys a b hy => lexGo_fuel _ _ ys a b ?_ (Nat.lt_succ_self _)
  have := skip_len bs false l c
  omega
theorem lexS_eq (bs : List UInt8) : lexS bs = if 16384 < bs.length then .err 0 0 3 else lexF bs 1 1 := rfl
theorem lexT_nil (l c : Int) : lexT [] l c = .ok [⟨4, [], 0, l, c⟩] := rfl
theorem lexF_nil (l c : Int) : lexF [] l c = .ok [⟨4, [], 0, l, c⟩] := rfl

/-- a byte at which no token begins, between tokens -/
def stopsB : List UInt8 → Bool
  | [] => true
  | b :: _ => !partB b && !(b == 61) && !(b == 38) && !(b == 124)
theorem takeWhile_app {xs ys : List UInt8} (h : xs.all partB = true) (hy : ys.head?.all (fun b => !partB b) = true) : (xs ++ ys).takeWhile partB = xs := by
  induction xs with
  | nil =>
    cases ys with
    | nil => rfl
    | cons b r => simp at hy; simp [hy]
  | cons b r ih =>
    simp only [List.all_cons, Bool.and_eq_true] at h
    simp [h.1, ih h.2]
theorem stops_part {ys : List UInt8} (h : stopsB ys = true) : ys.head?.all (fun b => !partB b) = true := by
  cases ys with
  | nil => rfl
  | cons b r =>
    simp only [stopsB, Bool.and_eq_true] at h
    simpa using h.1.1.1
/-- a token of its own kind: word, number, sign -/
inductive TokOk : Tok → Prop
  | word {b : UInt8} {r : List UInt8} {l c : Int} (h1 : letterB b = true) (h2 : (b :: r).all partB = true) (h3 : (b :: r).length ≤ 24) : TokOk ⟨1, b :: r, 0, l, c⟩
  | number {b : UInt8} {r : List UInt8} {n l c : Int} (h0 : letterB b = false) (h1 : digitB b = true) (h2 : (b :: r).all partB = true) (h3 : valueR (b :: r) = some n) : TokOk ⟨2, b :: r, n, l, c⟩
  | sign {b : UInt8} {r : List UInt8} {l c : Int} (h0 : letterB b = false) (h1 : digitB b = false) (h2 : signLen (b :: r) = (b :: r).length) : TokOk ⟨3, b :: r, 0, l, c⟩
/-- tokens but for their places -/
def Tok.bare (t : Tok) : Int × List UInt8 × Int := (t.kind, t.text, t.n)
def Tok.moved (t : Tok) (l c : Int) : Tok := ⟨t.kind, t.text, t.n, l, c⟩
theorem TokOk.moved {t : Tok} (h : TokOk t) (l c : Int) : TokOk (t.moved l c) := by
  cases h with
  | word h1 h2 h3 => exact .word h1 h2 h3
  | number h0 h1 h2 h3 => exact .number h0 h1 h2 h3
  | sign h0 h1 h2 => exact .sign h0 h1 h2
theorem Tok.moved_bare (t : Tok) (l c : Int) : (t.moved l c).bare = t.bare := rfl
theorem TokOk.kind {t : Tok} (h : TokOk t) : t.kind ≠ 4 := by cases h <;> simp
theorem TokOk.text {t : Tok} (h : TokOk t) : t.text ≠ [] := by cases h <;> simp
theorem take_run (xs : List UInt8) : xs.take (xs.takeWhile partB).length = xs.takeWhile partB := by
  induction xs with
  | nil => rfl
  | cons b r ih =>
    by_cases h : partB b = true
    · simp [h, ih]
    · simp [h]
theorem run_all (xs : List UInt8) : (xs.takeWhile partB).all partB = true := by
  induction xs with
  | nil => rfl
  | cons b r ih =>
    by_cases h : partB b = true
    · simp only [List.takeWhile_cons, h, if_true, List.all_cons, Bool.true_and]; exact ih
    · simp [h]
theorem run_cons {b : UInt8} {r : List UInt8} (h : partB b = true) : (b :: r).takeWhile partB = b :: r.takeWhile partB := by simp [h]
theorem sign_two {a b : UInt8} {r : List UInt8} : signLen (a :: b :: r) = signLen [a, b] := rfl
theorem sign_le (xs : List UInt8) : signLen xs ≤ xs.length := by
  match xs with
  | [] => exact Nat.le_refl _
  | [a] => simp only [signLen]; split <;> simp
  | a :: b :: r => simp only [signLen]; split <;> (try split) <;> simp
theorem sign_le2 (xs : List UInt8) : signLen xs ≤ 2 := by
  match xs with
  | [] => simp [signLen]
  | [a] => simp only [signLen]; split <;> simp
  | a :: b :: r => simp only [signLen]; split <;> (try split) <;> simp
theorem sign_take (xs : List UInt8) (h : signLen xs ≠ 0) : signLen (xs.take (signLen xs)) = signLen xs := by
  match xs, h with
  | [], h => exact absurd rfl h
  | [a], h =>
    have h1 : signLen [a] = 1 := by
      simp only [signLen] at h ⊢
      split at h
      · rename_i h'; rw [if_pos h']
      · exact absurd rfl h
    rw [h1]; exact h1
  | a :: b :: r, h =>
    have e : signLen (a :: b :: r) = if (a.toNat, b.toNat) ∈ twoSigns then 2 else if a.toNat ∈ oneSigns then 1 else 0 := rfl
    rw [e] at h ⊢
    split
    · rename_i h2
      show signLen [a, b] = 2
      simp only [signLen]
      rw [if_pos h2]
    · rename_i h2
      rw [if_neg h2] at h
      split
      · rename_i h1
        show signLen [a] = 1
        simp only [signLen]
        rw [if_pos h1]
      · rename_i h1
        rw [if_neg h1] at h
        exact absurd rfl h
/-- what the lexer takes in front -/
theorem lexT_cases (bs : List UInt8) (l c : Int) :
    (bs = [] ∧ lexT bs l c = .ok [⟨4, [], 0, l, c⟩]) ∨
    (∃ code : Int, bs ≠ [] ∧ lexT bs l c = .err l c code ∧ (code = 110 ∨ code = 111 ∨ code = 112)) ∨
    (∃ t : Tok, TokOk t ∧ t.line = l ∧ t.col = c ∧ bs = t.text ++ bs.drop t.text.length ∧ t.text.length ≤ bs.length ∧ lexT bs l c = (lexF (bs.drop t.text.length) l (c + t.text.length)).cons t) := by
  cases bs with
  | nil => exact .inl ⟨rfl, rfl⟩
  | cons b r =>
    refine .inr ?_
    show _ ∨ _
    have hT : lexT (b :: r) l c = lexTok lexF (b :: r) l c := rfl
    rw [hT, lexTok]
    have hlen : ∀ n, n ≤ (b :: r).length → ((b :: r).take n).length = n := fun n h => by rw [List.length_take]; omega
    have hw : ((b :: r).takeWhile partB).length ≤ (b :: r).length := (List.takeWhile_prefix _).length_le
    split
    · rename_i hl
      split
      · exact .inl ⟨111, by simp, rfl, by simp⟩
      · rename_i h24
        refine .inr ⟨⟨1, (b :: r).takeWhile partB, 0, l, c⟩, ?_, rfl, rfl, ?_, hw, rfl⟩
        · have ha := run_all (b :: r)
          have hc := run_cons (r := r) (part_letter hl)
          rw [hc] at ha h24 ⊢
          exact .word hl ha (by omega)
        · show b :: r = (b :: r).takeWhile partB ++ (b :: r).drop ((b :: r).takeWhile partB).length
          have := List.take_append_drop ((b :: r).takeWhile partB).length (b :: r)
          rw [take_run] at this
          exact this.symm
    · rename_i hl
      split
      · rename_i hd
        split
        · exact .inl ⟨112, by simp, rfl, by simp⟩
        · rename_i n hn
          refine .inr ⟨⟨2, (b :: r).takeWhile partB, n, l, c⟩, ?_, rfl, rfl, ?_, hw, rfl⟩
          · have ha := run_all (b :: r)
            have hc := run_cons (r := r) (part_digit hd)
            rw [hc] at ha hn ⊢
            exact .number (by simpa using hl) hd ha hn
          · show b :: r = (b :: r).takeWhile partB ++ (b :: r).drop ((b :: r).takeWhile partB).length
            have := List.take_append_drop ((b :: r).takeWhile partB).length (b :: r)
            rw [take_run] at this
            exact this.symm
      · rename_i hd
        split
        · exact .inl ⟨110, by simp, rfl, by simp⟩
        · rename_i hs
          have hs1 := sign_le (b :: r)
          have hs2 := sign_take (b :: r) hs
          refine .inr ⟨⟨3, (b :: r).take (signLen (b :: r)), 0, l, c⟩, ?_, rfl, rfl, ?_, ?_, ?_⟩
          · obtain ⟨k, hk⟩ : ∃ k, signLen (b :: r) = k + 1 := ⟨signLen (b :: r) - 1, by omega⟩
            rw [hk] at hs2 ⊢
            rw [List.take_succ_cons] at hs2 ⊢
            refine .sign (by simpa using hl) (by simpa using hd) ?_
            rw [hs2, ← List.take_succ_cons, hlen _ (by omega)]
          · show b :: r = (b :: r).take (signLen (b :: r)) ++ (b :: r).drop ((b :: r).take (signLen (b :: r))).length
            rw [hlen _ hs1, List.take_append_drop]
          · show ((b :: r).take (signLen (b :: r))).length ≤ _
            rw [hlen _ hs1]; exact hs1
          · show _ = (lexF ((b :: r).drop ((b :: r).take (signLen (b :: r))).length) l (c + ((b :: r).take (signLen (b :: r))).length)).cons _
            rw [hlen _ hs1]
theorem sign_stop {xs ys : List UInt8} (h0 : xs ≠ []) (h : signLen xs = xs.length) (hy : stopsB ys = true) : signLen (xs ++ ys) = xs.length := by
  match xs, h0 with
  | [a], _ =>
    cases ys with
    | nil => exact h
    | cons b r =>
      have h1 : a.toNat ∈ oneSigns := by
        simp only [signLen] at h
        split at h
        · assumption
        · exact absurd h (by simp)
      have h2 : ¬ (a.toNat, b.toNat) ∈ twoSigns := by
        intro h2
        simp only [stopsB, Bool.and_eq_true, Bool.not_eq_true', beq_eq_false_iff_ne, ne_eq] at hy
        obtain ⟨⟨⟨_, h61⟩, h38⟩, h124⟩ := hy
        have e : ∀ k : UInt8, b.toNat = k.toNat → b = k := fun k hk => UInt8.toNat_inj.1 hk
        simp only [twoSigns, List.mem_cons, Prod.mk.injEq, List.not_mem_nil, or_false] at h2
        rcases h2 with h2 | h2 | h2 | h2 | h2 | h2
        · exact h61 (e 61 h2.2)
        · exact h61 (e 61 h2.2)
        · exact h61 (e 61 h2.2)
        · exact h61 (e 61 h2.2)
        · exact h38 (e 38 h2.2)
        · exact h124 (e 124 h2.2)
      show signLen (a :: b :: r) = 1
      simp only [signLen]
      rw [if_neg h2, if_pos h1]
  | [a, b], _ => exact h
  | a :: b :: d :: r, _ =>
    have := sign_le2 (a :: b :: d :: r)
    rw [h] at this
    simp at this
/-- a token in front of what does not go on with it -/
theorem lexT_tok {t : Tok} (ht : TokOk t) {r : List UInt8} (hr : stopsB r = true) (l c : Int) : lexT (t.text ++ r) l c = (lexF r l (c + t.text.length)).cons (t.moved l c) := by
  have hp := stops_part hr
  cases ht with
  | @word b s l0 c0 h1 h2 h3 =>
    have hw : (b :: (s ++ r)).takeWhile partB = b :: s := takeWhile_app (xs := b :: s) h2 hp
    show lexTok lexF (b :: (s ++ r)) l c = _
    rw [lexTok, if_pos h1, hw, if_neg (by omega), show b :: (s ++ r) = (b :: s) ++ r from rfl, List.drop_left]
    rfl
  | @number b s n l0 c0 h0 h1 h2 h3 =>
    have hw : (b :: (s ++ r)).takeWhile partB = b :: s := takeWhile_app (xs := b :: s) h2 hp
    show lexTok lexF (b :: (s ++ r)) l c = _
    rw [lexTok, if_neg (by rw [h0]; simp), if_pos h1, hw, h3, show b :: (s ++ r) = (b :: s) ++ r from rfl, List.drop_left]
    rfl
  | @sign b s l0 c0 h0 h1 h2 =>
    have hs : signLen (b :: (s ++ r)) = (b :: s).length := sign_stop (xs := b :: s) (by simp) h2 hr
    show lexTok lexF (b :: (s ++ r)) l c = _
    rw [lexTok, if_neg (by rw [h0]; simp), if_neg (by rw [h1]; simp), hs, if_neg (by simp), show b :: (s ++ r) = (b :: s) ++ r from rfl, List.drop_left, List.take_left]
    rfl
/-- a byte with which a token begins is no blank -/
theorem tok_first {t : Tok} (ht : TokOk t) (r : List UInt8) (l c : Int) : skipS (t.text ++ r) false l c = (t.text ++ r, l, c) := by
  cases ht with
  | @word b s l0 c0 h1 h2 h3 =>
    have hb : letterI (b.toNat : Int) = true := h1
    simp only [letterI, Bool.or_eq_true, Bool.and_eq_true, decide_eq_true_eq, beq_iff_eq] at hb
    exact skip_stop (by omega) (by omega) (by omega) (by omega)
  | @number b s n l0 c0 h0 h1 h2 h3 =>
    have hb : digitI (b.toNat : Int) = true := h1
    simp only [digitI, Bool.and_eq_true, decide_eq_true_eq] at hb
    exact skip_stop (by omega) (by omega) (by omega) (by omega)
  | @sign b s l0 c0 h0 h1 h2 =>
    have hn : signLen (b :: s) ≠ 0 := by rw [h2]; simp
    have hb : b.toNat ∈ oneSigns ∨ b.toNat = 38 ∨ b.toNat = 124 := by
      cases s with
      | nil =>
        simp only [signLen] at hn
        split at hn
        · exact .inl ‹_›
        · exact absurd rfl hn
      | cons d s =>
        simp only [signLen] at hn
        split at hn
        · rename_i h
          simp only [twoSigns, List.mem_cons, Prod.mk.injEq, List.not_mem_nil, or_false] at h
          simp only [oneSigns, List.mem_cons, List.not_mem_nil, or_false]
          omega
        · split at hn
          · exact .inl ‹_›
          · exact absurd rfl hn
    simp only [oneSigns, List.mem_cons, List.not_mem_nil, or_false] at hb
    exact skip_stop (by omega) (by omega) (by omega) (by omega)
theorem lexF_tok {t : Tok} (ht : TokOk t) {r : List UInt8} (hr : stopsB r = true) (l c : Int) : lexF (t.text ++ r) l c = (lexF r l (c + t.text.length)).cons (t.moved l c) := by
  rw [lexF_eq, tok_first ht]
  exact lexT_tok ht hr l c
theorem lexF_space (r : List UInt8) (l c : Int) : lexF (32 :: r) l c = lexF r l (c + 1) := by
  rw [lexF_eq, lexF_eq r, skip_sp (.inl rfl)]
end Go.Proofs.YtcichbdkdbnmiaaDoor
