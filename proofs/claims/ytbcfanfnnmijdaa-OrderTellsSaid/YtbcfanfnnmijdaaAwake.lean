/- marcheslaw16.awake answers true in whatever world: the examples of the chapter; no condition. -/
import Derived.Test.YtbcfanfnnmijdaaOMath
import Derived.Test.YtbcfanfnnmijdaaRegion2
namespace Go.Proofs.Ytbcfanfnnmijdaa
open Go.RowKit

theorem Ints.lit (w : World) (xs : List Int) (n : Nat) (hn : xs.length = n) (hm : n ≤ 1000000000) : Ints (w.alloc (.cells (xs.map (Value.int .i64)).toArray 3)) xs (.slice (some ⟨w.heap.size, 0, none⟩) n n) := by
  subst hn
  exact Sl.of_block (OwnV.new w 3 _) (by simp) (Nat.le_refl _) (by omega)
theorem ints_same (xs : List Int) (v u : Value) (w : World) (hX : Ints w xs v) (hY : Ints w xs u) :
    Calls Try.prog 23 #[v, u] w fun e w' => e = .returned (.bool true) ∧ Below w.heap.size w w' := by
  have h := ints_any xs xs v u w hX hY
  simpa using h
theorem stages_ex (v : Value) (w : World) (hS : Syss w exL v) :
    Calls Try.prog 17 #[v] w fun e w' => ∃ sb so scap a0 c0 a1 c1 a2 c2, e = .returned (.tuple #[.slice (some ⟨sb, so, none⟩) 3 scap, .int .i64 0]) ∧
      3 ≤ scap ∧ w'.cell? ⟨sb, so, none⟩ = some (.slice a0 2 c0) ∧ w'.cell? ⟨sb, so + 1, none⟩ = some (.slice a1 1 c1) ∧ w'.cell? ⟨sb, so + 2, none⟩ = some (.slice a2 1 c2) ∧
      Ints w' [0, 2] (.slice a0 2 c0) ∧ Ints w' [1] (.slice a1 1 c1) ∧ Ints w' [3] (.slice a2 1 c2) ∧ Below w.heap.size w w' := by
  refine (stages_any exL v w hS exL_ok).mono ?_
  rintro e w' ⟨r, c, xss, rfl, ⟨vs, hsl, hrows⟩, hb, h⟩
  rcases h with ⟨h1, _, _⟩ | ⟨_, rfl, h3⟩
  · rw [ex_valid] at h1; cases h1
  · obtain rfl := ex_stages h3
    obtain ⟨sa, scap, rfl, hcap, _⟩ := hsl.form
    obtain ⟨sb, so, rfl, _, hc⟩ := hsl.at (by omega) (by decide)
    have hl : vs.length = 3 := hrows.1
    have g : ∀ i, i < 3 → vs[i]? = some (vs.getD i undef) := fun i hi => by rw [List.getD_eq_getElem?_getD, List.getElem?_eq_getElem (by omega)]; rfl
    have i0 := (hrows.2 0 _ [0, 2] (g 0 (by omega)) rfl).1
    have i1 := (hrows.2 1 _ [1] (g 1 (by omega)) rfl).1
    have i2 := (hrows.2 2 _ [3] (g 2 (by omega)) rfl).1
    obtain ⟨a0, c0, e0, _, _⟩ := i0.form
    obtain ⟨a1, c1, e1, _, _⟩ := i1.form
    obtain ⟨a2, c2, e2, _, _⟩ := i2.form
    have k0 := hc 0 (by decide)
    have k1 := hc 1 (by decide)
    have k2 := hc 2 (by decide)
    rw [g 0 (by omega), e0] at k0
    rw [g 1 (by omega), e1] at k1
    rw [g 2 (by omega), e2] at k2
    rw [e0] at i0
    rw [e1] at i1
    rw [e2] at i2
    exact ⟨sb, so, scap, a0, c0, a1, c1, a2, c2, rfl, hcap, k0, k1, k2, i0, i1, i2, hb⟩
theorem ready_ex (v u : Value) (w : World) (hS : Syss w exL v) (hD : Ints w [0] u) :
    Calls Try.prog 12 #[v, u] w fun e w' => ∃ ra rcap, e = .returned (.tuple #[.slice ra 2 rcap, .int .i64 0]) ∧ Ints w' [1, 2] (.slice ra 2 rcap) ∧ Below w.heap.size w w' := by
  refine (ready_any exL [0] v u w hS exL_ok hD (by decide)).mono ?_
  rintro e w' ⟨r, rfl, hr, hb⟩
  rw [ex_ready] at hr ⊢
  obtain ⟨ra, rcap, rfl, _, _⟩ := hr.form
  exact ⟨ra, rcap, rfl, hr, hb⟩
theorem chain_ex (v : Value) (w : World) (hS : Syss w exL v) :
    Calls Try.prog 16 #[v] w fun e w' => ∃ ca ccap, e = .returned (.tuple #[.slice ca 3 ccap, .int .i64 0]) ∧ Ints w' [0, 1, 3] (.slice ca 3 ccap) ∧ Below w.heap.size w w' := by
  refine (chain_any exL v w hS exL_ok).mono ?_
  rintro e w' ⟨r, c, xs, rfl, hr, hb, h⟩
  rcases h with ⟨h1, _, _⟩ | ⟨_, rfl, h3⟩
  · rw [ex_valid] at h1; cases h1
  · obtain rfl := ex_chain h3
    obtain ⟨ca, ccap, rfl, _, _⟩ := hr.form
    exact ⟨ca, ccap, rfl, hr, hb⟩
theorem legal_ex (o : List Int) (b : Bool) (ho : legalR exL o = b) (hw : ∀ x ∈ o, (Lit.int .i64 x).wf = true) (v u : Value) (w : World) (hS : Syss w exL v) (hD : Ints w o u) :
    Calls Try.prog 13 #[v, u] w fun e w' => e = .returned (.bool b) ∧ Below w.heap.size w w' := by
  refine (legal_any exL o v u w hS exL_ok hD hw).mono ?_
  rintro e w' ⟨rfl, hb⟩
  rw [ho]; exact ⟨rfl, hb⟩
theorem conflict_03 (w : World) : Calls Try.prog 14 #[.agg #[.string ⟨#[109, 111, 118, 101]⟩, .int .u32 4, .int .u32 2, .int .i64 0], .agg #[.string ⟨#[109, 97, 114, 107]⟩, .int .u32 2, .int .u32 1024, .int .i64 0]] w fun e w' => e = .returned (.bool true) ∧ Below w.heap.size w w' :=
  conflict_any ⟨⟨#[109, 111, 118, 101]⟩, 4#32, 2#32, 0⟩ ⟨⟨#[109, 97, 114, 107]⟩, 2#32, 1024#32, 0⟩ w
theorem conflict_20 (w : World) : Calls Try.prog 14 #[.agg #[.string ⟨#[104, 101, 97, 108]⟩, .int .u32 256, .int .u32 256, .int .i64 0], .agg #[.string ⟨#[109, 111, 118, 101]⟩, .int .u32 4, .int .u32 2, .int .i64 0]] w fun e w' => e = .returned (.bool false) ∧ Below w.heap.size w w' :=
  conflict_any ⟨⟨#[104, 101, 97, 108]⟩, 256#32, 256#32, 0⟩ ⟨⟨#[109, 111, 118, 101]⟩, 4#32, 2#32, 0⟩ w

theorem Below.behind {w w' : World} {o : Obj} (h : Below (w.alloc o).heap.size (w.alloc o) w') : Below w.heap.size w w' := ((Below.refl _ _).alloc (Nat.le_refl _) _).trans (h.mono (by simp))
theorem Below.undrew {w w' : World} (h : Below w.drew.heap.size w.drew w') : Below w.heap.size w w' := (Below.refl _ w).drew.trans h
/-- what awake knows of its own memory, from call to call -/
structure AwF (g sb so : Nat) (a0 : Option Addr) (c0 : Nat) (a1 : Option Addr) (c1 : Nat) (a2 : Option Addr) (c2 : Nat) (ra : Option Addr) (rcap : Nat) (ca : Option Addr) (ccap : Nat) (w : World) : Prop where
  s : Syss w exL (.slice (some ⟨g, 0, none⟩) 4 4)
  k0 : w.cell? ⟨sb, so, none⟩ = some (.slice a0 2 c0)
  k1 : w.cell? ⟨sb, so + 1, none⟩ = some (.slice a1 1 c1)
  k2 : w.cell? ⟨sb, so + 2, none⟩ = some (.slice a2 1 c2)
  i0 : Ints w [0, 2] (.slice a0 2 c0)
  i1 : Ints w [1] (.slice a1 1 c1)
  i2 : Ints w [3] (.slice a2 1 c2)
  r : Ints w [1, 2] (.slice ra 2 rcap)
  c : Ints w [0, 1, 3] (.slice ca 3 ccap)
theorem AwF.next {g sb so : Nat} {a0 : Option Addr} {c0 : Nat} {a1 : Option Addr} {c1 : Nat} {a2 : Option Addr} {c2 : Nat} {ra : Option Addr} {rcap : Nat} {ca : Option Addr} {ccap : Nat} {w w' : World} (F : AwF g sb so a0 c0 a1 c1 a2 c2 ra rcap ca ccap w) (hb : Below w.heap.size w w') : AwF g sb so a0 c0 a1 c1 a2 c2 ra rcap ca ccap w' :=
  ⟨F.s.below hb (Nat.le_refl _), Below.keep hb F.k0, Below.keep hb F.k1, Below.keep hb F.k2, F.i0.below hb (Nat.le_refl _), F.i1.below hb (Nat.le_refl _), F.i2.below hb (Nat.le_refl _), F.r.below hb (Nat.le_refl _), F.c.below hb (Nat.le_refl _)⟩
theorem AwF.al {g sb so : Nat} {a0 : Option Addr} {c0 : Nat} {a1 : Option Addr} {c1 : Nat} {a2 : Option Addr} {c2 : Nat} {ra : Option Addr} {rcap : Nat} {ca : Option Addr} {ccap : Nat} {w : World} (F : AwF g sb so a0 c0 a1 c1 a2 c2 ra rcap ca ccap w) (o : Obj) : AwF g sb so a0 c0 a1 c1 a2 c2 ra rcap ca ccap (w.alloc o) :=
  F.next (Below.alloc (Below.refl _ _) (Nat.le_refl _) _)
/-- the cells of the example's list -/
theorem exCell {w : World} {g : Nat} (h : Syss w exL (.slice (some ⟨g, 0, none⟩) 4 4)) : ∀ (j : Nat) (v : Value), exCells[j]? = some v → w.cell? ⟨g, j, none⟩ = some v := by
  intro j v hv
  obtain ⟨b, off, e, _, hc⟩ := Sl.at (by omega) h (by decide)
  cases e
  have hj : j < 16 := by
    rcases Nat.lt_or_ge j 16 with h | h
    · exact h
    · rw [List.getElem?_eq_none (by simpa [exCells] using h)] at hv; cases hv
  have := hc j hj
  rw [exL_cells, hv, Nat.zero_add] at this
  exact this

/-- the numbers of the lists that awake lays, by the place of the operation -/
def awArgs : Nat → Option (List Int)
  | 19 => some [0, 2]
  | 26 => some [1]
  | 33 => some [3]
  | 38 => some [1, 2]
  | 43 => some [0, 1, 3]
  | 48 => some [2, 0, 1, 3]
  | 53 => some [0, 1, 3, 2]
  | 58 => some [1, 0, 2, 3]
  | _ => none
def awPhi (j : Nat) (v : Value) (w : World) : Prop := ∀ xs, awArgs j = some xs → Ints w xs v

set_option maxRecDepth 100000 in
set_option maxHeartbeats 4000000 in
theorem awake_any (w : World) : Calls Try.prog 15 #[] w fun e w' => e = .returned (.bool true) ∧ Below w.heap.size w w' := by
  go_enter Try.func15, Try.ntmps15
  go_wp2_with fail
  refine (example_any _).mono ?_
  rintro e w1 ⟨rfl, hs1, hb1⟩
  generalize w.heap.size = g at hs1
  go_wp2_with fail
  refine (stages_ex _ _ hs1).mono ?_
  rintro e w2 ⟨sb, so, scap, a0, c0, a1, c1, a2, c2, rfl, hcap, k0, k1, k2, i0, i1, i2, hb2⟩
  have hs2 := hs1.below hb2 (Nat.le_refl _)
  have hb3 := hb1.trans (hb2.mono hb1.size)
  clear hs1 hb1 hb2
  have hI0 := Ints.lit w2 [0] 1 rfl (by decide)
  go_wp2_with fail
  refine (ready_ex _ _ _ (by exact hs2.below (Below.alloc (Below.refl _ _) (Nat.le_refl _) _) (Nat.le_refl _)) (by exact hI0)).mono ?_
  rintro e w3 ⟨ra, rcap, rfl, hr, hb4⟩
  have hb5 := Below.behind hb4
  have hs3 := hs2.below hb5 (Nat.le_refl _)
  clear hb4 hI0
  go_wp2_with fail
  refine (chain_ex _ _ hs3).mono ?_
  rintro e w4 ⟨ca, ccap, rfl, hc, hb6⟩
  have hb7 : Below w2.heap.size w2 w4 := hb5.trans (hb6.mono hb5.size)
  have F : AwF g sb so a0 c0 a1 c1 a2 c2 ra rcap ca ccap w4 := ⟨hs2.below hb7 (Nat.le_refl _), Below.keep hb7 k0, Below.keep hb7 k1, Below.keep hb7 k2, i0.below hb7 (Nat.le_refl _), i1.below hb7 (Nat.le_refl _), i2.below hb7 (Nat.le_refl _), hr.below hb6 (Nat.le_refl _), hc⟩
  have hB := hb3.trans (hb7.mono hb3.size)
  clear hs2 hs3 k0 k1 k2 i0 i1 i2 hr hc hb3 hb5 hb6 hb7
  have F4 := F
  have hB4 := hB
  clear F hB
  go_wp2_with fail
  simp only [List.append_eq, List.cons_append, List.nil_append]
  refine wp_region_rel (some (.int .i64 0) :: some (.bool true) :: some (.bool true) :: some (.int .i64 0) :: some (.bool true) :: some (.bool true) :: some (.bool true) :: some (.int .i64 0) :: some (.bool true) :: some (.bool true) :: some (.bool true) :: some (.slice (some ⟨sb, so, none⟩) 3 scap) :: some (.int .i64 3) :: some (.bool true) :: some (.bool true) :: some (.bool true) :: some (.slice (some ⟨sb, so, none⟩) 3 scap) :: some (.pointer (some ⟨sb, so, none⟩)) :: some (.slice a0 2 c0) :: none :: some (.bool true) :: some (.bool true) :: some (.bool true) :: some (.slice (some ⟨sb, so, none⟩) 3 scap) :: some (.pointer (some ⟨sb, so + 1, none⟩)) :: some (.slice a1 1 c1) :: none :: some (.bool true) :: some (.bool true) :: some (.bool true) :: some (.slice (some ⟨sb, so, none⟩) 3 scap) :: some (.pointer (some ⟨sb, so + 2, none⟩)) :: some (.slice a2 1 c2) :: none :: some (.bool true) :: some (.bool true) :: some (.bool true) :: some (.slice ra 2 rcap) :: none :: some (.bool true) :: some (.bool true) :: some (.bool true) :: some (.slice ca 3 ccap) :: none :: some (.bool true) :: some (.bool true) :: some (.bool true) :: some (.slice (some ⟨g, 0, none⟩) 4 4) :: none :: some (.bool true) :: some (.bool true) :: some (.bool true) :: some (.slice (some ⟨g, 0, none⟩) 4 4) :: none :: some (.bool true) :: some (.bool true) :: some (.bool true) :: some (.slice (some ⟨g, 0, none⟩) 4 4) :: none :: some (.bool false) :: some (.bool true) :: some (.bool true) :: some (.bool true) :: some (.slice (some ⟨g, 0, none⟩) 4 4) :: some (.pointer (some ⟨g, 0, none⟩)) :: some (.agg #[.string ⟨#[109, 111, 118, 101]⟩, .int .u32 4, .int .u32 2, .int .i64 0]) :: some (.slice (some ⟨g, 0, none⟩) 4 4) :: some (.pointer (some ⟨g, 12, none⟩)) :: some (.agg #[.string ⟨#[109, 97, 114, 107]⟩, .int .u32 2, .int .u32 1024, .int .i64 0]) :: some (.bool true) :: some (.bool true) :: some (.bool true) :: some (.slice (some ⟨g, 0, none⟩) 4 4) :: some (.pointer (some ⟨g, 8, none⟩)) :: some (.agg #[.string ⟨#[104, 101, 97, 108]⟩, .int .u32 256, .int .u32 256, .int .i64 0]) :: some (.slice (some ⟨g, 0, none⟩) 4 4) :: some (.pointer (some ⟨g, 0, none⟩)) :: some (.agg #[.string ⟨#[109, 111, 118, 101]⟩, .int .u32 4, .int .u32 2, .int .i64 0]) :: some (.bool false) :: some (.bool true) :: some (.bool true) :: some (.bool true) :: []) awPhi (by kernel_rfl) (by kernel_rfl) rfl ?hst ?hconst ?hs ?hf
  case hst => exact fun j v w w' h hb xs hx => (h xs hx).below hb (Nat.le_refl _)
  case hconst =>
    intro j v w h xs hx
    unfold awArgs at hx
    split at hx <;> first | (exfalso; simp at h; done) | (cases hx; done)
  case hf =>
    intro X w5 hb _
    simp only [fill_cons, fill_nil, tmpl_some, tmpl_none, tmpl_nil, Nat.reduceAdd, Act.put, List.setIfInBounds_toArray, List.set_cons_succ, List.set_cons_zero]
    have hb5 : Below w.heap.size w w5 := hB4.trans ((Below.undrew hb).mono hB4.size)
    clear hb hB4
    go_wp2
    go_ret
    exact ⟨rfl, hb5⟩
  case hs =>
    simp only [fill_cons, fill_nil, tmpl_some, tmpl_none, tmpl_nil, Nat.reduceAdd, Act.put, List.setIfInBounds_toArray, List.set_cons_succ, List.set_cons_zero]
    refine stepsRel.cons ?_ (stepsRel.cons ?_ (stepsRel.cons ?_ (stepsRel.cons ?_ (stepsRel.cons ?_ (stepsRel.cons ?_ (stepsRel.cons ?_ (stepsRel.cons ?_ (stepsRel.cons ?_ (stepsRel.cons ?_ (stepsRel.cons ?_ (stepsRel.cons ?_ (stepsRel.cons ?_ (stepsRel.cons ?_ (stepsRel.cons ?_ (stepsRel.cons ?_ (stepsRel.cons ?_ (stepsRel.cons ?_ (stepsRel.cons ?_ (stepsRel.cons ?_ (stepsRel.cons ?_ (stepsRel.cons ?_ (stepsRel.cons ?_ (stepsRel.cons ?_ (stepsRel.cons ?_ (stepsRel.cons ?_ (stepsRel.cons ?_ (stepsRel.cons ?_ (stepsRel.cons ?_ (stepsRel.cons ?_ (stepsRel.cons ?_ (stepsRel.cons ?_ (stepsRel.cons ?_ (stepsRel.cons ?_ (stepsRel.cons ?_ (stepsRel.cons ?_ (stepsRel.cons ?_ (stepsRel.cons ?_ (stepsRel.cons ?_ (stepsRel.cons ?_ (stepsRel.cons ?_ (stepsRel.cons ?_ (stepsRel.cons ?_ (stepsRel.cons ?_ (stepsRel.cons ?_ (stepsRel.cons ?_ (stepsRel.cons ?_ (stepsRel.cons ?_ (stepsRel.cons ?_ (stepsRel.cons ?_ (stepsRel.cons ?_ (stepsRel.cons ?_ (stepsRel.cons ?_ (stepsRel.cons ?_ (stepsRel.cons ?_ (stepsRel.cons ?_ (stepsRel.cons ?_ (stepsRel.cons ?_ (stepsRel.cons ?_ (stepsRel.cons ?_ (stepsRel.cons ?_ (stepsRel.cons ?_ (stepsRel.cons ?_ (stepsRel.cons ?_ (stepsRel.cons ?_ (stepsRel.cons ?_ (stepsRel.cons ?_ (stepsRel.cons ?_ (stepsRel.cons ?_ (stepsRel.cons ?_ (stepsRel.cons ?_ (stepsRel.cons ?_ (stepsRel.cons ?_ (stepsRel.cons ?_ (stepsRel.cons ?_ (stepsRel.cons ?_ (stepsRel.cons ?_ (stepsRel.cons ?_ (stepsRel.cons ?_ (stepsRel.cons ?_ (stepsRel.cons ?_ (stepsRel.cons ?_ stepsRel.nil)))))))))))))))))))))))))))))))))))))))))))))))))))))))))))))))))))))))))))))))))
    · intro X w5 hb hp
      clear hp
      go_wp2
      exact ⟨⟨_, rfl, rfl⟩, Below.refl _ _⟩
    · intro X w5 hb hp
      clear hp
      go_wp2
      exact ⟨⟨_, rfl, rfl⟩, Below.refl _ _⟩
    · intro X w5 hb hp
      clear hp
      go_wp2
      exact ⟨⟨_, rfl, rfl⟩, Below.refl _ _⟩
    · intro X w5 hb hp
      clear hp
      go_wp2
      exact ⟨⟨_, rfl, rfl⟩, Below.refl _ _⟩
    · intro X w5 hb hp
      clear hp
      go_wp2
      exact ⟨⟨_, rfl, rfl⟩, Below.refl _ _⟩
    · intro X w5 hb hp
      clear hp
      go_wp2
      exact ⟨⟨_, rfl, rfl⟩, Below.refl _ _⟩
    · intro X w5 hb hp
      clear hp
      go_wp2
      exact ⟨⟨_, rfl, rfl⟩, Below.refl _ _⟩
    · intro X w5 hb hp
      clear hp
      go_wp2
      exact ⟨⟨_, rfl, rfl⟩, Below.refl _ _⟩
    · intro X w5 hb hp
      clear hp
      go_wp2
      exact ⟨⟨_, rfl, rfl⟩, Below.refl _ _⟩
    · intro X w5 hb hp
      clear hp
      go_wp2
      exact ⟨⟨_, rfl, rfl⟩, Below.refl _ _⟩
    · intro X w5 hb hp
      clear hp
      go_wp2
      exact ⟨⟨_, rfl, rfl⟩, Below.refl _ _⟩
    · intro X w5 hb hp
      clear hp
      go_wp2
      exact ⟨⟨_, rfl, rfl⟩, Below.refl _ _⟩
    · intro X w5 hb hp
      clear hp
      go_wp2
      exact ⟨⟨_, rfl, rfl⟩, Below.refl _ _⟩
    · intro X w5 hb hp
      clear hp
      go_wp2
      exact ⟨⟨_, rfl, rfl⟩, Below.refl _ _⟩
    · intro X w5 hb hp
      clear hp
      go_wp2
      exact ⟨⟨_, rfl, rfl⟩, Below.refl _ _⟩
    · intro X w5 hb hp
      clear hp
      go_wp2
      exact ⟨⟨_, rfl, rfl⟩, Below.refl _ _⟩
    · intro X w5 hb hp
      clear hp
      go_wp2
      exact ⟨⟨_, rfl, rfl⟩, Below.refl _ _⟩
    · intro X w5 hb hp
      clear hp
      go_wp2
      exact ⟨⟨_, rfl, rfl⟩, Below.refl _ _⟩
    · intro X w5 hb hp
      clear hp
      have kc := (F4.next (Below.undrew hb)).k0
      clear hb
      go_wp2
      exact ⟨⟨_, rfl, rfl⟩, Below.refl _ _⟩
    · intro X w5 hb hp
      clear hp
      go_wp2
      exact ⟨⟨_, rfl, fun xs hx => by cases hx; exact Ints.lit w5 [0, 2] 2 rfl (by decide)⟩, (Below.refl _ _).alloc (Nat.le_refl _) _⟩
    · intro X w5 hb hp
      have hL := hp 19 (by kernel_rfl) [0, 2] rfl
      have hI := (F4.next (Below.undrew hb)).i0
      clear hb hp
      go_wp2_with fail
      refine (ints_same [0, 2] _ _ _ (by exact hI) (by exact hL)).mono ?_
      rintro e w6 ⟨rfl, hb6⟩
      go_wp2
      exact ⟨⟨_, rfl, rfl⟩, hb6⟩
    · intro X w5 hb hp
      clear hp
      go_wp2
      exact ⟨⟨_, rfl, rfl⟩, Below.refl _ _⟩
    · intro X w5 hb hp
      clear hp
      go_wp2
      exact ⟨⟨_, rfl, rfl⟩, Below.refl _ _⟩
    · intro X w5 hb hp
      clear hp
      go_wp2
      exact ⟨⟨_, rfl, rfl⟩, Below.refl _ _⟩
    · intro X w5 hb hp
      clear hp
      go_wp2
      exact ⟨⟨_, rfl, rfl⟩, Below.refl _ _⟩
    · intro X w5 hb hp
      clear hp
      have kc := (F4.next (Below.undrew hb)).k1
      clear hb
      go_wp2
      exact ⟨⟨_, rfl, rfl⟩, Below.refl _ _⟩
    · intro X w5 hb hp
      clear hp
      go_wp2
      exact ⟨⟨_, rfl, fun xs hx => by cases hx; exact Ints.lit w5 [1] 1 rfl (by decide)⟩, (Below.refl _ _).alloc (Nat.le_refl _) _⟩
    · intro X w5 hb hp
      have hL := hp 26 (by kernel_rfl) [1] rfl
      have hI := (F4.next (Below.undrew hb)).i1
      clear hb hp
      go_wp2_with fail
      refine (ints_same [1] _ _ _ (by exact hI) (by exact hL)).mono ?_
      rintro e w6 ⟨rfl, hb6⟩
      go_wp2
      exact ⟨⟨_, rfl, rfl⟩, hb6⟩
    · intro X w5 hb hp
      clear hp
      go_wp2
      exact ⟨⟨_, rfl, rfl⟩, Below.refl _ _⟩
    · intro X w5 hb hp
      clear hp
      go_wp2
      exact ⟨⟨_, rfl, rfl⟩, Below.refl _ _⟩
    · intro X w5 hb hp
      clear hp
      go_wp2
      exact ⟨⟨_, rfl, rfl⟩, Below.refl _ _⟩
    · intro X w5 hb hp
      clear hp
      go_wp2
      exact ⟨⟨_, rfl, rfl⟩, Below.refl _ _⟩
    · intro X w5 hb hp
      clear hp
      have kc := (F4.next (Below.undrew hb)).k2
      clear hb
      go_wp2
      exact ⟨⟨_, rfl, rfl⟩, Below.refl _ _⟩
    · intro X w5 hb hp
      clear hp
      go_wp2
      exact ⟨⟨_, rfl, fun xs hx => by cases hx; exact Ints.lit w5 [3] 1 rfl (by decide)⟩, (Below.refl _ _).alloc (Nat.le_refl _) _⟩
    · intro X w5 hb hp
      have hL := hp 33 (by kernel_rfl) [3] rfl
      have hI := (F4.next (Below.undrew hb)).i2
      clear hb hp
      go_wp2_with fail
      refine (ints_same [3] _ _ _ (by exact hI) (by exact hL)).mono ?_
      rintro e w6 ⟨rfl, hb6⟩
      go_wp2
      exact ⟨⟨_, rfl, rfl⟩, hb6⟩
    · intro X w5 hb hp
      clear hp
      go_wp2
      exact ⟨⟨_, rfl, rfl⟩, Below.refl _ _⟩
    · intro X w5 hb hp
      clear hp
      go_wp2
      exact ⟨⟨_, rfl, rfl⟩, Below.refl _ _⟩
    · intro X w5 hb hp
      clear hp
      go_wp2
      exact ⟨⟨_, rfl, rfl⟩, Below.refl _ _⟩
    · intro X w5 hb hp
      clear hp
      go_wp2
      exact ⟨⟨_, rfl, fun xs hx => by cases hx; exact Ints.lit w5 [1, 2] 2 rfl (by decide)⟩, (Below.refl _ _).alloc (Nat.le_refl _) _⟩
    · intro X w5 hb hp
      have hL := hp 38 (by kernel_rfl) [1, 2] rfl
      have hI := (F4.next (Below.undrew hb)).r
      clear hb hp
      go_wp2_with fail
      refine (ints_same [1, 2] _ _ _ (by exact hI) (by exact hL)).mono ?_
      rintro e w6 ⟨rfl, hb6⟩
      go_wp2
      exact ⟨⟨_, rfl, rfl⟩, hb6⟩
    · intro X w5 hb hp
      clear hp
      go_wp2
      exact ⟨⟨_, rfl, rfl⟩, Below.refl _ _⟩
    · intro X w5 hb hp
      clear hp
      go_wp2
      exact ⟨⟨_, rfl, rfl⟩, Below.refl _ _⟩
    · intro X w5 hb hp
      clear hp
      go_wp2
      exact ⟨⟨_, rfl, rfl⟩, Below.refl _ _⟩
    · intro X w5 hb hp
      clear hp
      go_wp2
      exact ⟨⟨_, rfl, fun xs hx => by cases hx; exact Ints.lit w5 [0, 1, 3] 3 rfl (by decide)⟩, (Below.refl _ _).alloc (Nat.le_refl _) _⟩
    · intro X w5 hb hp
      have hL := hp 43 (by kernel_rfl) [0, 1, 3] rfl
      have hI := (F4.next (Below.undrew hb)).c
      clear hb hp
      go_wp2_with fail
      refine (ints_same [0, 1, 3] _ _ _ (by exact hI) (by exact hL)).mono ?_
      rintro e w6 ⟨rfl, hb6⟩
      go_wp2
      exact ⟨⟨_, rfl, rfl⟩, hb6⟩
    · intro X w5 hb hp
      clear hp
      go_wp2
      exact ⟨⟨_, rfl, rfl⟩, Below.refl _ _⟩
    · intro X w5 hb hp
      clear hp
      go_wp2
      exact ⟨⟨_, rfl, rfl⟩, Below.refl _ _⟩
    · intro X w5 hb hp
      clear hp
      go_wp2
      exact ⟨⟨_, rfl, rfl⟩, Below.refl _ _⟩
    · intro X w5 hb hp
      clear hp
      go_wp2
      exact ⟨⟨_, rfl, fun xs hx => by cases hx; exact Ints.lit w5 [2, 0, 1, 3] 4 rfl (by decide)⟩, (Below.refl _ _).alloc (Nat.le_refl _) _⟩
    · intro X w5 hb hp
      have hL := hp 48 (by kernel_rfl) [2, 0, 1, 3] rfl
      have hI := (F4.next (Below.undrew hb)).s
      clear hb hp
      go_wp2_with fail
      refine (legal_ex [2, 0, 1, 3] true ex_legal1 (by decide) _ _ _ (by exact hI) (by exact hL)).mono ?_
      rintro e w6 ⟨rfl, hb6⟩
      go_wp2
      exact ⟨⟨_, rfl, rfl⟩, hb6⟩
    · intro X w5 hb hp
      clear hp
      go_wp2
      exact ⟨⟨_, rfl, rfl⟩, Below.refl _ _⟩
    · intro X w5 hb hp
      clear hp
      go_wp2
      exact ⟨⟨_, rfl, rfl⟩, Below.refl _ _⟩
    · intro X w5 hb hp
      clear hp
      go_wp2
      exact ⟨⟨_, rfl, rfl⟩, Below.refl _ _⟩
    · intro X w5 hb hp
      clear hp
      go_wp2
      exact ⟨⟨_, rfl, fun xs hx => by cases hx; exact Ints.lit w5 [0, 1, 3, 2] 4 rfl (by decide)⟩, (Below.refl _ _).alloc (Nat.le_refl _) _⟩
    · intro X w5 hb hp
      have hL := hp 53 (by kernel_rfl) [0, 1, 3, 2] rfl
      have hI := (F4.next (Below.undrew hb)).s
      clear hb hp
      go_wp2_with fail
      refine (legal_ex [0, 1, 3, 2] true ex_legal2 (by decide) _ _ _ (by exact hI) (by exact hL)).mono ?_
      rintro e w6 ⟨rfl, hb6⟩
      go_wp2
      exact ⟨⟨_, rfl, rfl⟩, hb6⟩
    · intro X w5 hb hp
      clear hp
      go_wp2
      exact ⟨⟨_, rfl, rfl⟩, Below.refl _ _⟩
    · intro X w5 hb hp
      clear hp
      go_wp2
      exact ⟨⟨_, rfl, rfl⟩, Below.refl _ _⟩
    · intro X w5 hb hp
      clear hp
      go_wp2
      exact ⟨⟨_, rfl, rfl⟩, Below.refl _ _⟩
    · intro X w5 hb hp
      clear hp
      go_wp2
      exact ⟨⟨_, rfl, fun xs hx => by cases hx; exact Ints.lit w5 [1, 0, 2, 3] 4 rfl (by decide)⟩, (Below.refl _ _).alloc (Nat.le_refl _) _⟩
    · intro X w5 hb hp
      have hL := hp 58 (by kernel_rfl) [1, 0, 2, 3] rfl
      have hI := (F4.next (Below.undrew hb)).s
      clear hb hp
      go_wp2_with fail
      refine (legal_ex [1, 0, 2, 3] false ex_legal3 (by decide) _ _ _ (by exact hI) (by exact hL)).mono ?_
      rintro e w6 ⟨rfl, hb6⟩
      go_wp2
      exact ⟨⟨_, rfl, rfl⟩, hb6⟩
    · intro X w5 hb hp
      clear hp
      go_wp2
      exact ⟨⟨_, rfl, rfl⟩, Below.refl _ _⟩
    · intro X w5 hb hp
      clear hp
      go_wp2
      exact ⟨⟨_, rfl, rfl⟩, Below.refl _ _⟩
    · intro X w5 hb hp
      clear hp
      go_wp2
      exact ⟨⟨_, rfl, rfl⟩, Below.refl _ _⟩
    · intro X w5 hb hp
      clear hp
      go_wp2
      exact ⟨⟨_, rfl, rfl⟩, Below.refl _ _⟩
    · intro X w5 hb hp
      clear hp
      go_wp2
      exact ⟨⟨_, rfl, rfl⟩, Below.refl _ _⟩
    · intro X w5 hb hp
      clear hp
      have hs := (F4.next (Below.undrew hb)).s
      have x0 := exCell hs 0 _ rfl
      have x1 := exCell hs 1 _ rfl
      have x2 := exCell hs 2 _ rfl
      have x3 := exCell hs 3 _ rfl
      clear hb hs
      go_wp2
      exact ⟨⟨_, rfl, rfl⟩, Below.refl _ _⟩
    · intro X w5 hb hp
      clear hp
      go_wp2
      exact ⟨⟨_, rfl, rfl⟩, Below.refl _ _⟩
    · intro X w5 hb hp
      clear hp
      go_wp2
      exact ⟨⟨_, rfl, rfl⟩, Below.refl _ _⟩
    · intro X w5 hb hp
      clear hp
      have hs := (F4.next (Below.undrew hb)).s
      have x0 := exCell hs 12 _ rfl
      have x1 := exCell hs 13 _ rfl
      have x2 := exCell hs 14 _ rfl
      have x3 := exCell hs 15 _ rfl
      clear hb hs
      go_wp2
      exact ⟨⟨_, rfl, rfl⟩, Below.refl _ _⟩
    · intro X w5 hb hp
      clear hb hp
      go_wp2_with fail
      refine (conflict_03 _).mono ?_
      rintro e w6 ⟨rfl, hb6⟩
      go_wp2
      exact ⟨⟨_, rfl, rfl⟩, hb6⟩
    · intro X w5 hb hp
      clear hp
      go_wp2
      exact ⟨⟨_, rfl, rfl⟩, Below.refl _ _⟩
    · intro X w5 hb hp
      clear hp
      go_wp2
      exact ⟨⟨_, rfl, rfl⟩, Below.refl _ _⟩
    · intro X w5 hb hp
      clear hp
      go_wp2
      exact ⟨⟨_, rfl, rfl⟩, Below.refl _ _⟩
    · intro X w5 hb hp
      clear hp
      go_wp2
      exact ⟨⟨_, rfl, rfl⟩, Below.refl _ _⟩
    · intro X w5 hb hp
      clear hp
      have hs := (F4.next (Below.undrew hb)).s
      have x0 := exCell hs 8 _ rfl
      have x1 := exCell hs 9 _ rfl
      have x2 := exCell hs 10 _ rfl
      have x3 := exCell hs 11 _ rfl
      clear hb hs
      go_wp2
      exact ⟨⟨_, rfl, rfl⟩, Below.refl _ _⟩
    · intro X w5 hb hp
      clear hp
      go_wp2
      exact ⟨⟨_, rfl, rfl⟩, Below.refl _ _⟩
    · intro X w5 hb hp
      clear hp
      go_wp2
      exact ⟨⟨_, rfl, rfl⟩, Below.refl _ _⟩
    · intro X w5 hb hp
      clear hp
      have hs := (F4.next (Below.undrew hb)).s
      have x0 := exCell hs 0 _ rfl
      have x1 := exCell hs 1 _ rfl
      have x2 := exCell hs 2 _ rfl
      have x3 := exCell hs 3 _ rfl
      clear hb hs
      go_wp2
      exact ⟨⟨_, rfl, rfl⟩, Below.refl _ _⟩
    · intro X w5 hb hp
      clear hb hp
      go_wp2_with fail
      refine (conflict_20 _).mono ?_
      rintro e w6 ⟨rfl, hb6⟩
      go_wp2
      exact ⟨⟨_, rfl, rfl⟩, hb6⟩
    · intro X w5 hb hp
      clear hp
      go_wp2
      exact ⟨⟨_, rfl, rfl⟩, Below.refl _ _⟩
    · intro X w5 hb hp
      clear hp
      go_wp2
      exact ⟨⟨_, rfl, rfl⟩, Below.refl _ _⟩
    · intro X w5 hb hp
      clear hp
      go_wp2
      exact ⟨⟨_, rfl, rfl⟩, Below.refl _ _⟩
end Go.Proofs.Ytbcfanfnnmijdaa
