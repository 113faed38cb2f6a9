/- What order.Conflict, needs do to the world: their contracts, over the given program; no condition but that the arguments read as systems. -/
import Derived.Test.YtbcfanfnnmijdaaRows
import Derived.Test.YtbcfanfnnmijdaaLib
namespace Go.Proofs.Ytbcfanfnnmijdaa
open Go.RowKit

/-- a system as data -/
structure Sys where
  name : ByteArray
  rd : BitVec 32
  wr : BitVec 32
  pg : Int
def Sys.cells (s : Sys) : List Value := [.string s.name, .int .u32 (w32 s.rd), .int .u32 (w32 s.wr), .int .i64 s.pg]
def Sys.val (s : Sys) : Value := .agg #[.string s.name, .int .u32 (w32 s.rd), .int .u32 (w32 s.wr), .int .i64 s.pg]
def Sys.ok (s : Sys) : Prop := s.name.size ≤ 9223372036854775807 ∧ -9223372036854775808 ≤ s.pg ∧ s.pg ≤ 9223372036854775807
/-- do two systems conflict -/
def conf (a b : Sys) : Bool := (a.wr &&& (b.rd ||| b.wr)) != 0 || (b.wr &&& (a.rd ||| a.wr)) != 0

theorem conflict_any (a b : Sys) (w : World) :
    Calls Try.prog 14 #[a.val, b.val] w fun e w' => e = .returned (.bool (conf a b)) ∧ Below w.heap.size w w' := by
  obtain ⟨n1, r1, w1, p1⟩ := a
  obtain ⟨n2, r2, w2, p2⟩ := b
  unfold Sys.val
  have h1 := bits_or32 r2 w2
  have h2 := bits_or32 r1 w1
  have h3 := bits_and32 w1 (r2 ||| w2)
  have h4 := bits_and32 w2 (r1 ||| w1)
  have h5 := w32_ne (w1 &&& (r2 ||| w2))
  have h6 := w32_ne (w2 &&& (r1 ||| w1))
  have h7 := w32_zero (w1 &&& (r2 ||| w2))
  go_enter Try.func14, Try.ntmps14
  go_wp2
  all_goals
    go_ret
    exact ⟨by unfold conf; simp_all, ((Below.refl _ _).alloc (Nat.le_refl _) _).alloc (by simp) _⟩

/-- a slice of systems -/
def Syss (w : World) (l : List Sys) (v : Value) : Prop := Sl w 4 l.length (l.flatMap Sys.cells) v
theorem Syss.below {w w' : World} {l : List Sys} {v : Value} {B : Nat} (h : Syss w l v) (hb : Below B w w') (hB : w.heap.size ≤ B) : Syss w' l v := Sl.below (by omega) h hb hB
theorem sys_cell (l : List Sys) (k : Nat) (h : k < l.length) : ((l.flatMap Sys.cells)[k * 4]? = some (.string l[k].name) ∧ (l.flatMap Sys.cells)[k * 4 + 1]? = some (.int .u32 (w32 l[k].rd)) ∧ (l.flatMap Sys.cells)[k * 4 + 2]? = some (.int .u32 (w32 l[k].wr)) ∧ (l.flatMap Sys.cells)[k * 4 + 3]? = some (.int .i64 l[k].pg)) := by
  have f := flat_cell Sys.cells 4 (fun _ => rfl) l k h
  exact ⟨f 0 (by omega), f 1 (by omega), f 2 (by omega), f 3 (by omega)⟩

/-- the four cells of element k -/
theorem Syss.at {w : World} {l : List Sys} {a : Option Addr} {n cap : Nat} (h : Syss w l (.slice a n cap)) {k : Nat} (hk : k < l.length) :
    ∃ b off, a = some ⟨b, off, none⟩ ∧ b < w.heap.size ∧ ∀ (k : Nat) (h : k < l.length), w.cell? ⟨b, off + k * 4, none⟩ = some (.string l[k].name) ∧ w.cell? ⟨b, off + k * 4 + 1, none⟩ = some (.int .u32 (w32 l[k].rd)) ∧ w.cell? ⟨b, off + k * 4 + 2, none⟩ = some (.int .u32 (w32 l[k].wr)) ∧ w.cell? ⟨b, off + k * 4 + 3, none⟩ = some (.int .i64 l[k].pg) := by
  obtain ⟨b, off, e, hlt, hc⟩ := Sl.at (by omega) h (by omega)
  refine ⟨b, off, e, hlt, fun k hk => ?_⟩
  obtain ⟨c0, c1, c2, c3⟩ := sys_cell l k hk
  have d0 := hc (k * 4) (by omega)
  have d1 := hc (k * 4 + 1) (by omega)
  have d2 := hc (k * 4 + 2) (by omega)
  have d3 := hc (k * 4 + 3) (by omega)
  rw [c0] at d0; rw [c1] at d1; rw [c2] at d2; rw [c3] at d3
  exact ⟨d0, d1, d2, d3⟩
theorem Syss.form {w : World} {l : List Sys} {v : Value} (h : Syss w l v) : ∃ a cap, v = .slice a l.length cap ∧ l.length ≤ cap ∧ cap ≤ 9223372036854775807 := Sl.form h

/-! maps from int to int -/
theorem keyed : Maps.Keyed Try.prog 3 := Maps.int_keyed Try.underlying3
theorem zero_int (w : World) : (zeroValue 3).run Try.prog w = .ok (.int .i64 0) w := by kernel_rfl
/-- block b is a map[int]int of at most n entries: has says which keys are there, val what they have (0 where they are not) -/
def IMap (w : World) (b n : Nat) (has : Int → Bool) (val : Int → Int) : Prop :=
  ∃ D : DataW Unit, w.ownsMap Try.prog 3 (plainElem Try.prog 3) b n D ∧ (∀ k, Maps.has D (.int .i64 k) = has k) ∧ ∀ k, D.atKey (.int .i64 k) (.lit (.int .i64 0)) = .lit (.int .i64 (val k))
theorem IMap.made (w : World) : IMap (w.alloc (.map #[] 0)) w.heap.size 0 (fun _ => false) (fun _ => 0) :=
  ⟨.map [], World.ownsMap_made w _ _ _, fun _ => rfl, fun _ => rfl⟩
theorem IMap.below {w w' : World} {b n : Nat} {has : Int → Bool} {val : Int → Int} {B : Nat} (h : IMap w b n has val) (hb : Below B w w') (hB : w.heap.size ≤ B) : IMap w' b n has val := by
  obtain ⟨D, h1, h2, h3⟩ := h; exact ⟨D, map_below h1 hb hB, h2, h3⟩
theorem IMap.lt {w : World} {b n : Nat} {has : Int → Bool} {val : Int → Int} (h : IMap w b n has val) : b < w.heap.size := by obtain ⟨D, h1, _⟩ := h; exact h1.lt
theorem IMap.alloc {w : World} {b n : Nat} {has : Int → Bool} {val : Int → Int} (h : IMap w b n has val) (o : Obj) : IMap (w.alloc o) b n has val := by
  obtain ⟨D, h1, h2, h3⟩ := h; exact ⟨D, h1.alloc o, h2, h3⟩
theorem IMap.drew {w : World} {b n : Nat} {has : Int → Bool} {val : Int → Int} (h : IMap w b n has val) : IMap w.drew b n has val := h
theorem IMap.congr {w : World} {b n : Nat} {has has' : Int → Bool} {val val' : Int → Int} (h : IMap w b n has val) {n' : Nat} (hn : n ≤ n') (h1 : ∀ k, has k = has' k) (h2 : ∀ k, val k = val' k) : IMap w b n' has' val' := by
  obtain ⟨D, a, b, c⟩ := h; exact ⟨D, a.mono hn, fun k => (b k).trans (h1 k), fun k => (c k).trans (by rw [h2])⟩
section
variable {ops : Array Oper} {rest : List Oper} {o : Oper} {a : Act} {Q : Exit → Act → World → Prop} {w : World}
theorem wpList_imap_lookup (hg : o.guard = none) (m x : Operand) (hop : o.op = Op.lookup 58 m x false) {b n : Nat} {has : Int → Bool} {val : Int → Int} (h : IMap w b n has val)
    (hm : a.eval m = .map (some b)) (key : Int) (hx : a.eval x = .int .i64 key) (hkey : (Lit.int .i64 key).wf = true)
    (hK : (Lit.int .i64 (val key)).wf = true → wpList Try.prog ops Q rest (a.put o.dst (.int .i64 (val key))) w) : wpList Try.prog ops Q (o :: rest) a w := by
  obtain ⟨D, h1, h2, h3⟩ := h
  refine wpList_lookup_own_int w hg m x 58 hop 3 3 .i64 keyed Try.underlying58 Try.underlying3 (zero_int w) b n D hm h1 (.int .i64 key) (.int .i64 key) hx (Maps.keyOf_int_mk Try.underlying3 hkey) ?_
  intro c hat hwc
  rw [h3 key] at hat
  have e : val key = c := by simpa using hat
  rw [e] at hK
  exact hK hwc
theorem wpList_imap_update (hg : o.guard = none) (m x v : Operand) (hop : o.op = Op.mapUpdate 58 m x v) {b n : Nat} {has : Int → Bool} {val : Int → Int} (h : IMap w b n has val)
    (hm : a.eval m = .map (some b)) (key c : Int) (hx : a.eval x = .int .i64 key) (hv : a.eval v = .int .i64 c) (hkey : (Lit.int .i64 key).wf = true) (hc : (Lit.int .i64 c).wf = true) (hn : n < maxLen)
    (hK : ∀ w', IMap w' b (n + 1) (fun k => k == key || has k) (fun k => if k = key then c else val k) → w.grownBy w' (some b) → wpList Try.prog ops Q rest (a.put o.dst undef) w') : wpList Try.prog ops Q (o :: rest) a w := by
  obtain ⟨D, h1, h2, h3⟩ := h
  refine wpList_mapUpdate_own w hg m x v 58 hop 3 3 keyed Try.underlying58 _ b n D hm h1 hn (.int .i64 key) (.int .i64 c) (.int .i64 key) hx hv (Maps.keyOf_int_mk Try.underlying3 hkey) (.lit (.int .i64 c)) [] (plainElem_int Try.underlying3 hc) ?_
  intro w' hown hgr
  have hD : Maps.IsMap D := (h1.tidy keyed).isMap
  have hkl : WideAt.IsKeyLit (.int .i64 key) := trivial
  refine hK w' ⟨_, hown, fun k => ?_, fun k => ?_⟩ hgr
  · by_cases e : k = key
    · subst e; rw [Maps.has_put_same hD hkl]; simp
    · rw [Maps.has_put_other (by simpa using e), h2]; simp [e]
  · by_cases e : k = key
    · subst e; rw [Maps.atKey_put_same hD hkl]; simp
    · rw [Maps.atKey_put_other (by simpa using e), h3]; simp [e]
end
end Go.Proofs.Ytbcfanfnnmijdaa
