/- A world that parts from another in some blocks alone, and in new ones. No program in it. -/
import Derived.Test.YtcichbdkdbnmiaaDoorLib
namespace Go.Proofs.YtcichbdkdbnmiaaDoor
open Go.RowKit

/-- .. in draws alone -/
def DrewOf (w w' : World) : Prop := ∃ n, w' = w.drewN n
theorem DrewOf.start (w : World) : DrewOf w w.drew := ⟨1, rfl⟩
structure Only (S : Nat → Prop) (w w' : World) : Prop where
  os : w'.os = w.os
  tape : w'.tape = w.tape
  output : w'.output = w.output
  size : w.heap.size ≤ w'.heap.size
  block : ∀ k, k < w.heap.size → ¬ S k → w'.heap[k]? = w.heap[k]?
theorem Only.refl (S : Nat → Prop) (w : World) : Only S w w := ⟨rfl, rfl, rfl, Nat.le_refl _, fun _ _ _ => rfl⟩
theorem Only.trans {S : Nat → Prop} {a b c : World} (h : Only S a b) (k : Only S b c) : Only S a c :=
  ⟨k.os.trans h.os, k.tape.trans h.tape, k.output.trans h.output, Nat.le_trans h.size k.size, fun i hi hs => (k.block i (Nat.lt_of_lt_of_le hi h.size) hs).trans (h.block i hi hs)⟩
theorem Only.mono {S T : Nat → Prop} {a b : World} (h : Only S a b) (hS : ∀ k, k < a.heap.size → S k → T k) : Only T a b :=
  ⟨h.os, h.tape, h.output, h.size, fun i hi hs => h.block i hi fun hk => hs (hS i hi hk)⟩
theorem Only.drewN {S : Nat → Prop} {a b : World} (h : Only S a b) (n : Nat) : Only S a (b.drewN n) := ⟨h.os, h.tape, h.output, h.size, h.block⟩
theorem Only.drew {S : Nat → Prop} {a b : World} (h : Only S a b) : Only S a b.drew := ⟨h.os, h.tape, h.output, h.size, h.block⟩
theorem Only.of_below {S : Nat → Prop} {w w' : World} (h : Below w.heap.size w w') : Only S w w' := ⟨h.os, h.tape, h.output, h.size, fun k hk _ => h.block k hk⟩
theorem Only.setCell {S : Nat → Prop} {a b : World} (h : Only S a b) {p : Addr} (hp : a.heap.size ≤ p.block ∨ S p.block) (u : Value) : Only S a (b.setCell p u) := by
  refine ⟨h.os, h.tape, h.output, ?_, fun k hk hs => ?_⟩
  · have := ((Below.refl 0 b).setCell (p := p) (Nat.zero_le _) u).size; exact Nat.le_trans h.size this
  · rw [Below.heap_setCell b p u k (fun e => by subst e; rcases hp with hp | hp; omega; exact hs hp)]
    exact h.block k hk hs
theorem Only.setNew {S : Nat → Prop} {a b : World} (h : Only S a b) {g o : Nat} (hg : a.heap.size ≤ g) (u : Value) : Only S a (b.setCell ⟨g, o, none⟩ u) := h.setCell (.inl hg) u
theorem Only.setIn {S : Nat → Prop} {a b : World} (h : Only S a b) {g o : Nat} (hg : S g) (u : Value) : Only S a (b.setCell ⟨g, o, none⟩ u) := h.setCell (.inr hg) u
theorem Only.alloc {S : Nat → Prop} {a b : World} (h : Only S a b) (o : Obj) : Only S a (b.alloc o) := by
  refine ⟨h.os, h.tape, h.output, ?_, fun k hk hs => ?_⟩
  · have := h.size; simp; omega
  · rw [Below.heap_alloc b o k (Nat.lt_of_lt_of_le hk h.size)]
    exact h.block k hk hs
theorem Only.of_grown {S : Nat → Prop} {a b : World} {row : Option Nat} (h : a.grownBy b row) (hr : ∀ g, row = some g → S g) : Only S a b :=
  ⟨h.os, h.tape, h.output, h.size, fun k hk hs => h.block k hk fun e => hs (hr k e.symm)⟩
theorem Only.below {S : Nat → Prop} {w w' : World} (h : Only S w w') {B : Nat} (hS : ∀ k, S k → B ≤ k) (hB : B ≤ w.heap.size) : Below B w w' :=
  ⟨h.os, h.tape, h.output, h.size, fun k hk => h.block k (by omega) fun hs => by have := hS k hs; omega⟩
theorem Only.own {S : Nat → Prop} {w w' : World} (h : Only S w w') {g : Nat} {e : TypeId} {vs : List Value} (ho : OwnV w g e vs) (hn : ¬ S g) : OwnV w' g e vs := by
  have hl := ho.lt
  unfold OwnV at *
  rw [h.block g hl hn]; exact ho
theorem Only.row {S : Nat → Prop} {w w' : World} (h : Only S w w') {base : Nat} {e : TypeId} {sz : Nat} {v : Value} {n : Nat} {xs : List Value} (ho : w.ownsRow base e sz v n xs) (hn : ∀ g, v.ownBlock = some g → ¬ S g) : w'.ownsRow base e sz v n xs := by
  obtain ⟨h1, h2⟩ := ho
  refine ⟨h1, ?_⟩
  rcases h2 with h2 | ⟨g, cap, cur, rfl, hg, hh, rest⟩
  · exact .inl h2
  · exact .inr ⟨g, cap, cur, rfl, hg, by rw [h.block g (lt_of_block hh) (hn g rfl)]; exact hh, rest⟩
theorem Only.cell {S : Nat → Prop} {w w' : World} (h : Only S w w') {p : Addr} {v : Value} (hv : w.cell? p = some v) (hn : ¬ S p.block) : w'.cell? p = some v := by
  rw [World.cell?_of_block (w := w) (h.block p.block (World.block_lt_of_cell? w _ hv) hn)]; exact hv
theorem Only.sl {S : Nat → Prop} {w w' : World} (h : Only S w w') {sz n : Nat} {cs : List Value} {v : Value} (hs : Sl w sz n cs v) (hn : n = 0 ∨ ∀ g, v.ownBlock = some g → ¬ S g) : Sl w' sz n cs v := by
  obtain ⟨a, cap, rfl, h2, h3, h4, h5⟩ := hs
  refine ⟨a, cap, rfl, h2, h3, h4, fun hp => ?_⟩
  obtain ⟨b, off, rfl, hc⟩ := h5 hp
  refine ⟨b, off, rfl, fun j hj => ?_⟩
  have h1 : cs[j]? = some (cs[j]'(by rw [h4]; exact hj)) := List.getElem?_eq_getElem _
  rw [h1]
  refine h.cell ((hc j hj).trans h1) ?_
  rcases hn with rfl | hn
  · omega
  · exact hn b rfl
theorem Only.grown {S : Nat → Prop} {a b c : World} (h : Only S a b) {row : Option Nat} (hg : b.grownBy c row) (hr : ∀ r, row = some r → a.heap.size ≤ r) : Only S a c := by
  refine ⟨hg.os.trans h.os, hg.tape.trans h.tape, hg.output.trans h.output, Nat.le_trans h.size hg.size, fun k hk hs => ?_⟩
  rw [hg.block k (Nat.lt_of_lt_of_le hk h.size) (fun e => by have := hr k e.symm; omega)]
  exact h.block k hk hs
/-- .. what parts further in blocks that are new to the first world -/
theorem Only.transNew {S T : Nat → Prop} {a b c : World} (h : Only S a b) (k : Only T b c) (hT : ∀ i, T i → S i ∨ a.heap.size ≤ i) : Only S a c :=
  ⟨k.os.trans h.os, k.tape.trans h.tape, k.output.trans h.output, Nat.le_trans h.size k.size, fun i hi hs => (k.block i (Nat.lt_of_lt_of_le hi h.size) (fun ht => by rcases hT i ht with h1 | h1; exact hs h1; omega)).trans (h.block i hi hs)⟩
theorem OwnV.drewN {w : World} {g : Nat} {e : TypeId} {vs : List Value} (h : OwnV w g e vs) (n : Nat) : OwnV (w.drewN n) g e vs := h
theorem OwnV.drew {w : World} {g : Nat} {e : TypeId} {vs : List Value} (h : OwnV w g e vs) : OwnV w.drew g e vs := h
theorem OwnV.newAt {w : World} {g : Nat} (hg : g = w.heap.size) (e : TypeId) (vs : List Value) : OwnV (w.alloc (.cells vs.toArray e)) g e vs := by subst hg; exact OwnV.new w e vs
theorem OwnV.set_ne {w : World} {g : Nat} {e : TypeId} {vs : List Value} (h : OwnV w g e vs) {b o : Nat} (hne : g ≠ b) (v : Value) : OwnV (w.setCell ⟨b, o, none⟩ v) g e vs := by
  unfold OwnV at *
  rw [Below.heap_setCell w ⟨b, o, none⟩ v g hne]; exact h
end Go.Proofs.YtcichbdkdbnmiaaDoor
