/- An append onto a row of the call's own, as a step of a statement whose order Go leaves open. No condition of its own. -/
import Derived.Test.YtcichbdkdbnmiaaDoorRegion3
import Derived.Test.YtcichbdkdbnmiaaDoorLib
import Derived.Deep.RegionLaw
namespace Go.Proofs.YtcichbdkdbnmiaaDoor
open Go.RowKit

theorem step_append_src {P : Program} {ops : Array Oper} {o : Oper} {a : Act} {K : Act → World → Prop} {Q : Exit → Act → World → Prop} {E : Prop} {w : World} (hgd : o.guard = none) (s x : Operand) (t : TypeId)
    (ho : o.op = .call { callee := .builtin .append, args := #[s, x], argTypes := #[t, t] })
    {base : Nat} {e : TypeId} {size : Nat} {v : Value} {n : Nat} {xs : List Value} (hown : w.ownsRow base e size v n xs) {z : Value} {bytes : Nat}
    (hi : (P.info? e).map (fun i => (i.zero, i.size, i.bytes)) = some (some z, size, bytes)) (ht : P.underlying t = some (.slice e)) (hzs : z.cells.size = size) (hsz : 0 < size)
    (hs : a.eval s = v) {m : Nat} {cs : List Value} {v2 : Value} (hsl : Sl w size m cs v2) (hx : a.eval x = v2) (h1 : cs.all (fun u => u.oneCell') = true)
    (h63 : n + m ≤ maxLen) (hbytes : (n + m) * bytes ≤ 140737488355328) (hbase : base ≤ w.heap.size)
    (h : ∀ v' w', w'.ownsRow base e size v' (n + m) (xs ++ cs) → w.grownBy w' v.ownBlock → Below base w w' → (v'.ownBlock = v.ownBlock ∨ ∃ g, v'.ownBlock = some g ∧ w.heap.size ≤ g) → K (a.put o.dst v') w') :
    if Region.wanted o (yielded ops a.tmps) = true then Oper.wp P o a w K Q else E := by
  have hwant : Region.wanted o (yielded ops a.tmps) = true := by simp [Region.wanted, hgd]
  rw [if_pos hwant]
  obtain ⟨i, hi, hz0, hz1, hz2⟩ := info_parts hi
  obtain ⟨ad, cap, rfl, hmc, hcm, hcs, hcell⟩ := hsl
  by_cases hm : 0 < m
  · obtain ⟨b, off, rfl, hc⟩ := hcell hm
    obtain ⟨v', w', hr, ho', hg, _, hat⟩ := run_append_own_at (P := P) w base t o.type e i z size bytes ht hi hz0 hz1 hz2 hzs hsz v n xs hown ⟨b, off, none⟩ m cap cs hcs (by
      intro j u hu
      have hj : j < m * size := by
        rcases Nat.lt_or_ge j (m * size) with h | h
        · exact h
        · rw [List.getElem?_eq_none (by omega)] at hu; cases hu
      have : (⟨b, off, none⟩ : Addr).add j = ⟨b, off + j, none⟩ := by unfold Addr.add; split <;> simp_all
      rw [this, hc j hj]
      exact hu) (fun u hu => List.all_eq_true.1 h1 u hu) h63 hbytes hbase
    unfold Oper.wp execOp
    simp only [ho, resolve, invoke, builtin, Sem.run_bind, Sem.run_pure, Result.andThen_ok, List.map_toArray, List.map_cons, List.map_nil, hs, hx, hr]
    exact h v' w' ho' hg (Below.of_grown hg hbase (fun k hk => (hown.lt k hk).1)) (hat.imp id fun e => ⟨_, e, Nat.le_refl _⟩)
  · obtain rfl : m = 0 := by omega
    obtain rfl : cs = [] := List.eq_nil_of_length_eq_zero (by simpa using hcs)
    have hf : ∃ b cap', v = .slice b n cap' ∧ n ≤ cap' := by
      rcases hown.2 with ⟨rfl, rfl⟩ | ⟨g, cap', cur, rfl, _, _, hn, _⟩
      · exact ⟨none, 0, rfl, Nat.le_refl _⟩
      · exact ⟨_, _, rfl, hn⟩
    obtain ⟨b, cap', hv, hnc⟩ := hf
    unfold Oper.wp execOp
    have hr := run_append_empty (P := P) (w := w) (t := t) (ty := o.type) ht hi b ad (c := cap) hnc
    simp only [ho, resolve, invoke, builtin, Sem.run_bind, Sem.run_pure, Result.andThen_ok, List.map_toArray, List.map_cons, List.map_nil, hs, hx, hv, hr]
    refine (h (.slice b n cap') w ?_ ⟨rfl, rfl, rfl, Nat.le_refl _, fun _ _ _ => rfl⟩ (Below.refl _ _) (.inl (by rw [hv])))
    rw [← hv]
    simpa using hown
end Go.Proofs.YtcichbdkdbnmiaaDoor
