/- The program's translator in memory; its small methods, walked. -/
/- The program's translator: fail, later and what it answers, slot, let, walked. -/
/- The program's translator: slot and let, walked. -/
/- The translator's way through expressions gives their code. Plain mathematics. -/
import Derived.Test.YtdeneckmoejcfaaFineSJ
import Derived.Test.YtdeneckmoejcfaaKitCJ
import Derived.Outline
import Derived.Laws.OwnMore
import Derived.Test.YtdeneckmoejcfaaRegionJ
set_option linter.unusedSimpArgs false
set_option linter.unusedVariables false
namespace Go.Proofs.Ytdeneckmoejcfaa
open Go.RowKit

def strV (s : List UInt8) : Value := .string (bstr s)
/-- a translator in memory: block t; its code and its names are rows of the call's own, at or above block B -/
structure TrC (w : World) (t B : Nat) (vc vn : Value) (s : TS) : Prop where
  blk : OwnV w t 78 [vc, .int .i64 s.locals, .int .u32 0, .int .u32 0, vn, .int .i64 s.e]
  code : w.ownsRow B 35 2 vc s.code.length (cellsC s.code)
  names : w.ownsRow B 9 1 vn s.names.length (s.names.map strV)
  tB : B ≤ t
  tc : vc.ownBlock ≠ some t
  tn : vn.ownBlock ≠ some t
  cn : ∀ g, vc.ownBlock = some g → vn.ownBlock ≠ some g
/-- the blocks that a method writes -/
def TrS (t : Nat) (vc vn : Value) (k : Nat) : Prop := k = t ∨ vc.ownBlock = some k ∨ vn.ownBlock = some k
structure TrF (t : Nat) (vc vn : Value) (w : World) (vc' vn' : Value) (w' : World) : Prop where
  only : Only (TrS t vc vn) w w'
  next : ∀ k, TrS t vc' vn' k → TrS t vc vn k ∨ w.heap.size ≤ k
theorem TrF.refl (t : Nat) (vc vn : Value) (w : World) : TrF t vc vn w vc vn w := ⟨Only.refl _ _, fun _ h => .inl h⟩
theorem TrF.trans {t : Nat} {vc vn vc1 vn1 vc2 vn2 : Value} {a b c : World} (h : TrF t vc vn a vc1 vn1 b) (k : TrF t vc1 vn1 b vc2 vn2 c) : TrF t vc vn a vc2 vn2 c :=
  ⟨h.only.transNew k.only h.next, fun i hi => by
    rcases k.next i hi with h1 | h1
    · exact h.next i h1
    · exact .inr (Nat.le_trans h.only.size h1)⟩
theorem TrF.drew {t : Nat} {vc vn vc1 vn1 : Value} {a b : World} (h : TrF t vc vn a vc1 vn1 b) (n : Nat) : TrF t vc vn a vc1 vn1 (b.drewN n) := ⟨h.only.drewN n, h.next⟩
/-- .. what a Below leaves -/
theorem TrF.of_below (t : Nat) (vc vn : Value) {w w' : World} (h : Below w.heap.size w w') : TrF t vc vn w vc vn w' := ⟨Only.of_below h, fun _ h => .inl h⟩
theorem TrC.lt {w : World} {t B : Nat} {vc vn : Value} {s : TS} (h : TrC w t B vc vn s) {k : Nat} (hk : TrS t vc vn k) : B ≤ k ∧ k < w.heap.size := by
  rcases hk with rfl | hk | hk
  · exact ⟨h.tB, h.blk.lt⟩
  · exact h.code.lt k hk
  · exact h.names.lt k hk
/-- what lies below B stays -/
theorem TrF.below {w w' : World} {t B : Nat} {vc vn vc' vn' : Value} {s : TS} (h : TrC w t B vc vn s) (k : TrF t vc vn w vc' vn' w') (hB : B ≤ w.heap.size) : Below B w w' := k.only.below (fun _ hk => (h.lt hk).1) hB
theorem TrF.size {t : Nat} {vc vn vc' vn' : Value} {w w' : World} (k : TrF t vc vn w vc' vn' w') : w.heap.size ≤ w'.heap.size := k.only.size
/-- a box of the caller's stays -/
theorem TrF.own {t : Nat} {vc vn vc' vn' : Value} {w w' : World} (k : TrF t vc vn w vc' vn' w') {g : Nat} {e : TypeId} {vs : List Value} (h : OwnV w g e vs) (hn : ¬ TrS t vc vn g) : OwnV w' g e vs ∧ ¬ TrS t vc' vn' g :=
  ⟨k.only.own h hn, fun hg => by
    rcases k.next g hg with h1 | h1
    · exact hn h1
    · have := h.lt; omega⟩
theorem TrC.not {w : World} {t B : Nat} {vc vn : Value} {s : TS} (h : TrC w t B vc vn s) {g : Nat} (hg : w.heap.size ≤ g) : ¬ TrS t vc vn g := fun hk => by have := (h.lt hk).2; omega
theorem TrC.grown {w w' : World} {t B : Nat} {vc vn : Value} {s : TS} (h : TrC w t B vc vn s) (hb : Below w.heap.size w w') : TrC w' t B vc vn s :=
  ⟨h.blk.below hb (Nat.le_refl _), own_below h.code hb (Nat.le_refl _), own_below h.names hb (Nat.le_refl _), h.tB, h.tc, h.tn, h.cn⟩
theorem TrC.drew {w : World} {t B : Nat} {vc vn : Value} {s : TS} (h : TrC w t B vc vn s) (n : Nat) : TrC (w.drewN n) t B vc vn s := h.grown ⟨rfl, rfl, rfl, Nat.le_refl _, fun _ _ => rfl⟩
/-- what a method answers -/
def TrP (w : World) (t B : Nat) (vc vn : Value) (s' : TS) (r : Value) (e : Ending) (w' : World) : Prop :=
  e = .returned r ∧ ∃ vc' vn', TrC w' t B vc' vn' s' ∧ TrF t vc vn w vc' vn' w'
theorem info_pins : (Try.prog.info? 35).map (fun i => (i.zero, i.size, i.bytes)) = some (some (.agg #[.int .u8 0, .int .i64 0]), 2, 16) := by kernel_rfl
theorem info_pstr : (Try.prog.info? 9).map (fun i => (i.zero, i.size, i.bytes)) = some (some (.string ⟨#[]⟩), 1, 16) := by kernel_rfl
theorem row_grown {w w' : World} {row : Option Nat} (hg : w.grownBy w' row) {base : Nat} {e : TypeId} {sz : Nat} {v : Value} {n : Nat} {xs : List Value} (h : w.ownsRow base e sz v n xs) (hn : ∀ g, v.ownBlock = some g → row ≠ some g) : w'.ownsRow base e sz v n xs :=
  (Only.of_grown (S := fun k => row = some k) hg (fun g hr => hr)).row h (fun g hg' hr => hn g hg' hr)
/-- behind an append onto the code, and its store -/
theorem TrC.pushed {w w1 : World} {t B : Nat} {vc vn v' : Value} {s : TS} (h : TrC w t B vc vn s) (op a : Int) (hown : w1.ownsRow B 35 2 v' (s.code.length + 1) (cellsC s.code ++ [.int .u8 op, .int .i64 a])) (hg : w.grownBy w1 vc.ownBlock) (hat : v'.ownBlock = vc.ownBlock ∨ ∃ g, v'.ownBlock = some g ∧ w.heap.size ≤ g) :
    TrC (w1.setCell ⟨t, 0, none⟩ v') t B v' vn (s.put op a) ∧ TrF t vc vn w v' vn (w1.setCell ⟨t, 0, none⟩ v') := by
  have ht := h.blk.lt
  have htc : v'.ownBlock ≠ some t := by
    rcases hat with e | ⟨g, e, hge⟩
    · rw [e]; exact h.tc
    · rw [e]; intro e2; cases e2; omega
  have hb1 : OwnV w1 t 78 [vc, .int .i64 s.locals, .int .u32 0, .int .u32 0, vn, .int .i64 s.e] := h.blk.grown hg (fun e => h.tc e.symm)
  have hn1 := row_grown hg h.names (fun g hg' e => h.cn g e hg')
  have hcn : ∀ g, v'.ownBlock = some g → vn.ownBlock ≠ some g := by
    intro g e
    rcases hat with e1 | ⟨g', e1, hge⟩
    · exact h.cn g (e1 ▸ e)
    · intro e2
      rw [e1] at e; cases e
      have := (h.names.lt g e2).2
      omega
  refine ⟨⟨hb1.set 0 v', ?_, own_set_ne hn1 (fun g hg' e => by subst e; exact h.tn hg') _ _, h.tB, htc, h.tn, hcn⟩, ?_, ?_⟩
  · have e : cellsC (s.put op a).code = cellsC s.code ++ [.int .u8 op, .int .i64 a] := by rw [TS.put_code, cellsC_app]; rfl
    have el : (s.put op a).code.length = s.code.length + 1 := by simp [TS.put_code]
    rw [e, el]
    exact own_set_ne hown (fun g hg' e => by subst e; exact htc hg') _ _
  · exact (Only.of_grown hg (fun g hr => .inr (.inl hr))).setIn (.inl rfl) _
  · intro k hk
    rcases hk with rfl | hk | hk
    · exact .inl (.inl rfl)
    · rcases hat with e1 | ⟨g', e1, hge⟩
      · exact .inl (.inr (.inl (e1 ▸ hk)))
      · rw [e1] at hk; cases hk; exact .inr hge
    · exact .inl (.inr (.inr hk))
set_option maxRecDepth 100000 in
theorem put_any (op a : Int) (w : World) (t B : Nat) (vc vn : Value) (s : TS) (h : TrC w t B vc vn s) (hB : B ≤ w.heap.size) (hl : s.code.length ≤ 1000000) :
    Calls Try.prog 86 #[.pointer (some ⟨t, 0, none⟩), .int .u8 op, .int .i64 a] w (TrP w t B vc vn (s.put op a) (.tuple #[])) := by
  obtain ⟨ac, capc, rfl, _, _⟩ := Sl.form (Sl.of_own h.code)
  obtain ⟨an, capn, rfl, _, _⟩ := Sl.form (Sl.of_own h.names)
  have H := Lib.hid h
  have x0 := h.blk.cell (i := 0) rfl
  have xf := h.blk.free
  have hcode := h.code
  clear h
  go_enter Try.func86, Try.ntmps86
  go_wp2_with (at_builtin; refine wpList_append_at rfl (.tmp 11) (.tmp 15) 26 rfl hcode info_pins Try.underlying26 rfl (by decide) rfl 1 1 rfl rfl rfl (by unfold maxLen; omega) (by omega) hB ?_; intro v' w1 hown1 hg1 hb1 hat1; obtain ⟨a1, cap1, rfl, _, _⟩ := Sl.form (Sl.of_own hown1); obtain ⟨c1, c2⟩ := H.out.pushed op a hown1 hg1 hat1; have hfz := (H.out.blk.grown hg1 (fun e => H.out.tc e.symm)).free; have xc1 := (H.out.blk.grown hg1 (fun e => H.out.tc e.symm)).cell (i := 0) rfl; have C1 := Lib.hid c1; have C2 := Lib.hid c2; clear c1 c2)
  exact bodyPost_ret (results_none rfl _ _ _) rfl ⟨rfl, _, _, C1.out, C2.out⟩
end Go.Proofs.Ytdeneckmoejcfaa
namespace Go.Proofs.Ytdeneckmoejcfaa
open Go.RowKit

theorem TrC.setE {w : World} {t B : Nat} {vc vn : Value} {s : TS} (h : TrC w t B vc vn s) (k : Int) : TrC (w.setCell ⟨t, 5, none⟩ (.int .i64 k)) t B vc vn { s with e := k } ∧ TrF t vc vn w vc vn (w.setCell ⟨t, 5, none⟩ (.int .i64 k)) :=
  ⟨⟨h.blk.set 5 _, own_set_ne h.code (fun g hg e => by subst e; exact h.tc hg) _ _, own_set_ne h.names (fun g hg e => by subst e; exact h.tn hg) _ _, h.tB, h.tc, h.tn, h.cn⟩, (Only.refl _ _).setIn (.inl rfl) _, fun _ hk => .inl hk⟩
set_option maxRecDepth 100000 in
theorem fail_any (k : Int) (w : World) (t B : Nat) (vc vn : Value) (s : TS) (h : TrC w t B vc vn s) :
    Calls Try.prog 42 #[.pointer (some ⟨t, 0, none⟩), .int .i64 k] w (TrP w t B vc vn (s.fail k) (.tuple #[])) := by
  have H := Lib.hid h
  have x0 := h.blk.cell (i := 5) rfl
  have xf := h.blk.free
  clear h
  obtain ⟨q, hq⟩ : ∃ q : Bool, (s.e == 0) = q := ⟨_, rfl⟩
  cases q
  · have Hs : Hid (s.fail k = s) := Lib.hid (by unfold TS.fail; rw [if_neg (by simpa using hq)])
    go_enter Try.func42, Try.ntmps42
    go_wp2_with fail
    exact bodyPost_ret (results_none rfl _ _ _) rfl ⟨rfl, _, _, by rw [Hs.out]; exact H.out, TrF.refl _ _ _ _⟩
  · have Hs : Hid (s.fail k = { s with e := k }) := Lib.hid (by unfold TS.fail; rw [if_pos (by simpa using hq)])
    go_enter Try.func42, Try.ntmps42
    go_wp2_with fail
    exact bodyPost_ret (results_none rfl _ _ _) rfl ⟨rfl, _, _, by rw [Hs.out]; exact (H.out.setE k).1, (H.out.setE k).2⟩
/-- what later answers: a function that fills in the jump at place k -/
def LaterP (w : World) (t B : Nat) (vc vn : Value) (s' : TS) (k : Nat) (e : Ending) (w' : World) : Prop :=
  ∃ b1 b2, e = .returned (.func (.func 106) #[] #[.pointer (some ⟨b1, 0, none⟩), .pointer (some ⟨b2, 0, none⟩)]) ∧ OwnV w' b1 76 [.pointer (some ⟨t, 0, none⟩)] ∧ OwnV w' b2 3 [.int .i64 k] ∧
    ∃ vc' vn', TrC w' t B vc' vn' s' ∧ TrF t vc vn w vc' vn' w' ∧ ¬ TrS t vc' vn' b1 ∧ ¬ TrS t vc' vn' b2
set_option maxRecDepth 100000 in
theorem later_any (op : Int) (w : World) (t B : Nat) (vc vn : Value) (s : TS) (h : TrC w t B vc vn s) (hB : B ≤ w.heap.size) (hl : s.code.length ≤ 1000000) :
    Calls Try.prog 89 #[.pointer (some ⟨t, 0, none⟩), .int .u8 op] w (LaterP w t B vc vn (s.put op 0) s.code.length) := by
  obtain ⟨ac, capc, rfl, _, _⟩ := Sl.form (Sl.of_own h.code)
  obtain ⟨W1, hW1, hX1, hb1⟩ : ∃ W1, W1 = w.alloc (.cells #[.pointer (some ⟨t, 0, none⟩)] 76) ∧ OwnV W1 w.heap.size 76 [.pointer (some ⟨t, 0, none⟩)] ∧ Below w.heap.size w W1 := ⟨_, rfl, OwnV.new _ _ _, (Below.refl _ _).alloc (Nat.le_refl _) _⟩
  obtain ⟨W2, hW2, hX2, hb2⟩ : ∃ W2, W2 = W1.alloc (.cells #[.int .i64 s.code.length] 3) ∧ OwnV W2 W1.heap.size 3 [.int .i64 s.code.length] ∧ Below W1.heap.size W1 W2 := ⟨_, rfl, OwnV.new _ _ _, (Below.refl _ _).alloc (Nat.le_refl _) _⟩
  have HW1 := Lib.hid hW1
  have HW2 := Lib.hid hW2
  have h1 := h.grown hb1
  have h2 := h1.grown hb2
  have x0 := h1.blk.cell (i := 0) rfl
  have y0 := hX1.cell (i := 0) rfl
  have z0 := h2.blk.cell (i := 0) rfl
  have z1 := (hX1.below hb2 (Nat.le_refl _)).cell (i := 0) rfl
  have hs1 := hb1.size
  have hs2 := hb2.size
  have N1 := Lib.hid (h.not (g := w.heap.size) (Nat.le_refl _))
  have N2 := Lib.hid (h.not (g := W1.heap.size) hs1)
  have HP := Lib.hid (put_any op 0 W2 t B _ vn s h2 (by omega) hl)
  have HX1 := Lib.hid (hX1.below hb2 (Nat.le_refl _))
  have HX2 := Lib.hid hX2
  have HF := Lib.hid ((TrF.of_below t (.slice ac s.code.length capc) vn hb1).trans (TrF.of_below t _ vn hb2))
  clear h h1 h2 hb1 hb2 hX1 hX2 hW1 hW2
  go_enter Try.func89, Try.ntmps89
  go_upto_region 1 with (fail)
  rw [← HW1.out]
  go_upto_region 2 with (fail)
  rw [← HW2.out]
  go_wp2_with fail
  refine HP.out.mono ?_
  rintro e3 w3 ⟨rfl, vc', vn', hT3, hF3⟩
  have HO1 := Lib.hid (hF3.own HX1.out N1.out)
  have HO2 := Lib.hid (hF3.own HX2.out N2.out)
  have HT3 := Lib.hid hT3
  have HF3 := Lib.hid (HF.out.trans hF3)
  clear hT3 hF3
  go_wp2_with fail
  go_ret
  exact ⟨_, _, rfl, HO1.out.1, HO2.out.1, _, _, HT3.out, HF3.out, HO1.out.2, HO2.out.2⟩
/-- behind the store of a jump's target -/
theorem TrC.patched {w : World} {t B : Nat} {vc vn : Value} {s : TS} (h : TrC w t B vc vn s) {k : Nat} (hk : k < s.code.length) {g : Nat} (hg : vc.ownBlock = some g) :
    TrC (w.setCell ⟨g, k * 2 + 1, none⟩ (.int .i64 s.code.length)) t B vc vn (s.patch k) ∧ TrF t vc vn w vc vn (w.setCell ⟨g, k * 2 + 1, none⟩ (.int .i64 s.code.length)) := by
  have hcs : (cellsC s.code).set (k * 2 + 1) (.int .i64 s.code.length) = cellsC (s.patch k).code := by
    show _ = cellsC (setA s.code k s.code.length)
    generalize (s.code.length : Int) = x
    generalize s.code = c at *
    unfold setA
    induction c generalizing k with
    | nil => simp at hk
    | cons i c ih =>
      cases k with
      | zero => rfl
      | succ k =>
        rw [List.modify_succ_cons]
        show (i.cells ++ cellsC c).set ((k + 1) * 2 + 1) _ = i.cells ++ cellsC (c.modify k _)
        rw [← ih (by simpa using hk), List.set_append_right _ _ (by simp [InsS.cells]; omega)]
        congr 2
        simp [InsS.cells]
        omega
  have hlen : (s.patch k).code.length = s.code.length := setA_len _ _ _
  have hgt : g ≠ t := fun e => h.tc (by rw [hg, e])
  refine ⟨⟨h.blk.set_ne (fun e => hgt e.symm) _, ?_, own_set_ne h.names (fun b hb e => h.cn g hg (by rw [hb, e])) _ _, h.tB, h.tc, h.tn, h.cn⟩, (Only.refl _ _).setIn (.inr (.inl hg)) _, fun _ hk => .inl hk⟩
  rw [hlen, ← hcs]
  obtain ⟨cap, rfl⟩ : ∃ cap, vc = .slice (some ⟨g, 0, none⟩) s.code.length cap := by
    rcases h.code.2 with ⟨rfl, -⟩ | ⟨g', cap, cur, rfl, -⟩
    · cases hg
    · cases hg; exact ⟨_, rfl⟩
  exact (h.code.stored _ _).1
set_option maxRecDepth 100000 in
theorem later1_any (b1 b2 k : Nat) (w : World) (t B : Nat) (vc vn : Value) (s : TS) (h : TrC w t B vc vn s) (hk : k < s.code.length) (hl : s.code.length ≤ 1000000) (h1 : OwnV w b1 76 [.pointer (some ⟨t, 0, none⟩)]) (h2 : OwnV w b2 3 [.int .i64 k]) :
    Calls Try.prog 106 #[.pointer (some ⟨b1, 0, none⟩), .pointer (some ⟨b2, 0, none⟩)] w (TrP w t B vc vn (s.patch k) (.tuple #[])) := by
  obtain ⟨g, cap, hv⟩ : ∃ g cap, vc = .slice (some ⟨g, 0, none⟩) s.code.length cap := by
    rcases h.code.2 with ⟨-, h0⟩ | ⟨g', cap, cur, hv, -⟩
    · omega
    · exact ⟨g', cap, hv⟩
  subst hv
  have x0 := h.blk.cell (i := 0) rfl
  have y0 := h1.cell (i := 0) rfl
  have z0 := h2.cell (i := 0) rfl
  have hfz := h.code.frozenAt
  have hki : (k : Int) < (s.code.length : Int) := by omega
  have hki0 : (0 : Int) ≤ (k : Int) := by omega
  obtain ⟨v0, hv0⟩ : ∃ v0, w.cell? ⟨g, k * 2 + 1, none⟩ = some v0 := by
    rw [h.code.cellAt _ (by omega)]
    exact ⟨_, List.getElem?_eq_getElem (by rw [cellsC_len]; omega)⟩
  have HP := Lib.hid (fun nq => (h.drew nq).patched hk (g := g) rfl)
  have HF := Lib.hid (fun nq => (TrF.refl t (.slice (some ⟨g, 0, none⟩) s.code.length cap) vn w).drew nq)
  clear h h1 h2
  go_enter Try.func106, Try.ntmps106
  go_wp2_with fail
  refine wp_region_tail 14 (DrewOf _) (by kernel_rfl) (by kernel_rfl) (DrewOf.start _) ?_
  simp only [List.take_succ_cons, List.take_zero, List.drop_succ_cons, List.drop_zero]
  repeat
    try simp only [Act.put, List.setIfInBounds_toArray, List.set_cons_succ, List.set_cons_zero]
    apply stepsSeq.cons
    · rintro w' ⟨nq, rfl⟩
      simp only [Act.put, List.setIfInBounds_toArray, List.set_cons_succ, List.set_cons_zero]
      go_wp2_with (fail)
      first | exact ⟨rfl, nq, rfl⟩ | exact ⟨rfl, nq, (World.drewN_drewN _ _ _).symm⟩ | exact ⟨rfl, nq, by simp⟩
  try simp only [Act.put, List.setIfInBounds_toArray, List.set_cons_succ, List.set_cons_zero]
  refine stepsSeq.nil ?_
  rintro w' ⟨nq, rfl⟩
  go_wp2_with fail
  exact bodyPost_ret (results_none rfl _ _ _) rfl ⟨rfl, _, _, (HP.out _).1, (HF.out _).trans (HP.out _).2⟩
end Go.Proofs.Ytdeneckmoejcfaa
namespace Go.Proofs.Ytdeneckmoejcfaa
open Go.RowKit

theorem TrC.strs {w : World} {t B : Nat} {vc vn : Value} {s : TS} (h : TrC w t B vc vn s) : Strs w s.names vn := Sl.of_own h.names
set_option maxRecDepth 100000 in
theorem slot_any (name : List UInt8) (w : World) (t B : Nat) (vc vn : Value) (s : TS) (h : TrC w t B vc vn s) (hl : s.names.length ≤ 1000000) :
    Calls Try.prog 88 #[.pointer (some ⟨t, 0, none⟩), .string (bstr name)] w (TrP w t B vc vn (s.slot name) (.int .i64 ((placeS name s.names 0 : Int) - 1))) := by
  have HI := Lib.hid (sindex_any s.names name vn w h.strs hl)
  have HF := Lib.hid (fail_any 131 w t B vc vn s h)
  have H := Lib.hid h
  have x4 := h.blk.cell (i := 4) rfl
  clear h
  have Hs : Hid (s.slot name = if placeS name s.names 0 = 0 then s.fail 131 else s) := Lib.hid rfl
  generalize placeS name s.names 0 = p at *
  generalize s.slot name = s' at *
  go_enter Try.func88, Try.ntmps88
  by_cases hp : p = 0
  · have hp1 : (p : Int) - 1 < 0 := by omega
    have Hs2 : Hid (s' = s.fail 131) := Lib.hid (by rw [Hs.out, if_pos hp])
    clear Hs hp
    go_wp2_with fail
    go_at_call 105
    refine HI.out.mono ?_
    rintro e1 w1 ⟨rfl, rfl⟩
    go_wp2_with fail
    refine HF.out.mono ?_
    rintro e1 w1 ⟨rfl, vc', vn', hT, hF⟩
    have HT := Lib.hid hT
    have HF2 := Lib.hid hF
    clear hT hF
    go_wp2_with fail
    go_ret
    exact ⟨rfl, _, _, by rw [Hs2.out]; exact HT.out, HF2.out⟩
  · have hp1 : ¬ (p : Int) - 1 < 0 := by omega
    have hp2 : (0 : Int) ≤ (p : Int) - 1 := by omega
    have Hs2 : Hid (s' = s) := Lib.hid (by rw [Hs.out, if_neg hp])
    clear Hs hp
    go_wp2_with fail
    go_at_call 105
    refine HI.out.mono ?_
    rintro e1 w1 ⟨rfl, rfl⟩
    go_wp2_with fail
    go_ret
    exact ⟨rfl, _, _, by rw [Hs2.out]; exact H.out, TrF.refl _ _ _ _⟩
/-- behind an append onto the names, and its store -/
theorem TrC.named {w w1 : World} {t B : Nat} {vc vn v' : Value} {s : TS} (h : TrC w t B vc vn s) (name : List UInt8) (hown : w1.ownsRow B 9 1 v' (s.names.length + 1) (s.names.map strV ++ [strV name])) (hg : w.grownBy w1 vn.ownBlock) (hat : v'.ownBlock = vn.ownBlock ∨ ∃ g, v'.ownBlock = some g ∧ w.heap.size ≤ g) :
    TrC (w1.setCell ⟨t, 4, none⟩ v') t B vc v' { s with names := s.names ++ [name] } ∧ TrF t vc vn w vc v' (w1.setCell ⟨t, 4, none⟩ v') := by
  have ht := h.blk.lt
  have htn : v'.ownBlock ≠ some t := by
    rcases hat with e | ⟨g, e, hge⟩
    · rw [e]; exact h.tn
    · rw [e]; intro e2; cases e2; omega
  have hb1 : OwnV w1 t 78 [vc, .int .i64 s.locals, .int .u32 0, .int .u32 0, vn, .int .i64 s.e] := h.blk.grown hg (fun e => h.tn e.symm)
  have hn1 := row_grown hg h.code (fun g hg' e => h.cn g hg' e)
  have hcn : ∀ g, vc.ownBlock = some g → v'.ownBlock ≠ some g := by
    intro g e
    rcases hat with e1 | ⟨g', e1, hge⟩
    · rw [e1]; exact h.cn g e
    · intro e2
      rw [e1] at e2; cases e2
      have := (h.code.lt g e).2
      omega
  refine ⟨⟨hb1.set 4 v', own_set_ne hn1 (fun g hg' e => by subst e; exact h.tc hg') _ _, ?_, h.tB, h.tc, htn, hcn⟩, ?_, ?_⟩
  · rw [List.length_append, List.map_append]
    exact own_set_ne hown (fun g hg' e => by subst e; exact htn hg') _ _
  · exact (Only.of_grown hg (fun g hr => .inr (.inr hr))).setIn (.inl rfl) _
  · intro k hk
    rcases hk with rfl | hk | hk
    · exact .inl (.inl rfl)
    · exact .inl (.inr (.inl hk))
    · rcases hat with e1 | ⟨g', e1, hge⟩
      · exact .inl (.inr (.inr (e1 ▸ hk)))
      · rw [e1] at hk; cases hk; exact .inr hge
theorem TrC.setL {w : World} {t B : Nat} {vc vn : Value} {s : TS} (h : TrC w t B vc vn s) (k : Nat) : TrC (w.setCell ⟨t, 1, none⟩ (.int .i64 k)) t B vc vn { s with locals := k } ∧ TrF t vc vn w vc vn (w.setCell ⟨t, 1, none⟩ (.int .i64 k)) :=
  ⟨⟨h.blk.set 1 _, own_set_ne h.code (fun g hg e => by subst e; exact h.tc hg) _ _, own_set_ne h.names (fun g hg e => by subst e; exact h.tn hg) _ _, h.tB, h.tc, h.tn, h.cn⟩, (Only.refl _ _).setIn (.inl rfl) _, fun _ hk => .inl hk⟩
theorem TrC.setLx {w : World} {t B : Nat} {vc vn : Value} {s : TS} (h : TrC w t B vc vn s) (k : Nat) (x : Int) (hx : x = (k : Int)) : TrC (w.setCell ⟨t, 1, none⟩ (.int .i64 x)) t B vc vn { s with locals := k } ∧ TrF t vc vn w vc vn (w.setCell ⟨t, 1, none⟩ (.int .i64 x)) := by
  rw [hx]; exact h.setL k
set_option maxRecDepth 100000 in
set_option maxHeartbeats 2000000 in
theorem let_from (name : List UInt8) (w0 w : World) (t B : Nat) (vc0 vn0 vc vn : Value) (s : TS) (h0 : TrF t vc0 vn0 w0 vc vn w) (h : TrC w t B vc vn s) (hB : B ≤ w.heap.size) (hl : s.names.length ≤ 1000000) (hlo : s.locals ≤ 2000000) :
    Calls Try.prog 87 #[.pointer (some ⟨t, 0, none⟩), .string (bstr name)] w (TrP w0 t B vc0 vn0 (s.letN name) (.int .i64 s.names.length)) := by
  obtain ⟨ac, capc, rfl, _, _⟩ := Sl.form (Sl.of_own h.code)
  obtain ⟨an, capn, rfl, _, _⟩ := Sl.form (Sl.of_own h.names)
  have HC := Lib.hid (scontains_any s.names name _ w h.strs hl)
  have HF := Lib.hid (fail_any 132 w t B _ _ s h)
  have HT := Lib.hid h
  have H0 := Lib.hid h0
  have x4 := h.blk.cell (i := 4) rfl
  clear h h0
  obtain ⟨s1, hs1⟩ : ∃ s1, s1 = s.letE name := ⟨_, rfl⟩
  obtain ⟨s2, hs2⟩ : ∃ s2, s2 = s1.letM := ⟨_, rfl⟩
  have Hn1 : Hid (s1.names = s.names ∧ s1.locals = s.locals) := Lib.hid (by rw [hs1]; exact (TS.letE_parts _ _).2)
  have Hn2 : Hid (s2.names = s.names ∧ s2.locals = s.locals) := Lib.hid (by rw [hs2, (TS.letM_parts _).2.1, (TS.letM_parts _).2.2]; exact Hn1.out)
  have Hr : Hid (s.letN name = { s2 with names := s2.names ++ [name], locals := max s2.locals (s2.names.length + 1) }) := Lib.hid (by rw [hs2, hs1]; rfl)
  have Hs1 : Hid (s1 = if placeS name s.names 0 ≠ 0 then s.fail 132 else s) := Lib.hid hs1
  have Hs2 : Hid (s2 = if 32 ≤ s1.names.length then s1.fail 5 else s1) := Lib.hid hs2
  obtain ⟨q, hq⟩ : ∃ q, decide (placeS name s.names 0 ≠ 0) = q := ⟨_, rfl⟩
  have Hq : Hid (decide (placeS name s.names 0 ≠ 0) = q) := Lib.hid hq
  rw [hq] at HC
  clear hq hs1 hs2
  go_enter Try.func87, Try.ntmps87
  go_wp2_with fail
  go_at_call 104
  refine HC.out.mono ?_
  rintro e1 w1 ⟨rfl, rfl⟩
  clear HC
  cases q
  case' false => have HT1 : Hid (TrC w t B (.slice ac s.code.length capc) (.slice an s.names.length capn) s1) := Lib.hid (by rw [Hs1.out, if_neg (by simpa using Hq.out)]; exact HT.out)
                 clear HF HT
  case' true =>
    go_wp2_with fail
    refine HF.out.mono ?_
    rintro e1 w ⟨rfl, vc, vn, hT, hF⟩
    have HT1 : Hid (TrC w t B vc vn s1) := Lib.hid (by rw [Hs1.out, if_pos (by simpa using Hq.out)]; exact hT)
    replace H0 := Lib.hid (H0.out.trans hF)
    replace hB := Nat.le_trans hB hF.size
    clear HF HT hT hF x4
    obtain ⟨ac, capc, rfl, _, _⟩ := Sl.form (Sl.of_own HT1.out.code)
    obtain ⟨an, capn, hvn, _, _⟩ := Sl.form (Sl.of_own HT1.out.names)
    rw [Hn1.out.1] at hvn
    subst hvn
  all_goals
    clear Hs1 Hq
    replace x4 := HT1.out.blk.cell (i := 4) rfl
    have HF := Lib.hid (fail_any 5 w t B _ _ s1 HT1.out)
    by_cases hm : 32 ≤ s.names.length
    case' neg =>
      have HT2 : Hid (TrC w t B _ _ s2) := Lib.hid (by rw [Hs2.out, if_neg (by rw [Hn1.out.1]; exact hm)]; exact HT1.out)
      have hmi : ¬ (s.names.length : Int) ≥ 32 := by omega
      clear HF HT1 Hs2 Hn1
      go_upto_region 5 with (fail)
    case' pos =>
      have hmi : (s.names.length : Int) ≥ 32 := by omega
      go_upto_region 4 with (fail)
      go_wp2_with fail
      refine HF.out.mono ?_
      rintro e1 w ⟨rfl, vc, vn, hT, hF⟩
      have HT2 : Hid (TrC w t B vc vn s2) := Lib.hid (by rw [Hs2.out, if_pos (by rw [Hn1.out.1]; exact hm)]; exact hT)
      replace H0 := Lib.hid (H0.out.trans hF)
      replace hB := Nat.le_trans hB hF.size
      clear HF HT1 hT hF x4 Hn1 Hs2
      obtain ⟨ac, capc, rfl, _, _⟩ := Sl.form (Sl.of_own HT2.out.code)
      obtain ⟨an, capn, hvn, _, _⟩ := Sl.form (Sl.of_own HT2.out.names)
      rw [Hn2.out.1] at hvn
      subst hvn
      go_upto_region 5 with (fail)
  all_goals
    have hnm := HT2.out.names
    replace x4 := HT2.out.blk.cell (i := 4) rfl
    have xf := HT2.out.blk.free
    have hl2 : s2.names.length ≤ 1000000 := by rw [Hn2.out.1]; exact hl
    have hlo2 : s2.locals ≤ 2000000 := by rw [Hn2.out.2]; exact hlo
    go_wp2_with (at_builtin; refine wpList_append_at rfl (.tmp 25) (.tmp 27) 53 rfl hnm info_pstr Try.underlying53 rfl (by decide) rfl 1 1 rfl rfl rfl (by unfold maxLen; omega) (by omega) hB ?_; intro v' w1 hown1 hg1 hb1 hat1; obtain ⟨a1, cap1, rfl, hc1, hc2⟩ := Sl.form (Sl.of_own hown1); have hN := HT2.out.named name hown1 hg1 hat1; have xf1 := (HT2.out.blk.grown hg1 (fun e => HT2.out.tn e.symm)).free; have x41 := (HT2.out.blk.grown hg1 (fun e => HT2.out.tn e.symm)).cell (i := 4) rfl; have HN := Lib.hid hN; clear hN hown1 hg1 hb1 hat1 hnm)
    have x41 := HN.out.1.blk.cell (i := 4) rfl
    have x11 : (w1.setCell ⟨t, 4, none⟩ (.slice a1 (s2.names.length + 1) cap1)).cell? ⟨t, 1, none⟩ = some (.int .i64 s2.locals) := HN.out.1.blk.cell (i := 1) rfl
    have xf2 := HN.out.1.blk.free
    obtain ⟨W5, hW5⟩ : ∃ W5, W5 = w1.setCell ⟨t, 4, none⟩ (.slice a1 (s2.names.length + 1) cap1) := ⟨_, rfl⟩
    rw [← hW5] at x41 x11 xf2 HN ⊢
    clear hW5
    by_cases hmx : s2.locals < s2.names.length + 1
    case' pos =>
      obtain ⟨L, hL⟩ : ∃ L, L = s2.names.length + 1 := ⟨_, rfl⟩
      have hL2 : L = max s2.locals (s2.names.length + 1) := by omega
      have hmi1 : (s2.locals : Int) < (s2.names.length : Int) + 1 := by omega
    case' neg =>
      obtain ⟨L, hL⟩ : ∃ L, L = s2.locals := ⟨_, rfl⟩
      have hL2 : L = max s2.locals (s2.names.length + 1) := by omega
      have hmi2 : (s2.names.length : Int) + 1 ≤ (s2.locals : Int) := by omega
    all_goals
      have HP := Lib.hid (fun (nq : Nat) (x : Int) (hx : x = (L : Int)) => (HN.out.1.drew nq).setLx L x hx)
      have HF5 := Lib.hid (fun nq => H0.out.trans (HN.out.2.drew nq))
      have HL := Lib.hid hL
      have HL2 := Lib.hid hL2
      clear hL2 hL
      refine wp_region_tail 15 (DrewOf _) (by kernel_rfl) (by kernel_rfl) (DrewOf.start _) ?_
      simp only [List.take_succ_cons, List.take_zero, List.drop_succ_cons, List.drop_zero]
      repeat
        try simp only [Act.put, List.setIfInBounds_toArray, List.set_cons_succ, List.set_cons_zero]
        apply stepsSeq.cons
        · rintro w' ⟨nq, rfl⟩
          simp only [Act.put, List.setIfInBounds_toArray, List.set_cons_succ, List.set_cons_zero]
          go_wp2_with (fail)
          first | exact ⟨rfl, nq, rfl⟩ | exact ⟨rfl, nq, (World.drewN_drewN _ _ _).symm⟩ | exact ⟨rfl, nq, by simp⟩
      try simp only [Act.put, List.setIfInBounds_toArray, List.set_cons_succ, List.set_cons_zero]
      refine stepsSeq.nil ?_
      rintro w' ⟨nq, rfl⟩
      go_wp2_with fail
      go_ret
      refine ⟨?_, _, _, ?_, (HF5.out _).trans (HP.out _ _ ?_).2⟩
      rotate_right
      · have := HL.out; omega
      · first | rfl | (rw [Hn2.out.1]; rfl) | (rw [Hn2.out.1]; congr 1; congr 1; omega)
      · rw [Hr.out, ← HL2.out]; exact (HP.out _ _ (by have := HL.out; omega)).1
theorem let_any (name : List UInt8) (w : World) (t B : Nat) (vc vn : Value) (s : TS) (h : TrC w t B vc vn s) (hB : B ≤ w.heap.size) (hl : s.names.length ≤ 1000000) (hlo : s.locals ≤ 2000000) :
    Calls Try.prog 87 #[.pointer (some ⟨t, 0, none⟩), .string (bstr name)] w (TrP w t B vc vn (s.letN name) (.int .i64 s.names.length)) :=
  let_from name w w t B vc vn vc vn s (TrF.refl _ _ _ _) h hB hl hlo
end Go.Proofs.Ytdeneckmoejcfaa
namespace Go.Proofs.Ytdeneckmoejcfaa

theorem codeE_two (ns : Names) (op n : Int) (name : List UInt8) (x y : Ex) (h : op = 21 ∨ op = 22) : codeE ns (.mk op n name [x, y]) = (codeE ns x).andThen fun a => (codeE ns y).andThen fun b => .ok (lazyC a b op) := by
  rw [codeE, if_neg (by omega), if_neg (by omega), if_neg (by omega), if_neg (by omega), codeEs, codeEs]
  cases codeE ns x with
  | err e => rfl
  | ok a =>
    cases codeE ns y with
    | err e => rfl
    | ok b =>
      show finE op n [a, b] = .ok (lazyC a b op)
      simp only [finE]
      rw [if_pos h]
theorem fin_eq (op n : Int) (cs : List Code1) (h : cs.length = 1 ∨ (cs.length = 2 ∧ op ≠ 21 ∧ op ≠ 22 ∧ op ≠ 3 ∧ op ≠ 6)) : finE op n cs = .ok (joinC (joinAll cs) [if op = 3 then ⟨4, n⟩ else if op = 6 then ⟨8, 0⟩ else ⟨9, op⟩]) := by
  match cs, h with
  | [a], _ => simp only [finE, joinAll, List.foldl_cons, List.foldl_nil, joinC_nil]
  | [a, b], h =>
    simp at h
    simp only [finE, joinAll, List.foldl_cons, List.foldl_nil, joinC_nil]
    rw [if_neg (by omega), if_neg h.2.2.1, if_neg h.2.2.2]
theorem andThen_congr {α β : Type} {r : CR α} {f g : α → CR β} (h : ∀ x, r = .ok x → f x = g x) : r.andThen f = r.andThen g := by
  cases r with
  | ok x => exact h x rfl
  | err e => rfl
theorem codeE_fin (ns : Names) (op n : Int) (name : List UInt8) (args : List Ex) (h0 : op ≠ 1 ∧ op ≠ 2 ∧ op ≠ 4 ∧ op ≠ 5) (h : args.length = 1 ∨ (args.length = 2 ∧ op ≠ 21 ∧ op ≠ 22 ∧ op ≠ 3 ∧ op ≠ 6)) :
    codeE ns (.mk op n name args) = (codeEs ns args).andThen fun cs => .ok (joinC (joinAll cs) [if op = 3 then ⟨4, n⟩ else if op = 6 then ⟨8, 0⟩ else ⟨9, op⟩]) := by
  rw [codeE, if_neg h0.1, if_neg h0.2.1, if_neg h0.2.2.1, if_neg h0.2.2.2]
  exact andThen_congr fun cs hcs => fin_eq op n cs (by rw [(codeEs_ok ns args cs hcs).2.2]; exact h)
theorem tEs_law : ∀ (xs : List Ex) (s : TS), (∀ x ∈ xs, ∀ s : TS, ExpT s (tE x s) (szE x) (codeE s.names x)) → ExpsT s (tEs xs s) (szEs xs) (codeEs s.names xs) := by
  intro xs
  induction xs with
  | nil => intro s _; rw [tEs, codeEs, szEs]; exact ExpsT.nil s
  | cons x r ih =>
    intro s h
    rw [tEs, codeEs, szEs]
    have h1 := h x (by simp) s
    have h2 := ih (tE x s) (fun y hy => h y (by simp [hy]))
    rw [h1.names] at h2
    exact ExpsT.cons h1 h2 (fun k hk => by have := codeE_err _ _ _ hk; omega)
theorem slot_law (s : TS) (name : List UInt8) (op : Int) (hj : jumpB ⟨op, (placeS name s.names 0 : Int) - 1⟩ = false) (z : Nat) (hz : 1 ≤ z) (r : CR Code1) (hr : r = if placeS name s.names 0 = 0 then .err 131 else .ok [⟨op, (placeS name s.names 0 : Int) - 1⟩]) :
    ExpT s ((s.slot name).put op ((placeS name s.names 0 : Int) - 1)) z r := by
  subst hr
  refine ⟨TS.slot_names _ _, TS.slot_locals _ _, by simp [TS.put_code, TS.slot_code], by simp [TS.put_code, TS.slot_code]; omega, fun e => TS.slot_keep e _, fun e c hc => ?_, fun e k hk => ?_⟩
  · split at hc
    · cases hc
    · cases hc
      have h1 : s.slot name = s := by unfold TS.slot; rw [if_neg ‹_›]
      rw [h1]
      exact ⟨e, by rw [joinC_one _ _ hj]; rfl⟩
  · split at hk
    · cases hk
      show (s.slot name).e = 131
      unfold TS.slot
      rw [if_pos ‹_›]
      exact TS.fail_new e _
    · cases hk
theorem tE_law : ∀ (d : Nat) (x : Ex) (s : TS), fineS d x = true → ExpT s (tE x s) (szE x) (codeE s.names x) := by
  intro d
  induction d with
  | zero => intro x s h; cases h
  | succ d ih =>
    intro x s h
    obtain ⟨op, n, name, args⟩ := x
    rw [fineS, Bool.and_eq_true, List.all_eq_true] at h
    obtain ⟨hh, hall⟩ := h
    have hl : args.length = manyS op ∧ 1 ≤ op ∧ op ≤ 24 := by
      unfold headE at hh
      rw [Bool.and_eq_true, Bool.and_eq_true, decide_eq_true_eq, decide_eq_true_eq] at hh
      exact ⟨hh.2.1, hh.1⟩
    have hes := tEs_law args s (fun x hx s => ih x s (hall x hx))
    rw [tE, szE]
    by_cases h1 : op = 1
    · subst h1
      rw [if_pos rfl, codeE, if_pos rfl]
      exact ExpT.one s 1 n _ (by omega) rfl
    rw [if_neg h1]
    by_cases h2 : op = 2
    · subst h2
      rw [if_pos rfl]
      exact slot_law s name 2 rfl _ (by omega) _ (by rw [codeE, if_neg h1, if_pos rfl])
    rw [if_neg h2]
    by_cases h4 : op = 4
    · subst h4
      rw [if_pos rfl, codeE, if_neg h1, if_neg h2, if_pos rfl]
      exact ExpT.one s 6 0 _ (by omega) rfl
    rw [if_neg h4]
    by_cases h5 : op = 5
    · subst h5
      rw [if_pos rfl, codeE, if_neg h1, if_neg h2, if_neg h4, if_pos rfl]
      exact ExpT.one s 7 0 _ (by omega) rfl
    rw [if_neg h5]
    have more : ∀ {s' : TS} {z z' : Nat} {r : CR Code1}, ExpT s s' z r → z ≤ z' → ExpT s s' z' r := fun hx hz => ⟨hx.names, hx.locals, hx.le, by have := hx.len; omega, hx.keep, hx.ok, hx.bad⟩
    have two : (op = 21 ∨ op = 22) → ExpT s (tLazy args (12 + op - 21) (op - 21) s) (1 + name.length / 30 + szEs args) (codeE s.names (.mk op n name args)) := by
      intro hop
      have hm : manyS op = 2 := by unfold manyS; rw [if_neg (by omega)]
      match args, hl.1, hall with
      | [a, b], _, hall =>
        rw [codeE_two _ _ _ _ _ _ hop, tLazy]
        have ha := ih a s (hall a (by simp))
        have hb := ih b ((tE a s).put (12 + op - 21) 0) (hall b (by simp))
        rw [show ((tE a s).put (12 + op - 21) 0).names = s.names from ha.names] at hb
        exact more (lazy_law (12 + op - 21) (op - 21) op hop rfl rfl rfl rfl ha hb (fun k hk => by have := codeE_err _ _ _ hk; omega)) (by simp only [szEs]; omega)
      | [], e, _ => rw [hm] at e; cases e
      | [_], e, _ => rw [hm] at e; cases e
      | _ :: _ :: _ :: _, e, _ => rw [hm] at e; simp at e
    by_cases h21 : op = 21
    · subst h21
      rw [if_pos rfl]
      exact two (.inl rfl)
    rw [if_neg h21]
    by_cases h22 : op = 22
    · subst h22
      rw [if_pos rfl]
      exact two (.inr rfl)
    rw [if_neg h22]
    have hmany : args.length = 1 ∨ (args.length = 2 ∧ op ≠ 21 ∧ op ≠ 22 ∧ op ≠ 3 ∧ op ≠ 6) := by
      rw [hl.1]
      unfold manyS
      by_cases h10 : op < 10
      · rw [if_pos h10, if_neg (by omega)]; exact .inl rfl
      · rw [if_neg h10]; exact .inr ⟨rfl, by omega⟩
    have hcf := codeE_fin s.names op n name args ⟨h1, h2, h4, h5⟩ hmany
    by_cases h3 : op = 3
    · subst h3
      rw [if_pos rfl]
      exact more (hes.fin 4 n rfl (by rw [hcf]; rfl)) (by omega)
    rw [if_neg h3]
    by_cases h6 : op = 6
    · subst h6
      rw [if_pos rfl]
      exact more (hes.fin 8 0 rfl (by rw [hcf]; rfl)) (by omega)
    rw [if_neg h6]
    exact more (hes.fin 9 op rfl (by rw [hcf, if_neg h3, if_neg h6])) (by omega)
end Go.Proofs.Ytdeneckmoejcfaa
