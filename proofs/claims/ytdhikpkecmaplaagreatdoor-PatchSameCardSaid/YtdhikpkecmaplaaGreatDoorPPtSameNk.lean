/- The statement PatchSame of the given row. -/
import Derived.Test.YtdhikpkecmaplaaGreatDoorCards
import Derived.Test.YtdhikpkecmaplaaGreatDoorTie
import Derived.Test.YtdhikpkecmaplaaGreatDoorPtCkNk
import Derived.Test.YtdhikpkecmaplaaGreatDoorTreeONk
import Derived.WalkKit
import Derived.ProofKit
import Derived.OpenShut
import Derived.ShutString
import Derived.ChangeOld
import Derived.ChangeMaps5
import Derived.Below
import Derived.SevenTiedAt
namespace Go.Proofs.YtdhikpkecmaplaaGreatDoor.patchSame
open Go.ChangeShapes Go.WideShapes Go.ChangeAt Go.ChangeMaps Go.RowKit

set_option maxRecDepth 100000 in
theorem lifted (os : Os) (started : os.Started) (H : Type) (enc : TypeId × Value → H) :
    ReturnsInHanded {} Tryz.checked os 4 .any (fun w args => (Rows.patchSameSpec.pre enc Tryz.prog Tryz.f4 Rows.patchSameRow.domain false w args ∧ laidMetH Tryz.prog zkV w) ∧ sizedMet enc Tryz.prog Tryz.f4 (OpenSpec.ofChange Rows.patchSameSpec) false w args)
      (Rows.patchSameSpec.post enc Tryz.prog Tryz.f4 false true false false) := by
  refine returnsInHanded_of_change_and (C := Tryz.checked) (X := fun w _ => laidMetH Tryz.prog zkV w) (fun _ _ _ hh h => h.of_heap hh) own started (by kernel_rfl) Tryz.func4
    (ChangeSpec.witness_shaped (enc := enc) (C := Tryz.checked) (os := os) (X := fun w _ => laidMetH Tryz.prog zkV w) false (World.laidAll Tryz.prog os zkV) #[.agg #[.int .i64 0, .slice none 0 0, .slice none 0 0, .slice none 0 0], .int .u64 0] 8 (World.laidAll_os _ _ _)
      (World.shaped_of_ZipB (by kernel_rfl) (by kernel_rfl)) (by kernel_rfl) (by kernel_rfl) (by kernel_rfl) (zsD os _)) ?_
  intro W base args ds gs before hval0 hW _ _ hL _
  have hG := zny hL
  clear hL
  have hval : ∀ (j : Nat) t v, Tryz.f4.params[j]? = some t → args[j]? = some v → Value.okWide Tryz.prog W .any base t v := hval0
  have hW' := hW
  obtain ⟨p, q, hA0, hV, rfl, hfz, hnd⟩ := hW
  have hA : DataW.TrodAll enc Tryz.prog W 0 (fun _ => true) true Tryz.f4.params.toList args.toList ds p := hA0
  rw [Tryz.params4] at hA hval
  obtain ⟨v0, vs0, d0, ds0, p0, q0, hargs, rfl, rfl, h0, r0⟩ := trodAll_cons hA
  obtain ⟨v1, vs1, d1, ds1, p1, q1, rfl, rfl, rfl, h1, r1⟩ := trodAll_cons r0
  obtain ⟨rfl, rfl, rfl⟩ := trodAll_nil r1
  obtain rfl : args = #[v0, v1] := by cases args; simp_all
  obtain ⟨rfl, rfl⟩ := trodVars_none hV
  have lt0 : ∀ x ∈ p0, x.block < W.heap.size := by obtain ⟨m, hm⟩ := h0; exact DataW.trod_lt m _ _ _ hm
  clear hargs
  obtain ⟨y0, s0, ya0, yb0, yc0, rfl, k0, x0⟩ := open_book (hval 0 _ v0 rfl rfl) h0
  obtain ⟨s1, rfl, rfl, rfl, k1⟩ := open_int Tryz.underlying47 (hval 1 _ v1 rfl rfl) h1
  clear hA0 hval0
  refine (patchSame_any (seed := s1) hG k0 x0).mono fun e W' ⟨he, bel⟩ => ?_
  subst he
  exact ⟨_, rfl, _, _, _, [], _, [], hW', trodAll_mk1 (shut_bool Tryz.underlying4 _), (trodAll_cons_mk (Below.trod ztz (by kernel_rfl) (of_decide_eq_true (by kernel_rfl)) h0 bel lt0) (trodAll_cons_mk (shut_int Tryz.underlying47 k1) trodAll_mk0)), rfl, bel.frame _, fun h => by cases h⟩

theorem g0 : (Rows.patchSameRow.wf (OpenSpec.ofChange Rows.patchSameSpec)) = true := by kernel_rfl
theorem g1 : (laidOutB Tryz.pinned.checked.prog) = true := by kernel_rfl
theorem g2 : (mapsRowed Tryz.pinned.checked.prog) = true := by kernel_rfl
theorem g3 : (Tryz.f4.params.all (Tryz.pinned.checked.prog.readableRec ·)) = true := by kernel_rfl
theorem g4 : (namedTie Tryz.pinned.checked.prog Rows.patchSameRow.named Rows.patchSameSpec.vars) = true := by kernel_rfl
theorem g5 : ((Rows.patchSameRow.stops == [])) = true := by kernel_rfl
theorem g6 : ((Tryz.pinned.checked.prog.stops == [])) = true := by kernel_rfl
theorem g7 : ((Rows.patchSameRow.knobs == [])) = true := by kernel_rfl
theorem g8 : ((Tryz.pinned.checked.prog.stopKnobs == [])) = true := by kernel_rfl
theorem g9 : ((Rows.patchSameRow.inPlace == Tryz.pinned.checked.prog.inPlace 4)) = true := by kernel_rfl
theorem g10 : ((Rows.patchSameRow.unfollowed == Tryz.pinned.checked.prog.unfollowed 4)) = true := by kernel_rfl
theorem g11 : ((Rows.patchSameRow.recurses == Tryz.pinned.checked.prog.recurses 4)) = true := by kernel_rfl
theorem g12 : ((Rows.patchSameRow.named == Tryz.pinned.checked.prog.varsNamed 4)) = true := by kernel_rfl
theorem g13 : ((Rows.patchSameRow.maps == (Tryz.f4.params.toList ++ Rows.patchSameSpec.plain.varTypes Tryz.pinned.checked.prog).any (Tryz.pinned.checked.prog.mapsRec ·))) = true := by kernel_rfl
theorem g14 : ((Rows.patchSameRow.ifaces == (Tryz.f4.params.toList ++ Rows.patchSameSpec.plain.varTypes Tryz.pinned.checked.prog).any (Tryz.pinned.checked.prog.ifacesRec ·))) = true := by kernel_rfl
theorem g15 : ((Rows.patchSameRow.mapsOut == Tryz.pinned.checked.prog.mapsAmong Tryz.f4.resultTypes.toList)) = true := by kernel_rfl
theorem g16 : ((Rows.patchSameRow.loops == (Tryz.f4.params.toList ++ Rows.patchSameSpec.plain.varTypes Tryz.pinned.checked.prog).any (Tryz.pinned.checked.prog.loopsFrom ·))) = true := by kernel_rfl
theorem g17 : ((Rows.patchSameRow.wideKeys == (Tryz.f4.params.toList ++ Rows.patchSameSpec.plain.varTypes Tryz.pinned.checked.prog ++ Tryz.f4.resultTypes.toList).any (Tryz.pinned.checked.prog.wideKeysFrom ·))) = true := by kernel_rfl
theorem g18 : (Rows.patchSameSpec.vars.all (Tryz.pinned.checked.prog.varReadable ·)) = true := by kernel_rfl
theorem g19 : (Tryz.f4.resultTypes.all (fun t => Tryz.pinned.checked.prog.readableRec t && decide (t < Tryz.pinned.checked.prog.types.size))) = true := by kernel_rfl
theorem g20 : ((Rows.patchSameRow.ifacesOut == Tryz.f4.resultTypes.toList.any (Tryz.pinned.checked.prog.ifacesRec ·))) = true := by kernel_rfl
theorem g21 : ((Rows.patchSameRow.loopsOut == Tryz.f4.resultTypes.toList.any (Tryz.pinned.checked.prog.loopsFrom ·))) = true := by kernel_rfl
theorem g22 : ((Rows.patchSameRow.plainKeys == Tryz.pinned.checked.prog.plainKeys)) = true := by kernel_rfl
theorem g23 : (Rows.patchSameRow.shortTexts.isNone) = true := by kernel_rfl
theorem g24 : (Tryz.pinned.checked.prog.stopsHeard) = true := by kernel_rfl
theorem g25 : (Tryz.pinned.checked.prog.mayEnter) = true := by kernel_rfl
theorem g26 : ((Rows.patchSameRow.lifted == Tryz.pinned.checked.prog.liftsFinal)) = true := by kernel_rfl
theorem g27 : ((Tryz.pinned.checked.prog.make == some Rows.patchSameRow.make)) = true := by kernel_rfl
theorem g29 : ((Rows.patchSameRow.pinned == Rows.patchSameRow.pinnedBy)) = true := by kernel_rfl
theorem g30 : ((Rows.patchSameRow.veiled == (Tryz.f4.params.toList ++ Rows.patchSameSpec.plain.varTypes Tryz.pinned.checked.prog ++ Tryz.f4.resultTypes.toList).any (Tryz.pinned.checked.prog.veiledRec ·))) = true := by kernel_rfl
theorem g31 : (Rows.patchSameRow.veiledFits Tryz.pinned.checked.prog Tryz.f4.params.toList (Tryz.f4.params.toList ++ Rows.patchSameSpec.plain.varTypes Tryz.pinned.checked.prog ++ Tryz.f4.resultTypes.toList)) = true := by kernel_rfl
theorem facts : joinedFacts Tryz.pinned.checked.prog 4 Tryz.f4 Rows.patchSameSpec Rows.patchSameRow = true := by
  unfold joinedFacts
  simp only [g0, g1, g2, g3, g4, g5, g6, g7, g8, g9, g10, g11, g12, g13, g14, g15, g16, g17, g18, g19, g20, g21, g22, g23, g24, g25, g26, g27, g29, g30, g31, Bool.true_and, Bool.and_true]
  kernel_rfl
theorem same : (Tryz.f4).isInstance Tryz.pinned.checked.prog Rows.patchSameRow.origin Rows.patchSameRow.targs := of_decide_eq_true (by kernel_rfl)
theorem wrap : (Tryz.f4).isWrapper Tryz.pinned.checked.prog Rows.patchSameRow.wrapper Rows.patchSameRow.mainSum := by unfold Func.isWrapper; first | (rw [yP (by decide +kernel)]; kernel_rfl) | (rw [yN (by decide +kernel)]; exact ⟨rfl, rfl⟩)
theorem over : Rows.patchSameRow.holds Tryz.pinned (OpenSpec.ofChange Rows.patchSameSpec) :=
  OpenClaim.holds_of_wide 4 Tryz.f4 rfl rfl rfl rfl rfl rfl rfl ⟨rfl, rfl, rfl, rfl, rfl⟩ rfl rfl rfl rfl rfl (by kernel_rfl) Tryz.func4 facts same wrap
    (fun os started H enc _ => lifted os started H enc)

theorem looked (f : FuncId) (fn : Func) (hf : Tryz.pinned.checked.prog.funcNamed Rows.patchSameRow.func = some f) (hfn : Tryz.pinned.checked.prog.funcs[f]? = some fn) :
    true = Tryz.pinned.checked.prog.looks [] ∧ ∀ (j : Nat) t, fn.params[j]? = some t → Tryz.pinned.checked.prog.wantsStandIn t = false := by
  obtain rfl : f = 4 := Option.some.inj ((show Tryz.pinned.checked.prog.funcNamed Rows.patchSameRow.func = some 4 by kernel_rfl).symm.trans hf) |>.symm
  obtain rfl : fn = Tryz.f4 := (Option.some.inj ((show Tryz.pinned.checked.prog.funcs[4]? = some Tryz.f4 from Tryz.func4).symm.trans hfn)).symm
  refine ⟨by kernel_rfl, fun j t ht => ?_⟩
  have hm : t ∈ Tryz.f4.params := Array.mem_of_getElem? ht
  have ha : Tryz.f4.params.all (fun t => Tryz.pinned.checked.prog.wantsStandIn t == false) = true := by kernel_rfl
  have := Array.all_eq_true_iff_forall_mem.1 ha t hm
  simpa using this

/-- THE STATEMENT -/
theorem proved : Rows.PatchSameCardSaid :=
  Claim7.holds_tied_plain_at .later [] [.data, .data, .data, .data, .sentinel, .sentinel, .listed, .data, .pinned] true (true, "0e4d74e08126959e2da6481915a023b63b511b97c780d8574744ba77ecc4c601") true
    over (fun _ h => by cases h) (by kernel_rfl) (fun _ h => by cases h) patchSame_row_tie rfl ⟨rfl, rfl⟩ (by kernel_rfl) rfl looked (by kernel_rfl)
#print axioms proved
end Go.Proofs.YtdhikpkecmaplaaGreatDoor.patchSame
