/- marcheslaw12.ParseSmall: it returns true and ends. No condition. -/
import Derived.Test.YtoaojdobjinhfaaGreatDoorCards
import Derived.Test.YtoaojdobjinhfaaGreatDoorTie
import Derived.Test.YtoaojdobjinhfaaGreatDoorSmFQz
import Derived.WalkKit
import Derived.ProofKit
import Derived.OpenShut
import Derived.ShutString
import Derived.ChangeOld
import Derived.ChangeMaps5
import Derived.Below
import Derived.SevenTiedAt
set_option linter.unusedSimpArgs false
set_option linter.unusedVariables false
namespace Go.Proofs.YtoaojdobjinhfaaGreatDoor.parseSmall
open Go.ChangeShapes Go.WideShapes Go.ChangeAt Go.ChangeMaps Go.RowKit

set_option maxRecDepth 100000 in
theorem lifted (os : Os) (started : os.Started) (H : Type) (enc : TypeId × Value -> H) :
    ReturnsInHanded {} Tryz.checked os 8 .any (fun w args => (Rows.parseSmallSpec.pre enc Tryz.prog Tryz.f8 Rows.parseSmallRow.domain false w args /\ laidMetH Tryz.prog zkV w) /\ sizedMet enc Tryz.prog Tryz.f8 (OpenSpec.ofChange Rows.parseSmallSpec) false w args)
      (Rows.parseSmallSpec.post enc Tryz.prog Tryz.f8 false true false false) := by
  refine returnsInHanded_of_change_and (C := Tryz.checked) (X := fun w _ => laidMetH Tryz.prog zkV w) (fun _ _ _ hh h => h.of_heap hh) own started (by kernel_rfl) Tryz.func8
    (ChangeSpec.witness_shaped (enc := enc) (C := Tryz.checked) (os := os) (X := fun w _ => laidMetH Tryz.prog zkV w) false (World.laidAll Tryz.prog os zkV) #[] 8 (World.laidAll_os _ _ _)
      (World.shaped_of_ZipB (by kernel_rfl) (by kernel_rfl)) (by kernel_rfl) (by kernel_rfl) (by kernel_rfl) (zsD os _)) ?_
  intro W base args ds gs before hval0 hW _ _ hL _
  have hG := zny hL
  clear hL
  have hval : ∀ (j : Nat) t v, Tryz.f8.params[j]? = some t -> args[j]? = some v -> Value.okWide Tryz.prog W .any base t v := hval0
  have hW' := hW
  obtain ⟨p, q, hA0, hV, rfl, hfz, hnd⟩ := hW
  have hA : DataW.TrodAll enc Tryz.prog W 0 (fun _ => true) true Tryz.f8.params.toList args.toList ds p := hA0
  rw [Tryz.params8] at hA hval
  obtain ⟨hargs, rfl, rfl⟩ := trodAll_nil hA
  obtain rfl : args = #[] := by cases args; simp_all
  obtain ⟨rfl, rfl⟩ := trodVars_none hV
  clear hargs
  clear hA0 hval0
  refine (parseSmall_any hG).mono fun e W' ⟨he, bel⟩ => ?_
  subst he
  exact ⟨_, rfl, _, _, _, [], _, [], hW', trodAll_mk1 (shut_bool Tryz.underlying4 _), trodAll_mk0, rfl, bel.frame _, fun h => by cases h⟩

theorem g0 : (Rows.parseSmallRow.wf (OpenSpec.ofChange Rows.parseSmallSpec)) = true := by kernel_rfl
theorem g1 : (laidOutB Tryz.pinned.checked.prog) = true := by kernel_rfl
theorem g2 : (mapsRowed Tryz.pinned.checked.prog) = true := by kernel_rfl
theorem g3 : (Tryz.f8.params.all (Tryz.pinned.checked.prog.readableRec ·)) = true := by kernel_rfl
theorem g4 : (namedTie Tryz.pinned.checked.prog Rows.parseSmallRow.named Rows.parseSmallSpec.vars) = true := by kernel_rfl
theorem g5 : ((Rows.parseSmallRow.stops == [])) = true := by kernel_rfl
theorem g6 : ((Tryz.pinned.checked.prog.stops == [])) = true := by kernel_rfl
theorem g7 : ((Rows.parseSmallRow.knobs == [])) = true := by kernel_rfl
theorem g8 : ((Tryz.pinned.checked.prog.stopKnobs == [])) = true := by kernel_rfl
theorem g9 : ((Rows.parseSmallRow.inPlace == Tryz.pinned.checked.prog.inPlace 8)) = true := by kernel_rfl
theorem g10 : ((Rows.parseSmallRow.unfollowed == Tryz.pinned.checked.prog.unfollowed 8)) = true := by kernel_rfl
theorem g11 : ((Rows.parseSmallRow.recurses == Tryz.pinned.checked.prog.recurses 8)) = true := by kernel_rfl
theorem g12 : ((Rows.parseSmallRow.named == Tryz.pinned.checked.prog.varsNamed 8)) = true := by kernel_rfl
theorem g13 : ((Rows.parseSmallRow.maps == (Tryz.f8.params.toList ++ Rows.parseSmallSpec.plain.varTypes Tryz.pinned.checked.prog).any (Tryz.pinned.checked.prog.mapsRec ·))) = true := by kernel_rfl
theorem g14 : ((Rows.parseSmallRow.ifaces == (Tryz.f8.params.toList ++ Rows.parseSmallSpec.plain.varTypes Tryz.pinned.checked.prog).any (Tryz.pinned.checked.prog.ifacesRec ·))) = true := by kernel_rfl
theorem g15 : ((Rows.parseSmallRow.mapsOut == Tryz.pinned.checked.prog.mapsAmong Tryz.f8.resultTypes.toList)) = true := by kernel_rfl
theorem g16 : ((Rows.parseSmallRow.loops == (Tryz.f8.params.toList ++ Rows.parseSmallSpec.plain.varTypes Tryz.pinned.checked.prog).any (Tryz.pinned.checked.prog.loopsFrom ·))) = true := by kernel_rfl
theorem g17 : ((Rows.parseSmallRow.wideKeys == (Tryz.f8.params.toList ++ Rows.parseSmallSpec.plain.varTypes Tryz.pinned.checked.prog ++ Tryz.f8.resultTypes.toList).any (Tryz.pinned.checked.prog.wideKeysFrom ·))) = true := by kernel_rfl
theorem g18 : (Rows.parseSmallSpec.vars.all (Tryz.pinned.checked.prog.varReadable ·)) = true := by kernel_rfl
theorem g19 : (Tryz.f8.resultTypes.all (fun t => Tryz.pinned.checked.prog.readableRec t && decide (t < Tryz.pinned.checked.prog.types.size))) = true := by kernel_rfl
theorem g20 : ((Rows.parseSmallRow.ifacesOut == Tryz.f8.resultTypes.toList.any (Tryz.pinned.checked.prog.ifacesRec ·))) = true := by kernel_rfl
theorem g21 : ((Rows.parseSmallRow.loopsOut == Tryz.f8.resultTypes.toList.any (Tryz.pinned.checked.prog.loopsFrom ·))) = true := by kernel_rfl
theorem g22 : ((Rows.parseSmallRow.plainKeys == Tryz.pinned.checked.prog.plainKeys)) = true := by kernel_rfl
theorem g23 : (Rows.parseSmallRow.shortTexts.isNone) = true := by kernel_rfl
theorem g24 : (Tryz.pinned.checked.prog.stopsHeard) = true := by kernel_rfl
theorem g25 : (Tryz.pinned.checked.prog.mayEnter) = true := by kernel_rfl
theorem g26 : ((Rows.parseSmallRow.lifted == Tryz.pinned.checked.prog.liftsFinal)) = true := by kernel_rfl
theorem g27 : ((Tryz.pinned.checked.prog.make == some Rows.parseSmallRow.make)) = true := by kernel_rfl
theorem g29 : ((Rows.parseSmallRow.pinned == Rows.parseSmallRow.pinnedBy)) = true := by kernel_rfl
theorem g30 : ((Rows.parseSmallRow.veiled == (Tryz.f8.params.toList ++ Rows.parseSmallSpec.plain.varTypes Tryz.pinned.checked.prog ++ Tryz.f8.resultTypes.toList).any (Tryz.pinned.checked.prog.veiledRec ·))) = true := by kernel_rfl
theorem g31 : (Rows.parseSmallRow.veiledFits Tryz.pinned.checked.prog Tryz.f8.params.toList (Tryz.f8.params.toList ++ Rows.parseSmallSpec.plain.varTypes Tryz.pinned.checked.prog ++ Tryz.f8.resultTypes.toList)) = true := by kernel_rfl
theorem facts : joinedFacts Tryz.pinned.checked.prog 8 Tryz.f8 Rows.parseSmallSpec Rows.parseSmallRow = true := by
  unfold joinedFacts
  simp only [g0, g1, g2, g3, g4, g5, g6, g7, g8, g9, g10, g11, g12, g13, g14, g15, g16, g17, g18, g19, g20, g21, g22, g23, g24, g25, g26, g27, g29, g30, g31, Bool.true_and, Bool.and_true]
  kernel_rfl
theorem same : (Tryz.f8).isInstance Tryz.pinned.checked.prog Rows.parseSmallRow.origin Rows.parseSmallRow.targs := of_decide_eq_true (by kernel_rfl)
theorem wrap : (Tryz.f8).isWrapper Tryz.pinned.checked.prog Rows.parseSmallRow.wrapper Rows.parseSmallRow.mainSum := by unfold Func.isWrapper; first | (rw [yP (by decide +kernel)]; kernel_rfl) | (rw [yN (by decide +kernel)]; exact ⟨rfl, rfl⟩)
theorem over : Rows.parseSmallRow.holds Tryz.pinned (OpenSpec.ofChange Rows.parseSmallSpec) :=
  OpenClaim.holds_of_wide 8 Tryz.f8 rfl rfl rfl rfl rfl rfl rfl ⟨rfl, rfl, rfl, rfl, rfl⟩ rfl rfl rfl rfl rfl (by kernel_rfl) Tryz.func8 facts same wrap
    (fun os started H enc _ => lifted os started H enc)

theorem looked (f : FuncId) (fn : Func) (hf : Tryz.pinned.checked.prog.funcNamed Rows.parseSmallRow.func = some f) (hfn : Tryz.pinned.checked.prog.funcs[f]? = some fn) :
    true = Tryz.pinned.checked.prog.looks [] /\ ∀ (j : Nat) t, fn.params[j]? = some t -> Tryz.pinned.checked.prog.wantsStandIn t = false := by
  obtain rfl : f = 8 := Option.some.inj ((show Tryz.pinned.checked.prog.funcNamed Rows.parseSmallRow.func = some 8 by kernel_rfl).symm.trans hf) |>.symm
  obtain rfl : fn = Tryz.f8 := (Option.some.inj ((show Tryz.pinned.checked.prog.funcs[8]? = some Tryz.f8 from Tryz.func8).symm.trans hfn)).symm
  refine ⟨by kernel_rfl, fun j t ht => ?_⟩
  have hm : t ∈ Tryz.f8.params := Array.mem_of_getElem? ht
  have ha : Tryz.f8.params.all (fun t => Tryz.pinned.checked.prog.wantsStandIn t == false) = true := by kernel_rfl
  have := Array.all_eq_true_iff_forall_mem.1 ha t hm
  simpa using this

/-- THE STATEMENT -/
theorem proved : Rows.ParseSmallCardSaid :=
  Claim7.holds_tied_plain_at .later [] [.data, .data, .data, .data, .sentinel, .sentinel, .listed, .data, .pinned] true (true, "ec4a36df05af7d16dfacbfc9c9f173b11b5709fec81f74b3844480e0d07a5cf2") true
    over (fun _ h => by cases h) (by kernel_rfl) (fun _ h => by cases h) parseSmall_row_tie rfl ⟨rfl, rfl⟩ (by kernel_rfl) rfl looked (by kernel_rfl)
#print axioms proved
end Go.Proofs.YtoaojdobjinhfaaGreatDoor.parseSmall
