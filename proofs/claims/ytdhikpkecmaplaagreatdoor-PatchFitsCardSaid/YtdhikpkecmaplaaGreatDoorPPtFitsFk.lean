/- The statement PatchFits of the given row. -/
import Derived.Test.YtdhikpkecmaplaaGreatDoorCards
import Derived.Test.YtdhikpkecmaplaaGreatDoorTie
import Derived.Test.YtdhikpkecmaplaaGreatDoorOpenSMk
import Derived.Test.YtdhikpkecmaplaaGreatDoorPtFwFk
import Derived.WalkKit
import Derived.ProofKit
import Derived.OpenShut
import Derived.ShutString
import Derived.ChangeOld
import Derived.ChangeMaps5
import Derived.Below
import Derived.SevenTiedAt
namespace Go.Proofs.YtdhikpkecmaplaaGreatDoor.patchFits
open Go.ChangeShapes Go.WideShapes Go.ChangeAt Go.ChangeMaps Go.RowKit

set_option maxRecDepth 100000 in
theorem lifted (os : Os) (started : os.Started) (H : Type) (enc : TypeId × Value → H) :
    ReturnsInHanded {} Tryz.checked os 5 .any (fun w args => (Rows.patchFitsSpec.pre enc Tryz.prog Tryz.f5 Rows.patchFitsRow.domain false w args ∧ laidMetH Tryz.prog zkV w) ∧ sizedMet enc Tryz.prog Tryz.f5 (OpenSpec.ofChange Rows.patchFitsSpec) false w args)
      (Rows.patchFitsSpec.post enc Tryz.prog Tryz.f5 false true false false) := by
  refine returnsInHanded_of_change_and (C := Tryz.checked) (X := fun w _ => laidMetH Tryz.prog zkV w) (fun _ _ _ hh h => h.of_heap hh) own started (by kernel_rfl) Tryz.func5
    (ChangeSpec.witness_shaped (enc := enc) (C := Tryz.checked) (os := os) (X := fun w _ => laidMetH Tryz.prog zkV w) false (World.laidAll Tryz.prog os zkV) #[.int .u32 0, .int .u32 0, .agg #[.string ByteArray.empty, .int .u32 0, .int .u32 0, .int .i64 0]] 8 (World.laidAll_os _ _ _)
      (World.shaped_of_ZipB (by kernel_rfl) (by kernel_rfl)) (by kernel_rfl) (by kernel_rfl) (by kernel_rfl) (zsD os _)) ?_
  intro W base args ds gs before hval0 hW _ _ hL _
  have hG := zny hL
  clear hL
  have hval : ∀ (j : Nat) t v, Tryz.f5.params[j]? = some t → args[j]? = some v → Value.okWide Tryz.prog W .any base t v := hval0
  have hW' := hW
  obtain ⟨p, q, hA0, hV, rfl, hfz, hnd⟩ := hW
  have hA : DataW.TrodAll enc Tryz.prog W 0 (fun _ => true) true Tryz.f5.params.toList args.toList ds p := hA0
  rw [Tryz.params5] at hA hval
  obtain ⟨v0, vs0, d0, ds0, p0, q0, hargs, rfl, rfl, h0, r0⟩ := trodAll_cons hA
  obtain ⟨v1, vs1, d1, ds1, p1, q1, rfl, rfl, rfl, h1, r1⟩ := trodAll_cons r0
  obtain ⟨v2, vs2, d2, ds2, p2, q2, rfl, rfl, rfl, h2, r2⟩ := trodAll_cons r1
  obtain ⟨rfl, rfl, rfl⟩ := trodAll_nil r2
  obtain rfl : args = #[v0, v1, v2] := by cases args; simp_all
  obtain ⟨rfl, rfl⟩ := trodVars_none hV
  have lt2 : ∀ x ∈ p2, x.block < W.heap.size := by obtain ⟨m, hm⟩ := h2; exact DataW.trod_lt m _ _ _ hm
  clear hargs
  obtain ⟨s0, rfl, rfl, rfl, k0⟩ := open_int Tryz.underlying57 (hval 0 _ v0 rfl rfl) h0
  obtain ⟨s0, rfl⟩ := zrW k0
  obtain ⟨s1, rfl, rfl, rfl, k1⟩ := open_int Tryz.underlying57 (hval 1 _ v1 rfl rfl) h1
  obtain ⟨s1, rfl⟩ := zrW k1
  obtain ⟨s2, rfl, k2⟩ := open_sys (hval 2 _ v2 rfl rfl) h2
  clear hA0 hval0
  refine (patchFits_any hG s0 s1 s2).mono fun e W' ⟨he, bel⟩ => ?_
  subst he
  exact ⟨_, rfl, _, _, _, [], _, [], hW', trodAll_mk1 (shut_bool Tryz.underlying4 _), (trodAll_cons_mk (shut_int Tryz.underlying57 k0) (trodAll_cons_mk (shut_int Tryz.underlying57 k1) (trodAll_cons_mk (Below.trod ztz (by kernel_rfl) (of_decide_eq_true (by kernel_rfl)) h2 bel lt2) trodAll_mk0))), rfl, bel.frame _, fun h => by cases h⟩

theorem facts : joinedFacts Tryz.pinned.checked.prog 5 Tryz.f5 Rows.patchFitsSpec Rows.patchFitsRow = true := by kernel_rfl
theorem same : (Tryz.f5).isInstance Tryz.pinned.checked.prog Rows.patchFitsRow.origin Rows.patchFitsRow.targs := of_decide_eq_true (by kernel_rfl)
theorem wrap : (Tryz.f5).isWrapper Tryz.pinned.checked.prog Rows.patchFitsRow.wrapper Rows.patchFitsRow.mainSum := by unfold Func.isWrapper; first | (rw [if_pos (by decide +kernel)]; kernel_rfl) | (rw [if_neg (by decide +kernel)]; exact ⟨rfl, rfl⟩)
theorem over : Rows.patchFitsRow.holds Tryz.pinned (OpenSpec.ofChange Rows.patchFitsSpec) :=
  OpenClaim.holds_of_wide 5 Tryz.f5 rfl rfl rfl rfl rfl rfl rfl ⟨rfl, rfl, rfl, rfl, rfl⟩ rfl rfl rfl rfl rfl (by kernel_rfl) Tryz.func5 facts same wrap
    (fun os started H enc _ => lifted os started H enc)

theorem looked (f : FuncId) (fn : Func) (hf : Tryz.pinned.checked.prog.funcNamed Rows.patchFitsRow.func = some f) (hfn : Tryz.pinned.checked.prog.funcs[f]? = some fn) :
    true = Tryz.pinned.checked.prog.looks [] ∧ ∀ (j : Nat) t, fn.params[j]? = some t → Tryz.pinned.checked.prog.wantsStandIn t = false := by
  obtain rfl : f = 5 := Option.some.inj ((show Tryz.pinned.checked.prog.funcNamed Rows.patchFitsRow.func = some 5 by kernel_rfl).symm.trans hf) |>.symm
  obtain rfl : fn = Tryz.f5 := (Option.some.inj ((show Tryz.pinned.checked.prog.funcs[5]? = some Tryz.f5 from Tryz.func5).symm.trans hfn)).symm
  refine ⟨by kernel_rfl, fun j t ht => ?_⟩
  have hm : t ∈ Tryz.f5.params := Array.mem_of_getElem? ht
  have ha : Tryz.f5.params.all (fun t => Tryz.pinned.checked.prog.wantsStandIn t == false) = true := by kernel_rfl
  have := Array.all_eq_true_iff_forall_mem.1 ha t hm
  simpa using this

/-- THE STATEMENT -/
theorem proved : Rows.PatchFitsCardSaid :=
  Claim7.holds_tied_plain_at .later [] [.data, .data, .data, .data, .sentinel, .sentinel, .listed, .data, .pinned] true (true, "0e4d74e08126959e2da6481915a023b63b511b97c780d8574744ba77ecc4c601") true
    over (fun _ h => by cases h) (by kernel_rfl) (fun _ h => by cases h) patchFits_row_tie rfl ⟨rfl, rfl⟩ (by kernel_rfl) rfl looked (by kernel_rfl)
#print axioms proved
end Go.Proofs.YtdhikpkecmaplaaGreatDoor.patchFits
