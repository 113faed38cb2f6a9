/- For every program, Printable and Text of the program are those of the reference, and leave it unchanged, and the examples of the chapter hold; no condition. -/
import Derived.Test.YtoaojdobjinhfaaGreatDoorCards
import Derived.Test.YtoaojdobjinhfaaGreatDoorTie
import Derived.Test.YtoaojdobjinhfaaGreatDoorRLnAP
import Derived.WalkKit
import Derived.ProofKit
import Derived.OpenShut
import Derived.ShutString
import Derived.ChangeOld
import Derived.ChangeMaps5
import Derived.Below
import Derived.SevenTiedAt
set_option linter.unusedSimpArgs false
set_option linter.unusedVariables false
namespace Go.Proofs.YtoaojdobjinhfaaGreatDoor.parseWrites
open Go.ChangeShapes Go.WideShapes Go.ChangeAt Go.ChangeMaps Go.RowKit

set_option maxRecDepth 100000 in
theorem lifted (os:Os) (started:os.Started) (H:Type) (enc:TypeId × Value→H) :
  ReturnsInHanded {} Tryz.checked os 5 .any (fun w args=>(Rows.parseWritesSpec.pre enc Tryz.prog Tryz.f5 Rows.parseWritesRow.domain false w args∧laidMetH Tryz.prog zkV w)∧sizedMet enc Tryz.prog Tryz.f5 (OpenSpec.ofChange Rows.parseWritesSpec) false w args)
   (Rows.parseWritesSpec.post enc Tryz.prog Tryz.f5 false true false false):=by
 refine returnsInHanded_of_change_and (C:=Tryz.checked) (X:=fun w _=>laidMetH Tryz.prog zkV w) (fun _ _ _ hh h=>h.of_heap hh) own started (by kernel_rfl) Tryz.func5
  (ChangeSpec.witness_shaped (enc:=enc) (C:=Tryz.checked) (os:=os) (X:=fun w _=>laidMetH Tryz.prog zkV w) false (World.laidAll Tryz.prog os zkV) #[.slice none 0 0] 8 (World.laidAll_os _ _ _)
   (World.shaped_of_ZipB (by kernel_rfl) (by kernel_rfl)) (by kernel_rfl) (by kernel_rfl) (by kernel_rfl) (met_laid os _)) ?_
 intro W base args ds gs before hval0 hW _ _ hL _;have hG:=zny hL;clear hL;have hval:∀ (j:Nat) t v,Tryz.f5.params[j]? = some t→args[j]? = some v→Value.okWide Tryz.prog W .any base t v:=hval0;have hW':=hW;obtain ⟨p,q,hA0,hV,rfl,hfz,hnd⟩:=hW;have hA:DataW.TrodAll enc Tryz.prog W 0 (fun _=>true) true Tryz.f5.params.toList args.toList ds p:=hA0;rw [Tryz.params5] at hA hval;obtain ⟨v0,vs0,d0,ds0,p0,q0,hargs,rfl,rfl,h0,r0⟩:=trodAll_cons hA;obtain ⟨rfl,rfl,rfl⟩:=trodAll_nil r0;obtain rfl:args = #[v0]:=by cases args;simp_all
 obtain ⟨rfl,rfl⟩:=trodVars_none hV;have lt0:∀ x ∈ p0,x.block < W.heap.size:=by obtain ⟨m,hm⟩:=h0;exact DataW.trod_lt m _ _ _ hm
 clear hargs;obtain ⟨s0,k0,x0⟩:=open_stmts (hval 0 _ v0 rfl rfl) h0;clear hA0 hval0;refine (parseWrites_any s0 _ W k0 x0 hG).mono fun e W' ⟨he,bel⟩=>?_
 subst he;exact ⟨_,rfl,_,_,_,[],_,[],hW',trodAll_mk1 (shut_bool Tryz.underlying4 _),(trodAll_cons_mk (Below.trod laidOut (by kernel_rfl) (of_decide_eq_true (by kernel_rfl)) h0 bel lt0) trodAll_mk0),rfl,bel.frame _,fun h=>by cases h⟩

theorem over:Rows.parseWritesRow.holds Tryz.pinned (OpenSpec.ofChange Rows.parseWritesSpec):=
 OpenClaim.holds_of_wide 5 Tryz.f5 rfl rfl rfl rfl rfl rfl rfl ⟨rfl,rfl,rfl,rfl,rfl⟩ rfl rfl rfl rfl rfl (by kernel_rfl) Tryz.func5 (by kernel_rfl)
  (of_decide_eq_true (by kernel_rfl)) (by unfold Func.isWrapper;first | (rw [if_pos (by decide +kernel)];kernel_rfl) | (rw [if_neg (by decide +kernel)];exact ⟨rfl,rfl⟩))
  (fun os started H enc _=>lifted os started H enc)

theorem looked (f:FuncId) (fn:Func) (hf:Tryz.pinned.checked.prog.funcNamed Rows.parseWritesRow.func=some f) (hfn:Tryz.pinned.checked.prog.funcs[f]? = some fn) :
  true=Tryz.pinned.checked.prog.looks []∧∀ (j:Nat) t,fn.params[j]? = some t→Tryz.pinned.checked.prog.wantsStandIn t=false:=by
 obtain rfl:f=5:=Option.some.inj ((show Tryz.pinned.checked.prog.funcNamed Rows.parseWritesRow.func=some 5 by kernel_rfl).symm.trans hf) |>.symm;obtain rfl:fn=Tryz.f5:=(Option.some.inj ((show Tryz.pinned.checked.prog.funcs[5]? = some Tryz.f5 from Tryz.func5).symm.trans hfn)).symm;refine ⟨by kernel_rfl,fun j t ht=>?_⟩;have hm:t ∈ Tryz.f5.params:=Array.mem_of_getElem? ht;have ha:Tryz.f5.params.all (fun t=>Tryz.pinned.checked.prog.wantsStandIn t == false)=true:=by kernel_rfl
 have:=Array.all_eq_true_iff_forall_mem.1 ha t hm;simpa using this

theorem proved:Rows.ParseWritesCardSaid:=
 Claim7.holds_tied_plain_at .later [] [.data, .data, .data, .data, .sentinel, .sentinel, .listed, .data, .pinned] true (true, "ec4a36df05af7d16dfacbfc9c9f173b11b5709fec81f74b3844480e0d07a5cf2") true
  over (fun _ h=>by cases h) (by kernel_rfl) (fun _ h=>by cases h) parseWrites_row_tie rfl ⟨rfl,rfl⟩ (by kernel_rfl) rfl looked (by kernel_rfl)
#print axioms proved
end Go.Proofs.YtoaojdobjinhfaaGreatDoor.parseWrites

