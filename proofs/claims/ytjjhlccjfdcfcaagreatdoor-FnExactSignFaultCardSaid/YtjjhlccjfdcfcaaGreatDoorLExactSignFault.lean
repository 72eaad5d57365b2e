/- laws.FnExactSignFault answers true for every input, and each argument reads behind the call as it read before: the tied card; the listed package-level variables start as the program's text lays them. By AI agents; no person has read it. -/
import Derived.Test.YtjjhlccjfdcfcaaGreatDoorDExactSignFault1
import Derived.Test.YtjjhlccjfdcfcaaGreatDoorPM5
import Derived.Test.YtjjhlccjfdcfcaaGreatDoorJ
import Derived.ChangeOld
import Derived.Below
import Derived.SizedLaws
import Derived.SevenTiedAt
import Derived.LaidMore
import Derived.OpenShut
import Derived.ProofKit
import Derived.WalkKit
import Derived.Stop.Joined
import Derived.ShutString
import Derived.Lay
import Derived.MakeChecks
set_option linter.unusedVariables false
set_option linter.unusedSimpArgs false
set_option maxRecDepth 100000
set_option maxHeartbeats 40000000
set_option maxHeartbeats 40000000
namespace Go.Proofs.XC
open Go Go.RowKit
open Tryz

end Go.Proofs.XC
open _root_.Go.Proofs.Tryz
namespace Go.Proofs.YtjjhlccjfdcfcaaGreatDoor.RowExactSignFault
open Go Go.RowKit Go.ChangeShapes Go.WideShapes Go.ChangeAt Go.Proofs.XC
theorem own : ownKnob prog.godebug = none := by kernel_rfl
theorem star_name : "*" ++ "errors.errorString" = "*errors.errorString" := by decide
theorem name_err (u : TypeId) (h : prog.typeName? 3 u = some "*errors.errorString") : u = 291 :=
  typeName_ptr_named (nm := "errors.errorString") (by rw [star_name]; kernel_rfl) (by kernel_rfl) (by decide) u (by rw [star_name]; exact h)
theorem ev_of {W : World} (h : laidMetH prog Rows.fnExactSignFaultRow.laid W) : EV prog W := by
  have h0 : laidMet prog Rows.fnExactSignFaultRow.laid W := by
    rw [← Go.MakeChecks.laidMetH_plain prog _ W (by kernel_rfl)]
    exact h
  refine ⟨sentinel_of 3 123 291 293 9 (h0.tail.tail.tail.tail.tail) name_err (by kernel_rfl) (by kernel_rfl) (by kernel_rfl) (by kernel_rfl) (by kernel_rfl) (by kernel_rfl) (by kernel_rfl) (by kernel_rfl),
    sentinel_of 4 123 291 293 9 (h0.tail.tail.tail.tail) name_err (by kernel_rfl) (by kernel_rfl) (by kernel_rfl) (by kernel_rfl) (by kernel_rfl) (by kernel_rfl) (by kernel_rfl) (by kernel_rfl), ?_⟩
  exact Lib.tabIs_of_head (g := 5) (t := 287) (e := 82) (n := 20) (by kernel_rfl) (by kernel_rfl) (by kernel_rfl) (by kernel_rfl) (by kernel_rfl) (by kernel_rfl) (h0.tail.tail)
theorem lifted (os : Os) (started : os.Started) (H : Type) (enc : TypeId × Value → H) :
    ReturnsInHanded {} checked os 3 .any (fun w args => (Rows.fnExactSignFaultSpec.pre enc prog f3 [] false w args ∧ laidMetH prog Rows.fnExactSignFaultRow.laid w) ∧ sizedMet enc prog f3 (OpenSpec.ofChange Rows.fnExactSignFaultSpec) false w args)
      (Rows.fnExactSignFaultSpec.post enc prog f3 false true false false) := by
  refine returnsInHanded_of_change_and (C := checked) (X := fun w _ => laidMetH prog Rows.fnExactSignFaultRow.laid w) (fun _ _ _ hh h => h.of_heap hh) own started (by kernel_rfl) func3
    (ChangeSpec.witness_shaped (enc := enc) (C := checked) (os := os) (X := fun w _ => laidMetH prog Rows.fnExactSignFaultRow.laid w) false (World.laidAll prog os Rows.fnExactSignFaultRow.laid) #[.string ByteArray.empty] 8 (World.laidAll_os _ _ _) (World.shaped_of_ZipB (by kernel_rfl) (by kernel_rfl)) (by kernel_rfl) (by kernel_rfl) (by kernel_rfl) (by rw [MakeChecks.laidMetH_plain _ _ _ (by kernel_rfl)]; exact laidMet_laidAll _ (by kernel_rfl) (by kernel_rfl))) ?_
  intro W base args ds gs before hval0 hW hcnd hsz0 hlaid _
  have hval : ∀ (j : Nat) t v, f3.params[j]? = some t → args[j]? = some v → Value.okWide prog W .any base t v := hval0
  have hW' := hW
  obtain ⟨p, q, hA0, hV, rfl, hfz, hnd⟩ := hW
  have hA : DataW.TrodAll enc prog W 0 (fun _ => true) true f3.params.toList args.toList ds p := hA0
  rw [params3] at hA hval
  obtain ⟨v0, vs0, d0, ds0, p0, q0, hargs, rfl, rfl, h0, r0⟩ := trodAll_cons hA
  obtain ⟨rfl, rfl, rfl⟩ := trodAll_nil r0
  obtain rfl : args = #[v0] := by cases args; simp_all
  obtain ⟨rfl, rfl⟩ := trodVars_none hV
  have k0 := h0
  have lt0 : ∀ x ∈ p0, x.block < W.heap.size := by obtain ⟨m, hm⟩ := k0; exact DataW.trod_lt m _ _ _ hm
  obtain ⟨z0, rfl⟩ := okWide_string underlying9 (hval 0 9 v0 rfl rfl)
  obtain ⟨u0, hu0⟩ := h0
  obtain ⟨a0, ea0, oa0⟩ := opens_str underlying9 H enc W u0 _ _ _ hu0
  have ez0 := Go.Proofs.XC.str_inj ea0
  injection ez0 with ez0
  replace ez0 := ez0.symm
  subst ez0
  refine (C.l_FnExactSignFault (r := true) W (Pure.FnExactSignFault a0 oa0) (ev_of hlaid)).mono fun e W' ⟨he, bel⟩ => ?_
  subst he
  exact ⟨_, rfl, _, _, _, [], _, [], hW', trodAll_mk1 (shut_bool underlying4 _), (trodAll_cons_mk (Below.trod j_laid (by kernel_rfl) (of_decide_eq_true (by kernel_rfl)) k0 bel lt0) trodAll_mk0), rfl, bel.frame _, fun h => by cases h⟩
theorem closed : joinedFacts prog 3 f3 Rows.fnExactSignFaultSpec Rows.fnExactSignFaultRow = true := by
  unfold joinedFacts
  simp only [Bool.and_eq_true]
  repeat' apply And.intro
  · as_aux_lemma => kernel_rfl
  · exact j_laid
  · exact j_maps
  · as_aux_lemma => kernel_rfl
  · as_aux_lemma => kernel_rfl
  · as_aux_lemma => kernel_rfl
  · as_aux_lemma => kernel_rfl
  · as_aux_lemma => kernel_rfl
  · as_aux_lemma => kernel_rfl
  · as_aux_lemma => kernel_rfl
  · as_aux_lemma => kernel_rfl
  · as_aux_lemma => kernel_rfl
  · as_aux_lemma => kernel_rfl
  · as_aux_lemma => kernel_rfl
  · as_aux_lemma => kernel_rfl
  · as_aux_lemma => kernel_rfl
  · as_aux_lemma => kernel_rfl
  · as_aux_lemma => kernel_rfl
  · as_aux_lemma => kernel_rfl
  · as_aux_lemma => kernel_rfl
  · as_aux_lemma => kernel_rfl
  · as_aux_lemma => kernel_rfl
  · exact j_keys
  · as_aux_lemma => kernel_rfl
  · exact j_heard
  · exact j_enter
  · exact j_lift
  · exact j_make
  · as_aux_lemma => kernel_rfl
  · as_aux_lemma => kernel_rfl
  · as_aux_lemma => kernel_rfl
  · as_aux_lemma => kernel_rfl
theorem over : Rows.fnExactSignFaultRow.holds Tryz.pinned (OpenSpec.ofChange Rows.fnExactSignFaultSpec) :=
  OpenClaim.holds_of_wide 3 f3 rfl rfl rfl rfl rfl rfl rfl ⟨rfl, rfl, rfl, rfl, rfl⟩ rfl rfl rfl rfl rfl (by kernel_rfl) func3 closed
    (of_decide_eq_true (by kernel_rfl)) (by unfold Func.isWrapper; first | (rw [if_pos (by decide +kernel)]; kernel_rfl) | (rw [if_neg (by decide +kernel)]; exact ⟨rfl, rfl⟩))
    (fun os started H enc _ => lifted os started H enc)
theorem proved : Rows.FnExactSignFaultSaid := over
theorem goes : false = Rows.fnExactSignFaultRow.goesBy Tryz.pinned.checked.prog := by kernel_rfl
theorem card_holds : Rows.FnExactSignFaultCardSaid :=
  Claim7.holds_tied_plain_at .later [] [.data, .data, .data, .data, .sentinel, .sentinel, .pinned] true (true, "fb4ec8b34aa413e2e34b6476366217368e6897ab8b7186c31ef02cae702efca8") true
    proved (fun _ h => by cases h) (by as_aux_lemma => kernel_rfl) (fun _ h => by cases h) fnExactSignFault_row_tie rfl ⟨rfl, rfl⟩ j_main rfl
    (fun f fn hf hfn => by
      obtain rfl : f = 3 := Option.some.inj ((show prog.funcNamed "loop.example/g01008/laws.FnExactSignFault" = some 3 by as_aux_lemma => kernel_rfl).symm.trans hf) |>.symm
      obtain rfl : fn = f3 := (Option.some.inj (func3.symm.trans hfn)).symm
      exact ⟨j_looks, fun j t ht => by
        rw [params3] at ht
        have hm : t ∈ [9] := by simpa using Array.mem_of_getElem? ht
        have hall : ([9].all fun u => !prog.wantsStandIn u) = true := by as_aux_lemma => kernel_rfl
        exact (show prog.wantsStandIn t = false by simpa using List.all_eq_true.1 hall t hm)⟩)
    goes
#print axioms card_holds
end Go.Proofs.YtjjhlccjfdcfcaaGreatDoor.RowExactSignFault
namespace Go.Proofs.YtjjhlccjfdcfcaaGreatDoor
/-- The card, under a short name. -/
theorem fnExactSignFault_card : Rows.FnExactSignFaultCardSaid := RowExactSignFault.card_holds
end Go.Proofs.YtjjhlccjfdcfcaaGreatDoor
