/- laws.FnExactSmoothestOrder answers true for every input, and each argument reads behind the call as it read before: the tied card; the listed package-level variables start as the program's text lays them. By AI agents; no person has read it. -/
import Derived.Test.YtjjhlccjfdcfcaaGreatDoorDExactSmoothestOrder2
import Derived.Test.YtjjhlccjfdcfcaaGreatDoorPN3
import Derived.Test.YtjjhlccjfdcfcaaGreatDoorJ
import Derived.ChangeOld
import Derived.Below
import Derived.SizedLaws
import Derived.SevenTiedAt
import Derived.LaidMore
import Derived.OpenShut
import Derived.ProofKit
import Derived.WalkKit
import Derived.Stop.Joined
import Derived.ShutString
set_option linter.unusedVariables false
set_option linter.unusedSimpArgs false
set_option maxRecDepth 100000
set_option maxHeartbeats 40000000
set_option maxHeartbeats 40000000
namespace Go.Proofs.XC
open Go Go.RowKit
open Tryz
theorem open_97 : Opens prog 97 nShape okShape := by
  intro H enc W fuel cs d ps h
  have hl : cs.length = 6 := open_len h (i := 0) (q := (3, 0)) (by kernel_rfl) (by kernel_rfl)
  obtain ⟨x0, e0, k0⟩ := open_field (e := (eI .i64)) 0 3 0 h (opens_i64 underlying3)
  obtain ⟨x1, e1, k1⟩ := open_field (e := (eI .i64)) 1 3 1 h (opens_i64 underlying3)
  obtain ⟨x2, e2, k2⟩ := open_field (e := (eI .i64)) 2 3 2 h (opens_i64 underlying3)
  obtain ⟨x3, e3, k3⟩ := open_field (e := (eI .i64)) 3 3 3 h (opens_i64 underlying3)
  obtain ⟨x4, e4, k4⟩ := open_field (e := (eI .i64)) 4 3 4 h (opens_i64 underlying3)
  obtain ⟨x5, e5, k5⟩ := open_field (e := eB) 5 4 5 h (opens_bool underlying4)
  exact ⟨⟨x0, x1, x2, x3, x4, x5⟩, glue0 (glue e0 (glue e1 (glue e2 (glue e3 (glue e4 (glueE e5 (by rw [hl]; decide))))))), k0, k1, k2, k3, k4, k5⟩
theorem open_98 : Opens prog 98 nOrient okOrient := by
  intro H enc W fuel cs d ps h
  have hl : cs.length = 2 := open_len h (i := 0) (q := (3, 0)) (by kernel_rfl) (by kernel_rfl)
  obtain ⟨x0, e0, k0⟩ := open_field (e := (eI .i64)) 0 3 0 h (opens_i64 underlying3)
  obtain ⟨x1, e1, k1⟩ := open_field (e := (eI .i64)) 1 3 1 h (opens_i64 underlying3)
  exact ⟨⟨x0, x1⟩, glue0 (glue e0 (glueE e1 (by rw [hl]; decide))), k0, k1⟩
theorem open_99 : Opens prog 99 nPlace okPlace := by
  intro H enc W fuel cs d ps h
  have hl : cs.length = 3 := open_len h (i := 0) (q := (3, 0)) (by kernel_rfl) (by kernel_rfl)
  obtain ⟨x0, e0, k0⟩ := open_field (e := (eI .i64)) 0 3 0 h (opens_i64 underlying3)
  obtain ⟨x1, e1, k1⟩ := open_field (e := (eI .i64)) 1 3 1 h (opens_i64 underlying3)
  obtain ⟨x2, e2, k2⟩ := open_field (e := eB) 2 4 2 h (opens_bool underlying4)
  exact ⟨⟨x0, x1, x2⟩, glue0 (glue e0 (glue e1 (glueE e2 (by rw [hl]; decide)))), k0, k1, k2⟩
theorem open_100 : Opens prog 100 nMove okMove := by
  intro H enc W fuel cs d ps h
  have hl : cs.length = 2 := open_len h (i := 0) (q := (9, 0)) (by kernel_rfl) (by kernel_rfl)
  obtain ⟨x0, e0, k0⟩ := open_field (e := eS) 0 9 0 h (opens_str underlying9)
  obtain ⟨x1, e1, k1⟩ := open_field (e := (eI .i64)) 1 3 1 h (opens_i64 underlying3)
  exact ⟨⟨x0, x1⟩, glue0 (glue e0 (glueE e1 (by rw [hl]; decide))), k0, k1⟩
theorem open_102 : Opens prog 102 nHand okHand := by
  intro H enc W fuel cs d ps h
  have hl : cs.length = 13 := open_len h (i := 0) (q := (97, 0)) (by kernel_rfl) (by kernel_rfl)
  obtain ⟨x0, e0, k0⟩ := open_field (e := nShape) 0 97 0 h (open_97)
  obtain ⟨x1, e1, k1⟩ := open_field (e := nOrient) 1 98 6 h (open_98)
  obtain ⟨x2, e2, k2⟩ := open_field (e := nPlace) 2 99 8 h (open_99)
  obtain ⟨x3, e3, k3⟩ := open_field (e := nMove) 3 100 11 h (open_100)
  exact ⟨⟨x0, x1, x2, x3⟩, glue0 (glue e0 (glue e1 (glue e2 (glueE e3 (by rw [hl]; decide))))), k0, k1, k2, k3⟩
theorem open_104 : Opens prog 104 nSign okSign := by
  intro H enc W fuel cs d ps h
  have hl : cs.length = 27 := open_len h (i := 0) (q := (102, 0)) (by kernel_rfl) (by kernel_rfl)
  obtain ⟨x0, e0, k0⟩ := open_field (e := nHand) 0 102 0 h (open_102)
  obtain ⟨x1, e1, k1⟩ := open_field (e := eB) 1 4 13 h (opens_bool underlying4)
  obtain ⟨x2, e2, k2⟩ := open_field (e := nHand) 2 102 14 h (open_102)
  exact ⟨⟨x0, x1, x2⟩, glue0 (glue e0 (glue e1 (glueE e2 (by rw [hl]; decide)))), k0, k1, k2⟩
end Go.Proofs.XC
open _root_.Go.Proofs.Tryz
namespace Go.Proofs.YtjjhlccjfdcfcaaGreatDoor.RowExactSmoothestOrder
open Go Go.RowKit Go.ChangeShapes Go.WideShapes Go.ChangeAt Go.Proofs.XC
theorem own : ownKnob prog.godebug = none := by kernel_rfl
theorem door_met (os : Os) (args : Array Value) : laidMetH prog Rows.fnExactSmoothestOrderRow.laid ((World.doorLaid prog 400 os).forCall (fun _ _ => 0) ⟨#[], args, []⟩).memory :=
  laidMetH_of_parts3 (fuel := 8) (laidMet_of_run' 8 (by kernel_rfl) (by kernel_rfl)) (by kernel_rfl) (by kernel_rfl)
theorem lifted (os : Os) (started : os.Started) (H : Type) (enc : TypeId × Value → H) :
    ReturnsInHanded {} checked os 5 .any (fun w args => (Rows.fnExactSmoothestOrderSpec.pre enc prog f5 [] false w args ∧ laidMetH prog Rows.fnExactSmoothestOrderRow.laid w) ∧ sizedMet enc prog f5 (OpenSpec.ofChange Rows.fnExactSmoothestOrderSpec) false w args)
      (Rows.fnExactSmoothestOrderSpec.post enc prog f5 false true false false) := by
  refine returnsInHanded_of_change_and (C := checked) (X := fun w _ => laidMetH prog Rows.fnExactSmoothestOrderRow.laid w) (fun _ _ _ hh h => h.of_heap hh) own started (by kernel_rfl) func5
    (ChangeSpec.witness_shaped (enc := enc) (C := checked) (os := os) (X := fun w _ => laidMetH prog Rows.fnExactSmoothestOrderRow.laid w) false (World.doorLaid prog 400 os) #[.slice none 0 0] 8 rfl (World.shaped_of_RefB (by kernel_rfl) (by kernel_rfl)) (by kernel_rfl) (by kernel_rfl) (by kernel_rfl) (door_met os _)) ?_
  intro W base args ds gs before hval0 hW hcnd hsz0 _ _
  have hval : ∀ (j : Nat) t v, f5.params[j]? = some t → args[j]? = some v → Value.okWide prog W .any base t v := hval0
  have hW' := hW
  obtain ⟨p, q, hA0, hV, rfl, hfz, hnd⟩ := hW
  have hA : DataW.TrodAll enc prog W 0 (fun _ => true) true f5.params.toList args.toList ds p := hA0
  rw [params5] at hA hval
  obtain ⟨v0, vs0, d0, ds0, p0, q0, hargs, rfl, rfl, h0, r0⟩ := trodAll_cons hA
  obtain ⟨rfl, rfl, rfl⟩ := trodAll_nil r0
  obtain rfl : args = #[v0] := by cases args; simp_all
  obtain ⟨rfl, rfl⟩ := trodVars_none hV
  have k0 := h0
  have lt0 : ∀ x ∈ p0, x.block < W.heap.size := by obtain ⟨m, hm⟩ := k0; exact DataW.trod_lt m _ _ _ hm
  obtain ⟨A0, n0, c0, rfl⟩ := okWide_slice underlying57 (hval 0 57 v0 rfl rfl)
  obtain ⟨u0, hu0⟩ := h0
  obtain ⟨a0, rfl, ra0, oa0⟩ := open_slice underlying57 open_104 hu0
  refine (C.l_FnExactSmoothestOrder (r := true) W (Pure.FnExactSmoothestOrder a0 oa0) ra0).mono fun e W' ⟨he, bel⟩ => ?_
  subst he
  exact ⟨_, rfl, _, _, _, [], _, [], hW', trodAll_mk1 (shut_bool underlying4 _), (trodAll_cons_mk (Below.trod j_laid (by kernel_rfl) (of_decide_eq_true (by kernel_rfl)) k0 bel lt0) trodAll_mk0), rfl, bel.frame _, fun h => by cases h⟩
theorem closed : joinedFacts prog 5 f5 Rows.fnExactSmoothestOrderSpec Rows.fnExactSmoothestOrderRow = true := by
  unfold joinedFacts
  simp only [Bool.and_eq_true]
  repeat' apply And.intro
  · as_aux_lemma => kernel_rfl
  · exact j_laid
  · exact j_maps
  · as_aux_lemma => kernel_rfl
  · as_aux_lemma => kernel_rfl
  · as_aux_lemma => kernel_rfl
  · as_aux_lemma => kernel_rfl
  · as_aux_lemma => kernel_rfl
  · as_aux_lemma => kernel_rfl
  · as_aux_lemma => kernel_rfl
  · as_aux_lemma => kernel_rfl
  · as_aux_lemma => kernel_rfl
  · as_aux_lemma => kernel_rfl
  · as_aux_lemma => kernel_rfl
  · as_aux_lemma => kernel_rfl
  · as_aux_lemma => kernel_rfl
  · as_aux_lemma => kernel_rfl
  · as_aux_lemma => kernel_rfl
  · as_aux_lemma => kernel_rfl
  · as_aux_lemma => kernel_rfl
  · as_aux_lemma => kernel_rfl
  · as_aux_lemma => kernel_rfl
  · exact j_keys
  · as_aux_lemma => kernel_rfl
  · exact j_heard
  · exact j_enter
  · exact j_lift
  · exact j_make
  · as_aux_lemma => kernel_rfl
  · as_aux_lemma => kernel_rfl
  · as_aux_lemma => kernel_rfl
  · as_aux_lemma => kernel_rfl
theorem over : Rows.fnExactSmoothestOrderRow.holds Tryz.pinned (OpenSpec.ofChange Rows.fnExactSmoothestOrderSpec) :=
  OpenClaim.holds_of_wide 5 f5 rfl rfl rfl rfl rfl rfl rfl ⟨rfl, rfl, rfl, rfl, rfl⟩ rfl rfl rfl rfl rfl (by kernel_rfl) func5 closed
    (of_decide_eq_true (by kernel_rfl)) (by unfold Func.isWrapper; first | (rw [if_pos (by decide +kernel)]; kernel_rfl) | (rw [if_neg (by decide +kernel)]; exact ⟨rfl, rfl⟩))
    (fun os started H enc _ => lifted os started H enc)
theorem proved : Rows.FnExactSmoothestOrderSaid := over
theorem goes : false = Rows.fnExactSmoothestOrderRow.goesBy Tryz.pinned.checked.prog := by kernel_rfl
theorem card_holds : Rows.FnExactSmoothestOrderCardSaid :=
  Claim7.holds_tied_plain_at .later [] [.data, .data, .data] true (true, "fb4ec8b34aa413e2e34b6476366217368e6897ab8b7186c31ef02cae702efca8") true
    proved (fun _ h => by cases h) (by as_aux_lemma => kernel_rfl) (fun _ h => by cases h) fnExactSmoothestOrder_row_tie rfl ⟨rfl, rfl⟩ j_main rfl
    (fun f fn hf hfn => by
      obtain rfl : f = 5 := Option.some.inj ((show prog.funcNamed "loop.example/g01008/laws.FnExactSmoothestOrder" = some 5 by as_aux_lemma => kernel_rfl).symm.trans hf) |>.symm
      obtain rfl : fn = f5 := (Option.some.inj (func5.symm.trans hfn)).symm
      exact ⟨j_looks, fun j t ht => by
        rw [params5] at ht
        have hm : t ∈ [57] := by simpa using Array.mem_of_getElem? ht
        have hall : ([57].all fun u => !prog.wantsStandIn u) = true := by as_aux_lemma => kernel_rfl
        exact (show prog.wantsStandIn t = false by simpa using List.all_eq_true.1 hall t hm)⟩)
    goes
#print axioms card_holds
end Go.Proofs.YtjjhlccjfdcfcaaGreatDoor.RowExactSmoothestOrder
namespace Go.Proofs.YtjjhlccjfdcfcaaGreatDoor
/-- The card, under a short name. -/
theorem fnExactSmoothestOrder_card : Rows.FnExactSmoothestOrderCardSaid := RowExactSmoothestOrder.card_holds
end Go.Proofs.YtjjhlccjfdcfcaaGreatDoor
