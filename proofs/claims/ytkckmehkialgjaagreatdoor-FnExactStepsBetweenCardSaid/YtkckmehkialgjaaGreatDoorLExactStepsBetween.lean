/- laws.FnExactStepsBetween answers true for every input, and each argument reads behind the call as it read before: the tied card; the listed package-level variables start as the program's text lays them. By AI agents; no person has read it. -/
import Derived.Test.YtkckmehkialgjaaGreatDoorDExactStepsBetween
import Derived.Test.YtkckmehkialgjaaGreatDoorPU3
import Derived.Test.YtkckmehkialgjaaGreatDoorJ
import Derived.ChangeOld
import Derived.Below
import Derived.SizedLaws
import Derived.SevenTiedAt
import Derived.LaidMore
import Derived.OpenShut
import Derived.ProofKit
import Derived.WalkKit
import Derived.Stop.Joined
import Derived.ShutString
set_option linter.unusedVariables false
set_option linter.unusedSimpArgs false
set_option maxRecDepth 100000
set_option maxHeartbeats 40000000
set_option maxHeartbeats 40000000
namespace Go.Proofs.XC
open Go Go.RowKit
open Tryz
theorem open_26 : Opens prog 26 nShape okShape := by
  intro H enc W fuel cs d ps h
  have hl : cs.length = 6 := open_len h (i := 0) (q := (3, 0)) (by kernel_rfl) (by kernel_rfl)
  obtain ⟨x0, e0, k0⟩ := open_field (e := (eI .i64)) 0 3 0 h (opens_i64 underlying3)
  obtain ⟨x1, e1, k1⟩ := open_field (e := (eI .i64)) 1 3 1 h (opens_i64 underlying3)
  obtain ⟨x2, e2, k2⟩ := open_field (e := (eI .i64)) 2 3 2 h (opens_i64 underlying3)
  obtain ⟨x3, e3, k3⟩ := open_field (e := (eI .i64)) 3 3 3 h (opens_i64 underlying3)
  obtain ⟨x4, e4, k4⟩ := open_field (e := (eI .i64)) 4 3 4 h (opens_i64 underlying3)
  obtain ⟨x5, e5, k5⟩ := open_field (e := eB) 5 4 5 h (opens_bool underlying4)
  exact ⟨⟨x0, x1, x2, x3, x4, x5⟩, glue0 (glue e0 (glue e1 (glue e2 (glue e3 (glue e4 (glueE e5 (by rw [hl]; decide))))))), k0, k1, k2, k3, k4, k5⟩
theorem open_28 : Opens prog 28 nOrient okOrient := by
  intro H enc W fuel cs d ps h
  have hl : cs.length = 2 := open_len h (i := 0) (q := (3, 0)) (by kernel_rfl) (by kernel_rfl)
  obtain ⟨x0, e0, k0⟩ := open_field (e := (eI .i64)) 0 3 0 h (opens_i64 underlying3)
  obtain ⟨x1, e1, k1⟩ := open_field (e := (eI .i64)) 1 3 1 h (opens_i64 underlying3)
  exact ⟨⟨x0, x1⟩, glue0 (glue e0 (glueE e1 (by rw [hl]; decide))), k0, k1⟩
theorem open_30 : Opens prog 30 nPlace okPlace := by
  intro H enc W fuel cs d ps h
  have hl : cs.length = 3 := open_len h (i := 0) (q := (3, 0)) (by kernel_rfl) (by kernel_rfl)
  obtain ⟨x0, e0, k0⟩ := open_field (e := (eI .i64)) 0 3 0 h (opens_i64 underlying3)
  obtain ⟨x1, e1, k1⟩ := open_field (e := (eI .i64)) 1 3 1 h (opens_i64 underlying3)
  obtain ⟨x2, e2, k2⟩ := open_field (e := eB) 2 4 2 h (opens_bool underlying4)
  exact ⟨⟨x0, x1, x2⟩, glue0 (glue e0 (glue e1 (glueE e2 (by rw [hl]; decide)))), k0, k1, k2⟩
theorem open_32 : Opens prog 32 nMove okMove := by
  intro H enc W fuel cs d ps h
  have hl : cs.length = 2 := open_len h (i := 0) (q := (9, 0)) (by kernel_rfl) (by kernel_rfl)
  obtain ⟨x0, e0, k0⟩ := open_field (e := eS) 0 9 0 h (opens_str underlying9)
  obtain ⟨x1, e1, k1⟩ := open_field (e := (eI .i64)) 1 3 1 h (opens_i64 underlying3)
  exact ⟨⟨x0, x1⟩, glue0 (glue e0 (glueE e1 (by rw [hl]; decide))), k0, k1⟩
theorem open_34 : Opens prog 34 nHand okHand := by
  intro H enc W fuel cs d ps h
  have hl : cs.length = 13 := open_len h (i := 0) (q := (26, 0)) (by kernel_rfl) (by kernel_rfl)
  obtain ⟨x0, e0, k0⟩ := open_field (e := nShape) 0 26 0 h (open_26)
  obtain ⟨x1, e1, k1⟩ := open_field (e := nOrient) 1 28 6 h (open_28)
  obtain ⟨x2, e2, k2⟩ := open_field (e := nPlace) 2 30 8 h (open_30)
  obtain ⟨x3, e3, k3⟩ := open_field (e := nMove) 3 32 11 h (open_32)
  exact ⟨⟨x0, x1, x2, x3⟩, glue0 (glue e0 (glue e1 (glue e2 (glueE e3 (by rw [hl]; decide))))), k0, k1, k2, k3⟩
theorem open_36 : Opens prog 36 nSign okSign := by
  intro H enc W fuel cs d ps h
  have hl : cs.length = 27 := open_len h (i := 0) (q := (34, 0)) (by kernel_rfl) (by kernel_rfl)
  obtain ⟨x0, e0, k0⟩ := open_field (e := nHand) 0 34 0 h (open_34)
  obtain ⟨x1, e1, k1⟩ := open_field (e := eB) 1 4 13 h (opens_bool underlying4)
  obtain ⟨x2, e2, k2⟩ := open_field (e := nHand) 2 34 14 h (open_34)
  exact ⟨⟨x0, x1, x2⟩, glue0 (glue e0 (glue e1 (glueE e2 (by rw [hl]; decide)))), k0, k1, k2⟩
end Go.Proofs.XC
open _root_.Go.Proofs.Tryz
namespace Go.Proofs.YtkckmehkialgjaaGreatDoor.RowExactStepsBetween
open Go Go.RowKit Go.ChangeShapes Go.WideShapes Go.ChangeAt Go.Proofs.XC
theorem own : ownKnob prog.godebug = none := by kernel_rfl
theorem door_met (os : Os) (args : Array Value) : laidMetH prog Rows.fnExactStepsBetweenRow.laid ((World.doorLaid prog 400 os).forCall (fun _ _ => 0) ⟨#[], args, []⟩).memory :=
  laidMetH_of_parts3 (fuel := 8) (laidMet_of_run' 8 (by kernel_rfl) (by kernel_rfl)) (by kernel_rfl) (by kernel_rfl)
theorem lifted (os : Os) (started : os.Started) (H : Type) (enc : TypeId × Value → H) :
    ReturnsInHanded {} checked os 5 .any (fun w args => (Rows.fnExactStepsBetweenSpec.pre enc prog f5 [] false w args ∧ laidMetH prog Rows.fnExactStepsBetweenRow.laid w) ∧ sizedMet enc prog f5 (OpenSpec.ofChange Rows.fnExactStepsBetweenSpec) false w args)
      (Rows.fnExactStepsBetweenSpec.post enc prog f5 false true false false) := by
  refine returnsInHanded_of_change_and (C := checked) (X := fun w _ => laidMetH prog Rows.fnExactStepsBetweenRow.laid w) (fun _ _ _ hh h => h.of_heap hh) own started (by kernel_rfl) func5
    (ChangeSpec.witness_shaped (enc := enc) (C := checked) (os := os) (X := fun w _ => laidMetH prog Rows.fnExactStepsBetweenRow.laid w) false (World.doorLaid prog 400 os) #[.slice none 0 0, .int .i64 0, .int .i64 0] 8 rfl (World.shaped_of_RefB (by kernel_rfl) (by kernel_rfl)) (by kernel_rfl) (by kernel_rfl) (by kernel_rfl) (door_met os _)) ?_
  intro W base args ds gs before hval0 hW hcnd hsz0 _ _
  have hval : ∀ (j : Nat) t v, f5.params[j]? = some t → args[j]? = some v → Value.okWide prog W .any base t v := hval0
  have hW' := hW
  obtain ⟨p, q, hA0, hV, rfl, hfz, hnd⟩ := hW
  have hA : DataW.TrodAll enc prog W 0 (fun _ => true) true f5.params.toList args.toList ds p := hA0
  rw [params5] at hA hval
  obtain ⟨v0, vs0, d0, ds0, p0, q0, hargs, rfl, rfl, h0, r0⟩ := trodAll_cons hA
  obtain ⟨v1, vs1, d1, ds1, p1, q1, rfl, rfl, rfl, h1, r1⟩ := trodAll_cons r0
  obtain ⟨v2, vs2, d2, ds2, p2, q2, rfl, rfl, rfl, h2, r2⟩ := trodAll_cons r1
  obtain ⟨rfl, rfl, rfl⟩ := trodAll_nil r2
  obtain rfl : args = #[v0, v1, v2] := by cases args; simp_all
  obtain ⟨rfl, rfl⟩ := trodVars_none hV
  have k0 := h0
  have lt0 : ∀ x ∈ p0, x.block < W.heap.size := by obtain ⟨m, hm⟩ := k0; exact DataW.trod_lt m _ _ _ hm
  obtain ⟨A0, n0, c0, rfl⟩ := okWide_slice underlying50 (hval 0 50 v0 rfl rfl)
  obtain ⟨u0, hu0⟩ := h0
  obtain ⟨a0, rfl, ra0, oa0⟩ := open_slice underlying50 open_36 hu0
  have k1 := h1
  have lt1 : ∀ x ∈ p1, x.block < W.heap.size := by obtain ⟨m, hm⟩ := k1; exact DataW.trod_lt m _ _ _ hm
  obtain ⟨z1, rfl⟩ := okWide_int underlying3 (hval 1 3 v1 rfl rfl)
  obtain ⟨u1, hu1⟩ := h1
  obtain ⟨a1, ea1, oa1⟩ := opens_i64 underlying3 H enc W u1 _ _ _ hu1
  have ez1 := Go.Proofs.XC.int_inj ea1
  injection ez1 with _ ez1
  replace ez1 := ez1.symm
  subst ez1
  have k2 := h2
  have lt2 : ∀ x ∈ p2, x.block < W.heap.size := by obtain ⟨m, hm⟩ := k2; exact DataW.trod_lt m _ _ _ hm
  obtain ⟨z2, rfl⟩ := okWide_int underlying3 (hval 2 3 v2 rfl rfl)
  obtain ⟨u2, hu2⟩ := h2
  obtain ⟨a2, ea2, oa2⟩ := opens_i64 underlying3 H enc W u2 _ _ _ hu2
  have ez2 := Go.Proofs.XC.int_inj ea2
  injection ez2 with _ ez2
  replace ez2 := ez2.symm
  subst ez2
  refine (C.l_FnExactStepsBetween (r := true) W (Pure.FnExactStepsBetween a0 oa0 a1 oa1 a2 oa2) ra0).mono fun e W' ⟨he, bel⟩ => ?_
  subst he
  exact ⟨_, rfl, _, _, _, [], _, [], hW', trodAll_mk1 (shut_bool underlying4 _), (trodAll_cons_mk (Below.trod j_laid (by kernel_rfl) (of_decide_eq_true (by kernel_rfl)) k0 bel lt0) (trodAll_cons_mk (Below.trod j_laid (by kernel_rfl) (of_decide_eq_true (by kernel_rfl)) k1 bel lt1) (trodAll_cons_mk (Below.trod j_laid (by kernel_rfl) (of_decide_eq_true (by kernel_rfl)) k2 bel lt2) trodAll_mk0))), rfl, bel.frame _, fun h => by cases h⟩
theorem closed : joinedFacts prog 5 f5 Rows.fnExactStepsBetweenSpec Rows.fnExactStepsBetweenRow = true := by
  unfold joinedFacts
  simp only [Bool.and_eq_true]
  repeat' apply And.intro
  · as_aux_lemma => kernel_rfl
  · exact j_laid
  · exact j_maps
  · as_aux_lemma => kernel_rfl
  · as_aux_lemma => kernel_rfl
  · as_aux_lemma => kernel_rfl
  · as_aux_lemma => kernel_rfl
  · as_aux_lemma => kernel_rfl
  · as_aux_lemma => kernel_rfl
  · as_aux_lemma => kernel_rfl
  · as_aux_lemma => kernel_rfl
  · as_aux_lemma => kernel_rfl
  · as_aux_lemma => kernel_rfl
  · as_aux_lemma => kernel_rfl
  · as_aux_lemma => kernel_rfl
  · as_aux_lemma => kernel_rfl
  · as_aux_lemma => kernel_rfl
  · as_aux_lemma => kernel_rfl
  · as_aux_lemma => kernel_rfl
  · as_aux_lemma => kernel_rfl
  · as_aux_lemma => kernel_rfl
  · as_aux_lemma => kernel_rfl
  · exact j_keys
  · as_aux_lemma => kernel_rfl
  · exact j_heard
  · exact j_enter
  · exact j_lift
  · exact j_make
  · as_aux_lemma => kernel_rfl
  · as_aux_lemma => kernel_rfl
  · as_aux_lemma => kernel_rfl
  · as_aux_lemma => kernel_rfl
theorem over : Rows.fnExactStepsBetweenRow.holds Tryz.pinned (OpenSpec.ofChange Rows.fnExactStepsBetweenSpec) :=
  OpenClaim.holds_of_wide 5 f5 rfl rfl rfl rfl rfl rfl rfl ⟨rfl, rfl, rfl, rfl, rfl⟩ rfl rfl rfl rfl rfl (by kernel_rfl) func5 closed
    (of_decide_eq_true (by kernel_rfl)) (by unfold Func.isWrapper; first | (rw [if_pos (by decide +kernel)]; kernel_rfl) | (rw [if_neg (by decide +kernel)]; exact ⟨rfl, rfl⟩))
    (fun os started H enc _ => lifted os started H enc)
theorem proved : Rows.FnExactStepsBetweenSaid := over
theorem goes : false = Rows.fnExactStepsBetweenRow.goesBy Tryz.pinned.checked.prog := by kernel_rfl
theorem card_holds : Rows.FnExactStepsBetweenCardSaid :=
  Claim7.holds_tied_plain_at .later [] [.data, .data, .data] true (true, "d92dcfc035d9826dc24acb9db0539d33de1d365020257dc51535d51e968fc90c") true
    proved (fun _ h => by cases h) (by as_aux_lemma => kernel_rfl) (fun _ h => by cases h) fnExactStepsBetween_row_tie rfl ⟨rfl, rfl⟩ j_main rfl
    (fun f fn hf hfn => by
      obtain rfl : f = 5 := Option.some.inj ((show prog.funcNamed "loop.example/g01008/laws.FnExactStepsBetween" = some 5 by as_aux_lemma => kernel_rfl).symm.trans hf) |>.symm
      obtain rfl : fn = f5 := (Option.some.inj (func5.symm.trans hfn)).symm
      exact ⟨j_looks, fun j t ht => by
        rw [params5] at ht
        have hm : t ∈ [50, 3, 3] := by simpa using Array.mem_of_getElem? ht
        have hall : ([50, 3, 3].all fun u => !prog.wantsStandIn u) = true := by as_aux_lemma => kernel_rfl
        exact (show prog.wantsStandIn t = false by simpa using List.all_eq_true.1 hall t hm)⟩)
    goes
#print axioms card_holds
end Go.Proofs.YtkckmehkialgjaaGreatDoor.RowExactStepsBetween
namespace Go.Proofs.YtkckmehkialgjaaGreatDoor
/-- The card, under a short name. -/
theorem fnExactStepsBetween_card : Rows.FnExactStepsBetweenCardSaid := RowExactStepsBetween.card_holds
end Go.Proofs.YtkckmehkialgjaaGreatDoor
