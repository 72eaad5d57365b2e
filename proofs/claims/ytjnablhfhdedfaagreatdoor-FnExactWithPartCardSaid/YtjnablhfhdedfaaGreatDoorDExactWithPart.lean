/- Contracts: each function, called where its plain function gives an answer, returns just that answer and changes nothing that was there. By AI agents; no person has read it. -/
import Derived.Test.YtjnablhfhdedfaaGreatDoorC1
set_option linter.unusedVariables false
set_option linter.unusedSimpArgs false
set_option maxRecDepth 100000
set_option maxHeartbeats 40000000
namespace Go.Proofs.XC
open Go Go.RowKit
open Tryz
theorem C.s_prPart {a0 : Int} {r : Bool} (w : World) (h : X.s_prPart a0 = some r) : Calls prog 115 #[.int .i64 a0] w (Ret w (.bool r)) := by
  refine calls (M := no) (args := [.int .i64 a0]) func115 rfl ?_
  replace h : H (X.s_prPart a0) (fun o => o = r) := H.mk h
  unfold X.s_prPart at h
  refine c_seq ?_
  refine r_start ?_
  refine p 1 ?_
  refine rend ?_
  refine c_seq ?_
  refine r_start ?_
  refine p 1 ?_
  obtain ⟨v1_1, hv1_1, h⟩ := H.call h
  refine xq rfl (y_call [.int .i64 a0, .int .i64 0, .int .i64 4] (.bool v1_1) func140 (fun W S => C.s_l1In W hv1_1)) ?_
  refine p 1 ?_
  refine rend ?_
  replace h := H.done h
  subst h
  exact ret func115 rfl (vs := [.bool v1_1]) (.tmp (by kernel_rfl) .nil) rfl (fun W S => ⟨rfl, S.below⟩)
theorem C.s_WithPart {fu : Nat} {a0 : Sign} {a1 : Sign} {a2 : Int} {r : (Sign × Bool)} (w : World) (h : X.s_WithPart fu a0 a1 a2 = some r) : Calls prog 49 #[.agg (eSign a0).toArray, .agg (eSign a1).toArray, .int .i64 a2] w (Ret w (.tuple #[.agg (eSign r.1).toArray, .bool r.2])) := by
  refine calls (M := no) (args := [.agg (eSign a0).toArray, .agg (eSign a1).toArray, .int .i64 a2]) func49 rfl ?_
  replace h : H (X.s_WithPart fu a0 a1 a2) (fun o => o = r) := H.mk h
  unfold X.s_WithPart at h
  refine c_seq ?_
  refine r_start ?_
  refine xx rfl (x_box (eSign a0) fun g0_0 => ?_)
  refine xx rfl (x_box (eSign a1) fun g0_1 => ?_)
  refine xx rfl (x_new (eSign zSign) fun g0_2 => ?_)
  refine p 1 ?_
  refine rend ?_
  refine c_seq ?_
  refine c_seq ?_
  refine r_start ?_
  refine xq rfl (y_load (.agg (eSign a0).toArray) 0 g0_0 0) ?_
  obtain ⟨v1_1, hv1_1, h⟩ := H.call h
  refine xq rfl (y_call [.agg (eSign a0).toArray] (.bool v1_1) func84 (fun W S => C.s_siGood W hv1_1)) ?_
  refine p 2 ?_
  refine br (!v1_1) (fun q1 => ?_) (fun q1 => ?_)
  · replace h := H.t q1 h
    refine o_set 13 (congrArg Value.bool q1) ?_
    refine p 9 ?_
    refine rend ?_
    refine c_t (by kernel_rfl) ?_
    refine c_seq ?_
    refine r_start ?_
    refine p 1 ?_
    refine xx rfl (x_sto 2 g0_2 0 (eSign zSign) ?_)
    refine p 1 ?_
    refine rend ?_
    replace h := H.done h
    subst h
    exact ret func49 rfl (vs := [.agg (eSign zSign).toArray, .bool false]) (.cell 2 g0_2 rfl (by kernel_rfl) (by kernel_rfl) (.tmp (by kernel_rfl) .nil)) rfl (fun W S => ⟨rfl, S.below⟩)
  replace h := H.f q1 h
  refine o_set 13 (congrArg Value.bool q1) ?_
  refine xq rfl (y_load (.agg (eSign a1).toArray) 1 g0_1 0) ?_
  obtain ⟨v1_5, hv1_5, h⟩ := H.call h
  refine xq rfl (y_call [.agg (eSign a1).toArray] (.bool v1_5) func84 (fun W S => C.s_siGood W hv1_5)) ?_
  refine p 3 ?_
  refine br (!v1_5) (fun q2 => ?_) (fun q2 => ?_)
  · replace h := H.t q2 h
    refine o_set 18 (congrArg Value.bool q2) ?_
    refine p 4 ?_
    refine rend ?_
    refine c_t (by kernel_rfl) ?_
    refine c_seq ?_
    refine r_start ?_
    refine p 1 ?_
    refine xx rfl (x_sto 2 g0_2 0 (eSign zSign) ?_)
    refine p 1 ?_
    refine rend ?_
    replace h := H.done h
    subst h
    exact ret func49 rfl (vs := [.agg (eSign zSign).toArray, .bool false]) (.cell 2 g0_2 rfl (by kernel_rfl) (by kernel_rfl) (.tmp (by kernel_rfl) .nil)) rfl (fun W S => ⟨rfl, S.below⟩)
  replace h := H.f q2 h
  refine o_set 18 (congrArg Value.bool q2) ?_
  refine p 1 ?_
  obtain ⟨v1_10, hv1_10, h⟩ := H.call h
  refine xq rfl (y_call [.int .i64 a2] (.bool v1_10) func115 (fun W S => C.s_prPart W hv1_10)) ?_
  refine p 2 ?_
  refine rend ?_
  refine c_or (!v1_10) (fun q3 => ?_) (fun q3 => ?_)
  · replace h := H.t q3 h
    refine c_seq ?_
    refine r_start ?_
    refine p 1 ?_
    refine xx rfl (x_sto 2 g0_2 0 (eSign zSign) ?_)
    refine p 1 ?_
    refine rend ?_
    replace h := H.done h
    subst h
    exact ret func49 rfl (vs := [.agg (eSign zSign).toArray, .bool false]) (.cell 2 g0_2 rfl (by kernel_rfl) (by kernel_rfl) (.tmp (by kernel_rfl) .nil)) rfl (fun W S => ⟨rfl, S.below⟩)
  replace h := H.f q3 h
  refine c_skip ?_
  refine c_seq ?_
  refine joinT (X := (Sign × Sign × Nat × Nat)) (H.bnd h) (fun ⟨s4, s5, g3_4, g3_5⟩ => (s4, s5)) (fun ⟨s4, s5, g3_4, g3_5⟩ => [box g0_0 62 (eSign a0), box g0_1 62 (eSign a1), box g0_2 62 (eSign zSign), box g3_4 62 (eSign s4), box g3_5 62 (eSign s5)]) (fun ⟨s4, s5, g3_4, g3_5⟩ u => (jk u 0 2 (.int .i64 a2 :: (jk u 3 3 (.pointer (some ⟨g0_2, 0, none⟩) :: (jk u 7 1 (.pointer (some ⟨g3_4, 0, none⟩) :: .pointer (some ⟨g3_5, 0, none⟩) :: (jk u 10 59 [])))))))) (fun h hj6 => ?_) ?_
  · skip
    refine as_start 8 8 ?_
    refine aq 0 rfl (y_load (.agg (eSign a0).toArray) 0 g0_0 0) ?_
    obtain ⟨v3_1, hv3_1, h⟩ := H.call h
    refine aq 1 rfl (y_call [.agg (eSign a0).toArray] (.agg (eSign v3_1).toArray) func116 (fun W S => C.s_noForm W hv3_1)) ?_
    refine aq 2 rfl (y_load (.agg (eSign a1).toArray) 1 g0_1 0) ?_
    obtain ⟨v3_3, hv3_3, h⟩ := H.call h
    refine aq 3 rfl (y_call [.agg (eSign a1).toArray] (.agg (eSign v3_3).toArray) func116 (fun W S => C.s_noForm W hv3_3)) ?_
    refine a_two 4 5 rfl rfl ?_ ?_
    · skip
      refine (x_new (eSign zSign) fun g3_4 => ⟨.inr (by kernel_rfl), ?_⟩)
      refine ax 5 rfl (x_new (eSign zSign) fun g3_5 => ⟨.inr (by kernel_rfl), ?_⟩)
      refine ax 6 rfl (x_sto 3 g3_4 0 (eSign v3_1) ⟨.inr (by kernel_rfl), ?_⟩)
      refine ax 7 rfl (x_sto 4 g3_5 0 (eSign v3_3) ⟨.inr (by kernel_rfl), ?_⟩)
      refine a_done ?_
      replace h := H.done h
      exact hj6 (v3_1, v3_3, g3_4, g3_5) _ _ h (by kernel_rfl) (by kernel_rfl)
    refine (x_new (eSign zSign) fun g3_5 => ⟨.inr (by kernel_rfl), ?_⟩)
    refine ax 4 rfl (x_new (eSign zSign) fun g3_4 => ⟨.inr (by kernel_rfl), ?_⟩)
    refine ax 6 rfl (x_sto 4 g3_4 0 (eSign v3_1) ⟨.inr (by kernel_rfl), ?_⟩)
    refine ax 7 rfl (x_sto 3 g3_5 0 (eSign v3_3) ⟨.inr (by kernel_rfl), ?_⟩)
    refine a_done ?_
    refine swp [box g0_0 62 (eSign a0), box g0_1 62 (eSign a1), box g0_2 62 (eSign zSign)] (box g3_5 62 (eSign v3_3)) (box g3_4 62 (eSign v3_1)) ?_
    replace h := H.done h
    exact hj6 (v3_1, v3_3, g3_4, g3_5) _ _ h (by kernel_rfl) (by kernel_rfl)
  intro x u h
  obtain ⟨s4, s5, g3_4, g3_5⟩ := x
  refine c_seq ?_
  refine c_seq ?_
  refine r_start ?_
  refine p 1 ?_
  refine rend ?_
  refine c_block ?_
  refine c_seq ?_
  refine r_start ?_
  refine p 2 ?_
  refine rend ?_
  refine c_or (a2 == 0) (fun q7 => ?_) (fun q7 => ?_)
  · replace h := H.t q7 h
    refine r_start ?_
    refine p 2 ?_
    refine xq rfl (y_load (.agg (eShape s5.Main.Shape).toArray) 4 g3_5 0) ?_
    refine p 2 ?_
    refine xx rfl (x_sto 3 g3_4 0 (eSign ({ s4 with Main := { s4.Main with Shape := s5.Main.Shape } })) ?_)
    refine rend ?_
    refine c_inb ?_
    refine c_seq ?_
    refine c_seq ?_
    refine r_start ?_
    refine xq rfl (y_load (.agg (eSign ({ s4 with Main := { s4.Main with Shape := s5.Main.Shape } })).toArray) 3 g3_4 0) ?_
    obtain ⟨v15_1, hv15_1, h⟩ := H.call h
    refine xq rfl (y_call [.agg (eSign ({ s4 with Main := { s4.Main with Shape := s5.Main.Shape } })).toArray] (.bool v15_1) func84 (fun W S => C.s_siGood W hv15_1)) ?_
    refine p 1 ?_
    refine rend ?_
    refine c_or (!v15_1) (fun q8 => ?_) (fun q8 => ?_)
    · replace h := H.t q8 h
      refine c_seq ?_
      refine r_start ?_
      refine p 1 ?_
      refine xx rfl (x_sto 2 g0_2 0 (eSign zSign) ?_)
      refine p 1 ?_
      refine rend ?_
      replace h := H.done h
      subst h
      exact ret func49 rfl (vs := [.agg (eSign zSign).toArray, .bool false]) (.cell 2 g0_2 rfl (by kernel_rfl) (by kernel_rfl) (.tmp (by kernel_rfl) .nil)) rfl (fun W S => ⟨rfl, S.below⟩)
    replace h := H.f q8 h
    refine c_skip ?_
    refine c_seq ?_
    refine r_start ?_
    refine xq rfl (y_load (.agg (eSign ({ s4 with Main := { s4.Main with Shape := s5.Main.Shape } })).toArray) 3 g3_4 0) ?_
    obtain ⟨v17_1, hv17_1, h⟩ := H.call h
    refine xq rfl (y_call [.agg (eSign ({ s4 with Main := { s4.Main with Shape := s5.Main.Shape } })).toArray] (.agg (eSign v17_1).toArray) func116 (fun W S => C.s_noForm W hv17_1)) ?_
    refine xx rfl (x_sto 2 g0_2 0 (eSign v17_1) ?_)
    refine p 1 ?_
    refine rend ?_
    replace h := H.done h
    subst h
    exact ret func49 rfl (vs := [.agg (eSign v17_1).toArray, .bool true]) (.cell 2 g0_2 rfl (by kernel_rfl) (by kernel_rfl) (.tmp (by kernel_rfl) .nil)) rfl (fun W S => ⟨rfl, S.below⟩)
  replace h := H.f q7 h
  refine c_seq ?_
  refine r_start ?_
  refine p 2 ?_
  refine rend ?_
  refine c_or (a2 == 1) (fun q9 => ?_) (fun q9 => ?_)
  · replace h := H.t q9 h
    refine r_start ?_
    refine p 2 ?_
    refine xq rfl (y_load (.agg (eOrient s5.Main.Orient).toArray) 4 g3_5 6) ?_
    refine p 2 ?_
    refine xx rfl (x_sto 3 g3_4 6 (eSign ({ s4 with Main := { s4.Main with Orient := s5.Main.Orient } })) ?_)
    refine rend ?_
    refine c_inb ?_
    refine c_seq ?_
    refine c_seq ?_
    refine r_start ?_
    refine xq rfl (y_load (.agg (eSign ({ s4 with Main := { s4.Main with Orient := s5.Main.Orient } })).toArray) 3 g3_4 0) ?_
    obtain ⟨v15_1, hv15_1, h⟩ := H.call h
    refine xq rfl (y_call [.agg (eSign ({ s4 with Main := { s4.Main with Orient := s5.Main.Orient } })).toArray] (.bool v15_1) func84 (fun W S => C.s_siGood W hv15_1)) ?_
    refine p 1 ?_
    refine rend ?_
    refine c_or (!v15_1) (fun q10 => ?_) (fun q10 => ?_)
    · replace h := H.t q10 h
      refine c_seq ?_
      refine r_start ?_
      refine p 1 ?_
      refine xx rfl (x_sto 2 g0_2 0 (eSign zSign) ?_)
      refine p 1 ?_
      refine rend ?_
      replace h := H.done h
      subst h
      exact ret func49 rfl (vs := [.agg (eSign zSign).toArray, .bool false]) (.cell 2 g0_2 rfl (by kernel_rfl) (by kernel_rfl) (.tmp (by kernel_rfl) .nil)) rfl (fun W S => ⟨rfl, S.below⟩)
    replace h := H.f q10 h
    refine c_skip ?_
    refine c_seq ?_
    refine r_start ?_
    refine xq rfl (y_load (.agg (eSign ({ s4 with Main := { s4.Main with Orient := s5.Main.Orient } })).toArray) 3 g3_4 0) ?_
    obtain ⟨v17_1, hv17_1, h⟩ := H.call h
    refine xq rfl (y_call [.agg (eSign ({ s4 with Main := { s4.Main with Orient := s5.Main.Orient } })).toArray] (.agg (eSign v17_1).toArray) func116 (fun W S => C.s_noForm W hv17_1)) ?_
    refine xx rfl (x_sto 2 g0_2 0 (eSign v17_1) ?_)
    refine p 1 ?_
    refine rend ?_
    replace h := H.done h
    subst h
    exact ret func49 rfl (vs := [.agg (eSign v17_1).toArray, .bool true]) (.cell 2 g0_2 rfl (by kernel_rfl) (by kernel_rfl) (.tmp (by kernel_rfl) .nil)) rfl (fun W S => ⟨rfl, S.below⟩)
  replace h := H.f q9 h
  refine c_seq ?_
  refine r_start ?_
  refine p 2 ?_
  refine rend ?_
  refine c_or (a2 == 2) (fun q11 => ?_) (fun q11 => ?_)
  · replace h := H.t q11 h
    refine r_start ?_
    refine p 2 ?_
    refine xq rfl (y_load (.agg (ePlace s5.Main.Place).toArray) 4 g3_5 8) ?_
    refine p 2 ?_
    refine xx rfl (x_sto 3 g3_4 8 (eSign ({ s4 with Main := { s4.Main with Place := s5.Main.Place } })) ?_)
    refine rend ?_
    refine c_inb ?_
    refine c_seq ?_
    refine c_seq ?_
    refine r_start ?_
    refine xq rfl (y_load (.agg (eSign ({ s4 with Main := { s4.Main with Place := s5.Main.Place } })).toArray) 3 g3_4 0) ?_
    obtain ⟨v15_1, hv15_1, h⟩ := H.call h
    refine xq rfl (y_call [.agg (eSign ({ s4 with Main := { s4.Main with Place := s5.Main.Place } })).toArray] (.bool v15_1) func84 (fun W S => C.s_siGood W hv15_1)) ?_
    refine p 1 ?_
    refine rend ?_
    refine c_or (!v15_1) (fun q12 => ?_) (fun q12 => ?_)
    · replace h := H.t q12 h
      refine c_seq ?_
      refine r_start ?_
      refine p 1 ?_
      refine xx rfl (x_sto 2 g0_2 0 (eSign zSign) ?_)
      refine p 1 ?_
      refine rend ?_
      replace h := H.done h
      subst h
      exact ret func49 rfl (vs := [.agg (eSign zSign).toArray, .bool false]) (.cell 2 g0_2 rfl (by kernel_rfl) (by kernel_rfl) (.tmp (by kernel_rfl) .nil)) rfl (fun W S => ⟨rfl, S.below⟩)
    replace h := H.f q12 h
    refine c_skip ?_
    refine c_seq ?_
    refine r_start ?_
    refine xq rfl (y_load (.agg (eSign ({ s4 with Main := { s4.Main with Place := s5.Main.Place } })).toArray) 3 g3_4 0) ?_
    obtain ⟨v17_1, hv17_1, h⟩ := H.call h
    refine xq rfl (y_call [.agg (eSign ({ s4 with Main := { s4.Main with Place := s5.Main.Place } })).toArray] (.agg (eSign v17_1).toArray) func116 (fun W S => C.s_noForm W hv17_1)) ?_
    refine xx rfl (x_sto 2 g0_2 0 (eSign v17_1) ?_)
    refine p 1 ?_
    refine rend ?_
    replace h := H.done h
    subst h
    exact ret func49 rfl (vs := [.agg (eSign v17_1).toArray, .bool true]) (.cell 2 g0_2 rfl (by kernel_rfl) (by kernel_rfl) (.tmp (by kernel_rfl) .nil)) rfl (fun W S => ⟨rfl, S.below⟩)
  replace h := H.f q11 h
  refine c_seq ?_
  refine r_start ?_
  refine p 2 ?_
  refine rend ?_
  refine c_or (a2 == 3) (fun q13 => ?_) (fun q13 => ?_)
  · replace h := H.t q13 h
    refine r_start ?_
    refine p 2 ?_
    refine xq rfl (y_load (.agg (eMove s5.Main.Move).toArray) 4 g3_5 11) ?_
    refine p 2 ?_
    refine xx rfl (x_sto 3 g3_4 11 (eSign ({ s4 with Main := { s4.Main with Move := s5.Main.Move } })) ?_)
    refine rend ?_
    refine c_inb ?_
    refine c_seq ?_
    refine c_seq ?_
    refine r_start ?_
    refine xq rfl (y_load (.agg (eSign ({ s4 with Main := { s4.Main with Move := s5.Main.Move } })).toArray) 3 g3_4 0) ?_
    obtain ⟨v15_1, hv15_1, h⟩ := H.call h
    refine xq rfl (y_call [.agg (eSign ({ s4 with Main := { s4.Main with Move := s5.Main.Move } })).toArray] (.bool v15_1) func84 (fun W S => C.s_siGood W hv15_1)) ?_
    refine p 1 ?_
    refine rend ?_
    refine c_or (!v15_1) (fun q14 => ?_) (fun q14 => ?_)
    · replace h := H.t q14 h
      refine c_seq ?_
      refine r_start ?_
      refine p 1 ?_
      refine xx rfl (x_sto 2 g0_2 0 (eSign zSign) ?_)
      refine p 1 ?_
      refine rend ?_
      replace h := H.done h
      subst h
      exact ret func49 rfl (vs := [.agg (eSign zSign).toArray, .bool false]) (.cell 2 g0_2 rfl (by kernel_rfl) (by kernel_rfl) (.tmp (by kernel_rfl) .nil)) rfl (fun W S => ⟨rfl, S.below⟩)
    replace h := H.f q14 h
    refine c_skip ?_
    refine c_seq ?_
    refine r_start ?_
    refine xq rfl (y_load (.agg (eSign ({ s4 with Main := { s4.Main with Move := s5.Main.Move } })).toArray) 3 g3_4 0) ?_
    obtain ⟨v17_1, hv17_1, h⟩ := H.call h
    refine xq rfl (y_call [.agg (eSign ({ s4 with Main := { s4.Main with Move := s5.Main.Move } })).toArray] (.agg (eSign v17_1).toArray) func116 (fun W S => C.s_noForm W hv17_1)) ?_
    refine xx rfl (x_sto 2 g0_2 0 (eSign v17_1) ?_)
    refine p 1 ?_
    refine rend ?_
    replace h := H.done h
    subst h
    exact ret func49 rfl (vs := [.agg (eSign v17_1).toArray, .bool true]) (.cell 2 g0_2 rfl (by kernel_rfl) (by kernel_rfl) (.tmp (by kernel_rfl) .nil)) rfl (fun W S => ⟨rfl, S.below⟩)
  replace h := H.f q13 h
  refine c_seq ?_
  refine r_start ?_
  refine p 1 ?_
  refine xq rfl (y_load (.bool s5.Two) 4 g3_5 13) ?_
  refine p 1 ?_
  refine xx rfl (x_sto 3 g3_4 13 (eSign ({ s4 with Two := s5.Two })) ?_)
  refine rend ?_
  refine r_start ?_
  refine p 1 ?_
  refine xq rfl (y_load (.agg (eHand s5.Other).toArray) 4 g3_5 14) ?_
  refine p 1 ?_
  refine xx rfl (x_sto 3 g3_4 14 (eSign ({ s5 with Main := s4.Main })) ?_)
  refine rend ?_
  refine c_inb ?_
  refine c_seq ?_
  refine c_seq ?_
  refine r_start ?_
  refine xq rfl (y_load (.agg (eSign ({ s5 with Main := s4.Main })).toArray) 3 g3_4 0) ?_
  obtain ⟨v15_1, hv15_1, h⟩ := H.call h
  refine xq rfl (y_call [.agg (eSign ({ s5 with Main := s4.Main })).toArray] (.bool v15_1) func84 (fun W S => C.s_siGood W hv15_1)) ?_
  refine p 1 ?_
  refine rend ?_
  refine c_or (!v15_1) (fun q15 => ?_) (fun q15 => ?_)
  · replace h := H.t q15 h
    refine c_seq ?_
    refine r_start ?_
    refine p 1 ?_
    refine xx rfl (x_sto 2 g0_2 0 (eSign zSign) ?_)
    refine p 1 ?_
    refine rend ?_
    replace h := H.done h
    subst h
    exact ret func49 rfl (vs := [.agg (eSign zSign).toArray, .bool false]) (.cell 2 g0_2 rfl (by kernel_rfl) (by kernel_rfl) (.tmp (by kernel_rfl) .nil)) rfl (fun W S => ⟨rfl, S.below⟩)
  replace h := H.f q15 h
  refine c_skip ?_
  refine c_seq ?_
  refine r_start ?_
  refine xq rfl (y_load (.agg (eSign ({ s5 with Main := s4.Main })).toArray) 3 g3_4 0) ?_
  obtain ⟨v17_1, hv17_1, h⟩ := H.call h
  refine xq rfl (y_call [.agg (eSign ({ s5 with Main := s4.Main })).toArray] (.agg (eSign v17_1).toArray) func116 (fun W S => C.s_noForm W hv17_1)) ?_
  refine xx rfl (x_sto 2 g0_2 0 (eSign v17_1) ?_)
  refine p 1 ?_
  refine rend ?_
  replace h := H.done h
  subst h
  exact ret func49 rfl (vs := [.agg (eSign v17_1).toArray, .bool true]) (.cell 2 g0_2 rfl (by kernel_rfl) (by kernel_rfl) (.tmp (by kernel_rfl) .nil)) rfl (fun W S => ⟨rfl, S.below⟩)
theorem C.i_WithPart {fu : Nat} {a0 : Sign} {a1 : Sign} {a2 : Int} {r : (Sign × Bool)} (w : World) (h : X.i_WithPart fu a0 a1 a2 = some r) : Calls prog 50 #[.agg (eSign a0).toArray, .agg (eSign a1).toArray, .int .i64 a2] w (Ret w (.tuple #[.agg (eSign r.1).toArray, .bool r.2])) := by
  refine calls (M := no) (args := [.agg (eSign a0).toArray, .agg (eSign a1).toArray, .int .i64 a2]) func50 rfl ?_
  replace h : H (X.i_WithPart fu a0 a1 a2) (fun o => o = r) := H.mk h
  unfold X.i_WithPart at h
  refine c_seq ?_
  refine r_start ?_
  refine xx rfl (x_box (eSign a0) fun g0_0 => ?_)
  refine xx rfl (x_box (eSign a1) fun g0_1 => ?_)
  refine xx rfl (x_new (eSign zSign) fun g0_2 => ?_)
  refine p 1 ?_
  refine rend ?_
  refine c_seq ?_
  refine c_seq ?_
  refine r_start ?_
  refine xq rfl (y_load (.agg (eSign a0).toArray) 0 g0_0 0) ?_
  obtain ⟨v1_1, hv1_1, h⟩ := H.call h
  refine xq rfl (y_call [.agg (eSign a0).toArray] (.bool v1_1) func89 (fun W S => C.i_IsSign W hv1_1)) ?_
  refine p 2 ?_
  refine br (!v1_1) (fun q1 => ?_) (fun q1 => ?_)
  · replace h := H.t q1 h
    refine o_set 13 (congrArg Value.bool q1) ?_
    refine p 9 ?_
    refine rend ?_
    refine c_t (by kernel_rfl) ?_
    refine c_seq ?_
    refine r_start ?_
    refine p 1 ?_
    refine xx rfl (x_sto 2 g0_2 0 (eSign zSign) ?_)
    refine p 1 ?_
    refine rend ?_
    replace h := H.done h
    subst h
    exact ret func50 rfl (vs := [.agg (eSign zSign).toArray, .bool false]) (.cell 2 g0_2 rfl (by kernel_rfl) (by kernel_rfl) (.tmp (by kernel_rfl) .nil)) rfl (fun W S => ⟨rfl, S.below⟩)
  replace h := H.f q1 h
  refine o_set 13 (congrArg Value.bool q1) ?_
  refine xq rfl (y_load (.agg (eSign a1).toArray) 1 g0_1 0) ?_
  obtain ⟨v1_5, hv1_5, h⟩ := H.call h
  refine xq rfl (y_call [.agg (eSign a1).toArray] (.bool v1_5) func89 (fun W S => C.i_IsSign W hv1_5)) ?_
  refine p 3 ?_
  refine br (!v1_5) (fun q2 => ?_) (fun q2 => ?_)
  · replace h := H.t q2 h
    refine o_set 18 (congrArg Value.bool q2) ?_
    refine p 4 ?_
    refine rend ?_
    refine c_t (by kernel_rfl) ?_
    refine c_seq ?_
    refine r_start ?_
    refine p 1 ?_
    refine xx rfl (x_sto 2 g0_2 0 (eSign zSign) ?_)
    refine p 1 ?_
    refine rend ?_
    replace h := H.done h
    subst h
    exact ret func50 rfl (vs := [.agg (eSign zSign).toArray, .bool false]) (.cell 2 g0_2 rfl (by kernel_rfl) (by kernel_rfl) (.tmp (by kernel_rfl) .nil)) rfl (fun W S => ⟨rfl, S.below⟩)
  replace h := H.f q2 h
  refine o_set 18 (congrArg Value.bool q2) ?_
  refine p 1 ?_
  obtain ⟨v1_10, hv1_10, h⟩ := H.call h
  refine xq rfl (y_call [.int .i64 a2, .int .i64 0, .int .i64 4] (.bool v1_10) func117 (fun W S => C.i_within W hv1_10)) ?_
  refine p 2 ?_
  refine rend ?_
  refine c_or (!v1_10) (fun q3 => ?_) (fun q3 => ?_)
  · replace h := H.t q3 h
    refine c_seq ?_
    refine r_start ?_
    refine p 1 ?_
    refine xx rfl (x_sto 2 g0_2 0 (eSign zSign) ?_)
    refine p 1 ?_
    refine rend ?_
    replace h := H.done h
    subst h
    exact ret func50 rfl (vs := [.agg (eSign zSign).toArray, .bool false]) (.cell 2 g0_2 rfl (by kernel_rfl) (by kernel_rfl) (.tmp (by kernel_rfl) .nil)) rfl (fun W S => ⟨rfl, S.below⟩)
  replace h := H.f q3 h
  refine c_skip ?_
  refine c_seq ?_
  refine joinT (X := (Sign × Sign × Nat × Nat)) (H.bnd h) (fun ⟨s4, s5, g3_4, g3_5⟩ => (s4, s5)) (fun ⟨s4, s5, g3_4, g3_5⟩ => [box g0_0 62 (eSign a0), box g0_1 62 (eSign a1), box g0_2 62 (eSign zSign), box g3_4 62 (eSign s4), box g3_5 62 (eSign s5)]) (fun ⟨s4, s5, g3_4, g3_5⟩ u => (jk u 0 2 (.int .i64 a2 :: (jk u 3 3 (.pointer (some ⟨g0_2, 0, none⟩) :: (jk u 7 1 (.pointer (some ⟨g3_4, 0, none⟩) :: .pointer (some ⟨g3_5, 0, none⟩) :: (jk u 10 59 [])))))))) (fun h hj6 => ?_) ?_
  · skip
    refine as_start 8 8 ?_
    refine aq 0 rfl (y_load (.agg (eSign a0).toArray) 0 g0_0 0) ?_
    obtain ⟨v3_1, hv3_1, h⟩ := H.call h
    refine aq 1 rfl (y_call [.agg (eSign a0).toArray] (.agg (eSign v3_1).toArray) func118 (fun W S => C.i_Sign_normal W hv3_1)) ?_
    refine aq 2 rfl (y_load (.agg (eSign a1).toArray) 1 g0_1 0) ?_
    obtain ⟨v3_3, hv3_3, h⟩ := H.call h
    refine aq 3 rfl (y_call [.agg (eSign a1).toArray] (.agg (eSign v3_3).toArray) func118 (fun W S => C.i_Sign_normal W hv3_3)) ?_
    refine a_two 4 5 rfl rfl ?_ ?_
    · skip
      refine (x_new (eSign zSign) fun g3_4 => ⟨.inr (by kernel_rfl), ?_⟩)
      refine ax 5 rfl (x_new (eSign zSign) fun g3_5 => ⟨.inr (by kernel_rfl), ?_⟩)
      refine ax 6 rfl (x_sto 3 g3_4 0 (eSign v3_1) ⟨.inr (by kernel_rfl), ?_⟩)
      refine ax 7 rfl (x_sto 4 g3_5 0 (eSign v3_3) ⟨.inr (by kernel_rfl), ?_⟩)
      refine a_done ?_
      replace h := H.done h
      exact hj6 (v3_1, v3_3, g3_4, g3_5) _ _ h (by kernel_rfl) (by kernel_rfl)
    refine (x_new (eSign zSign) fun g3_5 => ⟨.inr (by kernel_rfl), ?_⟩)
    refine ax 4 rfl (x_new (eSign zSign) fun g3_4 => ⟨.inr (by kernel_rfl), ?_⟩)
    refine ax 6 rfl (x_sto 4 g3_4 0 (eSign v3_1) ⟨.inr (by kernel_rfl), ?_⟩)
    refine ax 7 rfl (x_sto 3 g3_5 0 (eSign v3_3) ⟨.inr (by kernel_rfl), ?_⟩)
    refine a_done ?_
    refine swp [box g0_0 62 (eSign a0), box g0_1 62 (eSign a1), box g0_2 62 (eSign zSign)] (box g3_5 62 (eSign v3_3)) (box g3_4 62 (eSign v3_1)) ?_
    replace h := H.done h
    exact hj6 (v3_1, v3_3, g3_4, g3_5) _ _ h (by kernel_rfl) (by kernel_rfl)
  intro x u h
  obtain ⟨s4, s5, g3_4, g3_5⟩ := x
  refine c_seq ?_
  refine c_seq ?_
  refine r_start ?_
  refine p 1 ?_
  refine rend ?_
  refine c_block ?_
  refine c_seq ?_
  refine r_start ?_
  refine p 2 ?_
  refine rend ?_
  refine c_or (a2 == 0) (fun q7 => ?_) (fun q7 => ?_)
  · replace h := H.t q7 h
    refine r_start ?_
    refine p 2 ?_
    refine xq rfl (y_load (.agg (eShape s5.Main.Shape).toArray) 4 g3_5 0) ?_
    refine p 2 ?_
    refine xx rfl (x_sto 3 g3_4 0 (eSign ({ s4 with Main := { s4.Main with Shape := s5.Main.Shape } })) ?_)
    refine rend ?_
    refine c_inb ?_
    refine c_seq ?_
    refine c_seq ?_
    refine r_start ?_
    refine xq rfl (y_load (.agg (eSign ({ s4 with Main := { s4.Main with Shape := s5.Main.Shape } })).toArray) 3 g3_4 0) ?_
    obtain ⟨v14_1, hv14_1, h⟩ := H.call h
    refine xq rfl (y_call [.agg (eSign ({ s4 with Main := { s4.Main with Shape := s5.Main.Shape } })).toArray] (.bool v14_1) func89 (fun W S => C.i_IsSign W hv14_1)) ?_
    refine p 1 ?_
    refine rend ?_
    refine c_or (!v14_1) (fun q8 => ?_) (fun q8 => ?_)
    · replace h := H.t q8 h
      refine c_seq ?_
      refine r_start ?_
      refine p 1 ?_
      refine xx rfl (x_sto 2 g0_2 0 (eSign zSign) ?_)
      refine p 1 ?_
      refine rend ?_
      replace h := H.done h
      subst h
      exact ret func50 rfl (vs := [.agg (eSign zSign).toArray, .bool false]) (.cell 2 g0_2 rfl (by kernel_rfl) (by kernel_rfl) (.tmp (by kernel_rfl) .nil)) rfl (fun W S => ⟨rfl, S.below⟩)
    replace h := H.f q8 h
    refine c_skip ?_
    refine c_seq ?_
    refine r_start ?_
    refine xq rfl (y_load (.agg (eSign ({ s4 with Main := { s4.Main with Shape := s5.Main.Shape } })).toArray) 3 g3_4 0) ?_
    obtain ⟨v16_1, hv16_1, h⟩ := H.call h
    refine xq rfl (y_call [.agg (eSign ({ s4 with Main := { s4.Main with Shape := s5.Main.Shape } })).toArray] (.agg (eSign v16_1).toArray) func118 (fun W S => C.i_Sign_normal W hv16_1)) ?_
    refine xx rfl (x_sto 2 g0_2 0 (eSign v16_1) ?_)
    refine p 1 ?_
    refine rend ?_
    replace h := H.done h
    subst h
    exact ret func50 rfl (vs := [.agg (eSign v16_1).toArray, .bool true]) (.cell 2 g0_2 rfl (by kernel_rfl) (by kernel_rfl) (.tmp (by kernel_rfl) .nil)) rfl (fun W S => ⟨rfl, S.below⟩)
  replace h := H.f q7 h
  refine c_seq ?_
  refine r_start ?_
  refine p 2 ?_
  refine rend ?_
  refine c_or (a2 == 1) (fun q9 => ?_) (fun q9 => ?_)
  · replace h := H.t q9 h
    refine r_start ?_
    refine p 2 ?_
    refine xq rfl (y_load (.agg (eOrient s5.Main.Orient).toArray) 4 g3_5 6) ?_
    refine p 2 ?_
    refine xx rfl (x_sto 3 g3_4 6 (eSign ({ s4 with Main := { s4.Main with Orient := s5.Main.Orient } })) ?_)
    refine rend ?_
    refine c_inb ?_
    refine c_seq ?_
    refine c_seq ?_
    refine r_start ?_
    refine xq rfl (y_load (.agg (eSign ({ s4 with Main := { s4.Main with Orient := s5.Main.Orient } })).toArray) 3 g3_4 0) ?_
    obtain ⟨v14_1, hv14_1, h⟩ := H.call h
    refine xq rfl (y_call [.agg (eSign ({ s4 with Main := { s4.Main with Orient := s5.Main.Orient } })).toArray] (.bool v14_1) func89 (fun W S => C.i_IsSign W hv14_1)) ?_
    refine p 1 ?_
    refine rend ?_
    refine c_or (!v14_1) (fun q10 => ?_) (fun q10 => ?_)
    · replace h := H.t q10 h
      refine c_seq ?_
      refine r_start ?_
      refine p 1 ?_
      refine xx rfl (x_sto 2 g0_2 0 (eSign zSign) ?_)
      refine p 1 ?_
      refine rend ?_
      replace h := H.done h
      subst h
      exact ret func50 rfl (vs := [.agg (eSign zSign).toArray, .bool false]) (.cell 2 g0_2 rfl (by kernel_rfl) (by kernel_rfl) (.tmp (by kernel_rfl) .nil)) rfl (fun W S => ⟨rfl, S.below⟩)
    replace h := H.f q10 h
    refine c_skip ?_
    refine c_seq ?_
    refine r_start ?_
    refine xq rfl (y_load (.agg (eSign ({ s4 with Main := { s4.Main with Orient := s5.Main.Orient } })).toArray) 3 g3_4 0) ?_
    obtain ⟨v16_1, hv16_1, h⟩ := H.call h
    refine xq rfl (y_call [.agg (eSign ({ s4 with Main := { s4.Main with Orient := s5.Main.Orient } })).toArray] (.agg (eSign v16_1).toArray) func118 (fun W S => C.i_Sign_normal W hv16_1)) ?_
    refine xx rfl (x_sto 2 g0_2 0 (eSign v16_1) ?_)
    refine p 1 ?_
    refine rend ?_
    replace h := H.done h
    subst h
    exact ret func50 rfl (vs := [.agg (eSign v16_1).toArray, .bool true]) (.cell 2 g0_2 rfl (by kernel_rfl) (by kernel_rfl) (.tmp (by kernel_rfl) .nil)) rfl (fun W S => ⟨rfl, S.below⟩)
  replace h := H.f q9 h
  refine c_seq ?_
  refine r_start ?_
  refine p 2 ?_
  refine rend ?_
  refine c_or (a2 == 2) (fun q11 => ?_) (fun q11 => ?_)
  · replace h := H.t q11 h
    refine r_start ?_
    refine p 2 ?_
    refine xq rfl (y_load (.agg (ePlace s5.Main.Place).toArray) 4 g3_5 8) ?_
    refine p 2 ?_
    refine xx rfl (x_sto 3 g3_4 8 (eSign ({ s4 with Main := { s4.Main with Place := s5.Main.Place } })) ?_)
    refine rend ?_
    refine c_inb ?_
    refine c_seq ?_
    refine c_seq ?_
    refine r_start ?_
    refine xq rfl (y_load (.agg (eSign ({ s4 with Main := { s4.Main with Place := s5.Main.Place } })).toArray) 3 g3_4 0) ?_
    obtain ⟨v14_1, hv14_1, h⟩ := H.call h
    refine xq rfl (y_call [.agg (eSign ({ s4 with Main := { s4.Main with Place := s5.Main.Place } })).toArray] (.bool v14_1) func89 (fun W S => C.i_IsSign W hv14_1)) ?_
    refine p 1 ?_
    refine rend ?_
    refine c_or (!v14_1) (fun q12 => ?_) (fun q12 => ?_)
    · replace h := H.t q12 h
      refine c_seq ?_
      refine r_start ?_
      refine p 1 ?_
      refine xx rfl (x_sto 2 g0_2 0 (eSign zSign) ?_)
      refine p 1 ?_
      refine rend ?_
      replace h := H.done h
      subst h
      exact ret func50 rfl (vs := [.agg (eSign zSign).toArray, .bool false]) (.cell 2 g0_2 rfl (by kernel_rfl) (by kernel_rfl) (.tmp (by kernel_rfl) .nil)) rfl (fun W S => ⟨rfl, S.below⟩)
    replace h := H.f q12 h
    refine c_skip ?_
    refine c_seq ?_
    refine r_start ?_
    refine xq rfl (y_load (.agg (eSign ({ s4 with Main := { s4.Main with Place := s5.Main.Place } })).toArray) 3 g3_4 0) ?_
    obtain ⟨v16_1, hv16_1, h⟩ := H.call h
    refine xq rfl (y_call [.agg (eSign ({ s4 with Main := { s4.Main with Place := s5.Main.Place } })).toArray] (.agg (eSign v16_1).toArray) func118 (fun W S => C.i_Sign_normal W hv16_1)) ?_
    refine xx rfl (x_sto 2 g0_2 0 (eSign v16_1) ?_)
    refine p 1 ?_
    refine rend ?_
    replace h := H.done h
    subst h
    exact ret func50 rfl (vs := [.agg (eSign v16_1).toArray, .bool true]) (.cell 2 g0_2 rfl (by kernel_rfl) (by kernel_rfl) (.tmp (by kernel_rfl) .nil)) rfl (fun W S => ⟨rfl, S.below⟩)
  replace h := H.f q11 h
  refine c_seq ?_
  refine r_start ?_
  refine p 2 ?_
  refine rend ?_
  refine c_or (a2 == 3) (fun q13 => ?_) (fun q13 => ?_)
  · replace h := H.t q13 h
    refine r_start ?_
    refine p 2 ?_
    refine xq rfl (y_load (.agg (eMove s5.Main.Move).toArray) 4 g3_5 11) ?_
    refine p 2 ?_
    refine xx rfl (x_sto 3 g3_4 11 (eSign ({ s4 with Main := { s4.Main with Move := s5.Main.Move } })) ?_)
    refine rend ?_
    refine c_inb ?_
    refine c_seq ?_
    refine c_seq ?_
    refine r_start ?_
    refine xq rfl (y_load (.agg (eSign ({ s4 with Main := { s4.Main with Move := s5.Main.Move } })).toArray) 3 g3_4 0) ?_
    obtain ⟨v14_1, hv14_1, h⟩ := H.call h
    refine xq rfl (y_call [.agg (eSign ({ s4 with Main := { s4.Main with Move := s5.Main.Move } })).toArray] (.bool v14_1) func89 (fun W S => C.i_IsSign W hv14_1)) ?_
    refine p 1 ?_
    refine rend ?_
    refine c_or (!v14_1) (fun q14 => ?_) (fun q14 => ?_)
    · replace h := H.t q14 h
      refine c_seq ?_
      refine r_start ?_
      refine p 1 ?_
      refine xx rfl (x_sto 2 g0_2 0 (eSign zSign) ?_)
      refine p 1 ?_
      refine rend ?_
      replace h := H.done h
      subst h
      exact ret func50 rfl (vs := [.agg (eSign zSign).toArray, .bool false]) (.cell 2 g0_2 rfl (by kernel_rfl) (by kernel_rfl) (.tmp (by kernel_rfl) .nil)) rfl (fun W S => ⟨rfl, S.below⟩)
    replace h := H.f q14 h
    refine c_skip ?_
    refine c_seq ?_
    refine r_start ?_
    refine xq rfl (y_load (.agg (eSign ({ s4 with Main := { s4.Main with Move := s5.Main.Move } })).toArray) 3 g3_4 0) ?_
    obtain ⟨v16_1, hv16_1, h⟩ := H.call h
    refine xq rfl (y_call [.agg (eSign ({ s4 with Main := { s4.Main with Move := s5.Main.Move } })).toArray] (.agg (eSign v16_1).toArray) func118 (fun W S => C.i_Sign_normal W hv16_1)) ?_
    refine xx rfl (x_sto 2 g0_2 0 (eSign v16_1) ?_)
    refine p 1 ?_
    refine rend ?_
    replace h := H.done h
    subst h
    exact ret func50 rfl (vs := [.agg (eSign v16_1).toArray, .bool true]) (.cell 2 g0_2 rfl (by kernel_rfl) (by kernel_rfl) (.tmp (by kernel_rfl) .nil)) rfl (fun W S => ⟨rfl, S.below⟩)
  replace h := H.f q13 h
  refine pick [0, 1, 2, 4, 3] [box g0_0 62 (eSign a0), box g0_1 62 (eSign a1), box g0_2 62 (eSign zSign), box g3_5 62 (eSign s5), box g3_4 62 (eSign s4)] ?_
  refine as_startN 8 4 8 ?_
  refine ap 0 1 ?_
  refine aq 1 rfl (y_load (.bool s5.Two) 3 g3_5 13) ?_
  refine ap 2 1 ?_
  refine aq 3 rfl (y_load (.agg (eHand s5.Other).toArray) 3 g3_5 14) ?_
  refine ap 4 1 ?_
  refine ax 5 rfl (x_sto 4 g3_4 13 (eSign ({ s4 with Two := s5.Two })) ⟨.inr (by kernel_rfl), ?_⟩)
  refine ap 6 1 ?_
  refine ax 7 rfl (x_sto 4 g3_4 14 (eSign ({ s5 with Main := s4.Main })) ⟨.inr (by kernel_rfl), ?_⟩)
  refine a_done ?_
  refine pick [0, 1, 2, 4, 3] [box g0_0 62 (eSign a0), box g0_1 62 (eSign a1), box g0_2 62 (eSign zSign), box g3_4 62 (eSign ({ s5 with Main := s4.Main })), box g3_5 62 (eSign s5)] ?_
  refine c_inb ?_
  refine c_seq ?_
  refine c_seq ?_
  refine r_start ?_
  refine xq rfl (y_load (.agg (eSign ({ s5 with Main := s4.Main })).toArray) 3 g3_4 0) ?_
  obtain ⟨v14_1, hv14_1, h⟩ := H.call h
  refine xq rfl (y_call [.agg (eSign ({ s5 with Main := s4.Main })).toArray] (.bool v14_1) func89 (fun W S => C.i_IsSign W hv14_1)) ?_
  refine p 1 ?_
  refine rend ?_
  refine c_or (!v14_1) (fun q15 => ?_) (fun q15 => ?_)
  · replace h := H.t q15 h
    refine c_seq ?_
    refine r_start ?_
    refine p 1 ?_
    refine xx rfl (x_sto 2 g0_2 0 (eSign zSign) ?_)
    refine p 1 ?_
    refine rend ?_
    replace h := H.done h
    subst h
    exact ret func50 rfl (vs := [.agg (eSign zSign).toArray, .bool false]) (.cell 2 g0_2 rfl (by kernel_rfl) (by kernel_rfl) (.tmp (by kernel_rfl) .nil)) rfl (fun W S => ⟨rfl, S.below⟩)
  replace h := H.f q15 h
  refine c_skip ?_
  refine c_seq ?_
  refine r_start ?_
  refine xq rfl (y_load (.agg (eSign ({ s5 with Main := s4.Main })).toArray) 3 g3_4 0) ?_
  obtain ⟨v16_1, hv16_1, h⟩ := H.call h
  refine xq rfl (y_call [.agg (eSign ({ s5 with Main := s4.Main })).toArray] (.agg (eSign v16_1).toArray) func118 (fun W S => C.i_Sign_normal W hv16_1)) ?_
  refine xx rfl (x_sto 2 g0_2 0 (eSign v16_1) ?_)
  refine p 1 ?_
  refine rend ?_
  replace h := H.done h
  subst h
  exact ret func50 rfl (vs := [.agg (eSign v16_1).toArray, .bool true]) (.cell 2 g0_2 rfl (by kernel_rfl) (by kernel_rfl) (.tmp (by kernel_rfl) .nil)) rfl (fun W S => ⟨rfl, S.below⟩)
theorem C.l_FnExactWithPart {fu : Nat} {a0 : Sign} {a1 : Sign} {a2 : Int} {r : Bool} (w : World) (h : X.l_FnExactWithPart fu a0 a1 a2 = some r) : Calls prog 6 #[.agg (eSign a0).toArray, .agg (eSign a1).toArray, .int .i64 a2] w (Ret w (.bool r)) := by
  refine calls (M := no) (args := [.agg (eSign a0).toArray, .agg (eSign a1).toArray, .int .i64 a2]) func6 rfl ?_
  replace h : H (X.l_FnExactWithPart fu a0 a1 a2) (fun o => o = r) := H.mk h
  unfold X.l_FnExactWithPart at h
  refine c_seq ?_
  refine r_start ?_
  refine xx rfl (x_box (eSign a0) fun g0_0 => ?_)
  refine xx rfl (x_box (eSign a1) fun g0_1 => ?_)
  refine p 1 ?_
  refine rend ?_
  refine c_seq ?_
  refine r_start ?_
  refine p 1 ?_
  refine rend ?_
  refine c_seq ?_
  refine r_start ?_
  refine xq rfl (y_load (.agg (eSign a0).toArray) 0 g0_0 0) ?_
  refine p 1 ?_
  obtain ⟨v2_2, hv2_2, h⟩ := H.call h
  refine xq rfl (y_call [.agg (eSign a0).toArray, .int .i64 1048576] (.int .i64 v2_2) func24 (fun W S => C.l_szSign W hv2_2)) ?_
  refine p 1 ?_
  refine rend ?_
  refine c_seq ?_
  refine c_seq ?_
  refine r_start ?_
  refine p 2 ?_
  refine rend ?_
  refine c_or (decide (v2_2 < 0)) (fun q1 => ?_) (fun q1 => ?_)
  · replace h := H.t q1 h
    refine c_seq ?_
    refine r_start ?_
    refine p 1 ?_
    refine rend ?_
    replace h := H.done h
    subst h
    exact ret func6 rfl (vs := [.bool true]) (.tmp (by kernel_rfl) .nil) rfl (fun W S => ⟨rfl, S.below⟩)
  replace h := H.f q1 h
  refine c_skip ?_
  refine c_seq ?_
  refine r_start ?_
  refine xq rfl (y_load (.agg (eSign a1).toArray) 1 g0_1 0) ?_
  refine p 1 ?_
  obtain ⟨v5_2, hv5_2, h⟩ := H.call h
  refine xq rfl (y_call [.agg (eSign a1).toArray, .int .i64 v2_2] (.int .i64 v5_2) func24 (fun W S => C.l_szSign W hv5_2)) ?_
  refine p 1 ?_
  refine rend ?_
  refine c_seq ?_
  refine c_seq ?_
  refine r_start ?_
  refine p 2 ?_
  refine rend ?_
  refine c_or (decide (v5_2 < 0)) (fun q2 => ?_) (fun q2 => ?_)
  · replace h := H.t q2 h
    refine c_seq ?_
    refine r_start ?_
    refine p 1 ?_
    refine rend ?_
    replace h := H.done h
    subst h
    exact ret func6 rfl (vs := [.bool true]) (.tmp (by kernel_rfl) .nil) rfl (fun W S => ⟨rfl, S.below⟩)
  replace h := H.f q2 h
  refine c_skip ?_
  refine c_seq ?_
  refine as_start 12 12 ?_
  refine aq 0 rfl (y_load (.agg (eSign a0).toArray) 0 g0_0 0) ?_
  obtain ⟨v8_1, hv8_1, h⟩ := H.call h
  refine aq 1 rfl (y_call [.agg (eSign a0).toArray] (.agg (eSign v8_1).toArray) func27 (fun W S => C.l_toSign W hv8_1)) ?_
  refine aq 2 rfl (y_load (.agg (eSign a1).toArray) 1 g0_1 0) ?_
  obtain ⟨v8_3, hv8_3, h⟩ := H.call h
  refine aq 3 rfl (y_call [.agg (eSign a1).toArray] (.agg (eSign v8_3).toArray) func27 (fun W S => C.l_toSign W hv8_3)) ?_
  refine ap 4 1 ?_
  obtain ⟨v8_5, hv8_5, h⟩ := H.call h
  refine aq 5 rfl (y_call [.agg (eSign v8_1).toArray, .agg (eSign v8_3).toArray, .int .i64 a2] (.tuple #[.agg (eSign v8_5.1).toArray, .bool v8_5.2]) func49 (fun W S => C.s_WithPart W hv8_5)) ?_
  refine ap 6 3 ?_
  refine ax 9 rfl (x_new (eSign zSign) fun g8_9 => ⟨.inr (by kernel_rfl), ?_⟩)
  refine ax 10 rfl (x_sto 2 g8_9 0 (eSign v8_5.1) ⟨.inr (by kernel_rfl), ?_⟩)
  refine ap 11 1 ?_
  refine a_done ?_
  refine c_seq ?_
  refine as_start 12 12 ?_
  refine aq 0 rfl (y_load (.agg (eSign a0).toArray) 0 g0_0 0) ?_
  obtain ⟨v9_1, hv9_1, h⟩ := H.call h
  refine aq 1 rfl (y_call [.agg (eSign a0).toArray] (.agg (eSign v9_1).toArray) func27 (fun W S => C.l_toSign W hv9_1)) ?_
  refine aq 2 rfl (y_load (.agg (eSign a1).toArray) 1 g0_1 0) ?_
  obtain ⟨v9_3, hv9_3, h⟩ := H.call h
  refine aq 3 rfl (y_call [.agg (eSign a1).toArray] (.agg (eSign v9_3).toArray) func27 (fun W S => C.l_toSign W hv9_3)) ?_
  refine ap 4 1 ?_
  obtain ⟨v9_5, hv9_5, h⟩ := H.call h
  refine aq 5 rfl (y_call [.agg (eSign v9_1).toArray, .agg (eSign v9_3).toArray, .int .i64 a2] (.tuple #[.agg (eSign v9_5.1).toArray, .bool v9_5.2]) func50 (fun W S => C.i_WithPart W hv9_5)) ?_
  refine ap 6 3 ?_
  refine ax 9 rfl (x_new (eSign zSign) fun g9_9 => ⟨.inr (by kernel_rfl), ?_⟩)
  refine ax 10 rfl (x_sto 3 g9_9 0 (eSign v9_5.1) ⟨.inr (by kernel_rfl), ?_⟩)
  refine ap 11 1 ?_
  refine a_done ?_
  refine c_seq ?_
  refine c_seq ?_
  refine r_start ?_
  refine xq rfl (y_load (.agg (eSign v9_5.1).toArray) 3 g9_9 0) ?_
  refine xq rfl (y_load (.agg (eSign v8_5.1).toArray) 2 g8_9 0) ?_
  obtain ⟨v10_2, hv10_2, h⟩ := H.call h
  refine xq rfl (y_call [.agg (eSign v9_5.1).toArray, .agg (eSign v8_5.1).toArray] (.bool v10_2) func51 (fun W S => C.l_eqSign W hv10_2)) ?_
  refine p 2 ?_
  refine br (!v10_2) (fun q3 => ?_) (fun q3 => ?_)
  · replace h := H.t q3 h
    refine o_set 44 (congrArg Value.bool q3) ?_
    refine p 4 ?_
    refine rend ?_
    refine c_t (by kernel_rfl) ?_
    refine c_seq ?_
    refine r_start ?_
    refine p 1 ?_
    refine rend ?_
    replace h := H.done h
    subst h
    exact ret func6 rfl (vs := [.bool false]) (.tmp (by kernel_rfl) .nil) rfl (fun W S => ⟨rfl, S.below⟩)
  replace h := H.f q3 h
  refine o_set 44 (congrArg Value.bool q3) ?_
  refine p 4 ?_
  refine rend ?_
  refine c_or (!(v9_5.2 == v8_5.2)) (fun q4 => ?_) (fun q4 => ?_)
  · replace h := H.t q4 h
    refine c_seq ?_
    refine r_start ?_
    refine p 1 ?_
    refine rend ?_
    replace h := H.done h
    subst h
    exact ret func6 rfl (vs := [.bool false]) (.tmp (by kernel_rfl) .nil) rfl (fun W S => ⟨rfl, S.below⟩)
  replace h := H.f q4 h
  refine c_skip ?_
  refine c_seq ?_
  refine r_start ?_
  refine p 1 ?_
  refine rend ?_
  replace h := H.done h
  subst h
  exact ret func6 rfl (vs := [.bool true]) (.tmp (by kernel_rfl) .nil) rfl (fun W S => ⟨rfl, S.below⟩)
end Go.Proofs.XC
