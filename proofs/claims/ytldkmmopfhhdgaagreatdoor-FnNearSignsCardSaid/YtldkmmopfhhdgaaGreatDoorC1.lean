/- Contracts: each function of the given program, called where its plain function gives an answer, returns just that answer and changes nothing that was there. By AI agents; no person has read it. -/
import Derived.Test.YtldkmmopfhhdgaaGreatDoorC0
set_option linter.unusedVariables false
set_option linter.unusedSimpArgs false
set_option maxRecDepth 100000
set_option maxHeartbeats 40000000
namespace Go.Proofs.XC
open Go Go.RowKit
open Tryz
theorem C.slices_Contains_i_Shape_i_Shape {a0 : (List Shape)} {A0 : Option Addr} {k0 : Nat} {a1 : Shape} {r : Bool} (w : World) (h : X.slices_Contains_i_Shape_i_Shape a0 a1 = some r) (h0 : RdT nShape w (.slice A0 (List.length a0) k0) a0) : Calls prog 164 #[.slice A0 (List.length a0) k0, .agg (eShape a1).toArray] w (Ret w (.bool r)) := by
  refine calls (M := no) (args := [.slice A0 (List.length a0) k0, .agg (eShape a1).toArray]) func164 rfl ?_
  replace h : H (X.slices_Contains_i_Shape_i_Shape a0 a1) (fun o => o = r) := H.mk h
  unfold X.slices_Contains_i_Shape_i_Shape at h
  refine c_seq ?_
  refine r_start ?_
  refine xx rfl (x_box (eShape a1) fun g0_0 => ?_)
  refine p 1 ?_
  refine rend ?_
  refine c_seq ?_
  refine r_start ?_
  refine p 1 ?_
  refine xq rfl (y_load (.agg (eShape a1).toArray) 0 g0_0 0) ?_
  obtain ⟨v1_2, hv1_2, h⟩ := H.call h
  refine xq rfl (y_call [.slice A0 (List.length a0) k0, .agg (eShape a1).toArray] (.int .i64 v1_2) func211 (fun W S => C.slices_Index_i_Shape_i_Shape W hv1_2 ((s_arg h0).out W S))) ?_
  refine p 2 ?_
  refine rend ?_
  replace h := H.done h
  subst h
  exact ret func164 rfl (vs := [.bool (decide (v1_2 ≥ 0))]) (.tmp (by kernel_rfl) .nil) rfl (fun W S => ⟨rfl, S.below⟩)
theorem C.i_keepRules {fu : Nat} {a0 : Hand} {a1 : Hand} {r : Bool} (w : World) (h : X.i_keepRules fu a0 a1 = some r) : Calls prog 92 #[.agg (eHand a0).toArray, .agg (eHand a1).toArray] w (Ret w (.bool r)) := by
  refine calls (M := no) (args := [.agg (eHand a0).toArray, .agg (eHand a1).toArray]) func92 rfl ?_
  replace h : H (X.i_keepRules fu a0 a1) (fun o => o = r) := H.mk h
  unfold X.i_keepRules at h
  refine c_seq ?_
  refine r_start ?_
  refine xx rfl (x_box (eHand a0) fun g0_0 => ?_)
  refine xx rfl (x_box (eHand a1) fun g0_1 => ?_)
  refine p 1 ?_
  refine rend ?_
  refine c_seq ?_
  refine c_seq ?_
  refine r_start ?_
  refine xq rfl (y_load (.agg (eHand a1).toArray) 1 g0_1 0) ?_
  obtain ⟨v1_1, hv1_1, h⟩ := H.call h
  refine xq rfl (y_call [.agg (eHand a1).toArray] (.bool v1_1) func93 (fun W S => C.i_Hand_moves W hv1_1)) ?_
  refine p 1 ?_
  refine rend ?_
  refine c_or (!v1_1) (fun q1 => ?_) (fun q1 => ?_)
  · replace h := H.t q1 h
    refine c_seq ?_
    refine as_start 12 12 ?_
    refine ap 0 1 ?_
    refine aq 1 rfl (y_load (.agg (eShape a1.Shape).toArray) 1 g0_1 0) ?_
    refine ap 2 1 ?_
    refine aq 3 rfl (y_load (.agg (eShape a0.Shape).toArray) 0 g0_0 0) ?_
    refine ap 4 2 ?_
    refine br (qShape a1.Shape a0.Shape) (fun q2 => ?_) (fun q2 => ?_)
    · replace h := H.t q2 h
      refine a_set 15 (congrArg Value.bool q2) ?_
      refine ap 6 6 ?_
      refine a_done ?_
      replace h := H.done h
      subst h
      exact ret func92 rfl (vs := [.bool true]) (.tmp (by kernel_rfl) .nil) rfl (fun W S => ⟨rfl, S.below⟩)
    replace h := H.f q2 h
    refine a_set 15 (congrArg Value.bool q2) ?_
    refine ap 7 1 ?_
    refine aq 8 rfl (y_load (.agg (eShape a1.Shape).toArray) 1 g0_1 0) ?_
    obtain ⟨v2_6, hv2_6, h⟩ := H.call h
    refine ax 6 rfl (e_cr [] (fun v => v) func32 (fun W S => C.i_PlainShapes W hv2_6) fun A2_6 k2_6 => ⟨.inr (by kernel_rfl), ?_⟩)
    obtain ⟨v2_9, hv2_9, h⟩ := H.call h
    refine ax 9 rfl (e_y (y_call [.slice A2_6 (List.length v2_6) k2_6, .agg (eShape a1.Shape).toArray] (.bool v2_9) func164 (fun W S => C.slices_Contains_i_Shape_i_Shape W hv2_9 ((s_own 2).out W S))) ⟨.inr (by kernel_rfl), ?_⟩)
    refine ap 10 2 ?_
    refine a_done ?_
    replace h := H.done h
    subst h
    exact ret func92 rfl (vs := [.bool v2_9]) (.tmp (by kernel_rfl) .nil) rfl (fun W S => ⟨rfl, S.below⟩)
  replace h := H.f q1 h
  refine c_skip ?_
  refine c_seq ?_
  refine as_start 14 14 ?_
  refine ap 0 1 ?_
  refine aq 1 rfl (y_load (.agg (eOrient a1.Orient).toArray) 1 g0_1 6) ?_
  refine ap 2 1 ?_
  refine aq 3 rfl (y_load (.agg (eOrient a0.Orient).toArray) 0 g0_0 6) ?_
  refine ap 4 2 ?_
  refine br (qOrient a1.Orient a0.Orient) (fun q3 => ?_) (fun q3 => ?_)
  · replace h := H.t q3 h
    refine a_set 26 (congrArg Value.bool q3) ?_
    refine ap 6 8 ?_
    refine a_done ?_
    refine c_seq ?_
    refine as_start 18 18 ?_
    refine ap 0 1 ?_
    refine aq 1 rfl (y_load (.agg (eMove a1.Move).toArray) 1 g0_1 11) ?_
    obtain ⟨v4_2, hv4_2, h⟩ := H.call h
    refine aq 2 rfl (y_call [.agg (eMove a1.Move).toArray] (.string (bs v4_2)) func107 (fun W S => C.i_Move_all W hv4_2)) ?_
    refine ap 3 1 ?_
    refine aq 4 rfl (y_load (.agg (eMove a0.Move).toArray) 0 g0_0 11) ?_
    obtain ⟨v4_5, hv4_5, h⟩ := H.call h
    refine aq 5 rfl (y_call [.agg (eMove a0.Move).toArray] (.string (bs v4_5)) func107 (fun W S => C.i_Move_all W hv4_5)) ?_
    refine ap 6 2 ?_
    refine br (seq v4_2 v4_5) (fun q4 => ?_) (fun q4 => ?_)
    · replace h := H.t q4 h
      refine a_set 41 (congrArg Value.bool q4) ?_
      refine ap 8 10 ?_
      refine a_done ?_
      refine c_seq ?_
      refine r_start ?_
      refine xq rfl (y_load (.agg (eHand a0).toArray) 0 g0_0 0) ?_
      obtain ⟨v5_1, hv5_1, h⟩ := H.call h
      refine xq rfl (y_call [.agg (eHand a0).toArray] (.bool v5_1) func93 (fun W S => C.i_Hand_moves W hv5_1)) ?_
      refine p 1 ?_
      refine br v5_1 (fun q5 => ?_) (fun q5 => ?_)
      · replace h := H.t q5 h
        refine o_set 53 (congrArg Value.bool q5) ?_
        refine p 1 ?_
        refine xq rfl (y_load (.agg (eShape a0.Shape).toArray) 0 g0_0 0) ?_
        refine p 1 ?_
        refine xq rfl (y_load (.agg (eShape a1.Shape).toArray) 1 g0_1 0) ?_
        refine p 3 ?_
        refine br (qShape a0.Shape a1.Shape) (fun q6 => ?_) (fun q6 => ?_)
        · replace h := H.t q6 h
          refine o_set 60 (congrArg Value.bool q6) ?_
          refine p 6 ?_
          refine rend ?_
          replace h := H.done h
          subst h
          exact ret func92 rfl (vs := [.bool true]) (.tmp (by kernel_rfl) .nil) rfl (fun W S => ⟨rfl, S.below⟩)
        replace h := H.f q6 h
        refine o_set 60 (congrArg Value.bool q6) ?_
        refine p 6 ?_
        refine rend ?_
        replace h := H.done h
        subst h
        exact ret func92 rfl (vs := [.bool false]) (.tmp (by kernel_rfl) .nil) rfl (fun W S => ⟨rfl, S.below⟩)
      replace h := H.f q5 h
      refine o_set 53 (congrArg Value.bool q5) ?_
      refine p 13 ?_
      refine rend ?_
      replace h := H.done h
      subst h
      exact ret func92 rfl (vs := [.bool false]) (.tmp (by kernel_rfl) .nil) rfl (fun W S => ⟨rfl, S.below⟩)
    replace h := H.f q4 h
    refine a_set 41 (congrArg Value.bool q4) ?_
    refine ap 8 1 ?_
    refine aq 9 rfl (y_load (.agg (eMove a1.Move).toArray) 1 g0_1 11) ?_
    obtain ⟨v4_10, hv4_10, h⟩ := H.call h
    refine aq 10 rfl (y_call [.agg (eMove a1.Move).toArray] (.string (bs v4_10)) func107 (fun W S => C.i_Move_all W hv4_10)) ?_
    refine ap 11 1 ?_
    refine aq 12 rfl (y_load (.agg (eMove a0.Move).toArray) 0 g0_0 11) ?_
    obtain ⟨v4_13, hv4_13, h⟩ := H.call h
    refine aq 13 rfl (y_call [.agg (eMove a0.Move).toArray] (.agg (eMove v4_13).toArray) func165 (fun W S => C.i_Move_mirrored W hv4_13)) ?_
    obtain ⟨v4_14, hv4_14, h⟩ := H.call h
    refine aq 14 rfl (y_call [.agg (eMove v4_13).toArray] (.string (bs v4_14)) func107 (fun W S => C.i_Move_all W hv4_14)) ?_
    refine ap 15 3 ?_
    refine a_done ?_
    refine c_seq ?_
    refine r_start ?_
    refine xq rfl (y_load (.agg (eHand a0).toArray) 0 g0_0 0) ?_
    obtain ⟨v5_1, hv5_1, h⟩ := H.call h
    refine xq rfl (y_call [.agg (eHand a0).toArray] (.bool v5_1) func93 (fun W S => C.i_Hand_moves W hv5_1)) ?_
    refine p 1 ?_
    refine br v5_1 (fun q7 => ?_) (fun q7 => ?_)
    · replace h := H.t q7 h
      refine o_set 53 (congrArg Value.bool q7) ?_
      refine p 1 ?_
      refine xq rfl (y_load (.agg (eShape a0.Shape).toArray) 0 g0_0 0) ?_
      refine p 1 ?_
      refine xq rfl (y_load (.agg (eShape a1.Shape).toArray) 1 g0_1 0) ?_
      refine p 3 ?_
      refine br (qShape a0.Shape a1.Shape) (fun q8 => ?_) (fun q8 => ?_)
      · replace h := H.t q8 h
        refine o_set 60 (congrArg Value.bool q8) ?_
        refine p 6 ?_
        refine rend ?_
        replace h := H.done h
        subst h
        exact ret func92 rfl (vs := [.bool (seq v4_10 v4_14)]) (.tmp (by kernel_rfl) .nil) rfl (fun W S => ⟨rfl, S.below⟩)
      replace h := H.f q8 h
      refine o_set 60 (congrArg Value.bool q8) ?_
      refine p 6 ?_
      refine rend ?_
      replace h := H.done h
      subst h
      exact ret func92 rfl (vs := [.bool false]) (.tmp (by kernel_rfl) .nil) rfl (fun W S => ⟨rfl, S.below⟩)
    replace h := H.f q7 h
    refine o_set 53 (congrArg Value.bool q7) ?_
    refine p 13 ?_
    refine rend ?_
    replace h := H.done h
    subst h
    exact ret func92 rfl (vs := [.bool false]) (.tmp (by kernel_rfl) .nil) rfl (fun W S => ⟨rfl, S.below⟩)
  replace h := H.f q3 h
  refine a_set 26 (congrArg Value.bool q3) ?_
  refine ap 6 1 ?_
  refine aq 7 rfl (y_load (.agg (eOrient a1.Orient).toArray) 1 g0_1 6) ?_
  refine ap 8 1 ?_
  refine aq 9 rfl (y_load (.agg (eOrient a0.Orient).toArray) 0 g0_0 6) ?_
  obtain ⟨v3_10, hv3_10, h⟩ := H.call h
  refine aq 10 rfl (y_call [.agg (eOrient a0.Orient).toArray] (.agg (eOrient v3_10).toArray) func94 (fun W S => C.i_Orient_mirrored W hv3_10)) ?_
  refine ap 11 3 ?_
  refine a_done ?_
  refine c_seq ?_
  refine as_start 18 18 ?_
  refine ap 0 1 ?_
  refine aq 1 rfl (y_load (.agg (eMove a1.Move).toArray) 1 g0_1 11) ?_
  obtain ⟨v4_2, hv4_2, h⟩ := H.call h
  refine aq 2 rfl (y_call [.agg (eMove a1.Move).toArray] (.string (bs v4_2)) func107 (fun W S => C.i_Move_all W hv4_2)) ?_
  refine ap 3 1 ?_
  refine aq 4 rfl (y_load (.agg (eMove a0.Move).toArray) 0 g0_0 11) ?_
  obtain ⟨v4_5, hv4_5, h⟩ := H.call h
  refine aq 5 rfl (y_call [.agg (eMove a0.Move).toArray] (.string (bs v4_5)) func107 (fun W S => C.i_Move_all W hv4_5)) ?_
  refine ap 6 2 ?_
  refine br (seq v4_2 v4_5) (fun q9 => ?_) (fun q9 => ?_)
  · replace h := H.t q9 h
    refine a_set 41 (congrArg Value.bool q9) ?_
    refine ap 8 10 ?_
    refine a_done ?_
    refine c_seq ?_
    refine r_start ?_
    refine xq rfl (y_load (.agg (eHand a0).toArray) 0 g0_0 0) ?_
    obtain ⟨v5_1, hv5_1, h⟩ := H.call h
    refine xq rfl (y_call [.agg (eHand a0).toArray] (.bool v5_1) func93 (fun W S => C.i_Hand_moves W hv5_1)) ?_
    refine p 1 ?_
    refine br v5_1 (fun q10 => ?_) (fun q10 => ?_)
    · replace h := H.t q10 h
      refine o_set 53 (congrArg Value.bool q10) ?_
      refine p 1 ?_
      refine xq rfl (y_load (.agg (eShape a0.Shape).toArray) 0 g0_0 0) ?_
      refine p 1 ?_
      refine xq rfl (y_load (.agg (eShape a1.Shape).toArray) 1 g0_1 0) ?_
      refine p 3 ?_
      refine br (qShape a0.Shape a1.Shape) (fun q11 => ?_) (fun q11 => ?_)
      · replace h := H.t q11 h
        refine o_set 60 (congrArg Value.bool q11) ?_
        refine p 3 ?_
        refine br (qOrient a1.Orient v3_10) (fun q12 => ?_) (fun q12 => ?_)
        · replace h := H.t q12 h
          refine o_set 63 (congrArg Value.bool q12) ?_
          refine p 3 ?_
          refine rend ?_
          replace h := H.done h
          subst h
          exact ret func92 rfl (vs := [.bool true]) (.tmp (by kernel_rfl) .nil) rfl (fun W S => ⟨rfl, S.below⟩)
        replace h := H.f q12 h
        refine o_set 63 (congrArg Value.bool q12) ?_
        refine p 3 ?_
        refine rend ?_
        replace h := H.done h
        subst h
        exact ret func92 rfl (vs := [.bool false]) (.tmp (by kernel_rfl) .nil) rfl (fun W S => ⟨rfl, S.below⟩)
      replace h := H.f q11 h
      refine o_set 60 (congrArg Value.bool q11) ?_
      refine p 6 ?_
      refine rend ?_
      replace h := H.done h
      subst h
      exact ret func92 rfl (vs := [.bool false]) (.tmp (by kernel_rfl) .nil) rfl (fun W S => ⟨rfl, S.below⟩)
    replace h := H.f q10 h
    refine o_set 53 (congrArg Value.bool q10) ?_
    refine p 13 ?_
    refine rend ?_
    replace h := H.done h
    subst h
    exact ret func92 rfl (vs := [.bool false]) (.tmp (by kernel_rfl) .nil) rfl (fun W S => ⟨rfl, S.below⟩)
  replace h := H.f q9 h
  refine a_set 41 (congrArg Value.bool q9) ?_
  refine ap 8 1 ?_
  refine aq 9 rfl (y_load (.agg (eMove a1.Move).toArray) 1 g0_1 11) ?_
  obtain ⟨v4_10, hv4_10, h⟩ := H.call h
  refine aq 10 rfl (y_call [.agg (eMove a1.Move).toArray] (.string (bs v4_10)) func107 (fun W S => C.i_Move_all W hv4_10)) ?_
  refine ap 11 1 ?_
  refine aq 12 rfl (y_load (.agg (eMove a0.Move).toArray) 0 g0_0 11) ?_
  obtain ⟨v4_13, hv4_13, h⟩ := H.call h
  refine aq 13 rfl (y_call [.agg (eMove a0.Move).toArray] (.agg (eMove v4_13).toArray) func165 (fun W S => C.i_Move_mirrored W hv4_13)) ?_
  obtain ⟨v4_14, hv4_14, h⟩ := H.call h
  refine aq 14 rfl (y_call [.agg (eMove v4_13).toArray] (.string (bs v4_14)) func107 (fun W S => C.i_Move_all W hv4_14)) ?_
  refine ap 15 3 ?_
  refine a_done ?_
  refine c_seq ?_
  refine r_start ?_
  refine xq rfl (y_load (.agg (eHand a0).toArray) 0 g0_0 0) ?_
  obtain ⟨v5_1, hv5_1, h⟩ := H.call h
  refine xq rfl (y_call [.agg (eHand a0).toArray] (.bool v5_1) func93 (fun W S => C.i_Hand_moves W hv5_1)) ?_
  refine p 1 ?_
  refine br v5_1 (fun q13 => ?_) (fun q13 => ?_)
  · replace h := H.t q13 h
    refine o_set 53 (congrArg Value.bool q13) ?_
    refine p 1 ?_
    refine xq rfl (y_load (.agg (eShape a0.Shape).toArray) 0 g0_0 0) ?_
    refine p 1 ?_
    refine xq rfl (y_load (.agg (eShape a1.Shape).toArray) 1 g0_1 0) ?_
    refine p 3 ?_
    refine br (qShape a0.Shape a1.Shape) (fun q14 => ?_) (fun q14 => ?_)
    · replace h := H.t q14 h
      refine o_set 60 (congrArg Value.bool q14) ?_
      refine p 3 ?_
      refine br (qOrient a1.Orient v3_10) (fun q15 => ?_) (fun q15 => ?_)
      · replace h := H.t q15 h
        refine o_set 63 (congrArg Value.bool q15) ?_
        refine p 3 ?_
        refine rend ?_
        replace h := H.done h
        subst h
        exact ret func92 rfl (vs := [.bool (seq v4_10 v4_14)]) (.tmp (by kernel_rfl) .nil) rfl (fun W S => ⟨rfl, S.below⟩)
      replace h := H.f q15 h
      refine o_set 63 (congrArg Value.bool q15) ?_
      refine p 3 ?_
      refine rend ?_
      replace h := H.done h
      subst h
      exact ret func92 rfl (vs := [.bool false]) (.tmp (by kernel_rfl) .nil) rfl (fun W S => ⟨rfl, S.below⟩)
    replace h := H.f q14 h
    refine o_set 60 (congrArg Value.bool q14) ?_
    refine p 6 ?_
    refine rend ?_
    replace h := H.done h
    subst h
    exact ret func92 rfl (vs := [.bool false]) (.tmp (by kernel_rfl) .nil) rfl (fun W S => ⟨rfl, S.below⟩)
  replace h := H.f q13 h
  refine o_set 53 (congrArg Value.bool q13) ?_
  refine p 13 ?_
  refine rend ?_
  replace h := H.done h
  subst h
  exact ret func92 rfl (vs := [.bool false]) (.tmp (by kernel_rfl) .nil) rfl (fun W S => ⟨rfl, S.below⟩)
theorem C.i_IsSign {fu : Nat} {a0 : Sign} {r : Bool} (w : World) (h : X.i_IsSign fu a0 = some r) : Calls prog 19 #[.agg (eSign a0).toArray] w (Ret w (.bool r)) := by
  refine calls (M := no) (args := [.agg (eSign a0).toArray]) func19 rfl ?_
  replace h : H (X.i_IsSign fu a0) (fun o => o = r) := H.mk h
  unfold X.i_IsSign at h
  refine c_seq ?_
  refine r_start ?_
  refine xx rfl (x_box (eSign a0) fun g0_0 => ?_)
  refine p 1 ?_
  refine rend ?_
  refine c_seq ?_
  refine c_seq ?_
  refine r_start ?_
  refine p 1 ?_
  refine xq rfl (y_load (.agg (eHand a0.Main).toArray) 0 g0_0 0) ?_
  obtain ⟨v1_2, hv1_2, h⟩ := H.call h
  refine xq rfl (y_call [.agg (eHand a0.Main).toArray] (.bool v1_2) func14 (fun W S => C.i_IsHand W hv1_2)) ?_
  refine p 1 ?_
  refine rend ?_
  refine c_or (!v1_2) (fun q1 => ?_) (fun q1 => ?_)
  · replace h := H.t q1 h
    refine c_seq ?_
    refine r_start ?_
    refine p 1 ?_
    refine rend ?_
    replace h := H.done h
    subst h
    exact ret func19 rfl (vs := [.bool false]) (.tmp (by kernel_rfl) .nil) rfl (fun W S => ⟨rfl, S.below⟩)
  replace h := H.f q1 h
  refine c_skip ?_
  refine c_seq ?_
  refine c_seq ?_
  refine r_start ?_
  refine p 1 ?_
  refine xq rfl (y_load (.bool a0.Two) 0 g0_0 13) ?_
  refine p 1 ?_
  refine rend ?_
  refine c_or (!a0.Two) (fun q2 => ?_) (fun q2 => ?_)
  · replace h := H.t q2 h
    refine c_seq ?_
    refine r_start ?_
    refine p 1 ?_
    refine xq rfl (y_load (.agg (eHand a0.Other).toArray) 0 g0_0 14) ?_
    refine p 3 ?_
    refine rend ?_
    replace h := H.done h
    subst h
    exact ret func19 rfl (vs := [.bool (qHand a0.Other zHand)]) (.tmp (by kernel_rfl) .nil) rfl (fun W S => ⟨rfl, S.below⟩)
  replace h := H.f q2 h
  refine c_skip ?_
  refine c_seq ?_
  refine r_start ?_
  refine p 1 ?_
  refine xq rfl (y_load (.agg (eHand a0.Other).toArray) 0 g0_0 14) ?_
  obtain ⟨v5_2, hv5_2, h⟩ := H.call h
  refine xq rfl (y_call [.agg (eHand a0.Other).toArray] (.bool v5_2) func14 (fun W S => C.i_IsHand W hv5_2)) ?_
  refine p 1 ?_
  refine br v5_2 (fun q3 => ?_) (fun q3 => ?_)
  · replace h := H.t q3 h
    refine o_set 17 (congrArg Value.bool q3) ?_
    refine p 1 ?_
    refine xq rfl (y_load (.agg (eHand a0.Main).toArray) 0 g0_0 0) ?_
    refine p 1 ?_
    refine xq rfl (y_load (.agg (eHand a0.Other).toArray) 0 g0_0 14) ?_
    obtain ⟨v5_8, hv5_8, h⟩ := H.call h
    refine xq rfl (y_call [.agg (eHand a0.Main).toArray, .agg (eHand a0.Other).toArray] (.bool v5_8) func92 (fun W S => C.i_keepRules W hv5_8)) ?_
    refine p 2 ?_
    refine rend ?_
    replace h := H.done h
    subst h
    exact ret func19 rfl (vs := [.bool v5_8]) (.tmp (by kernel_rfl) .nil) rfl (fun W S => ⟨rfl, S.below⟩)
  replace h := H.f q3 h
  refine o_set 17 (congrArg Value.bool q3) ?_
  refine p 7 ?_
  refine rend ?_
  replace h := H.done h
  subst h
  exact ret func19 rfl (vs := [.bool false]) (.tmp (by kernel_rfl) .nil) rfl (fun W S => ⟨rfl, S.below⟩)
theorem C.s_mvLetters {r : Str} (w : World) (h : X.s_mvLetters = some r) : Calls prog 251 #[] w (Ret w (.string (bs r))) := by
  refine calls (M := no) (args := []) func251 rfl ?_
  replace h : H (X.s_mvLetters) (fun o => o = r) := H.mk h
  unfold X.s_mvLetters at h
  refine c_seq ?_
  refine r_start ?_
  refine p 1 ?_
  refine rend ?_
  refine c_seq ?_
  refine r_start ?_
  refine p 1 ?_
  refine rend ?_
  replace h := H.done h
  subst h
  exact ret func251 rfl (vs := [.string (bs ([117, 100, 108, 114, 102, 98] : Str))]) (.tmp (by kernel_rfl) .nil) rfl (fun W S => ⟨rfl, S.below⟩)
theorem C.s_mvIndex {fu : Nat} {a0 : Int} {r : Int} (w : World) (h : X.s_mvIndex fu a0 = some r) : Calls prog 235 #[.int .u8 a0] w (Ret w (.int .i64 r)) := by
  refine calls (M := no) (args := [.int .u8 a0]) func235 rfl ?_
  replace h : H (X.s_mvIndex fu a0) (fun o => o = r) := H.mk h
  unfold X.s_mvIndex at h
  refine c_seq ?_
  refine r_start ?_
  refine p 1 ?_
  refine rend ?_
  refine c_seq ?_
  refine c_seq ?_
  refine r_start ?_
  refine p 1 ?_
  refine rend ?_
  refine c_block ?_
  refine joinE (X := Unit) 0 (H.or h) (fun (x : Unit) => x) (fun _ => []) (fun _ u => (jk u 0 16 [])) (fun h hj2 => ?_) ?_
  · skip
    refine loopR (X := Int) (fun (x : Int) => x) (fun n1 => []) (fun n1 u => (.int .u8 a0 :: (jk u 1 2 (.int .i64 n1 :: (jk u 4 12 []))))) 0 h (by kernel_rfl) (by kernel_rfl) ?_
    intro n1 u h
    refine c_seq ?_
    refine c_seq ?_
    refine r_start ?_
    refine p 1 ?_
    obtain ⟨v2_1, hv2_1, h⟩ := H.call h
    refine xq rfl (y_call [] (.string (bs v2_1)) func251 (fun W S => C.s_mvLetters W hv2_1)) ?_
    refine p 2 ?_
    refine rend ?_
    refine c_or (decide (n1 < (List.length v2_1 : Int))) (fun q3 => ?_) (fun q3 => ?_)
    · replace h := H.t q3 h
      refine c_skip ?_
      refine c_seq ?_
      refine c_block ?_
      refine c_seq ?_
      refine r_start ?_
      obtain ⟨v4_0, hv4_0, h⟩ := H.call h
      refine xq rfl (y_call [] (.string (bs v4_0)) func251 (fun W S => C.s_mvLetters W hv4_0)) ?_
      refine p 1 ?_
      obtain ⟨y4_2, hy4_2, h⟩ := H.call h
      refine xq rfl (y_byte hy4_2) ?_
      refine p 2 ?_
      refine rend ?_
      refine c_or (y4_2 == a0) (fun q4 => ?_) (fun q4 => ?_)
      · replace h := H.t q4 h
        refine c_seq ?_
        refine r_start ?_
        refine p 2 ?_
        refine rend ?_
        replace h := H.inr h
        replace h := H.done h
        subst h
        exact ret func235 rfl (vs := [.int .i64 n1]) (.tmp (by kernel_rfl) .nil) rfl (fun W S => ⟨rfl, S.below⟩)
      replace h := H.f q4 h
      refine c_skip ?_
      refine c_inb ?_
      refine r_start ?_
      refine p 3 ?_
      refine rend ?_
      replace h := H.inl h
      exact h (wr (n1 + 1)) _ _ rfl (by kernel_rfl) (by kernel_rfl)
    replace h := H.f q3 h
    refine cx ?_
    replace h := H.inr h
    exact hj2 () _ _ h (by kernel_rfl) (by kernel_rfl)
  intro x u h
  refine c_seq ?_
  refine r_start ?_
  refine p 1 ?_
  refine rend ?_
  replace h := H.done h
  subst h
  exact ret func235 rfl (vs := [.int .i64 (-1)]) (.tmp (by kernel_rfl) .nil) rfl (fun W S => ⟨rfl, S.below⟩)
theorem C.s_mvSteps {fu : Nat} {a0 : Str} {r : Bool} (w : World) (h : X.s_mvSteps fu a0 = some r) : Calls prog 201 #[.string (bs a0)] w (Ret w (.bool r)) := by
  refine calls (M := no) (args := [.string (bs a0)]) func201 rfl ?_
  replace h : H (X.s_mvSteps fu a0) (fun o => o = r) := H.mk h
  unfold X.s_mvSteps at h
  refine c_seq ?_
  refine r_start ?_
  refine p 1 ?_
  refine rend ?_
  refine c_seq ?_
  refine c_seq ?_
  refine r_start ?_
  refine p 1 ?_
  refine rend ?_
  refine c_block ?_
  refine joinE (X := Unit) 0 (H.or h) (fun (x : Unit) => x) (fun _ => []) (fun _ u => (jk u 0 15 [])) (fun h hj2 => ?_) ?_
  · skip
    refine loopR (X := Int) (fun (x : Int) => x) (fun n1 => []) (fun n1 u => (.string (bs a0) :: (jk u 1 2 (.int .i64 n1 :: (jk u 4 11 []))))) 0 h (by kernel_rfl) (by kernel_rfl) ?_
    intro n1 u h
    refine c_seq ?_
    refine c_seq ?_
    refine r_start ?_
    refine p 4 ?_
    refine rend ?_
    refine c_or (decide (n1 < (List.length a0 : Int))) (fun q3 => ?_) (fun q3 => ?_)
    · replace h := H.t q3 h
      refine c_skip ?_
      refine c_seq ?_
      refine c_block ?_
      refine c_seq ?_
      refine r_start ?_
      refine p 2 ?_
      obtain ⟨y4_2, hy4_2, h⟩ := H.call h
      refine xq rfl (y_byte hy4_2) ?_
      obtain ⟨v4_3, hv4_3, h⟩ := H.call h
      refine xq rfl (y_call [.int .u8 y4_2] (.int .i64 v4_3) func235 (fun W S => C.s_mvIndex W hv4_3)) ?_
      refine p 1 ?_
      refine rend ?_
      refine c_or (decide (v4_3 < 0)) (fun q4 => ?_) (fun q4 => ?_)
      · replace h := H.t q4 h
        refine c_seq ?_
        refine r_start ?_
        refine p 1 ?_
        refine rend ?_
        replace h := H.inr h
        replace h := H.done h
        subst h
        exact ret func201 rfl (vs := [.bool false]) (.tmp (by kernel_rfl) .nil) rfl (fun W S => ⟨rfl, S.below⟩)
      replace h := H.f q4 h
      refine c_skip ?_
      refine c_inb ?_
      refine r_start ?_
      refine p 3 ?_
      refine rend ?_
      replace h := H.inl h
      exact h (wr (n1 + 1)) _ _ rfl (by kernel_rfl) (by kernel_rfl)
    replace h := H.f q3 h
    refine cx ?_
    replace h := H.inr h
    exact hj2 () _ _ h (by kernel_rfl) (by kernel_rfl)
  intro x u h
  refine c_seq ?_
  refine r_start ?_
  refine p 1 ?_
  refine rend ?_
  replace h := H.done h
  subst h
  exact ret func201 rfl (vs := [.bool true]) (.tmp (by kernel_rfl) .nil) rfl (fun W S => ⟨rfl, S.below⟩)
theorem C.s_mvGood {fu : Nat} {a0 : Move} {r : Bool} (w : World) (h : X.s_mvGood fu a0 = some r) : Calls prog 129 #[.agg (eMove a0).toArray] w (Ret w (.bool r)) := by
  refine calls (M := no) (args := [.agg (eMove a0).toArray]) func129 rfl ?_
  replace h : H (X.s_mvGood fu a0) (fun o => o = r) := H.mk h
  unfold X.s_mvGood at h
  refine c_seq ?_
  refine r_start ?_
  refine xx rfl (x_box (eMove a0) fun g0_0 => ?_)
  refine p 1 ?_
  refine rend ?_
  refine c_seq ?_
  refine r_start ?_
  refine p 1 ?_
  refine xq rfl (y_load (.string (bs a0.Steps)) 0 g0_0 0) ?_
  refine p 3 ?_
  refine br (decide ((List.length a0.Steps : Int) ≤ 6)) (fun q1 => ?_) (fun q1 => ?_)
  · replace h := H.t q1 h
    refine o_set 7 (congrArg Value.bool q1) ?_
    refine p 1 ?_
    refine xq rfl (y_load (.string (bs a0.Steps)) 0 g0_0 0) ?_
    obtain ⟨v1_7, hv1_7, h⟩ := H.call h
    refine xq rfl (y_call [.string (bs a0.Steps)] (.bool v1_7) func201 (fun W S => C.s_mvSteps W hv1_7)) ?_
    refine p 2 ?_
    refine br v1_7 (fun q2 => ?_) (fun q2 => ?_)
    · replace h := H.t q2 h
      refine o_set 12 (congrArg Value.bool q2) ?_
      refine p 1 ?_
      refine xq rfl (y_load (.int .i64 a0.Repeat) 0 g0_0 1) ?_
      obtain ⟨v1_12, hv1_12, h⟩ := H.call h
      refine xq rfl (y_call [.int .i64 a0.Repeat, .int .i64 1, .int .i64 3] (.bool v1_12) func152 (fun W S => C.s_l1In W hv1_12)) ?_
      refine p 2 ?_
      refine br v1_12 (fun q3 => ?_) (fun q3 => ?_)
      · replace h := H.t q3 h
        refine o_set 17 (congrArg Value.bool q3) ?_
        refine p 1 ?_
        refine xq rfl (y_load (.string (bs a0.Steps)) 0 g0_0 0) ?_
        refine p 2 ?_
        refine br (!seq a0.Steps ([] : Str)) (fun q4 => ?_) (fun q4 => ?_)
        · replace h := H.t q4 h
          refine o_set 21 (congrArg Value.bool q4) ?_
          refine p 6 ?_
          refine rend ?_
          replace h := H.done h
          subst h
          exact ret func129 rfl (vs := [.bool true]) (.tmp (by kernel_rfl) .nil) rfl (fun W S => ⟨rfl, S.below⟩)
        replace h := H.f q4 h
        refine o_set 21 (congrArg Value.bool q4) ?_
        refine p 1 ?_
        refine xq rfl (y_load (.int .i64 a0.Repeat) 0 g0_0 1) ?_
        refine p 4 ?_
        refine rend ?_
        replace h := H.done h
        subst h
        exact ret func129 rfl (vs := [.bool (a0.Repeat == 1)]) (.tmp (by kernel_rfl) .nil) rfl (fun W S => ⟨rfl, S.below⟩)
      replace h := H.f q3 h
      refine o_set 17 (congrArg Value.bool q3) ?_
      refine p 10 ?_
      refine rend ?_
      replace h := H.done h
      subst h
      exact ret func129 rfl (vs := [.bool false]) (.tmp (by kernel_rfl) .nil) rfl (fun W S => ⟨rfl, S.below⟩)
    replace h := H.f q2 h
    refine o_set 12 (congrArg Value.bool q2) ?_
    refine p 15 ?_
    refine rend ?_
    replace h := H.done h
    subst h
    exact ret func129 rfl (vs := [.bool false]) (.tmp (by kernel_rfl) .nil) rfl (fun W S => ⟨rfl, S.below⟩)
  replace h := H.f q1 h
  refine o_set 7 (congrArg Value.bool q1) ?_
  refine p 20 ?_
  refine rend ?_
  replace h := H.done h
  subst h
  exact ret func129 rfl (vs := [.bool false]) (.tmp (by kernel_rfl) .nil) rfl (fun W S => ⟨rfl, S.below⟩)
theorem C.s_siHand {fu : Nat} {a0 : Hand} {r : Bool} (w : World) (h : X.s_siHand fu a0 = some r) : Calls prog 95 #[.agg (eHand a0).toArray] w (Ret w (.bool r)) := by
  refine calls (M := no) (args := [.agg (eHand a0).toArray]) func95 rfl ?_
  replace h : H (X.s_siHand fu a0) (fun o => o = r) := H.mk h
  unfold X.s_siHand at h
  refine c_seq ?_
  refine r_start ?_
  refine xx rfl (x_box (eHand a0) fun g0_0 => ?_)
  refine p 1 ?_
  refine rend ?_
  refine c_seq ?_
  refine r_start ?_
  refine p 1 ?_
  refine xq rfl (y_load (.agg (eShape a0.Shape).toArray) 0 g0_0 0) ?_
  obtain ⟨v1_2, hv1_2, h⟩ := H.call h
  refine xq rfl (y_call [.agg (eShape a0.Shape).toArray] (.bool v1_2) func167 (fun W S => C.s_shGood W hv1_2)) ?_
  refine p 1 ?_
  refine br v1_2 (fun q1 => ?_) (fun q1 => ?_)
  · replace h := H.t q1 h
    refine o_set 6 (congrArg Value.bool q1) ?_
    refine p 1 ?_
    refine xq rfl (y_load (.agg (eOrient a0.Orient).toArray) 0 g0_0 6) ?_
    obtain ⟨v1_6, hv1_6, h⟩ := H.call h
    refine xq rfl (y_call [.agg (eOrient a0.Orient).toArray] (.bool v1_6) func168 (fun W S => C.s_orGood W hv1_6)) ?_
    refine p 2 ?_
    refine br v1_6 (fun q2 => ?_) (fun q2 => ?_)
    · replace h := H.t q2 h
      refine o_set 11 (congrArg Value.bool q2) ?_
      refine p 1 ?_
      refine xq rfl (y_load (.agg (ePlace a0.Place).toArray) 0 g0_0 8) ?_
      obtain ⟨v1_11, hv1_11, h⟩ := H.call h
      refine xq rfl (y_call [.agg (ePlace a0.Place).toArray] (.bool v1_11) func169 (fun W S => C.s_plGood W hv1_11)) ?_
      refine p 2 ?_
      refine br v1_11 (fun q3 => ?_) (fun q3 => ?_)
      · replace h := H.t q3 h
        refine o_set 16 (congrArg Value.bool q3) ?_
        refine p 1 ?_
        refine xq rfl (y_load (.agg (eMove a0.Move).toArray) 0 g0_0 11) ?_
        obtain ⟨v1_16, hv1_16, h⟩ := H.call h
        refine xq rfl (y_call [.agg (eMove a0.Move).toArray] (.bool v1_16) func129 (fun W S => C.s_mvGood W hv1_16)) ?_
        refine p 2 ?_
        refine rend ?_
        replace h := H.done h
        subst h
        exact ret func95 rfl (vs := [.bool v1_16]) (.tmp (by kernel_rfl) .nil) rfl (fun W S => ⟨rfl, S.below⟩)
      replace h := H.f q3 h
      refine o_set 16 (congrArg Value.bool q3) ?_
      refine p 5 ?_
      refine rend ?_
      replace h := H.done h
      subst h
      exact ret func95 rfl (vs := [.bool false]) (.tmp (by kernel_rfl) .nil) rfl (fun W S => ⟨rfl, S.below⟩)
    replace h := H.f q2 h
    refine o_set 11 (congrArg Value.bool q2) ?_
    refine p 10 ?_
    refine rend ?_
    replace h := H.done h
    subst h
    exact ret func95 rfl (vs := [.bool false]) (.tmp (by kernel_rfl) .nil) rfl (fun W S => ⟨rfl, S.below⟩)
  replace h := H.f q1 h
  refine o_set 6 (congrArg Value.bool q1) ?_
  refine p 15 ?_
  refine rend ?_
  replace h := H.done h
  subst h
  exact ret func95 rfl (vs := [.bool false]) (.tmp (by kernel_rfl) .nil) rfl (fun W S => ⟨rfl, S.below⟩)
theorem C.s_siBroken {fu : Nat} {a0 : Hand} {a1 : Hand} {r : Int} (w : World) (h : X.s_siBroken fu a0 a1 = some r) : Calls prog 96 #[.agg (eHand a0).toArray, .agg (eHand a1).toArray] w (Ret w (.int .i64 r)) := by
  refine calls (M := no) (args := [.agg (eHand a0).toArray, .agg (eHand a1).toArray]) func96 rfl ?_
  replace h : H (X.s_siBroken fu a0 a1) (fun o => o = r) := H.mk h
  unfold X.s_siBroken at h
  refine c_seq ?_
  refine r_start ?_
  refine xx rfl (x_box (eHand a0) fun g0_0 => ?_)
  refine xx rfl (x_box (eHand a1) fun g0_1 => ?_)
  refine p 1 ?_
  refine rend ?_
  refine c_seq ?_
  refine c_seq ?_
  refine r_start ?_
  refine p 2 ?_
  refine xq rfl (y_load (.string (bs a1.Move.Steps)) 1 g0_1 11) ?_
  refine p 1 ?_
  refine rend ?_
  refine c_or (seq a1.Move.Steps ([] : Str)) (fun q1 => ?_) (fun q1 => ?_)
  · replace h := H.t q1 h
    refine c_seq ?_
    refine c_seq ?_
    refine r_start ?_
    refine p 1 ?_
    refine xq rfl (y_load (.agg (eShape a0.Shape).toArray) 0 g0_0 0) ?_
    refine p 1 ?_
    refine xq rfl (y_load (.agg (eShape a1.Shape).toArray) 1 g0_1 0) ?_
    refine p 1 ?_
    refine rend ?_
    refine c_or (qShape a0.Shape a1.Shape) (fun q2 => ?_) (fun q2 => ?_)
    · replace h := H.t q2 h
      refine c_seq ?_
      refine r_start ?_
      refine p 1 ?_
      refine rend ?_
      replace h := H.done h
      subst h
      exact ret func96 rfl (vs := [.int .i64 0]) (.tmp (by kernel_rfl) .nil) rfl (fun W S => ⟨rfl, S.below⟩)
    replace h := H.f q2 h
    refine c_skip ?_
    refine c_seq ?_
    refine c_seq ?_
    refine r_start ?_
    obtain ⟨v4_0, hv4_0, h⟩ := H.call h
    refine xx rfl (e_cr [] (fun v => v) func115 (fun W S => C.s_siPlain W hv4_0) fun A4_0 k4_0 => ?_)
    refine p 2 ?_
    refine rend ?_
    refine c_block ?_
    refine joinE (X := Unit) 0 (H.or h) (fun (x : Unit) => x) (fun _ => [box g0_0 33 (eHand a0), box g0_1 33 (eHand a1), rowT nShape w.heap.size 25 (.slice A4_0 (List.length v4_0) k4_0) v4_0]) (fun _ u => (jk u 0 70 [])) (fun h hj3 => ?_) ?_
    · skip
      refine rangeR (X := Unit) (s_own 2) (fun (x : Unit) => x) (fun _ => [box g0_0 33 (eHand a0), box g0_1 33 (eHand a1), rowT nShape w.heap.size 25 (.slice A4_0 (List.length v4_0) k4_0) v4_0]) (fun (j4 : Nat) _ u => (jk u 0 3 (.pointer (some ⟨g0_1, 0, none⟩) :: (jk u 4 12 (.slice A4_0 (List.length v4_0) k4_0 :: .int .i64 (List.length v4_0 : Int) :: .int .i64 (j4 : Int) :: (jk u 19 51 [])))))) () h (by kernel_rfl) (by kernel_rfl) ?_ ?_
      · intro j4 x u x5 q6 hg7 hw8 h
        refine c_seq ?_
        refine r_start ?_
        refine p 1 ?_
        refine rend ?_
        refine c_seq ?_
        refine c_yes q6 ?_
        refine c_skip ?_
        refine c_seq ?_
        refine c_block ?_
        refine c_seq ?_
        refine r_start ?_
        refine xq rfl (y_idx (e := nShape) (el := 25) hg7 (s_own 2)) ?_
        refine xq rfl (y_el (e := nShape) 0 (.agg (eShape x5).toArray) hg7 (s_own 2)) ?_
        refine xx rfl (x_new (eShape zShape) fun g6_2 => ?_)
        refine xx rfl (x_sto 3 g6_2 0 (eShape x5) ?_)
        refine rend ?_
        refine c_seq ?_
        refine r_start ?_
        refine xq rfl (y_load (.agg (eShape x5).toArray) 3 g6_2 0) ?_
        refine p 1 ?_
        refine xq rfl (y_load (.agg (eShape a1.Shape).toArray) 1 g0_1 0) ?_
        refine p 1 ?_
        refine rend ?_
        refine c_or (qShape x5 a1.Shape) (fun q9 => ?_) (fun q9 => ?_)
        · replace h := H.t q9 h
          refine c_seq ?_
          refine r_start ?_
          refine p 1 ?_
          refine rend ?_
          replace h := H.inr h
          replace h := H.done h
          subst h
          exact ret func96 rfl (vs := [.int .i64 0]) (.tmp (by kernel_rfl) .nil) rfl (fun W S => ⟨rfl, S.below⟩)
        replace h := H.f q9 h
        refine c_skip ?_
        refine c_inb ?_
        refine r_start ?_
        refine p 2 ?_
        refine rend ?_
        refine c_set 18 (ci hw8) ?_
        replace h := H.inl h
        exact h () _ _ rfl (by kernel_rfl) (by kernel_rfl)
      · intro x u q6 h
        refine c_seq ?_
        refine r_start ?_
        refine p 1 ?_
        refine rend ?_
        refine c_seq ?_
        refine c_no q6 ?_
        refine cx ?_
        replace h := H.done h
        exact hj3 () _ _ h (by kernel_rfl) (by kernel_rfl)
    intro x u h
    refine c_seq ?_
    refine r_start ?_
    refine p 1 ?_
    refine rend ?_
    replace h := H.done h
    subst h
    exact ret func96 rfl (vs := [.int .i64 4]) (.tmp (by kernel_rfl) .nil) rfl (fun W S => ⟨rfl, S.below⟩)
  replace h := H.f q1 h
  refine c_skip ?_
  refine c_seq ?_
  refine c_block ?_
  refine c_seq ?_
  refine r_start ?_
  refine p 2 ?_
  refine xq rfl (y_load (.string (bs a0.Move.Steps)) 0 g0_0 11) ?_
  refine p 2 ?_
  refine rend ?_
  refine c_or (seq a0.Move.Steps ([] : Str)) (fun q10 => ?_) (fun q10 => ?_)
  · replace h := H.t q10 h
    refine c_seq ?_
    refine r_start ?_
    refine p 1 ?_
    refine rend ?_
    replace h := H.done h
    subst h
    exact ret func96 rfl (vs := [.int .i64 3]) (.tmp (by kernel_rfl) .nil) rfl (fun W S => ⟨rfl, S.below⟩)
  replace h := H.f q10 h
  refine c_seq ?_
  refine r_start ?_
  refine p 1 ?_
  refine xq rfl (y_load (.agg (eShape a0.Shape).toArray) 0 g0_0 0) ?_
  refine p 1 ?_
  refine xq rfl (y_load (.agg (eShape a1.Shape).toArray) 1 g0_1 0) ?_
  refine p 2 ?_
  refine rend ?_
  refine c_or (!qShape a0.Shape a1.Shape) (fun q11 => ?_) (fun q11 => ?_)
  · replace h := H.t q11 h
    refine c_seq ?_
    refine r_start ?_
    refine p 1 ?_
    refine rend ?_
    replace h := H.done h
    subst h
    exact ret func96 rfl (vs := [.int .i64 1]) (.tmp (by kernel_rfl) .nil) rfl (fun W S => ⟨rfl, S.below⟩)
  replace h := H.f q11 h
  refine c_seq ?_
  refine as_start 14 14 ?_
  refine ap 0 1 ?_
  refine aq 1 rfl (y_load (.agg (eOrient a0.Orient).toArray) 0 g0_0 6) ?_
  refine ap 2 1 ?_
  refine aq 3 rfl (y_load (.agg (eOrient a1.Orient).toArray) 1 g0_1 6) ?_
  refine ap 4 2 ?_
  refine br (!qOrient a0.Orient a1.Orient) (fun q12 => ?_) (fun q12 => ?_)
  · replace h := H.t q12 h
    refine a_set 44 (congrArg Value.bool q12) ?_
    refine ap 6 1 ?_
    refine aq 7 rfl (y_load (.agg (eOrient a0.Orient).toArray) 0 g0_0 6) ?_
    refine ap 8 1 ?_
    refine aq 9 rfl (y_load (.agg (eOrient a1.Orient).toArray) 1 g0_1 6) ?_
    obtain ⟨v15_10, hv15_10, h⟩ := H.call h
    refine aq 10 rfl (y_call [.agg (eOrient a1.Orient).toArray] (.agg (eOrient v15_10).toArray) func160 (fun W S => C.s_orMirror W hv15_10)) ?_
    refine ap 11 3 ?_
    refine a_done ?_
    refine c_or (!qOrient a0.Orient v15_10) (fun q13 => ?_) (fun q13 => ?_)
    · replace h := H.t q13 h
      refine c_seq ?_
      refine r_start ?_
      refine p 1 ?_
      refine rend ?_
      replace h := H.done h
      subst h
      exact ret func96 rfl (vs := [.int .i64 2]) (.tmp (by kernel_rfl) .nil) rfl (fun W S => ⟨rfl, S.below⟩)
    replace h := H.f q13 h
    refine c_seq ?_
    refine as_start 18 18 ?_
    refine ap 0 1 ?_
    refine aq 1 rfl (y_load (.agg (eMove a0.Move).toArray) 0 g0_0 11) ?_
    obtain ⟨v17_2, hv17_2, h⟩ := H.call h
    refine aq 2 rfl (y_call [.agg (eMove a0.Move).toArray] (.string (bs v17_2)) func106 (fun W S => C.s_mvAll W hv17_2)) ?_
    refine ap 3 1 ?_
    refine aq 4 rfl (y_load (.agg (eMove a1.Move).toArray) 1 g0_1 11) ?_
    obtain ⟨v17_5, hv17_5, h⟩ := H.call h
    refine aq 5 rfl (y_call [.agg (eMove a1.Move).toArray] (.string (bs v17_5)) func106 (fun W S => C.s_mvAll W hv17_5)) ?_
    refine ap 6 2 ?_
    refine br (!seq v17_2 v17_5) (fun q14 => ?_) (fun q14 => ?_)
    · replace h := H.t q14 h
      refine a_set 60 (congrArg Value.bool q14) ?_
      refine ap 8 1 ?_
      refine aq 9 rfl (y_load (.agg (eMove a0.Move).toArray) 0 g0_0 11) ?_
      obtain ⟨v17_10, hv17_10, h⟩ := H.call h
      refine aq 10 rfl (y_call [.agg (eMove a0.Move).toArray] (.agg (eMove v17_10).toArray) func162 (fun W S => C.s_mvMirror W hv17_10)) ?_
      obtain ⟨v17_11, hv17_11, h⟩ := H.call h
      refine aq 11 rfl (y_call [.agg (eMove v17_10).toArray] (.string (bs v17_11)) func106 (fun W S => C.s_mvAll W hv17_11)) ?_
      refine ap 12 1 ?_
      refine aq 13 rfl (y_load (.agg (eMove a1.Move).toArray) 1 g0_1 11) ?_
      obtain ⟨v17_14, hv17_14, h⟩ := H.call h
      refine aq 14 rfl (y_call [.agg (eMove a1.Move).toArray] (.string (bs v17_14)) func106 (fun W S => C.s_mvAll W hv17_14)) ?_
      refine ap 15 3 ?_
      refine a_done ?_
      refine c_or (!seq v17_11 v17_14) (fun q15 => ?_) (fun q15 => ?_)
      · replace h := H.t q15 h
        refine c_seq ?_
        refine r_start ?_
        refine p 1 ?_
        refine rend ?_
        replace h := H.done h
        subst h
        exact ret func96 rfl (vs := [.int .i64 3]) (.tmp (by kernel_rfl) .nil) rfl (fun W S => ⟨rfl, S.below⟩)
      replace h := H.f q15 h
      refine c_skip ?_
      refine c_inb ?_
      refine c_seq ?_
      refine r_start ?_
      refine p 1 ?_
      refine rend ?_
      replace h := H.done h
      subst h
      exact ret func96 rfl (vs := [.int .i64 0]) (.tmp (by kernel_rfl) .nil) rfl (fun W S => ⟨rfl, S.below⟩)
    replace h := H.f q14 h
    refine a_set 60 (congrArg Value.bool q14) ?_
    refine ap 8 10 ?_
    refine a_done ?_
    refine c_f (by kernel_rfl) ?_
    refine c_skip ?_
    refine c_inb ?_
    refine c_seq ?_
    refine r_start ?_
    refine p 1 ?_
    refine rend ?_
    replace h := H.done h
    subst h
    exact ret func96 rfl (vs := [.int .i64 0]) (.tmp (by kernel_rfl) .nil) rfl (fun W S => ⟨rfl, S.below⟩)
  replace h := H.f q12 h
  refine a_set 44 (congrArg Value.bool q12) ?_
  refine ap 6 8 ?_
  refine a_done ?_
  refine c_f (by kernel_rfl) ?_
  refine c_seq ?_
  refine as_start 18 18 ?_
  refine ap 0 1 ?_
  refine aq 1 rfl (y_load (.agg (eMove a0.Move).toArray) 0 g0_0 11) ?_
  obtain ⟨v17_2, hv17_2, h⟩ := H.call h
  refine aq 2 rfl (y_call [.agg (eMove a0.Move).toArray] (.string (bs v17_2)) func106 (fun W S => C.s_mvAll W hv17_2)) ?_
  refine ap 3 1 ?_
  refine aq 4 rfl (y_load (.agg (eMove a1.Move).toArray) 1 g0_1 11) ?_
  obtain ⟨v17_5, hv17_5, h⟩ := H.call h
  refine aq 5 rfl (y_call [.agg (eMove a1.Move).toArray] (.string (bs v17_5)) func106 (fun W S => C.s_mvAll W hv17_5)) ?_
  refine ap 6 2 ?_
  refine br (!seq v17_2 v17_5) (fun q16 => ?_) (fun q16 => ?_)
  · replace h := H.t q16 h
    refine a_set 60 (congrArg Value.bool q16) ?_
    refine ap 8 1 ?_
    refine aq 9 rfl (y_load (.agg (eMove a0.Move).toArray) 0 g0_0 11) ?_
    obtain ⟨v17_10, hv17_10, h⟩ := H.call h
    refine aq 10 rfl (y_call [.agg (eMove a0.Move).toArray] (.agg (eMove v17_10).toArray) func162 (fun W S => C.s_mvMirror W hv17_10)) ?_
    obtain ⟨v17_11, hv17_11, h⟩ := H.call h
    refine aq 11 rfl (y_call [.agg (eMove v17_10).toArray] (.string (bs v17_11)) func106 (fun W S => C.s_mvAll W hv17_11)) ?_
    refine ap 12 1 ?_
    refine aq 13 rfl (y_load (.agg (eMove a1.Move).toArray) 1 g0_1 11) ?_
    obtain ⟨v17_14, hv17_14, h⟩ := H.call h
    refine aq 14 rfl (y_call [.agg (eMove a1.Move).toArray] (.string (bs v17_14)) func106 (fun W S => C.s_mvAll W hv17_14)) ?_
    refine ap 15 3 ?_
    refine a_done ?_
    refine c_or (!seq v17_11 v17_14) (fun q17 => ?_) (fun q17 => ?_)
    · replace h := H.t q17 h
      refine c_seq ?_
      refine r_start ?_
      refine p 1 ?_
      refine rend ?_
      replace h := H.done h
      subst h
      exact ret func96 rfl (vs := [.int .i64 3]) (.tmp (by kernel_rfl) .nil) rfl (fun W S => ⟨rfl, S.below⟩)
    replace h := H.f q17 h
    refine c_skip ?_
    refine c_inb ?_
    refine c_seq ?_
    refine r_start ?_
    refine p 1 ?_
    refine rend ?_
    replace h := H.done h
    subst h
    exact ret func96 rfl (vs := [.int .i64 0]) (.tmp (by kernel_rfl) .nil) rfl (fun W S => ⟨rfl, S.below⟩)
  replace h := H.f q16 h
  refine a_set 60 (congrArg Value.bool q16) ?_
  refine ap 8 10 ?_
  refine a_done ?_
  refine c_f (by kernel_rfl) ?_
  refine c_skip ?_
  refine c_inb ?_
  refine c_seq ?_
  refine r_start ?_
  refine p 1 ?_
  refine rend ?_
  replace h := H.done h
  subst h
  exact ret func96 rfl (vs := [.int .i64 0]) (.tmp (by kernel_rfl) .nil) rfl (fun W S => ⟨rfl, S.below⟩)
theorem C.s_siGood {fu : Nat} {a0 : Sign} {r : Bool} (w : World) (h : X.s_siGood fu a0 = some r) : Calls prog 91 #[.agg (eSign a0).toArray] w (Ret w (.bool r)) := by
  refine calls (M := no) (args := [.agg (eSign a0).toArray]) func91 rfl ?_
  replace h : H (X.s_siGood fu a0) (fun o => o = r) := H.mk h
  unfold X.s_siGood at h
  refine c_seq ?_
  refine r_start ?_
  refine xx rfl (x_box (eSign a0) fun g0_0 => ?_)
  refine p 1 ?_
  refine rend ?_
  refine c_seq ?_
  refine c_seq ?_
  refine r_start ?_
  refine p 1 ?_
  refine xq rfl (y_load (.agg (eHand a0.Main).toArray) 0 g0_0 0) ?_
  obtain ⟨v1_2, hv1_2, h⟩ := H.call h
  refine xq rfl (y_call [.agg (eHand a0.Main).toArray] (.bool v1_2) func95 (fun W S => C.s_siHand W hv1_2)) ?_
  refine p 1 ?_
  refine rend ?_
  refine c_or (!v1_2) (fun q1 => ?_) (fun q1 => ?_)
  · replace h := H.t q1 h
    refine c_seq ?_
    refine r_start ?_
    refine p 1 ?_
    refine rend ?_
    replace h := H.done h
    subst h
    exact ret func91 rfl (vs := [.bool false]) (.tmp (by kernel_rfl) .nil) rfl (fun W S => ⟨rfl, S.below⟩)
  replace h := H.f q1 h
  refine c_skip ?_
  refine c_seq ?_
  refine c_seq ?_
  refine r_start ?_
  refine p 1 ?_
  refine xq rfl (y_load (.bool a0.Two) 0 g0_0 13) ?_
  refine p 1 ?_
  refine rend ?_
  refine c_or (!a0.Two) (fun q2 => ?_) (fun q2 => ?_)
  · replace h := H.t q2 h
    refine c_seq ?_
    refine r_start ?_
    refine p 1 ?_
    refine xq rfl (y_load (.agg (eHand a0.Other).toArray) 0 g0_0 14) ?_
    refine p 3 ?_
    refine rend ?_
    replace h := H.done h
    subst h
    exact ret func91 rfl (vs := [.bool (qHand a0.Other zHand)]) (.tmp (by kernel_rfl) .nil) rfl (fun W S => ⟨rfl, S.below⟩)
  replace h := H.f q2 h
  refine c_skip ?_
  refine c_seq ?_
  refine r_start ?_
  refine p 1 ?_
  refine xq rfl (y_load (.agg (eHand a0.Other).toArray) 0 g0_0 14) ?_
  obtain ⟨v5_2, hv5_2, h⟩ := H.call h
  refine xq rfl (y_call [.agg (eHand a0.Other).toArray] (.bool v5_2) func95 (fun W S => C.s_siHand W hv5_2)) ?_
  refine p 1 ?_
  refine br v5_2 (fun q3 => ?_) (fun q3 => ?_)
  · replace h := H.t q3 h
    refine o_set 17 (congrArg Value.bool q3) ?_
    refine p 1 ?_
    refine xq rfl (y_load (.agg (eHand a0.Main).toArray) 0 g0_0 0) ?_
    refine p 1 ?_
    refine xq rfl (y_load (.agg (eHand a0.Other).toArray) 0 g0_0 14) ?_
    obtain ⟨v5_8, hv5_8, h⟩ := H.call h
    refine xq rfl (y_call [.agg (eHand a0.Main).toArray, .agg (eHand a0.Other).toArray] (.int .i64 v5_8) func96 (fun W S => C.s_siBroken W hv5_8)) ?_
    refine p 3 ?_
    refine rend ?_
    replace h := H.done h
    subst h
    exact ret func91 rfl (vs := [.bool (v5_8 == 0)]) (.tmp (by kernel_rfl) .nil) rfl (fun W S => ⟨rfl, S.below⟩)
  replace h := H.f q3 h
  refine o_set 17 (congrArg Value.bool q3) ?_
  refine p 8 ?_
  refine rend ?_
  replace h := H.done h
  subst h
  exact ret func91 rfl (vs := [.bool false]) (.tmp (by kernel_rfl) .nil) rfl (fun W S => ⟨rfl, S.below⟩)
theorem C.i_Sign_kind {a0 : Sign} {r : Int} (w : World) (h : X.i_Sign_kind a0 = some r) : Calls prog 101 #[.agg (eSign a0).toArray] w (Ret w (.int .i64 r)) := by
  refine calls (M := no) (args := [.agg (eSign a0).toArray]) func101 rfl ?_
  replace h : H (X.i_Sign_kind a0) (fun o => o = r) := H.mk h
  unfold X.i_Sign_kind at h
  refine c_seq ?_
  refine r_start ?_
  refine xx rfl (x_box (eSign a0) fun g0_0 => ?_)
  refine p 1 ?_
  refine rend ?_
  refine c_seq ?_
  refine c_block ?_
  refine c_seq ?_
  refine r_start ?_
  refine p 1 ?_
  refine xq rfl (y_load (.bool a0.Two) 0 g0_0 13) ?_
  refine p 2 ?_
  refine rend ?_
  refine c_or (!a0.Two) (fun q1 => ?_) (fun q1 => ?_)
  · replace h := H.t q1 h
    refine c_seq ?_
    refine r_start ?_
    refine p 1 ?_
    refine rend ?_
    replace h := H.done h
    subst h
    exact ret func101 rfl (vs := [.int .i64 0]) (.tmp (by kernel_rfl) .nil) rfl (fun W S => ⟨rfl, S.below⟩)
  replace h := H.f q1 h
  refine c_seq ?_
  refine r_start ?_
  refine p 1 ?_
  refine xq rfl (y_load (.agg (eHand a0.Other).toArray) 0 g0_0 14) ?_
  obtain ⟨v3_2, hv3_2, h⟩ := H.call h
  refine xq rfl (y_call [.agg (eHand a0.Other).toArray] (.bool v3_2) func93 (fun W S => C.i_Hand_moves W hv3_2)) ?_
  refine p 1 ?_
  refine rend ?_
  refine c_or v3_2 (fun q2 => ?_) (fun q2 => ?_)
  · replace h := H.t q2 h
    refine c_seq ?_
    refine r_start ?_
    refine p 1 ?_
    refine rend ?_
    replace h := H.done h
    subst h
    exact ret func101 rfl (vs := [.int .i64 1]) (.tmp (by kernel_rfl) .nil) rfl (fun W S => ⟨rfl, S.below⟩)
  replace h := H.f q2 h
  refine c_seq ?_
  refine r_start ?_
  refine p 2 ?_
  refine xq rfl (y_load (.agg (eShape a0.Other.Shape).toArray) 0 g0_0 14) ?_
  refine p 2 ?_
  refine xq rfl (y_load (.agg (eShape a0.Main.Shape).toArray) 0 g0_0 0) ?_
  refine p 2 ?_
  refine rend ?_
  refine c_or (qShape a0.Other.Shape a0.Main.Shape) (fun q3 => ?_) (fun q3 => ?_)
  · replace h := H.t q3 h
    refine c_seq ?_
    refine r_start ?_
    refine p 1 ?_
    refine rend ?_
    replace h := H.done h
    subst h
    exact ret func101 rfl (vs := [.int .i64 2]) (.tmp (by kernel_rfl) .nil) rfl (fun W S => ⟨rfl, S.below⟩)
  replace h := H.f q3 h
  refine c_skip ?_
  refine c_inb ?_
  refine c_seq ?_
  refine r_start ?_
  refine p 1 ?_
  refine rend ?_
  replace h := H.done h
  subst h
  exact ret func101 rfl (vs := [.int .i64 3]) (.tmp (by kernel_rfl) .nil) rfl (fun W S => ⟨rfl, S.below⟩)
theorem C.s_siKind {a0 : Sign} {r : Int} (w : World) (h : X.s_siKind a0 = some r) : Calls prog 102 #[.agg (eSign a0).toArray] w (Ret w (.int .i64 r)) := by
  refine calls (M := no) (args := [.agg (eSign a0).toArray]) func102 rfl ?_
  replace h : H (X.s_siKind a0) (fun o => o = r) := H.mk h
  unfold X.s_siKind at h
  refine c_seq ?_
  refine r_start ?_
  refine xx rfl (x_box (eSign a0) fun g0_0 => ?_)
  refine p 1 ?_
  refine rend ?_
  refine c_seq ?_
  refine c_block ?_
  refine c_seq ?_
  refine r_start ?_
  refine p 1 ?_
  refine xq rfl (y_load (.bool a0.Two) 0 g0_0 13) ?_
  refine p 2 ?_
  refine rend ?_
  refine c_or (!a0.Two) (fun q1 => ?_) (fun q1 => ?_)
  · replace h := H.t q1 h
    refine c_seq ?_
    refine r_start ?_
    refine p 1 ?_
    refine rend ?_
    replace h := H.done h
    subst h
    exact ret func102 rfl (vs := [.int .i64 0]) (.tmp (by kernel_rfl) .nil) rfl (fun W S => ⟨rfl, S.below⟩)
  replace h := H.f q1 h
  refine c_seq ?_
  refine r_start ?_
  refine p 3 ?_
  refine xq rfl (y_load (.string (bs a0.Other.Move.Steps)) 0 g0_0 25) ?_
  refine p 2 ?_
  refine rend ?_
  refine c_or (!seq a0.Other.Move.Steps ([] : Str)) (fun q2 => ?_) (fun q2 => ?_)
  · replace h := H.t q2 h
    refine c_seq ?_
    refine r_start ?_
    refine p 1 ?_
    refine rend ?_
    replace h := H.done h
    subst h
    exact ret func102 rfl (vs := [.int .i64 1]) (.tmp (by kernel_rfl) .nil) rfl (fun W S => ⟨rfl, S.below⟩)
  replace h := H.f q2 h
  refine c_seq ?_
  refine r_start ?_
  refine p 2 ?_
  refine xq rfl (y_load (.agg (eShape a0.Main.Shape).toArray) 0 g0_0 0) ?_
  refine p 2 ?_
  refine xq rfl (y_load (.agg (eShape a0.Other.Shape).toArray) 0 g0_0 14) ?_
  refine p 2 ?_
  refine rend ?_
  refine c_or (qShape a0.Main.Shape a0.Other.Shape) (fun q3 => ?_) (fun q3 => ?_)
  · replace h := H.t q3 h
    refine c_seq ?_
    refine r_start ?_
    refine p 1 ?_
    refine rend ?_
    replace h := H.done h
    subst h
    exact ret func102 rfl (vs := [.int .i64 2]) (.tmp (by kernel_rfl) .nil) rfl (fun W S => ⟨rfl, S.below⟩)
  replace h := H.f q3 h
  refine c_skip ?_
  refine c_inb ?_
  refine c_seq ?_
  refine r_start ?_
  refine p 1 ?_
  refine rend ?_
  replace h := H.done h
  subst h
  exact ret func102 rfl (vs := [.int .i64 3]) (.tmp (by kernel_rfl) .nil) rfl (fun W S => ⟨rfl, S.below⟩)
theorem C.s_l1Cur_sign {fu : Nat} {a0 : List Int} {A0 : Option Addr} {k0 g0 : Nat} {t0 s0 : Int} {r : (Sign × Int × Int)} (w : World) (h : X.s_l1Cur_sign fu a0 t0 s0 = some r) (m0 : w.heap[g0]? = some (.cells ([.slice A0 (List.length a0) k0, .int .i64 t0, .int .u64 s0] : List Value).toArray 92 (0, 0))) (h0 : RdT (eI .u8) w (.slice A0 (List.length a0) k0) a0) (q0 : 0 < List.length a0 → ∀ k, (Value.slice A0 (List.length a0) k0).ownBlock = some k → ¬ k = g0) : Calls prog 189 #[.pointer (some ⟨g0, 0, none⟩)] w (RetQ g0 92 [.slice A0 (List.length a0) k0, .int .i64 r.2.1, .int .u64 r.2.2] w (.agg (eSign r.1).toArray)) := by
  refine callsQ (args := [.pointer (some ⟨g0, 0, none⟩)]) m0 func189 rfl ?_
  replace h : H (X.s_l1Cur_sign fu a0 t0 s0) (fun o => o = r) := H.mk h
  unfold X.s_l1Cur_sign at h
  refine c_seq ?_
  refine r_start ?_
  refine xx rfl (x_new (eSign zSign) fun g0_0 => ?_)
  refine rend ?_
  refine c_seq ?_
  refine r_start ?_
  refine p 1 ?_
  obtain ⟨v1_1, hv1_1, h⟩ := H.call h
  refine xx rfl (e_cq (cs' := [.slice A0 (List.length a0) k0, .int .i64 v1_1.2.1, .int .u64 v1_1.2.2]) (v := .agg (eHand v1_1.1).toArray) 0 [.pointer (some ⟨g0, 0, none⟩)] func155 (fun W S => C.s_l1Cur_hand W hv1_1 (S.bx 0) ((s_argN h0 q0).out W S) q0) ?_)
  refine p 1 ?_
  refine xx rfl (x_new (eSign zSign) fun g1_3 => ?_)
  refine xx rfl (x_sto 2 g1_3 0 (eSign ({ zSign with Main := v1_1.1 })) ?_)
  refine rend ?_
  refine c_seq ?_
  refine c_seq ?_
  refine r_start ?_
  refine p 1 ?_
  obtain ⟨v2_1, hv2_1, h⟩ := H.call h
  refine xx rfl (e_cq (cs' := [.slice A0 (List.length a0) k0, .int .i64 v2_1.2.1, .int .u64 v2_1.2.2]) (v := .bool v2_1.1) 0 [.pointer (some ⟨g0, 0, none⟩), .int .i64 2] func90 (fun W S => C.s_l1Cur_one W hv2_1 (S.bx 0) ((s_argN h0 q0).out W S) q0) ?_)
  refine rend ?_
  refine c_or v2_1.1 (fun q1 => ?_) (fun q1 => ?_)
  · replace h := H.t q1 h
    refine c_seq ?_
    refine r_start ?_
    refine xq rfl (y_load (.agg (eSign ({ zSign with Main := v1_1.1 })).toArray) 2 g1_3 0) ?_
    refine xx rfl (x_sto 1 g0_0 0 (eSign ({ zSign with Main := v1_1.1 })) ?_)
    refine rend ?_
    replace h := H.done h
    subst h
    exact ret func189 rfl (vs := [.agg (eSign ({ zSign with Main := v1_1.1 })).toArray]) (.cell 1 g0_0 rfl (by kernel_rfl) (by kernel_rfl) .nil) rfl (fun W S => S.retQ)
  replace h := H.f q1 h
  refine c_skip ?_
  refine c_seq ?_
  refine r_start ?_
  refine p 1 ?_
  refine xx rfl (x_sto 2 g1_3 13 (eSign (⟨v1_1.1, true, zSign.Other⟩ : Sign)) ?_)
  refine rend ?_
  refine c_seq ?_
  refine r_start ?_
  refine p 2 ?_
  refine xq rfl (y_load (.agg (eHand v1_1.1).toArray) 2 g1_3 0) ?_
  obtain ⟨v5_3, hv5_3, h⟩ := H.call h
  refine xx rfl (e_cq (cs' := [.slice A0 (List.length a0) k0, .int .i64 v5_3.2.1, .int .u64 v5_3.2.2]) (v := .agg (eHand v5_3.1).toArray) 0 [.pointer (some ⟨g0, 0, none⟩), .agg (eHand v1_1.1).toArray] func89 (fun W S => C.s_l1Cur_otherFor W hv5_3 (S.bx 0) ((s_argN h0 q0).out W S) q0) ?_)
  refine p 1 ?_
  refine xx rfl (x_sto 2 g1_3 14 (eSign (⟨v1_1.1, true, v5_3.1⟩ : Sign)) ?_)
  refine rend ?_
  refine c_seq ?_
  refine c_seq ?_
  refine r_start ?_
  refine xq rfl (y_load (.agg (eSign (⟨v1_1.1, true, v5_3.1⟩ : Sign)).toArray) 2 g1_3 0) ?_
  obtain ⟨v6_1, hv6_1, h⟩ := H.call h
  refine xq rfl (y_call [.agg (eSign (⟨v1_1.1, true, v5_3.1⟩ : Sign)).toArray] (.bool v6_1) func91 (fun W S => C.s_siGood W hv6_1)) ?_
  refine p 1 ?_
  refine rend ?_
  refine c_or (!v6_1) (fun q2 => ?_) (fun q2 => ?_)
  · replace h := H.t q2 h
    refine c_seq ?_
    refine r_start ?_
    refine p 1 ?_
    refine xq rfl (y_load (.agg (eHand v1_1.1).toArray) 2 g1_3 0) ?_
    refine p 1 ?_
    refine xx rfl (x_sto 1 g0_0 0 (eSign ({ zSign with Main := v1_1.1 })) ?_)
    refine rend ?_
    replace h := H.done h
    subst h
    exact ret func189 rfl (vs := [.agg (eSign ({ zSign with Main := v1_1.1 })).toArray]) (.cell 1 g0_0 rfl (by kernel_rfl) (by kernel_rfl) .nil) rfl (fun W S => S.retQ)
  replace h := H.f q2 h
  refine c_skip ?_
  refine c_seq ?_
  refine r_start ?_
  refine xq rfl (y_load (.agg (eSign (⟨v1_1.1, true, v5_3.1⟩ : Sign)).toArray) 2 g1_3 0) ?_
  refine xx rfl (x_sto 1 g0_0 0 (eSign (⟨v1_1.1, true, v5_3.1⟩ : Sign)) ?_)
  refine rend ?_
  replace h := H.done h
  subst h
  exact ret func189 rfl (vs := [.agg (eSign (⟨v1_1.1, true, v5_3.1⟩ : Sign)).toArray]) (.cell 1 g0_0 rfl (by kernel_rfl) (by kernel_rfl) .nil) rfl (fun W S => S.retQ)
theorem C.s_l1Cur_anySign {fu : Nat} {a0 : List Int} {A0 : Option Addr} {k0 g0 : Nat} {t0 s0 : Int} {r : (Sign × Int × Int)} (w : World) (h : X.s_l1Cur_anySign fu a0 t0 s0 = some r) (m0 : w.heap[g0]? = some (.cells ([.slice A0 (List.length a0) k0, .int .i64 t0, .int .u64 s0] : List Value).toArray 92 (0, 0))) (h0 : RdT (eI .u8) w (.slice A0 (List.length a0) k0) a0) (q0 : 0 < List.length a0 → ∀ k, (Value.slice A0 (List.length a0) k0).ownBlock = some k → ¬ k = g0) : Calls prog 116 #[.pointer (some ⟨g0, 0, none⟩)] w (RetQ g0 92 [.slice A0 (List.length a0) k0, .int .i64 r.2.1, .int .u64 r.2.2] w (.agg (eSign r.1).toArray)) := by
  refine callsQ (args := [.pointer (some ⟨g0, 0, none⟩)]) m0 func116 rfl ?_
  replace h : H (X.s_l1Cur_anySign fu a0 t0 s0) (fun o => o = r) := H.mk h
  unfold X.s_l1Cur_anySign at h
  refine c_seq ?_
  refine r_start ?_
  refine xx rfl (x_new (eSign zSign) fun g0_0 => ?_)
  refine rend ?_
  refine c_seq ?_
  refine r_start ?_
  refine p 1 ?_
  obtain ⟨v1_1, hv1_1, h⟩ := H.call h
  refine xx rfl (e_cq (cs' := [.slice A0 (List.length a0) k0, .int .i64 v1_1.2.1, .int .u64 v1_1.2.2]) (v := .agg (eSign v1_1.1).toArray) 0 [.pointer (some ⟨g0, 0, none⟩)] func189 (fun W S => C.s_l1Cur_sign W hv1_1 (S.bx 0) ((s_argN h0 q0).out W S) q0) ?_)
  refine xx rfl (x_new (eSign zSign) fun g1_2 => ?_)
  refine xx rfl (x_sto 2 g1_2 0 (eSign v1_1.1) ?_)
  refine rend ?_
  refine c_seq ?_
  refine c_seq ?_
  refine r_start ?_
  refine p 1 ?_
  obtain ⟨v2_1, hv2_1, h⟩ := H.call h
  refine xx rfl (e_cq (cs' := [.slice A0 (List.length a0) k0, .int .i64 v2_1.2.1, .int .u64 v2_1.2.2]) (v := .int .i64 v2_1.1) 0 [.pointer (some ⟨g0, 0, none⟩), .int .i64 30] func123 (fun W S => C.s_l1Cur_pick W hv2_1 (S.bx 0) ((s_argN h0 q0).out W S) q0) ?_)
  refine rend ?_
  refine c_block ?_
  refine c_seq ?_
  refine r_start ?_
  refine p 2 ?_
  refine rend ?_
  refine c_or (v2_1.1 == 0) (fun q1 => ?_) (fun q1 => ?_)
  · replace h := H.t q1 h
    refine r_start ?_
    refine p 1 ?_
    obtain ⟨v4_1, hv4_1, h⟩ := H.call h
    refine xx rfl (e_cq (cs' := [.slice A0 (List.length a0) k0, .int .i64 v4_1.2.1, .int .u64 v4_1.2.2]) (v := .agg (eHand v4_1.1).toArray) 0 [.pointer (some ⟨g0, 0, none⟩)] func88 (fun W S => C.s_l1Cur_anyHand W hv4_1 (S.bx 0) ((s_argN h0 q0).out W S) q0) ?_)
    refine p 1 ?_
    refine xx rfl (x_sto 2 g1_2 0 (eSign ({ v1_1.1 with Main := v4_1.1 })) ?_)
    refine rend ?_
    refine c_inb ?_
    refine c_seq ?_
    refine r_start ?_
    refine xq rfl (y_load (.agg (eSign ({ v1_1.1 with Main := v4_1.1 })).toArray) 2 g1_2 0) ?_
    refine xx rfl (x_sto 1 g0_0 0 (eSign ({ v1_1.1 with Main := v4_1.1 })) ?_)
    refine rend ?_
    replace h := H.done h
    subst h
    exact ret func116 rfl (vs := [.agg (eSign ({ v1_1.1 with Main := v4_1.1 })).toArray]) (.cell 1 g0_0 rfl (by kernel_rfl) (by kernel_rfl) .nil) rfl (fun W S => S.retQ)
  replace h := H.f q1 h
  refine c_seq ?_
  refine r_start ?_
  refine p 2 ?_
  refine rend ?_
  refine c_or (v2_1.1 == 1) (fun q2 => ?_) (fun q2 => ?_)
  · replace h := H.t q2 h
    refine r_start ?_
    refine p 1 ?_
    refine xq rfl (y_load (.bool v1_1.1.Two) 2 g1_2 13) ?_
    refine p 2 ?_
    refine xx rfl (x_sto 2 g1_2 13 (eSign ({ v1_1.1 with Two := (!v1_1.1.Two) })) ?_)
    refine rend ?_
    refine c_inb ?_
    refine c_seq ?_
    refine r_start ?_
    refine xq rfl (y_load (.agg (eSign ({ v1_1.1 with Two := (!v1_1.1.Two) })).toArray) 2 g1_2 0) ?_
    refine xx rfl (x_sto 1 g0_0 0 (eSign ({ v1_1.1 with Two := (!v1_1.1.Two) })) ?_)
    refine rend ?_
    replace h := H.done h
    subst h
    exact ret func116 rfl (vs := [.agg (eSign ({ v1_1.1 with Two := (!v1_1.1.Two) })).toArray]) (.cell 1 g0_0 rfl (by kernel_rfl) (by kernel_rfl) .nil) rfl (fun W S => S.retQ)
  replace h := H.f q2 h
  refine c_seq ?_
  refine r_start ?_
  refine p 2 ?_
  refine rend ?_
  refine c_or (v2_1.1 == 2) (fun q3 => ?_) (fun q3 => ?_)
  · replace h := H.t q3 h
    refine c_seq ?_
    refine r_start ?_
    refine p 1 ?_
    refine xx rfl (x_sto 2 g1_2 13 (eSign ({ v1_1.1 with Two := true })) ?_)
    refine rend ?_
    refine r_start ?_
    refine p 1 ?_
    obtain ⟨v9_1, hv9_1, h⟩ := H.call h
    refine xx rfl (e_cq (cs' := [.slice A0 (List.length a0) k0, .int .i64 v9_1.2.1, .int .u64 v9_1.2.2]) (v := .agg (eHand v9_1.1).toArray) 0 [.pointer (some ⟨g0, 0, none⟩)] func88 (fun W S => C.s_l1Cur_anyHand W hv9_1 (S.bx 0) ((s_argN h0 q0).out W S) q0) ?_)
    refine p 1 ?_
    refine xx rfl (x_sto 2 g1_2 14 (eSign (⟨v1_1.1.Main, true, v9_1.1⟩ : Sign)) ?_)
    refine rend ?_
    refine c_inb ?_
    refine c_seq ?_
    refine r_start ?_
    refine xq rfl (y_load (.agg (eSign (⟨v1_1.1.Main, true, v9_1.1⟩ : Sign)).toArray) 2 g1_2 0) ?_
    refine xx rfl (x_sto 1 g0_0 0 (eSign (⟨v1_1.1.Main, true, v9_1.1⟩ : Sign)) ?_)
    refine rend ?_
    replace h := H.done h
    subst h
    exact ret func116 rfl (vs := [.agg (eSign (⟨v1_1.1.Main, true, v9_1.1⟩ : Sign)).toArray]) (.cell 1 g0_0 rfl (by kernel_rfl) (by kernel_rfl) .nil) rfl (fun W S => S.retQ)
  replace h := H.f q3 h
  refine c_skip ?_
  refine c_inb ?_
  refine c_seq ?_
  refine r_start ?_
  refine xq rfl (y_load (.agg (eSign v1_1.1).toArray) 2 g1_2 0) ?_
  refine xx rfl (x_sto 1 g0_0 0 (eSign v1_1.1) ?_)
  refine rend ?_
  replace h := H.done h
  subst h
  exact ret func116 rfl (vs := [.agg (eSign v1_1.1).toArray]) (.cell 1 g0_0 rfl (by kernel_rfl) (by kernel_rfl) .nil) rfl (fun W S => S.retQ)
theorem C.strings_Join {a0 : List Str} {A0 : Option Addr} {k0 : Nat} {a1 r : Str} (w : World) (h : X.strings_Join a0 a1 = some r) (h0 : RdT eS w (.slice A0 (List.length a0) k0) a0) : Calls prog 178 #[.slice A0 (List.length a0) k0, .string (bs a1)] w (Ret w (.string (bs r))) := by
  unfold X.strings_Join at h
  split at h
  · rename_i hc
    obtain ⟨h1, h2⟩ := hc
    obtain rfl := Option.some.inj h
    by_cases hn : a0.length = 0
    · have ha : a0 = [] := List.eq_nil_of_length_eq_zero hn
      subst ha
      refine (Tryz.strings_Join_none A0 k0 (bs a1) w).mono ?_
      rintro e w' ⟨rfl, rfl⟩
      exact ⟨rfl, Below.refl _ _⟩
    · obtain ⟨A2, c2, e1, _, _, hcp, h4⟩ := h0
      injection e1 with e1 _ e3
      subst e1
      subst e3
      obtain ⟨b, off, rfl, hb, hcl⟩ := h4 (by omega)
      have hm : (a0.map bs).map (fun x => x.data.toList) = a0 := by
        rw [List.map_map]
        exact List.map_id _
      have := Tryz.strings_Join b off k0 (a0.map bs) (bs a1) w (fun j x hj => by
        rw [List.getElem?_map] at hj
        obtain ⟨y, hy, rfl⟩ := Option.map_eq_some_iff.1 hj
        have := hcl _ _ (eS.flat_get (j := 0) hy rfl)
        simpa [eS] using this) hb (by simpa using h2) (by simpa using hcp) (by rw [hm]; exact h1)
      rw [hm, List.length_map] at this
      exact this
  · cases h
theorem C.i_Orient_text {a0 : Orient} {r : Str} (w : World) (h : X.i_Orient_text a0 = some r) : Calls prog 180 #[.agg (eOrient a0).toArray] w (Ret w (.string (bs r))) := by
  refine calls (M := no) (args := [.agg (eOrient a0).toArray]) func180 rfl ?_
  replace h : H (X.i_Orient_text a0) (fun o => o = r) := H.mk h
  unfold X.i_Orient_text at h
  refine c_seq ?_
  refine r_start ?_
  refine xx rfl (x_box (eOrient a0) fun g0_0 => ?_)
  refine p 1 ?_
  refine rend ?_
  refine c_seq ?_
  refine as_start 14 14 ?_
  refine ap 0 1 ?_
  refine aq 1 rfl (y_load (.int .i64 a0.Palm) 0 g0_0 0) ?_
  refine ap 2 1 ?_
  refine aq 3 rfl (y_load (.int .i64 a0.Palm) 0 g0_0 0) ?_
  refine ap 4 1 ?_
  obtain ⟨y1_5, hy1_5, h⟩ := H.call h
  refine aq 5 rfl (y_cut hy1_5) ?_
  refine ap 6 1 ?_
  refine aq 7 rfl (y_load (.int .i64 a0.Fingers) 0 g0_0 1) ?_
  refine ap 8 1 ?_
  refine aq 9 rfl (y_load (.int .i64 a0.Fingers) 0 g0_0 1) ?_
  refine ap 10 1 ?_
  obtain ⟨y1_11, hy1_11, h⟩ := H.call h
  refine aq 11 rfl (y_cut hy1_11) ?_
  obtain ⟨y1_12, hy1_12, h⟩ := H.call h
  refine aq 12 rfl (y_cat hy1_12) ?_
  refine ap 13 1 ?_
  refine a_done ?_
  replace h := H.done h
  subst h
  exact ret func180 rfl (vs := [.string (bs y1_12)]) (.tmp (by kernel_rfl) .nil) rfl (fun W S => ⟨rfl, S.below⟩)
theorem C.i_Place_text {a0 : Place} {r : Str} (w : World) (h : X.i_Place_text a0 = some r) : Calls prog 181 #[.agg (ePlace a0).toArray] w (Ret w (.string (bs r))) := by
  refine calls (M := no) (args := [.agg (ePlace a0).toArray]) func181 rfl ?_
  replace h : H (X.i_Place_text a0) (fun o => o = r) := H.mk h
  unfold X.i_Place_text at h
  refine c_seq ?_
  refine r_start ?_
  refine xx rfl (x_box (ePlace a0) fun g0_0 => ?_)
  refine p 1 ?_
  refine rend ?_
  refine c_seq ?_
  refine r_start ?_
  refine p 1 ?_
  refine xx rfl (x_new (Enc.flat eS ([([] : Str), ([] : Str), ([] : Str), ([] : Str), ([] : Str), ([] : Str), ([] : Str), ([] : Str), ([] : Str), ([] : Str)] : List Str)) fun g1_1 => ?_)
  refine xx rfl (x_sto 1 g1_1 0 (Enc.flat eS ([([115, 112, 97, 99, 101] : Str), ([104, 101, 97, 100] : Str), ([101, 121, 101] : Str), ([99, 104, 101, 101, 107] : Str), ([109, 111, 117, 116, 104] : Str), ([99, 104, 105, 110] : Str), ([110, 101, 99, 107] : Str), ([99, 104, 101, 115, 116] : Str), ([119, 97, 105, 115, 116] : Str), ([104, 105, 112] : Str)] : List Str)) ?_)
  refine rend ?_
  refine c_seq ?_
  refine as_start 11 11 ?_
  refine ap 0 1 ?_
  refine aq 1 rfl (y_load (.int .i64 a0.Region) 0 g0_0 0) ?_
  obtain ⟨y2_2, hy2_2, h⟩ := H.call h
  refine aq 2 rfl (y_arp (e := eS) (el := 9) (g := g1_1) hy2_2) ?_
  refine aq 3 rfl (y_arl (e := eS) 1 (.string (bs y2_2)) hy2_2) ?_
  refine ap 4 2 ?_
  refine aq 6 rfl (y_load (.int .i64 a0.Side) 0 g0_0 1) ?_
  refine ap 7 1 ?_
  obtain ⟨y2_8, hy2_8, h⟩ := H.call h
  refine aq 8 rfl (y_arr (e := eS) (el := 9) (.string (bs y2_8)) hy2_8) ?_
  obtain ⟨y2_9, hy2_9, h⟩ := H.call h
  refine aq 9 rfl (y_cat hy2_9) ?_
  refine ap 10 1 ?_
  refine a_done ?_
  refine c_seq ?_
  refine c_seq ?_
  refine r_start ?_
  refine p 1 ?_
  refine xq rfl (y_load (.bool a0.Contact) 0 g0_0 2) ?_
  refine rend ?_
  refine c_or a0.Contact (fun q1 => ?_) (fun q1 => ?_)
  · replace h := H.t q1 h
    refine r_start ?_
    refine p 1 ?_
    obtain ⟨y4_1, hy4_1, h⟩ := H.call h
    refine xq rfl (y_cat hy4_1) ?_
    refine p 1 ?_
    refine rend ?_
    refine c_seq ?_
    refine r_start ?_
    refine p 2 ?_
    refine rend ?_
    replace h := H.done h
    subst h
    exact ret func181 rfl (vs := [.string (bs y4_1)]) (.tmp (by kernel_rfl) .nil) rfl (fun W S => ⟨rfl, S.below⟩)
  replace h := H.f q1 h
  refine c_skip ?_
  refine c_seq ?_
  refine r_start ?_
  refine p 2 ?_
  refine rend ?_
  replace h := H.done h
  subst h
  exact ret func181 rfl (vs := [.string (bs y2_9)]) (.tmp (by kernel_rfl) .nil) rfl (fun W S => ⟨rfl, S.below⟩)
theorem C.i_Move_text {a0 : Move} {r : Str} (w : World) (h : X.i_Move_text a0 = some r) : Calls prog 182 #[.agg (eMove a0).toArray] w (Ret w (.string (bs r))) := by
  refine calls (M := no) (args := [.agg (eMove a0).toArray]) func182 rfl ?_
  replace h : H (X.i_Move_text a0) (fun o => o = r) := H.mk h
  unfold X.i_Move_text at h
  refine c_seq ?_
  refine r_start ?_
  refine xx rfl (x_box (eMove a0) fun g0_0 => ?_)
  refine p 1 ?_
  refine rend ?_
  refine c_seq ?_
  refine c_block ?_
  refine c_seq ?_
  refine r_start ?_
  refine p 1 ?_
  refine xq rfl (y_load (.string (bs a0.Steps)) 0 g0_0 0) ?_
  refine p 2 ?_
  refine rend ?_
  refine c_or (seq a0.Steps ([] : Str)) (fun q1 => ?_) (fun q1 => ?_)
  · replace h := H.t q1 h
    refine c_seq ?_
    refine r_start ?_
    refine p 1 ?_
    refine rend ?_
    replace h := H.done h
    subst h
    exact ret func182 rfl (vs := [.string (bs ([45] : Str))]) (.tmp (by kernel_rfl) .nil) rfl (fun W S => ⟨rfl, S.below⟩)
  replace h := H.f q1 h
  refine c_seq ?_
  refine r_start ?_
  refine p 1 ?_
  refine xq rfl (y_load (.int .i64 a0.Repeat) 0 g0_0 1) ?_
  refine p 2 ?_
  refine rend ?_
  refine c_or (a0.Repeat == 1) (fun q2 => ?_) (fun q2 => ?_)
  · replace h := H.t q2 h
    refine c_seq ?_
    refine r_start ?_
    refine p 1 ?_
    refine xq rfl (y_load (.string (bs a0.Steps)) 0 g0_0 0) ?_
    refine p 1 ?_
    refine rend ?_
    replace h := H.done h
    subst h
    exact ret func182 rfl (vs := [.string (bs a0.Steps)]) (.tmp (by kernel_rfl) .nil) rfl (fun W S => ⟨rfl, S.below⟩)
  replace h := H.f q2 h
  refine c_skip ?_
  refine c_inb ?_
  refine c_seq ?_
  refine as_start 8 8 ?_
  refine ap 0 1 ?_
  refine aq 1 rfl (y_load (.string (bs a0.Steps)) 0 g0_0 0) ?_
  obtain ⟨y5_2, hy5_2, h⟩ := H.call h
  refine aq 2 rfl (y_cat hy5_2) ?_
  refine ap 3 1 ?_
  refine aq 4 rfl (y_load (.int .i64 a0.Repeat) 0 g0_0 1) ?_
  obtain ⟨v5_5, hv5_5, h⟩ := H.call h
  refine aq 5 rfl (y_call [.int .i64 a0.Repeat] (.string (bs v5_5)) func229 (fun W S => C.strconv_Itoa W hv5_5)) ?_
  obtain ⟨y5_6, hy5_6, h⟩ := H.call h
  refine aq 6 rfl (y_cat hy5_6) ?_
  refine ap 7 1 ?_
  refine a_done ?_
  replace h := H.done h
  subst h
  exact ret func182 rfl (vs := [.string (bs y5_6)]) (.tmp (by kernel_rfl) .nil) rfl (fun W S => ⟨rfl, S.below⟩)
theorem C.i_Hand_text {a0 : Hand} {r : Str} (w : World) (h : X.i_Hand_text a0 = some r) : Calls prog 111 #[.agg (eHand a0).toArray] w (Ret w (.string (bs r))) := by
  refine calls (M := no) (args := [.agg (eHand a0).toArray]) func111 rfl ?_
  replace h : H (X.i_Hand_text a0) (fun o => o = r) := H.mk h
  unfold X.i_Hand_text at h
  refine c_seq ?_
  refine r_start ?_
  refine xx rfl (x_box (eHand a0) fun g0_0 => ?_)
  refine p 1 ?_
  refine rend ?_
  refine c_seq ?_
  refine as_start 15 15 ?_
  refine ap 0 1 ?_
  refine aq 1 rfl (y_load (.agg (eShape a0.Shape).toArray) 0 g0_0 0) ?_
  obtain ⟨v1_2, hv1_2, h⟩ := H.call h
  refine aq 2 rfl (y_call [.agg (eShape a0.Shape).toArray] (.string (bs v1_2)) func179 (fun W S => C.i_Shape_text W hv1_2)) ?_
  refine ap 3 1 ?_
  refine aq 4 rfl (y_load (.agg (eOrient a0.Orient).toArray) 0 g0_0 6) ?_
  obtain ⟨v1_5, hv1_5, h⟩ := H.call h
  refine aq 5 rfl (y_call [.agg (eOrient a0.Orient).toArray] (.string (bs v1_5)) func180 (fun W S => C.i_Orient_text W hv1_5)) ?_
  refine ap 6 1 ?_
  refine aq 7 rfl (y_load (.agg (ePlace a0.Place).toArray) 0 g0_0 8) ?_
  obtain ⟨v1_8, hv1_8, h⟩ := H.call h
  refine aq 8 rfl (y_call [.agg (ePlace a0.Place).toArray] (.string (bs v1_8)) func181 (fun W S => C.i_Place_text W hv1_8)) ?_
  refine ap 9 1 ?_
  refine aq 10 rfl (y_load (.agg (eMove a0.Move).toArray) 0 g0_0 11) ?_
  obtain ⟨v1_11, hv1_11, h⟩ := H.call h
  refine aq 11 rfl (y_call [.agg (eMove a0.Move).toArray] (.string (bs v1_11)) func182 (fun W S => C.i_Move_text W hv1_11)) ?_
  refine ax 12 rfl (e_lit (e := eS) (el := 9) [.string (bs v1_2), .string (bs v1_5), .string (bs v1_8), .string (bs v1_11)] ([v1_2, v1_5, v1_8, v1_11] : List Str) fun A1_12 k1_12 => ⟨.inr (by kernel_rfl), ?_⟩)
  obtain ⟨v1_13, hv1_13, h⟩ := H.call h
  refine ax 13 rfl (e_y (y_call [.slice A1_12 (List.length ([v1_2, v1_5, v1_8, v1_11] : List Str)) k1_12, .string (bs ([47] : Str))] (.string (bs v1_13)) func178 (fun W S => C.strings_Join W hv1_13 ((s_own 1).out W S))) ⟨.inr (by kernel_rfl), ?_⟩)
  refine ap 14 1 ?_
  refine a_done ?_
  replace h := H.done h
  subst h
  exact ret func111 rfl (vs := [.string (bs v1_13)]) (.tmp (by kernel_rfl) .nil) rfl (fun W S => ⟨rfl, S.below⟩)
theorem C.s_l1Num {fu : Nat} {a0 : Int} {r : Str} (w : World) (h : X.s_l1Num fu a0 = some r) : Calls prog 230 #[.int .i64 a0] w (Ret w (.string (bs r))) := by
  induction fu generalizing a0 r w with
  | zero => cases h
  | succ fu ih =>
  refine calls (M := no) (args := [.int .i64 a0]) func230 rfl ?_
  replace h : H (X.s_l1Num (fu + 1) a0) (fun o => o = r) := H.mk h
  rw [X.s_l1Num] at h
  refine c_seq ?_
  refine r_start ?_
  refine p 1 ?_
  refine rend ?_
  refine c_seq ?_
  refine c_seq ?_
  refine r_start ?_
  refine p 2 ?_
  refine rend ?_
  refine c_or (decide (a0 < 10)) (fun q1 => ?_) (fun q1 => ?_)
  · replace h := H.t q1 h
    refine c_seq ?_
    refine r_start ?_
    refine p 3 ?_
    refine xx rfl (e_lit (e := (eI .u8)) (el := 5) [.int .u8 (wk .u8 (wr (48 + a0)))] ([(wk .u8 (wr (48 + a0)))] : List Int) fun A2_3 k2_3 => ?_)
    refine xq rfl (y_conv (el := 5) (s_own 0)) ?_
    refine p 1 ?_
    refine rend ?_
    replace h := H.done h
    subst h
    exact ret func230 rfl (vs := [.string (bs (strOf ([(wk .u8 (wr (48 + a0)))] : List Int)))]) (.tmp (by kernel_rfl) .nil) rfl (fun W S => ⟨rfl, S.below⟩)
  replace h := H.f q1 h
  refine c_skip ?_
  refine c_seq ?_
  refine as_start 11 11 ?_
  refine ap 0 2 ?_
  obtain ⟨v3_2, hv3_2, h⟩ := H.call h
  refine aq 2 rfl (y_call [.int .i64 (wr (Int.tdiv a0 10))] (.string (bs v3_2)) func230 (fun W S => ih W hv3_2)) ?_
  refine ap 3 4 ?_
  refine ax 7 rfl (e_lit (e := (eI .u8)) (el := 5) [.int .u8 (wk .u8 (wr (48 + (Int.tmod a0 10))))] ([(wk .u8 (wr (48 + (Int.tmod a0 10))))] : List Int) fun A3_7 k3_7 => ⟨.inr (by kernel_rfl), ?_⟩)
  refine ax 8 rfl (e_y (y_conv (el := 5) (s_own 0)) ⟨.inr (by kernel_rfl), ?_⟩)
  obtain ⟨y3_9, hy3_9, h⟩ := H.call h
  refine aq 9 rfl (y_cat hy3_9) ?_
  refine ap 10 1 ?_
  refine a_done ?_
  replace h := H.done h
  subst h
  exact ret func230 rfl (vs := [.string (bs y3_9)]) (.tmp (by kernel_rfl) .nil) rfl (fun W S => ⟨rfl, S.below⟩)
theorem C.s_shText {fu : Nat} {a0 : Shape} {r : Str} (w : World) (h : X.s_shText fu a0 = some r) : Calls prog 183 #[.agg (eShape a0).toArray] w (Ret w (.string (bs r))) := by
  refine calls (M := no) (args := [.agg (eShape a0).toArray]) func183 rfl ?_
  replace h : H (X.s_shText fu a0) (fun o => o = r) := H.mk h
  unfold X.s_shText at h
  refine c_seq ?_
  refine r_start ?_
  refine xx rfl (x_box (eShape a0) fun g0_0 => ?_)
  refine p 1 ?_
  refine rend ?_
  refine c_seq ?_
  refine r_start ?_
  refine p 1 ?_
  refine xq rfl (y_load (.int .i64 a0.Thumb) 0 g0_0 0) ?_
  obtain ⟨v1_2, hv1_2, h⟩ := H.call h
  refine xq rfl (y_call [.int .i64 a0.Thumb] (.string (bs v1_2)) func230 (fun W S => C.s_l1Num W hv1_2)) ?_
  refine p 1 ?_
  refine rend ?_
  refine c_seq ?_
  refine c_seq ?_
  refine r_start ?_
  refine xq rfl (y_load (.agg (eShape a0).toArray) 0 g0_0 0) ?_
  obtain ⟨v2_1, hv2_1, h⟩ := H.call h
  refine xx rfl (e_cr [.agg (eShape a0).toArray] (fun v => v) func215 (fun W S => C.s_shFingers W hv2_1) fun A2_1 k2_1 => ?_)
  refine p 2 ?_
  refine rend ?_
  refine c_block ?_
  refine joinH (X := Str) 0 (H.bnd h) (fun (x : Str) => x) (fun t2 => [box g0_0 25 (eShape a0), rowT (eI .i64) w.heap.size 3 (.slice A2_1 (List.length v2_1) k2_1) v2_1]) (fun t2 u => (jk u 0 1 (.pointer (some ⟨g0_0, 0, none⟩) :: (jk u 2 1 (.string (bs t2) :: (jk u 4 22 [])))))) (fun h hj3 => ?_) ?_
  · skip
    refine rangeR (X := Str) (s_own 1) (fun (x : Str) => x) (fun t1 => [box g0_0 25 (eShape a0), rowT (eI .i64) w.heap.size 3 (.slice A2_1 (List.length v2_1) k2_1) v2_1]) (fun (j4 : Nat) t1 u => (jk u 0 1 (.pointer (some ⟨g0_0, 0, none⟩) :: (jk u 2 1 (.string (bs t1) :: (jk u 4 6 (.slice A2_1 (List.length v2_1) k2_1 :: .int .i64 (List.length v2_1 : Int) :: .int .i64 (j4 : Int) :: (jk u 13 13 [])))))))) v1_2 h (by kernel_rfl) (by kernel_rfl) ?_ ?_
    · intro j4 t1 u x5 q6 hg7 hw8 h
      refine c_seq ?_
      refine r_start ?_
      refine p 1 ?_
      refine rend ?_
      refine c_seq ?_
      refine c_yes q6 ?_
      refine c_skip ?_
      refine c_seq ?_
      refine c_block ?_
      refine c_seq ?_
      refine r_start ?_
      refine xq rfl (y_idx (e := (eI .i64)) (el := 3) hg7 (s_own 1)) ?_
      refine xq rfl (y_el (e := (eI .i64)) 0 (.int .i64 x5) hg7 (s_own 1)) ?_
      refine p 1 ?_
      refine rend ?_
      refine r_start ?_
      refine p 2 ?_
      obtain ⟨v5_2, hv5_2, h⟩ := H.call h
      refine xq rfl (y_call [.int .i64 x5] (.string (bs v5_2)) func230 (fun W S => C.s_l1Num W hv5_2)) ?_
      obtain ⟨y5_3, hy5_3, h⟩ := H.call h
      refine xq rfl (y_cat hy5_3) ?_
      refine p 1 ?_
      refine rend ?_
      refine c_inb ?_
      refine r_start ?_
      refine p 2 ?_
      refine rend ?_
      refine c_set 12 (ci hw8) ?_
      replace h := H.inl h
      exact h y5_3 _ _ rfl (by kernel_rfl) (by kernel_rfl)
    · intro t1 u q6 h
      refine c_seq ?_
      refine r_start ?_
      refine p 1 ?_
      refine rend ?_
      refine c_seq ?_
      refine c_no q6 ?_
      refine cx ?_
      replace h := H.done h
      exact hj3 t1 _ _ h (by kernel_rfl) (by kernel_rfl)
  intro t2 u h
  refine c_seq ?_
  refine c_seq ?_
  refine r_start ?_
  refine p 1 ?_
  refine xq rfl (y_load (.bool a0.Spread) 0 g0_0 5) ?_
  refine rend ?_
  refine c_or a0.Spread (fun q9 => ?_) (fun q9 => ?_)
  · replace h := H.t q9 h
    refine r_start ?_
    refine p 1 ?_
    obtain ⟨y8_1, hy8_1, h⟩ := H.call h
    refine xq rfl (y_cat hy8_1) ?_
    refine p 1 ?_
    refine rend ?_
    refine c_seq ?_
    refine r_start ?_
    refine p 2 ?_
    refine rend ?_
    replace h := H.done h
    subst h
    exact ret func183 rfl (vs := [.string (bs y8_1)]) (.tmp (by kernel_rfl) .nil) rfl (fun W S => ⟨rfl, S.below⟩)
  replace h := H.f q9 h
  refine c_skip ?_
  refine c_seq ?_
  refine r_start ?_
  refine p 2 ?_
  refine rend ?_
  replace h := H.done h
  subst h
  exact ret func183 rfl (vs := [.string (bs t2)]) (.tmp (by kernel_rfl) .nil) rfl (fun W S => ⟨rfl, S.below⟩)
theorem C.s_orText {a0 : Orient} {r : Str} (w : World) (h : X.s_orText a0 = some r) : Calls prog 184 #[.agg (eOrient a0).toArray] w (Ret w (.string (bs r))) := by
  refine calls (M := no) (args := [.agg (eOrient a0).toArray]) func184 rfl ?_
  replace h : H (X.s_orText a0) (fun o => o = r) := H.mk h
  unfold X.s_orText at h
  refine c_seq ?_
  refine r_start ?_
  refine xx rfl (x_box (eOrient a0) fun g0_0 => ?_)
  refine p 1 ?_
  refine rend ?_
  refine c_seq ?_
  refine as_start 14 14 ?_
  refine ap 0 1 ?_
  refine aq 1 rfl (y_load (.int .i64 a0.Palm) 0 g0_0 0) ?_
  refine ap 2 1 ?_
  refine aq 3 rfl (y_load (.int .i64 a0.Palm) 0 g0_0 0) ?_
  refine ap 4 1 ?_
  obtain ⟨y1_5, hy1_5, h⟩ := H.call h
  refine aq 5 rfl (y_cut hy1_5) ?_
  refine ap 6 1 ?_
  refine aq 7 rfl (y_load (.int .i64 a0.Fingers) 0 g0_0 1) ?_
  refine ap 8 1 ?_
  refine aq 9 rfl (y_load (.int .i64 a0.Fingers) 0 g0_0 1) ?_
  refine ap 10 1 ?_
  obtain ⟨y1_11, hy1_11, h⟩ := H.call h
  refine aq 11 rfl (y_cut hy1_11) ?_
  obtain ⟨y1_12, hy1_12, h⟩ := H.call h
  refine aq 12 rfl (y_cat hy1_12) ?_
  refine ap 13 1 ?_
  refine a_done ?_
  replace h := H.done h
  subst h
  exact ret func184 rfl (vs := [.string (bs y1_12)]) (.tmp (by kernel_rfl) .nil) rfl (fun W S => ⟨rfl, S.below⟩)
theorem C.s_plNames {r : (List Str)} (w : World) (h : X.s_plNames = some r) : Calls prog 231 #[] w (RetR eS 9 w r (fun v => v)) := by
  refine calls (M := no) (args := []) func231 rfl ?_
  replace h : H (X.s_plNames) (fun o => o = r) := H.mk h
  unfold X.s_plNames at h
  refine c_seq ?_
  refine r_start ?_
  refine p 1 ?_
  refine rend ?_
  refine c_seq ?_
  refine r_start ?_
  refine xx rfl (e_lit (e := eS) (el := 9) [.string (bs ([115, 112, 97, 99, 101] : Str)), .string (bs ([104, 101, 97, 100] : Str)), .string (bs ([101, 121, 101] : Str)), .string (bs ([99, 104, 101, 101, 107] : Str)), .string (bs ([109, 111, 117, 116, 104] : Str)), .string (bs ([99, 104, 105, 110] : Str)), .string (bs ([110, 101, 99, 107] : Str)), .string (bs ([99, 104, 101, 115, 116] : Str)), .string (bs ([119, 97, 105, 115, 116] : Str)), .string (bs ([104, 105, 112] : Str))] ([([115, 112, 97, 99, 101] : Str), ([104, 101, 97, 100] : Str), ([101, 121, 101] : Str), ([99, 104, 101, 101, 107] : Str), ([109, 111, 117, 116, 104] : Str), ([99, 104, 105, 110] : Str), ([110, 101, 99, 107] : Str), ([99, 104, 101, 115, 116] : Str), ([119, 97, 105, 115, 116] : Str), ([104, 105, 112] : Str)] : List Str) fun A1_0 k1_0 => ?_)
  refine p 1 ?_
  refine rend ?_
  replace h := H.done h
  subst h
  exact ret func231 rfl (vs := [.slice A1_0 (List.length ([([115, 112, 97, 99, 101] : Str), ([104, 101, 97, 100] : Str), ([101, 121, 101] : Str), ([99, 104, 101, 101, 107] : Str), ([109, 111, 117, 116, 104] : Str), ([99, 104, 105, 110] : Str), ([110, 101, 99, 107] : Str), ([99, 104, 101, 115, 116] : Str), ([119, 97, 105, 115, 116] : Str), ([104, 105, 112] : Str)] : List Str)) k1_0]) (.tmp (by kernel_rfl) .nil) rfl (fun W S => ⟨_, _, rfl, S.row 0, S.below⟩)
theorem C.s_plText {a0 : Place} {r : Str} (w : World) (h : X.s_plText a0 = some r) : Calls prog 185 #[.agg (ePlace a0).toArray] w (Ret w (.string (bs r))) := by
  refine calls (M := no) (args := [.agg (ePlace a0).toArray]) func185 rfl ?_
  replace h : H (X.s_plText a0) (fun o => o = r) := H.mk h
  unfold X.s_plText at h
  refine c_seq ?_
  refine r_start ?_
  refine xx rfl (x_box (ePlace a0) fun g0_0 => ?_)
  refine p 1 ?_
  refine rend ?_
  refine c_seq ?_
  refine as_start 6 6 ?_
  refine ap 1 1 ?_
  refine aq 2 rfl (y_load (.int .i64 a0.Region) 0 g0_0 0) ?_
  obtain ⟨v1_0, hv1_0, h⟩ := H.call h
  refine ax 0 rfl (e_cr [] (fun v => v) func231 (fun W S => C.s_plNames W hv1_0) fun A1_0 k1_0 => ⟨.inr (by kernel_rfl), ?_⟩)
  obtain ⟨y1_3, hy1_3, h⟩ := H.call h
  refine ax 3 rfl (e_y (y_idx (e := eS) (el := 9) hy1_3 (s_own 1)) ⟨.inr (by kernel_rfl), ?_⟩)
  refine ax 4 rfl (e_y (y_el (e := eS) 0 (.string (bs y1_3)) hy1_3 (s_own 1)) ⟨.inr (by kernel_rfl), ?_⟩)
  refine ap 5 1 ?_
  refine a_done ?_
  refine c_seq ?_
  refine c_seq ?_
  refine r_start ?_
  refine p 1 ?_
  refine xq rfl (y_load (.int .i64 a0.Side) 0 g0_0 1) ?_
  refine rend ?_
  refine c_block ?_
  refine c_seq ?_
  refine r_start ?_
  refine p 2 ?_
  refine rend ?_
  refine c_or (a0.Side == (-1)) (fun q1 => ?_) (fun q1 => ?_)
  · replace h := H.t q1 h
    refine r_start ?_
    refine p 1 ?_
    obtain ⟨y4_1, hy4_1, h⟩ := H.call h
    refine xq rfl (y_cat hy4_1) ?_
    refine p 1 ?_
    refine rend ?_
    refine c_inb ?_
    refine c_seq ?_
    refine c_seq ?_
    refine r_start ?_
    refine p 1 ?_
    refine xq rfl (y_load (.bool a0.Contact) 0 g0_0 2) ?_
    refine rend ?_
    refine c_or a0.Contact (fun q2 => ?_) (fun q2 => ?_)
    · replace h := H.t q2 h
      refine r_start ?_
      refine p 1 ?_
      obtain ⟨y8_1, hy8_1, h⟩ := H.call h
      refine xq rfl (y_cat hy8_1) ?_
      refine p 1 ?_
      refine rend ?_
      refine c_seq ?_
      refine r_start ?_
      refine p 2 ?_
      refine rend ?_
      replace h := H.done h
      subst h
      exact ret func185 rfl (vs := [.string (bs y8_1)]) (.tmp (by kernel_rfl) .nil) rfl (fun W S => ⟨rfl, S.below⟩)
    replace h := H.f q2 h
    refine c_skip ?_
    refine c_seq ?_
    refine r_start ?_
    refine p 2 ?_
    refine rend ?_
    replace h := H.done h
    subst h
    exact ret func185 rfl (vs := [.string (bs y4_1)]) (.tmp (by kernel_rfl) .nil) rfl (fun W S => ⟨rfl, S.below⟩)
  replace h := H.f q1 h
  refine c_seq ?_
  refine r_start ?_
  refine p 2 ?_
  refine rend ?_
  refine c_or (a0.Side == 1) (fun q3 => ?_) (fun q3 => ?_)
  · replace h := H.t q3 h
    refine r_start ?_
    refine p 1 ?_
    obtain ⟨y6_1, hy6_1, h⟩ := H.call h
    refine xq rfl (y_cat hy6_1) ?_
    refine p 1 ?_
    refine rend ?_
    refine c_inb ?_
    refine c_seq ?_
    refine c_seq ?_
    refine r_start ?_
    refine p 1 ?_
    refine xq rfl (y_load (.bool a0.Contact) 0 g0_0 2) ?_
    refine rend ?_
    refine c_or a0.Contact (fun q4 => ?_) (fun q4 => ?_)
    · replace h := H.t q4 h
      refine r_start ?_
      refine p 1 ?_
      obtain ⟨y8_1, hy8_1, h⟩ := H.call h
      refine xq rfl (y_cat hy8_1) ?_
      refine p 1 ?_
      refine rend ?_
      refine c_seq ?_
      refine r_start ?_
      refine p 2 ?_
      refine rend ?_
      replace h := H.done h
      subst h
      exact ret func185 rfl (vs := [.string (bs y8_1)]) (.tmp (by kernel_rfl) .nil) rfl (fun W S => ⟨rfl, S.below⟩)
    replace h := H.f q4 h
    refine c_skip ?_
    refine c_seq ?_
    refine r_start ?_
    refine p 2 ?_
    refine rend ?_
    replace h := H.done h
    subst h
    exact ret func185 rfl (vs := [.string (bs y6_1)]) (.tmp (by kernel_rfl) .nil) rfl (fun W S => ⟨rfl, S.below⟩)
  replace h := H.f q3 h
  refine c_skip ?_
  refine c_inb ?_
  refine c_seq ?_
  refine c_seq ?_
  refine r_start ?_
  refine p 1 ?_
  refine xq rfl (y_load (.bool a0.Contact) 0 g0_0 2) ?_
  refine rend ?_
  refine c_or a0.Contact (fun q5 => ?_) (fun q5 => ?_)
  · replace h := H.t q5 h
    refine r_start ?_
    refine p 1 ?_
    obtain ⟨y8_1, hy8_1, h⟩ := H.call h
    refine xq rfl (y_cat hy8_1) ?_
    refine p 1 ?_
    refine rend ?_
    refine c_seq ?_
    refine r_start ?_
    refine p 2 ?_
    refine rend ?_
    replace h := H.done h
    subst h
    exact ret func185 rfl (vs := [.string (bs y8_1)]) (.tmp (by kernel_rfl) .nil) rfl (fun W S => ⟨rfl, S.below⟩)
  replace h := H.f q5 h
  refine c_skip ?_
  refine c_seq ?_
  refine r_start ?_
  refine p 2 ?_
  refine rend ?_
  replace h := H.done h
  subst h
  exact ret func185 rfl (vs := [.string (bs y1_3)]) (.tmp (by kernel_rfl) .nil) rfl (fun W S => ⟨rfl, S.below⟩)
theorem C.s_mvText {fu : Nat} {a0 : Move} {r : Str} (w : World) (h : X.s_mvText fu a0 = some r) : Calls prog 186 #[.agg (eMove a0).toArray] w (Ret w (.string (bs r))) := by
  refine calls (M := no) (args := [.agg (eMove a0).toArray]) func186 rfl ?_
  replace h : H (X.s_mvText fu a0) (fun o => o = r) := H.mk h
  unfold X.s_mvText at h
  refine c_seq ?_
  refine r_start ?_
  refine xx rfl (x_box (eMove a0) fun g0_0 => ?_)
  refine p 1 ?_
  refine rend ?_
  refine c_seq ?_
  refine c_block ?_
  refine c_seq ?_
  refine r_start ?_
  refine p 1 ?_
  refine xq rfl (y_load (.string (bs a0.Steps)) 0 g0_0 0) ?_
  refine p 2 ?_
  refine rend ?_
  refine c_or (seq a0.Steps ([] : Str)) (fun q1 => ?_) (fun q1 => ?_)
  · replace h := H.t q1 h
    refine c_seq ?_
    refine r_start ?_
    refine p 1 ?_
    refine rend ?_
    replace h := H.done h
    subst h
    exact ret func186 rfl (vs := [.string (bs ([45] : Str))]) (.tmp (by kernel_rfl) .nil) rfl (fun W S => ⟨rfl, S.below⟩)
  replace h := H.f q1 h
  refine c_seq ?_
  refine r_start ?_
  refine p 1 ?_
  refine xq rfl (y_load (.int .i64 a0.Repeat) 0 g0_0 1) ?_
  refine p 2 ?_
  refine rend ?_
  refine c_or (decide (a0.Repeat > 1)) (fun q2 => ?_) (fun q2 => ?_)
  · replace h := H.t q2 h
    refine c_seq ?_
    refine as_start 8 8 ?_
    refine ap 0 1 ?_
    refine aq 1 rfl (y_load (.string (bs a0.Steps)) 0 g0_0 0) ?_
    obtain ⟨y4_2, hy4_2, h⟩ := H.call h
    refine aq 2 rfl (y_cat hy4_2) ?_
    refine ap 3 1 ?_
    refine aq 4 rfl (y_load (.int .i64 a0.Repeat) 0 g0_0 1) ?_
    obtain ⟨v4_5, hv4_5, h⟩ := H.call h
    refine aq 5 rfl (y_call [.int .i64 a0.Repeat] (.string (bs v4_5)) func230 (fun W S => C.s_l1Num W hv4_5)) ?_
    obtain ⟨y4_6, hy4_6, h⟩ := H.call h
    refine aq 6 rfl (y_cat hy4_6) ?_
    refine ap 7 1 ?_
    refine a_done ?_
    replace h := H.done h
    subst h
    exact ret func186 rfl (vs := [.string (bs y4_6)]) (.tmp (by kernel_rfl) .nil) rfl (fun W S => ⟨rfl, S.below⟩)
  replace h := H.f q2 h
  refine c_skip ?_
  refine c_inb ?_
  refine c_seq ?_
  refine r_start ?_
  refine p 1 ?_
  refine xq rfl (y_load (.string (bs a0.Steps)) 0 g0_0 0) ?_
  refine p 1 ?_
  refine rend ?_
  replace h := H.done h
  subst h
  exact ret func186 rfl (vs := [.string (bs a0.Steps)]) (.tmp (by kernel_rfl) .nil) rfl (fun W S => ⟨rfl, S.below⟩)
theorem C.s_siText {fu : Nat} {a0 : Hand} {r : Str} (w : World) (h : X.s_siText fu a0 = some r) : Calls prog 113 #[.agg (eHand a0).toArray] w (Ret w (.string (bs r))) := by
  refine calls (M := no) (args := [.agg (eHand a0).toArray]) func113 rfl ?_
  replace h : H (X.s_siText fu a0) (fun o => o = r) := H.mk h
  unfold X.s_siText at h
  refine c_seq ?_
  refine r_start ?_
  refine xx rfl (x_box (eHand a0) fun g0_0 => ?_)
  refine p 1 ?_
  refine rend ?_
  refine c_seq ?_
  refine as_start 19 19 ?_
  refine ap 0 1 ?_
  refine aq 1 rfl (y_load (.agg (eShape a0.Shape).toArray) 0 g0_0 0) ?_
  obtain ⟨v1_2, hv1_2, h⟩ := H.call h
  refine aq 2 rfl (y_call [.agg (eShape a0.Shape).toArray] (.string (bs v1_2)) func183 (fun W S => C.s_shText W hv1_2)) ?_
  obtain ⟨y1_3, hy1_3, h⟩ := H.call h
  refine aq 3 rfl (y_cat hy1_3) ?_
  refine ap 4 1 ?_
  refine aq 5 rfl (y_load (.agg (eOrient a0.Orient).toArray) 0 g0_0 6) ?_
  obtain ⟨v1_6, hv1_6, h⟩ := H.call h
  refine aq 6 rfl (y_call [.agg (eOrient a0.Orient).toArray] (.string (bs v1_6)) func184 (fun W S => C.s_orText W hv1_6)) ?_
  obtain ⟨y1_7, hy1_7, h⟩ := H.call h
  refine aq 7 rfl (y_cat hy1_7) ?_
  obtain ⟨y1_8, hy1_8, h⟩ := H.call h
  refine aq 8 rfl (y_cat hy1_8) ?_
  refine ap 9 1 ?_
  refine aq 10 rfl (y_load (.agg (ePlace a0.Place).toArray) 0 g0_0 8) ?_
  obtain ⟨v1_11, hv1_11, h⟩ := H.call h
  refine aq 11 rfl (y_call [.agg (ePlace a0.Place).toArray] (.string (bs v1_11)) func185 (fun W S => C.s_plText W hv1_11)) ?_
  obtain ⟨y1_12, hy1_12, h⟩ := H.call h
  refine aq 12 rfl (y_cat hy1_12) ?_
  obtain ⟨y1_13, hy1_13, h⟩ := H.call h
  refine aq 13 rfl (y_cat hy1_13) ?_
  refine ap 14 1 ?_
  refine aq 15 rfl (y_load (.agg (eMove a0.Move).toArray) 0 g0_0 11) ?_
  obtain ⟨v1_16, hv1_16, h⟩ := H.call h
  refine aq 16 rfl (y_call [.agg (eMove a0.Move).toArray] (.string (bs v1_16)) func186 (fun W S => C.s_mvText W hv1_16)) ?_
  obtain ⟨y1_17, hy1_17, h⟩ := H.call h
  refine aq 17 rfl (y_cat hy1_17) ?_
  refine ap 18 1 ?_
  refine a_done ?_
  replace h := H.done h
  subst h
  exact ret func113 rfl (vs := [.string (bs y1_17)]) (.tmp (by kernel_rfl) .nil) rfl (fun W S => ⟨rfl, S.below⟩)
theorem C.s_noHand {fu : Nat} {a0 : Hand} {r : Hand} (w : World) (h : X.s_noHand fu a0 = some r) : Calls prog 190 #[.agg (eHand a0).toArray] w (Ret w (.agg (eHand r).toArray)) := by
  refine calls (M := no) (args := [.agg (eHand a0).toArray]) func190 rfl ?_
  replace h : H (X.s_noHand fu a0) (fun o => o = r) := H.mk h
  unfold X.s_noHand at h
  refine c_seq ?_
  refine r_start ?_
  refine xx rfl (x_box (eHand a0) fun g0_0 => ?_)
  refine xx rfl (x_new (eHand zHand) fun g0_1 => ?_)
  refine rend ?_
  refine c_seq ?_
  refine r_start ?_
  refine p 1 ?_
  refine xq rfl (y_load (.agg (eMove a0.Move).toArray) 0 g0_0 11) ?_
  obtain ⟨v1_2, hv1_2, h⟩ := H.call h
  refine xq rfl (y_call [.agg (eMove a0.Move).toArray] (.agg (eMove v1_2).toArray) func163 (fun W S => C.s_mvNormal W hv1_2)) ?_
  refine p 1 ?_
  refine xx rfl (x_sto 0 g0_0 11 (eHand ({ a0 with Move := v1_2 })) ?_)
  refine rend ?_
  refine c_seq ?_
  refine r_start ?_
  refine xq rfl (y_load (.agg (eHand ({ a0 with Move := v1_2 })).toArray) 0 g0_0 0) ?_
  refine xx rfl (x_sto 1 g0_1 0 (eHand ({ a0 with Move := v1_2 })) ?_)
  refine rend ?_
  replace h := H.done h
  subst h
  exact ret func190 rfl (vs := [.agg (eHand ({ a0 with Move := v1_2 })).toArray]) (.cell 1 g0_1 rfl (by kernel_rfl) (by kernel_rfl) .nil) rfl (fun W S => ⟨rfl, S.below⟩)
theorem C.s_noForm {fu : Nat} {a0 : Sign} {r : Sign} (w : World) (h : X.s_noForm fu a0 = some r) : Calls prog 117 #[.agg (eSign a0).toArray] w (Ret w (.agg (eSign r).toArray)) := by
  refine calls (M := no) (args := [.agg (eSign a0).toArray]) func117 rfl ?_
  replace h : H (X.s_noForm fu a0) (fun o => o = r) := H.mk h
  unfold X.s_noForm at h
  refine c_seq ?_
  refine r_start ?_
  refine xx rfl (x_box (eSign a0) fun g0_0 => ?_)
  refine xx rfl (x_new (eSign zSign) fun g0_1 => ?_)
  refine rend ?_
  refine c_seq ?_
  refine r_start ?_
  refine p 1 ?_
  refine xq rfl (y_load (.agg (eHand a0.Main).toArray) 0 g0_0 0) ?_
  obtain ⟨v1_2, hv1_2, h⟩ := H.call h
  refine xq rfl (y_call [.agg (eHand a0.Main).toArray] (.agg (eHand v1_2).toArray) func190 (fun W S => C.s_noHand W hv1_2)) ?_
  refine p 1 ?_
  refine xx rfl (x_new (eSign zSign) fun g1_4 => ?_)
  refine xx rfl (x_sto 2 g1_4 0 (eSign ({ zSign with Main := v1_2 })) ?_)
  refine rend ?_
  refine c_seq ?_
  refine c_seq ?_
  refine r_start ?_
  refine p 1 ?_
  refine xq rfl (y_load (.bool a0.Two) 0 g0_0 13) ?_
  refine p 1 ?_
  refine rend ?_
  refine c_or (!a0.Two) (fun q1 => ?_) (fun q1 => ?_)
  · replace h := H.t q1 h
    refine c_seq ?_
    refine r_start ?_
    refine xq rfl (y_load (.agg (eSign ({ zSign with Main := v1_2 })).toArray) 2 g1_4 0) ?_
    refine xx rfl (x_sto 1 g0_1 0 (eSign ({ zSign with Main := v1_2 })) ?_)
    refine rend ?_
    replace h := H.done h
    subst h
    exact ret func117 rfl (vs := [.agg (eSign ({ zSign with Main := v1_2 })).toArray]) (.cell 1 g0_1 rfl (by kernel_rfl) (by kernel_rfl) .nil) rfl (fun W S => ⟨rfl, S.below⟩)
  replace h := H.f q1 h
  refine c_skip ?_
  refine c_seq ?_
  refine r_start ?_
  refine p 1 ?_
  refine xx rfl (x_sto 2 g1_4 13 (eSign (⟨v1_2, true, zSign.Other⟩ : Sign)) ?_)
  refine rend ?_
  refine c_seq ?_
  refine r_start ?_
  refine p 1 ?_
  refine xq rfl (y_load (.agg (eHand a0.Other).toArray) 0 g0_0 14) ?_
  obtain ⟨v5_2, hv5_2, h⟩ := H.call h
  refine xq rfl (y_call [.agg (eHand a0.Other).toArray] (.agg (eHand v5_2).toArray) func190 (fun W S => C.s_noHand W hv5_2)) ?_
  refine p 1 ?_
  refine xx rfl (x_sto 2 g1_4 14 (eSign (⟨v1_2, true, v5_2⟩ : Sign)) ?_)
  refine rend ?_
  refine c_seq ?_
  refine c_seq ?_
  refine as_start 12 12 ?_
  refine aq 0 rfl (y_load (.agg (eSign (⟨v1_2, true, v5_2⟩ : Sign)).toArray) 2 g1_4 0) ?_
  obtain ⟨v6_1, hv6_1, h⟩ := H.call h
  refine aq 1 rfl (y_call [.agg (eSign (⟨v1_2, true, v5_2⟩ : Sign)).toArray] (.int .i64 v6_1) func102 (fun W S => C.s_siKind W hv6_1)) ?_
  refine ap 2 2 ?_
  refine br (v6_1 == 1) (fun q2 => ?_) (fun q2 => ?_)
  · replace h := H.t q2 h
    refine a_set 21 (congrArg Value.bool q2) ?_
    refine ap 4 1 ?_
    refine aq 5 rfl (y_load (.agg (eHand v5_2).toArray) 2 g1_4 14) ?_
    obtain ⟨v6_6, hv6_6, h⟩ := H.call h
    refine aq 6 rfl (y_call [.agg (eHand v5_2).toArray] (.string (bs v6_6)) func113 (fun W S => C.s_siText W hv6_6)) ?_
    refine ap 7 1 ?_
    refine aq 8 rfl (y_load (.agg (eHand v1_2).toArray) 2 g1_4 0) ?_
    obtain ⟨v6_9, hv6_9, h⟩ := H.call h
    refine aq 9 rfl (y_call [.agg (eHand v1_2).toArray] (.string (bs v6_9)) func113 (fun W S => C.s_siText W hv6_9)) ?_
    refine ap 10 2 ?_
    refine a_done ?_
    refine c_or (slt v6_6 v6_9) (fun q3 => ?_) (fun q3 => ?_)
    · replace h := H.t q3 h
      refine c_seq ?_
      refine r_start ?_
      refine p 1 ?_
      refine xq rfl (y_load (.agg (eHand v1_2).toArray) 2 g1_4 0) ?_
      refine xx rfl (x_new (eHand zHand) fun g7_2 => ?_)
      refine xx rfl (x_sto 3 g7_2 0 (eHand v1_2) ?_)
      refine rend ?_
      refine c_seq ?_
      refine r_start ?_
      refine p 1 ?_
      refine xq rfl (y_load (.agg (eHand v5_2).toArray) 2 g1_4 14) ?_
      refine p 1 ?_
      refine xx rfl (x_sto 2 g1_4 0 (eSign (⟨v5_2, true, v5_2⟩ : Sign)) ?_)
      refine rend ?_
      refine r_start ?_
      refine xq rfl (y_load (.agg (eHand v1_2).toArray) 3 g7_2 0) ?_
      refine p 1 ?_
      refine xx rfl (x_sto 2 g1_4 14 (eSign (⟨v5_2, true, v1_2⟩ : Sign)) ?_)
      refine rend ?_
      refine c_seq ?_
      refine r_start ?_
      refine xq rfl (y_load (.agg (eSign (⟨v5_2, true, v1_2⟩ : Sign)).toArray) 2 g1_4 0) ?_
      refine xx rfl (x_sto 1 g0_1 0 (eSign (⟨v5_2, true, v1_2⟩ : Sign)) ?_)
      refine rend ?_
      replace h := H.done h
      subst h
      exact ret func117 rfl (vs := [.agg (eSign (⟨v5_2, true, v1_2⟩ : Sign)).toArray]) (.cell 1 g0_1 rfl (by kernel_rfl) (by kernel_rfl) .nil) rfl (fun W S => ⟨rfl, S.below⟩)
    replace h := H.f q3 h
    refine c_skip ?_
    refine c_seq ?_
    refine r_start ?_
    refine xq rfl (y_load (.agg (eSign (⟨v1_2, true, v5_2⟩ : Sign)).toArray) 2 g1_4 0) ?_
    refine xx rfl (x_sto 1 g0_1 0 (eSign (⟨v1_2, true, v5_2⟩ : Sign)) ?_)
    refine rend ?_
    replace h := H.done h
    subst h
    exact ret func117 rfl (vs := [.agg (eSign (⟨v1_2, true, v5_2⟩ : Sign)).toArray]) (.cell 1 g0_1 rfl (by kernel_rfl) (by kernel_rfl) .nil) rfl (fun W S => ⟨rfl, S.below⟩)
  replace h := H.f q2 h
  refine a_set 21 (congrArg Value.bool q2) ?_
  refine ap 4 8 ?_
  refine a_done ?_
  refine c_f (by kernel_rfl) ?_
  refine c_skip ?_
  refine c_seq ?_
  refine r_start ?_
  refine xq rfl (y_load (.agg (eSign (⟨v1_2, true, v5_2⟩ : Sign)).toArray) 2 g1_4 0) ?_
  refine xx rfl (x_sto 1 g0_1 0 (eSign (⟨v1_2, true, v5_2⟩ : Sign)) ?_)
  refine rend ?_
  replace h := H.done h
  subst h
  exact ret func117 rfl (vs := [.agg (eSign (⟨v1_2, true, v5_2⟩ : Sign)).toArray]) (.cell 1 g0_1 rfl (by kernel_rfl) (by kernel_rfl) .nil) rfl (fun W S => ⟨rfl, S.below⟩)
theorem C.i_moveOf {fu : Nat} {a0 : Str} {r : (Move × Bool)} (w : World) (h : X.i_moveOf fu a0 = some r) : Calls prog 250 #[.string (bs a0)] w (Ret w (.tuple #[.agg (eMove r.1).toArray, .bool r.2])) := by
  refine calls (M := no) (args := [.string (bs a0)]) func250 rfl ?_
  replace h : H (X.i_moveOf fu a0) (fun o => o = r) := H.mk h
  unfold X.i_moveOf at h
  refine c_seq ?_
  refine r_start ?_
  refine xx rfl (x_new (eMove zMove) fun g0_0 => ?_)
  refine p 1 ?_
  refine rend ?_
  refine c_seq ?_
  refine c_seq ?_
  refine r_start ?_
  refine p 2 ?_
  refine rend ?_
  refine c_or (seq a0 ([] : Str)) (fun q1 => ?_) (fun q1 => ?_)
  · replace h := H.t q1 h
    refine c_seq ?_
    refine r_start ?_
    refine p 1 ?_
    refine xx rfl (x_sto 0 g0_0 0 (eMove ({ zMove with Repeat := 1 })) ?_)
    refine p 1 ?_
    refine rend ?_
    replace h := H.done h
    subst h
    exact ret func250 rfl (vs := [.agg (eMove ({ zMove with Repeat := 1 })).toArray, .bool true]) (.cell 0 g0_0 rfl (by kernel_rfl) (by kernel_rfl) (.tmp (by kernel_rfl) .nil)) rfl (fun W S => ⟨rfl, S.below⟩)
  replace h := H.f q1 h
  refine c_skip ?_
  refine c_seq ?_
  refine c_seq ?_
  refine r_start ?_
  refine p 1 ?_
  refine rend ?_
  refine c_block ?_
  refine joinE (X := Unit) 0 (H.or h) (fun (x : Unit) => x) (fun _ => [box g0_0 31 (eMove zMove)]) (fun _ u => (jk u 0 2 (.pointer (some ⟨g0_0, 0, none⟩) :: (jk u 3 30 [])))) (fun h hj3 => ?_) ?_
  · skip
    refine loopR (X := Int) (fun (x : Int) => x) (fun n2 => [box g0_0 31 (eMove zMove)]) (fun n2 u => (.string (bs a0) :: (jk u 1 1 (.pointer (some ⟨g0_0, 0, none⟩) :: (jk u 3 1 (.int .i64 n2 :: (jk u 5 28 []))))))) 3 h (by kernel_rfl) (by kernel_rfl) ?_
    intro n2 u h
    refine c_seq ?_
    refine c_seq ?_
    refine r_start ?_
    refine p 2 ?_
    refine rend ?_
    refine c_or (decide (n2 ≥ 1)) (fun q4 => ?_) (fun q4 => ?_)
    · replace h := H.t q4 h
      refine c_skip ?_
      refine c_seq ?_
      refine c_block ?_
      refine c_seq ?_
      refine r_start ?_
      refine p 4 ?_
      obtain ⟨y6_4, hy6_4, h⟩ := H.call h
      refine xq rfl (y_div hy6_4) ?_
      obtain ⟨y6_5, hy6_5, h⟩ := H.call h
      refine xq rfl (y_cut hy6_5) ?_
      refine p 1 ?_
      refine rend ?_
      refine c_seq ?_
      refine r_start ?_
      refine p 4 ?_
      refine br (decide ((List.length y6_5 : Int) ≤ 6)) (fun q5 => ?_) (fun q5 => ?_)
      · replace h := H.t q5 h
        refine o_set 22 (congrArg Value.bool q5) ?_
        refine p 2 ?_
        obtain ⟨v7_6, hv7_6, h⟩ := H.call h
        refine xq rfl (y_call [.string (bs y6_5), .int .i64 n2] (.string (bs v7_6)) func175 (fun W S => C.strings_Repeat W hv7_6)) ?_
        refine p 3 ?_
        refine rend ?_
        refine c_or (seq v7_6 a0) (fun q6 => ?_) (fun q6 => ?_)
        · replace h := H.t q6 h
          refine c_seq ?_
          refine r_start ?_
          refine p 3 ?_
          refine xx rfl (x_sto 0 g0_0 0 (eMove (⟨y6_5, n2⟩ : Move)) ?_)
          refine p 1 ?_
          refine rend ?_
          replace h := H.inr h
          replace h := H.done h
          subst h
          exact ret func250 rfl (vs := [.agg (eMove (⟨y6_5, n2⟩ : Move)).toArray, .bool true]) (.cell 0 g0_0 rfl (by kernel_rfl) (by kernel_rfl) (.tmp (by kernel_rfl) .nil)) rfl (fun W S => ⟨rfl, S.below⟩)
        replace h := H.f q6 h
        refine c_skip ?_
        refine c_inb ?_
        refine r_start ?_
        refine p 3 ?_
        refine rend ?_
        replace h := H.inl h
        exact h (wr (n2 - 1)) _ _ rfl (by kernel_rfl) (by kernel_rfl)
      replace h := H.f q5 h
      refine o_set 22 (congrArg Value.bool q5) ?_
      refine p 6 ?_
      refine rend ?_
      refine c_f (by kernel_rfl) ?_
      refine c_skip ?_
      refine c_inb ?_
      refine r_start ?_
      refine p 3 ?_
      refine rend ?_
      replace h := H.inl h
      exact h (wr (n2 - 1)) _ _ rfl (by kernel_rfl) (by kernel_rfl)
    replace h := H.f q4 h
    refine cx ?_
    replace h := H.inr h
    exact hj3 () _ _ h (by kernel_rfl) (by kernel_rfl)
  intro x u h
  refine c_seq ?_
  refine r_start ?_
  refine p 1 ?_
  refine xx rfl (x_sto 0 g0_0 0 (eMove zMove) ?_)
  refine p 1 ?_
  refine rend ?_
  replace h := H.done h
  subst h
  exact ret func250 rfl (vs := [.agg (eMove zMove).toArray, .bool false]) (.cell 0 g0_0 rfl (by kernel_rfl) (by kernel_rfl) (.tmp (by kernel_rfl) .nil)) rfl (fun W S => ⟨rfl, S.below⟩)
theorem C.i_Move_normal {fu : Nat} {a0 : Move} {r : Move} (w : World) (h : X.i_Move_normal fu a0 = some r) : Calls prog 232 #[.agg (eMove a0).toArray] w (Ret w (.agg (eMove r).toArray)) := by
  refine calls (M := no) (args := [.agg (eMove a0).toArray]) func232 rfl ?_
  replace h : H (X.i_Move_normal fu a0) (fun o => o = r) := H.mk h
  unfold X.i_Move_normal at h
  refine c_seq ?_
  refine r_start ?_
  refine xx rfl (x_box (eMove a0) fun g0_0 => ?_)
  refine xx rfl (x_new (eMove zMove) fun g0_1 => ?_)
  refine rend ?_
  refine c_seq ?_
  refine r_start ?_
  refine xq rfl (y_load (.agg (eMove a0).toArray) 0 g0_0 0) ?_
  obtain ⟨v1_1, hv1_1, h⟩ := H.call h
  refine xq rfl (y_call [.agg (eMove a0).toArray] (.string (bs v1_1)) func107 (fun W S => C.i_Move_all W hv1_1)) ?_
  obtain ⟨v1_2, hv1_2, h⟩ := H.call h
  refine xq rfl (y_call [.string (bs v1_1)] (.tuple #[.agg (eMove v1_2.1).toArray, .bool v1_2.2]) func250 (fun W S => C.i_moveOf W hv1_2)) ?_
  refine p 3 ?_
  refine xx rfl (x_new (eMove zMove) fun g1_6 => ?_)
  refine xx rfl (x_sto 2 g1_6 0 (eMove v1_2.1) ?_)
  refine p 1 ?_
  refine rend ?_
  refine c_seq ?_
  refine r_start ?_
  refine xq rfl (y_load (.agg (eMove v1_2.1).toArray) 2 g1_6 0) ?_
  refine xx rfl (x_sto 1 g0_1 0 (eMove v1_2.1) ?_)
  refine rend ?_
  replace h := H.done h
  subst h
  exact ret func232 rfl (vs := [.agg (eMove v1_2.1).toArray]) (.cell 1 g0_1 rfl (by kernel_rfl) (by kernel_rfl) .nil) rfl (fun W S => ⟨rfl, S.below⟩)
theorem C.i_Hand_normal {fu : Nat} {a0 : Hand} {r : Hand} (w : World) (h : X.i_Hand_normal fu a0 = some r) : Calls prog 191 #[.agg (eHand a0).toArray] w (Ret w (.agg (eHand r).toArray)) := by
  refine calls (M := no) (args := [.agg (eHand a0).toArray]) func191 rfl ?_
  replace h : H (X.i_Hand_normal fu a0) (fun o => o = r) := H.mk h
  unfold X.i_Hand_normal at h
  refine c_seq ?_
  refine r_start ?_
  refine xx rfl (x_box (eHand a0) fun g0_0 => ?_)
  refine xx rfl (x_new (eHand zHand) fun g0_1 => ?_)
  refine rend ?_
  refine c_seq ?_
  refine r_start ?_
  refine p 1 ?_
  refine xq rfl (y_load (.agg (eMove a0.Move).toArray) 0 g0_0 11) ?_
  obtain ⟨v1_2, hv1_2, h⟩ := H.call h
  refine xq rfl (y_call [.agg (eMove a0.Move).toArray] (.agg (eMove v1_2).toArray) func232 (fun W S => C.i_Move_normal W hv1_2)) ?_
  refine p 1 ?_
  refine xx rfl (x_sto 0 g0_0 11 (eHand ({ a0 with Move := v1_2 })) ?_)
  refine rend ?_
  refine c_seq ?_
  refine r_start ?_
  refine xq rfl (y_load (.agg (eHand ({ a0 with Move := v1_2 })).toArray) 0 g0_0 0) ?_
  refine xx rfl (x_sto 1 g0_1 0 (eHand ({ a0 with Move := v1_2 })) ?_)
  refine rend ?_
  replace h := H.done h
  subst h
  exact ret func191 rfl (vs := [.agg (eHand ({ a0 with Move := v1_2 })).toArray]) (.cell 1 g0_1 rfl (by kernel_rfl) (by kernel_rfl) .nil) rfl (fun W S => ⟨rfl, S.below⟩)
theorem C.i_Sign_normal {fu : Nat} {a0 : Sign} {r : Sign} (w : World) (h : X.i_Sign_normal fu a0 = some r) : Calls prog 121 #[.agg (eSign a0).toArray] w (Ret w (.agg (eSign r).toArray)) := by
  refine calls (M := no) (args := [.agg (eSign a0).toArray]) func121 rfl ?_
  replace h : H (X.i_Sign_normal fu a0) (fun o => o = r) := H.mk h
  unfold X.i_Sign_normal at h
  refine c_seq ?_
  refine r_start ?_
  refine xx rfl (x_box (eSign a0) fun g0_0 => ?_)
  refine xx rfl (x_new (eSign zSign) fun g0_1 => ?_)
  refine rend ?_
  refine c_seq ?_
  refine r_start ?_
  refine p 1 ?_
  refine xq rfl (y_load (.agg (eHand a0.Main).toArray) 0 g0_0 0) ?_
  obtain ⟨v1_2, hv1_2, h⟩ := H.call h
  refine xq rfl (y_call [.agg (eHand a0.Main).toArray] (.agg (eHand v1_2).toArray) func191 (fun W S => C.i_Hand_normal W hv1_2)) ?_
  refine p 1 ?_
  refine xx rfl (x_sto 0 g0_0 0 (eSign ({ a0 with Main := v1_2 })) ?_)
  refine rend ?_
  refine c_seq ?_
  refine c_seq ?_
  refine r_start ?_
  refine p 1 ?_
  refine xq rfl (y_load (.bool a0.Two) 0 g0_0 13) ?_
  refine p 1 ?_
  refine rend ?_
  refine c_or (!a0.Two) (fun q1 => ?_) (fun q1 => ?_)
  · replace h := H.t q1 h
    refine c_seq ?_
    refine r_start ?_
    refine xq rfl (y_load (.agg (eSign ({ a0 with Main := v1_2 })).toArray) 0 g0_0 0) ?_
    refine xx rfl (x_sto 1 g0_1 0 (eSign ({ a0 with Main := v1_2 })) ?_)
    refine rend ?_
    replace h := H.done h
    subst h
    exact ret func121 rfl (vs := [.agg (eSign ({ a0 with Main := v1_2 })).toArray]) (.cell 1 g0_1 rfl (by kernel_rfl) (by kernel_rfl) .nil) rfl (fun W S => ⟨rfl, S.below⟩)
  replace h := H.f q1 h
  refine c_skip ?_
  refine c_seq ?_
  refine r_start ?_
  refine p 1 ?_
  refine xq rfl (y_load (.agg (eHand a0.Other).toArray) 0 g0_0 14) ?_
  obtain ⟨v4_2, hv4_2, h⟩ := H.call h
  refine xq rfl (y_call [.agg (eHand a0.Other).toArray] (.agg (eHand v4_2).toArray) func191 (fun W S => C.i_Hand_normal W hv4_2)) ?_
  refine p 1 ?_
  refine xx rfl (x_sto 0 g0_0 14 (eSign (⟨v1_2, a0.Two, v4_2⟩ : Sign)) ?_)
  refine rend ?_
  refine c_seq ?_
  refine c_seq ?_
  refine as_start 12 12 ?_
  refine aq 0 rfl (y_load (.agg (eSign (⟨v1_2, a0.Two, v4_2⟩ : Sign)).toArray) 0 g0_0 0) ?_
  obtain ⟨v5_1, hv5_1, h⟩ := H.call h
  refine aq 1 rfl (y_call [.agg (eSign (⟨v1_2, a0.Two, v4_2⟩ : Sign)).toArray] (.int .i64 v5_1) func101 (fun W S => C.i_Sign_kind W hv5_1)) ?_
  refine ap 2 2 ?_
  refine br (v5_1 == 1) (fun q2 => ?_) (fun q2 => ?_)
  · replace h := H.t q2 h
    refine a_set 18 (congrArg Value.bool q2) ?_
    refine ap 4 1 ?_
    refine aq 5 rfl (y_load (.agg (eHand v4_2).toArray) 0 g0_0 14) ?_
    obtain ⟨v5_6, hv5_6, h⟩ := H.call h
    refine aq 6 rfl (y_call [.agg (eHand v4_2).toArray] (.string (bs v5_6)) func111 (fun W S => C.i_Hand_text W hv5_6)) ?_
    refine ap 7 1 ?_
    refine aq 8 rfl (y_load (.agg (eHand v1_2).toArray) 0 g0_0 0) ?_
    obtain ⟨v5_9, hv5_9, h⟩ := H.call h
    refine aq 9 rfl (y_call [.agg (eHand v1_2).toArray] (.string (bs v5_9)) func111 (fun W S => C.i_Hand_text W hv5_9)) ?_
    refine ap 10 2 ?_
    refine a_done ?_
    refine c_or (slt v5_6 v5_9) (fun q3 => ?_) (fun q3 => ?_)
    · replace h := H.t q3 h
      refine r_start ?_
      refine p 1 ?_
      refine xq rfl (y_load (.agg (eHand v4_2).toArray) 0 g0_0 14) ?_
      refine p 1 ?_
      refine xq rfl (y_load (.agg (eHand v1_2).toArray) 0 g0_0 0) ?_
      refine p 1 ?_
      refine xx rfl (x_sto 0 g0_0 0 (eSign (⟨v4_2, a0.Two, v4_2⟩ : Sign)) ?_)
      refine p 1 ?_
      refine xx rfl (x_sto 0 g0_0 14 (eSign (⟨v4_2, a0.Two, v1_2⟩ : Sign)) ?_)
      refine rend ?_
      refine c_seq ?_
      refine r_start ?_
      refine xq rfl (y_load (.agg (eSign (⟨v4_2, a0.Two, v1_2⟩ : Sign)).toArray) 0 g0_0 0) ?_
      refine xx rfl (x_sto 1 g0_1 0 (eSign (⟨v4_2, a0.Two, v1_2⟩ : Sign)) ?_)
      refine rend ?_
      replace h := H.done h
      subst h
      exact ret func121 rfl (vs := [.agg (eSign (⟨v4_2, a0.Two, v1_2⟩ : Sign)).toArray]) (.cell 1 g0_1 rfl (by kernel_rfl) (by kernel_rfl) .nil) rfl (fun W S => ⟨rfl, S.below⟩)
    replace h := H.f q3 h
    refine c_skip ?_
    refine c_seq ?_
    refine r_start ?_
    refine xq rfl (y_load (.agg (eSign (⟨v1_2, a0.Two, v4_2⟩ : Sign)).toArray) 0 g0_0 0) ?_
    refine xx rfl (x_sto 1 g0_1 0 (eSign (⟨v1_2, a0.Two, v4_2⟩ : Sign)) ?_)
    refine rend ?_
    replace h := H.done h
    subst h
    exact ret func121 rfl (vs := [.agg (eSign (⟨v1_2, a0.Two, v4_2⟩ : Sign)).toArray]) (.cell 1 g0_1 rfl (by kernel_rfl) (by kernel_rfl) .nil) rfl (fun W S => ⟨rfl, S.below⟩)
  replace h := H.f q2 h
  refine a_set 18 (congrArg Value.bool q2) ?_
  refine ap 4 8 ?_
  refine a_done ?_
  refine c_f (by kernel_rfl) ?_
  refine c_skip ?_
  refine c_seq ?_
  refine r_start ?_
  refine xq rfl (y_load (.agg (eSign (⟨v1_2, a0.Two, v4_2⟩ : Sign)).toArray) 0 g0_0 0) ?_
  refine xx rfl (x_sto 1 g0_1 0 (eSign (⟨v1_2, a0.Two, v4_2⟩ : Sign)) ?_)
  refine rend ?_
  replace h := H.done h
  subst h
  exact ret func121 rfl (vs := [.agg (eSign (⟨v1_2, a0.Two, v4_2⟩ : Sign)).toArray]) (.cell 1 g0_1 rfl (by kernel_rfl) (by kernel_rfl) .nil) rfl (fun W S => ⟨rfl, S.below⟩)
theorem C.slices_IndexFunc_i_Sign_i_Sign {a0 : (List Sign)} {A0 : Option Addr} {k0 : Nat} {a1 : (Sign → Option Bool)} {g1 : Nat} {cp1 : List Value} {r : Int} (w : World) (h : X.slices_IndexFunc_i_Sign_i_Sign a0 a1 = some r) (h0 : RdT nSign w (.slice A0 (List.length a0) k0) a0) (hg1 : isFn prog g1 = true) (hF1 : ∀ (x0 : Sign) (r : Bool) (W : World), Up w W → a1 x0 = some r → Calls prog g1 (([.agg (eSign x0).toArray] : List Value) ++ cp1).toArray W (Ret W (.bool r))) : Calls prog 252 #[.slice A0 (List.length a0) k0, .func (.func g1) #[] cp1.toArray] w (Ret w (.int .i64 r)) := by
  refine calls (M := no) (args := [.slice A0 (List.length a0) k0, .func (.func g1) #[] cp1.toArray]) func252 rfl ?_
  replace h : H (X.slices_IndexFunc_i_Sign_i_Sign a0 a1) (fun o => o = r) := H.mk h
  unfold X.slices_IndexFunc_i_Sign_i_Sign at h
  refine c_seq ?_
  refine r_start ?_
  refine p 1 ?_
  refine rend ?_
  refine c_seq ?_
  refine c_seq ?_
  refine r_start ?_
  refine p 3 ?_
  refine rend ?_
  refine c_block ?_
  refine joinE (X := Unit) 0 (H.or h) (fun (x : Unit) => x) (fun _ => []) (fun _ u => (jk u 0 19 [])) (fun h hj1 => ?_) ?_
  · skip
    refine rangeR (X := Unit) (s_arg h0) (fun (x : Unit) => x) (fun _ => []) (fun (j2 : Nat) _ u => (.slice A0 (List.length a0) k0 :: .func (.func g1) #[] cp1.toArray :: (jk u 2 5 (.int .i64 (List.length a0 : Int) :: .int .i64 (j2 : Int) :: (jk u 9 10 []))))) () h (by kernel_rfl) (by kernel_rfl) ?_ ?_
    · intro j2 x u x3 q4 hg5 hw6 h
      refine c_seq ?_
      refine r_start ?_
      refine p 1 ?_
      refine rend ?_
      refine c_seq ?_
      refine c_yes q4 ?_
      refine c_skip ?_
      refine c_seq ?_
      refine c_block ?_
      refine c_seq ?_
      refine r_start ?_
      refine p 2 ?_
      refine rend ?_
      refine c_seq ?_
      refine r_start ?_
      refine p 3 ?_
      refine xq rfl (y_idx (e := nSign) (el := 37) hg5 (s_arg h0)) ?_
      refine xq rfl (y_el (e := nSign) 0 (.agg (eSign x3).toArray) hg5 (s_arg h0)) ?_
      obtain ⟨v4_5, hv4_5, h⟩ := H.call h
      refine xq rfl (y_cf cp1 [.agg (eSign x3).toArray] (.bool v4_5) hg1 (fun W S => hF1 _ _ W S.below hv4_5)) ?_
      refine rend ?_
      refine c_or v4_5 (fun q7 => ?_) (fun q7 => ?_)
      · replace h := H.t q7 h
        refine c_seq ?_
        refine r_start ?_
        refine p 2 ?_
        refine rend ?_
        replace h := H.inr h
        replace h := H.done h
        subst h
        exact ret func252 rfl (vs := [.int .i64 (j2 : Int)]) (.tmp (by kernel_rfl) .nil) rfl (fun W S => ⟨rfl, S.below⟩)
      replace h := H.f q7 h
      refine c_skip ?_
      refine c_inb ?_
      refine r_start ?_
      refine p 2 ?_
      refine rend ?_
      refine c_set 8 (ci hw6) ?_
      replace h := H.inl h
      exact h () _ _ rfl (by kernel_rfl) (by kernel_rfl)
    · intro x u q4 h
      refine c_seq ?_
      refine r_start ?_
      refine p 1 ?_
      refine rend ?_
      refine c_seq ?_
      refine c_no q4 ?_
      refine cx ?_
      replace h := H.done h
      exact hj1 () _ _ h (by kernel_rfl) (by kernel_rfl)
  intro x u h
  refine c_seq ?_
  refine r_start ?_
  refine p 1 ?_
  refine rend ?_
  replace h := H.done h
  subst h
  exact ret func252 rfl (vs := [.int .i64 (-1)]) (.tmp (by kernel_rfl) .nil) rfl (fun W S => ⟨rfl, S.below⟩)
theorem C.slices_ContainsFunc_i_Sign_i_Sign {a0 : (List Sign)} {A0 : Option Addr} {k0 : Nat} {a1 : (Sign → Option Bool)} {g1 : Nat} {cp1 : List Value} {r : Bool} (w : World) (h : X.slices_ContainsFunc_i_Sign_i_Sign a0 a1 = some r) (h0 : RdT nSign w (.slice A0 (List.length a0) k0) a0) (hg1 : isFn prog g1 = true) (hF1 : ∀ (x0 : Sign) (r : Bool) (W : World), Up w W → a1 x0 = some r → Calls prog g1 (([.agg (eSign x0).toArray] : List Value) ++ cp1).toArray W (Ret W (.bool r))) : Calls prog 238 #[.slice A0 (List.length a0) k0, .func (.func g1) #[] cp1.toArray] w (Ret w (.bool r)) := by
  refine calls (M := no) (args := [.slice A0 (List.length a0) k0, .func (.func g1) #[] cp1.toArray]) func238 rfl ?_
  replace h : H (X.slices_ContainsFunc_i_Sign_i_Sign a0 a1) (fun o => o = r) := H.mk h
  unfold X.slices_ContainsFunc_i_Sign_i_Sign at h
  refine c_seq ?_
  refine r_start ?_
  refine p 1 ?_
  refine rend ?_
  refine c_seq ?_
  refine r_start ?_
  refine p 2 ?_
  obtain ⟨v1_2, hv1_2, h⟩ := H.call h
  refine xq rfl (y_call [.slice A0 (List.length a0) k0, .func (.func g1) #[] cp1.toArray] (.int .i64 v1_2) func252 (fun W S => C.slices_IndexFunc_i_Sign_i_Sign W hv1_2 ((s_arg h0).out W S) hg1 (fun x0_2 r W2 hu2 hx2 => hF1 x0_2 r W2 (Up.trans S.below hu2) hx2))) ?_
  refine p 2 ?_
  refine rend ?_
  replace h := H.done h
  subst h
  exact ret func238 rfl (vs := [.bool (decide (v1_2 ≥ 0))]) (.tmp (by kernel_rfl) .nil) rfl (fun W S => ⟨rfl, S.below⟩)
theorem C.i_allOf_i_Sign_1 {a0 : Sign} {a1 : (Sign → Option Bool)} {g1 : Nat} {cp1 : List Value} {p1 : Nat} {r : Bool} (w : World) (h : X.i_allOf_i_Sign_1 a1 a0 = some r) (hg1 : isFn prog g1 = true) (hF1 : ∀ (x0 : Sign) (r : Bool) (W : World), Up w W → a1 x0 = some r → Calls prog g1 (([.agg (eSign x0).toArray] : List Value) ++ cp1).toArray W (Ret W (.bool r))) (hp1 : w.heap[p1]? = some (.cells ([.func (.func g1) #[] cp1.toArray] : List Value).toArray 46 (0, 0))) : Calls prog 239 #[.agg (eSign a0).toArray, .pointer (some ⟨p1, 0, none⟩)] w (Ret w (.bool r)) := by
  refine calls (M := no) (args := [.agg (eSign a0).toArray, .pointer (some ⟨p1, 0, none⟩)]) func239 rfl ?_
  replace h : H (X.i_allOf_i_Sign_1 a1 a0) (fun o => o = r) := H.mk h
  unfold X.i_allOf_i_Sign_1 at h
  refine c_seq ?_
  refine r_start ?_
  refine xx rfl (x_box (eSign a0) fun g0_0 => ?_)
  refine p 1 ?_
  refine rend ?_
  refine c_seq ?_
  refine r_start ?_
  refine xq rfl (y_ld0 (.func (.func g1) #[] cp1.toArray) p1 0 hp1) ?_
  refine xq rfl (y_load (.agg (eSign a0).toArray) 0 g0_0 0) ?_
  obtain ⟨v1_2, hv1_2, h⟩ := H.call h
  refine xq rfl (y_cf cp1 [.agg (eSign a0).toArray] (.bool v1_2) hg1 (fun W S => hF1 _ _ W S.below hv1_2)) ?_
  refine p 2 ?_
  refine rend ?_
  replace h := H.done h
  subst h
  exact ret func239 rfl (vs := [.bool (!v1_2)]) (.tmp (by kernel_rfl) .nil) rfl (fun W S => ⟨rfl, S.below⟩)
theorem C.i_allOf_i_Sign {a0 : (List Sign)} {A0 : Option Addr} {k0 : Nat} {a1 : (Sign → Option Bool)} {g1 : Nat} {cp1 : List Value} {r : Bool} (w : World) (h : X.i_allOf_i_Sign a0 a1 = some r) (h0 : RdT nSign w (.slice A0 (List.length a0) k0) a0) (hg1 : isFn prog g1 = true) (hF1 : ∀ (x0 : Sign) (r : Bool) (W : World), Up w W → a1 x0 = some r → Calls prog g1 (([.agg (eSign x0).toArray] : List Value) ++ cp1).toArray W (Ret W (.bool r))) : Calls prog 205 #[.slice A0 (List.length a0) k0, .func (.func g1) #[] cp1.toArray] w (Ret w (.bool r)) := by
  refine calls (M := no) (args := [.slice A0 (List.length a0) k0, .func (.func g1) #[] cp1.toArray]) func205 rfl ?_
  replace h : H (X.i_allOf_i_Sign a0 a1) (fun o => o = r) := H.mk h
  unfold X.i_allOf_i_Sign at h
  refine c_seq ?_
  refine r_start ?_
  refine xx rfl (x_box [.func (.func g1) #[] cp1.toArray] fun g0_0 => ?_)
  refine p 1 ?_
  refine rend ?_
  refine c_seq ?_
  refine r_start ?_
  refine p 2 ?_
  obtain ⟨v1_2, hv1_2, h⟩ := H.call h
  refine xq rfl (y_call [.slice A0 (List.length a0) k0, .func (.func 239) #[] #[.pointer (some ⟨g0_0, 0, none⟩)]] (.bool v1_2) func238 (fun W S => C.slices_ContainsFunc_i_Sign_i_Sign W hv1_2 ((s_arg h0).out W S) (isFn_of func239) (fun x0_2 r W2 hu2 hx2 => C.i_allOf_i_Sign_1 W2 hx2 hg1 (fun x0_3 r W3 hu3 hx3 => hF1 x0_3 r W3 (Up.trans (Up.trans S.below hu2) hu3) hx3) (bx_up (S.bx 0) hu2)))) ?_
  refine p 2 ?_
  refine rend ?_
  replace h := H.done h
  subst h
  exact ret func205 rfl (vs := [.bool (!v1_2)]) (.tmp (by kernel_rfl) .nil) rfl (fun W S => ⟨rfl, S.below⟩)
theorem C.i_areSigns {fu : Nat} {a0 : (List Sign)} {A0 : Option Addr} {k0 : Nat} {a1 : Int} {r : Bool} (w : World) (h : X.i_areSigns fu a0 a1 = some r) (h0 : RdT nSign w (.slice A0 (List.length a0) k0) a0) : Calls prog 132 #[.slice A0 (List.length a0) k0, .int .i64 a1] w (Ret w (.bool r)) := by
  refine calls (M := no) (args := [.slice A0 (List.length a0) k0, .int .i64 a1]) func132 rfl ?_
  replace h : H (X.i_areSigns fu a0 a1) (fun o => o = r) := H.mk h
  unfold X.i_areSigns at h
  refine c_seq ?_
  refine r_start ?_
  refine p 1 ?_
  refine rend ?_
  refine c_seq ?_
  refine r_start ?_
  refine p 5 ?_
  refine br (decide ((List.length a0 : Int) ≤ a1)) (fun q1 => ?_) (fun q1 => ?_)
  · replace h := H.t q1 h
    refine o_set 9 (congrArg Value.bool q1) ?_
    refine p 1 ?_
    obtain ⟨v1_6, hv1_6, h⟩ := H.call h
    refine xq rfl (y_call [.slice A0 (List.length a0) k0, .func (.func 19) #[] #[]] (.bool v1_6) func205 (fun W S => C.i_allOf_i_Sign W hv1_6 ((s_arg h0).out W S) (isFn_of func19) (fun x0_2 r W2 hu2 hx2 => C.i_IsSign W2 hx2))) ?_
    refine p 2 ?_
    refine rend ?_
    replace h := H.done h
    subst h
    exact ret func132 rfl (vs := [.bool v1_6]) (.tmp (by kernel_rfl) .nil) rfl (fun W S => ⟨rfl, S.below⟩)
  replace h := H.f q1 h
  refine o_set 9 (congrArg Value.bool q1) ?_
  refine p 4 ?_
  refine rend ?_
  replace h := H.done h
  subst h
  exact ret func132 rfl (vs := [.bool false]) (.tmp (by kernel_rfl) .nil) rfl (fun W S => ⟨rfl, S.below⟩)
theorem C.i_those_i_Sign {a0 : (List Sign)} {A0 : Option Addr} {k0 : Nat} {a1 : (Sign → Option Bool)} {g1 : Nat} {cp1 : List Value} {r : (List Int)} (w : World) (h : X.i_those_i_Sign a0 a1 = some r) (h0 : RdT nSign w (.slice A0 (List.length a0) k0) a0) (hg1 : isFn prog g1 = true) (hF1 : ∀ (x0 : Sign) (r : Bool) (W : World), Up w W → a1 x0 = some r → Calls prog g1 (([.agg (eSign x0).toArray] : List Value) ++ cp1).toArray W (Ret W (.bool r))) : Calls prog 150 #[.slice A0 (List.length a0) k0, .func (.func g1) #[] cp1.toArray] w (RetR (eI .i64) 3 w r (fun v => v)) := by
  refine calls (M := no) (args := [.slice A0 (List.length a0) k0, .func (.func g1) #[] cp1.toArray]) func150 rfl ?_
  replace h : H (X.i_those_i_Sign a0 a1) (fun o => o = r) := H.mk h
  unfold X.i_those_i_Sign at h
  refine c_seq ?_
  refine r_start ?_
  refine p 1 ?_
  refine rend ?_
  refine c_seq ?_
  refine r_start ?_
  refine p 1 ?_
  refine rend ?_
  refine c_seq ?_
  refine c_seq ?_
  refine r_start ?_
  refine p 3 ?_
  refine rend ?_
  refine c_block ?_
  refine c_nil (eI .i64) 3 ?_
  refine joinH (X := ((List Int) × Option Addr × Nat)) 0 (H.bnd h) (fun ⟨l4, A5, k6⟩ => l4) (fun ⟨l4, A5, k6⟩ => [rowT (eI .i64) w.heap.size 3 (.slice A5 (List.length l4) k6) l4]) (fun ⟨l4, A5, k6⟩ u => (jk u 0 5 (.slice A5 (List.length l4) k6 :: (jk u 6 18 [])))) (fun h hj7 => ?_) ?_
  · skip
    refine rangeR (X := ((List Int) × Option Addr × Nat)) (s_arg h0) (fun ⟨l1, A2, k3⟩ => l1) (fun ⟨l1, A2, k3⟩ => [rowT (eI .i64) w.heap.size 3 (.slice A2 (List.length l1) k3) l1]) (fun (j8 : Nat) ⟨l1, A2, k3⟩ u => (jk u 0 1 (.func (.func g1) #[] cp1.toArray :: (jk u 2 3 (.slice A2 (List.length l1) k3 :: (jk u 6 2 (.slice A0 (List.length a0) k0 :: .int .i64 (List.length a0 : Int) :: .int .i64 (j8 : Int) :: (jk u 11 13 [])))))))) (([] : List Int), none, 0) h (by kernel_rfl) (by kernel_rfl) ?_ ?_
    · intro j8 x u x9 q10 hg11 hw12 h
      obtain ⟨l1, A2, k3⟩ := x
      refine c_seq ?_
      refine r_start ?_
      refine p 1 ?_
      refine rend ?_
      refine c_seq ?_
      refine c_yes q10 ?_
      refine c_skip ?_
      refine c_seq ?_
      refine c_block ?_
      refine c_seq ?_
      refine r_start ?_
      refine p 1 ?_
      refine xq rfl (y_idx (e := nSign) (el := 37) hg11 (s_arg h0)) ?_
      refine xq rfl (y_el (e := nSign) 0 (.agg (eSign x9).toArray) hg11 (s_arg h0)) ?_
      refine xx rfl (x_new (eSign zSign) fun g4_3 => ?_)
      refine p 1 ?_
      refine xx rfl (x_sto 1 g4_3 0 (eSign x9) ?_)
      refine rend ?_
      refine c_seq ?_
      refine r_start ?_
      refine p 1 ?_
      refine xq rfl (y_load (.agg (eSign x9).toArray) 1 g4_3 0) ?_
      obtain ⟨v5_2, hv5_2, h⟩ := H.call h
      refine xq rfl (y_cf cp1 [.agg (eSign x9).toArray] (.bool v5_2) hg1 (fun W S => hF1 _ _ W S.below hv5_2)) ?_
      refine rend ?_
      refine c_or v5_2 (fun q13 => ?_) (fun q13 => ?_)
      · replace h := H.t q13 h
        refine r_start ?_
        refine p 2 ?_
        refine xx rfl (e_lit (e := (eI .i64)) (el := 3) [.int .i64 (j8 : Int)] ([(j8 : Int)] : List Int) fun A6_2 k6_2 => ?_)
        obtain ⟨y6_3, hy6_3, h⟩ := H.call h
        refine xx rfl (e_app 0 hy6_3 (s_own 2) fun A6_3 k6_3 => ?_)
        refine p 1 ?_
        refine rend ?_
        refine c_inb ?_
        refine r_start ?_
        refine p 2 ?_
        refine rend ?_
        refine c_set 10 (ci hw12) ?_
        replace h := H.inl h
        exact h (y6_3, A6_3, k6_3) _ _ rfl (by kernel_rfl) (by kernel_rfl)
      replace h := H.f q13 h
      refine c_skip ?_
      refine c_inb ?_
      refine r_start ?_
      refine p 2 ?_
      refine rend ?_
      refine c_set 10 (ci hw12) ?_
      replace h := H.inl h
      exact h (l1, A2, k3) _ _ rfl (by kernel_rfl) (by kernel_rfl)
    · intro x u q10 h
      obtain ⟨l1, A2, k3⟩ := x
      refine c_seq ?_
      refine r_start ?_
      refine p 1 ?_
      refine rend ?_
      refine c_seq ?_
      refine c_no q10 ?_
      refine cx ?_
      replace h := H.done h
      exact hj7 (l1, A2, k3) _ _ h (by kernel_rfl) (by kernel_rfl)
  intro x u h
  obtain ⟨l4, A5, k6⟩ := x
  refine c_seq ?_
  refine r_start ?_
  refine p 2 ?_
  refine rend ?_
  replace h := H.done h
  subst h
  exact ret func150 rfl (vs := [.slice A5 (List.length l4) k6]) (.tmp (by kernel_rfl) .nil) rfl (fun W S => ⟨_, _, rfl, S.row 0, S.below⟩)
end Go.Proofs.XC
