/- Contracts: each function, called where its plain function gives an answer, returns just that answer and changes nothing that was there. By AI agents; no person has read it. -/
import Derived.Test.YtjjhlccjfdcfcaaGreatDoorDExactSignFault
set_option linter.unusedVariables false
set_option linter.unusedSimpArgs false
set_option maxRecDepth 100000
set_option maxHeartbeats 40000000
namespace Go.Proofs.XC
open Go Go.RowKit
open Tryz
theorem C.i_ParseMove {a0 : Str} {r : (Move × Bool)} (w : World) (h : X.i_ParseMove a0 = some r) (hE : EV prog w) : Calls prog 120 #[.string (bs a0)] w (Ret w (.tuple #[.agg (eMove r.1).toArray, .bool r.2])) := by
  refine calls (M := no) (args := [.string (bs a0)]) func120 rfl ?_
  replace h : H (X.i_ParseMove a0) (fun o => o = r) := H.mk h
  unfold X.i_ParseMove at h
  refine c_seq ?_
  refine r_start ?_
  refine xx rfl (x_new (eMove zMove) fun g0_0 => ?_)
  refine p 1 ?_
  refine rend ?_
  refine c_seq ?_
  refine r_start ?_
  refine p 1 ?_
  obtain ⟨v1_1, hv1_1, h⟩ := H.call h
  refine xq rfl (y_call [.string (bs a0), .string (bs ([42] : Str))] (.tuple #[.string (bs v1_1.1), .string (bs v1_1.2.1), .bool v1_1.2.2]) func72 (fun W S => C.strings_Cut W hv1_1)) ?_
  refine p 7 ?_
  refine rend ?_
  refine c_seq ?_
  refine r_start ?_
  refine p 2 ?_
  refine xx rfl (x_new (eMove zMove) fun g2_2 => ?_)
  refine xx rfl (x_sto 1 g2_2 0 (eMove (⟨v1_1.1, 1⟩ : Move)) ?_)
  refine rend ?_
  refine c_seq ?_
  refine c_seq ?_
  refine r_start ?_
  refine p 1 ?_
  refine rend ?_
  refine c_or v1_1.2.2 (fun q1 => ?_) (fun q1 => ?_)
  · replace h := H.t q1 h
    refine r_start ?_
    refine p 1 ?_
    obtain ⟨v4_1, hv4_1, h⟩ := H.call h
    refine xq rfl (y_call [.string (bs v1_1.2.1)] (.tuple #[.int .i64 v4_1.1, .bool v4_1.2]) func178 (fun W S => C.i_decimal W hv4_1 (hE.up S))) ?_
    refine p 4 ?_
    refine xx rfl (x_sto 1 g2_2 1 (eMove (⟨v1_1.1, v4_1.1⟩ : Move)) ?_)
    refine rend ?_
    refine c_seq ?_
    refine c_seq ?_
    refine r_start ?_
    refine p 2 ?_
    refine rend ?_
    refine c_or (seq a0 ([45] : Str)) (fun q2 => ?_) (fun q2 => ?_)
    · replace h := H.t q2 h
      refine r_start ?_
      refine p 1 ?_
      refine xx rfl (x_sto 1 g2_2 0 (eMove (⟨([] : Str), v4_1.1⟩ : Move)) ?_)
      refine rend ?_
      refine c_seq ?_
      refine c_seq ?_
      refine r_start ?_
      refine xq rfl (y_load (.agg (eMove (⟨([] : Str), v4_1.1⟩ : Move)).toArray) 1 g2_2 0) ?_
      obtain ⟨v7_1, hv7_1, h⟩ := H.call h
      refine xq rfl (y_call [.agg (eMove (⟨([] : Str), v4_1.1⟩ : Move)).toArray] (.bool v7_1) func149 (fun W S => C.i_IsMove W hv7_1)) ?_
      refine p 2 ?_
      refine br (!v7_1) (fun q3 => ?_) (fun q3 => ?_)
      · replace h := H.t q3 h
        refine o_set 29 (congrArg Value.bool q3) ?_
        refine p 5 ?_
        refine rend ?_
        refine c_t (by kernel_rfl) ?_
        refine c_seq ?_
        refine r_start ?_
        refine p 1 ?_
        refine xx rfl (x_sto 0 g0_0 0 (eMove zMove) ?_)
        refine p 1 ?_
        refine rend ?_
        replace h := H.done h
        subst h
        exact ret func120 rfl (vs := [.agg (eMove zMove).toArray, .bool false]) (.cell 0 g0_0 rfl (by kernel_rfl) (by kernel_rfl) (.tmp (by kernel_rfl) .nil)) rfl (fun W S => ⟨rfl, S.below⟩)
      replace h := H.f q3 h
      refine o_set 29 (congrArg Value.bool q3) ?_
      refine xq rfl (y_load (.agg (eMove (⟨([] : Str), v4_1.1⟩ : Move)).toArray) 1 g2_2 0) ?_
      obtain ⟨v7_5, hv7_5, h⟩ := H.call h
      refine xq rfl (y_call [.agg (eMove (⟨([] : Str), v4_1.1⟩ : Move)).toArray] (.string (bs v7_5)) func132 (fun W S => C.i_Move_text W hv7_5)) ?_
      refine p 3 ?_
      refine rend ?_
      refine c_or (!seq v7_5 a0) (fun q4 => ?_) (fun q4 => ?_)
      · replace h := H.t q4 h
        refine c_seq ?_
        refine r_start ?_
        refine p 1 ?_
        refine xx rfl (x_sto 0 g0_0 0 (eMove zMove) ?_)
        refine p 1 ?_
        refine rend ?_
        replace h := H.done h
        subst h
        exact ret func120 rfl (vs := [.agg (eMove zMove).toArray, .bool false]) (.cell 0 g0_0 rfl (by kernel_rfl) (by kernel_rfl) (.tmp (by kernel_rfl) .nil)) rfl (fun W S => ⟨rfl, S.below⟩)
      replace h := H.f q4 h
      refine c_skip ?_
      refine c_seq ?_
      refine r_start ?_
      refine xq rfl (y_load (.agg (eMove (⟨([] : Str), v4_1.1⟩ : Move)).toArray) 1 g2_2 0) ?_
      refine xx rfl (x_sto 0 g0_0 0 (eMove (⟨([] : Str), v4_1.1⟩ : Move)) ?_)
      refine p 1 ?_
      refine rend ?_
      replace h := H.done h
      subst h
      exact ret func120 rfl (vs := [.agg (eMove (⟨([] : Str), v4_1.1⟩ : Move)).toArray, .bool true]) (.cell 0 g0_0 rfl (by kernel_rfl) (by kernel_rfl) (.tmp (by kernel_rfl) .nil)) rfl (fun W S => ⟨rfl, S.below⟩)
    replace h := H.f q2 h
    refine c_skip ?_
    refine c_seq ?_
    refine c_seq ?_
    refine r_start ?_
    refine xq rfl (y_load (.agg (eMove (⟨v1_1.1, v4_1.1⟩ : Move)).toArray) 1 g2_2 0) ?_
    obtain ⟨v7_1, hv7_1, h⟩ := H.call h
    refine xq rfl (y_call [.agg (eMove (⟨v1_1.1, v4_1.1⟩ : Move)).toArray] (.bool v7_1) func149 (fun W S => C.i_IsMove W hv7_1)) ?_
    refine p 2 ?_
    refine br (!v7_1) (fun q5 => ?_) (fun q5 => ?_)
    · replace h := H.t q5 h
      refine o_set 29 (congrArg Value.bool q5) ?_
      refine p 5 ?_
      refine rend ?_
      refine c_t (by kernel_rfl) ?_
      refine c_seq ?_
      refine r_start ?_
      refine p 1 ?_
      refine xx rfl (x_sto 0 g0_0 0 (eMove zMove) ?_)
      refine p 1 ?_
      refine rend ?_
      replace h := H.done h
      subst h
      exact ret func120 rfl (vs := [.agg (eMove zMove).toArray, .bool false]) (.cell 0 g0_0 rfl (by kernel_rfl) (by kernel_rfl) (.tmp (by kernel_rfl) .nil)) rfl (fun W S => ⟨rfl, S.below⟩)
    replace h := H.f q5 h
    refine o_set 29 (congrArg Value.bool q5) ?_
    refine xq rfl (y_load (.agg (eMove (⟨v1_1.1, v4_1.1⟩ : Move)).toArray) 1 g2_2 0) ?_
    obtain ⟨v7_5, hv7_5, h⟩ := H.call h
    refine xq rfl (y_call [.agg (eMove (⟨v1_1.1, v4_1.1⟩ : Move)).toArray] (.string (bs v7_5)) func132 (fun W S => C.i_Move_text W hv7_5)) ?_
    refine p 3 ?_
    refine rend ?_
    refine c_or (!seq v7_5 a0) (fun q6 => ?_) (fun q6 => ?_)
    · replace h := H.t q6 h
      refine c_seq ?_
      refine r_start ?_
      refine p 1 ?_
      refine xx rfl (x_sto 0 g0_0 0 (eMove zMove) ?_)
      refine p 1 ?_
      refine rend ?_
      replace h := H.done h
      subst h
      exact ret func120 rfl (vs := [.agg (eMove zMove).toArray, .bool false]) (.cell 0 g0_0 rfl (by kernel_rfl) (by kernel_rfl) (.tmp (by kernel_rfl) .nil)) rfl (fun W S => ⟨rfl, S.below⟩)
    replace h := H.f q6 h
    refine c_skip ?_
    refine c_seq ?_
    refine r_start ?_
    refine xq rfl (y_load (.agg (eMove (⟨v1_1.1, v4_1.1⟩ : Move)).toArray) 1 g2_2 0) ?_
    refine xx rfl (x_sto 0 g0_0 0 (eMove (⟨v1_1.1, v4_1.1⟩ : Move)) ?_)
    refine p 1 ?_
    refine rend ?_
    replace h := H.done h
    subst h
    exact ret func120 rfl (vs := [.agg (eMove (⟨v1_1.1, v4_1.1⟩ : Move)).toArray, .bool true]) (.cell 0 g0_0 rfl (by kernel_rfl) (by kernel_rfl) (.tmp (by kernel_rfl) .nil)) rfl (fun W S => ⟨rfl, S.below⟩)
  replace h := H.f q1 h
  refine c_skip ?_
  refine c_seq ?_
  refine c_seq ?_
  refine r_start ?_
  refine p 2 ?_
  refine rend ?_
  refine c_or (seq a0 ([45] : Str)) (fun q7 => ?_) (fun q7 => ?_)
  · replace h := H.t q7 h
    refine r_start ?_
    refine p 1 ?_
    refine xx rfl (x_sto 1 g2_2 0 (eMove (⟨([] : Str), 1⟩ : Move)) ?_)
    refine rend ?_
    refine c_seq ?_
    refine c_seq ?_
    refine r_start ?_
    refine xq rfl (y_load (.agg (eMove (⟨([] : Str), 1⟩ : Move)).toArray) 1 g2_2 0) ?_
    obtain ⟨v7_1, hv7_1, h⟩ := H.call h
    refine xq rfl (y_call [.agg (eMove (⟨([] : Str), 1⟩ : Move)).toArray] (.bool v7_1) func149 (fun W S => C.i_IsMove W hv7_1)) ?_
    refine p 2 ?_
    refine br (!v7_1) (fun q8 => ?_) (fun q8 => ?_)
    · replace h := H.t q8 h
      refine o_set 29 (congrArg Value.bool q8) ?_
      refine p 5 ?_
      refine rend ?_
      refine c_t (by kernel_rfl) ?_
      refine c_seq ?_
      refine r_start ?_
      refine p 1 ?_
      refine xx rfl (x_sto 0 g0_0 0 (eMove zMove) ?_)
      refine p 1 ?_
      refine rend ?_
      replace h := H.done h
      subst h
      exact ret func120 rfl (vs := [.agg (eMove zMove).toArray, .bool false]) (.cell 0 g0_0 rfl (by kernel_rfl) (by kernel_rfl) (.tmp (by kernel_rfl) .nil)) rfl (fun W S => ⟨rfl, S.below⟩)
    replace h := H.f q8 h
    refine o_set 29 (congrArg Value.bool q8) ?_
    refine xq rfl (y_load (.agg (eMove (⟨([] : Str), 1⟩ : Move)).toArray) 1 g2_2 0) ?_
    obtain ⟨v7_5, hv7_5, h⟩ := H.call h
    refine xq rfl (y_call [.agg (eMove (⟨([] : Str), 1⟩ : Move)).toArray] (.string (bs v7_5)) func132 (fun W S => C.i_Move_text W hv7_5)) ?_
    refine p 3 ?_
    refine rend ?_
    refine c_or (!seq v7_5 a0) (fun q9 => ?_) (fun q9 => ?_)
    · replace h := H.t q9 h
      refine c_seq ?_
      refine r_start ?_
      refine p 1 ?_
      refine xx rfl (x_sto 0 g0_0 0 (eMove zMove) ?_)
      refine p 1 ?_
      refine rend ?_
      replace h := H.done h
      subst h
      exact ret func120 rfl (vs := [.agg (eMove zMove).toArray, .bool false]) (.cell 0 g0_0 rfl (by kernel_rfl) (by kernel_rfl) (.tmp (by kernel_rfl) .nil)) rfl (fun W S => ⟨rfl, S.below⟩)
    replace h := H.f q9 h
    refine c_skip ?_
    refine c_seq ?_
    refine r_start ?_
    refine xq rfl (y_load (.agg (eMove (⟨([] : Str), 1⟩ : Move)).toArray) 1 g2_2 0) ?_
    refine xx rfl (x_sto 0 g0_0 0 (eMove (⟨([] : Str), 1⟩ : Move)) ?_)
    refine p 1 ?_
    refine rend ?_
    replace h := H.done h
    subst h
    exact ret func120 rfl (vs := [.agg (eMove (⟨([] : Str), 1⟩ : Move)).toArray, .bool true]) (.cell 0 g0_0 rfl (by kernel_rfl) (by kernel_rfl) (.tmp (by kernel_rfl) .nil)) rfl (fun W S => ⟨rfl, S.below⟩)
  replace h := H.f q7 h
  refine c_skip ?_
  refine c_seq ?_
  refine c_seq ?_
  refine r_start ?_
  refine xq rfl (y_load (.agg (eMove (⟨v1_1.1, 1⟩ : Move)).toArray) 1 g2_2 0) ?_
  obtain ⟨v7_1, hv7_1, h⟩ := H.call h
  refine xq rfl (y_call [.agg (eMove (⟨v1_1.1, 1⟩ : Move)).toArray] (.bool v7_1) func149 (fun W S => C.i_IsMove W hv7_1)) ?_
  refine p 2 ?_
  refine br (!v7_1) (fun q10 => ?_) (fun q10 => ?_)
  · replace h := H.t q10 h
    refine o_set 29 (congrArg Value.bool q10) ?_
    refine p 5 ?_
    refine rend ?_
    refine c_t (by kernel_rfl) ?_
    refine c_seq ?_
    refine r_start ?_
    refine p 1 ?_
    refine xx rfl (x_sto 0 g0_0 0 (eMove zMove) ?_)
    refine p 1 ?_
    refine rend ?_
    replace h := H.done h
    subst h
    exact ret func120 rfl (vs := [.agg (eMove zMove).toArray, .bool false]) (.cell 0 g0_0 rfl (by kernel_rfl) (by kernel_rfl) (.tmp (by kernel_rfl) .nil)) rfl (fun W S => ⟨rfl, S.below⟩)
  replace h := H.f q10 h
  refine o_set 29 (congrArg Value.bool q10) ?_
  refine xq rfl (y_load (.agg (eMove (⟨v1_1.1, 1⟩ : Move)).toArray) 1 g2_2 0) ?_
  obtain ⟨v7_5, hv7_5, h⟩ := H.call h
  refine xq rfl (y_call [.agg (eMove (⟨v1_1.1, 1⟩ : Move)).toArray] (.string (bs v7_5)) func132 (fun W S => C.i_Move_text W hv7_5)) ?_
  refine p 3 ?_
  refine rend ?_
  refine c_or (!seq v7_5 a0) (fun q11 => ?_) (fun q11 => ?_)
  · replace h := H.t q11 h
    refine c_seq ?_
    refine r_start ?_
    refine p 1 ?_
    refine xx rfl (x_sto 0 g0_0 0 (eMove zMove) ?_)
    refine p 1 ?_
    refine rend ?_
    replace h := H.done h
    subst h
    exact ret func120 rfl (vs := [.agg (eMove zMove).toArray, .bool false]) (.cell 0 g0_0 rfl (by kernel_rfl) (by kernel_rfl) (.tmp (by kernel_rfl) .nil)) rfl (fun W S => ⟨rfl, S.below⟩)
  replace h := H.f q11 h
  refine c_skip ?_
  refine c_seq ?_
  refine r_start ?_
  refine xq rfl (y_load (.agg (eMove (⟨v1_1.1, 1⟩ : Move)).toArray) 1 g2_2 0) ?_
  refine xx rfl (x_sto 0 g0_0 0 (eMove (⟨v1_1.1, 1⟩ : Move)) ?_)
  refine p 1 ?_
  refine rend ?_
  replace h := H.done h
  subst h
  exact ret func120 rfl (vs := [.agg (eMove (⟨v1_1.1, 1⟩ : Move)).toArray, .bool true]) (.cell 0 g0_0 rfl (by kernel_rfl) (by kernel_rfl) (.tmp (by kernel_rfl) .nil)) rfl (fun W S => ⟨rfl, S.below⟩)
theorem C.i_readHand {fu : Nat} {a0 : Str} {r : (Hand × Int × Int)} (w : World) (h : X.i_readHand fu a0 = some r) (hE : EV prog w) : Calls prog 73 #[.string (bs a0)] w (Ret w (.tuple #[.agg (eHand r.1).toArray, .int .i64 r.2.1, .int .i64 r.2.2])) := by
  refine calls (M := no) (args := [.string (bs a0)]) func73 rfl ?_
  replace h : H (X.i_readHand fu a0) (fun o => o = r) := H.mk h
  unfold X.i_readHand at h
  refine c_seq ?_
  refine r_start ?_
  refine xx rfl (x_new (eHand zHand) fun g0_0 => ?_)
  refine p 2 ?_
  refine rend ?_
  refine c_seq ?_
  refine r_start ?_
  refine p 1 ?_
  obtain ⟨v1_1, hv1_1, h⟩ := H.call h
  refine xx rfl (e_cr [.string (bs a0), .string (bs ([47] : Str))] (fun v => v) func116 (fun W S => C.strings_Split W hv1_1) fun A1_1 k1_1 => ?_)
  refine p 1 ?_
  refine rend ?_
  refine c_seq ?_
  refine c_seq ?_
  refine r_start ?_
  refine p 3 ?_
  refine rend ?_
  refine c_or ((List.length v1_1 : Int) != 4) (fun q1 => ?_) (fun q1 => ?_)
  · replace h := H.t q1 h
    refine c_seq ?_
    refine r_start ?_
    refine p 1 ?_
    refine xx rfl (x_sto 0 g0_0 0 (eHand zHand) ?_)
    refine p 2 ?_
    refine rend ?_
    replace h := H.done h
    subst h
    exact ret func73 rfl (vs := [.agg (eHand zHand).toArray, .int .i64 2, .int .i64 0]) (.cell 0 g0_0 rfl (by kernel_rfl) (by kernel_rfl) (.tmp (by kernel_rfl) (.tmp (by kernel_rfl) .nil))) rfl (fun W S => ⟨rfl, S.below⟩)
  replace h := H.f q1 h
  refine c_skip ?_
  refine c_seq ?_
  refine r_start ?_
  refine xx rfl (x_new (eHand zHand) fun g4_0 => ?_)
  refine rend ?_
  refine c_seq ?_
  refine r_start ?_
  refine xx rfl (x_new (Enc.flat eB ([false, false, false, false] : List Bool)) fun g5_0 => ?_)
  refine rend ?_
  refine c_seq ?_
  refine r_start ?_
  refine p 1 ?_
  obtain ⟨y6_1, hy6_1, h⟩ := H.call h
  refine xq rfl (y_idx (e := eS) (el := 9) hy6_1 (s_own 1)) ?_
  refine xq rfl (y_el (e := eS) 0 (.string (bs y6_1)) hy6_1 (s_own 1)) ?_
  obtain ⟨v6_3, hv6_3, h⟩ := H.call h
  refine xq rfl (y_call [.string (bs y6_1)] (.tuple #[.agg (eShape v6_3.1).toArray, .bool v6_3.2]) func117 (fun W S => C.i_ParseShape W hv6_3)) ?_
  refine p 4 ?_
  refine xx rfl (x_sto 2 g4_0 0 (eHand ({ zHand with Shape := v6_3.1 })) ?_)
  obtain ⟨y6_9, hy6_9, h⟩ := H.call h
  refine xq rfl (y_arp (e := eB) (el := 4) (g := g5_0) hy6_9) ?_
  refine xx rfl (x_sto 3 g5_0 0 (Enc.flat eB ([v6_3.2, false, false, false] : List Bool)) ?_)
  refine rend ?_
  refine c_seq ?_
  refine r_start ?_
  refine p 1 ?_
  obtain ⟨y7_1, hy7_1, h⟩ := H.call h
  refine xq rfl (y_idx (e := eS) (el := 9) hy7_1 (s_own 1)) ?_
  refine xq rfl (y_el (e := eS) 0 (.string (bs y7_1)) hy7_1 (s_own 1)) ?_
  obtain ⟨v7_3, hv7_3, h⟩ := H.call h
  refine xq rfl (y_call [.string (bs y7_1)] (.tuple #[.agg (eOrient v7_3.1).toArray, .bool v7_3.2]) func118 (fun W S => C.i_ParseOrient W hv7_3)) ?_
  refine p 4 ?_
  refine xx rfl (x_sto 2 g4_0 6 (eHand ({ zHand with Shape := v6_3.1, Orient := v7_3.1 })) ?_)
  obtain ⟨y7_9, hy7_9, h⟩ := H.call h
  refine xq rfl (y_arp (e := eB) (el := 4) (g := g5_0) hy7_9) ?_
  refine xx rfl (x_sto 3 g5_0 1 (Enc.flat eB ([v6_3.2, v7_3.2, false, false] : List Bool)) ?_)
  refine rend ?_
  refine c_seq ?_
  refine r_start ?_
  refine p 1 ?_
  obtain ⟨y8_1, hy8_1, h⟩ := H.call h
  refine xq rfl (y_idx (e := eS) (el := 9) hy8_1 (s_own 1)) ?_
  refine xq rfl (y_el (e := eS) 0 (.string (bs y8_1)) hy8_1 (s_own 1)) ?_
  obtain ⟨v8_3, hv8_3, h⟩ := H.call h
  refine xq rfl (y_call [.string (bs y8_1)] (.tuple #[.agg (ePlace v8_3.1).toArray, .bool v8_3.2]) func119 (fun W S => C.i_ParsePlace W hv8_3)) ?_
  refine p 4 ?_
  refine xx rfl (x_sto 2 g4_0 8 (eHand (⟨v6_3.1, v7_3.1, v8_3.1, zHand.Move⟩ : Hand)) ?_)
  obtain ⟨y8_9, hy8_9, h⟩ := H.call h
  refine xq rfl (y_arp (e := eB) (el := 4) (g := g5_0) hy8_9) ?_
  refine xx rfl (x_sto 3 g5_0 2 (Enc.flat eB ([v6_3.2, v7_3.2, v8_3.2, false] : List Bool)) ?_)
  refine rend ?_
  refine c_seq ?_
  refine r_start ?_
  refine p 1 ?_
  obtain ⟨y9_1, hy9_1, h⟩ := H.call h
  refine xq rfl (y_idx (e := eS) (el := 9) hy9_1 (s_own 1)) ?_
  refine xq rfl (y_el (e := eS) 0 (.string (bs y9_1)) hy9_1 (s_own 1)) ?_
  obtain ⟨v9_3, hv9_3, h⟩ := H.call h
  refine xq rfl (y_call [.string (bs y9_1)] (.tuple #[.agg (eMove v9_3.1).toArray, .bool v9_3.2]) func120 (fun W S => C.i_ParseMove W hv9_3 (hE.up S))) ?_
  refine p 4 ?_
  refine xx rfl (x_sto 2 g4_0 11 (eHand (⟨v6_3.1, v7_3.1, v8_3.1, v9_3.1⟩ : Hand)) ?_)
  obtain ⟨y9_9, hy9_9, h⟩ := H.call h
  refine xq rfl (y_arp (e := eB) (el := 4) (g := g5_0) hy9_9) ?_
  refine xx rfl (x_sto 3 g5_0 3 (Enc.flat eB ([v6_3.2, v7_3.2, v8_3.2, v9_3.2] : List Bool)) ?_)
  refine rend ?_
  refine c_seq ?_
  refine r_start ?_
  refine p 1 ?_
  refine rend ?_
  refine c_seq ?_
  refine c_seq ?_
  refine r_start ?_
  refine xq rfl (y_load (.agg (Enc.flat eB ([v6_3.2, v7_3.2, v8_3.2, v9_3.2] : List Bool)).toArray) 3 g5_0 0) ?_
  refine p 1 ?_
  refine rend ?_
  refine c_block ?_
  refine joinE (X := Unit) 0 (H.or h) (fun (x : Unit) => x) (fun _ => [box g0_0 44 (eHand zHand), rowT eS w.heap.size 9 (.slice A1_1 (List.length v1_1) k1_1) v1_1, box g4_0 44 (eHand (⟨v6_3.1, v7_3.1, v8_3.1, v9_3.1⟩ : Hand)), box g5_0 151 (Enc.flat eB ([v6_3.2, v7_3.2, v8_3.2, v9_3.2] : List Bool))]) (fun _ u => (jk u 0 2 (.pointer (some ⟨g0_0, 0, none⟩) :: (jk u 3 3 (.pointer (some ⟨g4_0, 0, none⟩) :: (jk u 7 67 [])))))) (fun h hj4 => ?_) ?_
  · skip
    refine loopR (X := (Int × Int)) (fun (x : (Int × Int)) => x) (fun ⟨n2, n3⟩ => [box g0_0 44 (eHand zHand), rowT eS w.heap.size 9 (.slice A1_1 (List.length v1_1) k1_1) v1_1, box g4_0 44 (eHand (⟨v6_3.1, v7_3.1, v8_3.1, v9_3.1⟩ : Hand)), box g5_0 151 (Enc.flat eB ([v6_3.2, v7_3.2, v8_3.2, v9_3.2] : List Bool))]) (fun ⟨n2, n3⟩ u => (jk u 0 2 (.pointer (some ⟨g0_0, 0, none⟩) :: (jk u 3 2 (.slice A1_1 (List.length v1_1) k1_1 :: .pointer (some ⟨g4_0, 0, none⟩) :: (jk u 7 1 (.int .i64 n2 :: (jk u 9 44 (.agg (Enc.flat eB ([v6_3.2, v7_3.2, v8_3.2, v9_3.2] : List Bool)).toArray :: .int .i64 n3 :: (jk u 55 19 [])))))))))) (0, 0) h (by kernel_rfl) (by kernel_rfl) ?_
    intro x u h
    obtain ⟨n2, n3⟩ := x
    refine c_seq ?_
    refine r_start ?_
    refine p 1 ?_
    refine rend ?_
    refine frg (fun u => (jk u 0 2 (.pointer (some ⟨g0_0, 0, none⟩) :: (jk u 3 2 (.slice A1_1 (List.length v1_1) k1_1 :: .pointer (some ⟨g4_0, 0, none⟩) :: (jk u 7 1 (.int .i64 n2 :: (jk u 9 44 (.agg (Enc.flat eB ([v6_3.2, v7_3.2, v8_3.2, v9_3.2] : List Bool)).toArray :: .int .i64 n3 :: .bool (decide (n3 < 4)) :: (jk u 56 18 [])))))))))) (by kernel_rfl) fun u => ?_
    refine keep 4 (its' := [box g0_0 44 (eHand zHand), rowT eS w.heap.size 9 (.slice A1_1 (List.length v1_1) k1_1) v1_1, box g4_0 44 (eHand (⟨v6_3.1, v7_3.1, v8_3.1, v9_3.1⟩ : Hand)), box g5_0 151 (Enc.flat eB ([v6_3.2, v7_3.2, v8_3.2, v9_3.2] : List Bool))]) (by kernel_rfl) ?_
    refine c_seq ?_
    refine c_or (decide (n3 < 4)) (fun q5 => ?_) (fun q5 => ?_)
    · replace h := H.t q5 h
      refine c_skip ?_
      refine c_seq ?_
      refine c_block ?_
      refine c_seq ?_
      refine r_start ?_
      refine p 1 ?_
      obtain ⟨y13_1, hy13_1, h⟩ := H.call h
      refine xq rfl (y_arr (e := eB) (el := 4) (.bool y13_1) hy13_1) ?_
      refine p 2 ?_
      refine rend ?_
      refine c_seq ?_
      refine c_seq ?_
      refine r_start ?_
      refine p 2 ?_
      refine rend ?_
      refine c_or (!y13_1) (fun q6 => ?_) (fun q6 => ?_)
      · replace h := H.t q6 h
        refine c_seq ?_
        refine r_start ?_
        refine p 4 ?_
        refine xx rfl (x_sto 0 g0_0 0 (eHand zHand) ?_)
        refine p 2 ?_
        refine rend ?_
        replace h := H.inr h
        replace h := H.done h
        subst h
        exact ret func73 rfl (vs := [.agg (eHand zHand).toArray, .int .i64 (wr (3 + n3)), .int .i64 n2]) (.cell 0 g0_0 rfl (by kernel_rfl) (by kernel_rfl) (.tmp (by kernel_rfl) (.tmp (by kernel_rfl) .nil))) rfl (fun W S => ⟨rfl, S.below⟩)
      replace h := H.f q6 h
      refine c_skip ?_
      refine r_start ?_
      refine p 3 ?_
      obtain ⟨y16_3, hy16_3, h⟩ := H.call h
      refine xq rfl (y_idx (e := eS) (el := 9) hy16_3 (s_own 1)) ?_
      refine xq rfl (y_el (e := eS) 0 (.string (bs y16_3)) hy16_3 (s_own 1)) ?_
      refine p 4 ?_
      refine rend ?_
      refine c_inb ?_
      refine r_start ?_
      refine p 2 ?_
      refine rend ?_
      replace h := H.inl h
      exact h ((wr (n2 + (wr ((List.length y16_3 : Int) + 1)))), (wr (n3 + 1))) _ _ rfl (by kernel_rfl) (by kernel_rfl)
    replace h := H.f q5 h
    refine cx ?_
    replace h := H.inr h
    exact hj4 () _ _ h (by kernel_rfl) (by kernel_rfl)
  intro x u h
  refine c_seq ?_
  refine r_start ?_
  refine xq rfl (y_load (.agg (eHand (⟨v6_3.1, v7_3.1, v8_3.1, v9_3.1⟩ : Hand)).toArray) 2 g4_0 0) ?_
  refine xx rfl (x_sto 0 g0_0 0 (eHand (⟨v6_3.1, v7_3.1, v8_3.1, v9_3.1⟩ : Hand)) ?_)
  refine p 2 ?_
  refine rend ?_
  replace h := H.done h
  subst h
  exact ret func73 rfl (vs := [.agg (eHand (⟨v6_3.1, v7_3.1, v8_3.1, v9_3.1⟩ : Hand)).toArray, .int .i64 0, .int .i64 0]) (.cell 0 g0_0 rfl (by kernel_rfl) (by kernel_rfl) (.tmp (by kernel_rfl) (.tmp (by kernel_rfl) .nil))) rfl (fun W S => ⟨rfl, S.below⟩)
theorem C.strings_Repeat {a0 : Str} {a1 : Int} {r : Str} (w : World) (h : X.strings_Repeat a0 a1 = some r) : Calls prog 128 #[.string (bs a0), .int .i64 a1] w (Ret w (.string (bs r))) := by
  unfold X.strings_Repeat at h
  split at h
  · rename_i hc
    obtain ⟨h0, h1, h2⟩ := hc
    obtain rfl := Option.some.inj h
    have := Tryz.strings_Repeat (bs a0) a1.toNat w (by omega) h2
    have e : ((a1.toNat : Nat) : Int) = a1 := by omega
    rw [e] at this
    exact this
  · cases h
theorem C.i_Move_all {a0 : Move} {r : Str} (w : World) (h : X.i_Move_all a0 = some r) : Calls prog 82 #[.agg (eMove a0).toArray] w (Ret w (.string (bs r))) := by
  refine calls (M := no) (args := [.agg (eMove a0).toArray]) func82 rfl ?_
  replace h : H (X.i_Move_all a0) (fun o => o = r) := H.mk h
  unfold X.i_Move_all at h
  refine c_seq ?_
  refine r_start ?_
  refine xx rfl (x_box (eMove a0) fun g0_0 => ?_)
  refine p 1 ?_
  refine rend ?_
  refine c_seq ?_
  refine r_start ?_
  refine p 1 ?_
  refine xq rfl (y_load (.string (bs a0.Steps)) 0 g0_0 0) ?_
  refine p 1 ?_
  refine xq rfl (y_load (.int .i64 a0.Repeat) 0 g0_0 1) ?_
  obtain ⟨v1_4, hv1_4, h⟩ := H.call h
  refine xq rfl (y_call [.string (bs a0.Steps), .int .i64 a0.Repeat] (.string (bs v1_4)) func128 (fun W S => C.strings_Repeat W hv1_4)) ?_
  refine p 1 ?_
  refine rend ?_
  replace h := H.done h
  subst h
  exact ret func82 rfl (vs := [.string (bs v1_4)]) (.tmp (by kernel_rfl) .nil) rfl (fun W S => ⟨rfl, S.below⟩)
theorem C.i_Hand_moves {a0 : Hand} {r : Bool} (w : World) (h : X.i_Hand_moves a0 = some r) : Calls prog 121 #[.agg (eHand a0).toArray] w (Ret w (.bool r)) := by
  refine calls (M := no) (args := [.agg (eHand a0).toArray]) func121 rfl ?_
  replace h : H (X.i_Hand_moves a0) (fun o => o = r) := H.mk h
  unfold X.i_Hand_moves at h
  refine c_seq ?_
  refine r_start ?_
  refine xx rfl (x_box (eHand a0) fun g0_0 => ?_)
  refine p 1 ?_
  refine rend ?_
  refine c_seq ?_
  refine r_start ?_
  refine p 2 ?_
  refine xq rfl (y_load (.string (bs a0.Move.Steps)) 0 g0_0 11) ?_
  refine p 2 ?_
  refine rend ?_
  replace h := H.done h
  subst h
  exact ret func121 rfl (vs := [.bool (!seq a0.Move.Steps ([] : Str))]) (.tmp (by kernel_rfl) .nil) rfl (fun W S => ⟨rfl, S.below⟩)
theorem C.slices_Index_i_Shape_i_Shape {a0 : (List Shape)} {A0 : Option Addr} {k0 : Nat} {a1 : Shape} {r : Int} (w : World) (h : X.slices_Index_i_Shape_i_Shape a0 a1 = some r) (h0 : RdT nShape w (.slice A0 (List.length a0) k0) a0) : Calls prog 179 #[.slice A0 (List.length a0) k0, .agg (eShape a1).toArray] w (Ret w (.int .i64 r)) := by
  refine calls (M := no) (args := [.slice A0 (List.length a0) k0, .agg (eShape a1).toArray]) func179 rfl ?_
  replace h : H (X.slices_Index_i_Shape_i_Shape a0 a1) (fun o => o = r) := H.mk h
  unfold X.slices_Index_i_Shape_i_Shape at h
  refine c_seq ?_
  refine r_start ?_
  refine xx rfl (x_box (eShape a1) fun g0_0 => ?_)
  refine p 1 ?_
  refine rend ?_
  refine c_seq ?_
  refine c_seq ?_
  refine r_start ?_
  refine p 3 ?_
  refine rend ?_
  refine c_block ?_
  refine joinE (X := Unit) 0 (H.or h) (fun (x : Unit) => x) (fun _ => [box g0_0 36 (eShape a1)]) (fun _ u => (jk u 0 19 [])) (fun h hj1 => ?_) ?_
  · skip
    refine rangeR (X := Unit) (s_arg h0) (fun (x : Unit) => x) (fun _ => [box g0_0 36 (eShape a1)]) (fun (j2 : Nat) _ u => (.slice A0 (List.length a0) k0 :: (jk u 1 2 (.pointer (some ⟨g0_0, 0, none⟩) :: (jk u 4 3 (.int .i64 (List.length a0 : Int) :: .int .i64 (j2 : Int) :: (jk u 9 10 []))))))) () h (by kernel_rfl) (by kernel_rfl) ?_ ?_
    · intro j2 x u x3 q4 hg5 hw6 h
      refine c_seq ?_
      refine r_start ?_
      refine p 1 ?_
      refine rend ?_
      refine c_seq ?_
      refine c_yes q4 ?_
      refine c_skip ?_
      refine c_seq ?_
      refine c_block ?_
      refine c_seq ?_
      refine r_start ?_
      refine p 2 ?_
      refine rend ?_
      refine c_seq ?_
      refine as_start 6 6 ?_
      refine aq 0 rfl (y_load (.agg (eShape a1).toArray) 0 g0_0 0) ?_
      refine ap 1 2 ?_
      refine aq 3 rfl (y_idx (e := nShape) (el := 36) hg5 (s_arg h0)) ?_
      refine aq 4 rfl (y_el (e := nShape) 0 (.agg (eShape x3).toArray) hg5 (s_arg h0)) ?_
      refine ap 5 1 ?_
      refine a_done ?_
      refine c_or (qShape a1 x3) (fun q7 => ?_) (fun q7 => ?_)
      · replace h := H.t q7 h
        refine c_seq ?_
        refine r_start ?_
        refine p 2 ?_
        refine rend ?_
        replace h := H.inr h
        replace h := H.done h
        subst h
        exact ret func179 rfl (vs := [.int .i64 (j2 : Int)]) (.tmp (by kernel_rfl) .nil) rfl (fun W S => ⟨rfl, S.below⟩)
      replace h := H.f q7 h
      refine c_skip ?_
      refine c_inb ?_
      refine r_start ?_
      refine p 2 ?_
      refine rend ?_
      refine c_set 8 (ci hw6) ?_
      replace h := H.inl h
      exact h () _ _ rfl (by kernel_rfl) (by kernel_rfl)
    · intro x u q4 h
      refine c_seq ?_
      refine r_start ?_
      refine p 1 ?_
      refine rend ?_
      refine c_seq ?_
      refine c_no q4 ?_
      refine cx ?_
      replace h := H.done h
      exact hj1 () _ _ h (by kernel_rfl) (by kernel_rfl)
  intro x u h
  refine c_seq ?_
  refine r_start ?_
  refine p 1 ?_
  refine rend ?_
  replace h := H.done h
  subst h
  exact ret func179 rfl (vs := [.int .i64 (-1)]) (.tmp (by kernel_rfl) .nil) rfl (fun W S => ⟨rfl, S.below⟩)
theorem C.slices_Contains_i_Shape_i_Shape {a0 : (List Shape)} {A0 : Option Addr} {k0 : Nat} {a1 : Shape} {r : Bool} (w : World) (h : X.slices_Contains_i_Shape_i_Shape a0 a1 = some r) (h0 : RdT nShape w (.slice A0 (List.length a0) k0) a0) : Calls prog 122 #[.slice A0 (List.length a0) k0, .agg (eShape a1).toArray] w (Ret w (.bool r)) := by
  refine calls (M := no) (args := [.slice A0 (List.length a0) k0, .agg (eShape a1).toArray]) func122 rfl ?_
  replace h : H (X.slices_Contains_i_Shape_i_Shape a0 a1) (fun o => o = r) := H.mk h
  unfold X.slices_Contains_i_Shape_i_Shape at h
  refine c_seq ?_
  refine r_start ?_
  refine xx rfl (x_box (eShape a1) fun g0_0 => ?_)
  refine p 1 ?_
  refine rend ?_
  refine c_seq ?_
  refine r_start ?_
  refine p 1 ?_
  refine xq rfl (y_load (.agg (eShape a1).toArray) 0 g0_0 0) ?_
  obtain ⟨v1_2, hv1_2, h⟩ := H.call h
  refine xq rfl (y_call [.slice A0 (List.length a0) k0, .agg (eShape a1).toArray] (.int .i64 v1_2) func179 (fun W S => C.slices_Index_i_Shape_i_Shape W hv1_2 ((s_arg h0).out W S))) ?_
  refine p 2 ?_
  refine rend ?_
  replace h := H.done h
  subst h
  exact ret func122 rfl (vs := [.bool (decide (v1_2 ≥ 0))]) (.tmp (by kernel_rfl) .nil) rfl (fun W S => ⟨rfl, S.below⟩)
theorem C.i_PlainShapes {fu : Nat} {r : (List Shape)} (w : World) (h : X.i_PlainShapes fu = some r) : Calls prog 123 #[] w (RetR nShape 36 w r (fun v => v)) := by
  refine calls (M := no) (args := []) func123 rfl ?_
  replace h : H (X.i_PlainShapes fu) (fun o => o = r) := H.mk h
  unfold X.i_PlainShapes at h
  refine c_seq ?_
  refine r_start ?_
  refine p 1 ?_
  refine rend ?_
  refine c_seq ?_
  refine r_start ?_
  refine p 1 ?_
  refine rend ?_
  refine c_seq ?_
  refine c_seq ?_
  refine r_start ?_
  refine xx rfl (e_lit (e := eS) (el := 9) [.string (bs ([48, 48, 48, 48, 48] : Str)), .string (bs ([48, 48, 48, 48, 48, 115] : Str)), .string (bs ([50, 50, 50, 50, 50] : Str)), .string (bs ([49, 48, 48, 48, 48] : Str)), .string (bs ([49, 48, 50, 50, 50] : Str)), .string (bs ([48, 48, 50, 50, 50] : Str))] ([([48, 48, 48, 48, 48] : Str), ([48, 48, 48, 48, 48, 115] : Str), ([50, 50, 50, 50, 50] : Str), ([49, 48, 48, 48, 48] : Str), ([49, 48, 50, 50, 50] : Str), ([48, 48, 50, 50, 50] : Str)] : List Str) fun A2_0 k2_0 => ?_)
  refine p 2 ?_
  refine rend ?_
  refine c_block ?_
  refine c_nil nShape 36 ?_
  refine joinH (X := ((List Shape) × Option Addr × Nat)) 0 (H.bnd h) (fun ⟨l4, A5, k6⟩ => l4) (fun ⟨l4, A5, k6⟩ => [rowT eS w.heap.size 9 (.slice A2_0 (List.length ([([48, 48, 48, 48, 48] : Str), ([48, 48, 48, 48, 48, 115] : Str), ([50, 50, 50, 50, 50] : Str), ([49, 48, 48, 48, 48] : Str), ([49, 48, 50, 50, 50] : Str), ([48, 48, 50, 50, 50] : Str)] : List Str)) k2_0) ([([48, 48, 48, 48, 48] : Str), ([48, 48, 48, 48, 48, 115] : Str), ([50, 50, 50, 50, 50] : Str), ([49, 48, 48, 48, 48] : Str), ([49, 48, 50, 50, 50] : Str), ([48, 48, 50, 50, 50] : Str)] : List Str), rowT nShape w.heap.size 36 (.slice A5 (List.length l4) k6) l4]) (fun ⟨l4, A5, k6⟩ u => (jk u 0 1 (.slice A5 (List.length l4) k6 :: (jk u 2 21 [])))) (fun h hj7 => ?_) ?_
  · skip
    refine rangeR (X := ((List Shape) × Option Addr × Nat)) (s_own 0) (fun ⟨l1, A2, k3⟩ => l1) (fun ⟨l1, A2, k3⟩ => [rowT eS w.heap.size 9 (.slice A2_0 (List.length ([([48, 48, 48, 48, 48] : Str), ([48, 48, 48, 48, 48, 115] : Str), ([50, 50, 50, 50, 50] : Str), ([49, 48, 48, 48, 48] : Str), ([49, 48, 50, 50, 50] : Str), ([48, 48, 50, 50, 50] : Str)] : List Str)) k2_0) ([([48, 48, 48, 48, 48] : Str), ([48, 48, 48, 48, 48, 115] : Str), ([50, 50, 50, 50, 50] : Str), ([49, 48, 48, 48, 48] : Str), ([49, 48, 50, 50, 50] : Str), ([48, 48, 50, 50, 50] : Str)] : List Str), rowT nShape w.heap.size 36 (.slice A2 (List.length l1) k3) l1]) (fun (j8 : Nat) ⟨l1, A2, k3⟩ u => (jk u 0 1 (.slice A2 (List.length l1) k3 :: (jk u 2 4 (.slice A2_0 (List.length ([([48, 48, 48, 48, 48] : Str), ([48, 48, 48, 48, 48, 115] : Str), ([50, 50, 50, 50, 50] : Str), ([49, 48, 48, 48, 48] : Str), ([49, 48, 50, 50, 50] : Str), ([48, 48, 50, 50, 50] : Str)] : List Str)) k2_0 :: .int .i64 (List.length ([([48, 48, 48, 48, 48] : Str), ([48, 48, 48, 48, 48, 115] : Str), ([50, 50, 50, 50, 50] : Str), ([49, 48, 48, 48, 48] : Str), ([49, 48, 50, 50, 50] : Str), ([48, 48, 50, 50, 50] : Str)] : List Str) : Int) :: .int .i64 (j8 : Int) :: (jk u 9 14 [])))))) (([] : List Shape), none, 0) h (by kernel_rfl) (by kernel_rfl) ?_ ?_
    · intro j8 x u x9 q10 hg11 hw12 h
      obtain ⟨l1, A2, k3⟩ := x
      refine c_seq ?_
      refine r_start ?_
      refine p 1 ?_
      refine rend ?_
      refine c_seq ?_
      refine c_yes q10 ?_
      refine c_skip ?_
      refine c_seq ?_
      refine c_block ?_
      refine c_seq ?_
      refine r_start ?_
      refine xq rfl (y_idx (e := eS) (el := 9) hg11 (s_own 0)) ?_
      refine xq rfl (y_el (e := eS) 0 (.string (bs x9)) hg11 (s_own 0)) ?_
      refine p 1 ?_
      refine rend ?_
      refine c_seq ?_
      refine r_start ?_
      refine p 1 ?_
      obtain ⟨v5_1, hv5_1, h⟩ := H.call h
      refine xq rfl (y_call [.string (bs x9)] (.tuple #[.agg (eShape v5_1.1).toArray, .bool v5_1.2]) func117 (fun W S => C.i_ParseShape W hv5_1)) ?_
      refine p 3 ?_
      refine xx rfl (x_new (eShape zShape) fun g5_5 => ?_)
      refine xx rfl (x_sto 2 g5_5 0 (eShape v5_1.1) ?_)
      refine p 1 ?_
      refine rend ?_
      refine r_start ?_
      refine p 1 ?_
      refine xq rfl (y_load (.agg (eShape v5_1.1).toArray) 2 g5_5 0) ?_
      refine xx rfl (e_lit (e := nShape) (el := 36) [.agg (eShape v5_1.1).toArray] ([v5_1.1] : List Shape) fun A6_2 k6_2 => ?_)
      obtain ⟨y6_3, hy6_3, h⟩ := H.call h
      refine xx rfl (e_app 1 hy6_3 (s_own 3) fun A6_3 k6_3 => ?_)
      refine p 1 ?_
      refine rend ?_
      refine c_inb ?_
      refine r_start ?_
      refine p 2 ?_
      refine rend ?_
      refine c_set 8 (ci hw12) ?_
      replace h := H.inl h
      exact h (y6_3, A6_3, k6_3) _ _ rfl (by kernel_rfl) (by kernel_rfl)
    · intro x u q10 h
      obtain ⟨l1, A2, k3⟩ := x
      refine c_seq ?_
      refine r_start ?_
      refine p 1 ?_
      refine rend ?_
      refine c_seq ?_
      refine c_no q10 ?_
      refine cx ?_
      replace h := H.done h
      exact hj7 (l1, A2, k3) _ _ h (by kernel_rfl) (by kernel_rfl)
  intro x u h
  obtain ⟨l4, A5, k6⟩ := x
  refine c_seq ?_
  refine r_start ?_
  refine p 2 ?_
  refine rend ?_
  replace h := H.done h
  subst h
  exact ret func123 rfl (vs := [.slice A5 (List.length l4) k6]) (.tmp (by kernel_rfl) .nil) rfl (fun W S => ⟨_, _, rfl, S.row 1, S.below⟩)
theorem C.i_Orient_mirrored_1 {a0 : Int} {r : Int} (w : World) (h : X.i_Orient_mirrored_1 a0 = some r) : Calls prog 180 #[.int .i64 a0] w (Ret w (.int .i64 r)) := by
  refine calls (M := no) (args := [.int .i64 a0]) func180 rfl ?_
  replace h : H (X.i_Orient_mirrored_1 a0) (fun o => o = r) := H.mk h
  unfold X.i_Orient_mirrored_1 at h
  refine c_seq ?_
  refine r_start ?_
  refine p 1 ?_
  refine rend ?_
  refine c_seq ?_
  refine c_seq ?_
  refine r_start ?_
  refine p 3 ?_
  refine br (a0 == 2) (fun q1 => ?_) (fun q1 => ?_)
  · replace h := H.t q1 h
    refine o_set 5 (congrArg Value.bool q1) ?_
    refine p 3 ?_
    refine rend ?_
    refine c_t (by kernel_rfl) ?_
    refine c_seq ?_
    refine r_start ?_
    refine p 3 ?_
    refine rend ?_
    replace h := H.done h
    subst h
    exact ret func180 rfl (vs := [.int .i64 (wr (Int.ofNat (BitVec.ofInt (IntKind.bits .i64) a0 ^^^ BitVec.ofInt (IntKind.bits .i64) 1).toNat))]) (.tmp (by kernel_rfl) .nil) rfl (fun W S => ⟨rfl, S.below⟩)
  replace h := H.f q1 h
  refine o_set 5 (congrArg Value.bool q1) ?_
  refine p 3 ?_
  refine rend ?_
  refine c_or (a0 == 3) (fun q2 => ?_) (fun q2 => ?_)
  · replace h := H.t q2 h
    refine c_seq ?_
    refine r_start ?_
    refine p 3 ?_
    refine rend ?_
    replace h := H.done h
    subst h
    exact ret func180 rfl (vs := [.int .i64 (wr (Int.ofNat (BitVec.ofInt (IntKind.bits .i64) a0 ^^^ BitVec.ofInt (IntKind.bits .i64) 1).toNat))]) (.tmp (by kernel_rfl) .nil) rfl (fun W S => ⟨rfl, S.below⟩)
  replace h := H.f q2 h
  refine c_skip ?_
  refine c_seq ?_
  refine r_start ?_
  refine p 2 ?_
  refine rend ?_
  replace h := H.done h
  subst h
  exact ret func180 rfl (vs := [.int .i64 a0]) (.tmp (by kernel_rfl) .nil) rfl (fun W S => ⟨rfl, S.below⟩)
theorem C.i_Orient_mirrored {a0 : Orient} {r : Orient} (w : World) (h : X.i_Orient_mirrored a0 = some r) : Calls prog 124 #[.agg (eOrient a0).toArray] w (Ret w (.agg (eOrient r).toArray)) := by
  refine calls (M := no) (args := [.agg (eOrient a0).toArray]) func124 rfl ?_
  replace h : H (X.i_Orient_mirrored a0) (fun o => o = r) := H.mk h
  unfold X.i_Orient_mirrored at h
  refine c_seq ?_
  refine r_start ?_
  refine xx rfl (x_box (eOrient a0) fun g0_0 => ?_)
  refine xx rfl (x_new (eOrient zOrient) fun g0_1 => ?_)
  refine rend ?_
  refine c_seq ?_
  refine r_start ?_
  refine p 1 ?_
  refine rend ?_
  refine c_seq ?_
  refine pick [0, 1] [box g0_0 38 (eOrient a0), box g0_1 38 (eOrient zOrient)] ?_
  refine as_startN 10 1 10 ?_
  refine ap 0 2 ?_
  refine aq 2 rfl (y_load (.int .i64 a0.Palm) 0 g0_0 0) ?_
  obtain ⟨v2_3, hv2_3, h⟩ := H.call h
  refine aq 3 rfl (y_callv [] [.int .i64 a0.Palm] (.int .i64 v2_3) func180 (fun W S => C.i_Orient_mirrored_1 W hv2_3)) ?_
  refine ap 4 2 ?_
  refine aq 6 rfl (y_load (.int .i64 a0.Fingers) 0 g0_0 1) ?_
  obtain ⟨v2_7, hv2_7, h⟩ := H.call h
  refine aq 7 rfl (y_callv [] [.int .i64 a0.Fingers] (.int .i64 v2_7) func180 (fun W S => C.i_Orient_mirrored_1 W hv2_7)) ?_
  refine ap 8 1 ?_
  refine ax 9 rfl (x_sto 1 g0_1 0 (eOrient (⟨v2_3, v2_7⟩ : Orient)) ⟨.inr (by kernel_rfl), ?_⟩)
  refine a_done ?_
  refine pick [0, 1] [box g0_0 38 (eOrient a0), box g0_1 38 (eOrient (⟨v2_3, v2_7⟩ : Orient))] ?_
  replace h := H.done h
  subst h
  exact ret func124 rfl (vs := [.agg (eOrient (⟨v2_3, v2_7⟩ : Orient)).toArray]) (.cell 1 g0_1 rfl (by kernel_rfl) (by kernel_rfl) .nil) rfl (fun W S => ⟨rfl, S.below⟩)
theorem C.i_keepRules {fu : Nat} {a0 : Hand} {a1 : Hand} {r : Bool} (w : World) (h : X.i_keepRules fu a0 a1 = some r) : Calls prog 74 #[.agg (eHand a0).toArray, .agg (eHand a1).toArray] w (Ret w (.bool r)) := by
  refine calls (M := no) (args := [.agg (eHand a0).toArray, .agg (eHand a1).toArray]) func74 rfl ?_
  replace h : H (X.i_keepRules fu a0 a1) (fun o => o = r) := H.mk h
  unfold X.i_keepRules at h
  refine c_seq ?_
  refine r_start ?_
  refine xx rfl (x_box (eHand a0) fun g0_0 => ?_)
  refine xx rfl (x_box (eHand a1) fun g0_1 => ?_)
  refine p 1 ?_
  refine rend ?_
  refine c_seq ?_
  refine c_seq ?_
  refine r_start ?_
  refine xq rfl (y_load (.agg (eHand a1).toArray) 1 g0_1 0) ?_
  obtain ⟨v1_1, hv1_1, h⟩ := H.call h
  refine xq rfl (y_call [.agg (eHand a1).toArray] (.bool v1_1) func121 (fun W S => C.i_Hand_moves W hv1_1)) ?_
  refine p 1 ?_
  refine rend ?_
  refine c_or (!v1_1) (fun q1 => ?_) (fun q1 => ?_)
  · replace h := H.t q1 h
    refine c_seq ?_
    refine as_start 12 12 ?_
    refine ap 0 1 ?_
    refine aq 1 rfl (y_load (.agg (eShape a1.Shape).toArray) 1 g0_1 0) ?_
    refine ap 2 1 ?_
    refine aq 3 rfl (y_load (.agg (eShape a0.Shape).toArray) 0 g0_0 0) ?_
    refine ap 4 2 ?_
    refine br (qShape a1.Shape a0.Shape) (fun q2 => ?_) (fun q2 => ?_)
    · replace h := H.t q2 h
      refine a_set 15 (congrArg Value.bool q2) ?_
      refine ap 6 6 ?_
      refine a_done ?_
      replace h := H.done h
      subst h
      exact ret func74 rfl (vs := [.bool true]) (.tmp (by kernel_rfl) .nil) rfl (fun W S => ⟨rfl, S.below⟩)
    replace h := H.f q2 h
    refine a_set 15 (congrArg Value.bool q2) ?_
    refine ap 7 1 ?_
    refine aq 8 rfl (y_load (.agg (eShape a1.Shape).toArray) 1 g0_1 0) ?_
    obtain ⟨v2_6, hv2_6, h⟩ := H.call h
    refine ax 6 rfl (e_cr [] (fun v => v) func123 (fun W S => C.i_PlainShapes W hv2_6) fun A2_6 k2_6 => ⟨.inr (by kernel_rfl), ?_⟩)
    obtain ⟨v2_9, hv2_9, h⟩ := H.call h
    refine ax 9 rfl (e_y (y_call [.slice A2_6 (List.length v2_6) k2_6, .agg (eShape a1.Shape).toArray] (.bool v2_9) func122 (fun W S => C.slices_Contains_i_Shape_i_Shape W hv2_9 ((s_own 2).out W S))) ⟨.inr (by kernel_rfl), ?_⟩)
    refine ap 10 2 ?_
    refine a_done ?_
    replace h := H.done h
    subst h
    exact ret func74 rfl (vs := [.bool v2_9]) (.tmp (by kernel_rfl) .nil) rfl (fun W S => ⟨rfl, S.below⟩)
  replace h := H.f q1 h
  refine c_skip ?_
  refine c_seq ?_
  refine as_start 14 14 ?_
  refine ap 0 1 ?_
  refine aq 1 rfl (y_load (.agg (eOrient a1.Orient).toArray) 1 g0_1 6) ?_
  refine ap 2 1 ?_
  refine aq 3 rfl (y_load (.agg (eOrient a0.Orient).toArray) 0 g0_0 6) ?_
  refine ap 4 2 ?_
  refine br (qOrient a1.Orient a0.Orient) (fun q3 => ?_) (fun q3 => ?_)
  · replace h := H.t q3 h
    refine a_set 26 (congrArg Value.bool q3) ?_
    refine ap 6 8 ?_
    refine a_done ?_
    refine c_seq ?_
    refine as_start 18 18 ?_
    refine ap 0 1 ?_
    refine aq 1 rfl (y_load (.agg (eMove a1.Move).toArray) 1 g0_1 11) ?_
    obtain ⟨v4_2, hv4_2, h⟩ := H.call h
    refine aq 2 rfl (y_call [.agg (eMove a1.Move).toArray] (.string (bs v4_2)) func82 (fun W S => C.i_Move_all W hv4_2)) ?_
    refine ap 3 1 ?_
    refine aq 4 rfl (y_load (.agg (eMove a0.Move).toArray) 0 g0_0 11) ?_
    obtain ⟨v4_5, hv4_5, h⟩ := H.call h
    refine aq 5 rfl (y_call [.agg (eMove a0.Move).toArray] (.string (bs v4_5)) func82 (fun W S => C.i_Move_all W hv4_5)) ?_
    refine ap 6 2 ?_
    refine br (seq v4_2 v4_5) (fun q4 => ?_) (fun q4 => ?_)
    · replace h := H.t q4 h
      refine a_set 41 (congrArg Value.bool q4) ?_
      refine ap 8 10 ?_
      refine a_done ?_
      refine c_seq ?_
      refine r_start ?_
      refine xq rfl (y_load (.agg (eHand a0).toArray) 0 g0_0 0) ?_
      obtain ⟨v5_1, hv5_1, h⟩ := H.call h
      refine xq rfl (y_call [.agg (eHand a0).toArray] (.bool v5_1) func121 (fun W S => C.i_Hand_moves W hv5_1)) ?_
      refine p 1 ?_
      refine br v5_1 (fun q5 => ?_) (fun q5 => ?_)
      · replace h := H.t q5 h
        refine o_set 53 (congrArg Value.bool q5) ?_
        refine p 1 ?_
        refine xq rfl (y_load (.agg (eShape a0.Shape).toArray) 0 g0_0 0) ?_
        refine p 1 ?_
        refine xq rfl (y_load (.agg (eShape a1.Shape).toArray) 1 g0_1 0) ?_
        refine p 3 ?_
        refine br (qShape a0.Shape a1.Shape) (fun q6 => ?_) (fun q6 => ?_)
        · replace h := H.t q6 h
          refine o_set 60 (congrArg Value.bool q6) ?_
          refine p 6 ?_
          refine rend ?_
          replace h := H.done h
          subst h
          exact ret func74 rfl (vs := [.bool true]) (.tmp (by kernel_rfl) .nil) rfl (fun W S => ⟨rfl, S.below⟩)
        replace h := H.f q6 h
        refine o_set 60 (congrArg Value.bool q6) ?_
        refine p 6 ?_
        refine rend ?_
        replace h := H.done h
        subst h
        exact ret func74 rfl (vs := [.bool false]) (.tmp (by kernel_rfl) .nil) rfl (fun W S => ⟨rfl, S.below⟩)
      replace h := H.f q5 h
      refine o_set 53 (congrArg Value.bool q5) ?_
      refine p 13 ?_
      refine rend ?_
      replace h := H.done h
      subst h
      exact ret func74 rfl (vs := [.bool false]) (.tmp (by kernel_rfl) .nil) rfl (fun W S => ⟨rfl, S.below⟩)
    replace h := H.f q4 h
    refine a_set 41 (congrArg Value.bool q4) ?_
    refine ap 8 1 ?_
    refine aq 9 rfl (y_load (.agg (eMove a1.Move).toArray) 1 g0_1 11) ?_
    obtain ⟨v4_10, hv4_10, h⟩ := H.call h
    refine aq 10 rfl (y_call [.agg (eMove a1.Move).toArray] (.string (bs v4_10)) func82 (fun W S => C.i_Move_all W hv4_10)) ?_
    refine ap 11 1 ?_
    refine aq 12 rfl (y_load (.agg (eMove a0.Move).toArray) 0 g0_0 11) ?_
    obtain ⟨v4_13, hv4_13, h⟩ := H.call h
    refine aq 13 rfl (y_call [.agg (eMove a0.Move).toArray] (.agg (eMove v4_13).toArray) func125 (fun W S => C.i_Move_mirrored W hv4_13)) ?_
    obtain ⟨v4_14, hv4_14, h⟩ := H.call h
    refine aq 14 rfl (y_call [.agg (eMove v4_13).toArray] (.string (bs v4_14)) func82 (fun W S => C.i_Move_all W hv4_14)) ?_
    refine ap 15 3 ?_
    refine a_done ?_
    refine c_seq ?_
    refine r_start ?_
    refine xq rfl (y_load (.agg (eHand a0).toArray) 0 g0_0 0) ?_
    obtain ⟨v5_1, hv5_1, h⟩ := H.call h
    refine xq rfl (y_call [.agg (eHand a0).toArray] (.bool v5_1) func121 (fun W S => C.i_Hand_moves W hv5_1)) ?_
    refine p 1 ?_
    refine br v5_1 (fun q7 => ?_) (fun q7 => ?_)
    · replace h := H.t q7 h
      refine o_set 53 (congrArg Value.bool q7) ?_
      refine p 1 ?_
      refine xq rfl (y_load (.agg (eShape a0.Shape).toArray) 0 g0_0 0) ?_
      refine p 1 ?_
      refine xq rfl (y_load (.agg (eShape a1.Shape).toArray) 1 g0_1 0) ?_
      refine p 3 ?_
      refine br (qShape a0.Shape a1.Shape) (fun q8 => ?_) (fun q8 => ?_)
      · replace h := H.t q8 h
        refine o_set 60 (congrArg Value.bool q8) ?_
        refine p 6 ?_
        refine rend ?_
        replace h := H.done h
        subst h
        exact ret func74 rfl (vs := [.bool (seq v4_10 v4_14)]) (.tmp (by kernel_rfl) .nil) rfl (fun W S => ⟨rfl, S.below⟩)
      replace h := H.f q8 h
      refine o_set 60 (congrArg Value.bool q8) ?_
      refine p 6 ?_
      refine rend ?_
      replace h := H.done h
      subst h
      exact ret func74 rfl (vs := [.bool false]) (.tmp (by kernel_rfl) .nil) rfl (fun W S => ⟨rfl, S.below⟩)
    replace h := H.f q7 h
    refine o_set 53 (congrArg Value.bool q7) ?_
    refine p 13 ?_
    refine rend ?_
    replace h := H.done h
    subst h
    exact ret func74 rfl (vs := [.bool false]) (.tmp (by kernel_rfl) .nil) rfl (fun W S => ⟨rfl, S.below⟩)
  replace h := H.f q3 h
  refine a_set 26 (congrArg Value.bool q3) ?_
  refine ap 6 1 ?_
  refine aq 7 rfl (y_load (.agg (eOrient a1.Orient).toArray) 1 g0_1 6) ?_
  refine ap 8 1 ?_
  refine aq 9 rfl (y_load (.agg (eOrient a0.Orient).toArray) 0 g0_0 6) ?_
  obtain ⟨v3_10, hv3_10, h⟩ := H.call h
  refine aq 10 rfl (y_call [.agg (eOrient a0.Orient).toArray] (.agg (eOrient v3_10).toArray) func124 (fun W S => C.i_Orient_mirrored W hv3_10)) ?_
  refine ap 11 3 ?_
  refine a_done ?_
  refine c_seq ?_
  refine as_start 18 18 ?_
  refine ap 0 1 ?_
  refine aq 1 rfl (y_load (.agg (eMove a1.Move).toArray) 1 g0_1 11) ?_
  obtain ⟨v4_2, hv4_2, h⟩ := H.call h
  refine aq 2 rfl (y_call [.agg (eMove a1.Move).toArray] (.string (bs v4_2)) func82 (fun W S => C.i_Move_all W hv4_2)) ?_
  refine ap 3 1 ?_
  refine aq 4 rfl (y_load (.agg (eMove a0.Move).toArray) 0 g0_0 11) ?_
  obtain ⟨v4_5, hv4_5, h⟩ := H.call h
  refine aq 5 rfl (y_call [.agg (eMove a0.Move).toArray] (.string (bs v4_5)) func82 (fun W S => C.i_Move_all W hv4_5)) ?_
  refine ap 6 2 ?_
  refine br (seq v4_2 v4_5) (fun q9 => ?_) (fun q9 => ?_)
  · replace h := H.t q9 h
    refine a_set 41 (congrArg Value.bool q9) ?_
    refine ap 8 10 ?_
    refine a_done ?_
    refine c_seq ?_
    refine r_start ?_
    refine xq rfl (y_load (.agg (eHand a0).toArray) 0 g0_0 0) ?_
    obtain ⟨v5_1, hv5_1, h⟩ := H.call h
    refine xq rfl (y_call [.agg (eHand a0).toArray] (.bool v5_1) func121 (fun W S => C.i_Hand_moves W hv5_1)) ?_
    refine p 1 ?_
    refine br v5_1 (fun q10 => ?_) (fun q10 => ?_)
    · replace h := H.t q10 h
      refine o_set 53 (congrArg Value.bool q10) ?_
      refine p 1 ?_
      refine xq rfl (y_load (.agg (eShape a0.Shape).toArray) 0 g0_0 0) ?_
      refine p 1 ?_
      refine xq rfl (y_load (.agg (eShape a1.Shape).toArray) 1 g0_1 0) ?_
      refine p 3 ?_
      refine br (qShape a0.Shape a1.Shape) (fun q11 => ?_) (fun q11 => ?_)
      · replace h := H.t q11 h
        refine o_set 60 (congrArg Value.bool q11) ?_
        refine p 3 ?_
        refine br (qOrient a1.Orient v3_10) (fun q12 => ?_) (fun q12 => ?_)
        · replace h := H.t q12 h
          refine o_set 63 (congrArg Value.bool q12) ?_
          refine p 3 ?_
          refine rend ?_
          replace h := H.done h
          subst h
          exact ret func74 rfl (vs := [.bool true]) (.tmp (by kernel_rfl) .nil) rfl (fun W S => ⟨rfl, S.below⟩)
        replace h := H.f q12 h
        refine o_set 63 (congrArg Value.bool q12) ?_
        refine p 3 ?_
        refine rend ?_
        replace h := H.done h
        subst h
        exact ret func74 rfl (vs := [.bool false]) (.tmp (by kernel_rfl) .nil) rfl (fun W S => ⟨rfl, S.below⟩)
      replace h := H.f q11 h
      refine o_set 60 (congrArg Value.bool q11) ?_
      refine p 6 ?_
      refine rend ?_
      replace h := H.done h
      subst h
      exact ret func74 rfl (vs := [.bool false]) (.tmp (by kernel_rfl) .nil) rfl (fun W S => ⟨rfl, S.below⟩)
    replace h := H.f q10 h
    refine o_set 53 (congrArg Value.bool q10) ?_
    refine p 13 ?_
    refine rend ?_
    replace h := H.done h
    subst h
    exact ret func74 rfl (vs := [.bool false]) (.tmp (by kernel_rfl) .nil) rfl (fun W S => ⟨rfl, S.below⟩)
  replace h := H.f q9 h
  refine a_set 41 (congrArg Value.bool q9) ?_
  refine ap 8 1 ?_
  refine aq 9 rfl (y_load (.agg (eMove a1.Move).toArray) 1 g0_1 11) ?_
  obtain ⟨v4_10, hv4_10, h⟩ := H.call h
  refine aq 10 rfl (y_call [.agg (eMove a1.Move).toArray] (.string (bs v4_10)) func82 (fun W S => C.i_Move_all W hv4_10)) ?_
  refine ap 11 1 ?_
  refine aq 12 rfl (y_load (.agg (eMove a0.Move).toArray) 0 g0_0 11) ?_
  obtain ⟨v4_13, hv4_13, h⟩ := H.call h
  refine aq 13 rfl (y_call [.agg (eMove a0.Move).toArray] (.agg (eMove v4_13).toArray) func125 (fun W S => C.i_Move_mirrored W hv4_13)) ?_
  obtain ⟨v4_14, hv4_14, h⟩ := H.call h
  refine aq 14 rfl (y_call [.agg (eMove v4_13).toArray] (.string (bs v4_14)) func82 (fun W S => C.i_Move_all W hv4_14)) ?_
  refine ap 15 3 ?_
  refine a_done ?_
  refine c_seq ?_
  refine r_start ?_
  refine xq rfl (y_load (.agg (eHand a0).toArray) 0 g0_0 0) ?_
  obtain ⟨v5_1, hv5_1, h⟩ := H.call h
  refine xq rfl (y_call [.agg (eHand a0).toArray] (.bool v5_1) func121 (fun W S => C.i_Hand_moves W hv5_1)) ?_
  refine p 1 ?_
  refine br v5_1 (fun q13 => ?_) (fun q13 => ?_)
  · replace h := H.t q13 h
    refine o_set 53 (congrArg Value.bool q13) ?_
    refine p 1 ?_
    refine xq rfl (y_load (.agg (eShape a0.Shape).toArray) 0 g0_0 0) ?_
    refine p 1 ?_
    refine xq rfl (y_load (.agg (eShape a1.Shape).toArray) 1 g0_1 0) ?_
    refine p 3 ?_
    refine br (qShape a0.Shape a1.Shape) (fun q14 => ?_) (fun q14 => ?_)
    · replace h := H.t q14 h
      refine o_set 60 (congrArg Value.bool q14) ?_
      refine p 3 ?_
      refine br (qOrient a1.Orient v3_10) (fun q15 => ?_) (fun q15 => ?_)
      · replace h := H.t q15 h
        refine o_set 63 (congrArg Value.bool q15) ?_
        refine p 3 ?_
        refine rend ?_
        replace h := H.done h
        subst h
        exact ret func74 rfl (vs := [.bool (seq v4_10 v4_14)]) (.tmp (by kernel_rfl) .nil) rfl (fun W S => ⟨rfl, S.below⟩)
      replace h := H.f q15 h
      refine o_set 63 (congrArg Value.bool q15) ?_
      refine p 3 ?_
      refine rend ?_
      replace h := H.done h
      subst h
      exact ret func74 rfl (vs := [.bool false]) (.tmp (by kernel_rfl) .nil) rfl (fun W S => ⟨rfl, S.below⟩)
    replace h := H.f q14 h
    refine o_set 60 (congrArg Value.bool q14) ?_
    refine p 6 ?_
    refine rend ?_
    replace h := H.done h
    subst h
    exact ret func74 rfl (vs := [.bool false]) (.tmp (by kernel_rfl) .nil) rfl (fun W S => ⟨rfl, S.below⟩)
  replace h := H.f q13 h
  refine o_set 53 (congrArg Value.bool q13) ?_
  refine p 13 ?_
  refine rend ?_
  replace h := H.done h
  subst h
  exact ret func74 rfl (vs := [.bool false]) (.tmp (by kernel_rfl) .nil) rfl (fun W S => ⟨rfl, S.below⟩)
theorem C.i_readSign {fu : Nat} {a0 : Str} {r : (Sign × Int × Int)} (w : World) (h : X.i_readSign fu a0 = some r) (hE : EV prog w) : Calls prog 32 #[.string (bs a0)] w (Ret w (.tuple #[.agg (eSign r.1).toArray, .int .i64 r.2.1, .int .i64 r.2.2])) := by
  refine calls (M := no) (args := [.string (bs a0)]) func32 rfl ?_
  replace h : H (X.i_readSign fu a0) (fun o => o = r) := H.mk h
  unfold X.i_readSign at h
  refine c_seq ?_
  refine r_start ?_
  refine xx rfl (x_new (eSign zSign) fun g0_0 => ?_)
  refine p 2 ?_
  refine rend ?_
  refine c_seq ?_
  refine c_seq ?_
  refine r_start ?_
  refine p 1 ?_
  obtain ⟨v1_1, hv1_1, h⟩ := H.call h
  refine xq rfl (y_call [.string (bs a0), .string (bs ([43] : Str))] (.int .i64 v1_1) func71 (fun W S => C.strings_Count W hv1_1)) ?_
  refine p 1 ?_
  refine rend ?_
  refine c_or (decide (v1_1 > 1)) (fun q1 => ?_) (fun q1 => ?_)
  · replace h := H.t q1 h
    refine c_seq ?_
    refine r_start ?_
    refine p 1 ?_
    refine xx rfl (x_sto 0 g0_0 0 (eSign zSign) ?_)
    refine p 2 ?_
    refine rend ?_
    replace h := H.done h
    subst h
    exact ret func32 rfl (vs := [.agg (eSign zSign).toArray, .int .i64 1, .int .i64 0]) (.cell 0 g0_0 rfl (by kernel_rfl) (by kernel_rfl) (.tmp (by kernel_rfl) (.tmp (by kernel_rfl) .nil))) rfl (fun W S => ⟨rfl, S.below⟩)
  replace h := H.f q1 h
  refine c_skip ?_
  refine c_seq ?_
  refine r_start ?_
  refine p 1 ?_
  obtain ⟨v3_1, hv3_1, h⟩ := H.call h
  refine xq rfl (y_call [.string (bs a0), .string (bs ([43] : Str))] (.tuple #[.string (bs v3_1.1), .string (bs v3_1.2.1), .bool v3_1.2.2]) func72 (fun W S => C.strings_Cut W hv3_1)) ?_
  refine p 7 ?_
  refine rend ?_
  refine c_seq ?_
  refine r_start ?_
  refine p 1 ?_
  obtain ⟨v4_1, hv4_1, h⟩ := H.call h
  refine xq rfl (y_call [.string (bs v3_1.1)] (.tuple #[.agg (eHand v4_1.1).toArray, .int .i64 v4_1.2.1, .int .i64 v4_1.2.2]) func73 (fun W S => C.i_readHand W hv4_1 (hE.up S))) ?_
  refine p 4 ?_
  refine xx rfl (x_new (eHand zHand) fun g4_6 => ?_)
  refine xx rfl (x_sto 1 g4_6 0 (eHand v4_1.1) ?_)
  refine p 2 ?_
  refine rend ?_
  refine c_seq ?_
  refine c_seq ?_
  refine r_start ?_
  refine p 2 ?_
  refine rend ?_
  refine c_or (v4_1.2.1 != 0) (fun q2 => ?_) (fun q2 => ?_)
  · replace h := H.t q2 h
    refine c_seq ?_
    refine r_start ?_
    refine p 3 ?_
    refine xx rfl (x_sto 0 g0_0 0 (eSign zSign) ?_)
    refine p 2 ?_
    refine rend ?_
    replace h := H.done h
    subst h
    exact ret func32 rfl (vs := [.agg (eSign zSign).toArray, .int .i64 v4_1.2.1, .int .i64 v4_1.2.2]) (.cell 0 g0_0 rfl (by kernel_rfl) (by kernel_rfl) (.tmp (by kernel_rfl) (.tmp (by kernel_rfl) .nil))) rfl (fun W S => ⟨rfl, S.below⟩)
  replace h := H.f q2 h
  refine c_skip ?_
  refine c_seq ?_
  refine c_seq ?_
  refine r_start ?_
  refine p 2 ?_
  refine rend ?_
  refine c_or (!v3_1.2.2) (fun q3 => ?_) (fun q3 => ?_)
  · replace h := H.t q3 h
    refine c_seq ?_
    refine r_start ?_
    refine xq rfl (y_load (.agg (eHand v4_1.1).toArray) 1 g4_6 0) ?_
    refine p 1 ?_
    refine xx rfl (x_sto 0 g0_0 0 (eSign ({ zSign with Main := v4_1.1 })) ?_)
    refine p 2 ?_
    refine rend ?_
    replace h := H.done h
    subst h
    exact ret func32 rfl (vs := [.agg (eSign ({ zSign with Main := v4_1.1 })).toArray, .int .i64 0, .int .i64 0]) (.cell 0 g0_0 rfl (by kernel_rfl) (by kernel_rfl) (.tmp (by kernel_rfl) (.tmp (by kernel_rfl) .nil))) rfl (fun W S => ⟨rfl, S.below⟩)
  replace h := H.f q3 h
  refine c_skip ?_
  refine c_seq ?_
  refine r_start ?_
  refine p 4 ?_
  refine rend ?_
  refine c_seq ?_
  refine r_start ?_
  refine p 1 ?_
  obtain ⟨v10_1, hv10_1, h⟩ := H.call h
  refine xq rfl (y_call [.string (bs v3_1.2.1)] (.tuple #[.agg (eHand v10_1.1).toArray, .int .i64 v10_1.2.1, .int .i64 v10_1.2.2]) func73 (fun W S => C.i_readHand W hv10_1 (hE.up S))) ?_
  refine p 4 ?_
  refine xx rfl (x_new (eHand zHand) fun g10_6 => ?_)
  refine xx rfl (x_sto 2 g10_6 0 (eHand v10_1.1) ?_)
  refine p 2 ?_
  refine rend ?_
  refine c_seq ?_
  refine c_seq ?_
  refine r_start ?_
  refine p 2 ?_
  refine rend ?_
  refine c_or (v10_1.2.1 != 0) (fun q4 => ?_) (fun q4 => ?_)
  · replace h := H.t q4 h
    refine c_seq ?_
    refine r_start ?_
    refine p 5 ?_
    refine xx rfl (x_sto 0 g0_0 0 (eSign zSign) ?_)
    refine p 2 ?_
    refine rend ?_
    replace h := H.done h
    subst h
    exact ret func32 rfl (vs := [.agg (eSign zSign).toArray, .int .i64 v10_1.2.1, .int .i64 (wr ((wr ((List.length v3_1.1 : Int) + 1)) + v10_1.2.2))]) (.cell 0 g0_0 rfl (by kernel_rfl) (by kernel_rfl) (.tmp (by kernel_rfl) (.tmp (by kernel_rfl) .nil))) rfl (fun W S => ⟨rfl, S.below⟩)
  replace h := H.f q4 h
  refine c_skip ?_
  refine c_seq ?_
  refine c_seq ?_
  refine r_start ?_
  refine xq rfl (y_load (.agg (eHand v4_1.1).toArray) 1 g4_6 0) ?_
  refine xq rfl (y_load (.agg (eHand v10_1.1).toArray) 2 g10_6 0) ?_
  obtain ⟨v13_2, hv13_2, h⟩ := H.call h
  refine xq rfl (y_call [.agg (eHand v4_1.1).toArray, .agg (eHand v10_1.1).toArray] (.bool v13_2) func74 (fun W S => C.i_keepRules W hv13_2)) ?_
  refine p 1 ?_
  refine rend ?_
  refine c_or (!v13_2) (fun q5 => ?_) (fun q5 => ?_)
  · replace h := H.t q5 h
    refine c_seq ?_
    refine r_start ?_
    refine p 2 ?_
    refine xx rfl (x_sto 0 g0_0 0 (eSign zSign) ?_)
    refine p 2 ?_
    refine rend ?_
    replace h := H.done h
    subst h
    exact ret func32 rfl (vs := [.agg (eSign zSign).toArray, .int .i64 7, .int .i64 (wr ((List.length v3_1.1 : Int) + 1))]) (.cell 0 g0_0 rfl (by kernel_rfl) (by kernel_rfl) (.tmp (by kernel_rfl) (.tmp (by kernel_rfl) .nil))) rfl (fun W S => ⟨rfl, S.below⟩)
  replace h := H.f q5 h
  refine c_skip ?_
  refine c_seq ?_
  refine r_start ?_
  refine xq rfl (y_load (.agg (eHand v4_1.1).toArray) 1 g4_6 0) ?_
  refine xq rfl (y_load (.agg (eHand v10_1.1).toArray) 2 g10_6 0) ?_
  refine p 1 ?_
  refine xx rfl (x_sto 0 g0_0 0 (eSign (⟨v4_1.1, true, v10_1.1⟩ : Sign)) ?_)
  refine p 2 ?_
  refine rend ?_
  replace h := H.done h
  subst h
  exact ret func32 rfl (vs := [.agg (eSign (⟨v4_1.1, true, v10_1.1⟩ : Sign)).toArray, .int .i64 0, .int .i64 0]) (.cell 0 g0_0 rfl (by kernel_rfl) (by kernel_rfl) (.tmp (by kernel_rfl) (.tmp (by kernel_rfl) .nil))) rfl (fun W S => ⟨rfl, S.below⟩)
theorem C.i_SignFault {fu : Nat} {a0 : Str} {r : (Int × Int × Bool)} (w : World) (h : X.i_SignFault fu a0 = some r) (hE : EV prog w) : Calls prog 7 #[.string (bs a0)] w (Ret w (.tuple #[.int .i64 r.1, .int .i64 r.2.1, .bool r.2.2])) := by
  refine calls (M := no) (args := [.string (bs a0)]) func7 rfl ?_
  replace h : H (X.i_SignFault fu a0) (fun o => o = r) := H.mk h
  unfold X.i_SignFault at h
  refine c_seq ?_
  refine r_start ?_
  refine p 3 ?_
  refine rend ?_
  refine c_seq ?_
  refine c_seq ?_
  refine r_start ?_
  refine p 3 ?_
  refine rend ?_
  refine c_or (decide ((List.length a0 : Int) > 200)) (fun q1 => ?_) (fun q1 => ?_)
  · replace h := H.t q1 h
    refine c_seq ?_
    refine r_start ?_
    refine p 3 ?_
    refine rend ?_
    replace h := H.done h
    subst h
    exact ret func7 rfl (vs := [.int .i64 0, .int .i64 0, .bool false]) (.tmp (by kernel_rfl) (.tmp (by kernel_rfl) (.tmp (by kernel_rfl) .nil))) rfl (fun W S => ⟨rfl, S.below⟩)
  replace h := H.f q1 h
  refine c_skip ?_
  refine c_seq ?_
  refine r_start ?_
  refine p 1 ?_
  obtain ⟨v3_1, hv3_1, h⟩ := H.call h
  refine xq rfl (y_call [.string (bs a0)] (.tuple #[.agg (eSign v3_1.1).toArray, .int .i64 v3_1.2.1, .int .i64 v3_1.2.2]) func32 (fun W S => C.i_readSign W hv3_1 (hE.up S))) ?_
  refine p 4 ?_
  refine xx rfl (x_new (eSign zSign) fun g3_6 => ?_)
  refine xx rfl (x_sto 0 g3_6 0 (eSign v3_1.1) ?_)
  refine p 2 ?_
  refine rend ?_
  refine c_seq ?_
  refine r_start ?_
  refine p 5 ?_
  refine rend ?_
  replace h := H.done h
  subst h
  exact ret func7 rfl (vs := [.int .i64 v3_1.2.1, .int .i64 v3_1.2.2, .bool true]) (.tmp (by kernel_rfl) (.tmp (by kernel_rfl) (.tmp (by kernel_rfl) .nil))) rfl (fun W S => ⟨rfl, S.below⟩)
theorem C.l_FnExactSignFault {fu : Nat} {a0 : Str} {r : Bool} (w : World) (h : X.l_FnExactSignFault fu a0 = some r) (hE : EV prog w) : Calls prog 3 #[.string (bs a0)] w (Ret w (.bool r)) := by
  refine calls (M := no) (args := [.string (bs a0)]) func3 rfl ?_
  replace h : H (X.l_FnExactSignFault fu a0) (fun o => o = r) := H.mk h
  unfold X.l_FnExactSignFault at h
  refine c_seq ?_
  refine r_start ?_
  refine p 1 ?_
  refine rend ?_
  refine c_seq ?_
  refine c_seq ?_
  refine r_start ?_
  refine p 3 ?_
  refine rend ?_
  refine c_or (decide ((List.length a0 : Int) > 1048576)) (fun q1 => ?_) (fun q1 => ?_)
  · replace h := H.t q1 h
    refine c_seq ?_
    refine r_start ?_
    refine p 1 ?_
    refine rend ?_
    replace h := H.done h
    subst h
    exact ret func3 rfl (vs := [.bool true]) (.tmp (by kernel_rfl) .nil) rfl (fun W S => ⟨rfl, S.below⟩)
  replace h := H.f q1 h
  refine c_skip ?_
  refine c_seq ?_
  refine r_start ?_
  refine p 1 ?_
  obtain ⟨v3_1, hv3_1, h⟩ := H.call h
  refine xq rfl (y_call [.string (bs a0)] (.tuple #[.int .i64 v3_1.1, .int .i64 v3_1.2.1, .bool v3_1.2.2]) func6 (fun W S => C.s_SignFault W hv3_1)) ?_
  refine p 7 ?_
  refine rend ?_
  refine c_seq ?_
  refine r_start ?_
  refine p 1 ?_
  obtain ⟨v4_1, hv4_1, h⟩ := H.call h
  refine xq rfl (y_call [.string (bs a0)] (.tuple #[.int .i64 v4_1.1, .int .i64 v4_1.2.1, .bool v4_1.2.2]) func7 (fun W S => C.i_SignFault W hv4_1 (hE.up S))) ?_
  refine p 7 ?_
  refine rend ?_
  refine c_seq ?_
  refine c_seq ?_
  refine r_start ?_
  refine p 4 ?_
  refine br (v4_1.1 != v3_1.1) (fun q2 => ?_) (fun q2 => ?_)
  · replace h := H.t q2 h
    refine o_set 27 (congrArg Value.bool q2) ?_
    refine p 9 ?_
    refine rend ?_
    refine c_t (by kernel_rfl) ?_
    refine c_seq ?_
    refine r_start ?_
    refine p 1 ?_
    refine rend ?_
    replace h := H.done h
    subst h
    exact ret func3 rfl (vs := [.bool false]) (.tmp (by kernel_rfl) .nil) rfl (fun W S => ⟨rfl, S.below⟩)
  replace h := H.f q2 h
  refine o_set 27 (congrArg Value.bool q2) ?_
  refine p 5 ?_
  refine br (v4_1.2.1 != v3_1.2.1) (fun q3 => ?_) (fun q3 => ?_)
  · replace h := H.t q3 h
    refine o_set 32 (congrArg Value.bool q3) ?_
    refine p 4 ?_
    refine rend ?_
    refine c_t (by kernel_rfl) ?_
    refine c_seq ?_
    refine r_start ?_
    refine p 1 ?_
    refine rend ?_
    replace h := H.done h
    subst h
    exact ret func3 rfl (vs := [.bool false]) (.tmp (by kernel_rfl) .nil) rfl (fun W S => ⟨rfl, S.below⟩)
  replace h := H.f q3 h
  refine o_set 32 (congrArg Value.bool q3) ?_
  refine p 4 ?_
  refine rend ?_
  refine c_or (!(v4_1.2.2 == v3_1.2.2)) (fun q4 => ?_) (fun q4 => ?_)
  · replace h := H.t q4 h
    refine c_seq ?_
    refine r_start ?_
    refine p 1 ?_
    refine rend ?_
    replace h := H.done h
    subst h
    exact ret func3 rfl (vs := [.bool false]) (.tmp (by kernel_rfl) .nil) rfl (fun W S => ⟨rfl, S.below⟩)
  replace h := H.f q4 h
  refine c_skip ?_
  refine c_seq ?_
  refine r_start ?_
  refine p 1 ?_
  refine rend ?_
  replace h := H.done h
  subst h
  exact ret func3 rfl (vs := [.bool true]) (.tmp (by kernel_rfl) .nil) rfl (fun W S => ⟨rfl, S.below⟩)
end Go.Proofs.XC
