/- Contracts: each function, called where its plain function gives an answer, returns just that answer and changes nothing that was there. By AI agents; no person has read it. -/
import Derived.Test.YtjnablhfhdedfaaGreatDoorC2
set_option linter.unusedVariables false
set_option linter.unusedSimpArgs false
set_option maxRecDepth 100000
set_option maxHeartbeats 40000000
namespace Go.Proofs.XC
open Go Go.RowKit
open Tryz
theorem C.s_CostOfMatch {fu : Nat} {a0 : Pattern} {a1 : Sign} {r : (Int × Bool)} (w : World) (h : X.s_CostOfMatch fu a0 a1 = some r) : Calls prog 69 #[.agg (ePattern a0).toArray, .agg (eSign a1).toArray] w (Ret w (.tuple #[.int .i64 r.1, .bool r.2])) := by
  refine calls (M := no) (args := [.agg (ePattern a0).toArray, .agg (eSign a1).toArray]) func69 rfl ?_
  replace h : H (X.s_CostOfMatch fu a0 a1) (fun o => o = r) := H.mk h
  unfold X.s_CostOfMatch at h
  refine c_seq ?_
  refine r_start ?_
  refine xx rfl (x_box (ePattern a0) fun g0_0 => ?_)
  refine xx rfl (x_box (eSign a1) fun g0_1 => ?_)
  refine p 2 ?_
  refine rend ?_
  refine c_seq ?_
  refine c_seq ?_
  refine r_start ?_
  refine xq rfl (y_load (.agg (ePattern a0).toArray) 0 g0_0 0) ?_
  obtain ⟨v1_1, hv1_1, h⟩ := H.call h
  refine xq rfl (y_call [.agg (ePattern a0).toArray] (.bool v1_1) func147 (fun W S => C.s_seGood W hv1_1)) ?_
  refine p 2 ?_
  refine br (!v1_1) (fun q1 => ?_) (fun q1 => ?_)
  · replace h := H.t q1 h
    refine o_set 9 (congrArg Value.bool q1) ?_
    refine p 4 ?_
    refine rend ?_
    refine c_t (by kernel_rfl) ?_
    refine c_seq ?_
    refine r_start ?_
    refine p 2 ?_
    refine rend ?_
    replace h := H.done h
    subst h
    exact ret func69 rfl (vs := [.int .i64 0, .bool false]) (.tmp (by kernel_rfl) (.tmp (by kernel_rfl) .nil)) rfl (fun W S => ⟨rfl, S.below⟩)
  replace h := H.f q1 h
  refine o_set 9 (congrArg Value.bool q1) ?_
  refine xq rfl (y_load (.agg (eSign a1).toArray) 1 g0_1 0) ?_
  obtain ⟨v1_5, hv1_5, h⟩ := H.call h
  refine xq rfl (y_call [.agg (eSign a1).toArray] (.bool v1_5) func84 (fun W S => C.s_siGood W hv1_5)) ?_
  refine p 2 ?_
  refine rend ?_
  refine c_or (!v1_5) (fun q2 => ?_) (fun q2 => ?_)
  · replace h := H.t q2 h
    refine c_seq ?_
    refine r_start ?_
    refine p 2 ?_
    refine rend ?_
    replace h := H.done h
    subst h
    exact ret func69 rfl (vs := [.int .i64 0, .bool false]) (.tmp (by kernel_rfl) (.tmp (by kernel_rfl) .nil)) rfl (fun W S => ⟨rfl, S.below⟩)
  replace h := H.f q2 h
  refine c_skip ?_
  refine c_seq ?_
  refine r_start ?_
  refine xq rfl (y_load (.agg (ePattern a0).toArray) 0 g0_0 0) ?_
  refine xq rfl (y_load (.agg (eSign a1).toArray) 1 g0_1 0) ?_
  obtain ⟨v3_2, hv3_2, h⟩ := H.call h
  refine xq rfl (y_call [.agg (ePattern a0).toArray, .agg (eSign a1).toArray] (.int .i64 v3_2) func148 (fun W S => C.s_seCost W hv3_2)) ?_
  refine p 2 ?_
  refine rend ?_
  replace h := H.done h
  subst h
  exact ret func69 rfl (vs := [.int .i64 v3_2, .bool true]) (.tmp (by kernel_rfl) (.tmp (by kernel_rfl) .nil)) rfl (fun W S => ⟨rfl, S.below⟩)
theorem C.i_CostOfMatch {fu : Nat} {a0 : Pattern} {a1 : Sign} {r : (Int × Bool)} (w : World) (h : X.i_CostOfMatch fu a0 a1 = some r) : Calls prog 70 #[.agg (ePattern a0).toArray, .agg (eSign a1).toArray] w (Ret w (.tuple #[.int .i64 r.1, .bool r.2])) := by
  refine calls (M := no) (args := [.agg (ePattern a0).toArray, .agg (eSign a1).toArray]) func70 rfl ?_
  replace h : H (X.i_CostOfMatch fu a0 a1) (fun o => o = r) := H.mk h
  unfold X.i_CostOfMatch at h
  refine c_seq ?_
  refine r_start ?_
  refine xx rfl (x_box (ePattern a0) fun g0_0 => ?_)
  refine xx rfl (x_box (eSign a1) fun g0_1 => ?_)
  refine p 2 ?_
  refine rend ?_
  refine c_seq ?_
  refine c_seq ?_
  refine r_start ?_
  refine xq rfl (y_load (.agg (ePattern a0).toArray) 0 g0_0 0) ?_
  obtain ⟨v1_1, hv1_1, h⟩ := H.call h
  refine xq rfl (y_call [.agg (ePattern a0).toArray] (.bool v1_1) func144 (fun W S => C.i_IsPattern W hv1_1)) ?_
  refine p 2 ?_
  refine br (!v1_1) (fun q1 => ?_) (fun q1 => ?_)
  · replace h := H.t q1 h
    refine o_set 9 (congrArg Value.bool q1) ?_
    refine p 4 ?_
    refine rend ?_
    refine c_t (by kernel_rfl) ?_
    refine c_seq ?_
    refine r_start ?_
    refine p 2 ?_
    refine rend ?_
    replace h := H.done h
    subst h
    exact ret func70 rfl (vs := [.int .i64 0, .bool false]) (.tmp (by kernel_rfl) (.tmp (by kernel_rfl) .nil)) rfl (fun W S => ⟨rfl, S.below⟩)
  replace h := H.f q1 h
  refine o_set 9 (congrArg Value.bool q1) ?_
  refine xq rfl (y_load (.agg (eSign a1).toArray) 1 g0_1 0) ?_
  obtain ⟨v1_5, hv1_5, h⟩ := H.call h
  refine xq rfl (y_call [.agg (eSign a1).toArray] (.bool v1_5) func89 (fun W S => C.i_IsSign W hv1_5)) ?_
  refine p 2 ?_
  refine rend ?_
  refine c_or (!v1_5) (fun q2 => ?_) (fun q2 => ?_)
  · replace h := H.t q2 h
    refine c_seq ?_
    refine r_start ?_
    refine p 2 ?_
    refine rend ?_
    replace h := H.done h
    subst h
    exact ret func70 rfl (vs := [.int .i64 0, .bool false]) (.tmp (by kernel_rfl) (.tmp (by kernel_rfl) .nil)) rfl (fun W S => ⟨rfl, S.below⟩)
  replace h := H.f q2 h
  refine c_skip ?_
  refine c_seq ?_
  refine r_start ?_
  refine xq rfl (y_load (.agg (ePattern a0).toArray) 0 g0_0 0) ?_
  refine xq rfl (y_load (.agg (eSign a1).toArray) 1 g0_1 0) ?_
  obtain ⟨v3_2, hv3_2, h⟩ := H.call h
  refine xq rfl (y_call [.agg (ePattern a0).toArray, .agg (eSign a1).toArray] (.int .i64 v3_2) func149 (fun W S => C.i_Pattern_cost W hv3_2)) ?_
  refine p 2 ?_
  refine rend ?_
  replace h := H.done h
  subst h
  exact ret func70 rfl (vs := [.int .i64 v3_2, .bool true]) (.tmp (by kernel_rfl) (.tmp (by kernel_rfl) .nil)) rfl (fun W S => ⟨rfl, S.below⟩)
theorem C.l_FnExactCostOfMatch {fu : Nat} {a0 : Pattern} {a1 : Sign} {r : Bool} (w : World) (h : X.l_FnExactCostOfMatch fu a0 a1 = some r) : Calls prog 12 #[.agg (ePattern a0).toArray, .agg (eSign a1).toArray] w (Ret w (.bool r)) := by
  refine calls (M := no) (args := [.agg (ePattern a0).toArray, .agg (eSign a1).toArray]) func12 rfl ?_
  replace h : H (X.l_FnExactCostOfMatch fu a0 a1) (fun o => o = r) := H.mk h
  unfold X.l_FnExactCostOfMatch at h
  refine c_seq ?_
  refine r_start ?_
  refine xx rfl (x_box (ePattern a0) fun g0_0 => ?_)
  refine xx rfl (x_box (eSign a1) fun g0_1 => ?_)
  refine p 1 ?_
  refine rend ?_
  refine c_seq ?_
  refine r_start ?_
  refine p 1 ?_
  refine rend ?_
  refine c_seq ?_
  refine r_start ?_
  refine xq rfl (y_load (.agg (ePattern a0).toArray) 0 g0_0 0) ?_
  refine p 1 ?_
  obtain ⟨v2_2, hv2_2, h⟩ := H.call h
  refine xq rfl (y_call [.agg (ePattern a0).toArray, .int .i64 1048576] (.int .i64 v2_2) func65 (fun W S => C.l_szPattern W hv2_2)) ?_
  refine p 1 ?_
  refine rend ?_
  refine c_seq ?_
  refine c_seq ?_
  refine r_start ?_
  refine p 2 ?_
  refine rend ?_
  refine c_or (decide (v2_2 < 0)) (fun q1 => ?_) (fun q1 => ?_)
  · replace h := H.t q1 h
    refine c_seq ?_
    refine r_start ?_
    refine p 1 ?_
    refine rend ?_
    replace h := H.done h
    subst h
    exact ret func12 rfl (vs := [.bool true]) (.tmp (by kernel_rfl) .nil) rfl (fun W S => ⟨rfl, S.below⟩)
  replace h := H.f q1 h
  refine c_skip ?_
  refine c_seq ?_
  refine r_start ?_
  refine xq rfl (y_load (.agg (eSign a1).toArray) 1 g0_1 0) ?_
  refine p 1 ?_
  obtain ⟨v5_2, hv5_2, h⟩ := H.call h
  refine xq rfl (y_call [.agg (eSign a1).toArray, .int .i64 v2_2] (.int .i64 v5_2) func24 (fun W S => C.l_szSign W hv5_2)) ?_
  refine p 1 ?_
  refine rend ?_
  refine c_seq ?_
  refine c_seq ?_
  refine r_start ?_
  refine p 2 ?_
  refine rend ?_
  refine c_or (decide (v5_2 < 0)) (fun q2 => ?_) (fun q2 => ?_)
  · replace h := H.t q2 h
    refine c_seq ?_
    refine r_start ?_
    refine p 1 ?_
    refine rend ?_
    replace h := H.done h
    subst h
    exact ret func12 rfl (vs := [.bool true]) (.tmp (by kernel_rfl) .nil) rfl (fun W S => ⟨rfl, S.below⟩)
  replace h := H.f q2 h
  refine c_skip ?_
  refine c_seq ?_
  refine as_start 10 10 ?_
  refine aq 0 rfl (y_load (.agg (ePattern a0).toArray) 0 g0_0 0) ?_
  obtain ⟨v8_1, hv8_1, h⟩ := H.call h
  refine aq 1 rfl (y_call [.agg (ePattern a0).toArray] (.agg (ePattern v8_1).toArray) func67 (fun W S => C.l_toPattern W hv8_1)) ?_
  refine aq 2 rfl (y_load (.agg (eSign a1).toArray) 1 g0_1 0) ?_
  obtain ⟨v8_3, hv8_3, h⟩ := H.call h
  refine aq 3 rfl (y_call [.agg (eSign a1).toArray] (.agg (eSign v8_3).toArray) func27 (fun W S => C.l_toSign W hv8_3)) ?_
  obtain ⟨v8_4, hv8_4, h⟩ := H.call h
  refine aq 4 rfl (y_call [.agg (ePattern v8_1).toArray, .agg (eSign v8_3).toArray] (.tuple #[.int .i64 v8_4.1, .bool v8_4.2]) func69 (fun W S => C.s_CostOfMatch W hv8_4)) ?_
  refine ap 5 5 ?_
  refine a_done ?_
  refine c_seq ?_
  refine as_start 10 10 ?_
  refine aq 0 rfl (y_load (.agg (ePattern a0).toArray) 0 g0_0 0) ?_
  obtain ⟨v9_1, hv9_1, h⟩ := H.call h
  refine aq 1 rfl (y_call [.agg (ePattern a0).toArray] (.agg (ePattern v9_1).toArray) func67 (fun W S => C.l_toPattern W hv9_1)) ?_
  refine aq 2 rfl (y_load (.agg (eSign a1).toArray) 1 g0_1 0) ?_
  obtain ⟨v9_3, hv9_3, h⟩ := H.call h
  refine aq 3 rfl (y_call [.agg (eSign a1).toArray] (.agg (eSign v9_3).toArray) func27 (fun W S => C.l_toSign W hv9_3)) ?_
  obtain ⟨v9_4, hv9_4, h⟩ := H.call h
  refine aq 4 rfl (y_call [.agg (ePattern v9_1).toArray, .agg (eSign v9_3).toArray] (.tuple #[.int .i64 v9_4.1, .bool v9_4.2]) func70 (fun W S => C.i_CostOfMatch W hv9_4)) ?_
  refine ap 5 5 ?_
  refine a_done ?_
  refine c_seq ?_
  refine c_seq ?_
  refine r_start ?_
  refine p 4 ?_
  refine br (v9_4.1 != v8_4.1) (fun q3 => ?_) (fun q3 => ?_)
  · replace h := H.t q3 h
    refine o_set 39 (congrArg Value.bool q3) ?_
    refine p 4 ?_
    refine rend ?_
    refine c_t (by kernel_rfl) ?_
    refine c_seq ?_
    refine r_start ?_
    refine p 1 ?_
    refine rend ?_
    replace h := H.done h
    subst h
    exact ret func12 rfl (vs := [.bool false]) (.tmp (by kernel_rfl) .nil) rfl (fun W S => ⟨rfl, S.below⟩)
  replace h := H.f q3 h
  refine o_set 39 (congrArg Value.bool q3) ?_
  refine p 4 ?_
  refine rend ?_
  refine c_or (!(v9_4.2 == v8_4.2)) (fun q4 => ?_) (fun q4 => ?_)
  · replace h := H.t q4 h
    refine c_seq ?_
    refine r_start ?_
    refine p 1 ?_
    refine rend ?_
    replace h := H.done h
    subst h
    exact ret func12 rfl (vs := [.bool false]) (.tmp (by kernel_rfl) .nil) rfl (fun W S => ⟨rfl, S.below⟩)
  replace h := H.f q4 h
  refine c_skip ?_
  refine c_seq ?_
  refine r_start ?_
  refine p 1 ?_
  refine rend ?_
  replace h := H.done h
  subst h
  exact ret func12 rfl (vs := [.bool true]) (.tmp (by kernel_rfl) .nil) rfl (fun W S => ⟨rfl, S.below⟩)
end Go.Proofs.XC
