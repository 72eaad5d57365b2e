/- Contracts: each function, called where its plain function gives an answer, returns just that answer and changes nothing that was there. By AI agents; no person has read it. -/
import Derived.Test.YthmgaaommjienaaGreatDoorC1
set_option linter.unusedVariables false
set_option linter.unusedSimpArgs false
set_option maxRecDepth 100000
namespace Go.Proofs.XC
open Go Go.RowKit
open Tryz
theorem C.s_prPair {fu : Nat} {a0 : Sign} {a1 : Sign} {r : Bool} (w : World) (h : X.s_prPair fu a0 a1 = some r) : Calls prog 80 #[.agg (eSign a0).toArray, .agg (eSign a1).toArray] w (Ret w (.bool r)) := by
  refine calls (M := no) (args := [.agg (eSign a0).toArray, .agg (eSign a1).toArray]) func80 rfl ?_
  replace h : H (X.s_prPair fu a0 a1) (fun o => o = r) := H.mk h
  unfold X.s_prPair at h
  refine c_seq ?_
  refine r_start ?_
  refine xx rfl (x_box (eSign a0) fun g0_0 => ?_)
  refine xx rfl (x_box (eSign a1) fun g0_1 => ?_)
  refine p 1 ?_
  refine rend ?_
  refine c_seq ?_
  refine r_start ?_
  refine xq rfl (y_load (.agg (eSign a0).toArray) 0 g0_0 0) ?_
  refine xq rfl (y_load (.agg (eSign a1).toArray) 1 g0_1 0) ?_
  obtain ⟨v1_2, hv1_2, h⟩ := H.call h
  refine xx rfl (e_cr [.agg (eSign a0).toArray, .agg (eSign a1).toArray] (fun v => v) func111 (fun W S => C.s_prApart W hv1_2) fun A1_2 k1_2 => ?_)
  refine p 3 ?_
  refine rend ?_
  replace h := H.done h
  subst h
  exact ret func80 rfl (vs := [.bool ((List.length v1_2 : Int) == 1)]) (.tmp (by kernel_rfl) .nil) rfl (fun W S => ⟨rfl, S.below⟩)
theorem C.s_IsMinimalPair {fu : Nat} {a0 : Sign} {a1 : Sign} {r : (Bool × Bool)} (w : World) (h : X.s_IsMinimalPair fu a0 a1 = some r) : Calls prog 20 #[.agg (eSign a0).toArray, .agg (eSign a1).toArray] w (Ret w (.tuple #[.bool r.1, .bool r.2])) := by
  refine calls (M := no) (args := [.agg (eSign a0).toArray, .agg (eSign a1).toArray]) func20 rfl ?_
  replace h : H (X.s_IsMinimalPair fu a0 a1) (fun o => o = r) := H.mk h
  unfold X.s_IsMinimalPair at h
  refine c_seq ?_
  refine r_start ?_
  refine xx rfl (x_box (eSign a0) fun g0_0 => ?_)
  refine xx rfl (x_box (eSign a1) fun g0_1 => ?_)
  refine p 2 ?_
  refine rend ?_
  refine c_seq ?_
  refine c_seq ?_
  refine r_start ?_
  refine xq rfl (y_load (.agg (eSign a0).toArray) 0 g0_0 0) ?_
  obtain ⟨v1_1, hv1_1, h⟩ := H.call h
  refine xq rfl (y_call [.agg (eSign a0).toArray] (.bool v1_1) func72 (fun W S => C.s_siGood W hv1_1)) ?_
  refine p 2 ?_
  refine br (!v1_1) (fun q1 => ?_) (fun q1 => ?_)
  · replace h := H.t q1 h
    refine o_set 9 (congrArg Value.bool q1) ?_
    refine p 4 ?_
    refine rend ?_
    refine c_t (by kernel_rfl) ?_
    refine c_seq ?_
    refine r_start ?_
    refine p 2 ?_
    refine rend ?_
    replace h := H.done h
    subst h
    exact ret func20 rfl (vs := [.bool false, .bool false]) (.tmp (by kernel_rfl) (.tmp (by kernel_rfl) .nil)) rfl (fun W S => ⟨rfl, S.below⟩)
  replace h := H.f q1 h
  refine o_set 9 (congrArg Value.bool q1) ?_
  refine xq rfl (y_load (.agg (eSign a1).toArray) 1 g0_1 0) ?_
  obtain ⟨v1_5, hv1_5, h⟩ := H.call h
  refine xq rfl (y_call [.agg (eSign a1).toArray] (.bool v1_5) func72 (fun W S => C.s_siGood W hv1_5)) ?_
  refine p 2 ?_
  refine rend ?_
  refine c_or (!v1_5) (fun q2 => ?_) (fun q2 => ?_)
  · replace h := H.t q2 h
    refine c_seq ?_
    refine r_start ?_
    refine p 2 ?_
    refine rend ?_
    replace h := H.done h
    subst h
    exact ret func20 rfl (vs := [.bool false, .bool false]) (.tmp (by kernel_rfl) (.tmp (by kernel_rfl) .nil)) rfl (fun W S => ⟨rfl, S.below⟩)
  replace h := H.f q2 h
  refine c_skip ?_
  refine c_seq ?_
  refine r_start ?_
  refine xq rfl (y_load (.agg (eSign a0).toArray) 0 g0_0 0) ?_
  refine xq rfl (y_load (.agg (eSign a1).toArray) 1 g0_1 0) ?_
  obtain ⟨v3_2, hv3_2, h⟩ := H.call h
  refine xq rfl (y_call [.agg (eSign a0).toArray, .agg (eSign a1).toArray] (.bool v3_2) func80 (fun W S => C.s_prPair W hv3_2)) ?_
  refine p 2 ?_
  refine rend ?_
  replace h := H.done h
  subst h
  exact ret func20 rfl (vs := [.bool v3_2, .bool true]) (.tmp (by kernel_rfl) (.tmp (by kernel_rfl) .nil)) rfl (fun W S => ⟨rfl, S.below⟩)
theorem C.i_isPair {fu : Nat} {a0 : Sign} {a1 : Sign} {r : Bool} (w : World) (h : X.i_isPair fu a0 a1 = some r) : Calls prog 81 #[.agg (eSign a0).toArray, .agg (eSign a1).toArray] w (Ret w (.bool r)) := by
  refine calls (M := no) (args := [.agg (eSign a0).toArray, .agg (eSign a1).toArray]) func81 rfl ?_
  replace h : H (X.i_isPair fu a0 a1) (fun o => o = r) := H.mk h
  unfold X.i_isPair at h
  refine c_seq ?_
  refine r_start ?_
  refine xx rfl (x_box (eSign a0) fun g0_0 => ?_)
  refine xx rfl (x_box (eSign a1) fun g0_1 => ?_)
  refine p 1 ?_
  refine rend ?_
  refine c_seq ?_
  refine r_start ?_
  refine xq rfl (y_load (.agg (eSign a0).toArray) 0 g0_0 0) ?_
  refine xq rfl (y_load (.agg (eSign a1).toArray) 1 g0_1 0) ?_
  obtain ⟨v1_2, hv1_2, h⟩ := H.call h
  refine xx rfl (e_cr [.agg (eSign a0).toArray, .agg (eSign a1).toArray] (fun v => v) func112 (fun W S => C.i_partsApart W hv1_2) fun A1_2 k1_2 => ?_)
  refine p 3 ?_
  refine rend ?_
  replace h := H.done h
  subst h
  exact ret func81 rfl (vs := [.bool ((List.length v1_2 : Int) == 1)]) (.tmp (by kernel_rfl) .nil) rfl (fun W S => ⟨rfl, S.below⟩)
theorem C.i_IsMinimalPair {fu : Nat} {a0 : Sign} {a1 : Sign} {r : (Bool × Bool)} (w : World) (h : X.i_IsMinimalPair fu a0 a1 = some r) : Calls prog 21 #[.agg (eSign a0).toArray, .agg (eSign a1).toArray] w (Ret w (.tuple #[.bool r.1, .bool r.2])) := by
  refine calls (M := no) (args := [.agg (eSign a0).toArray, .agg (eSign a1).toArray]) func21 rfl ?_
  replace h : H (X.i_IsMinimalPair fu a0 a1) (fun o => o = r) := H.mk h
  unfold X.i_IsMinimalPair at h
  refine c_seq ?_
  refine r_start ?_
  refine xx rfl (x_box (eSign a0) fun g0_0 => ?_)
  refine xx rfl (x_box (eSign a1) fun g0_1 => ?_)
  refine p 2 ?_
  refine rend ?_
  refine c_seq ?_
  refine c_seq ?_
  refine r_start ?_
  refine xq rfl (y_load (.agg (eSign a0).toArray) 0 g0_0 0) ?_
  obtain ⟨v1_1, hv1_1, h⟩ := H.call h
  refine xq rfl (y_call [.agg (eSign a0).toArray] (.bool v1_1) func61 (fun W S => C.i_IsSign W hv1_1)) ?_
  refine p 2 ?_
  refine br (!v1_1) (fun q1 => ?_) (fun q1 => ?_)
  · replace h := H.t q1 h
    refine o_set 9 (congrArg Value.bool q1) ?_
    refine p 4 ?_
    refine rend ?_
    refine c_t (by kernel_rfl) ?_
    refine c_seq ?_
    refine r_start ?_
    refine p 2 ?_
    refine rend ?_
    replace h := H.done h
    subst h
    exact ret func21 rfl (vs := [.bool false, .bool false]) (.tmp (by kernel_rfl) (.tmp (by kernel_rfl) .nil)) rfl (fun W S => ⟨rfl, S.below⟩)
  replace h := H.f q1 h
  refine o_set 9 (congrArg Value.bool q1) ?_
  refine xq rfl (y_load (.agg (eSign a1).toArray) 1 g0_1 0) ?_
  obtain ⟨v1_5, hv1_5, h⟩ := H.call h
  refine xq rfl (y_call [.agg (eSign a1).toArray] (.bool v1_5) func61 (fun W S => C.i_IsSign W hv1_5)) ?_
  refine p 2 ?_
  refine rend ?_
  refine c_or (!v1_5) (fun q2 => ?_) (fun q2 => ?_)
  · replace h := H.t q2 h
    refine c_seq ?_
    refine r_start ?_
    refine p 2 ?_
    refine rend ?_
    replace h := H.done h
    subst h
    exact ret func21 rfl (vs := [.bool false, .bool false]) (.tmp (by kernel_rfl) (.tmp (by kernel_rfl) .nil)) rfl (fun W S => ⟨rfl, S.below⟩)
  replace h := H.f q2 h
  refine c_skip ?_
  refine c_seq ?_
  refine r_start ?_
  refine xq rfl (y_load (.agg (eSign a0).toArray) 0 g0_0 0) ?_
  refine xq rfl (y_load (.agg (eSign a1).toArray) 1 g0_1 0) ?_
  obtain ⟨v3_2, hv3_2, h⟩ := H.call h
  refine xq rfl (y_call [.agg (eSign a0).toArray, .agg (eSign a1).toArray] (.bool v3_2) func81 (fun W S => C.i_isPair W hv3_2)) ?_
  refine p 2 ?_
  refine rend ?_
  replace h := H.done h
  subst h
  exact ret func21 rfl (vs := [.bool v3_2, .bool true]) (.tmp (by kernel_rfl) (.tmp (by kernel_rfl) .nil)) rfl (fun W S => ⟨rfl, S.below⟩)
theorem C.l_FnExactIsMinimalPair {fu : Nat} {a0 : Sign} {a1 : Sign} {r : Bool} (w : World) (h : X.l_FnExactIsMinimalPair fu a0 a1 = some r) : Calls prog 4 #[.agg (eSign a0).toArray, .agg (eSign a1).toArray] w (Ret w (.bool r)) := by
  refine calls (M := no) (args := [.agg (eSign a0).toArray, .agg (eSign a1).toArray]) func4 rfl ?_
  replace h : H (X.l_FnExactIsMinimalPair fu a0 a1) (fun o => o = r) := H.mk h
  unfold X.l_FnExactIsMinimalPair at h
  refine c_seq ?_
  refine r_start ?_
  refine xx rfl (x_box (eSign a0) fun g0_0 => ?_)
  refine xx rfl (x_box (eSign a1) fun g0_1 => ?_)
  refine p 1 ?_
  refine rend ?_
  refine c_seq ?_
  refine r_start ?_
  refine p 1 ?_
  refine rend ?_
  refine c_seq ?_
  refine r_start ?_
  refine xq rfl (y_load (.agg (eSign a0).toArray) 0 g0_0 0) ?_
  refine p 1 ?_
  obtain ⟨v2_2, hv2_2, h⟩ := H.call h
  refine xq rfl (y_call [.agg (eSign a0).toArray, .int .i64 1048576] (.int .i64 v2_2) func15 (fun W S => C.l_szSign W hv2_2)) ?_
  refine p 1 ?_
  refine rend ?_
  refine c_seq ?_
  refine c_seq ?_
  refine r_start ?_
  refine p 2 ?_
  refine rend ?_
  refine c_or (decide (v2_2 < 0)) (fun q1 => ?_) (fun q1 => ?_)
  · replace h := H.t q1 h
    refine c_seq ?_
    refine r_start ?_
    refine p 1 ?_
    refine rend ?_
    replace h := H.done h
    subst h
    exact ret func4 rfl (vs := [.bool true]) (.tmp (by kernel_rfl) .nil) rfl (fun W S => ⟨rfl, S.below⟩)
  replace h := H.f q1 h
  refine c_skip ?_
  refine c_seq ?_
  refine r_start ?_
  refine xq rfl (y_load (.agg (eSign a1).toArray) 1 g0_1 0) ?_
  refine p 1 ?_
  obtain ⟨v5_2, hv5_2, h⟩ := H.call h
  refine xq rfl (y_call [.agg (eSign a1).toArray, .int .i64 v2_2] (.int .i64 v5_2) func15 (fun W S => C.l_szSign W hv5_2)) ?_
  refine p 1 ?_
  refine rend ?_
  refine c_seq ?_
  refine c_seq ?_
  refine r_start ?_
  refine p 2 ?_
  refine rend ?_
  refine c_or (decide (v5_2 < 0)) (fun q2 => ?_) (fun q2 => ?_)
  · replace h := H.t q2 h
    refine c_seq ?_
    refine r_start ?_
    refine p 1 ?_
    refine rend ?_
    replace h := H.done h
    subst h
    exact ret func4 rfl (vs := [.bool true]) (.tmp (by kernel_rfl) .nil) rfl (fun W S => ⟨rfl, S.below⟩)
  replace h := H.f q2 h
  refine c_skip ?_
  refine c_seq ?_
  refine as_start 10 10 ?_
  refine aq 0 rfl (y_load (.agg (eSign a0).toArray) 0 g0_0 0) ?_
  obtain ⟨v8_1, hv8_1, h⟩ := H.call h
  refine aq 1 rfl (y_call [.agg (eSign a0).toArray] (.agg (eSign v8_1).toArray) func17 (fun W S => C.l_toSign W hv8_1)) ?_
  refine aq 2 rfl (y_load (.agg (eSign a1).toArray) 1 g0_1 0) ?_
  obtain ⟨v8_3, hv8_3, h⟩ := H.call h
  refine aq 3 rfl (y_call [.agg (eSign a1).toArray] (.agg (eSign v8_3).toArray) func17 (fun W S => C.l_toSign W hv8_3)) ?_
  obtain ⟨v8_4, hv8_4, h⟩ := H.call h
  refine aq 4 rfl (y_call [.agg (eSign v8_1).toArray, .agg (eSign v8_3).toArray] (.tuple #[.bool v8_4.1, .bool v8_4.2]) func20 (fun W S => C.s_IsMinimalPair W hv8_4)) ?_
  refine ap 5 5 ?_
  refine a_done ?_
  refine c_seq ?_
  refine as_start 10 10 ?_
  refine aq 0 rfl (y_load (.agg (eSign a0).toArray) 0 g0_0 0) ?_
  obtain ⟨v9_1, hv9_1, h⟩ := H.call h
  refine aq 1 rfl (y_call [.agg (eSign a0).toArray] (.agg (eSign v9_1).toArray) func17 (fun W S => C.l_toSign W hv9_1)) ?_
  refine aq 2 rfl (y_load (.agg (eSign a1).toArray) 1 g0_1 0) ?_
  obtain ⟨v9_3, hv9_3, h⟩ := H.call h
  refine aq 3 rfl (y_call [.agg (eSign a1).toArray] (.agg (eSign v9_3).toArray) func17 (fun W S => C.l_toSign W hv9_3)) ?_
  obtain ⟨v9_4, hv9_4, h⟩ := H.call h
  refine aq 4 rfl (y_call [.agg (eSign v9_1).toArray, .agg (eSign v9_3).toArray] (.tuple #[.bool v9_4.1, .bool v9_4.2]) func21 (fun W S => C.i_IsMinimalPair W hv9_4)) ?_
  refine ap 5 5 ?_
  refine a_done ?_
  refine c_seq ?_
  refine c_seq ?_
  refine r_start ?_
  refine p 4 ?_
  refine br (!(v9_4.1 == v8_4.1)) (fun q3 => ?_) (fun q3 => ?_)
  · replace h := H.t q3 h
    refine o_set 39 (congrArg Value.bool q3) ?_
    refine p 4 ?_
    refine rend ?_
    refine c_t (by kernel_rfl) ?_
    refine c_seq ?_
    refine r_start ?_
    refine p 1 ?_
    refine rend ?_
    replace h := H.done h
    subst h
    exact ret func4 rfl (vs := [.bool false]) (.tmp (by kernel_rfl) .nil) rfl (fun W S => ⟨rfl, S.below⟩)
  replace h := H.f q3 h
  refine o_set 39 (congrArg Value.bool q3) ?_
  refine p 4 ?_
  refine rend ?_
  refine c_or (!(v9_4.2 == v8_4.2)) (fun q4 => ?_) (fun q4 => ?_)
  · replace h := H.t q4 h
    refine c_seq ?_
    refine r_start ?_
    refine p 1 ?_
    refine rend ?_
    replace h := H.done h
    subst h
    exact ret func4 rfl (vs := [.bool false]) (.tmp (by kernel_rfl) .nil) rfl (fun W S => ⟨rfl, S.below⟩)
  replace h := H.f q4 h
  refine c_skip ?_
  refine c_seq ?_
  refine r_start ?_
  refine p 1 ?_
  refine rend ?_
  replace h := H.done h
  subst h
  exact ret func4 rfl (vs := [.bool true]) (.tmp (by kernel_rfl) .nil) rfl (fun W S => ⟨rfl, S.below⟩)
end Go.Proofs.XC
