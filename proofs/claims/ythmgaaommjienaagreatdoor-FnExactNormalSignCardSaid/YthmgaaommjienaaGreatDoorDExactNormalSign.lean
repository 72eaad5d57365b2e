/- Contracts: each function, called where its plain function gives an answer, returns just that answer and changes nothing that was there. By AI agents; no person has read it. -/
import Derived.Test.YthmgaaommjienaaGreatDoorC1
set_option linter.unusedVariables false
set_option linter.unusedSimpArgs false
set_option maxRecDepth 100000
namespace Go.Proofs.XC
open Go Go.RowKit
open Tryz
theorem C.s_NormalSign {fu : Nat} {a0 : Sign} {r : (Sign × Bool)} (w : World) (h : X.s_NormalSign fu a0 = some r) : Calls prog 47 #[.agg (eSign a0).toArray] w (Ret w (.tuple #[.agg (eSign r.1).toArray, .bool r.2])) := by
  refine calls (M := no) (args := [.agg (eSign a0).toArray]) func47 rfl ?_
  replace h : H (X.s_NormalSign fu a0) (fun o => o = r) := H.mk h
  unfold X.s_NormalSign at h
  refine c_seq ?_
  refine r_start ?_
  refine xx rfl (x_box (eSign a0) fun g0_0 => ?_)
  refine xx rfl (x_new (eSign zSign) fun g0_1 => ?_)
  refine p 1 ?_
  refine rend ?_
  refine c_seq ?_
  refine c_seq ?_
  refine r_start ?_
  refine xq rfl (y_load (.agg (eSign a0).toArray) 0 g0_0 0) ?_
  obtain ⟨v1_1, hv1_1, h⟩ := H.call h
  refine xq rfl (y_call [.agg (eSign a0).toArray] (.bool v1_1) func72 (fun W S => C.s_siGood W hv1_1)) ?_
  refine p 1 ?_
  refine rend ?_
  refine c_or (!v1_1) (fun q1 => ?_) (fun q1 => ?_)
  · replace h := H.t q1 h
    refine c_seq ?_
    refine r_start ?_
    refine p 1 ?_
    refine xx rfl (x_sto 1 g0_1 0 (eSign zSign) ?_)
    refine p 1 ?_
    refine rend ?_
    replace h := H.done h
    subst h
    exact ret func47 rfl (vs := [.agg (eSign zSign).toArray, .bool false]) (.cell 1 g0_1 rfl (by kernel_rfl) (by kernel_rfl) (.tmp (by kernel_rfl) .nil)) rfl (fun W S => ⟨rfl, S.below⟩)
  replace h := H.f q1 h
  refine c_skip ?_
  refine c_seq ?_
  refine r_start ?_
  refine xq rfl (y_load (.agg (eSign a0).toArray) 0 g0_0 0) ?_
  obtain ⟨v3_1, hv3_1, h⟩ := H.call h
  refine xq rfl (y_call [.agg (eSign a0).toArray] (.agg (eSign v3_1).toArray) func73 (fun W S => C.s_noForm W hv3_1)) ?_
  refine xx rfl (x_sto 1 g0_1 0 (eSign v3_1) ?_)
  refine p 1 ?_
  refine rend ?_
  replace h := H.done h
  subst h
  exact ret func47 rfl (vs := [.agg (eSign v3_1).toArray, .bool true]) (.cell 1 g0_1 rfl (by kernel_rfl) (by kernel_rfl) (.tmp (by kernel_rfl) .nil)) rfl (fun W S => ⟨rfl, S.below⟩)
theorem C.i_NormalSign {fu : Nat} {a0 : Sign} {r : (Sign × Bool)} (w : World) (h : X.i_NormalSign fu a0 = some r) : Calls prog 48 #[.agg (eSign a0).toArray] w (Ret w (.tuple #[.agg (eSign r.1).toArray, .bool r.2])) := by
  refine calls (M := no) (args := [.agg (eSign a0).toArray]) func48 rfl ?_
  replace h : H (X.i_NormalSign fu a0) (fun o => o = r) := H.mk h
  unfold X.i_NormalSign at h
  refine c_seq ?_
  refine r_start ?_
  refine xx rfl (x_box (eSign a0) fun g0_0 => ?_)
  refine xx rfl (x_new (eSign zSign) fun g0_1 => ?_)
  refine p 1 ?_
  refine rend ?_
  refine c_seq ?_
  refine c_seq ?_
  refine r_start ?_
  refine xq rfl (y_load (.agg (eSign a0).toArray) 0 g0_0 0) ?_
  obtain ⟨v1_1, hv1_1, h⟩ := H.call h
  refine xq rfl (y_call [.agg (eSign a0).toArray] (.bool v1_1) func61 (fun W S => C.i_IsSign W hv1_1)) ?_
  refine p 1 ?_
  refine rend ?_
  refine c_or (!v1_1) (fun q1 => ?_) (fun q1 => ?_)
  · replace h := H.t q1 h
    refine c_seq ?_
    refine r_start ?_
    refine p 1 ?_
    refine xx rfl (x_sto 1 g0_1 0 (eSign zSign) ?_)
    refine p 1 ?_
    refine rend ?_
    replace h := H.done h
    subst h
    exact ret func48 rfl (vs := [.agg (eSign zSign).toArray, .bool false]) (.cell 1 g0_1 rfl (by kernel_rfl) (by kernel_rfl) (.tmp (by kernel_rfl) .nil)) rfl (fun W S => ⟨rfl, S.below⟩)
  replace h := H.f q1 h
  refine c_skip ?_
  refine c_seq ?_
  refine r_start ?_
  refine xq rfl (y_load (.agg (eSign a0).toArray) 0 g0_0 0) ?_
  obtain ⟨v3_1, hv3_1, h⟩ := H.call h
  refine xq rfl (y_call [.agg (eSign a0).toArray] (.agg (eSign v3_1).toArray) func90 (fun W S => C.i_Sign_normal W hv3_1)) ?_
  refine xx rfl (x_sto 1 g0_1 0 (eSign v3_1) ?_)
  refine p 1 ?_
  refine rend ?_
  replace h := H.done h
  subst h
  exact ret func48 rfl (vs := [.agg (eSign v3_1).toArray, .bool true]) (.cell 1 g0_1 rfl (by kernel_rfl) (by kernel_rfl) (.tmp (by kernel_rfl) .nil)) rfl (fun W S => ⟨rfl, S.below⟩)
theorem C.l_FnExactNormalSign {fu : Nat} {a0 : Sign} {r : Bool} (w : World) (h : X.l_FnExactNormalSign fu a0 = some r) : Calls prog 12 #[.agg (eSign a0).toArray] w (Ret w (.bool r)) := by
  refine calls (M := no) (args := [.agg (eSign a0).toArray]) func12 rfl ?_
  replace h : H (X.l_FnExactNormalSign fu a0) (fun o => o = r) := H.mk h
  unfold X.l_FnExactNormalSign at h
  refine c_seq ?_
  refine r_start ?_
  refine xx rfl (x_box (eSign a0) fun g0_0 => ?_)
  refine p 1 ?_
  refine rend ?_
  refine c_seq ?_
  refine r_start ?_
  refine p 1 ?_
  refine rend ?_
  refine c_seq ?_
  refine r_start ?_
  refine xq rfl (y_load (.agg (eSign a0).toArray) 0 g0_0 0) ?_
  refine p 1 ?_
  obtain ⟨v2_2, hv2_2, h⟩ := H.call h
  refine xq rfl (y_call [.agg (eSign a0).toArray, .int .i64 1048576] (.int .i64 v2_2) func15 (fun W S => C.l_szSign W hv2_2)) ?_
  refine p 1 ?_
  refine rend ?_
  refine c_seq ?_
  refine c_seq ?_
  refine r_start ?_
  refine p 2 ?_
  refine rend ?_
  refine c_or (decide (v2_2 < 0)) (fun q1 => ?_) (fun q1 => ?_)
  · replace h := H.t q1 h
    refine c_seq ?_
    refine r_start ?_
    refine p 1 ?_
    refine rend ?_
    replace h := H.done h
    subst h
    exact ret func12 rfl (vs := [.bool true]) (.tmp (by kernel_rfl) .nil) rfl (fun W S => ⟨rfl, S.below⟩)
  replace h := H.f q1 h
  refine c_skip ?_
  refine c_seq ?_
  refine r_start ?_
  refine xq rfl (y_load (.agg (eSign a0).toArray) 0 g0_0 0) ?_
  obtain ⟨v5_1, hv5_1, h⟩ := H.call h
  refine xq rfl (y_call [.agg (eSign a0).toArray] (.agg (eSign v5_1).toArray) func17 (fun W S => C.l_toSign W hv5_1)) ?_
  obtain ⟨v5_2, hv5_2, h⟩ := H.call h
  refine xq rfl (y_call [.agg (eSign v5_1).toArray] (.tuple #[.agg (eSign v5_2.1).toArray, .bool v5_2.2]) func47 (fun W S => C.s_NormalSign W hv5_2)) ?_
  refine p 3 ?_
  refine xx rfl (x_new (eSign zSign) fun g5_6 => ?_)
  refine xx rfl (x_sto 1 g5_6 0 (eSign v5_2.1) ?_)
  refine p 1 ?_
  refine rend ?_
  refine c_seq ?_
  refine r_start ?_
  refine xq rfl (y_load (.agg (eSign a0).toArray) 0 g0_0 0) ?_
  obtain ⟨v6_1, hv6_1, h⟩ := H.call h
  refine xq rfl (y_call [.agg (eSign a0).toArray] (.agg (eSign v6_1).toArray) func17 (fun W S => C.l_toSign W hv6_1)) ?_
  obtain ⟨v6_2, hv6_2, h⟩ := H.call h
  refine xq rfl (y_call [.agg (eSign v6_1).toArray] (.tuple #[.agg (eSign v6_2.1).toArray, .bool v6_2.2]) func48 (fun W S => C.i_NormalSign W hv6_2)) ?_
  refine p 3 ?_
  refine xx rfl (x_new (eSign zSign) fun g6_6 => ?_)
  refine xx rfl (x_sto 2 g6_6 0 (eSign v6_2.1) ?_)
  refine p 1 ?_
  refine rend ?_
  refine c_seq ?_
  refine c_seq ?_
  refine r_start ?_
  refine xq rfl (y_load (.agg (eSign v6_2.1).toArray) 2 g6_6 0) ?_
  refine xq rfl (y_load (.agg (eSign v5_2.1).toArray) 1 g5_6 0) ?_
  obtain ⟨v7_2, hv7_2, h⟩ := H.call h
  refine xq rfl (y_call [.agg (eSign v6_2.1).toArray, .agg (eSign v5_2.1).toArray] (.bool v7_2) func49 (fun W S => C.l_eqSign W hv7_2)) ?_
  refine p 2 ?_
  refine br (!v7_2) (fun q2 => ?_) (fun q2 => ?_)
  · replace h := H.t q2 h
    refine o_set 29 (congrArg Value.bool q2) ?_
    refine p 4 ?_
    refine rend ?_
    refine c_t (by kernel_rfl) ?_
    refine c_seq ?_
    refine r_start ?_
    refine p 1 ?_
    refine rend ?_
    replace h := H.done h
    subst h
    exact ret func12 rfl (vs := [.bool false]) (.tmp (by kernel_rfl) .nil) rfl (fun W S => ⟨rfl, S.below⟩)
  replace h := H.f q2 h
  refine o_set 29 (congrArg Value.bool q2) ?_
  refine p 4 ?_
  refine rend ?_
  refine c_or (!(v6_2.2 == v5_2.2)) (fun q3 => ?_) (fun q3 => ?_)
  · replace h := H.t q3 h
    refine c_seq ?_
    refine r_start ?_
    refine p 1 ?_
    refine rend ?_
    replace h := H.done h
    subst h
    exact ret func12 rfl (vs := [.bool false]) (.tmp (by kernel_rfl) .nil) rfl (fun W S => ⟨rfl, S.below⟩)
  replace h := H.f q3 h
  refine c_skip ?_
  refine c_seq ?_
  refine r_start ?_
  refine p 1 ?_
  refine rend ?_
  replace h := H.done h
  subst h
  exact ret func12 rfl (vs := [.bool true]) (.tmp (by kernel_rfl) .nil) rfl (fun W S => ⟨rfl, S.below⟩)
end Go.Proofs.XC
