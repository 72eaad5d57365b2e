/- Contracts: each function, called where its plain function gives an answer, returns just that answer and changes nothing that was there. By AI agents; no person has read it. -/
import Derived.Test.YtldkmmopfhhdgaaGreatDoorC1
import Derived.Test.YtldkmmopfhhdgaaGreatDoorE1
import Derived.Test.YtldkmmopfhhdgaaGreatDoorE2
set_option linter.unusedVariables false
set_option linter.unusedSimpArgs false
set_option maxRecDepth 100000
set_option maxHeartbeats 40000000
namespace Go.Proofs.XC
open Go Go.RowKit
open Tryz
theorem C.s_DrawSignDistance {fu : Nat} {a0 : (List Int)} {A0 : Option Addr} {k0 : Nat} {r : (Sign × Sign)} (w : World) (h : X.s_DrawSignDistance fu a0 = some r) (h0 : RdT (eI .u8) w (.slice A0 (List.length a0) k0) a0) : Calls prog 37 #[.slice A0 (List.length a0) k0] w (Ret w (.tuple #[.agg (eSign r.1).toArray, .agg (eSign r.2).toArray])) := by
  refine calls (M := no) (args := [.slice A0 (List.length a0) k0]) func37 rfl ?_
  replace h : H (X.s_DrawSignDistance fu a0) (fun o => o = r) := H.mk h
  unfold X.s_DrawSignDistance at h
  refine c_seq ?_
  refine r_start ?_
  refine xx rfl (x_new (eSign zSign) fun g0_0 => ?_)
  refine xx rfl (x_new (eSign zSign) fun g0_1 => ?_)
  refine rend ?_
  refine c_seq ?_
  refine r_start ?_
  refine p 2 ?_
  refine xx rfl (x_box [.slice A0 (List.length a0) k0, .int .i64 0, .int .u64 0] fun g1_2 => ?_)
  refine p 1 ?_
  refine rend ?_
  refine c_seq ?_
  refine r_start ?_
  refine p 1 ?_
  obtain ⟨v2_1, hv2_1, h⟩ := H.call h
  refine xx rfl (e_cq (cs' := [.slice A0 (List.length a0) k0, .int .i64 v2_1.2.1, .int .u64 v2_1.2.2]) (v := .agg (eSign v2_1.1).toArray) 2 [.pointer (some ⟨g1_2, 0, none⟩)] func116 (fun W S => C.s_l1Cur_anySign W hv2_1 (S.bx 2) ((s_arg h0).out W S) (ap_arg h0 S 2)) ?_)
  refine xx rfl (x_new (eSign zSign) fun g2_2 => ?_)
  refine xx rfl (x_sto 3 g2_2 0 (eSign v2_1.1) ?_)
  refine rend ?_
  refine c_seq ?_
  refine c_seq ?_
  refine r_start ?_
  refine xq rfl (y_load (.agg (eSign v2_1.1).toArray) 3 g2_2 0) ?_
  obtain ⟨v3_1, hv3_1, h⟩ := H.call h
  refine xq rfl (y_call [.agg (eSign v2_1.1).toArray] (.bool v3_1) func91 (fun W S => C.s_siGood W hv3_1)) ?_
  refine p 1 ?_
  refine br v3_1 (fun q1 => ?_) (fun q1 => ?_)
  · replace h := H.t q1 h
    refine o_set 13 (congrArg Value.bool q1) ?_
    refine p 1 ?_
    obtain ⟨v3_4, hv3_4, h⟩ := H.call h
    refine xx rfl (e_cq (cs' := [.slice A0 (List.length a0) k0, .int .i64 v3_4.2.1, .int .u64 v3_4.2.2]) (v := .bool v3_4.1) 2 [.pointer (some ⟨g1_2, 0, none⟩), .int .i64 2] func90 (fun W S => C.s_l1Cur_one W hv3_4 (S.bx 2) ((s_arg h0).out W S) (ap_arg h0 S 2)) ?_)
    refine p 1 ?_
    refine rend ?_
    refine c_or v3_4.1 (fun q2 => ?_) (fun q2 => ?_)
    · replace h := H.t q2 h
      refine c_seq ?_
      refine pick [2, 3, 0, 1] [box g1_2 92 [.slice A0 (List.length a0) k0, .int .i64 v3_4.2.1, .int .u64 v3_4.2.2], box g2_2 37 (eSign v2_1.1), box g0_0 37 (eSign zSign), box g0_1 37 (eSign zSign)] ?_
      refine as_startN 5 2 5 ?_
      refine aq 0 rfl (y_load (.agg (eSign v2_1.1).toArray) 1 g2_2 0) ?_
      refine aq 1 rfl (y_load (.agg (eSign v2_1.1).toArray) 1 g2_2 0) ?_
      obtain ⟨v4_2, hv4_2, h⟩ := H.call h
      refine aq 2 rfl (y_call [.agg (eSign v2_1.1).toArray] (.agg (eSign v4_2).toArray) func117 (fun W S => C.s_noForm W hv4_2)) ?_
      refine ax 3 rfl (x_sto 2 g0_0 0 (eSign v2_1.1) ⟨.inr (by kernel_rfl), ?_⟩)
      refine ax 4 rfl (x_sto 3 g0_1 0 (eSign v4_2) ⟨.inr (by kernel_rfl), ?_⟩)
      refine a_done ?_
      refine pick [2, 3, 0, 1] [box g0_0 37 (eSign v2_1.1), box g0_1 37 (eSign v4_2), box g1_2 92 [.slice A0 (List.length a0) k0, .int .i64 v3_4.2.1, .int .u64 v3_4.2.2], box g2_2 37 (eSign v2_1.1)] ?_
      replace h := H.done h
      subst h
      exact ret func37 rfl (vs := [.agg (eSign v2_1.1).toArray, .agg (eSign v4_2).toArray]) (.cell 0 g0_0 rfl (by kernel_rfl) (by kernel_rfl) (.cell 1 g0_1 rfl (by kernel_rfl) (by kernel_rfl) .nil)) rfl (fun W S => ⟨rfl, S.below⟩)
    replace h := H.f q2 h
    refine c_skip ?_
    refine c_seq ?_
    refine pick [0, 1, 3, 2] [box g0_0 37 (eSign zSign), box g0_1 37 (eSign zSign), box g2_2 37 (eSign v2_1.1), box g1_2 92 [.slice A0 (List.length a0) k0, .int .i64 v3_4.2.1, .int .u64 v3_4.2.2]] ?_
    refine as_startN 3 3 5 ?_
    refine aq 0 rfl (y_load (.agg (eSign v2_1.1).toArray) 2 g2_2 0) ?_
    refine ap 1 1 ?_
    obtain ⟨v5_2, hv5_2, h⟩ := H.call h
    refine ax 2 rfl (e_cq (cs' := [.slice A0 (List.length a0) k0, .int .i64 v5_2.2.1, .int .u64 v5_2.2.2]) (v := .agg (eSign v5_2.1).toArray) 3 [.pointer (some ⟨g1_2, 0, none⟩)] func116 (fun W S => C.s_l1Cur_anySign W hv5_2 (S.bx 3) ((s_arg h0).out W S) (ap_arg h0 S 3)) ⟨.inr (by kernel_rfl), ?_⟩)
    refine ax 3 rfl (x_sto 0 g0_0 0 (eSign v2_1.1) ⟨.inl (by kernel_rfl), ?_⟩)
    refine ax 4 rfl (x_sto 1 g0_1 0 (eSign v5_2.1) ⟨.inl (by kernel_rfl), ?_⟩)
    refine a_done ?_
    refine pick [0, 1, 3, 2] [box g0_0 37 (eSign v2_1.1), box g0_1 37 (eSign v5_2.1), box g1_2 92 [.slice A0 (List.length a0) k0, .int .i64 v5_2.2.1, .int .u64 v5_2.2.2], box g2_2 37 (eSign v2_1.1)] ?_
    replace h := H.done h
    subst h
    exact ret func37 rfl (vs := [.agg (eSign v2_1.1).toArray, .agg (eSign v5_2.1).toArray]) (.cell 0 g0_0 rfl (by kernel_rfl) (by kernel_rfl) (.cell 1 g0_1 rfl (by kernel_rfl) (by kernel_rfl) .nil)) rfl (fun W S => ⟨rfl, S.below⟩)
  replace h := H.f q1 h
  refine o_set 13 (congrArg Value.bool q1) ?_
  refine p 3 ?_
  refine rend ?_
  refine c_f (by kernel_rfl) ?_
  refine c_skip ?_
  refine c_seq ?_
  refine pick [0, 1, 3, 2] [box g0_0 37 (eSign zSign), box g0_1 37 (eSign zSign), box g2_2 37 (eSign v2_1.1), box g1_2 92 [.slice A0 (List.length a0) k0, .int .i64 v2_1.2.1, .int .u64 v2_1.2.2]] ?_
  refine as_startN 3 3 5 ?_
  refine aq 0 rfl (y_load (.agg (eSign v2_1.1).toArray) 2 g2_2 0) ?_
  refine ap 1 1 ?_
  obtain ⟨v5_2, hv5_2, h⟩ := H.call h
  refine ax 2 rfl (e_cq (cs' := [.slice A0 (List.length a0) k0, .int .i64 v5_2.2.1, .int .u64 v5_2.2.2]) (v := .agg (eSign v5_2.1).toArray) 3 [.pointer (some ⟨g1_2, 0, none⟩)] func116 (fun W S => C.s_l1Cur_anySign W hv5_2 (S.bx 3) ((s_arg h0).out W S) (ap_arg h0 S 3)) ⟨.inr (by kernel_rfl), ?_⟩)
  refine ax 3 rfl (x_sto 0 g0_0 0 (eSign v2_1.1) ⟨.inl (by kernel_rfl), ?_⟩)
  refine ax 4 rfl (x_sto 1 g0_1 0 (eSign v5_2.1) ⟨.inl (by kernel_rfl), ?_⟩)
  refine a_done ?_
  refine pick [0, 1, 3, 2] [box g0_0 37 (eSign v2_1.1), box g0_1 37 (eSign v5_2.1), box g1_2 92 [.slice A0 (List.length a0) k0, .int .i64 v5_2.2.1, .int .u64 v5_2.2.2], box g2_2 37 (eSign v2_1.1)] ?_
  replace h := H.done h
  subst h
  exact ret func37 rfl (vs := [.agg (eSign v2_1.1).toArray, .agg (eSign v5_2.1).toArray]) (.cell 0 g0_0 rfl (by kernel_rfl) (by kernel_rfl) (.cell 1 g0_1 rfl (by kernel_rfl) (by kernel_rfl) .nil)) rfl (fun W S => ⟨rfl, S.below⟩)
theorem C.i_Hand_common_1 {a0 : Bool} {r : Bool} (w : World) (h : X.i_Hand_common_1 a0 = some r) : Calls prog 194 #[.bool a0] w (Ret w (.bool r)) := by
  refine calls (M := no) (args := [.bool a0]) func194 rfl ?_
  replace h : H (X.i_Hand_common_1 a0) (fun o => o = r) := H.mk h
  unfold X.i_Hand_common_1 at h
  refine c_seq ?_
  refine r_start ?_
  refine p 1 ?_
  refine rend ?_
  refine c_seq ?_
  refine r_start ?_
  refine p 2 ?_
  refine rend ?_
  replace h := H.done h
  subst h
  exact ret func194 rfl (vs := [.bool a0]) (.tmp (by kernel_rfl) .nil) rfl (fun W S => ⟨rfl, S.below⟩)
theorem C.i_Hand_common {a0 : Hand} {a1 : Hand} {r : Int} (w : World) (h : X.i_Hand_common a0 a1 = some r) : Calls prog 122 #[.agg (eHand a0).toArray, .agg (eHand a1).toArray] w (Ret w (.int .i64 r)) := by
  refine calls (M := no) (args := [.agg (eHand a0).toArray, .agg (eHand a1).toArray]) func122 rfl ?_
  replace h : H (X.i_Hand_common a0 a1) (fun o => o = r) := H.mk h
  unfold X.i_Hand_common at h
  refine c_seq ?_
  refine r_start ?_
  refine xx rfl (x_box (eHand a0) fun g0_0 => ?_)
  refine xx rfl (x_box (eHand a1) fun g0_1 => ?_)
  refine p 1 ?_
  refine rend ?_
  refine c_seq ?_
  refine r_start ?_
  refine xq rfl (y_load (.agg (eHand a0).toArray) 0 g0_0 0) ?_
  refine xq rfl (y_load (.agg (eHand a1).toArray) 1 g0_1 0) ?_
  obtain ⟨v1_2, hv1_2, h⟩ := H.call h
  refine xx rfl (e_cr [.agg (eHand a0).toArray, .agg (eHand a1).toArray] (fun v => v) func193 (fun W S => C.i_Hand_same W hv1_2) fun A1_2 k1_2 => ?_)
  obtain ⟨v1_3, hv1_3, h⟩ := H.call h
  refine xx rfl (e_cr [.slice A1_2 (List.length v1_2) k1_2, .func (.func 194) #[] #[]] (fun v => v) func192 (fun W S => C.i_those_bool W hv1_3 ((s_own 2).out W S) (isFn_of func194) (fun x0_2 r W2 hu2 hx2 => C.i_Hand_common_1 W2 hx2)) fun A1_3 k1_3 => ?_)
  refine p 2 ?_
  refine rend ?_
  replace h := H.done h
  subst h
  exact ret func122 rfl (vs := [.int .i64 (List.length v1_3 : Int)]) (.tmp (by kernel_rfl) .nil) rfl (fun W S => ⟨rfl, S.below⟩)
theorem C.i_CommonParts {fu : Nat} {a0 : Sign} {a1 : Sign} {r : (Int × Bool)} (w : World) (h : X.i_CommonParts fu a0 a1 = some r) : Calls prog 40 #[.agg (eSign a0).toArray, .agg (eSign a1).toArray] w (Ret w (.tuple #[.int .i64 r.1, .bool r.2])) := by
  refine calls (M := no) (args := [.agg (eSign a0).toArray, .agg (eSign a1).toArray]) func40 rfl ?_
  replace h : H (X.i_CommonParts fu a0 a1) (fun o => o = r) := H.mk h
  unfold X.i_CommonParts at h
  refine c_seq ?_
  refine r_start ?_
  refine xx rfl (x_box (eSign a0) fun g0_0 => ?_)
  refine xx rfl (x_box (eSign a1) fun g0_1 => ?_)
  refine p 2 ?_
  refine rend ?_
  refine c_seq ?_
  refine c_seq ?_
  refine r_start ?_
  refine xq rfl (y_load (.agg (eSign a0).toArray) 0 g0_0 0) ?_
  obtain ⟨v1_1, hv1_1, h⟩ := H.call h
  refine xq rfl (y_call [.agg (eSign a0).toArray] (.bool v1_1) func19 (fun W S => C.i_IsSign W hv1_1)) ?_
  refine p 2 ?_
  refine br (!v1_1) (fun q1 => ?_) (fun q1 => ?_)
  · replace h := H.t q1 h
    refine o_set 9 (congrArg Value.bool q1) ?_
    refine p 4 ?_
    refine rend ?_
    refine c_t (by kernel_rfl) ?_
    refine c_seq ?_
    refine r_start ?_
    refine p 2 ?_
    refine rend ?_
    replace h := H.done h
    subst h
    exact ret func40 rfl (vs := [.int .i64 0, .bool false]) (.tmp (by kernel_rfl) (.tmp (by kernel_rfl) .nil)) rfl (fun W S => ⟨rfl, S.below⟩)
  replace h := H.f q1 h
  refine o_set 9 (congrArg Value.bool q1) ?_
  refine xq rfl (y_load (.agg (eSign a1).toArray) 1 g0_1 0) ?_
  obtain ⟨v1_5, hv1_5, h⟩ := H.call h
  refine xq rfl (y_call [.agg (eSign a1).toArray] (.bool v1_5) func19 (fun W S => C.i_IsSign W hv1_5)) ?_
  refine p 2 ?_
  refine rend ?_
  refine c_or (!v1_5) (fun q2 => ?_) (fun q2 => ?_)
  · replace h := H.t q2 h
    refine c_seq ?_
    refine r_start ?_
    refine p 2 ?_
    refine rend ?_
    replace h := H.done h
    subst h
    exact ret func40 rfl (vs := [.int .i64 0, .bool false]) (.tmp (by kernel_rfl) (.tmp (by kernel_rfl) .nil)) rfl (fun W S => ⟨rfl, S.below⟩)
  replace h := H.f q2 h
  refine c_skip ?_
  refine c_seq ?_
  refine as_start 9 9 ?_
  refine aq 0 rfl (y_load (.agg (eSign a0).toArray) 0 g0_0 0) ?_
  obtain ⟨v3_1, hv3_1, h⟩ := H.call h
  refine aq 1 rfl (y_call [.agg (eSign a0).toArray] (.agg (eSign v3_1).toArray) func121 (fun W S => C.i_Sign_normal W hv3_1)) ?_
  refine ap 2 1 ?_
  refine aq 3 rfl (y_load (.agg (eSign a1).toArray) 1 g0_1 0) ?_
  obtain ⟨v3_4, hv3_4, h⟩ := H.call h
  refine aq 4 rfl (y_call [.agg (eSign a1).toArray] (.agg (eSign v3_4).toArray) func121 (fun W S => C.i_Sign_normal W hv3_4)) ?_
  refine ap 5 1 ?_
  obtain ⟨v3_6, hv3_6, h⟩ := H.call h
  refine aq 6 rfl (y_call [.agg (eHand v3_1.Main).toArray, .agg (eHand v3_4.Main).toArray] (.int .i64 v3_6) func122 (fun W S => C.i_Hand_common W hv3_6)) ?_
  refine ap 7 2 ?_
  refine a_done ?_
  replace h := H.done h
  subst h
  exact ret func40 rfl (vs := [.int .i64 v3_6, .bool true]) (.tmp (by kernel_rfl) (.tmp (by kernel_rfl) .nil)) rfl (fun W S => ⟨rfl, S.below⟩)
theorem C.s_CommonParts {fu : Nat} {a0 : Sign} {a1 : Sign} {r : (Int × Bool)} (w : World) (h : X.s_CommonParts fu a0 a1 = some r) : Calls prog 41 #[.agg (eSign a0).toArray, .agg (eSign a1).toArray] w (Ret w (.tuple #[.int .i64 r.1, .bool r.2])) := by
  refine calls (M := no) (args := [.agg (eSign a0).toArray, .agg (eSign a1).toArray]) func41 rfl ?_
  replace h : H (X.s_CommonParts fu a0 a1) (fun o => o = r) := H.mk h
  unfold X.s_CommonParts at h
  refine c_seq ?_
  refine r_start ?_
  refine xx rfl (x_box (eSign a0) fun g0_0 => ?_)
  refine xx rfl (x_box (eSign a1) fun g0_1 => ?_)
  refine p 2 ?_
  refine rend ?_
  refine c_seq ?_
  refine c_seq ?_
  refine r_start ?_
  refine xq rfl (y_load (.agg (eSign a0).toArray) 0 g0_0 0) ?_
  refine xq rfl (y_load (.agg (eSign a1).toArray) 1 g0_1 0) ?_
  obtain ⟨v1_2, hv1_2, h⟩ := H.call h
  refine xq rfl (y_call [.agg (eSign a0).toArray, .agg (eSign a1).toArray] (.bool v1_2) func119 (fun W S => C.s_feBoth W hv1_2)) ?_
  refine p 1 ?_
  refine rend ?_
  refine c_or (!v1_2) (fun q1 => ?_) (fun q1 => ?_)
  · replace h := H.t q1 h
    refine c_seq ?_
    refine r_start ?_
    refine p 2 ?_
    refine rend ?_
    replace h := H.done h
    subst h
    exact ret func41 rfl (vs := [.int .i64 0, .bool false]) (.tmp (by kernel_rfl) (.tmp (by kernel_rfl) .nil)) rfl (fun W S => ⟨rfl, S.below⟩)
  replace h := H.f q1 h
  refine c_skip ?_
  refine c_seq ?_
  refine joinT (X := (Hand × Hand × Nat × Nat)) (H.bnd h) (fun ⟨s2, s3, g3_6, g3_7⟩ => (s2, s3)) (fun ⟨s2, s3, g3_6, g3_7⟩ => [box g0_0 37 (eSign a0), box g0_1 37 (eSign a1), box g3_6 33 (eHand s2), box g3_7 33 (eHand s3)]) (fun ⟨s2, s3, g3_6, g3_7⟩ u => (jk u 0 6 (.pointer (some ⟨g3_6, 0, none⟩) :: .pointer (some ⟨g3_7, 0, none⟩) :: (jk u 8 44 [])))) (fun h hj4 => ?_) ?_
  · skip
    refine as_start 10 10 ?_
    refine aq 0 rfl (y_load (.agg (eSign a0).toArray) 0 g0_0 0) ?_
    obtain ⟨v3_1, hv3_1, h⟩ := H.call h
    refine aq 1 rfl (y_call [.agg (eSign a0).toArray] (.agg (eSign v3_1).toArray) func117 (fun W S => C.s_noForm W hv3_1)) ?_
    refine ap 2 1 ?_
    refine aq 3 rfl (y_load (.agg (eSign a1).toArray) 1 g0_1 0) ?_
    obtain ⟨v3_4, hv3_4, h⟩ := H.call h
    refine aq 4 rfl (y_call [.agg (eSign a1).toArray] (.agg (eSign v3_4).toArray) func117 (fun W S => C.s_noForm W hv3_4)) ?_
    refine ap 5 1 ?_
    refine a_two 6 7 rfl rfl ?_ ?_
    · skip
      refine (x_new (eHand zHand) fun g3_6 => ⟨.inr (by kernel_rfl), ?_⟩)
      refine ax 7 rfl (x_new (eHand zHand) fun g3_7 => ⟨.inr (by kernel_rfl), ?_⟩)
      refine ax 8 rfl (x_sto 2 g3_6 0 (eHand v3_1.Main) ⟨.inr (by kernel_rfl), ?_⟩)
      refine ax 9 rfl (x_sto 3 g3_7 0 (eHand v3_4.Main) ⟨.inr (by kernel_rfl), ?_⟩)
      refine a_done ?_
      replace h := H.done h
      exact hj4 (v3_1.Main, v3_4.Main, g3_6, g3_7) _ _ h (by kernel_rfl) (by kernel_rfl)
    refine (x_new (eHand zHand) fun g3_7 => ⟨.inr (by kernel_rfl), ?_⟩)
    refine ax 6 rfl (x_new (eHand zHand) fun g3_6 => ⟨.inr (by kernel_rfl), ?_⟩)
    refine ax 8 rfl (x_sto 3 g3_6 0 (eHand v3_1.Main) ⟨.inr (by kernel_rfl), ?_⟩)
    refine ax 9 rfl (x_sto 2 g3_7 0 (eHand v3_4.Main) ⟨.inr (by kernel_rfl), ?_⟩)
    refine a_done ?_
    refine swp [box g0_0 37 (eSign a0), box g0_1 37 (eSign a1)] (box g3_7 33 (eHand v3_4.Main)) (box g3_6 33 (eHand v3_1.Main)) ?_
    replace h := H.done h
    exact hj4 (v3_1.Main, v3_4.Main, g3_6, g3_7) _ _ h (by kernel_rfl) (by kernel_rfl)
  intro x u h
  obtain ⟨s2, s3, g3_6, g3_7⟩ := x
  refine c_seq ?_
  refine r_start ?_
  refine p 1 ?_
  refine rend ?_
  refine c_seq ?_
  refine c_seq ?_
  refine as_start 23 23 ?_
  refine ap 0 1 ?_
  refine aq 1 rfl (y_load (.agg (eShape s2.Shape).toArray) 2 g3_6 0) ?_
  refine ap 2 1 ?_
  refine aq 3 rfl (y_load (.agg (eShape s3.Shape).toArray) 3 g3_7 0) ?_
  refine ap 4 2 ?_
  refine aq 6 rfl (y_load (.agg (eOrient s2.Orient).toArray) 2 g3_6 6) ?_
  refine ap 7 1 ?_
  refine aq 8 rfl (y_load (.agg (eOrient s3.Orient).toArray) 3 g3_7 6) ?_
  refine ap 9 2 ?_
  refine aq 11 rfl (y_load (.agg (ePlace s2.Place).toArray) 2 g3_6 8) ?_
  refine ap 12 1 ?_
  refine aq 13 rfl (y_load (.agg (ePlace s3.Place).toArray) 3 g3_7 8) ?_
  refine ap 14 2 ?_
  refine aq 16 rfl (y_load (.agg (eMove s2.Move).toArray) 2 g3_6 11) ?_
  refine ap 17 1 ?_
  refine aq 18 rfl (y_load (.agg (eMove s3.Move).toArray) 3 g3_7 11) ?_
  refine ap 19 1 ?_
  refine ap 22 1 ?_
  refine ax 20 rfl (e_lit (e := eB) (el := 4) [.bool (qShape s2.Shape s3.Shape), .bool (qOrient s2.Orient s3.Orient), .bool (qPlace s2.Place s3.Place), .bool (qMove s2.Move s3.Move)] ([(qShape s2.Shape s3.Shape), (qOrient s2.Orient s3.Orient), (qPlace s2.Place s3.Place), (qMove s2.Move s3.Move)] : List Bool) fun A5_20 k5_20 => ⟨.inr (by kernel_rfl), ?_⟩)
  refine ap 21 1 ?_
  refine a_done ?_
  refine c_block ?_
  refine joinH (X := Int) 0 (H.bnd h) (fun (x : Int) => x) (fun n6 => [box g0_0 37 (eSign a0), box g0_1 37 (eSign a1), box g3_6 33 (eHand s2), box g3_7 33 (eHand s3), rowT eB w.heap.size 4 (.slice A5_20 (List.length ([(qShape s2.Shape s3.Shape), (qOrient s2.Orient s3.Orient), (qPlace s2.Place s3.Place), (qMove s2.Move s3.Move)] : List Bool)) k5_20) ([(qShape s2.Shape s3.Shape), (qOrient s2.Orient s3.Orient), (qPlace s2.Place s3.Place), (qMove s2.Move s3.Move)] : List Bool)]) (fun n6 u => (jk u 0 8 (.int .i64 n6 :: (jk u 9 43 [])))) (fun h hj7 => ?_) ?_
  · skip
    refine rangeR (X := Int) (s_own 4) (fun (x : Int) => x) (fun n5 => [box g0_0 37 (eSign a0), box g0_1 37 (eSign a1), box g3_6 33 (eHand s2), box g3_7 33 (eHand s3), rowT eB w.heap.size 4 (.slice A5_20 (List.length ([(qShape s2.Shape s3.Shape), (qOrient s2.Orient s3.Orient), (qPlace s2.Place s3.Place), (qMove s2.Move s3.Move)] : List Bool)) k5_20) ([(qShape s2.Shape s3.Shape), (qOrient s2.Orient s3.Orient), (qPlace s2.Place s3.Place), (qMove s2.Move s3.Move)] : List Bool)]) (fun (j8 : Nat) n5 u => (jk u 0 8 (.int .i64 n5 :: (jk u 9 32 (.slice A5_20 (List.length ([(qShape s2.Shape s3.Shape), (qOrient s2.Orient s3.Orient), (qPlace s2.Place s3.Place), (qMove s2.Move s3.Move)] : List Bool)) k5_20 :: .int .i64 (List.length ([(qShape s2.Shape s3.Shape), (qOrient s2.Orient s3.Orient), (qPlace s2.Place s3.Place), (qMove s2.Move s3.Move)] : List Bool) : Int) :: .int .i64 (j8 : Int) :: (jk u 44 8 [])))))) 0 h (by kernel_rfl) (by kernel_rfl) ?_ ?_
    · intro j8 n5 u x9 q10 hg11 hw12 h
      refine c_seq ?_
      refine r_start ?_
      refine p 1 ?_
      refine rend ?_
      refine c_seq ?_
      refine c_yes q10 ?_
      refine c_skip ?_
      refine c_seq ?_
      refine c_block ?_
      refine c_seq ?_
      refine r_start ?_
      refine xq rfl (y_idx (e := eB) (el := 4) hg11 (s_own 4)) ?_
      refine xq rfl (y_el (e := eB) 0 (.bool x9) hg11 (s_own 4)) ?_
      refine p 1 ?_
      refine rend ?_
      refine c_seq ?_
      refine r_start ?_
      refine p 1 ?_
      refine rend ?_
      refine c_or x9 (fun q13 => ?_) (fun q13 => ?_)
      · replace h := H.t q13 h
        refine r_start ?_
        refine p 3 ?_
        refine rend ?_
        refine c_inb ?_
        refine r_start ?_
        refine p 2 ?_
        refine rend ?_
        refine c_set 43 (ci hw12) ?_
        replace h := H.inl h
        exact h (wr (n5 + 1)) _ _ rfl (by kernel_rfl) (by kernel_rfl)
      replace h := H.f q13 h
      refine c_skip ?_
      refine c_inb ?_
      refine r_start ?_
      refine p 2 ?_
      refine rend ?_
      refine c_set 43 (ci hw12) ?_
      replace h := H.inl h
      exact h n5 _ _ rfl (by kernel_rfl) (by kernel_rfl)
    · intro n5 u q10 h
      refine c_seq ?_
      refine r_start ?_
      refine p 1 ?_
      refine rend ?_
      refine c_seq ?_
      refine c_no q10 ?_
      refine cx ?_
      replace h := H.done h
      exact hj7 n5 _ _ h (by kernel_rfl) (by kernel_rfl)
  intro n6 u h
  refine c_seq ?_
  refine r_start ?_
  refine p 3 ?_
  refine rend ?_
  replace h := H.done h
  subst h
  exact ret func41 rfl (vs := [.int .i64 n6, .bool true]) (.tmp (by kernel_rfl) (.tmp (by kernel_rfl) .nil)) rfl (fun W S => ⟨rfl, S.below⟩)
theorem C.s_DrawHandDistance {fu : Nat} {a0 : (List Int)} {A0 : Option Addr} {k0 : Nat} {r : (Hand × Hand)} (w : World) (h : X.s_DrawHandDistance fu a0 = some r) (h0 : RdT (eI .u8) w (.slice A0 (List.length a0) k0) a0) : Calls prog 42 #[.slice A0 (List.length a0) k0] w (Ret w (.tuple #[.agg (eHand r.1).toArray, .agg (eHand r.2).toArray])) := by
  refine calls (M := no) (args := [.slice A0 (List.length a0) k0]) func42 rfl ?_
  replace h : H (X.s_DrawHandDistance fu a0) (fun o => o = r) := H.mk h
  unfold X.s_DrawHandDistance at h
  refine c_seq ?_
  refine r_start ?_
  refine xx rfl (x_new (eHand zHand) fun g0_0 => ?_)
  refine xx rfl (x_new (eHand zHand) fun g0_1 => ?_)
  refine rend ?_
  refine c_seq ?_
  refine r_start ?_
  refine p 2 ?_
  refine xx rfl (x_box [.slice A0 (List.length a0) k0, .int .i64 0, .int .u64 0] fun g1_2 => ?_)
  refine p 1 ?_
  refine rend ?_
  refine c_seq ?_
  refine r_start ?_
  refine p 1 ?_
  obtain ⟨v2_1, hv2_1, h⟩ := H.call h
  refine xx rfl (e_cq (cs' := [.slice A0 (List.length a0) k0, .int .i64 v2_1.2.1, .int .u64 v2_1.2.2]) (v := .agg (eHand v2_1.1).toArray) 2 [.pointer (some ⟨g1_2, 0, none⟩)] func88 (fun W S => C.s_l1Cur_anyHand W hv2_1 (S.bx 2) ((s_arg h0).out W S) (ap_arg h0 S 2)) ?_)
  refine xx rfl (x_new (eHand zHand) fun g2_2 => ?_)
  refine xx rfl (x_sto 3 g2_2 0 (eHand v2_1.1) ?_)
  refine rend ?_
  refine c_seq ?_
  refine c_seq ?_
  refine r_start ?_
  refine p 1 ?_
  obtain ⟨v3_1, hv3_1, h⟩ := H.call h
  refine xx rfl (e_cq (cs' := [.slice A0 (List.length a0) k0, .int .i64 v3_1.2.1, .int .u64 v3_1.2.2]) (v := .bool v3_1.1) 2 [.pointer (some ⟨g1_2, 0, none⟩), .int .i64 2] func90 (fun W S => C.s_l1Cur_one W hv3_1 (S.bx 2) ((s_arg h0).out W S) (ap_arg h0 S 2)) ?_)
  refine rend ?_
  refine c_or v3_1.1 (fun q1 => ?_) (fun q1 => ?_)
  · replace h := H.t q1 h
    refine c_seq ?_
    refine r_start ?_
    refine xq rfl (y_load (.agg (eHand v2_1.1).toArray) 3 g2_2 0) ?_
    refine xx rfl (x_new (eHand zHand) fun g4_1 => ?_)
    refine xx rfl (x_sto 4 g4_1 0 (eHand v2_1.1) ?_)
    refine rend ?_
    refine c_seq ?_
    refine c_seq ?_
    refine r_start ?_
    refine p 1 ?_
    obtain ⟨v5_1, hv5_1, h⟩ := H.call h
    refine xx rfl (e_cq (cs' := [.slice A0 (List.length a0) k0, .int .i64 v5_1.2.1, .int .u64 v5_1.2.2]) (v := .int .i64 v5_1.1) 2 [.pointer (some ⟨g1_2, 0, none⟩), .int .i64 3] func123 (fun W S => C.s_l1Cur_pick W hv5_1 (S.bx 2) ((s_arg h0).out W S) (ap_arg h0 S 2)) ?_)
    refine rend ?_
    refine c_block ?_
    refine c_seq ?_
    refine r_start ?_
    refine p 2 ?_
    refine rend ?_
    refine c_or (v5_1.1 == 0) (fun q2 => ?_) (fun q2 => ?_)
    · replace h := H.t q2 h
      refine r_start ?_
      refine p 1 ?_
      obtain ⟨v7_1, hv7_1, h⟩ := H.call h
      refine xx rfl (e_cq (cs' := [.slice A0 (List.length a0) k0, .int .i64 v7_1.2.1, .int .u64 v7_1.2.2]) (v := .agg (ePlace v7_1.1).toArray) 2 [.pointer (some ⟨g1_2, 0, none⟩)] func124 (fun W S => C.s_l1Cur_place W hv7_1 (S.bx 2) ((s_arg h0).out W S) (ap_arg h0 S 2)) ?_)
      refine p 1 ?_
      refine xx rfl (x_sto 4 g4_1 8 (eHand ({ v2_1.1 with Place := v7_1.1 })) ?_)
      refine rend ?_
      refine c_inb ?_
      refine c_seq ?_
      refine pick [2, 3, 4, 0, 1] [box g1_2 92 [.slice A0 (List.length a0) k0, .int .i64 v7_1.2.1, .int .u64 v7_1.2.2], box g2_2 33 (eHand v2_1.1), box g4_1 33 (eHand ({ v2_1.1 with Place := v7_1.1 })), box g0_0 33 (eHand zHand), box g0_1 33 (eHand zHand)] ?_
      refine as_startN 4 3 4 ?_
      refine aq 0 rfl (y_load (.agg (eHand v2_1.1).toArray) 1 g2_2 0) ?_
      refine aq 1 rfl (y_load (.agg (eHand ({ v2_1.1 with Place := v7_1.1 })).toArray) 2 g4_1 0) ?_
      refine ax 2 rfl (x_sto 3 g0_0 0 (eHand v2_1.1) ⟨.inr (by kernel_rfl), ?_⟩)
      refine ax 3 rfl (x_sto 4 g0_1 0 (eHand ({ v2_1.1 with Place := v7_1.1 })) ⟨.inr (by kernel_rfl), ?_⟩)
      refine a_done ?_
      refine pick [3, 4, 0, 1, 2] [box g0_0 33 (eHand v2_1.1), box g0_1 33 (eHand ({ v2_1.1 with Place := v7_1.1 })), box g1_2 92 [.slice A0 (List.length a0) k0, .int .i64 v7_1.2.1, .int .u64 v7_1.2.2], box g2_2 33 (eHand v2_1.1), box g4_1 33 (eHand ({ v2_1.1 with Place := v7_1.1 }))] ?_
      replace h := H.done h
      subst h
      exact ret func42 rfl (vs := [.agg (eHand v2_1.1).toArray, .agg (eHand ({ v2_1.1 with Place := v7_1.1 })).toArray]) (.cell 0 g0_0 rfl (by kernel_rfl) (by kernel_rfl) (.cell 1 g0_1 rfl (by kernel_rfl) (by kernel_rfl) .nil)) rfl (fun W S => ⟨rfl, S.below⟩)
    replace h := H.f q2 h
    refine c_seq ?_
    refine r_start ?_
    refine p 2 ?_
    refine rend ?_
    refine c_or (v5_1.1 == 1) (fun q3 => ?_) (fun q3 => ?_)
    · replace h := H.t q3 h
      refine r_start ?_
      refine p 1 ?_
      obtain ⟨v9_1, hv9_1, h⟩ := H.call h
      refine xx rfl (e_cq (cs' := [.slice A0 (List.length a0) k0, .int .i64 v9_1.2.1, .int .u64 v9_1.2.2]) (v := .agg (eMove v9_1.1).toArray) 2 [.pointer (some ⟨g1_2, 0, none⟩)] func109 (fun W S => C.s_l1Cur_move W hv9_1 (S.bx 2) ((s_arg h0).out W S) (ap_arg h0 S 2)) ?_)
      refine p 1 ?_
      refine xx rfl (x_sto 4 g4_1 11 (eHand ({ v2_1.1 with Move := v9_1.1 })) ?_)
      refine rend ?_
      refine c_inb ?_
      refine c_seq ?_
      refine pick [2, 3, 4, 0, 1] [box g1_2 92 [.slice A0 (List.length a0) k0, .int .i64 v9_1.2.1, .int .u64 v9_1.2.2], box g2_2 33 (eHand v2_1.1), box g4_1 33 (eHand ({ v2_1.1 with Move := v9_1.1 })), box g0_0 33 (eHand zHand), box g0_1 33 (eHand zHand)] ?_
      refine as_startN 4 3 4 ?_
      refine aq 0 rfl (y_load (.agg (eHand v2_1.1).toArray) 1 g2_2 0) ?_
      refine aq 1 rfl (y_load (.agg (eHand ({ v2_1.1 with Move := v9_1.1 })).toArray) 2 g4_1 0) ?_
      refine ax 2 rfl (x_sto 3 g0_0 0 (eHand v2_1.1) ⟨.inr (by kernel_rfl), ?_⟩)
      refine ax 3 rfl (x_sto 4 g0_1 0 (eHand ({ v2_1.1 with Move := v9_1.1 })) ⟨.inr (by kernel_rfl), ?_⟩)
      refine a_done ?_
      refine pick [3, 4, 0, 1, 2] [box g0_0 33 (eHand v2_1.1), box g0_1 33 (eHand ({ v2_1.1 with Move := v9_1.1 })), box g1_2 92 [.slice A0 (List.length a0) k0, .int .i64 v9_1.2.1, .int .u64 v9_1.2.2], box g2_2 33 (eHand v2_1.1), box g4_1 33 (eHand ({ v2_1.1 with Move := v9_1.1 }))] ?_
      replace h := H.done h
      subst h
      exact ret func42 rfl (vs := [.agg (eHand v2_1.1).toArray, .agg (eHand ({ v2_1.1 with Move := v9_1.1 })).toArray]) (.cell 0 g0_0 rfl (by kernel_rfl) (by kernel_rfl) (.cell 1 g0_1 rfl (by kernel_rfl) (by kernel_rfl) .nil)) rfl (fun W S => ⟨rfl, S.below⟩)
    replace h := H.f q3 h
    refine c_skip ?_
    refine c_inb ?_
    refine c_seq ?_
    refine pick [2, 3, 4, 0, 1] [box g1_2 92 [.slice A0 (List.length a0) k0, .int .i64 v5_1.2.1, .int .u64 v5_1.2.2], box g2_2 33 (eHand v2_1.1), box g4_1 33 (eHand v2_1.1), box g0_0 33 (eHand zHand), box g0_1 33 (eHand zHand)] ?_
    refine as_startN 4 3 4 ?_
    refine aq 0 rfl (y_load (.agg (eHand v2_1.1).toArray) 1 g2_2 0) ?_
    refine aq 1 rfl (y_load (.agg (eHand v2_1.1).toArray) 2 g4_1 0) ?_
    refine ax 2 rfl (x_sto 3 g0_0 0 (eHand v2_1.1) ⟨.inr (by kernel_rfl), ?_⟩)
    refine ax 3 rfl (x_sto 4 g0_1 0 (eHand v2_1.1) ⟨.inr (by kernel_rfl), ?_⟩)
    refine a_done ?_
    refine pick [3, 4, 0, 1, 2] [box g0_0 33 (eHand v2_1.1), box g0_1 33 (eHand v2_1.1), box g1_2 92 [.slice A0 (List.length a0) k0, .int .i64 v5_1.2.1, .int .u64 v5_1.2.2], box g2_2 33 (eHand v2_1.1), box g4_1 33 (eHand v2_1.1)] ?_
    replace h := H.done h
    subst h
    exact ret func42 rfl (vs := [.agg (eHand v2_1.1).toArray, .agg (eHand v2_1.1).toArray]) (.cell 0 g0_0 rfl (by kernel_rfl) (by kernel_rfl) (.cell 1 g0_1 rfl (by kernel_rfl) (by kernel_rfl) .nil)) rfl (fun W S => ⟨rfl, S.below⟩)
  replace h := H.f q1 h
  refine c_skip ?_
  refine c_seq ?_
  refine pick [0, 1, 3, 2] [box g0_0 33 (eHand zHand), box g0_1 33 (eHand zHand), box g2_2 33 (eHand v2_1.1), box g1_2 92 [.slice A0 (List.length a0) k0, .int .i64 v3_1.2.1, .int .u64 v3_1.2.2]] ?_
  refine as_startN 3 3 5 ?_
  refine aq 0 rfl (y_load (.agg (eHand v2_1.1).toArray) 2 g2_2 0) ?_
  refine ap 1 1 ?_
  obtain ⟨v11_2, hv11_2, h⟩ := H.call h
  refine ax 2 rfl (e_cq (cs' := [.slice A0 (List.length a0) k0, .int .i64 v11_2.2.1, .int .u64 v11_2.2.2]) (v := .agg (eHand v11_2.1).toArray) 3 [.pointer (some ⟨g1_2, 0, none⟩)] func88 (fun W S => C.s_l1Cur_anyHand W hv11_2 (S.bx 3) ((s_arg h0).out W S) (ap_arg h0 S 3)) ⟨.inr (by kernel_rfl), ?_⟩)
  refine ax 3 rfl (x_sto 0 g0_0 0 (eHand v2_1.1) ⟨.inl (by kernel_rfl), ?_⟩)
  refine ax 4 rfl (x_sto 1 g0_1 0 (eHand v11_2.1) ⟨.inl (by kernel_rfl), ?_⟩)
  refine a_done ?_
  refine pick [0, 1, 3, 2] [box g0_0 33 (eHand v2_1.1), box g0_1 33 (eHand v11_2.1), box g1_2 92 [.slice A0 (List.length a0) k0, .int .i64 v11_2.2.1, .int .u64 v11_2.2.2], box g2_2 33 (eHand v2_1.1)] ?_
  replace h := H.done h
  subst h
  exact ret func42 rfl (vs := [.agg (eHand v2_1.1).toArray, .agg (eHand v11_2.1).toArray]) (.cell 0 g0_0 rfl (by kernel_rfl) (by kernel_rfl) (.cell 1 g0_1 rfl (by kernel_rfl) (by kernel_rfl) .nil)) rfl (fun W S => ⟨rfl, S.below⟩)
theorem C.i_HandDistance {a0 : Hand} {a1 : Hand} {r : (Int × Bool)} (w : World) (h : X.i_HandDistance a0 a1 = some r) : Calls prog 43 #[.agg (eHand a0).toArray, .agg (eHand a1).toArray] w (Ret w (.tuple #[.int .i64 r.1, .bool r.2])) := by
  refine calls (M := no) (args := [.agg (eHand a0).toArray, .agg (eHand a1).toArray]) func43 rfl ?_
  replace h : H (X.i_HandDistance a0 a1) (fun o => o = r) := H.mk h
  unfold X.i_HandDistance at h
  refine c_seq ?_
  refine r_start ?_
  refine xx rfl (x_box (eHand a0) fun g0_0 => ?_)
  refine xx rfl (x_box (eHand a1) fun g0_1 => ?_)
  refine p 2 ?_
  refine rend ?_
  refine c_seq ?_
  refine c_seq ?_
  refine r_start ?_
  refine xq rfl (y_load (.agg (eHand a0).toArray) 0 g0_0 0) ?_
  obtain ⟨v1_1, hv1_1, h⟩ := H.call h
  refine xq rfl (y_call [.agg (eHand a0).toArray] (.bool v1_1) func14 (fun W S => C.i_IsHand W hv1_1)) ?_
  refine p 2 ?_
  refine br (!v1_1) (fun q1 => ?_) (fun q1 => ?_)
  · replace h := H.t q1 h
    refine o_set 9 (congrArg Value.bool q1) ?_
    refine p 4 ?_
    refine rend ?_
    refine c_t (by kernel_rfl) ?_
    refine c_seq ?_
    refine r_start ?_
    refine p 2 ?_
    refine rend ?_
    replace h := H.done h
    subst h
    exact ret func43 rfl (vs := [.int .i64 0, .bool false]) (.tmp (by kernel_rfl) (.tmp (by kernel_rfl) .nil)) rfl (fun W S => ⟨rfl, S.below⟩)
  replace h := H.f q1 h
  refine o_set 9 (congrArg Value.bool q1) ?_
  refine xq rfl (y_load (.agg (eHand a1).toArray) 1 g0_1 0) ?_
  obtain ⟨v1_5, hv1_5, h⟩ := H.call h
  refine xq rfl (y_call [.agg (eHand a1).toArray] (.bool v1_5) func14 (fun W S => C.i_IsHand W hv1_5)) ?_
  refine p 2 ?_
  refine rend ?_
  refine c_or (!v1_5) (fun q2 => ?_) (fun q2 => ?_)
  · replace h := H.t q2 h
    refine c_seq ?_
    refine r_start ?_
    refine p 2 ?_
    refine rend ?_
    replace h := H.done h
    subst h
    exact ret func43 rfl (vs := [.int .i64 0, .bool false]) (.tmp (by kernel_rfl) (.tmp (by kernel_rfl) .nil)) rfl (fun W S => ⟨rfl, S.below⟩)
  replace h := H.f q2 h
  refine c_skip ?_
  refine c_seq ?_
  refine r_start ?_
  refine xq rfl (y_load (.agg (eHand a0).toArray) 0 g0_0 0) ?_
  refine xq rfl (y_load (.agg (eHand a1).toArray) 1 g0_1 0) ?_
  obtain ⟨v3_2, hv3_2, h⟩ := H.call h
  refine xq rfl (y_call [.agg (eHand a0).toArray, .agg (eHand a1).toArray] (.int .i64 v3_2) func125 (fun W S => C.i_Hand_distance W hv3_2)) ?_
  refine p 2 ?_
  refine rend ?_
  replace h := H.done h
  subst h
  exact ret func43 rfl (vs := [.int .i64 v3_2, .bool true]) (.tmp (by kernel_rfl) (.tmp (by kernel_rfl) .nil)) rfl (fun W S => ⟨rfl, S.below⟩)
theorem C.s_HandDistance {fu : Nat} {a0 : Hand} {a1 : Hand} {r : (Int × Bool)} (w : World) (h : X.s_HandDistance fu a0 a1 = some r) : Calls prog 44 #[.agg (eHand a0).toArray, .agg (eHand a1).toArray] w (Ret w (.tuple #[.int .i64 r.1, .bool r.2])) := by
  refine calls (M := no) (args := [.agg (eHand a0).toArray, .agg (eHand a1).toArray]) func44 rfl ?_
  replace h : H (X.s_HandDistance fu a0 a1) (fun o => o = r) := H.mk h
  unfold X.s_HandDistance at h
  refine c_seq ?_
  refine r_start ?_
  refine xx rfl (x_box (eHand a0) fun g0_0 => ?_)
  refine xx rfl (x_box (eHand a1) fun g0_1 => ?_)
  refine p 2 ?_
  refine rend ?_
  refine c_seq ?_
  refine c_seq ?_
  refine r_start ?_
  refine xq rfl (y_load (.agg (eHand a0).toArray) 0 g0_0 0) ?_
  obtain ⟨v1_1, hv1_1, h⟩ := H.call h
  refine xq rfl (y_call [.agg (eHand a0).toArray] (.bool v1_1) func95 (fun W S => C.s_siHand W hv1_1)) ?_
  refine p 2 ?_
  refine br (!v1_1) (fun q1 => ?_) (fun q1 => ?_)
  · replace h := H.t q1 h
    refine o_set 9 (congrArg Value.bool q1) ?_
    refine p 4 ?_
    refine rend ?_
    refine c_t (by kernel_rfl) ?_
    refine c_seq ?_
    refine r_start ?_
    refine p 2 ?_
    refine rend ?_
    replace h := H.done h
    subst h
    exact ret func44 rfl (vs := [.int .i64 0, .bool false]) (.tmp (by kernel_rfl) (.tmp (by kernel_rfl) .nil)) rfl (fun W S => ⟨rfl, S.below⟩)
  replace h := H.f q1 h
  refine o_set 9 (congrArg Value.bool q1) ?_
  refine xq rfl (y_load (.agg (eHand a1).toArray) 1 g0_1 0) ?_
  obtain ⟨v1_5, hv1_5, h⟩ := H.call h
  refine xq rfl (y_call [.agg (eHand a1).toArray] (.bool v1_5) func95 (fun W S => C.s_siHand W hv1_5)) ?_
  refine p 2 ?_
  refine rend ?_
  refine c_or (!v1_5) (fun q2 => ?_) (fun q2 => ?_)
  · replace h := H.t q2 h
    refine c_seq ?_
    refine r_start ?_
    refine p 2 ?_
    refine rend ?_
    replace h := H.done h
    subst h
    exact ret func44 rfl (vs := [.int .i64 0, .bool false]) (.tmp (by kernel_rfl) (.tmp (by kernel_rfl) .nil)) rfl (fun W S => ⟨rfl, S.below⟩)
  replace h := H.f q2 h
  refine c_skip ?_
  refine c_seq ?_
  refine r_start ?_
  refine xq rfl (y_load (.agg (eHand a0).toArray) 0 g0_0 0) ?_
  refine xq rfl (y_load (.agg (eHand a1).toArray) 1 g0_1 0) ?_
  obtain ⟨v3_2, hv3_2, h⟩ := H.call h
  refine xq rfl (y_call [.agg (eHand a0).toArray, .agg (eHand a1).toArray] (.int .i64 v3_2) func126 (fun W S => C.s_feHand W hv3_2)) ?_
  refine p 2 ?_
  refine rend ?_
  replace h := H.done h
  subst h
  exact ret func44 rfl (vs := [.int .i64 v3_2, .bool true]) (.tmp (by kernel_rfl) (.tmp (by kernel_rfl) .nil)) rfl (fun W S => ⟨rfl, S.below⟩)
theorem C.s_DrawSameMove {fu : Nat} {a0 : (List Int)} {A0 : Option Addr} {k0 : Nat} {r : (Move × Move)} (w : World) (h : X.s_DrawSameMove fu a0 = some r) (h0 : RdT (eI .u8) w (.slice A0 (List.length a0) k0) a0) : Calls prog 127 #[.slice A0 (List.length a0) k0] w (Ret w (.tuple #[.agg (eMove r.1).toArray, .agg (eMove r.2).toArray])) := by
  refine calls (M := no) (args := [.slice A0 (List.length a0) k0]) func127 rfl ?_
  replace h : H (X.s_DrawSameMove fu a0) (fun o => o = r) := H.mk h
  unfold X.s_DrawSameMove at h
  refine c_seq ?_
  refine r_start ?_
  refine xx rfl (x_new (eMove zMove) fun g0_0 => ?_)
  refine xx rfl (x_new (eMove zMove) fun g0_1 => ?_)
  refine rend ?_
  refine c_seq ?_
  refine r_start ?_
  refine p 2 ?_
  refine xx rfl (x_box [.slice A0 (List.length a0) k0, .int .i64 0, .int .u64 0] fun g1_2 => ?_)
  refine p 1 ?_
  refine rend ?_
  refine c_seq ?_
  refine r_start ?_
  refine p 1 ?_
  obtain ⟨v2_1, hv2_1, h⟩ := H.call h
  refine xx rfl (e_cq (cs' := [.slice A0 (List.length a0) k0, .int .i64 v2_1.2.1, .int .u64 v2_1.2.2]) (v := .agg (eMove v2_1.1).toArray) 2 [.pointer (some ⟨g1_2, 0, none⟩)] func159 (fun W S => C.s_l1Cur_anyMove W hv2_1 (S.bx 2) ((s_arg h0).out W S) (ap_arg h0 S 2)) ?_)
  refine xx rfl (x_new (eMove zMove) fun g2_2 => ?_)
  refine xx rfl (x_sto 3 g2_2 0 (eMove v2_1.1) ?_)
  refine rend ?_
  refine c_seq ?_
  refine c_seq ?_
  refine r_start ?_
  refine xq rfl (y_load (.agg (eMove v2_1.1).toArray) 3 g2_2 0) ?_
  obtain ⟨v3_1, hv3_1, h⟩ := H.call h
  refine xq rfl (y_call [.agg (eMove v2_1.1).toArray] (.bool v3_1) func129 (fun W S => C.s_mvGood W hv3_1)) ?_
  refine p 1 ?_
  refine br v3_1 (fun q1 => ?_) (fun q1 => ?_)
  · replace h := H.t q1 h
    refine o_set 13 (congrArg Value.bool q1) ?_
    refine p 1 ?_
    obtain ⟨v3_4, hv3_4, h⟩ := H.call h
    refine xx rfl (e_cq (cs' := [.slice A0 (List.length a0) k0, .int .i64 v3_4.2.1, .int .u64 v3_4.2.2]) (v := .bool v3_4.1) 2 [.pointer (some ⟨g1_2, 0, none⟩), .int .i64 2] func90 (fun W S => C.s_l1Cur_one W hv3_4 (S.bx 2) ((s_arg h0).out W S) (ap_arg h0 S 2)) ?_)
    refine p 1 ?_
    refine rend ?_
    refine c_or v3_4.1 (fun q2 => ?_) (fun q2 => ?_)
    · replace h := H.t q2 h
      refine c_seq ?_
      refine pick [2, 3, 0, 1] [box g1_2 92 [.slice A0 (List.length a0) k0, .int .i64 v3_4.2.1, .int .u64 v3_4.2.2], box g2_2 31 (eMove v2_1.1), box g0_0 31 (eMove zMove), box g0_1 31 (eMove zMove)] ?_
      refine as_startN 5 2 5 ?_
      refine aq 0 rfl (y_load (.agg (eMove v2_1.1).toArray) 1 g2_2 0) ?_
      refine aq 1 rfl (y_load (.agg (eMove v2_1.1).toArray) 1 g2_2 0) ?_
      obtain ⟨v4_2, hv4_2, h⟩ := H.call h
      refine aq 2 rfl (y_call [.agg (eMove v2_1.1).toArray] (.agg (eMove v4_2).toArray) func163 (fun W S => C.s_mvNormal W hv4_2)) ?_
      refine ax 3 rfl (x_sto 2 g0_0 0 (eMove v2_1.1) ⟨.inr (by kernel_rfl), ?_⟩)
      refine ax 4 rfl (x_sto 3 g0_1 0 (eMove v4_2) ⟨.inr (by kernel_rfl), ?_⟩)
      refine a_done ?_
      refine pick [2, 3, 0, 1] [box g0_0 31 (eMove v2_1.1), box g0_1 31 (eMove v4_2), box g1_2 92 [.slice A0 (List.length a0) k0, .int .i64 v3_4.2.1, .int .u64 v3_4.2.2], box g2_2 31 (eMove v2_1.1)] ?_
      replace h := H.done h
      subst h
      exact ret func127 rfl (vs := [.agg (eMove v2_1.1).toArray, .agg (eMove v4_2).toArray]) (.cell 0 g0_0 rfl (by kernel_rfl) (by kernel_rfl) (.cell 1 g0_1 rfl (by kernel_rfl) (by kernel_rfl) .nil)) rfl (fun W S => ⟨rfl, S.below⟩)
    replace h := H.f q2 h
    refine c_skip ?_
    refine c_seq ?_
    refine pick [0, 1, 3, 2] [box g0_0 31 (eMove zMove), box g0_1 31 (eMove zMove), box g2_2 31 (eMove v2_1.1), box g1_2 92 [.slice A0 (List.length a0) k0, .int .i64 v3_4.2.1, .int .u64 v3_4.2.2]] ?_
    refine as_startN 3 3 5 ?_
    refine aq 0 rfl (y_load (.agg (eMove v2_1.1).toArray) 2 g2_2 0) ?_
    refine ap 1 1 ?_
    obtain ⟨v5_2, hv5_2, h⟩ := H.call h
    refine ax 2 rfl (e_cq (cs' := [.slice A0 (List.length a0) k0, .int .i64 v5_2.2.1, .int .u64 v5_2.2.2]) (v := .agg (eMove v5_2.1).toArray) 3 [.pointer (some ⟨g1_2, 0, none⟩)] func159 (fun W S => C.s_l1Cur_anyMove W hv5_2 (S.bx 3) ((s_arg h0).out W S) (ap_arg h0 S 3)) ⟨.inr (by kernel_rfl), ?_⟩)
    refine ax 3 rfl (x_sto 0 g0_0 0 (eMove v2_1.1) ⟨.inl (by kernel_rfl), ?_⟩)
    refine ax 4 rfl (x_sto 1 g0_1 0 (eMove v5_2.1) ⟨.inl (by kernel_rfl), ?_⟩)
    refine a_done ?_
    refine pick [0, 1, 3, 2] [box g0_0 31 (eMove v2_1.1), box g0_1 31 (eMove v5_2.1), box g1_2 92 [.slice A0 (List.length a0) k0, .int .i64 v5_2.2.1, .int .u64 v5_2.2.2], box g2_2 31 (eMove v2_1.1)] ?_
    replace h := H.done h
    subst h
    exact ret func127 rfl (vs := [.agg (eMove v2_1.1).toArray, .agg (eMove v5_2.1).toArray]) (.cell 0 g0_0 rfl (by kernel_rfl) (by kernel_rfl) (.cell 1 g0_1 rfl (by kernel_rfl) (by kernel_rfl) .nil)) rfl (fun W S => ⟨rfl, S.below⟩)
  replace h := H.f q1 h
  refine o_set 13 (congrArg Value.bool q1) ?_
  refine p 3 ?_
  refine rend ?_
  refine c_f (by kernel_rfl) ?_
  refine c_skip ?_
  refine c_seq ?_
  refine pick [0, 1, 3, 2] [box g0_0 31 (eMove zMove), box g0_1 31 (eMove zMove), box g2_2 31 (eMove v2_1.1), box g1_2 92 [.slice A0 (List.length a0) k0, .int .i64 v2_1.2.1, .int .u64 v2_1.2.2]] ?_
  refine as_startN 3 3 5 ?_
  refine aq 0 rfl (y_load (.agg (eMove v2_1.1).toArray) 2 g2_2 0) ?_
  refine ap 1 1 ?_
  obtain ⟨v5_2, hv5_2, h⟩ := H.call h
  refine ax 2 rfl (e_cq (cs' := [.slice A0 (List.length a0) k0, .int .i64 v5_2.2.1, .int .u64 v5_2.2.2]) (v := .agg (eMove v5_2.1).toArray) 3 [.pointer (some ⟨g1_2, 0, none⟩)] func159 (fun W S => C.s_l1Cur_anyMove W hv5_2 (S.bx 3) ((s_arg h0).out W S) (ap_arg h0 S 3)) ⟨.inr (by kernel_rfl), ?_⟩)
  refine ax 3 rfl (x_sto 0 g0_0 0 (eMove v2_1.1) ⟨.inl (by kernel_rfl), ?_⟩)
  refine ax 4 rfl (x_sto 1 g0_1 0 (eMove v5_2.1) ⟨.inl (by kernel_rfl), ?_⟩)
  refine a_done ?_
  refine pick [0, 1, 3, 2] [box g0_0 31 (eMove v2_1.1), box g0_1 31 (eMove v5_2.1), box g1_2 92 [.slice A0 (List.length a0) k0, .int .i64 v5_2.2.1, .int .u64 v5_2.2.2], box g2_2 31 (eMove v2_1.1)] ?_
  replace h := H.done h
  subst h
  exact ret func127 rfl (vs := [.agg (eMove v2_1.1).toArray, .agg (eMove v5_2.1).toArray]) (.cell 0 g0_0 rfl (by kernel_rfl) (by kernel_rfl) (.cell 1 g0_1 rfl (by kernel_rfl) (by kernel_rfl) .nil)) rfl (fun W S => ⟨rfl, S.below⟩)
theorem C.s_DrawStepDistance {fu : Nat} {a0 : (List Int)} {A0 : Option Addr} {k0 : Nat} {r : (Move × Move)} (w : World) (h : X.s_DrawStepDistance fu a0 = some r) (h0 : RdT (eI .u8) w (.slice A0 (List.length a0) k0) a0) : Calls prog 45 #[.slice A0 (List.length a0) k0] w (Ret w (.tuple #[.agg (eMove r.1).toArray, .agg (eMove r.2).toArray])) := by
  refine calls (M := no) (args := [.slice A0 (List.length a0) k0]) func45 rfl ?_
  replace h : H (X.s_DrawStepDistance fu a0) (fun o => o = r) := H.mk h
  unfold X.s_DrawStepDistance at h
  refine c_seq ?_
  refine r_start ?_
  refine xx rfl (x_new (eMove zMove) fun g0_0 => ?_)
  refine xx rfl (x_new (eMove zMove) fun g0_1 => ?_)
  refine rend ?_
  refine c_seq ?_
  refine r_start ?_
  refine p 1 ?_
  obtain ⟨v1_1, hv1_1, h⟩ := H.call h
  refine xq rfl (y_call [.slice A0 (List.length a0) k0] (.tuple #[.agg (eMove v1_1.1).toArray, .agg (eMove v1_1.2).toArray]) func127 (fun W S => C.s_DrawSameMove W hv1_1 ((s_arg h0).out W S))) ?_
  refine p 2 ?_
  refine xx rfl (x_sto 0 g0_0 0 (eMove v1_1.1) ?_)
  refine xx rfl (x_sto 1 g0_1 0 (eMove v1_1.2) ?_)
  refine rend ?_
  replace h := H.done h
  subst h
  exact ret func45 rfl (vs := [.agg (eMove v1_1.1).toArray, .agg (eMove v1_1.2).toArray]) (.cell 0 g0_0 rfl (by kernel_rfl) (by kernel_rfl) (.cell 1 g0_1 rfl (by kernel_rfl) (by kernel_rfl) .nil)) rfl (fun W S => ⟨rfl, S.below⟩)
theorem C.i_StepDistance {a0 : Move} {a1 : Move} {r : (Int × Bool)} (w : World) (h : X.i_StepDistance a0 a1 = some r) : Calls prog 46 #[.agg (eMove a0).toArray, .agg (eMove a1).toArray] w (Ret w (.tuple #[.int .i64 r.1, .bool r.2])) := by
  refine calls (M := no) (args := [.agg (eMove a0).toArray, .agg (eMove a1).toArray]) func46 rfl ?_
  replace h : H (X.i_StepDistance a0 a1) (fun o => o = r) := H.mk h
  unfold X.i_StepDistance at h
  refine c_seq ?_
  refine r_start ?_
  refine xx rfl (x_box (eMove a0) fun g0_0 => ?_)
  refine xx rfl (x_box (eMove a1) fun g0_1 => ?_)
  refine p 2 ?_
  refine rend ?_
  refine c_seq ?_
  refine c_seq ?_
  refine r_start ?_
  refine xq rfl (y_load (.agg (eMove a0).toArray) 0 g0_0 0) ?_
  obtain ⟨v1_1, hv1_1, h⟩ := H.call h
  refine xq rfl (y_call [.agg (eMove a0).toArray] (.bool v1_1) func100 (fun W S => C.i_IsMove W hv1_1)) ?_
  refine p 2 ?_
  refine br (!v1_1) (fun q1 => ?_) (fun q1 => ?_)
  · replace h := H.t q1 h
    refine o_set 9 (congrArg Value.bool q1) ?_
    refine p 4 ?_
    refine rend ?_
    refine c_t (by kernel_rfl) ?_
    refine c_seq ?_
    refine r_start ?_
    refine p 2 ?_
    refine rend ?_
    replace h := H.done h
    subst h
    exact ret func46 rfl (vs := [.int .i64 0, .bool false]) (.tmp (by kernel_rfl) (.tmp (by kernel_rfl) .nil)) rfl (fun W S => ⟨rfl, S.below⟩)
  replace h := H.f q1 h
  refine o_set 9 (congrArg Value.bool q1) ?_
  refine xq rfl (y_load (.agg (eMove a1).toArray) 1 g0_1 0) ?_
  obtain ⟨v1_5, hv1_5, h⟩ := H.call h
  refine xq rfl (y_call [.agg (eMove a1).toArray] (.bool v1_5) func100 (fun W S => C.i_IsMove W hv1_5)) ?_
  refine p 2 ?_
  refine rend ?_
  refine c_or (!v1_5) (fun q2 => ?_) (fun q2 => ?_)
  · replace h := H.t q2 h
    refine c_seq ?_
    refine r_start ?_
    refine p 2 ?_
    refine rend ?_
    replace h := H.done h
    subst h
    exact ret func46 rfl (vs := [.int .i64 0, .bool false]) (.tmp (by kernel_rfl) (.tmp (by kernel_rfl) .nil)) rfl (fun W S => ⟨rfl, S.below⟩)
  replace h := H.f q2 h
  refine c_skip ?_
  refine c_seq ?_
  refine as_start 7 7 ?_
  refine aq 0 rfl (y_load (.agg (eMove a0).toArray) 0 g0_0 0) ?_
  obtain ⟨v3_1, hv3_1, h⟩ := H.call h
  refine aq 1 rfl (y_call [.agg (eMove a0).toArray] (.string (bs v3_1)) func107 (fun W S => C.i_Move_all W hv3_1)) ?_
  refine aq 2 rfl (y_load (.agg (eMove a1).toArray) 1 g0_1 0) ?_
  obtain ⟨v3_3, hv3_3, h⟩ := H.call h
  refine aq 3 rfl (y_call [.agg (eMove a1).toArray] (.string (bs v3_3)) func107 (fun W S => C.i_Move_all W hv3_3)) ?_
  obtain ⟨v3_4, hv3_4, h⟩ := H.call h
  refine aq 4 rfl (y_call [.string (bs v3_1), .string (bs v3_3)] (.int .i64 v3_4) func128 (fun W S => C.i_stepDistance W hv3_4)) ?_
  refine ap 5 2 ?_
  refine a_done ?_
  replace h := H.done h
  subst h
  exact ret func46 rfl (vs := [.int .i64 v3_4, .bool true]) (.tmp (by kernel_rfl) (.tmp (by kernel_rfl) .nil)) rfl (fun W S => ⟨rfl, S.below⟩)
theorem C.s_StepDistance {fu : Nat} {a0 : Move} {a1 : Move} {r : (Int × Bool)} (w : World) (h : X.s_StepDistance fu a0 a1 = some r) : Calls prog 47 #[.agg (eMove a0).toArray, .agg (eMove a1).toArray] w (Ret w (.tuple #[.int .i64 r.1, .bool r.2])) := by
  refine calls (M := no) (args := [.agg (eMove a0).toArray, .agg (eMove a1).toArray]) func47 rfl ?_
  replace h : H (X.s_StepDistance fu a0 a1) (fun o => o = r) := H.mk h
  unfold X.s_StepDistance at h
  refine c_seq ?_
  refine r_start ?_
  refine xx rfl (x_box (eMove a0) fun g0_0 => ?_)
  refine xx rfl (x_box (eMove a1) fun g0_1 => ?_)
  refine p 2 ?_
  refine rend ?_
  refine c_seq ?_
  refine c_seq ?_
  refine r_start ?_
  refine xq rfl (y_load (.agg (eMove a0).toArray) 0 g0_0 0) ?_
  obtain ⟨v1_1, hv1_1, h⟩ := H.call h
  refine xq rfl (y_call [.agg (eMove a0).toArray] (.bool v1_1) func129 (fun W S => C.s_mvGood W hv1_1)) ?_
  refine p 2 ?_
  refine br (!v1_1) (fun q1 => ?_) (fun q1 => ?_)
  · replace h := H.t q1 h
    refine o_set 9 (congrArg Value.bool q1) ?_
    refine p 4 ?_
    refine rend ?_
    refine c_t (by kernel_rfl) ?_
    refine c_seq ?_
    refine r_start ?_
    refine p 2 ?_
    refine rend ?_
    replace h := H.done h
    subst h
    exact ret func47 rfl (vs := [.int .i64 0, .bool false]) (.tmp (by kernel_rfl) (.tmp (by kernel_rfl) .nil)) rfl (fun W S => ⟨rfl, S.below⟩)
  replace h := H.f q1 h
  refine o_set 9 (congrArg Value.bool q1) ?_
  refine xq rfl (y_load (.agg (eMove a1).toArray) 1 g0_1 0) ?_
  obtain ⟨v1_5, hv1_5, h⟩ := H.call h
  refine xq rfl (y_call [.agg (eMove a1).toArray] (.bool v1_5) func129 (fun W S => C.s_mvGood W hv1_5)) ?_
  refine p 2 ?_
  refine rend ?_
  refine c_or (!v1_5) (fun q2 => ?_) (fun q2 => ?_)
  · replace h := H.t q2 h
    refine c_seq ?_
    refine r_start ?_
    refine p 2 ?_
    refine rend ?_
    replace h := H.done h
    subst h
    exact ret func47 rfl (vs := [.int .i64 0, .bool false]) (.tmp (by kernel_rfl) (.tmp (by kernel_rfl) .nil)) rfl (fun W S => ⟨rfl, S.below⟩)
  replace h := H.f q2 h
  refine c_skip ?_
  refine c_seq ?_
  refine as_start 7 7 ?_
  refine aq 0 rfl (y_load (.agg (eMove a0).toArray) 0 g0_0 0) ?_
  obtain ⟨v3_1, hv3_1, h⟩ := H.call h
  refine aq 1 rfl (y_call [.agg (eMove a0).toArray] (.string (bs v3_1)) func106 (fun W S => C.s_mvAll W hv3_1)) ?_
  refine aq 2 rfl (y_load (.agg (eMove a1).toArray) 1 g0_1 0) ?_
  obtain ⟨v3_3, hv3_3, h⟩ := H.call h
  refine aq 3 rfl (y_call [.agg (eMove a1).toArray] (.string (bs v3_3)) func106 (fun W S => C.s_mvAll W hv3_3)) ?_
  obtain ⟨v3_4, hv3_4, h⟩ := H.call h
  refine aq 4 rfl (y_call [.string (bs v3_1), .string (bs v3_3)] (.int .i64 v3_4) func130 (fun W S => C.s_feSteps W hv3_4)) ?_
  refine ap 5 2 ?_
  refine a_done ?_
  replace h := H.done h
  subst h
  exact ret func47 rfl (vs := [.int .i64 v3_4, .bool true]) (.tmp (by kernel_rfl) (.tmp (by kernel_rfl) .nil)) rfl (fun W S => ⟨rfl, S.below⟩)
theorem C.s_AllSteps {fu : Nat} {a0 : Move} {r : (Str × Bool)} (w : World) (h : X.s_AllSteps fu a0 = some r) : Calls prog 49 #[.agg (eMove a0).toArray] w (Ret w (.tuple #[.string (bs r.1), .bool r.2])) := by
  refine calls (M := no) (args := [.agg (eMove a0).toArray]) func49 rfl ?_
  replace h : H (X.s_AllSteps fu a0) (fun o => o = r) := H.mk h
  unfold X.s_AllSteps at h
  refine c_seq ?_
  refine r_start ?_
  refine xx rfl (x_box (eMove a0) fun g0_0 => ?_)
  refine p 2 ?_
  refine rend ?_
  refine c_seq ?_
  refine c_seq ?_
  refine r_start ?_
  refine xq rfl (y_load (.agg (eMove a0).toArray) 0 g0_0 0) ?_
  obtain ⟨v1_1, hv1_1, h⟩ := H.call h
  refine xq rfl (y_call [.agg (eMove a0).toArray] (.bool v1_1) func129 (fun W S => C.s_mvGood W hv1_1)) ?_
  refine p 1 ?_
  refine rend ?_
  refine c_or (!v1_1) (fun q1 => ?_) (fun q1 => ?_)
  · replace h := H.t q1 h
    refine c_seq ?_
    refine r_start ?_
    refine p 2 ?_
    refine rend ?_
    replace h := H.done h
    subst h
    exact ret func49 rfl (vs := [.string (bs ([] : Str)), .bool false]) (.tmp (by kernel_rfl) (.tmp (by kernel_rfl) .nil)) rfl (fun W S => ⟨rfl, S.below⟩)
  replace h := H.f q1 h
  refine c_skip ?_
  refine c_seq ?_
  refine r_start ?_
  refine xq rfl (y_load (.agg (eMove a0).toArray) 0 g0_0 0) ?_
  obtain ⟨v3_1, hv3_1, h⟩ := H.call h
  refine xq rfl (y_call [.agg (eMove a0).toArray] (.string (bs v3_1)) func106 (fun W S => C.s_mvAll W hv3_1)) ?_
  refine p 2 ?_
  refine rend ?_
  replace h := H.done h
  subst h
  exact ret func49 rfl (vs := [.string (bs v3_1), .bool true]) (.tmp (by kernel_rfl) (.tmp (by kernel_rfl) .nil)) rfl (fun W S => ⟨rfl, S.below⟩)
theorem C.l_qAbs {a0 : Int} {r : Int} (w : World) (h : X.l_qAbs a0 = some r) : Calls prog 50 #[.int .i64 a0] w (Ret w (.int .i64 r)) := by
  refine calls (M := no) (args := [.int .i64 a0]) func50 rfl ?_
  replace h : H (X.l_qAbs a0) (fun o => o = r) := H.mk h
  unfold X.l_qAbs at h
  refine c_seq ?_
  refine r_start ?_
  refine p 1 ?_
  refine rend ?_
  refine c_seq ?_
  refine c_seq ?_
  refine r_start ?_
  refine p 2 ?_
  refine rend ?_
  refine c_or (decide (a0 < 0)) (fun q1 => ?_) (fun q1 => ?_)
  · replace h := H.t q1 h
    refine c_seq ?_
    refine r_start ?_
    refine p 3 ?_
    refine rend ?_
    replace h := H.done h
    subst h
    exact ret func50 rfl (vs := [.int .i64 (wr (0 - a0))]) (.tmp (by kernel_rfl) .nil) rfl (fun W S => ⟨rfl, S.below⟩)
  replace h := H.f q1 h
  refine c_skip ?_
  refine c_seq ?_
  refine r_start ?_
  refine p 2 ?_
  refine rend ?_
  replace h := H.done h
  subst h
  exact ret func50 rfl (vs := [.int .i64 a0]) (.tmp (by kernel_rfl) .nil) rfl (fun W S => ⟨rfl, S.below⟩)
theorem C.l_FnDistances {fu : Nat} {a0 : (List Int)} {A0 : Option Addr} {k0 : Nat} {a1 : (List Int)} {A1 : Option Addr} {k1 : Nat} {r : Bool} (w : World) (h : X.l_FnDistances fu a0 a1 = some r) (h0 : RdT (eI .u8) w (.slice A0 (List.length a0) k0) a0) (h1 : RdT (eI .u8) w (.slice A1 (List.length a1) k1) a1) : Calls prog 5 #[.slice A0 (List.length a0) k0, .slice A1 (List.length a1) k1] w (Ret w (.bool r)) := by
  refine calls (M := no) (args := [.slice A0 (List.length a0) k0, .slice A1 (List.length a1) k1]) func5 rfl ?_
  replace h : H (X.l_FnDistances fu a0 a1) (fun o => o = r) := H.mk h
  unfold X.l_FnDistances at h
  refine c_seq ?_
  refine r_start ?_
  refine p 1 ?_
  refine rend ?_
  refine c_seq ?_
  refine c_seq ?_
  refine r_start ?_
  refine p 6 ?_
  refine rend ?_
  refine c_or (decide ((wr ((List.length a0 : Int) + (List.length a1 : Int))) > 1048576)) (fun q1 => ?_) (fun q1 => ?_)
  · replace h := H.t q1 h
    refine c_seq ?_
    refine r_start ?_
    refine p 1 ?_
    refine rend ?_
    replace h := H.done h
    subst h
    exact ret func5 rfl (vs := [.bool true]) (.tmp (by kernel_rfl) .nil) rfl (fun W S => ⟨rfl, S.below⟩)
  replace h := H.f q1 h
  refine c_skip ?_
  refine c_seq ?_
  refine r_start ?_
  refine p 1 ?_
  obtain ⟨v3_1, hv3_1, h⟩ := H.call h
  refine xq rfl (y_call [.slice A0 (List.length a0) k0] (.tuple #[.agg (eSign v3_1.1).toArray, .agg (eSign v3_1.2).toArray]) func37 (fun W S => C.s_DrawSignDistance W hv3_1 ((s_arg h0).out W S))) ?_
  refine p 3 ?_
  refine xx rfl (x_new (eSign zSign) fun g3_5 => ?_)
  refine xx rfl (x_new (eSign zSign) fun g3_6 => ?_)
  refine xx rfl (x_sto 0 g3_5 0 (eSign v3_1.1) ?_)
  refine xx rfl (x_sto 1 g3_6 0 (eSign v3_1.2) ?_)
  refine rend ?_
  refine c_seq ?_
  refine r_start ?_
  refine xq rfl (y_load (.agg (eSign v3_1.1).toArray) 0 g3_5 0) ?_
  refine xq rfl (y_load (.agg (eSign v3_1.2).toArray) 1 g3_6 0) ?_
  obtain ⟨v4_2, hv4_2, h⟩ := H.call h
  refine xq rfl (y_call [.agg (eSign v3_1.1).toArray, .agg (eSign v3_1.2).toArray] (.tuple #[.int .i64 v4_2.1, .bool v4_2.2]) func38 (fun W S => C.i_SignDistance W hv4_2)) ?_
  refine p 5 ?_
  refine rend ?_
  refine c_seq ?_
  refine r_start ?_
  refine xq rfl (y_load (.agg (eSign v3_1.1).toArray) 0 g3_5 0) ?_
  refine xq rfl (y_load (.agg (eSign v3_1.2).toArray) 1 g3_6 0) ?_
  obtain ⟨v5_2, hv5_2, h⟩ := H.call h
  refine xq rfl (y_call [.agg (eSign v3_1.1).toArray, .agg (eSign v3_1.2).toArray] (.tuple #[.int .i64 v5_2.1, .bool v5_2.2]) func39 (fun W S => C.s_SignDistance W hv5_2)) ?_
  refine p 5 ?_
  refine rend ?_
  refine c_seq ?_
  refine r_start ?_
  refine xq rfl (y_load (.agg (eSign v3_1.1).toArray) 0 g3_5 0) ?_
  refine xq rfl (y_load (.agg (eSign v3_1.2).toArray) 1 g3_6 0) ?_
  obtain ⟨v6_2, hv6_2, h⟩ := H.call h
  refine xq rfl (y_call [.agg (eSign v3_1.1).toArray, .agg (eSign v3_1.2).toArray] (.tuple #[.int .i64 v6_2.1, .bool v6_2.2]) func40 (fun W S => C.i_CommonParts W hv6_2)) ?_
  refine p 5 ?_
  refine rend ?_
  refine c_seq ?_
  refine r_start ?_
  refine xq rfl (y_load (.agg (eSign v3_1.1).toArray) 0 g3_5 0) ?_
  refine xq rfl (y_load (.agg (eSign v3_1.2).toArray) 1 g3_6 0) ?_
  obtain ⟨v7_2, hv7_2, h⟩ := H.call h
  refine xq rfl (y_call [.agg (eSign v3_1.1).toArray, .agg (eSign v3_1.2).toArray] (.tuple #[.int .i64 v7_2.1, .bool v7_2.2]) func41 (fun W S => C.s_CommonParts W hv7_2)) ?_
  refine p 5 ?_
  refine rend ?_
  refine c_seq ?_
  refine r_start ?_
  refine p 1 ?_
  obtain ⟨v8_1, hv8_1, h⟩ := H.call h
  refine xq rfl (y_call [.slice A1 (List.length a1) k1] (.tuple #[.agg (eHand v8_1.1).toArray, .agg (eHand v8_1.2).toArray]) func42 (fun W S => C.s_DrawHandDistance W hv8_1 ((s_arg h1).out W S))) ?_
  refine p 3 ?_
  refine xx rfl (x_new (eHand zHand) fun g8_5 => ?_)
  refine xx rfl (x_new (eHand zHand) fun g8_6 => ?_)
  refine xx rfl (x_sto 2 g8_5 0 (eHand v8_1.1) ?_)
  refine xx rfl (x_sto 3 g8_6 0 (eHand v8_1.2) ?_)
  refine rend ?_
  refine c_seq ?_
  refine r_start ?_
  refine xq rfl (y_load (.agg (eHand v8_1.1).toArray) 2 g8_5 0) ?_
  refine xq rfl (y_load (.agg (eHand v8_1.2).toArray) 3 g8_6 0) ?_
  obtain ⟨v9_2, hv9_2, h⟩ := H.call h
  refine xq rfl (y_call [.agg (eHand v8_1.1).toArray, .agg (eHand v8_1.2).toArray] (.tuple #[.int .i64 v9_2.1, .bool v9_2.2]) func43 (fun W S => C.i_HandDistance W hv9_2)) ?_
  refine p 5 ?_
  refine rend ?_
  refine c_seq ?_
  refine r_start ?_
  refine xq rfl (y_load (.agg (eHand v8_1.1).toArray) 2 g8_5 0) ?_
  refine xq rfl (y_load (.agg (eHand v8_1.2).toArray) 3 g8_6 0) ?_
  obtain ⟨v10_2, hv10_2, h⟩ := H.call h
  refine xq rfl (y_call [.agg (eHand v8_1.1).toArray, .agg (eHand v8_1.2).toArray] (.tuple #[.int .i64 v10_2.1, .bool v10_2.2]) func44 (fun W S => C.s_HandDistance W hv10_2)) ?_
  refine p 5 ?_
  refine rend ?_
  refine c_seq ?_
  refine r_start ?_
  refine p 1 ?_
  obtain ⟨v11_1, hv11_1, h⟩ := H.call h
  refine xq rfl (y_call [.slice A1 (List.length a1) k1] (.tuple #[.agg (eMove v11_1.1).toArray, .agg (eMove v11_1.2).toArray]) func45 (fun W S => C.s_DrawStepDistance W hv11_1 ((s_arg h1).out W S))) ?_
  refine p 3 ?_
  refine xx rfl (x_new (eMove zMove) fun g11_5 => ?_)
  refine xx rfl (x_new (eMove zMove) fun g11_6 => ?_)
  refine xx rfl (x_sto 4 g11_5 0 (eMove v11_1.1) ?_)
  refine xx rfl (x_sto 5 g11_6 0 (eMove v11_1.2) ?_)
  refine rend ?_
  refine c_seq ?_
  refine r_start ?_
  refine xq rfl (y_load (.agg (eMove v11_1.1).toArray) 4 g11_5 0) ?_
  refine xq rfl (y_load (.agg (eMove v11_1.2).toArray) 5 g11_6 0) ?_
  obtain ⟨v12_2, hv12_2, h⟩ := H.call h
  refine xq rfl (y_call [.agg (eMove v11_1.1).toArray, .agg (eMove v11_1.2).toArray] (.tuple #[.int .i64 v12_2.1, .bool v12_2.2]) func46 (fun W S => C.i_StepDistance W hv12_2)) ?_
  refine p 5 ?_
  refine rend ?_
  refine frg (fun u => (jk u 0 5 (.pointer (some ⟨g3_5, 0, none⟩) :: .pointer (some ⟨g3_6, 0, none⟩) :: .int .i64 v4_2.1 :: .bool v4_2.2 :: .int .i64 v5_2.1 :: .bool v5_2.2 :: .int .i64 v6_2.1 :: .bool v6_2.2 :: .int .i64 v7_2.1 :: .bool v7_2.2 :: .pointer (some ⟨g8_5, 0, none⟩) :: .pointer (some ⟨g8_6, 0, none⟩) :: .int .i64 v9_2.1 :: .bool v9_2.2 :: .int .i64 v10_2.1 :: .bool v10_2.2 :: .pointer (some ⟨g11_5, 0, none⟩) :: .pointer (some ⟨g11_6, 0, none⟩) :: .int .i64 v12_2.1 :: .bool v12_2.2 :: (jk u 25 224 [])))) (by kernel_rfl) fun u => ?_
  refine keep 6 (its' := [box g3_5 37 (eSign v3_1.1), box g3_6 37 (eSign v3_1.2), box g8_5 33 (eHand v8_1.1), box g8_6 33 (eHand v8_1.2), box g11_5 31 (eMove v11_1.1), box g11_6 31 (eMove v11_1.2)]) (by kernel_rfl) ?_
  refine c_seq ?_
  refine r_start ?_
  refine xq rfl (y_load (.agg (eMove v11_1.1).toArray) 4 g11_5 0) ?_
  refine xq rfl (y_load (.agg (eMove v11_1.2).toArray) 5 g11_6 0) ?_
  obtain ⟨v13_2, hv13_2, h⟩ := H.call h
  refine xq rfl (y_call [.agg (eMove v11_1.1).toArray, .agg (eMove v11_1.2).toArray] (.tuple #[.int .i64 v13_2.1, .bool v13_2.2]) func47 (fun W S => C.s_StepDistance W hv13_2)) ?_
  refine p 5 ?_
  refine rend ?_
  refine c_seq ?_
  refine c_seq ?_
  refine joinT (X := Bool) (H.bnd h) (fun (x : Bool) => x) (fun b2 => [box g3_5 37 (eSign v3_1.1), box g3_6 37 (eSign v3_1.2), box g8_5 33 (eHand v8_1.1), box g8_6 33 (eHand v8_1.2), box g11_5 31 (eMove v11_1.1), box g11_6 31 (eMove v11_1.2)]) (fun b2 u => (jk u 0 5 (.pointer (some ⟨g3_5, 0, none⟩) :: .pointer (some ⟨g3_6, 0, none⟩) :: (jk u 7 1 (.bool v4_2.2 :: .int .i64 v5_2.1 :: (jk u 10 3 (.int .i64 v7_2.1 :: (jk u 14 1 (.pointer (some ⟨g8_5, 0, none⟩) :: .pointer (some ⟨g8_6, 0, none⟩) :: (jk u 17 1 (.bool v9_2.2 :: .int .i64 v10_2.1 :: (jk u 20 1 (.pointer (some ⟨g11_5, 0, none⟩) :: .pointer (some ⟨g11_6, 0, none⟩) :: (jk u 23 1 (.bool v12_2.2 :: .int .i64 v13_2.1 :: (jk u 26 124 (.bool b2 :: (jk u 151 98 [])))))))))))))))))) (fun h hj3 => ?_) ?_
  · skip
    refine r_start ?_
    refine p 4 ?_
    refine br (!(v4_2.2 == v5_2.2)) (fun q4 => ?_) (fun q4 => ?_)
    · replace h := H.t q4 h
      refine o_set 111 (congrArg Value.bool q4) ?_
      refine p 39 ?_
      refine rend ?_
      replace h := H.done h
      exact hj3 true _ _ h (by kernel_rfl) (by kernel_rfl)
    replace h := H.f q4 h
    refine o_set 111 (congrArg Value.bool q4) ?_
    refine p 5 ?_
    refine br (v4_2.1 != v5_2.1) (fun q5 => ?_) (fun q5 => ?_)
    · replace h := H.t q5 h
      refine o_set 116 (congrArg Value.bool q5) ?_
      refine p 34 ?_
      refine rend ?_
      replace h := H.done h
      exact hj3 true _ _ h (by kernel_rfl) (by kernel_rfl)
    replace h := H.f q5 h
    refine o_set 116 (congrArg Value.bool q5) ?_
    refine p 5 ?_
    refine br (!(v6_2.2 == v7_2.2)) (fun q6 => ?_) (fun q6 => ?_)
    · replace h := H.t q6 h
      refine o_set 121 (congrArg Value.bool q6) ?_
      refine p 29 ?_
      refine rend ?_
      replace h := H.done h
      exact hj3 true _ _ h (by kernel_rfl) (by kernel_rfl)
    replace h := H.f q6 h
    refine o_set 121 (congrArg Value.bool q6) ?_
    refine p 5 ?_
    refine br (v6_2.1 != v7_2.1) (fun q7 => ?_) (fun q7 => ?_)
    · replace h := H.t q7 h
      refine o_set 126 (congrArg Value.bool q7) ?_
      refine p 24 ?_
      refine rend ?_
      replace h := H.done h
      exact hj3 true _ _ h (by kernel_rfl) (by kernel_rfl)
    replace h := H.f q7 h
    refine o_set 126 (congrArg Value.bool q7) ?_
    refine p 5 ?_
    refine br (!(v9_2.2 == v10_2.2)) (fun q8 => ?_) (fun q8 => ?_)
    · replace h := H.t q8 h
      refine o_set 131 (congrArg Value.bool q8) ?_
      refine p 19 ?_
      refine rend ?_
      replace h := H.done h
      exact hj3 true _ _ h (by kernel_rfl) (by kernel_rfl)
    replace h := H.f q8 h
    refine o_set 131 (congrArg Value.bool q8) ?_
    refine p 5 ?_
    refine br (v9_2.1 != v10_2.1) (fun q9 => ?_) (fun q9 => ?_)
    · replace h := H.t q9 h
      refine o_set 136 (congrArg Value.bool q9) ?_
      refine p 14 ?_
      refine rend ?_
      replace h := H.done h
      exact hj3 true _ _ h (by kernel_rfl) (by kernel_rfl)
    replace h := H.f q9 h
    refine o_set 136 (congrArg Value.bool q9) ?_
    refine p 5 ?_
    refine br (!(v12_2.2 == v13_2.2)) (fun q10 => ?_) (fun q10 => ?_)
    · replace h := H.t q10 h
      refine o_set 141 (congrArg Value.bool q10) ?_
      refine p 9 ?_
      refine rend ?_
      replace h := H.done h
      exact hj3 true _ _ h (by kernel_rfl) (by kernel_rfl)
    replace h := H.f q10 h
    refine o_set 141 (congrArg Value.bool q10) ?_
    refine p 5 ?_
    refine br (v12_2.1 != v13_2.1) (fun q11 => ?_) (fun q11 => ?_)
    · replace h := H.t q11 h
      refine o_set 146 (congrArg Value.bool q11) ?_
      refine p 4 ?_
      refine rend ?_
      replace h := H.done h
      exact hj3 true _ _ h (by kernel_rfl) (by kernel_rfl)
    replace h := H.f q11 h
    refine o_set 146 (congrArg Value.bool q11) ?_
    refine p 4 ?_
    refine rend ?_
    replace h := H.done h
    exact hj3 (!(v6_2.2 == v4_2.2)) _ _ h (by kernel_rfl) (by kernel_rfl)
  intro b2 u h
  refine c_or b2 (fun q12 => ?_) (fun q12 => ?_)
  · replace h := H.t q12 h
    refine c_seq ?_
    refine r_start ?_
    refine p 1 ?_
    refine rend ?_
    replace h := H.done h
    subst h
    exact ret func5 rfl (vs := [.bool false]) (.tmp (by kernel_rfl) .nil) rfl (fun W S => ⟨rfl, S.below⟩)
  replace h := H.f q12 h
  refine c_skip ?_
  refine c_seq ?_
  refine c_seq ?_
  refine r_start ?_
  refine p 1 ?_
  refine rend ?_
  refine joinTE (X := Unit) (H.or h) (fun (x : Unit) => x) (fun _ => [box g3_5 37 (eSign v3_1.1), box g3_6 37 (eSign v3_1.2), box g8_5 33 (eHand v8_1.1), box g8_6 33 (eHand v8_1.2), box g11_5 31 (eMove v11_1.1), box g11_6 31 (eMove v11_1.2)]) (fun _ u => (jk u 0 15 (.pointer (some ⟨g8_5, 0, none⟩) :: .pointer (some ⟨g8_6, 0, none⟩) :: (jk u 17 1 (.bool v9_2.2 :: .int .i64 v10_2.1 :: (jk u 20 1 (.pointer (some ⟨g11_5, 0, none⟩) :: .pointer (some ⟨g11_6, 0, none⟩) :: (jk u 23 1 (.bool v12_2.2 :: .int .i64 v13_2.1 :: (jk u 26 223 [])))))))))) (fun h hj13 => ?_) ?_
  · skip
    refine c_or v4_2.2 (fun q14 => ?_) (fun q14 => ?_)
    · replace h := H.t q14 h
      refine c_seq ?_
      refine r_start ?_
      refine xq rfl (y_load (.agg (eSign v3_1.2).toArray) 1 g3_6 0) ?_
      refine xq rfl (y_load (.agg (eSign v3_1.1).toArray) 0 g3_5 0) ?_
      obtain ⟨v17_2, hv17_2, h⟩ := H.call h
      refine xq rfl (y_call [.agg (eSign v3_1.2).toArray, .agg (eSign v3_1.1).toArray] (.tuple #[.int .i64 v17_2.1, .bool v17_2.2]) func38 (fun W S => C.i_SignDistance W hv17_2)) ?_
      refine p 5 ?_
      refine rend ?_
      refine c_seq ?_
      refine r_start ?_
      refine xq rfl (y_load (.agg (eSign v3_1.1).toArray) 0 g3_5 0) ?_
      refine xq rfl (y_load (.agg (eSign v3_1.2).toArray) 1 g3_6 0) ?_
      obtain ⟨v18_2, hv18_2, h⟩ := H.call h
      refine xq rfl (y_call [.agg (eSign v3_1.1).toArray, .agg (eSign v3_1.2).toArray] (.tuple #[.bool v18_2.1, .bool v18_2.2]) func48 (fun W S => C.i_AreSameSign W hv18_2)) ?_
      refine p 5 ?_
      refine rend ?_
      refine c_seq ?_
      refine joinT (X := Bool) (H.bnd h) (fun (x : Bool) => x) (fun b15 => [box g3_5 37 (eSign v3_1.1), box g3_6 37 (eSign v3_1.2), box g8_5 33 (eHand v8_1.1), box g8_6 33 (eHand v8_1.2), box g11_5 31 (eMove v11_1.1), box g11_6 31 (eMove v11_1.2)]) (fun b15 u => (jk u 0 15 (.pointer (some ⟨g8_5, 0, none⟩) :: .pointer (some ⟨g8_6, 0, none⟩) :: (jk u 17 1 (.bool v9_2.2 :: .int .i64 v10_2.1 :: (jk u 20 1 (.pointer (some ⟨g11_5, 0, none⟩) :: .pointer (some ⟨g11_6, 0, none⟩) :: (jk u 23 1 (.bool v12_2.2 :: .int .i64 v13_2.1 :: (jk u 26 161 (.bool b15 :: (jk u 188 61 [])))))))))))) (fun h hj16 => ?_) ?_
      · skip
        refine r_start ?_
        refine p 3 ?_
        refine br (!v17_2.2) (fun q17 => ?_) (fun q17 => ?_)
        · replace h := H.t q17 h
          refine o_set 166 (congrArg Value.bool q17) ?_
          refine p 21 ?_
          refine rend ?_
          replace h := H.done h
          exact hj16 true _ _ h (by kernel_rfl) (by kernel_rfl)
        replace h := H.f q17 h
        refine o_set 166 (congrArg Value.bool q17) ?_
        refine p 5 ?_
        refine br (v17_2.1 != v5_2.1) (fun q18 => ?_) (fun q18 => ?_)
        · replace h := H.t q18 h
          refine o_set 171 (congrArg Value.bool q18) ?_
          refine p 16 ?_
          refine rend ?_
          replace h := H.done h
          exact hj16 true _ _ h (by kernel_rfl) (by kernel_rfl)
        replace h := H.f q18 h
        refine o_set 171 (congrArg Value.bool q18) ?_
        refine p 4 ?_
        refine br (!v18_2.2) (fun q19 => ?_) (fun q19 => ?_)
        · replace h := H.t q19 h
          refine o_set 175 (congrArg Value.bool q19) ?_
          refine p 12 ?_
          refine rend ?_
          replace h := H.done h
          exact hj16 true _ _ h (by kernel_rfl) (by kernel_rfl)
        replace h := H.f q19 h
        refine o_set 175 (congrArg Value.bool q19) ?_
        refine p 6 ?_
        refine br (!(v18_2.1 == (v5_2.1 == 0))) (fun q20 => ?_) (fun q20 => ?_)
        · replace h := H.t q20 h
          refine o_set 181 (congrArg Value.bool q20) ?_
          refine p 6 ?_
          refine rend ?_
          replace h := H.done h
          exact hj16 true _ _ h (by kernel_rfl) (by kernel_rfl)
        replace h := H.f q20 h
        refine o_set 181 (congrArg Value.bool q20) ?_
        refine p 2 ?_
        refine br v18_2.1 (fun q21 => ?_) (fun q21 => ?_)
        · replace h := H.t q21 h
          refine o_set 183 (congrArg Value.bool q21) ?_
          refine p 4 ?_
          refine rend ?_
          replace h := H.done h
          exact hj16 (v7_2.1 != 4) _ _ h (by kernel_rfl) (by kernel_rfl)
        replace h := H.f q21 h
        refine o_set 183 (congrArg Value.bool q21) ?_
        refine p 4 ?_
        refine rend ?_
        replace h := H.done h
        exact hj16 false _ _ h (by kernel_rfl) (by kernel_rfl)
      intro b15 u h
      refine c_or b15 (fun q22 => ?_) (fun q22 => ?_)
      · replace h := H.t q22 h
        refine c_seq ?_
        refine r_start ?_
        refine p 1 ?_
        refine rend ?_
        replace h := H.inl h
        replace h := H.done h
        subst h
        exact ret func5 rfl (vs := [.bool false]) (.tmp (by kernel_rfl) .nil) rfl (fun W S => ⟨rfl, S.below⟩)
      replace h := H.f q22 h
      refine c_skip ?_
      replace h := H.inr h
      exact hj13 () _ _ h (by kernel_rfl) (by kernel_rfl)
    replace h := H.f q14 h
    refine c_skip ?_
    replace h := H.inr h
    exact hj13 () _ _ h (by kernel_rfl) (by kernel_rfl)
  intro x u h
  refine c_seq ?_
  refine c_seq ?_
  refine r_start ?_
  refine p 1 ?_
  refine rend ?_
  refine joinTE (X := Unit) (H.or h) (fun (x : Unit) => x) (fun _ => [box g3_5 37 (eSign v3_1.1), box g3_6 37 (eSign v3_1.2), box g8_5 33 (eHand v8_1.1), box g8_6 33 (eHand v8_1.2), box g11_5 31 (eMove v11_1.1), box g11_6 31 (eMove v11_1.2)]) (fun _ u => (jk u 0 21 (.pointer (some ⟨g11_5, 0, none⟩) :: .pointer (some ⟨g11_6, 0, none⟩) :: (jk u 23 1 (.bool v12_2.2 :: .int .i64 v13_2.1 :: (jk u 26 223 [])))))) (fun h hj23 => ?_) ?_
  · skip
    refine c_or v9_2.2 (fun q24 => ?_) (fun q24 => ?_)
    · replace h := H.t q24 h
      refine c_seq ?_
      refine r_start ?_
      refine xq rfl (y_load (.agg (eHand v8_1.2).toArray) 3 g8_6 0) ?_
      refine xq rfl (y_load (.agg (eHand v8_1.1).toArray) 2 g8_5 0) ?_
      obtain ⟨v22_2, hv22_2, h⟩ := H.call h
      refine xq rfl (y_call [.agg (eHand v8_1.2).toArray, .agg (eHand v8_1.1).toArray] (.tuple #[.int .i64 v22_2.1, .bool v22_2.2]) func43 (fun W S => C.i_HandDistance W hv22_2)) ?_
      refine p 5 ?_
      refine rend ?_
      refine c_seq ?_
      refine joinT (X := Bool) (H.bnd h) (fun (x : Bool) => x) (fun b25 => [box g3_5 37 (eSign v3_1.1), box g3_6 37 (eSign v3_1.2), box g8_5 33 (eHand v8_1.1), box g8_6 33 (eHand v8_1.2), box g11_5 31 (eMove v11_1.1), box g11_6 31 (eMove v11_1.2)]) (fun b25 u => (jk u 0 21 (.pointer (some ⟨g11_5, 0, none⟩) :: .pointer (some ⟨g11_6, 0, none⟩) :: (jk u 23 1 (.bool v12_2.2 :: .int .i64 v13_2.1 :: (jk u 26 175 (.bool b25 :: (jk u 202 47 [])))))))) (fun h hj26 => ?_) ?_
      · skip
        refine r_start ?_
        refine p 3 ?_
        refine br (!v22_2.2) (fun q27 => ?_) (fun q27 => ?_)
        · replace h := H.t q27 h
          refine o_set 197 (congrArg Value.bool q27) ?_
          refine p 4 ?_
          refine rend ?_
          replace h := H.done h
          exact hj26 true _ _ h (by kernel_rfl) (by kernel_rfl)
        replace h := H.f q27 h
        refine o_set 197 (congrArg Value.bool q27) ?_
        refine p 4 ?_
        refine rend ?_
        replace h := H.done h
        exact hj26 (v22_2.1 != v10_2.1) _ _ h (by kernel_rfl) (by kernel_rfl)
      intro b25 u h
      refine c_or b25 (fun q28 => ?_) (fun q28 => ?_)
      · replace h := H.t q28 h
        refine c_seq ?_
        refine r_start ?_
        refine p 1 ?_
        refine rend ?_
        replace h := H.inl h
        replace h := H.done h
        subst h
        exact ret func5 rfl (vs := [.bool false]) (.tmp (by kernel_rfl) .nil) rfl (fun W S => ⟨rfl, S.below⟩)
      replace h := H.f q28 h
      refine c_skip ?_
      replace h := H.inr h
      exact hj23 () _ _ h (by kernel_rfl) (by kernel_rfl)
    replace h := H.f q24 h
    refine c_skip ?_
    replace h := H.inr h
    exact hj23 () _ _ h (by kernel_rfl) (by kernel_rfl)
  intro x u h
  refine c_seq ?_
  refine c_seq ?_
  refine r_start ?_
  refine p 1 ?_
  refine rend ?_
  refine c_or v12_2.2 (fun q29 => ?_) (fun q29 => ?_)
  · replace h := H.t q29 h
    refine c_seq ?_
    refine r_start ?_
    refine xq rfl (y_load (.agg (eMove v11_1.2).toArray) 5 g11_6 0) ?_
    refine xq rfl (y_load (.agg (eMove v11_1.1).toArray) 4 g11_5 0) ?_
    obtain ⟨v26_2, hv26_2, h⟩ := H.call h
    refine xq rfl (y_call [.agg (eMove v11_1.2).toArray, .agg (eMove v11_1.1).toArray] (.tuple #[.int .i64 v26_2.1, .bool v26_2.2]) func46 (fun W S => C.i_StepDistance W hv26_2)) ?_
    refine p 5 ?_
    refine rend ?_
    refine c_seq ?_
    refine r_start ?_
    refine xq rfl (y_load (.agg (eMove v11_1.1).toArray) 4 g11_5 0) ?_
    obtain ⟨v27_1, hv27_1, h⟩ := H.call h
    refine xq rfl (y_call [.agg (eMove v11_1.1).toArray] (.tuple #[.string (bs v27_1.1), .bool v27_1.2]) func49 (fun W S => C.s_AllSteps W hv27_1)) ?_
    refine p 5 ?_
    refine rend ?_
    refine frg (fun u => (jk u 0 22 (.pointer (some ⟨g11_6, 0, none⟩) :: (jk u 23 2 (.int .i64 v13_2.1 :: (jk u 26 7 (.int .i64 v26_2.1 :: .bool v26_2.2 :: .string (bs v27_1.1) :: .bool v27_1.2 :: (jk u 37 212 [])))))))) (by kernel_rfl) fun u => ?_
    refine keep 6 (its' := [box g3_5 37 (eSign v3_1.1), box g3_6 37 (eSign v3_1.2), box g8_5 33 (eHand v8_1.1), box g8_6 33 (eHand v8_1.2), box g11_5 31 (eMove v11_1.1), box g11_6 31 (eMove v11_1.2)]) (by kernel_rfl) ?_
    refine c_seq ?_
    refine r_start ?_
    refine xq rfl (y_load (.agg (eMove v11_1.2).toArray) 5 g11_6 0) ?_
    obtain ⟨v28_1, hv28_1, h⟩ := H.call h
    refine xq rfl (y_call [.agg (eMove v11_1.2).toArray] (.tuple #[.string (bs v28_1.1), .bool v28_1.2]) func49 (fun W S => C.s_AllSteps W hv28_1)) ?_
    refine p 5 ?_
    refine rend ?_
    refine c_seq ?_
    refine r_start ?_
    refine p 2 ?_
    refine br v26_2.2 (fun q30 => ?_) (fun q30 => ?_)
    · replace h := H.t q30 h
      refine o_set 220 (congrArg Value.bool q30) ?_
      refine p 5 ?_
      refine br (v26_2.1 == v13_2.1) (fun q31 => ?_) (fun q31 => ?_)
      · replace h := H.t q31 h
        refine o_set 225 (congrArg Value.bool q31) ?_
        refine p 3 ?_
        refine br v27_1.2 (fun q32 => ?_) (fun q32 => ?_)
        · replace h := H.t q32 h
          refine o_set 228 (congrArg Value.bool q32) ?_
          refine p 3 ?_
          refine br v28_1.2 (fun q33 => ?_) (fun q33 => ?_)
          · replace h := H.t q33 h
            refine o_set 231 (congrArg Value.bool q33) ?_
            refine p 6 ?_
            obtain ⟨v29_19, hv29_19, h⟩ := H.call h
            refine xq rfl (y_call [.int .i64 (wr ((List.length v27_1.1 : Int) - (List.length v28_1.1 : Int)))] (.int .i64 v29_19) func50 (fun W S => C.l_qAbs W hv29_19)) ?_
            refine p 3 ?_
            refine br (decide (v13_2.1 ≥ v29_19)) (fun q34 => ?_) (fun q34 => ?_)
            · replace h := H.t q34 h
              refine o_set 241 (congrArg Value.bool q34) ?_
              refine p 8 ?_
              refine rend ?_
              replace h := H.done h
              subst h
              exact ret func5 rfl (vs := [.bool ((v13_2.1 == 0) == (seq v27_1.1 v28_1.1))]) (.tmp (by kernel_rfl) .nil) rfl (fun W S => ⟨rfl, S.below⟩)
            replace h := H.f q34 h
            refine o_set 241 (congrArg Value.bool q34) ?_
            refine p 8 ?_
            refine rend ?_
            replace h := H.done h
            subst h
            exact ret func5 rfl (vs := [.bool false]) (.tmp (by kernel_rfl) .nil) rfl (fun W S => ⟨rfl, S.below⟩)
          replace h := H.f q33 h
          refine o_set 231 (congrArg Value.bool q33) ?_
          refine p 18 ?_
          refine rend ?_
          replace h := H.done h
          subst h
          exact ret func5 rfl (vs := [.bool false]) (.tmp (by kernel_rfl) .nil) rfl (fun W S => ⟨rfl, S.below⟩)
        replace h := H.f q32 h
        refine o_set 228 (congrArg Value.bool q32) ?_
        refine p 21 ?_
        refine rend ?_
        replace h := H.done h
        subst h
        exact ret func5 rfl (vs := [.bool false]) (.tmp (by kernel_rfl) .nil) rfl (fun W S => ⟨rfl, S.below⟩)
      replace h := H.f q31 h
      refine o_set 225 (congrArg Value.bool q31) ?_
      refine p 24 ?_
      refine rend ?_
      replace h := H.done h
      subst h
      exact ret func5 rfl (vs := [.bool false]) (.tmp (by kernel_rfl) .nil) rfl (fun W S => ⟨rfl, S.below⟩)
    replace h := H.f q30 h
    refine o_set 220 (congrArg Value.bool q30) ?_
    refine p 29 ?_
    refine rend ?_
    replace h := H.done h
    subst h
    exact ret func5 rfl (vs := [.bool false]) (.tmp (by kernel_rfl) .nil) rfl (fun W S => ⟨rfl, S.below⟩)
  replace h := H.f q29 h
  refine c_skip ?_
  refine c_seq ?_
  refine r_start ?_
  refine p 1 ?_
  refine rend ?_
  replace h := H.done h
  subst h
  exact ret func5 rfl (vs := [.bool true]) (.tmp (by kernel_rfl) .nil) rfl (fun W S => ⟨rfl, S.below⟩)
end Go.Proofs.XC
