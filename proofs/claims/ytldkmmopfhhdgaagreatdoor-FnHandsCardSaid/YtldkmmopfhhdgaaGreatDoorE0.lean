/- Contracts: each function of the given program, called where its plain function gives an answer, returns just that answer and changes nothing that was there. By AI agents; no person has read it. -/
import Derived.Test.YtldkmmopfhhdgaaGreatDoorC1
set_option linter.unusedVariables false
set_option linter.unusedSimpArgs false
set_option maxRecDepth 100000
set_option maxHeartbeats 40000000
namespace Go.Proofs.XC
open Go Go.RowKit
open Tryz
theorem C.s_DrawTwoHands {fu : Nat} {a0 : (List Int)} {A0 : Option Addr} {k0 : Nat} {r : (Hand × Hand)} (w : World) (h : X.s_DrawTwoHands fu a0 = some r) (h0 : RdT (eI .u8) w (.slice A0 (List.length a0) k0) a0) : Calls prog 9 #[.slice A0 (List.length a0) k0] w (Ret w (.tuple #[.agg (eHand r.1).toArray, .agg (eHand r.2).toArray])) := by
  refine calls (M := no) (args := [.slice A0 (List.length a0) k0]) func9 rfl ?_
  replace h : H (X.s_DrawTwoHands fu a0) (fun o => o = r) := H.mk h
  unfold X.s_DrawTwoHands at h
  refine c_seq ?_
  refine r_start ?_
  refine xx rfl (x_new (eHand zHand) fun g0_0 => ?_)
  refine xx rfl (x_new (eHand zHand) fun g0_1 => ?_)
  refine rend ?_
  refine c_seq ?_
  refine r_start ?_
  refine p 2 ?_
  refine xx rfl (x_box [.slice A0 (List.length a0) k0, .int .i64 0, .int .u64 0] fun g1_2 => ?_)
  refine p 1 ?_
  refine rend ?_
  refine c_seq ?_
  refine r_start ?_
  refine p 1 ?_
  obtain ⟨v2_1, hv2_1, h⟩ := H.call h
  refine xx rfl (e_cq (cs' := [.slice A0 (List.length a0) k0, .int .i64 v2_1.2.1, .int .u64 v2_1.2.2]) (v := .agg (eHand v2_1.1).toArray) 2 [.pointer (some ⟨g1_2, 0, none⟩)] func88 (fun W S => C.s_l1Cur_anyHand W hv2_1 (S.bx 2) ((s_arg h0).out W S) (ap_arg h0 S 2)) ?_)
  refine xx rfl (x_new (eHand zHand) fun g2_2 => ?_)
  refine xx rfl (x_sto 3 g2_2 0 (eHand v2_1.1) ?_)
  refine rend ?_
  refine c_seq ?_
  refine r_start ?_
  refine p 1 ?_
  refine xq rfl (y_load (.agg (eHand v2_1.1).toArray) 3 g2_2 0) ?_
  obtain ⟨v3_2, hv3_2, h⟩ := H.call h
  refine xx rfl (e_cq (cs' := [.slice A0 (List.length a0) k0, .int .i64 v3_2.2.1, .int .u64 v3_2.2.2]) (v := .agg (eHand v3_2.1).toArray) 2 [.pointer (some ⟨g1_2, 0, none⟩), .agg (eHand v2_1.1).toArray] func89 (fun W S => C.s_l1Cur_otherFor W hv3_2 (S.bx 2) ((s_arg h0).out W S) (ap_arg h0 S 2)) ?_)
  refine xx rfl (x_new (eHand zHand) fun g3_3 => ?_)
  refine xx rfl (x_sto 4 g3_3 0 (eHand v3_2.1) ?_)
  refine rend ?_
  refine c_seq ?_
  refine c_seq ?_
  refine r_start ?_
  refine p 1 ?_
  obtain ⟨v4_1, hv4_1, h⟩ := H.call h
  refine xx rfl (e_cq (cs' := [.slice A0 (List.length a0) k0, .int .i64 v4_1.2.1, .int .u64 v4_1.2.2]) (v := .bool v4_1.1) 2 [.pointer (some ⟨g1_2, 0, none⟩), .int .i64 24] func90 (fun W S => C.s_l1Cur_one W hv4_1 (S.bx 2) ((s_arg h0).out W S) (ap_arg h0 S 2)) ?_)
  refine rend ?_
  refine c_or v4_1.1 (fun q1 => ?_) (fun q1 => ?_)
  · replace h := H.t q1 h
    refine r_start ?_
    refine p 1 ?_
    obtain ⟨v5_1, hv5_1, h⟩ := H.call h
    refine xx rfl (e_cq (cs' := [.slice A0 (List.length a0) k0, .int .i64 v5_1.2.1, .int .u64 v5_1.2.2]) (v := .agg (eHand v5_1.1).toArray) 2 [.pointer (some ⟨g1_2, 0, none⟩)] func88 (fun W S => C.s_l1Cur_anyHand W hv5_1 (S.bx 2) ((s_arg h0).out W S) (ap_arg h0 S 2)) ?_)
    refine xx rfl (x_sto 4 g3_3 0 (eHand v5_1.1) ?_)
    refine rend ?_
    refine c_seq ?_
    refine pick [2, 3, 4, 0, 1] [box g1_2 92 [.slice A0 (List.length a0) k0, .int .i64 v5_1.2.1, .int .u64 v5_1.2.2], box g2_2 33 (eHand v2_1.1), box g3_3 33 (eHand v5_1.1), box g0_0 33 (eHand zHand), box g0_1 33 (eHand zHand)] ?_
    refine as_startN 4 3 4 ?_
    refine aq 0 rfl (y_load (.agg (eHand v2_1.1).toArray) 1 g2_2 0) ?_
    refine aq 1 rfl (y_load (.agg (eHand v5_1.1).toArray) 2 g3_3 0) ?_
    refine ax 2 rfl (x_sto 3 g0_0 0 (eHand v2_1.1) ⟨.inr (by kernel_rfl), ?_⟩)
    refine ax 3 rfl (x_sto 4 g0_1 0 (eHand v5_1.1) ⟨.inr (by kernel_rfl), ?_⟩)
    refine a_done ?_
    refine pick [3, 4, 0, 1, 2] [box g0_0 33 (eHand v2_1.1), box g0_1 33 (eHand v5_1.1), box g1_2 92 [.slice A0 (List.length a0) k0, .int .i64 v5_1.2.1, .int .u64 v5_1.2.2], box g2_2 33 (eHand v2_1.1), box g3_3 33 (eHand v5_1.1)] ?_
    replace h := H.done h
    subst h
    exact ret func9 rfl (vs := [.agg (eHand v2_1.1).toArray, .agg (eHand v5_1.1).toArray]) (.cell 0 g0_0 rfl (by kernel_rfl) (by kernel_rfl) (.cell 1 g0_1 rfl (by kernel_rfl) (by kernel_rfl) .nil)) rfl (fun W S => ⟨rfl, S.below⟩)
  replace h := H.f q1 h
  refine c_skip ?_
  refine c_seq ?_
  refine pick [2, 3, 4, 0, 1] [box g1_2 92 [.slice A0 (List.length a0) k0, .int .i64 v4_1.2.1, .int .u64 v4_1.2.2], box g2_2 33 (eHand v2_1.1), box g3_3 33 (eHand v3_2.1), box g0_0 33 (eHand zHand), box g0_1 33 (eHand zHand)] ?_
  refine as_startN 4 3 4 ?_
  refine aq 0 rfl (y_load (.agg (eHand v2_1.1).toArray) 1 g2_2 0) ?_
  refine aq 1 rfl (y_load (.agg (eHand v3_2.1).toArray) 2 g3_3 0) ?_
  refine ax 2 rfl (x_sto 3 g0_0 0 (eHand v2_1.1) ⟨.inr (by kernel_rfl), ?_⟩)
  refine ax 3 rfl (x_sto 4 g0_1 0 (eHand v3_2.1) ⟨.inr (by kernel_rfl), ?_⟩)
  refine a_done ?_
  refine pick [3, 4, 0, 1, 2] [box g0_0 33 (eHand v2_1.1), box g0_1 33 (eHand v3_2.1), box g1_2 92 [.slice A0 (List.length a0) k0, .int .i64 v4_1.2.1, .int .u64 v4_1.2.2], box g2_2 33 (eHand v2_1.1), box g3_3 33 (eHand v3_2.1)] ?_
  replace h := H.done h
  subst h
  exact ret func9 rfl (vs := [.agg (eHand v2_1.1).toArray, .agg (eHand v3_2.1).toArray]) (.cell 0 g0_0 rfl (by kernel_rfl) (by kernel_rfl) (.cell 1 g0_1 rfl (by kernel_rfl) (by kernel_rfl) .nil)) rfl (fun W S => ⟨rfl, S.below⟩)
theorem C.i_BrokenRule {fu : Nat} {a0 : Hand} {a1 : Hand} {r : (Int × Bool)} (w : World) (h : X.i_BrokenRule fu a0 a1 = some r) : Calls prog 12 #[.agg (eHand a0).toArray, .agg (eHand a1).toArray] w (Ret w (.tuple #[.int .i64 r.1, .bool r.2])) := by
  refine calls (M := no) (args := [.agg (eHand a0).toArray, .agg (eHand a1).toArray]) func12 rfl ?_
  replace h : H (X.i_BrokenRule fu a0 a1) (fun o => o = r) := H.mk h
  unfold X.i_BrokenRule at h
  refine c_seq ?_
  refine r_start ?_
  refine xx rfl (x_box (eHand a0) fun g0_0 => ?_)
  refine xx rfl (x_box (eHand a1) fun g0_1 => ?_)
  refine p 2 ?_
  refine rend ?_
  refine c_seq ?_
  refine c_seq ?_
  refine r_start ?_
  refine xq rfl (y_load (.agg (eHand a0).toArray) 0 g0_0 0) ?_
  obtain ⟨v1_1, hv1_1, h⟩ := H.call h
  refine xq rfl (y_call [.agg (eHand a0).toArray] (.bool v1_1) func14 (fun W S => C.i_IsHand W hv1_1)) ?_
  refine p 2 ?_
  refine br (!v1_1) (fun q1 => ?_) (fun q1 => ?_)
  · replace h := H.t q1 h
    refine o_set 9 (congrArg Value.bool q1) ?_
    refine p 4 ?_
    refine rend ?_
    refine c_t (by kernel_rfl) ?_
    refine c_seq ?_
    refine r_start ?_
    refine p 2 ?_
    refine rend ?_
    replace h := H.done h
    subst h
    exact ret func12 rfl (vs := [.int .i64 0, .bool false]) (.tmp (by kernel_rfl) (.tmp (by kernel_rfl) .nil)) rfl (fun W S => ⟨rfl, S.below⟩)
  replace h := H.f q1 h
  refine o_set 9 (congrArg Value.bool q1) ?_
  refine xq rfl (y_load (.agg (eHand a1).toArray) 1 g0_1 0) ?_
  obtain ⟨v1_5, hv1_5, h⟩ := H.call h
  refine xq rfl (y_call [.agg (eHand a1).toArray] (.bool v1_5) func14 (fun W S => C.i_IsHand W hv1_5)) ?_
  refine p 2 ?_
  refine rend ?_
  refine c_or (!v1_5) (fun q2 => ?_) (fun q2 => ?_)
  · replace h := H.t q2 h
    refine c_seq ?_
    refine r_start ?_
    refine p 2 ?_
    refine rend ?_
    replace h := H.done h
    subst h
    exact ret func12 rfl (vs := [.int .i64 0, .bool false]) (.tmp (by kernel_rfl) (.tmp (by kernel_rfl) .nil)) rfl (fun W S => ⟨rfl, S.below⟩)
  replace h := H.f q2 h
  refine c_skip ?_
  refine c_seq ?_
  refine c_block ?_
  refine c_seq ?_
  refine r_start ?_
  refine xq rfl (y_load (.agg (eHand a0).toArray) 0 g0_0 0) ?_
  refine xq rfl (y_load (.agg (eHand a1).toArray) 1 g0_1 0) ?_
  obtain ⟨v3_2, hv3_2, h⟩ := H.call h
  refine xq rfl (y_call [.agg (eHand a0).toArray, .agg (eHand a1).toArray] (.bool v3_2) func92 (fun W S => C.i_keepRules W hv3_2)) ?_
  refine p 1 ?_
  refine rend ?_
  refine c_or v3_2 (fun q3 => ?_) (fun q3 => ?_)
  · replace h := H.t q3 h
    refine c_seq ?_
    refine r_start ?_
    refine p 2 ?_
    refine rend ?_
    replace h := H.done h
    subst h
    exact ret func12 rfl (vs := [.int .i64 0, .bool true]) (.tmp (by kernel_rfl) (.tmp (by kernel_rfl) .nil)) rfl (fun W S => ⟨rfl, S.below⟩)
  replace h := H.f q3 h
  refine c_seq ?_
  refine r_start ?_
  refine xq rfl (y_load (.agg (eHand a1).toArray) 1 g0_1 0) ?_
  obtain ⟨v5_1, hv5_1, h⟩ := H.call h
  refine xq rfl (y_call [.agg (eHand a1).toArray] (.bool v5_1) func93 (fun W S => C.i_Hand_moves W hv5_1)) ?_
  refine p 2 ?_
  refine rend ?_
  refine c_or (!v5_1) (fun q4 => ?_) (fun q4 => ?_)
  · replace h := H.t q4 h
    refine c_seq ?_
    refine r_start ?_
    refine p 2 ?_
    refine rend ?_
    replace h := H.done h
    subst h
    exact ret func12 rfl (vs := [.int .i64 4, .bool true]) (.tmp (by kernel_rfl) (.tmp (by kernel_rfl) .nil)) rfl (fun W S => ⟨rfl, S.below⟩)
  replace h := H.f q4 h
  refine c_seq ?_
  refine r_start ?_
  refine xq rfl (y_load (.agg (eHand a0).toArray) 0 g0_0 0) ?_
  obtain ⟨v7_1, hv7_1, h⟩ := H.call h
  refine xq rfl (y_call [.agg (eHand a0).toArray] (.bool v7_1) func93 (fun W S => C.i_Hand_moves W hv7_1)) ?_
  refine p 2 ?_
  refine rend ?_
  refine c_or (!v7_1) (fun q5 => ?_) (fun q5 => ?_)
  · replace h := H.t q5 h
    refine c_seq ?_
    refine r_start ?_
    refine p 2 ?_
    refine rend ?_
    replace h := H.done h
    subst h
    exact ret func12 rfl (vs := [.int .i64 3, .bool true]) (.tmp (by kernel_rfl) (.tmp (by kernel_rfl) .nil)) rfl (fun W S => ⟨rfl, S.below⟩)
  replace h := H.f q5 h
  refine c_seq ?_
  refine r_start ?_
  refine p 1 ?_
  refine xq rfl (y_load (.agg (eShape a0.Shape).toArray) 0 g0_0 0) ?_
  refine p 1 ?_
  refine xq rfl (y_load (.agg (eShape a1.Shape).toArray) 1 g0_1 0) ?_
  refine p 2 ?_
  refine rend ?_
  refine c_or (!qShape a0.Shape a1.Shape) (fun q6 => ?_) (fun q6 => ?_)
  · replace h := H.t q6 h
    refine c_seq ?_
    refine r_start ?_
    refine p 2 ?_
    refine rend ?_
    replace h := H.done h
    subst h
    exact ret func12 rfl (vs := [.int .i64 1, .bool true]) (.tmp (by kernel_rfl) (.tmp (by kernel_rfl) .nil)) rfl (fun W S => ⟨rfl, S.below⟩)
  replace h := H.f q6 h
  refine c_seq ?_
  refine as_start 14 14 ?_
  refine ap 0 1 ?_
  refine aq 1 rfl (y_load (.agg (eOrient a1.Orient).toArray) 1 g0_1 6) ?_
  refine ap 2 1 ?_
  refine aq 3 rfl (y_load (.agg (eOrient a0.Orient).toArray) 0 g0_0 6) ?_
  refine ap 4 2 ?_
  refine br (!qOrient a1.Orient a0.Orient) (fun q7 => ?_) (fun q7 => ?_)
  · replace h := H.t q7 h
    refine a_set 38 (congrArg Value.bool q7) ?_
    refine ap 6 1 ?_
    refine aq 7 rfl (y_load (.agg (eOrient a1.Orient).toArray) 1 g0_1 6) ?_
    refine ap 8 1 ?_
    refine aq 9 rfl (y_load (.agg (eOrient a0.Orient).toArray) 0 g0_0 6) ?_
    obtain ⟨v11_10, hv11_10, h⟩ := H.call h
    refine aq 10 rfl (y_call [.agg (eOrient a0.Orient).toArray] (.agg (eOrient v11_10).toArray) func94 (fun W S => C.i_Orient_mirrored W hv11_10)) ?_
    refine ap 11 3 ?_
    refine a_done ?_
    refine c_or (!qOrient a1.Orient v11_10) (fun q8 => ?_) (fun q8 => ?_)
    · replace h := H.t q8 h
      refine c_seq ?_
      refine r_start ?_
      refine p 2 ?_
      refine rend ?_
      replace h := H.done h
      subst h
      exact ret func12 rfl (vs := [.int .i64 2, .bool true]) (.tmp (by kernel_rfl) (.tmp (by kernel_rfl) .nil)) rfl (fun W S => ⟨rfl, S.below⟩)
    replace h := H.f q8 h
    refine c_skip ?_
    refine c_inb ?_
    refine c_seq ?_
    refine r_start ?_
    refine p 2 ?_
    refine rend ?_
    replace h := H.done h
    subst h
    exact ret func12 rfl (vs := [.int .i64 3, .bool true]) (.tmp (by kernel_rfl) (.tmp (by kernel_rfl) .nil)) rfl (fun W S => ⟨rfl, S.below⟩)
  replace h := H.f q7 h
  refine a_set 38 (congrArg Value.bool q7) ?_
  refine ap 6 8 ?_
  refine a_done ?_
  refine c_f (by kernel_rfl) ?_
  refine c_skip ?_
  refine c_inb ?_
  refine c_seq ?_
  refine r_start ?_
  refine p 2 ?_
  refine rend ?_
  replace h := H.done h
  subst h
  exact ret func12 rfl (vs := [.int .i64 3, .bool true]) (.tmp (by kernel_rfl) (.tmp (by kernel_rfl) .nil)) rfl (fun W S => ⟨rfl, S.below⟩)
theorem C.s_BrokenRule {fu : Nat} {a0 : Hand} {a1 : Hand} {r : (Int × Bool)} (w : World) (h : X.s_BrokenRule fu a0 a1 = some r) : Calls prog 13 #[.agg (eHand a0).toArray, .agg (eHand a1).toArray] w (Ret w (.tuple #[.int .i64 r.1, .bool r.2])) := by
  refine calls (M := no) (args := [.agg (eHand a0).toArray, .agg (eHand a1).toArray]) func13 rfl ?_
  replace h : H (X.s_BrokenRule fu a0 a1) (fun o => o = r) := H.mk h
  unfold X.s_BrokenRule at h
  refine c_seq ?_
  refine r_start ?_
  refine xx rfl (x_box (eHand a0) fun g0_0 => ?_)
  refine xx rfl (x_box (eHand a1) fun g0_1 => ?_)
  refine p 2 ?_
  refine rend ?_
  refine c_seq ?_
  refine c_seq ?_
  refine r_start ?_
  refine xq rfl (y_load (.agg (eHand a0).toArray) 0 g0_0 0) ?_
  obtain ⟨v1_1, hv1_1, h⟩ := H.call h
  refine xq rfl (y_call [.agg (eHand a0).toArray] (.bool v1_1) func95 (fun W S => C.s_siHand W hv1_1)) ?_
  refine p 2 ?_
  refine br (!v1_1) (fun q1 => ?_) (fun q1 => ?_)
  · replace h := H.t q1 h
    refine o_set 9 (congrArg Value.bool q1) ?_
    refine p 4 ?_
    refine rend ?_
    refine c_t (by kernel_rfl) ?_
    refine c_seq ?_
    refine r_start ?_
    refine p 2 ?_
    refine rend ?_
    replace h := H.done h
    subst h
    exact ret func13 rfl (vs := [.int .i64 0, .bool false]) (.tmp (by kernel_rfl) (.tmp (by kernel_rfl) .nil)) rfl (fun W S => ⟨rfl, S.below⟩)
  replace h := H.f q1 h
  refine o_set 9 (congrArg Value.bool q1) ?_
  refine xq rfl (y_load (.agg (eHand a1).toArray) 1 g0_1 0) ?_
  obtain ⟨v1_5, hv1_5, h⟩ := H.call h
  refine xq rfl (y_call [.agg (eHand a1).toArray] (.bool v1_5) func95 (fun W S => C.s_siHand W hv1_5)) ?_
  refine p 2 ?_
  refine rend ?_
  refine c_or (!v1_5) (fun q2 => ?_) (fun q2 => ?_)
  · replace h := H.t q2 h
    refine c_seq ?_
    refine r_start ?_
    refine p 2 ?_
    refine rend ?_
    replace h := H.done h
    subst h
    exact ret func13 rfl (vs := [.int .i64 0, .bool false]) (.tmp (by kernel_rfl) (.tmp (by kernel_rfl) .nil)) rfl (fun W S => ⟨rfl, S.below⟩)
  replace h := H.f q2 h
  refine c_skip ?_
  refine c_seq ?_
  refine r_start ?_
  refine xq rfl (y_load (.agg (eHand a0).toArray) 0 g0_0 0) ?_
  refine xq rfl (y_load (.agg (eHand a1).toArray) 1 g0_1 0) ?_
  obtain ⟨v3_2, hv3_2, h⟩ := H.call h
  refine xq rfl (y_call [.agg (eHand a0).toArray, .agg (eHand a1).toArray] (.int .i64 v3_2) func96 (fun W S => C.s_siBroken W hv3_2)) ?_
  refine p 2 ?_
  refine rend ?_
  replace h := H.done h
  subst h
  exact ret func13 rfl (vs := [.int .i64 v3_2, .bool true]) (.tmp (by kernel_rfl) (.tmp (by kernel_rfl) .nil)) rfl (fun W S => ⟨rfl, S.below⟩)
theorem C.s_DrawIsHand {fu : Nat} {a0 : (List Int)} {A0 : Option Addr} {k0 : Nat} {r : Hand} (w : World) (h : X.s_DrawIsHand fu a0 = some r) (h0 : RdT (eI .u8) w (.slice A0 (List.length a0) k0) a0) : Calls prog 108 #[.slice A0 (List.length a0) k0] w (Ret w (.agg (eHand r).toArray)) := by
  refine calls (M := no) (args := [.slice A0 (List.length a0) k0]) func108 rfl ?_
  replace h : H (X.s_DrawIsHand fu a0) (fun o => o = r) := H.mk h
  unfold X.s_DrawIsHand at h
  refine c_seq ?_
  refine r_start ?_
  refine xx rfl (x_new (eHand zHand) fun g0_0 => ?_)
  refine rend ?_
  refine c_seq ?_
  refine r_start ?_
  refine p 2 ?_
  refine xx rfl (x_box [.slice A0 (List.length a0) k0, .int .i64 0, .int .u64 0] fun g1_2 => ?_)
  refine p 1 ?_
  refine rend ?_
  refine c_seq ?_
  refine r_start ?_
  refine p 1 ?_
  obtain ⟨v2_1, hv2_1, h⟩ := H.call h
  refine xx rfl (e_cq (cs' := [.slice A0 (List.length a0) k0, .int .i64 v2_1.2.1, .int .u64 v2_1.2.2]) (v := .agg (eHand v2_1.1).toArray) 1 [.pointer (some ⟨g1_2, 0, none⟩)] func88 (fun W S => C.s_l1Cur_anyHand W hv2_1 (S.bx 1) ((s_arg h0).out W S) (ap_arg h0 S 1)) ?_)
  refine xx rfl (x_sto 0 g0_0 0 (eHand v2_1.1) ?_)
  refine rend ?_
  replace h := H.done h
  subst h
  exact ret func108 rfl (vs := [.agg (eHand v2_1.1).toArray]) (.cell 0 g0_0 rfl (by kernel_rfl) (by kernel_rfl) .nil) rfl (fun W S => ⟨rfl, S.below⟩)
theorem C.s_DrawOneHand {fu : Nat} {a0 : (List Int)} {A0 : Option Addr} {k0 : Nat} {r : Hand} (w : World) (h : X.s_DrawOneHand fu a0 = some r) (h0 : RdT (eI .u8) w (.slice A0 (List.length a0) k0) a0) : Calls prog 25 #[.slice A0 (List.length a0) k0] w (Ret w (.agg (eHand r).toArray)) := by
  refine calls (M := no) (args := [.slice A0 (List.length a0) k0]) func25 rfl ?_
  replace h : H (X.s_DrawOneHand fu a0) (fun o => o = r) := H.mk h
  unfold X.s_DrawOneHand at h
  refine c_seq ?_
  refine r_start ?_
  refine xx rfl (x_new (eHand zHand) fun g0_0 => ?_)
  refine rend ?_
  refine c_seq ?_
  refine r_start ?_
  refine p 1 ?_
  obtain ⟨v1_1, hv1_1, h⟩ := H.call h
  refine xq rfl (y_call [.slice A0 (List.length a0) k0] (.agg (eHand v1_1).toArray) func108 (fun W S => C.s_DrawIsHand W hv1_1 ((s_arg h0).out W S))) ?_
  refine xx rfl (x_sto 0 g0_0 0 (eHand v1_1) ?_)
  refine rend ?_
  replace h := H.done h
  subst h
  exact ret func25 rfl (vs := [.agg (eHand v1_1).toArray]) (.cell 0 g0_0 rfl (by kernel_rfl) (by kernel_rfl) .nil) rfl (fun W S => ⟨rfl, S.below⟩)
end Go.Proofs.XC
