/- Contracts: each function, called where its plain function gives an answer, returns just that answer and changes nothing that was there. By AI agents; no person has read it. -/
import Derived.Test.YtldkmmopfhhdgaaGreatDoorC1
import Derived.Test.YtldkmmopfhhdgaaGreatDoorE0
set_option linter.unusedVariables false
set_option linter.unusedSimpArgs false
set_option maxRecDepth 100000
set_option maxHeartbeats 40000000
namespace Go.Proofs.XC
open Go Go.RowKit
open Tryz
theorem C.s_DrawCompareHands {fu : Nat} {a0 : (List Int)} {A0 : Option Addr} {k0 : Nat} {r : (Hand × Hand)} (w : World) (h : X.s_DrawCompareHands fu a0 = some r) (h0 : RdT (eI .u8) w (.slice A0 (List.length a0) k0) a0) : Calls prog 27 #[.slice A0 (List.length a0) k0] w (Ret w (.tuple #[.agg (eHand r.1).toArray, .agg (eHand r.2).toArray])) := by
  refine calls (M := no) (args := [.slice A0 (List.length a0) k0]) func27 rfl ?_
  replace h : H (X.s_DrawCompareHands fu a0) (fun o => o = r) := H.mk h
  unfold X.s_DrawCompareHands at h
  refine c_seq ?_
  refine r_start ?_
  refine xx rfl (x_new (eHand zHand) fun g0_0 => ?_)
  refine xx rfl (x_new (eHand zHand) fun g0_1 => ?_)
  refine rend ?_
  refine c_seq ?_
  refine r_start ?_
  refine p 2 ?_
  refine xx rfl (x_box [.slice A0 (List.length a0) k0, .int .i64 0, .int .u64 0] fun g1_2 => ?_)
  refine p 1 ?_
  refine rend ?_
  refine c_seq ?_
  refine r_start ?_
  refine p 1 ?_
  obtain ⟨v2_1, hv2_1, h⟩ := H.call h
  refine xx rfl (e_cq (cs' := [.slice A0 (List.length a0) k0, .int .i64 v2_1.2.1, .int .u64 v2_1.2.2]) (v := .agg (eHand v2_1.1).toArray) 2 [.pointer (some ⟨g1_2, 0, none⟩)] func88 (fun W S => C.s_l1Cur_anyHand W hv2_1 (S.bx 2) ((s_arg h0).out W S) (ap_arg h0 S 2)) ?_)
  refine xx rfl (x_new (eHand zHand) fun g2_2 => ?_)
  refine xx rfl (x_sto 3 g2_2 0 (eHand v2_1.1) ?_)
  refine rend ?_
  refine c_seq ?_
  refine c_seq ?_
  refine r_start ?_
  refine p 1 ?_
  obtain ⟨v3_1, hv3_1, h⟩ := H.call h
  refine xx rfl (e_cq (cs' := [.slice A0 (List.length a0) k0, .int .i64 v3_1.2.1, .int .u64 v3_1.2.2]) (v := .bool v3_1.1) 2 [.pointer (some ⟨g1_2, 0, none⟩), .int .i64 2] func90 (fun W S => C.s_l1Cur_one W hv3_1 (S.bx 2) ((s_arg h0).out W S) (ap_arg h0 S 2)) ?_)
  refine rend ?_
  refine c_or v3_1.1 (fun q1 => ?_) (fun q1 => ?_)
  · replace h := H.t q1 h
    refine c_seq ?_
    refine r_start ?_
    refine xq rfl (y_load (.agg (eHand v2_1.1).toArray) 3 g2_2 0) ?_
    refine xx rfl (x_new (eHand zHand) fun g4_1 => ?_)
    refine xx rfl (x_sto 4 g4_1 0 (eHand v2_1.1) ?_)
    refine rend ?_
    refine c_seq ?_
    refine r_start ?_
    refine p 1 ?_
    obtain ⟨v5_1, hv5_1, h⟩ := H.call h
    refine xx rfl (e_cq (cs' := [.slice A0 (List.length a0) k0, .int .i64 v5_1.2.1, .int .u64 v5_1.2.2]) (v := .agg (eMove v5_1.1).toArray) 2 [.pointer (some ⟨g1_2, 0, none⟩)] func109 (fun W S => C.s_l1Cur_move W hv5_1 (S.bx 2) ((s_arg h0).out W S) (ap_arg h0 S 2)) ?_)
    refine p 1 ?_
    refine xx rfl (x_sto 4 g4_1 11 (eHand ({ v2_1.1 with Move := v5_1.1 })) ?_)
    refine rend ?_
    refine c_seq ?_
    refine pick [2, 3, 4, 0, 1] [box g1_2 92 [.slice A0 (List.length a0) k0, .int .i64 v5_1.2.1, .int .u64 v5_1.2.2], box g2_2 33 (eHand v2_1.1), box g4_1 33 (eHand ({ v2_1.1 with Move := v5_1.1 })), box g0_0 33 (eHand zHand), box g0_1 33 (eHand zHand)] ?_
    refine as_startN 4 3 4 ?_
    refine aq 0 rfl (y_load (.agg (eHand v2_1.1).toArray) 1 g2_2 0) ?_
    refine aq 1 rfl (y_load (.agg (eHand ({ v2_1.1 with Move := v5_1.1 })).toArray) 2 g4_1 0) ?_
    refine ax 2 rfl (x_sto 3 g0_0 0 (eHand v2_1.1) ⟨.inr (by kernel_rfl), ?_⟩)
    refine ax 3 rfl (x_sto 4 g0_1 0 (eHand ({ v2_1.1 with Move := v5_1.1 })) ⟨.inr (by kernel_rfl), ?_⟩)
    refine a_done ?_
    refine pick [3, 4, 0, 1, 2] [box g0_0 33 (eHand v2_1.1), box g0_1 33 (eHand ({ v2_1.1 with Move := v5_1.1 })), box g1_2 92 [.slice A0 (List.length a0) k0, .int .i64 v5_1.2.1, .int .u64 v5_1.2.2], box g2_2 33 (eHand v2_1.1), box g4_1 33 (eHand ({ v2_1.1 with Move := v5_1.1 }))] ?_
    replace h := H.done h
    subst h
    exact ret func27 rfl (vs := [.agg (eHand v2_1.1).toArray, .agg (eHand ({ v2_1.1 with Move := v5_1.1 })).toArray]) (.cell 0 g0_0 rfl (by kernel_rfl) (by kernel_rfl) (.cell 1 g0_1 rfl (by kernel_rfl) (by kernel_rfl) .nil)) rfl (fun W S => ⟨rfl, S.below⟩)
  replace h := H.f q1 h
  refine c_skip ?_
  refine c_seq ?_
  refine pick [0, 1, 3, 2] [box g0_0 33 (eHand zHand), box g0_1 33 (eHand zHand), box g2_2 33 (eHand v2_1.1), box g1_2 92 [.slice A0 (List.length a0) k0, .int .i64 v3_1.2.1, .int .u64 v3_1.2.2]] ?_
  refine as_startN 3 3 5 ?_
  refine aq 0 rfl (y_load (.agg (eHand v2_1.1).toArray) 2 g2_2 0) ?_
  refine ap 1 1 ?_
  obtain ⟨v7_2, hv7_2, h⟩ := H.call h
  refine ax 2 rfl (e_cq (cs' := [.slice A0 (List.length a0) k0, .int .i64 v7_2.2.1, .int .u64 v7_2.2.2]) (v := .agg (eHand v7_2.1).toArray) 3 [.pointer (some ⟨g1_2, 0, none⟩)] func88 (fun W S => C.s_l1Cur_anyHand W hv7_2 (S.bx 3) ((s_arg h0).out W S) (ap_arg h0 S 3)) ⟨.inr (by kernel_rfl), ?_⟩)
  refine ax 3 rfl (x_sto 0 g0_0 0 (eHand v2_1.1) ⟨.inl (by kernel_rfl), ?_⟩)
  refine ax 4 rfl (x_sto 1 g0_1 0 (eHand v7_2.1) ⟨.inl (by kernel_rfl), ?_⟩)
  refine a_done ?_
  refine pick [0, 1, 3, 2] [box g0_0 33 (eHand v2_1.1), box g0_1 33 (eHand v7_2.1), box g1_2 92 [.slice A0 (List.length a0) k0, .int .i64 v7_2.2.1, .int .u64 v7_2.2.2], box g2_2 33 (eHand v2_1.1)] ?_
  replace h := H.done h
  subst h
  exact ret func27 rfl (vs := [.agg (eHand v2_1.1).toArray, .agg (eHand v7_2.1).toArray]) (.cell 0 g0_0 rfl (by kernel_rfl) (by kernel_rfl) (.cell 1 g0_1 rfl (by kernel_rfl) (by kernel_rfl) .nil)) rfl (fun W S => ⟨rfl, S.below⟩)
theorem C.strings_Compare {a0 a1 : Str} {r : Int} (w : World) (h : X.strings_Compare a0 a1 = some r) : Calls prog 110 #[.string (bs a0), .string (bs a1)] w (Ret w (.int .i64 r)) := by
  obtain rfl := Option.some.inj h
  refine (Tryz.strings_Compare (bs a0) (bs a1) w).mono ?_
  rintro e w' ⟨rfl, rfl⟩
  exact ⟨rfl, Below.refl _ _⟩
theorem C.i_CompareHands {a0 : Hand} {a1 : Hand} {r : (Int × Bool)} (w : World) (h : X.i_CompareHands a0 a1 = some r) : Calls prog 28 #[.agg (eHand a0).toArray, .agg (eHand a1).toArray] w (Ret w (.tuple #[.int .i64 r.1, .bool r.2])) := by
  refine calls (M := no) (args := [.agg (eHand a0).toArray, .agg (eHand a1).toArray]) func28 rfl ?_
  replace h : H (X.i_CompareHands a0 a1) (fun o => o = r) := H.mk h
  unfold X.i_CompareHands at h
  refine c_seq ?_
  refine r_start ?_
  refine xx rfl (x_box (eHand a0) fun g0_0 => ?_)
  refine xx rfl (x_box (eHand a1) fun g0_1 => ?_)
  refine p 2 ?_
  refine rend ?_
  refine c_seq ?_
  refine c_seq ?_
  refine r_start ?_
  refine xq rfl (y_load (.agg (eHand a0).toArray) 0 g0_0 0) ?_
  obtain ⟨v1_1, hv1_1, h⟩ := H.call h
  refine xq rfl (y_call [.agg (eHand a0).toArray] (.bool v1_1) func14 (fun W S => C.i_IsHand W hv1_1)) ?_
  refine p 2 ?_
  refine br (!v1_1) (fun q1 => ?_) (fun q1 => ?_)
  · replace h := H.t q1 h
    refine o_set 9 (congrArg Value.bool q1) ?_
    refine p 4 ?_
    refine rend ?_
    refine c_t (by kernel_rfl) ?_
    refine c_seq ?_
    refine r_start ?_
    refine p 2 ?_
    refine rend ?_
    replace h := H.done h
    subst h
    exact ret func28 rfl (vs := [.int .i64 0, .bool false]) (.tmp (by kernel_rfl) (.tmp (by kernel_rfl) .nil)) rfl (fun W S => ⟨rfl, S.below⟩)
  replace h := H.f q1 h
  refine o_set 9 (congrArg Value.bool q1) ?_
  refine xq rfl (y_load (.agg (eHand a1).toArray) 1 g0_1 0) ?_
  obtain ⟨v1_5, hv1_5, h⟩ := H.call h
  refine xq rfl (y_call [.agg (eHand a1).toArray] (.bool v1_5) func14 (fun W S => C.i_IsHand W hv1_5)) ?_
  refine p 2 ?_
  refine rend ?_
  refine c_or (!v1_5) (fun q2 => ?_) (fun q2 => ?_)
  · replace h := H.t q2 h
    refine c_seq ?_
    refine r_start ?_
    refine p 2 ?_
    refine rend ?_
    replace h := H.done h
    subst h
    exact ret func28 rfl (vs := [.int .i64 0, .bool false]) (.tmp (by kernel_rfl) (.tmp (by kernel_rfl) .nil)) rfl (fun W S => ⟨rfl, S.below⟩)
  replace h := H.f q2 h
  refine c_skip ?_
  refine c_seq ?_
  refine as_start 7 7 ?_
  refine aq 0 rfl (y_load (.agg (eHand a0).toArray) 0 g0_0 0) ?_
  obtain ⟨v3_1, hv3_1, h⟩ := H.call h
  refine aq 1 rfl (y_call [.agg (eHand a0).toArray] (.string (bs v3_1)) func111 (fun W S => C.i_Hand_text W hv3_1)) ?_
  refine aq 2 rfl (y_load (.agg (eHand a1).toArray) 1 g0_1 0) ?_
  obtain ⟨v3_3, hv3_3, h⟩ := H.call h
  refine aq 3 rfl (y_call [.agg (eHand a1).toArray] (.string (bs v3_3)) func111 (fun W S => C.i_Hand_text W hv3_3)) ?_
  obtain ⟨v3_4, hv3_4, h⟩ := H.call h
  refine aq 4 rfl (y_call [.string (bs v3_1), .string (bs v3_3)] (.int .i64 v3_4) func110 (fun W S => C.strings_Compare W hv3_4)) ?_
  refine ap 5 2 ?_
  refine a_done ?_
  replace h := H.done h
  subst h
  exact ret func28 rfl (vs := [.int .i64 v3_4, .bool true]) (.tmp (by kernel_rfl) (.tmp (by kernel_rfl) .nil)) rfl (fun W S => ⟨rfl, S.below⟩)
theorem C.s_siCompare {fu : Nat} {a0 : Hand} {a1 : Hand} {r : Int} (w : World) (h : X.s_siCompare fu a0 a1 = some r) : Calls prog 112 #[.agg (eHand a0).toArray, .agg (eHand a1).toArray] w (Ret w (.int .i64 r)) := by
  refine calls (M := no) (args := [.agg (eHand a0).toArray, .agg (eHand a1).toArray]) func112 rfl ?_
  replace h : H (X.s_siCompare fu a0 a1) (fun o => o = r) := H.mk h
  unfold X.s_siCompare at h
  refine c_seq ?_
  refine r_start ?_
  refine xx rfl (x_box (eHand a0) fun g0_0 => ?_)
  refine xx rfl (x_box (eHand a1) fun g0_1 => ?_)
  refine p 1 ?_
  refine rend ?_
  refine c_seq ?_
  refine c_seq ?_
  refine as_start 6 6 ?_
  refine aq 0 rfl (y_load (.agg (eHand a0).toArray) 0 g0_0 0) ?_
  obtain ⟨v1_1, hv1_1, h⟩ := H.call h
  refine aq 1 rfl (y_call [.agg (eHand a0).toArray] (.string (bs v1_1)) func113 (fun W S => C.s_siText W hv1_1)) ?_
  refine aq 2 rfl (y_load (.agg (eHand a1).toArray) 1 g0_1 0) ?_
  obtain ⟨v1_3, hv1_3, h⟩ := H.call h
  refine aq 3 rfl (y_call [.agg (eHand a1).toArray] (.string (bs v1_3)) func113 (fun W S => C.s_siText W hv1_3)) ?_
  refine ap 4 2 ?_
  refine a_done ?_
  refine c_block ?_
  refine c_seq ?_
  refine r_start ?_
  refine p 4 ?_
  refine rend ?_
  refine c_or (slt v1_1 v1_3) (fun q1 => ?_) (fun q1 => ?_)
  · replace h := H.t q1 h
    refine c_seq ?_
    refine r_start ?_
    refine p 1 ?_
    refine rend ?_
    replace h := H.done h
    subst h
    exact ret func112 rfl (vs := [.int .i64 (-1)]) (.tmp (by kernel_rfl) .nil) rfl (fun W S => ⟨rfl, S.below⟩)
  replace h := H.f q1 h
  refine c_seq ?_
  refine r_start ?_
  refine p 4 ?_
  refine rend ?_
  refine c_or (!(slt v1_1 v1_3 || seq v1_1 v1_3)) (fun q2 => ?_) (fun q2 => ?_)
  · replace h := H.t q2 h
    refine c_seq ?_
    refine r_start ?_
    refine p 1 ?_
    refine rend ?_
    replace h := H.done h
    subst h
    exact ret func112 rfl (vs := [.int .i64 1]) (.tmp (by kernel_rfl) .nil) rfl (fun W S => ⟨rfl, S.below⟩)
  replace h := H.f q2 h
  refine c_skip ?_
  refine c_inb ?_
  refine c_seq ?_
  refine r_start ?_
  refine p 1 ?_
  refine rend ?_
  replace h := H.done h
  subst h
  exact ret func112 rfl (vs := [.int .i64 0]) (.tmp (by kernel_rfl) .nil) rfl (fun W S => ⟨rfl, S.below⟩)
theorem C.s_CompareHands {fu : Nat} {a0 : Hand} {a1 : Hand} {r : (Int × Bool)} (w : World) (h : X.s_CompareHands fu a0 a1 = some r) : Calls prog 29 #[.agg (eHand a0).toArray, .agg (eHand a1).toArray] w (Ret w (.tuple #[.int .i64 r.1, .bool r.2])) := by
  refine calls (M := no) (args := [.agg (eHand a0).toArray, .agg (eHand a1).toArray]) func29 rfl ?_
  replace h : H (X.s_CompareHands fu a0 a1) (fun o => o = r) := H.mk h
  unfold X.s_CompareHands at h
  refine c_seq ?_
  refine r_start ?_
  refine xx rfl (x_box (eHand a0) fun g0_0 => ?_)
  refine xx rfl (x_box (eHand a1) fun g0_1 => ?_)
  refine p 2 ?_
  refine rend ?_
  refine c_seq ?_
  refine c_seq ?_
  refine r_start ?_
  refine xq rfl (y_load (.agg (eHand a0).toArray) 0 g0_0 0) ?_
  obtain ⟨v1_1, hv1_1, h⟩ := H.call h
  refine xq rfl (y_call [.agg (eHand a0).toArray] (.bool v1_1) func95 (fun W S => C.s_siHand W hv1_1)) ?_
  refine p 2 ?_
  refine br (!v1_1) (fun q1 => ?_) (fun q1 => ?_)
  · replace h := H.t q1 h
    refine o_set 9 (congrArg Value.bool q1) ?_
    refine p 4 ?_
    refine rend ?_
    refine c_t (by kernel_rfl) ?_
    refine c_seq ?_
    refine r_start ?_
    refine p 2 ?_
    refine rend ?_
    replace h := H.done h
    subst h
    exact ret func29 rfl (vs := [.int .i64 0, .bool false]) (.tmp (by kernel_rfl) (.tmp (by kernel_rfl) .nil)) rfl (fun W S => ⟨rfl, S.below⟩)
  replace h := H.f q1 h
  refine o_set 9 (congrArg Value.bool q1) ?_
  refine xq rfl (y_load (.agg (eHand a1).toArray) 1 g0_1 0) ?_
  obtain ⟨v1_5, hv1_5, h⟩ := H.call h
  refine xq rfl (y_call [.agg (eHand a1).toArray] (.bool v1_5) func95 (fun W S => C.s_siHand W hv1_5)) ?_
  refine p 2 ?_
  refine rend ?_
  refine c_or (!v1_5) (fun q2 => ?_) (fun q2 => ?_)
  · replace h := H.t q2 h
    refine c_seq ?_
    refine r_start ?_
    refine p 2 ?_
    refine rend ?_
    replace h := H.done h
    subst h
    exact ret func29 rfl (vs := [.int .i64 0, .bool false]) (.tmp (by kernel_rfl) (.tmp (by kernel_rfl) .nil)) rfl (fun W S => ⟨rfl, S.below⟩)
  replace h := H.f q2 h
  refine c_skip ?_
  refine c_seq ?_
  refine r_start ?_
  refine xq rfl (y_load (.agg (eHand a0).toArray) 0 g0_0 0) ?_
  refine xq rfl (y_load (.agg (eHand a1).toArray) 1 g0_1 0) ?_
  obtain ⟨v3_2, hv3_2, h⟩ := H.call h
  refine xq rfl (y_call [.agg (eHand a0).toArray, .agg (eHand a1).toArray] (.int .i64 v3_2) func112 (fun W S => C.s_siCompare W hv3_2)) ?_
  refine p 2 ?_
  refine rend ?_
  replace h := H.done h
  subst h
  exact ret func29 rfl (vs := [.int .i64 v3_2, .bool true]) (.tmp (by kernel_rfl) (.tmp (by kernel_rfl) .nil)) rfl (fun W S => ⟨rfl, S.below⟩)
theorem C.i_HandText {a0 : Hand} {r : (Str × Bool)} (w : World) (h : X.i_HandText a0 = some r) : Calls prog 30 #[.agg (eHand a0).toArray] w (Ret w (.tuple #[.string (bs r.1), .bool r.2])) := by
  refine calls (M := no) (args := [.agg (eHand a0).toArray]) func30 rfl ?_
  replace h : H (X.i_HandText a0) (fun o => o = r) := H.mk h
  unfold X.i_HandText at h
  refine c_seq ?_
  refine r_start ?_
  refine xx rfl (x_box (eHand a0) fun g0_0 => ?_)
  refine p 2 ?_
  refine rend ?_
  refine c_seq ?_
  refine c_seq ?_
  refine r_start ?_
  refine xq rfl (y_load (.agg (eHand a0).toArray) 0 g0_0 0) ?_
  obtain ⟨v1_1, hv1_1, h⟩ := H.call h
  refine xq rfl (y_call [.agg (eHand a0).toArray] (.bool v1_1) func14 (fun W S => C.i_IsHand W hv1_1)) ?_
  refine p 1 ?_
  refine rend ?_
  refine c_or (!v1_1) (fun q1 => ?_) (fun q1 => ?_)
  · replace h := H.t q1 h
    refine c_seq ?_
    refine r_start ?_
    refine p 2 ?_
    refine rend ?_
    replace h := H.done h
    subst h
    exact ret func30 rfl (vs := [.string (bs ([] : Str)), .bool false]) (.tmp (by kernel_rfl) (.tmp (by kernel_rfl) .nil)) rfl (fun W S => ⟨rfl, S.below⟩)
  replace h := H.f q1 h
  refine c_skip ?_
  refine c_seq ?_
  refine r_start ?_
  refine xq rfl (y_load (.agg (eHand a0).toArray) 0 g0_0 0) ?_
  obtain ⟨v3_1, hv3_1, h⟩ := H.call h
  refine xq rfl (y_call [.agg (eHand a0).toArray] (.string (bs v3_1)) func111 (fun W S => C.i_Hand_text W hv3_1)) ?_
  refine p 2 ?_
  refine rend ?_
  replace h := H.done h
  subst h
  exact ret func30 rfl (vs := [.string (bs v3_1), .bool true]) (.tmp (by kernel_rfl) (.tmp (by kernel_rfl) .nil)) rfl (fun W S => ⟨rfl, S.below⟩)
theorem C.s_HandText {fu : Nat} {a0 : Hand} {r : (Str × Bool)} (w : World) (h : X.s_HandText fu a0 = some r) : Calls prog 31 #[.agg (eHand a0).toArray] w (Ret w (.tuple #[.string (bs r.1), .bool r.2])) := by
  refine calls (M := no) (args := [.agg (eHand a0).toArray]) func31 rfl ?_
  replace h : H (X.s_HandText fu a0) (fun o => o = r) := H.mk h
  unfold X.s_HandText at h
  refine c_seq ?_
  refine r_start ?_
  refine xx rfl (x_box (eHand a0) fun g0_0 => ?_)
  refine p 2 ?_
  refine rend ?_
  refine c_seq ?_
  refine c_seq ?_
  refine r_start ?_
  refine xq rfl (y_load (.agg (eHand a0).toArray) 0 g0_0 0) ?_
  obtain ⟨v1_1, hv1_1, h⟩ := H.call h
  refine xq rfl (y_call [.agg (eHand a0).toArray] (.bool v1_1) func95 (fun W S => C.s_siHand W hv1_1)) ?_
  refine p 1 ?_
  refine rend ?_
  refine c_or (!v1_1) (fun q1 => ?_) (fun q1 => ?_)
  · replace h := H.t q1 h
    refine c_seq ?_
    refine r_start ?_
    refine p 2 ?_
    refine rend ?_
    replace h := H.done h
    subst h
    exact ret func31 rfl (vs := [.string (bs ([] : Str)), .bool false]) (.tmp (by kernel_rfl) (.tmp (by kernel_rfl) .nil)) rfl (fun W S => ⟨rfl, S.below⟩)
  replace h := H.f q1 h
  refine c_skip ?_
  refine c_seq ?_
  refine r_start ?_
  refine xq rfl (y_load (.agg (eHand a0).toArray) 0 g0_0 0) ?_
  obtain ⟨v3_1, hv3_1, h⟩ := H.call h
  refine xq rfl (y_call [.agg (eHand a0).toArray] (.string (bs v3_1)) func113 (fun W S => C.s_siText W hv3_1)) ?_
  refine p 2 ?_
  refine rend ?_
  replace h := H.done h
  subst h
  exact ret func31 rfl (vs := [.string (bs v3_1), .bool true]) (.tmp (by kernel_rfl) (.tmp (by kernel_rfl) .nil)) rfl (fun W S => ⟨rfl, S.below⟩)
theorem C.s_PlainShapes {fu : Nat} {r : (List Shape)} (w : World) (h : X.s_PlainShapes fu = some r) : Calls prog 33 #[] w (RetR nShape 25 w r (fun v => v)) := by
  refine calls (M := no) (args := []) func33 rfl ?_
  replace h : H (X.s_PlainShapes fu) (fun o => o = r) := H.mk h
  unfold X.s_PlainShapes at h
  refine c_seq ?_
  refine r_start ?_
  refine p 1 ?_
  refine rend ?_
  refine c_seq ?_
  refine r_start ?_
  obtain ⟨v1_0, hv1_0, h⟩ := H.call h
  refine xx rfl (e_cr [] (fun v => v) func115 (fun W S => C.s_siPlain W hv1_0) fun A1_0 k1_0 => ?_)
  refine p 1 ?_
  refine rend ?_
  replace h := H.done h
  subst h
  exact ret func33 rfl (vs := [.slice A1_0 (List.length v1_0) k1_0]) (.tmp (by kernel_rfl) .nil) rfl (fun W S => ⟨_, _, rfl, S.row 0, S.below⟩)
theorem C.l_pSameShapes {a0 : (List Shape)} {A0 : Option Addr} {k0 : Nat} {a1 : (List Shape)} {A1 : Option Addr} {k1 : Nat} {r : Bool} (w : World) (h : X.l_pSameShapes a0 a1 = some r) (h0 : RdT nShape w (.slice A0 (List.length a0) k0) a0) (h1 : RdT nShape w (.slice A1 (List.length a1) k1) a1) : Calls prog 34 #[.slice A0 (List.length a0) k0, .slice A1 (List.length a1) k1] w (Ret w (.bool r)) := by
  refine calls (M := no) (args := [.slice A0 (List.length a0) k0, .slice A1 (List.length a1) k1]) func34 rfl ?_
  replace h : H (X.l_pSameShapes a0 a1) (fun o => o = r) := H.mk h
  unfold X.l_pSameShapes at h
  refine c_seq ?_
  refine r_start ?_
  refine p 1 ?_
  refine rend ?_
  refine c_seq ?_
  refine c_seq ?_
  refine r_start ?_
  refine p 5 ?_
  refine rend ?_
  refine c_or ((List.length a0 : Int) != (List.length a1 : Int)) (fun q1 => ?_) (fun q1 => ?_)
  · replace h := H.t q1 h
    refine c_seq ?_
    refine r_start ?_
    refine p 1 ?_
    refine rend ?_
    replace h := H.done h
    subst h
    exact ret func34 rfl (vs := [.bool false]) (.tmp (by kernel_rfl) .nil) rfl (fun W S => ⟨rfl, S.below⟩)
  replace h := H.f q1 h
  refine c_skip ?_
  refine c_seq ?_
  refine c_seq ?_
  refine r_start ?_
  refine p 3 ?_
  refine rend ?_
  refine c_block ?_
  refine joinE (X := Unit) 0 (H.or h) (fun (x : Unit) => x) (fun _ => []) (fun _ u => (jk u 0 26 [])) (fun h hj2 => ?_) ?_
  · skip
    refine rangeR (X := Unit) (s_arg h0) (fun (x : Unit) => x) (fun _ => []) (fun (j3 : Nat) _ u => (.slice A0 (List.length a0) k0 :: .slice A1 (List.length a1) k1 :: (jk u 2 10 (.int .i64 (List.length a0 : Int) :: .int .i64 (j3 : Int) :: (jk u 14 12 []))))) () h (by kernel_rfl) (by kernel_rfl) ?_ ?_
    · intro j3 x u x4 q5 hg6 hw7 h
      refine c_seq ?_
      refine r_start ?_
      refine p 1 ?_
      refine rend ?_
      refine c_seq ?_
      refine c_yes q5 ?_
      refine c_skip ?_
      refine c_seq ?_
      refine c_block ?_
      refine c_seq ?_
      refine r_start ?_
      refine p 2 ?_
      refine rend ?_
      refine c_seq ?_
      refine as_start 9 9 ?_
      refine ap 0 2 ?_
      refine aq 2 rfl (y_idx (e := nShape) (el := 25) hg6 (s_arg h0)) ?_
      refine aq 3 rfl (y_el (e := nShape) 0 (.agg (eShape x4).toArray) hg6 (s_arg h0)) ?_
      refine ap 4 2 ?_
      obtain ⟨y6_6, hy6_6, h⟩ := H.call h
      refine aq 6 rfl (y_idx (e := nShape) (el := 25) hy6_6 (s_arg h1)) ?_
      refine aq 7 rfl (y_el (e := nShape) 0 (.agg (eShape y6_6).toArray) hy6_6 (s_arg h1)) ?_
      refine ap 8 1 ?_
      refine a_done ?_
      refine c_or (!qShape x4 y6_6) (fun q8 => ?_) (fun q8 => ?_)
      · replace h := H.t q8 h
        refine c_seq ?_
        refine r_start ?_
        refine p 1 ?_
        refine rend ?_
        replace h := H.inr h
        replace h := H.done h
        subst h
        exact ret func34 rfl (vs := [.bool false]) (.tmp (by kernel_rfl) .nil) rfl (fun W S => ⟨rfl, S.below⟩)
      replace h := H.f q8 h
      refine c_skip ?_
      refine c_inb ?_
      refine r_start ?_
      refine p 2 ?_
      refine rend ?_
      refine c_set 13 (ci hw7) ?_
      replace h := H.inl h
      exact h () _ _ rfl (by kernel_rfl) (by kernel_rfl)
    · intro x u q5 h
      refine c_seq ?_
      refine r_start ?_
      refine p 1 ?_
      refine rend ?_
      refine c_seq ?_
      refine c_no q5 ?_
      refine cx ?_
      replace h := H.done h
      exact hj2 () _ _ h (by kernel_rfl) (by kernel_rfl)
  intro x u h
  refine c_seq ?_
  refine r_start ?_
  refine p 1 ?_
  refine rend ?_
  replace h := H.done h
  subst h
  exact ret func34 rfl (vs := [.bool true]) (.tmp (by kernel_rfl) .nil) rfl (fun W S => ⟨rfl, S.below⟩)
theorem C.s_IsHand {fu : Nat} {a0 : Hand} {r : Bool} (w : World) (h : X.s_IsHand fu a0 = some r) : Calls prog 35 #[.agg (eHand a0).toArray] w (Ret w (.bool r)) := by
  refine calls (M := no) (args := [.agg (eHand a0).toArray]) func35 rfl ?_
  replace h : H (X.s_IsHand fu a0) (fun o => o = r) := H.mk h
  unfold X.s_IsHand at h
  refine c_seq ?_
  refine r_start ?_
  refine xx rfl (x_box (eHand a0) fun g0_0 => ?_)
  refine p 1 ?_
  refine rend ?_
  refine c_seq ?_
  refine r_start ?_
  refine xq rfl (y_load (.agg (eHand a0).toArray) 0 g0_0 0) ?_
  obtain ⟨v1_1, hv1_1, h⟩ := H.call h
  refine xq rfl (y_call [.agg (eHand a0).toArray] (.bool v1_1) func95 (fun W S => C.s_siHand W hv1_1)) ?_
  refine p 1 ?_
  refine rend ?_
  replace h := H.done h
  subst h
  exact ret func35 rfl (vs := [.bool v1_1]) (.tmp (by kernel_rfl) .nil) rfl (fun W S => ⟨rfl, S.below⟩)
theorem C.s_DrawBrokenRule {fu : Nat} {a0 : (List Int)} {A0 : Option Addr} {k0 : Nat} {r : (Hand × Hand)} (w : World) (h : X.s_DrawBrokenRule fu a0 = some r) (h0 : RdT (eI .u8) w (.slice A0 (List.length a0) k0) a0) : Calls prog 36 #[.slice A0 (List.length a0) k0] w (Ret w (.tuple #[.agg (eHand r.1).toArray, .agg (eHand r.2).toArray])) := by
  refine calls (M := no) (args := [.slice A0 (List.length a0) k0]) func36 rfl ?_
  replace h : H (X.s_DrawBrokenRule fu a0) (fun o => o = r) := H.mk h
  unfold X.s_DrawBrokenRule at h
  refine c_seq ?_
  refine r_start ?_
  refine xx rfl (x_new (eHand zHand) fun g0_0 => ?_)
  refine xx rfl (x_new (eHand zHand) fun g0_1 => ?_)
  refine rend ?_
  refine c_seq ?_
  refine r_start ?_
  refine p 1 ?_
  obtain ⟨v1_1, hv1_1, h⟩ := H.call h
  refine xq rfl (y_call [.slice A0 (List.length a0) k0] (.tuple #[.agg (eHand v1_1.1).toArray, .agg (eHand v1_1.2).toArray]) func9 (fun W S => C.s_DrawTwoHands W hv1_1 ((s_arg h0).out W S))) ?_
  refine p 2 ?_
  refine xx rfl (x_sto 0 g0_0 0 (eHand v1_1.1) ?_)
  refine xx rfl (x_sto 1 g0_1 0 (eHand v1_1.2) ?_)
  refine rend ?_
  replace h := H.done h
  subst h
  exact ret func36 rfl (vs := [.agg (eHand v1_1.1).toArray, .agg (eHand v1_1.2).toArray]) (.cell 0 g0_0 rfl (by kernel_rfl) (by kernel_rfl) (.cell 1 g0_1 rfl (by kernel_rfl) (by kernel_rfl) .nil)) rfl (fun W S => ⟨rfl, S.below⟩)
theorem C.l_FnHands {fu : Nat} {a0 : (List Int)} {A0 : Option Addr} {k0 : Nat} {a1 : (List Int)} {A1 : Option Addr} {k1 : Nat} {r : Bool} (w : World) (h : X.l_FnHands fu a0 a1 = some r) (h0 : RdT (eI .u8) w (.slice A0 (List.length a0) k0) a0) (h1 : RdT (eI .u8) w (.slice A1 (List.length a1) k1) a1) : Calls prog 4 #[.slice A0 (List.length a0) k0, .slice A1 (List.length a1) k1] w (Ret w (.bool r)) := by
  refine calls (M := no) (args := [.slice A0 (List.length a0) k0, .slice A1 (List.length a1) k1]) func4 rfl ?_
  replace h : H (X.l_FnHands fu a0 a1) (fun o => o = r) := H.mk h
  unfold X.l_FnHands at h
  refine c_seq ?_
  refine r_start ?_
  refine p 1 ?_
  refine rend ?_
  refine c_seq ?_
  refine c_seq ?_
  refine r_start ?_
  refine p 2 ?_
  obtain ⟨v1_2, hv1_2, h⟩ := H.call h
  refine xq rfl (y_call [.slice A0 (List.length a0) k0, .slice A1 (List.length a1) k1] (.bool v1_2) func8 (fun W S => C.l_big W hv1_2 ((s_arg h0).out W S) ((s_arg h1).out W S))) ?_
  refine rend ?_
  refine c_or v1_2 (fun q1 => ?_) (fun q1 => ?_)
  · replace h := H.t q1 h
    refine c_seq ?_
    refine r_start ?_
    refine p 1 ?_
    refine rend ?_
    replace h := H.done h
    subst h
    exact ret func4 rfl (vs := [.bool true]) (.tmp (by kernel_rfl) .nil) rfl (fun W S => ⟨rfl, S.below⟩)
  replace h := H.f q1 h
  refine c_skip ?_
  refine c_seq ?_
  refine r_start ?_
  refine p 1 ?_
  obtain ⟨v3_1, hv3_1, h⟩ := H.call h
  refine xq rfl (y_call [.slice A0 (List.length a0) k0] (.tuple #[.agg (eHand v3_1.1).toArray, .agg (eHand v3_1.2).toArray]) func27 (fun W S => C.s_DrawCompareHands W hv3_1 ((s_arg h0).out W S))) ?_
  refine p 3 ?_
  refine xx rfl (x_new (eHand zHand) fun g3_5 => ?_)
  refine xx rfl (x_new (eHand zHand) fun g3_6 => ?_)
  refine xx rfl (x_sto 0 g3_5 0 (eHand v3_1.1) ?_)
  refine xx rfl (x_sto 1 g3_6 0 (eHand v3_1.2) ?_)
  refine rend ?_
  refine c_seq ?_
  refine r_start ?_
  refine xq rfl (y_load (.agg (eHand v3_1.1).toArray) 0 g3_5 0) ?_
  refine xq rfl (y_load (.agg (eHand v3_1.2).toArray) 1 g3_6 0) ?_
  obtain ⟨v4_2, hv4_2, h⟩ := H.call h
  refine xq rfl (y_call [.agg (eHand v3_1.1).toArray, .agg (eHand v3_1.2).toArray] (.tuple #[.int .i64 v4_2.1, .bool v4_2.2]) func28 (fun W S => C.i_CompareHands W hv4_2)) ?_
  refine p 5 ?_
  refine rend ?_
  refine c_seq ?_
  refine r_start ?_
  refine xq rfl (y_load (.agg (eHand v3_1.1).toArray) 0 g3_5 0) ?_
  refine xq rfl (y_load (.agg (eHand v3_1.2).toArray) 1 g3_6 0) ?_
  obtain ⟨v5_2, hv5_2, h⟩ := H.call h
  refine xq rfl (y_call [.agg (eHand v3_1.1).toArray, .agg (eHand v3_1.2).toArray] (.tuple #[.int .i64 v5_2.1, .bool v5_2.2]) func29 (fun W S => C.s_CompareHands W hv5_2)) ?_
  refine p 5 ?_
  refine rend ?_
  refine c_seq ?_
  refine r_start ?_
  refine xq rfl (y_load (.agg (eHand v3_1.1).toArray) 0 g3_5 0) ?_
  obtain ⟨v6_1, hv6_1, h⟩ := H.call h
  refine xq rfl (y_call [.agg (eHand v3_1.1).toArray] (.tuple #[.string (bs v6_1.1), .bool v6_1.2]) func30 (fun W S => C.i_HandText W hv6_1)) ?_
  refine p 5 ?_
  refine rend ?_
  refine c_seq ?_
  refine r_start ?_
  refine xq rfl (y_load (.agg (eHand v3_1.1).toArray) 0 g3_5 0) ?_
  obtain ⟨v7_1, hv7_1, h⟩ := H.call h
  refine xq rfl (y_call [.agg (eHand v3_1.1).toArray] (.tuple #[.string (bs v7_1.1), .bool v7_1.2]) func31 (fun W S => C.s_HandText W hv7_1)) ?_
  refine p 5 ?_
  refine rend ?_
  refine c_seq ?_
  refine r_start ?_
  refine xq rfl (y_load (.agg (eHand v3_1.2).toArray) 1 g3_6 0) ?_
  obtain ⟨v8_1, hv8_1, h⟩ := H.call h
  refine xq rfl (y_call [.agg (eHand v3_1.2).toArray] (.tuple #[.string (bs v8_1.1), .bool v8_1.2]) func30 (fun W S => C.i_HandText W hv8_1)) ?_
  refine p 5 ?_
  refine rend ?_
  refine c_seq ?_
  refine r_start ?_
  refine xq rfl (y_load (.agg (eHand v3_1.2).toArray) 1 g3_6 0) ?_
  obtain ⟨v9_1, hv9_1, h⟩ := H.call h
  refine xq rfl (y_call [.agg (eHand v3_1.2).toArray] (.tuple #[.string (bs v9_1.1), .bool v9_1.2]) func31 (fun W S => C.s_HandText W hv9_1)) ?_
  refine p 5 ?_
  refine rend ?_
  refine c_seq ?_
  refine c_seq ?_
  refine joinT (X := Bool) (H.bnd h) (fun (x : Bool) => x) (fun b2 => [box g3_5 33 (eHand v3_1.1), box g3_6 33 (eHand v3_1.2)]) (fun b2 u => (jk u 0 1 (.slice A1 (List.length a1) k1 :: (jk u 2 3 (.pointer (some ⟨g3_5, 0, none⟩) :: .pointer (some ⟨g3_6, 0, none⟩) :: (jk u 7 1 (.bool v4_2.2 :: .int .i64 v5_2.1 :: (jk u 10 3 (.string (bs v7_1.1) :: (jk u 14 3 (.string (bs v9_1.1) :: (jk u 18 92 (.bool b2 :: (jk u 111 102 [])))))))))))))) (fun h hj3 => ?_) ?_
  · skip
    refine r_start ?_
    refine p 4 ?_
    refine br (!(v4_2.2 == v5_2.2)) (fun q4 => ?_) (fun q4 => ?_)
    · replace h := H.t q4 h
      refine o_set 78 (congrArg Value.bool q4) ?_
      refine p 32 ?_
      refine rend ?_
      replace h := H.done h
      exact hj3 true _ _ h (by kernel_rfl) (by kernel_rfl)
    replace h := H.f q4 h
    refine o_set 78 (congrArg Value.bool q4) ?_
    refine p 5 ?_
    refine br (v4_2.1 != v5_2.1) (fun q5 => ?_) (fun q5 => ?_)
    · replace h := H.t q5 h
      refine o_set 83 (congrArg Value.bool q5) ?_
      refine p 27 ?_
      refine rend ?_
      replace h := H.done h
      exact hj3 true _ _ h (by kernel_rfl) (by kernel_rfl)
    replace h := H.f q5 h
    refine o_set 83 (congrArg Value.bool q5) ?_
    refine p 5 ?_
    refine br (!(v6_1.2 == v7_1.2)) (fun q6 => ?_) (fun q6 => ?_)
    · replace h := H.t q6 h
      refine o_set 88 (congrArg Value.bool q6) ?_
      refine p 22 ?_
      refine rend ?_
      replace h := H.done h
      exact hj3 true _ _ h (by kernel_rfl) (by kernel_rfl)
    replace h := H.f q6 h
    refine o_set 88 (congrArg Value.bool q6) ?_
    refine p 5 ?_
    refine br (!seq v6_1.1 v7_1.1) (fun q7 => ?_) (fun q7 => ?_)
    · replace h := H.t q7 h
      refine o_set 93 (congrArg Value.bool q7) ?_
      refine p 17 ?_
      refine rend ?_
      replace h := H.done h
      exact hj3 true _ _ h (by kernel_rfl) (by kernel_rfl)
    replace h := H.f q7 h
    refine o_set 93 (congrArg Value.bool q7) ?_
    refine p 5 ?_
    refine br (!(v8_1.2 == v9_1.2)) (fun q8 => ?_) (fun q8 => ?_)
    · replace h := H.t q8 h
      refine o_set 98 (congrArg Value.bool q8) ?_
      refine p 12 ?_
      refine rend ?_
      replace h := H.done h
      exact hj3 true _ _ h (by kernel_rfl) (by kernel_rfl)
    replace h := H.f q8 h
    refine o_set 98 (congrArg Value.bool q8) ?_
    refine p 5 ?_
    refine br (!seq v8_1.1 v9_1.1) (fun q9 => ?_) (fun q9 => ?_)
    · replace h := H.t q9 h
      refine o_set 103 (congrArg Value.bool q9) ?_
      refine p 7 ?_
      refine rend ?_
      replace h := H.done h
      exact hj3 true _ _ h (by kernel_rfl) (by kernel_rfl)
    replace h := H.f q9 h
    refine o_set 103 (congrArg Value.bool q9) ?_
    refine p 3 ?_
    refine br v6_1.2 (fun q10 => ?_) (fun q10 => ?_)
    · replace h := H.t q10 h
      refine o_set 106 (congrArg Value.bool q10) ?_
      refine p 4 ?_
      refine rend ?_
      replace h := H.done h
      exact hj3 (!(v4_2.2 == v8_1.2)) _ _ h (by kernel_rfl) (by kernel_rfl)
    replace h := H.f q10 h
    refine o_set 106 (congrArg Value.bool q10) ?_
    refine p 4 ?_
    refine rend ?_
    replace h := H.done h
    exact hj3 (!(v4_2.2 == false)) _ _ h (by kernel_rfl) (by kernel_rfl)
  intro b2 u h
  refine c_or b2 (fun q11 => ?_) (fun q11 => ?_)
  · replace h := H.t q11 h
    refine c_seq ?_
    refine r_start ?_
    refine p 1 ?_
    refine rend ?_
    replace h := H.done h
    subst h
    exact ret func4 rfl (vs := [.bool false]) (.tmp (by kernel_rfl) .nil) rfl (fun W S => ⟨rfl, S.below⟩)
  replace h := H.f q11 h
  refine c_skip ?_
  refine c_seq ?_
  refine c_seq ?_
  refine r_start ?_
  refine p 1 ?_
  refine rend ?_
  refine joinTE (X := Unit) (H.or h) (fun (x : Unit) => x) (fun _ => [box g3_5 33 (eHand v3_1.1), box g3_6 33 (eHand v3_1.2)]) (fun _ u => (jk u 0 1 (.slice A1 (List.length a1) k1 :: (jk u 2 211 [])))) (fun h hj12 => ?_) ?_
  · skip
    refine c_or v4_2.2 (fun q13 => ?_) (fun q13 => ?_)
    · replace h := H.t q13 h
      refine c_seq ?_
      refine r_start ?_
      refine xq rfl (y_load (.agg (eHand v3_1.2).toArray) 1 g3_6 0) ?_
      refine xq rfl (y_load (.agg (eHand v3_1.1).toArray) 0 g3_5 0) ?_
      obtain ⟨v13_2, hv13_2, h⟩ := H.call h
      refine xq rfl (y_call [.agg (eHand v3_1.2).toArray, .agg (eHand v3_1.1).toArray] (.tuple #[.int .i64 v13_2.1, .bool v13_2.2]) func28 (fun W S => C.i_CompareHands W hv13_2)) ?_
      refine p 5 ?_
      refine rend ?_
      refine frg (fun u => (jk u 0 1 (.slice A1 (List.length a1) k1 :: (jk u 2 3 (.pointer (some ⟨g3_5, 0, none⟩) :: .pointer (some ⟨g3_6, 0, none⟩) :: (jk u 7 2 (.int .i64 v5_2.1 :: (jk u 10 3 (.string (bs v7_1.1) :: (jk u 14 3 (.string (bs v9_1.1) :: (jk u 18 1 (.int .i64 v13_2.1 :: .bool v13_2.2 :: (jk u 21 192 [])))))))))))))) (by kernel_rfl) fun u => ?_
      refine keep 2 (its' := [box g3_5 33 (eHand v3_1.1), box g3_6 33 (eHand v3_1.2)]) (by kernel_rfl) ?_
      refine c_seq ?_
      refine joinT (X := Bool) (H.bnd h) (fun (x : Bool) => x) (fun b14 => [box g3_5 33 (eHand v3_1.1), box g3_6 33 (eHand v3_1.2)]) (fun b14 u => (jk u 0 1 (.slice A1 (List.length a1) k1 :: (jk u 2 139 (.bool b14 :: (jk u 142 71 [])))))) (fun h hj15 => ?_) ?_
      · skip
        refine r_start ?_
        refine p 3 ?_
        refine br (!v13_2.2) (fun q16 => ?_) (fun q16 => ?_)
        · replace h := H.t q16 h
          refine o_set 120 (congrArg Value.bool q16) ?_
          refine p 21 ?_
          refine rend ?_
          replace h := H.done h
          exact hj15 true _ _ h (by kernel_rfl) (by kernel_rfl)
        replace h := H.f q16 h
        refine o_set 120 (congrArg Value.bool q16) ?_
        refine p 6 ?_
        refine br (v13_2.1 != (wr (0 - v5_2.1))) (fun q17 => ?_) (fun q17 => ?_)
        · replace h := H.t q17 h
          refine o_set 126 (congrArg Value.bool q17) ?_
          refine p 15 ?_
          refine rend ?_
          replace h := H.done h
          exact hj15 true _ _ h (by kernel_rfl) (by kernel_rfl)
        replace h := H.f q17 h
        refine o_set 126 (congrArg Value.bool q17) ?_
        refine p 2 ?_
        refine xq rfl (y_load (.agg (eHand v3_1.1).toArray) 0 g3_5 0) ?_
        refine xq rfl (y_load (.agg (eHand v3_1.2).toArray) 1 g3_6 0) ?_
        refine p 4 ?_
        refine br (!((v5_2.1 == 0) == (qHand v3_1.1 v3_1.2))) (fun q18 => ?_) (fun q18 => ?_)
        · replace h := H.t q18 h
          refine o_set 134 (congrArg Value.bool q18) ?_
          refine p 7 ?_
          refine rend ?_
          replace h := H.done h
          exact hj15 true _ _ h (by kernel_rfl) (by kernel_rfl)
        replace h := H.f q18 h
        refine o_set 134 (congrArg Value.bool q18) ?_
        refine p 7 ?_
        refine rend ?_
        replace h := H.done h
        exact hj15 (!((decide (v5_2.1 < 0)) == (slt v7_1.1 v9_1.1))) _ _ h (by kernel_rfl) (by kernel_rfl)
      intro b14 u h
      refine c_or b14 (fun q19 => ?_) (fun q19 => ?_)
      · replace h := H.t q19 h
        refine c_seq ?_
        refine r_start ?_
        refine p 1 ?_
        refine rend ?_
        replace h := H.inl h
        replace h := H.done h
        subst h
        exact ret func4 rfl (vs := [.bool false]) (.tmp (by kernel_rfl) .nil) rfl (fun W S => ⟨rfl, S.below⟩)
      replace h := H.f q19 h
      refine c_skip ?_
      replace h := H.inr h
      exact hj12 () _ _ h (by kernel_rfl) (by kernel_rfl)
    replace h := H.f q13 h
    refine c_skip ?_
    replace h := H.inr h
    exact hj12 () _ _ h (by kernel_rfl) (by kernel_rfl)
  intro x u h
  refine c_seq ?_
  refine r_start ?_
  obtain ⟨v16_0, hv16_0, h⟩ := H.call h
  refine xx rfl (e_cr [] (fun v => v) func32 (fun W S => C.i_PlainShapes W hv16_0) fun A16_0 k16_0 => ?_)
  refine p 1 ?_
  refine rend ?_
  refine c_seq ?_
  refine r_start ?_
  obtain ⟨v17_0, hv17_0, h⟩ := H.call h
  refine xx rfl (e_cr [] (fun v => v) func33 (fun W S => C.s_PlainShapes W hv17_0) fun A17_0 k17_0 => ?_)
  refine p 1 ?_
  refine rend ?_
  refine c_seq ?_
  refine c_seq ?_
  refine joinT (X := Bool) (H.bnd h) (fun (x : Bool) => x) (fun b20 => [box g3_5 33 (eHand v3_1.1), box g3_6 33 (eHand v3_1.2), rowT nShape w.heap.size 25 (.slice A16_0 (List.length v16_0) k16_0) v16_0, rowT nShape w.heap.size 25 (.slice A17_0 (List.length v17_0) k17_0) v17_0]) (fun b20 u => (jk u 0 1 (.slice A1 (List.length a1) k1 :: (jk u 2 20 (.slice A17_0 (List.length v17_0) k17_0 :: (jk u 23 129 (.bool b20 :: (jk u 153 60 [])))))))) (fun h hj21 => ?_) ?_
  · skip
    refine r_start ?_
    refine p 2 ?_
    obtain ⟨v18_2, hv18_2, h⟩ := H.call h
    refine xq rfl (y_call [.slice A16_0 (List.length v16_0) k16_0, .slice A17_0 (List.length v17_0) k17_0] (.bool v18_2) func34 (fun W S => C.l_pSameShapes W hv18_2 ((s_own 2).out W S) ((s_own 3).out W S))) ?_
    refine p 2 ?_
    refine br (!v18_2) (fun q22 => ?_) (fun q22 => ?_)
    · replace h := H.t q22 h
      refine o_set 148 (congrArg Value.bool q22) ?_
      refine p 4 ?_
      refine rend ?_
      replace h := H.done h
      exact hj21 true _ _ h (by kernel_rfl) (by kernel_rfl)
    replace h := H.f q22 h
    refine o_set 148 (congrArg Value.bool q22) ?_
    refine p 4 ?_
    refine rend ?_
    replace h := H.done h
    exact hj21 ((List.length v17_0 : Int) != 6) _ _ h (by kernel_rfl) (by kernel_rfl)
  intro b20 u h
  refine c_or b20 (fun q23 => ?_) (fun q23 => ?_)
  · replace h := H.t q23 h
    refine c_seq ?_
    refine r_start ?_
    refine p 1 ?_
    refine rend ?_
    replace h := H.done h
    subst h
    exact ret func4 rfl (vs := [.bool false]) (.tmp (by kernel_rfl) .nil) rfl (fun W S => ⟨rfl, S.below⟩)
  replace h := H.f q23 h
  refine c_skip ?_
  refine c_seq ?_
  refine r_start ?_
  refine p 1 ?_
  obtain ⟨v20_1, hv20_1, h⟩ := H.call h
  refine xq rfl (y_call [.slice A1 (List.length a1) k1] (.agg (eHand v20_1).toArray) func25 (fun W S => C.s_DrawOneHand W hv20_1 ((s_arg h1).out W S))) ?_
  refine xx rfl (x_new (eHand zHand) fun g20_2 => ?_)
  refine xx rfl (x_sto 4 g20_2 0 (eHand v20_1) ?_)
  refine rend ?_
  refine c_seq ?_
  refine c_seq ?_
  refine as_start 5 5 ?_
  refine aq 0 rfl (y_load (.agg (eHand v20_1).toArray) 4 g20_2 0) ?_
  obtain ⟨v21_1, hv21_1, h⟩ := H.call h
  refine aq 1 rfl (y_call [.agg (eHand v20_1).toArray] (.bool v21_1) func14 (fun W S => C.i_IsHand W hv21_1)) ?_
  refine aq 2 rfl (y_load (.agg (eHand v20_1).toArray) 4 g20_2 0) ?_
  obtain ⟨v21_3, hv21_3, h⟩ := H.call h
  refine aq 3 rfl (y_call [.agg (eHand v20_1).toArray] (.bool v21_3) func35 (fun W S => C.s_IsHand W hv21_3)) ?_
  refine ap 4 1 ?_
  refine a_done ?_
  refine c_or (!(v21_1 == v21_3)) (fun q24 => ?_) (fun q24 => ?_)
  · replace h := H.t q24 h
    refine c_seq ?_
    refine r_start ?_
    refine p 1 ?_
    refine rend ?_
    replace h := H.done h
    subst h
    exact ret func4 rfl (vs := [.bool false]) (.tmp (by kernel_rfl) .nil) rfl (fun W S => ⟨rfl, S.below⟩)
  replace h := H.f q24 h
  refine c_skip ?_
  refine c_seq ?_
  refine c_seq ?_
  refine r_start ?_
  refine xq rfl (y_load (.agg (eHand v20_1).toArray) 4 g20_2 0) ?_
  obtain ⟨v23_1, hv23_1, h⟩ := H.call h
  refine xq rfl (y_call [.agg (eHand v20_1).toArray] (.bool v23_1) func14 (fun W S => C.i_IsHand W hv23_1)) ?_
  refine rend ?_
  refine joinTE (X := Unit) (H.or h) (fun (x : Unit) => x) (fun _ => [box g3_5 33 (eHand v3_1.1), box g3_6 33 (eHand v3_1.2), rowT nShape w.heap.size 25 (.slice A16_0 (List.length v16_0) k16_0) v16_0, rowT nShape w.heap.size 25 (.slice A17_0 (List.length v17_0) k17_0) v17_0, box g20_2 33 (eHand v20_1)]) (fun _ u => (jk u 0 1 (.slice A1 (List.length a1) k1 :: (jk u 2 211 [])))) (fun h hj25 => ?_) ?_
  · skip
    refine c_or v23_1 (fun q26 => ?_) (fun q26 => ?_)
    · replace h := H.t q26 h
      refine c_seq ?_
      refine r_start ?_
      refine p 3 ?_
      refine rend ?_
      refine c_block ?_
      refine joinE (X := Unit) 0 (H.or h) (fun (x : Unit) => x) (fun _ => [box g3_5 33 (eHand v3_1.1), box g3_6 33 (eHand v3_1.2), rowT nShape w.heap.size 25 (.slice A16_0 (List.length v16_0) k16_0) v16_0, rowT nShape w.heap.size 25 (.slice A17_0 (List.length v17_0) k17_0) v17_0, box g20_2 33 (eHand v20_1)]) (fun _ u => (jk u 0 1 (.slice A1 (List.length a1) k1 :: (jk u 2 211 [])))) (fun h hj27 => ?_) ?_
      · skip
        refine rangeR (X := Unit) (s_own 3) (fun (x : Unit) => x) (fun _ => [box g3_5 33 (eHand v3_1.1), box g3_6 33 (eHand v3_1.2), rowT nShape w.heap.size 25 (.slice A16_0 (List.length v16_0) k16_0) v16_0, rowT nShape w.heap.size 25 (.slice A17_0 (List.length v17_0) k17_0) v17_0, box g20_2 33 (eHand v20_1)]) (fun (j28 : Nat) _ u => (jk u 0 1 (.slice A1 (List.length a1) k1 :: (jk u 2 21 (.pointer (some ⟨g20_2, 0, none⟩) :: (jk u 24 138 (.slice A17_0 (List.length v17_0) k17_0 :: .int .i64 (List.length v17_0 : Int) :: .int .i64 (j28 : Int) :: (jk u 165 48 [])))))))) () h (by kernel_rfl) (by kernel_rfl) ?_ ?_
        · intro j28 x u x29 q30 hg31 hw32 h
          refine c_seq ?_
          refine r_start ?_
          refine p 1 ?_
          refine rend ?_
          refine c_seq ?_
          refine c_yes q30 ?_
          refine c_skip ?_
          refine c_seq ?_
          refine c_block ?_
          refine c_seq ?_
          refine r_start ?_
          refine xq rfl (y_idx (e := nShape) (el := 25) hg31 (s_own 3)) ?_
          refine xq rfl (y_el (e := nShape) 0 (.agg (eShape x29).toArray) hg31 (s_own 3)) ?_
          refine xx rfl (x_new (eShape zShape) fun g26_2 => ?_)
          refine xx rfl (x_sto 5 g26_2 0 (eShape x29) ?_)
          refine rend ?_
          refine c_seq ?_
          refine r_start ?_
          refine xq rfl (y_load (.agg (eShape x29).toArray) 5 g26_2 0) ?_
          refine p 1 ?_
          refine xq rfl (y_load (.agg (eOrient v20_1.Orient).toArray) 4 g20_2 6) ?_
          refine p 1 ?_
          refine xq rfl (y_load (.agg (ePlace v20_1.Place).toArray) 4 g20_2 8) ?_
          refine p 2 ?_
          refine xx rfl (x_new (eHand zHand) fun g27_7 => ?_)
          refine xx rfl (x_sto 6 g27_7 0 (eHand ({ v20_1 with Shape := x29, Move := { zMove with Repeat := 1 } })) ?_)
          refine rend ?_
          refine c_seq ?_
          refine r_start ?_
          refine xq rfl (y_load (.agg (eHand v20_1).toArray) 4 g20_2 0) ?_
          refine xq rfl (y_load (.agg (eHand ({ v20_1 with Shape := x29, Move := { zMove with Repeat := 1 } })).toArray) 6 g27_7 0) ?_
          obtain ⟨v28_2, hv28_2, h⟩ := H.call h
          refine xq rfl (y_call [.agg (eHand v20_1).toArray, .agg (eHand ({ v20_1 with Shape := x29, Move := { zMove with Repeat := 1 } })).toArray] (.tuple #[.int .i64 v28_2.1, .bool v28_2.2]) func12 (fun W S => C.i_BrokenRule W hv28_2)) ?_
          refine p 5 ?_
          refine rend ?_
          refine c_seq ?_
          refine r_start ?_
          refine p 3 ?_
          refine br (!v28_2.2) (fun q33 => ?_) (fun q33 => ?_)
          · replace h := H.t q33 h
            refine o_set 183 (congrArg Value.bool q33) ?_
            refine p 3 ?_
            refine rend ?_
            refine frg (fun u => (jk u 0 1 (.slice A1 (List.length a1) k1 :: (jk u 2 21 (.pointer (some ⟨g20_2, 0, none⟩) :: (jk u 24 138 (.slice A17_0 (List.length v17_0) k17_0 :: .int .i64 (List.length v17_0 : Int) :: .int .i64 (j28 : Int) :: (jk u 165 21 (.bool true :: (jk u 187 26 [])))))))))) (by kernel_rfl) fun u => ?_
            refine keep 7 (its' := [box g3_5 33 (eHand v3_1.1), box g3_6 33 (eHand v3_1.2), rowT nShape w.heap.size 25 (.slice A16_0 (List.length v16_0) k16_0) v16_0, rowT nShape w.heap.size 25 (.slice A17_0 (List.length v17_0) k17_0) v17_0, box g20_2 33 (eHand v20_1), box g26_2 25 (eShape x29), box g27_7 33 (eHand ({ v20_1 with Shape := x29, Move := { zMove with Repeat := 1 } }))]) (by kernel_rfl) ?_
            refine c_t (by kernel_rfl) ?_
            refine c_seq ?_
            refine r_start ?_
            refine p 1 ?_
            refine rend ?_
            replace h := H.inr h
            replace h := H.inl h
            replace h := H.done h
            subst h
            exact ret func4 rfl (vs := [.bool false]) (.tmp (by kernel_rfl) .nil) rfl (fun W S => ⟨rfl, S.below⟩)
          replace h := H.f q33 h
          refine o_set 183 (congrArg Value.bool q33) ?_
          refine p 3 ?_
          refine rend ?_
          refine frg (fun u => (jk u 0 1 (.slice A1 (List.length a1) k1 :: (jk u 2 21 (.pointer (some ⟨g20_2, 0, none⟩) :: (jk u 24 138 (.slice A17_0 (List.length v17_0) k17_0 :: .int .i64 (List.length v17_0 : Int) :: .int .i64 (j28 : Int) :: (jk u 165 21 (.bool (v28_2.1 != 0) :: (jk u 187 26 [])))))))))) (by kernel_rfl) fun u => ?_
          refine keep 7 (its' := [box g3_5 33 (eHand v3_1.1), box g3_6 33 (eHand v3_1.2), rowT nShape w.heap.size 25 (.slice A16_0 (List.length v16_0) k16_0) v16_0, rowT nShape w.heap.size 25 (.slice A17_0 (List.length v17_0) k17_0) v17_0, box g20_2 33 (eHand v20_1), box g26_2 25 (eShape x29), box g27_7 33 (eHand ({ v20_1 with Shape := x29, Move := { zMove with Repeat := 1 } }))]) (by kernel_rfl) ?_
          refine c_or (v28_2.1 != 0) (fun q34 => ?_) (fun q34 => ?_)
          · replace h := H.t q34 h
            refine c_seq ?_
            refine r_start ?_
            refine p 1 ?_
            refine rend ?_
            replace h := H.inr h
            replace h := H.inl h
            replace h := H.done h
            subst h
            exact ret func4 rfl (vs := [.bool false]) (.tmp (by kernel_rfl) .nil) rfl (fun W S => ⟨rfl, S.below⟩)
          replace h := H.f q34 h
          refine c_skip ?_
          refine c_inb ?_
          refine r_start ?_
          refine p 2 ?_
          refine rend ?_
          refine c_set 164 (ci hw32) ?_
          replace h := H.inl h
          exact h () _ _ rfl (by kernel_rfl) (by kernel_rfl)
        · intro x u q30 h
          refine c_seq ?_
          refine r_start ?_
          refine p 1 ?_
          refine rend ?_
          refine c_seq ?_
          refine c_no q30 ?_
          refine cx ?_
          replace h := H.done h
          exact hj27 () _ _ h (by kernel_rfl) (by kernel_rfl)
      intro x u h
      replace h := H.inr h
      exact hj25 () _ _ h (by kernel_rfl) (by kernel_rfl)
    replace h := H.f q26 h
    refine c_skip ?_
    replace h := H.inr h
    exact hj25 () _ _ h (by kernel_rfl) (by kernel_rfl)
  intro x u h
  refine c_seq ?_
  refine r_start ?_
  refine p 1 ?_
  obtain ⟨v32_1, hv32_1, h⟩ := H.call h
  refine xq rfl (y_call [.slice A1 (List.length a1) k1] (.tuple #[.agg (eHand v32_1.1).toArray, .agg (eHand v32_1.2).toArray]) func36 (fun W S => C.s_DrawBrokenRule W hv32_1 ((s_arg h1).out W S))) ?_
  refine p 3 ?_
  refine xx rfl (x_new (eHand zHand) fun g32_5 => ?_)
  refine xx rfl (x_new (eHand zHand) fun g32_6 => ?_)
  refine xx rfl (x_sto 5 g32_5 0 (eHand v32_1.1) ?_)
  refine xx rfl (x_sto 6 g32_6 0 (eHand v32_1.2) ?_)
  refine rend ?_
  refine c_seq ?_
  refine r_start ?_
  refine xq rfl (y_load (.agg (eHand v32_1.1).toArray) 5 g32_5 0) ?_
  refine xq rfl (y_load (.agg (eHand v32_1.2).toArray) 6 g32_6 0) ?_
  obtain ⟨v33_2, hv33_2, h⟩ := H.call h
  refine xq rfl (y_call [.agg (eHand v32_1.1).toArray, .agg (eHand v32_1.2).toArray] (.tuple #[.int .i64 v33_2.1, .bool v33_2.2]) func12 (fun W S => C.i_BrokenRule W hv33_2)) ?_
  refine p 5 ?_
  refine rend ?_
  refine c_seq ?_
  refine r_start ?_
  refine xq rfl (y_load (.agg (eHand v32_1.1).toArray) 5 g32_5 0) ?_
  refine xq rfl (y_load (.agg (eHand v32_1.2).toArray) 6 g32_6 0) ?_
  obtain ⟨v34_2, hv34_2, h⟩ := H.call h
  refine xq rfl (y_call [.agg (eHand v32_1.1).toArray, .agg (eHand v32_1.2).toArray] (.tuple #[.int .i64 v34_2.1, .bool v34_2.2]) func13 (fun W S => C.s_BrokenRule W hv34_2)) ?_
  refine p 5 ?_
  refine rend ?_
  refine c_seq ?_
  refine r_start ?_
  refine p 4 ?_
  refine br (v33_2.2 == v34_2.2) (fun q35 => ?_) (fun q35 => ?_)
  · replace h := H.t q35 h
    refine o_set 208 (congrArg Value.bool q35) ?_
    refine p 5 ?_
    refine rend ?_
    refine frg (fun u => (jk u 0 4 (.bool (v33_2.1 == v34_2.1) :: (jk u 5 208 [])))) (by kernel_rfl) fun u => ?_
    refine keep 7 (its' := [box g3_5 33 (eHand v3_1.1), box g3_6 33 (eHand v3_1.2), rowT nShape w.heap.size 25 (.slice A16_0 (List.length v16_0) k16_0) v16_0, rowT nShape w.heap.size 25 (.slice A17_0 (List.length v17_0) k17_0) v17_0, box g20_2 33 (eHand v20_1), box g32_5 33 (eHand v32_1.1), box g32_6 33 (eHand v32_1.2)]) (by kernel_rfl) ?_
    replace h := H.done h
    subst h
    exact ret func4 rfl (vs := [.bool (v33_2.1 == v34_2.1)]) (.tmp (by kernel_rfl) .nil) rfl (fun W S => ⟨rfl, S.below⟩)
  replace h := H.f q35 h
  refine o_set 208 (congrArg Value.bool q35) ?_
  refine p 5 ?_
  refine rend ?_
  refine frg (fun u => (jk u 0 4 (.bool false :: (jk u 5 208 [])))) (by kernel_rfl) fun u => ?_
  refine keep 7 (its' := [box g3_5 33 (eHand v3_1.1), box g3_6 33 (eHand v3_1.2), rowT nShape w.heap.size 25 (.slice A16_0 (List.length v16_0) k16_0) v16_0, rowT nShape w.heap.size 25 (.slice A17_0 (List.length v17_0) k17_0) v17_0, box g20_2 33 (eHand v20_1), box g32_5 33 (eHand v32_1.1), box g32_6 33 (eHand v32_1.2)]) (by kernel_rfl) ?_
  replace h := H.done h
  subst h
  exact ret func4 rfl (vs := [.bool false]) (.tmp (by kernel_rfl) .nil) rfl (fun W S => ⟨rfl, S.below⟩)
end Go.Proofs.XC
