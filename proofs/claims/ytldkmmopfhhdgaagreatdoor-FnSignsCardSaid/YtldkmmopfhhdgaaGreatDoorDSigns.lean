/- Contracts: each function, called where its plain function gives an answer, returns just that answer and changes nothing that was there. By AI agents; no person has read it. -/
import Derived.Test.YtldkmmopfhhdgaaGreatDoorC1
import Derived.Test.YtldkmmopfhhdgaaGreatDoorE0
set_option linter.unusedVariables false
set_option linter.unusedSimpArgs false
set_option maxRecDepth 100000
set_option maxHeartbeats 40000000
namespace Go.Proofs.XC
open Go Go.RowKit
open Tryz
theorem C.i_TwoHands {fu : Nat} {a0 : Hand} {a1 : Hand} {r : (Sign × Bool)} (w : World) (h : X.i_TwoHands fu a0 a1 = some r) : Calls prog 10 #[.agg (eHand a0).toArray, .agg (eHand a1).toArray] w (Ret w (.tuple #[.agg (eSign r.1).toArray, .bool r.2])) := by
  refine calls (M := no) (args := [.agg (eHand a0).toArray, .agg (eHand a1).toArray]) func10 rfl ?_
  replace h : H (X.i_TwoHands fu a0 a1) (fun o => o = r) := H.mk h
  unfold X.i_TwoHands at h
  refine c_seq ?_
  refine r_start ?_
  refine xx rfl (x_box (eHand a0) fun g0_0 => ?_)
  refine xx rfl (x_box (eHand a1) fun g0_1 => ?_)
  refine xx rfl (x_new (eSign zSign) fun g0_2 => ?_)
  refine p 1 ?_
  refine rend ?_
  refine c_seq ?_
  refine r_start ?_
  refine xq rfl (y_load (.agg (eHand a0).toArray) 0 g0_0 0) ?_
  refine xq rfl (y_load (.agg (eHand a1).toArray) 1 g0_1 0) ?_
  refine p 1 ?_
  refine xx rfl (x_new (eSign zSign) fun g1_3 => ?_)
  refine xx rfl (x_sto 3 g1_3 0 (eSign (⟨a0, true, a1⟩ : Sign)) ?_)
  refine rend ?_
  refine c_seq ?_
  refine c_seq ?_
  refine r_start ?_
  refine xq rfl (y_load (.agg (eSign (⟨a0, true, a1⟩ : Sign)).toArray) 3 g1_3 0) ?_
  obtain ⟨v2_1, hv2_1, h⟩ := H.call h
  refine xq rfl (y_call [.agg (eSign (⟨a0, true, a1⟩ : Sign)).toArray] (.bool v2_1) func19 (fun W S => C.i_IsSign W hv2_1)) ?_
  refine p 1 ?_
  refine rend ?_
  refine c_or (!v2_1) (fun q1 => ?_) (fun q1 => ?_)
  · replace h := H.t q1 h
    refine c_seq ?_
    refine r_start ?_
    refine p 1 ?_
    refine xx rfl (x_sto 2 g0_2 0 (eSign zSign) ?_)
    refine p 1 ?_
    refine rend ?_
    replace h := H.done h
    subst h
    exact ret func10 rfl (vs := [.agg (eSign zSign).toArray, .bool false]) (.cell 2 g0_2 rfl (by kernel_rfl) (by kernel_rfl) (.tmp (by kernel_rfl) .nil)) rfl (fun W S => ⟨rfl, S.below⟩)
  replace h := H.f q1 h
  refine c_skip ?_
  refine c_seq ?_
  refine r_start ?_
  refine xq rfl (y_load (.agg (eSign (⟨a0, true, a1⟩ : Sign)).toArray) 3 g1_3 0) ?_
  refine xx rfl (x_sto 2 g0_2 0 (eSign (⟨a0, true, a1⟩ : Sign)) ?_)
  refine p 1 ?_
  refine rend ?_
  replace h := H.done h
  subst h
  exact ret func10 rfl (vs := [.agg (eSign (⟨a0, true, a1⟩ : Sign)).toArray, .bool true]) (.cell 2 g0_2 rfl (by kernel_rfl) (by kernel_rfl) (.tmp (by kernel_rfl) .nil)) rfl (fun W S => ⟨rfl, S.below⟩)
theorem C.s_TwoHands {fu : Nat} {a0 : Hand} {a1 : Hand} {r : (Sign × Bool)} (w : World) (h : X.s_TwoHands fu a0 a1 = some r) : Calls prog 11 #[.agg (eHand a0).toArray, .agg (eHand a1).toArray] w (Ret w (.tuple #[.agg (eSign r.1).toArray, .bool r.2])) := by
  refine calls (M := no) (args := [.agg (eHand a0).toArray, .agg (eHand a1).toArray]) func11 rfl ?_
  replace h : H (X.s_TwoHands fu a0 a1) (fun o => o = r) := H.mk h
  unfold X.s_TwoHands at h
  refine c_seq ?_
  refine r_start ?_
  refine xx rfl (x_box (eHand a0) fun g0_0 => ?_)
  refine xx rfl (x_box (eHand a1) fun g0_1 => ?_)
  refine xx rfl (x_new (eSign zSign) fun g0_2 => ?_)
  refine p 1 ?_
  refine rend ?_
  refine c_seq ?_
  refine r_start ?_
  refine xq rfl (y_load (.agg (eHand a0).toArray) 0 g0_0 0) ?_
  refine xq rfl (y_load (.agg (eHand a1).toArray) 1 g0_1 0) ?_
  refine p 1 ?_
  refine xx rfl (x_new (eSign zSign) fun g1_3 => ?_)
  refine xx rfl (x_sto 3 g1_3 0 (eSign (⟨a0, true, a1⟩ : Sign)) ?_)
  refine rend ?_
  refine c_seq ?_
  refine c_seq ?_
  refine r_start ?_
  refine xq rfl (y_load (.agg (eSign (⟨a0, true, a1⟩ : Sign)).toArray) 3 g1_3 0) ?_
  obtain ⟨v2_1, hv2_1, h⟩ := H.call h
  refine xq rfl (y_call [.agg (eSign (⟨a0, true, a1⟩ : Sign)).toArray] (.bool v2_1) func91 (fun W S => C.s_siGood W hv2_1)) ?_
  refine p 1 ?_
  refine rend ?_
  refine c_or (!v2_1) (fun q1 => ?_) (fun q1 => ?_)
  · replace h := H.t q1 h
    refine c_seq ?_
    refine r_start ?_
    refine p 1 ?_
    refine xx rfl (x_sto 2 g0_2 0 (eSign zSign) ?_)
    refine p 1 ?_
    refine rend ?_
    replace h := H.done h
    subst h
    exact ret func11 rfl (vs := [.agg (eSign zSign).toArray, .bool false]) (.cell 2 g0_2 rfl (by kernel_rfl) (by kernel_rfl) (.tmp (by kernel_rfl) .nil)) rfl (fun W S => ⟨rfl, S.below⟩)
  replace h := H.f q1 h
  refine c_skip ?_
  refine c_seq ?_
  refine r_start ?_
  refine xq rfl (y_load (.agg (eSign (⟨a0, true, a1⟩ : Sign)).toArray) 3 g1_3 0) ?_
  refine xx rfl (x_sto 2 g0_2 0 (eSign (⟨a0, true, a1⟩ : Sign)) ?_)
  refine p 1 ?_
  refine rend ?_
  replace h := H.done h
  subst h
  exact ret func11 rfl (vs := [.agg (eSign (⟨a0, true, a1⟩ : Sign)).toArray, .bool true]) (.cell 2 g0_2 rfl (by kernel_rfl) (by kernel_rfl) (.tmp (by kernel_rfl) .nil)) rfl (fun W S => ⟨rfl, S.below⟩)
theorem C.i_KindOfSign {fu : Nat} {a0 : Sign} {r : (Int × Bool)} (w : World) (h : X.i_KindOfSign fu a0 = some r) : Calls prog 15 #[.agg (eSign a0).toArray] w (Ret w (.tuple #[.int .i64 r.1, .bool r.2])) := by
  refine calls (M := no) (args := [.agg (eSign a0).toArray]) func15 rfl ?_
  replace h : H (X.i_KindOfSign fu a0) (fun o => o = r) := H.mk h
  unfold X.i_KindOfSign at h
  refine c_seq ?_
  refine r_start ?_
  refine xx rfl (x_box (eSign a0) fun g0_0 => ?_)
  refine p 2 ?_
  refine rend ?_
  refine c_seq ?_
  refine c_seq ?_
  refine r_start ?_
  refine xq rfl (y_load (.agg (eSign a0).toArray) 0 g0_0 0) ?_
  obtain ⟨v1_1, hv1_1, h⟩ := H.call h
  refine xq rfl (y_call [.agg (eSign a0).toArray] (.bool v1_1) func19 (fun W S => C.i_IsSign W hv1_1)) ?_
  refine p 1 ?_
  refine rend ?_
  refine c_or (!v1_1) (fun q1 => ?_) (fun q1 => ?_)
  · replace h := H.t q1 h
    refine c_seq ?_
    refine r_start ?_
    refine p 2 ?_
    refine rend ?_
    replace h := H.done h
    subst h
    exact ret func15 rfl (vs := [.int .i64 0, .bool false]) (.tmp (by kernel_rfl) (.tmp (by kernel_rfl) .nil)) rfl (fun W S => ⟨rfl, S.below⟩)
  replace h := H.f q1 h
  refine c_skip ?_
  refine c_seq ?_
  refine r_start ?_
  refine xq rfl (y_load (.agg (eSign a0).toArray) 0 g0_0 0) ?_
  obtain ⟨v3_1, hv3_1, h⟩ := H.call h
  refine xq rfl (y_call [.agg (eSign a0).toArray] (.int .i64 v3_1) func101 (fun W S => C.i_Sign_kind W hv3_1)) ?_
  refine p 2 ?_
  refine rend ?_
  replace h := H.done h
  subst h
  exact ret func15 rfl (vs := [.int .i64 v3_1, .bool true]) (.tmp (by kernel_rfl) (.tmp (by kernel_rfl) .nil)) rfl (fun W S => ⟨rfl, S.below⟩)
theorem C.s_KindOfSign {fu : Nat} {a0 : Sign} {r : (Int × Bool)} (w : World) (h : X.s_KindOfSign fu a0 = some r) : Calls prog 16 #[.agg (eSign a0).toArray] w (Ret w (.tuple #[.int .i64 r.1, .bool r.2])) := by
  refine calls (M := no) (args := [.agg (eSign a0).toArray]) func16 rfl ?_
  replace h : H (X.s_KindOfSign fu a0) (fun o => o = r) := H.mk h
  unfold X.s_KindOfSign at h
  refine c_seq ?_
  refine r_start ?_
  refine xx rfl (x_box (eSign a0) fun g0_0 => ?_)
  refine p 2 ?_
  refine rend ?_
  refine c_seq ?_
  refine c_seq ?_
  refine r_start ?_
  refine xq rfl (y_load (.agg (eSign a0).toArray) 0 g0_0 0) ?_
  obtain ⟨v1_1, hv1_1, h⟩ := H.call h
  refine xq rfl (y_call [.agg (eSign a0).toArray] (.bool v1_1) func91 (fun W S => C.s_siGood W hv1_1)) ?_
  refine p 1 ?_
  refine rend ?_
  refine c_or (!v1_1) (fun q1 => ?_) (fun q1 => ?_)
  · replace h := H.t q1 h
    refine c_seq ?_
    refine r_start ?_
    refine p 2 ?_
    refine rend ?_
    replace h := H.done h
    subst h
    exact ret func16 rfl (vs := [.int .i64 0, .bool false]) (.tmp (by kernel_rfl) (.tmp (by kernel_rfl) .nil)) rfl (fun W S => ⟨rfl, S.below⟩)
  replace h := H.f q1 h
  refine c_skip ?_
  refine c_seq ?_
  refine r_start ?_
  refine xq rfl (y_load (.agg (eSign a0).toArray) 0 g0_0 0) ?_
  obtain ⟨v3_1, hv3_1, h⟩ := H.call h
  refine xq rfl (y_call [.agg (eSign a0).toArray] (.int .i64 v3_1) func102 (fun W S => C.s_siKind W hv3_1)) ?_
  refine p 2 ?_
  refine rend ?_
  replace h := H.done h
  subst h
  exact ret func16 rfl (vs := [.int .i64 v3_1, .bool true]) (.tmp (by kernel_rfl) (.tmp (by kernel_rfl) .nil)) rfl (fun W S => ⟨rfl, S.below⟩)
theorem C.i_DropOther {fu : Nat} {a0 : Sign} {r : (Sign × Bool)} (w : World) (h : X.i_DropOther fu a0 = some r) : Calls prog 17 #[.agg (eSign a0).toArray] w (Ret w (.tuple #[.agg (eSign r.1).toArray, .bool r.2])) := by
  refine calls (M := no) (args := [.agg (eSign a0).toArray]) func17 rfl ?_
  replace h : H (X.i_DropOther fu a0) (fun o => o = r) := H.mk h
  unfold X.i_DropOther at h
  refine c_seq ?_
  refine r_start ?_
  refine xx rfl (x_box (eSign a0) fun g0_0 => ?_)
  refine xx rfl (x_new (eSign zSign) fun g0_1 => ?_)
  refine p 1 ?_
  refine rend ?_
  refine c_seq ?_
  refine c_seq ?_
  refine r_start ?_
  refine xq rfl (y_load (.agg (eSign a0).toArray) 0 g0_0 0) ?_
  obtain ⟨v1_1, hv1_1, h⟩ := H.call h
  refine xq rfl (y_call [.agg (eSign a0).toArray] (.bool v1_1) func19 (fun W S => C.i_IsSign W hv1_1)) ?_
  refine p 2 ?_
  refine br (!v1_1) (fun q1 => ?_) (fun q1 => ?_)
  · replace h := H.t q1 h
    refine o_set 7 (congrArg Value.bool q1) ?_
    refine p 9 ?_
    refine rend ?_
    refine c_t (by kernel_rfl) ?_
    refine c_seq ?_
    refine r_start ?_
    refine p 1 ?_
    refine xx rfl (x_sto 1 g0_1 0 (eSign zSign) ?_)
    refine p 1 ?_
    refine rend ?_
    replace h := H.done h
    subst h
    exact ret func17 rfl (vs := [.agg (eSign zSign).toArray, .bool false]) (.cell 1 g0_1 rfl (by kernel_rfl) (by kernel_rfl) (.tmp (by kernel_rfl) .nil)) rfl (fun W S => ⟨rfl, S.below⟩)
  replace h := H.f q1 h
  refine o_set 7 (congrArg Value.bool q1) ?_
  refine xq rfl (y_load (.agg (eSign a0).toArray) 0 g0_0 0) ?_
  obtain ⟨v1_5, hv1_5, h⟩ := H.call h
  refine xq rfl (y_call [.agg (eSign a0).toArray] (.int .i64 v1_5) func101 (fun W S => C.i_Sign_kind W hv1_5)) ?_
  refine p 3 ?_
  refine br (v1_5 == 0) (fun q2 => ?_) (fun q2 => ?_)
  · replace h := H.t q2 h
    refine o_set 12 (congrArg Value.bool q2) ?_
    refine p 4 ?_
    refine rend ?_
    refine c_t (by kernel_rfl) ?_
    refine c_seq ?_
    refine r_start ?_
    refine p 1 ?_
    refine xx rfl (x_sto 1 g0_1 0 (eSign zSign) ?_)
    refine p 1 ?_
    refine rend ?_
    replace h := H.done h
    subst h
    exact ret func17 rfl (vs := [.agg (eSign zSign).toArray, .bool false]) (.cell 1 g0_1 rfl (by kernel_rfl) (by kernel_rfl) (.tmp (by kernel_rfl) .nil)) rfl (fun W S => ⟨rfl, S.below⟩)
  replace h := H.f q2 h
  refine o_set 12 (congrArg Value.bool q2) ?_
  refine xq rfl (y_load (.agg (eSign a0).toArray) 0 g0_0 0) ?_
  obtain ⟨v1_10, hv1_10, h⟩ := H.call h
  refine xq rfl (y_call [.agg (eSign a0).toArray] (.int .i64 v1_10) func101 (fun W S => C.i_Sign_kind W hv1_10)) ?_
  refine p 2 ?_
  refine rend ?_
  refine c_or (v1_10 == 3) (fun q3 => ?_) (fun q3 => ?_)
  · replace h := H.t q3 h
    refine c_seq ?_
    refine r_start ?_
    refine p 1 ?_
    refine xx rfl (x_sto 1 g0_1 0 (eSign zSign) ?_)
    refine p 1 ?_
    refine rend ?_
    replace h := H.done h
    subst h
    exact ret func17 rfl (vs := [.agg (eSign zSign).toArray, .bool false]) (.cell 1 g0_1 rfl (by kernel_rfl) (by kernel_rfl) (.tmp (by kernel_rfl) .nil)) rfl (fun W S => ⟨rfl, S.below⟩)
  replace h := H.f q3 h
  refine c_skip ?_
  refine c_seq ?_
  refine r_start ?_
  refine p 1 ?_
  refine xq rfl (y_load (.agg (eHand a0.Main).toArray) 0 g0_0 0) ?_
  refine p 1 ?_
  refine xx rfl (x_sto 1 g0_1 0 (eSign ({ zSign with Main := a0.Main })) ?_)
  refine p 1 ?_
  refine rend ?_
  replace h := H.done h
  subst h
  exact ret func17 rfl (vs := [.agg (eSign ({ zSign with Main := a0.Main })).toArray, .bool true]) (.cell 1 g0_1 rfl (by kernel_rfl) (by kernel_rfl) (.tmp (by kernel_rfl) .nil)) rfl (fun W S => ⟨rfl, S.below⟩)
theorem C.i_OneHand {a0 : Hand} {r : (Sign × Bool)} (w : World) (h : X.i_OneHand a0 = some r) : Calls prog 18 #[.agg (eHand a0).toArray] w (Ret w (.tuple #[.agg (eSign r.1).toArray, .bool r.2])) := by
  refine calls (M := no) (args := [.agg (eHand a0).toArray]) func18 rfl ?_
  replace h : H (X.i_OneHand a0) (fun o => o = r) := H.mk h
  unfold X.i_OneHand at h
  refine c_seq ?_
  refine r_start ?_
  refine xx rfl (x_box (eHand a0) fun g0_0 => ?_)
  refine xx rfl (x_new (eSign zSign) fun g0_1 => ?_)
  refine p 1 ?_
  refine rend ?_
  refine c_seq ?_
  refine c_seq ?_
  refine r_start ?_
  refine xq rfl (y_load (.agg (eHand a0).toArray) 0 g0_0 0) ?_
  obtain ⟨v1_1, hv1_1, h⟩ := H.call h
  refine xq rfl (y_call [.agg (eHand a0).toArray] (.bool v1_1) func14 (fun W S => C.i_IsHand W hv1_1)) ?_
  refine p 1 ?_
  refine rend ?_
  refine c_or (!v1_1) (fun q1 => ?_) (fun q1 => ?_)
  · replace h := H.t q1 h
    refine c_seq ?_
    refine r_start ?_
    refine p 1 ?_
    refine xx rfl (x_sto 1 g0_1 0 (eSign zSign) ?_)
    refine p 1 ?_
    refine rend ?_
    replace h := H.done h
    subst h
    exact ret func18 rfl (vs := [.agg (eSign zSign).toArray, .bool false]) (.cell 1 g0_1 rfl (by kernel_rfl) (by kernel_rfl) (.tmp (by kernel_rfl) .nil)) rfl (fun W S => ⟨rfl, S.below⟩)
  replace h := H.f q1 h
  refine c_skip ?_
  refine c_seq ?_
  refine r_start ?_
  refine xq rfl (y_load (.agg (eHand a0).toArray) 0 g0_0 0) ?_
  refine p 1 ?_
  refine xx rfl (x_sto 1 g0_1 0 (eSign ({ zSign with Main := a0 })) ?_)
  refine p 1 ?_
  refine rend ?_
  replace h := H.done h
  subst h
  exact ret func18 rfl (vs := [.agg (eSign ({ zSign with Main := a0 })).toArray, .bool true]) (.cell 1 g0_1 rfl (by kernel_rfl) (by kernel_rfl) (.tmp (by kernel_rfl) .nil)) rfl (fun W S => ⟨rfl, S.below⟩)
theorem C.s_DrawIsSign {fu : Nat} {a0 : (List Int)} {A0 : Option Addr} {k0 : Nat} {r : Sign} (w : World) (h : X.s_DrawIsSign fu a0 = some r) (h0 : RdT (eI .u8) w (.slice A0 (List.length a0) k0) a0) : Calls prog 103 #[.slice A0 (List.length a0) k0] w (Ret w (.agg (eSign r).toArray)) := by
  refine calls (M := no) (args := [.slice A0 (List.length a0) k0]) func103 rfl ?_
  replace h : H (X.s_DrawIsSign fu a0) (fun o => o = r) := H.mk h
  unfold X.s_DrawIsSign at h
  refine c_seq ?_
  refine r_start ?_
  refine xx rfl (x_new (eSign zSign) fun g0_0 => ?_)
  refine rend ?_
  refine c_seq ?_
  refine r_start ?_
  refine p 2 ?_
  refine xx rfl (x_box [.slice A0 (List.length a0) k0, .int .i64 0, .int .u64 0] fun g1_2 => ?_)
  refine p 1 ?_
  refine rend ?_
  refine c_seq ?_
  refine r_start ?_
  refine p 1 ?_
  obtain ⟨v2_1, hv2_1, h⟩ := H.call h
  refine xx rfl (e_cq (cs' := [.slice A0 (List.length a0) k0, .int .i64 v2_1.2.1, .int .u64 v2_1.2.2]) (v := .agg (eSign v2_1.1).toArray) 1 [.pointer (some ⟨g1_2, 0, none⟩)] func116 (fun W S => C.s_l1Cur_anySign W hv2_1 (S.bx 1) ((s_arg h0).out W S) (ap_arg h0 S 1)) ?_)
  refine xx rfl (x_sto 0 g0_0 0 (eSign v2_1.1) ?_)
  refine rend ?_
  replace h := H.done h
  subst h
  exact ret func103 rfl (vs := [.agg (eSign v2_1.1).toArray]) (.cell 0 g0_0 rfl (by kernel_rfl) (by kernel_rfl) .nil) rfl (fun W S => ⟨rfl, S.below⟩)
theorem C.s_DrawDropOther {fu : Nat} {a0 : (List Int)} {A0 : Option Addr} {k0 : Nat} {r : Sign} (w : World) (h : X.s_DrawDropOther fu a0 = some r) (h0 : RdT (eI .u8) w (.slice A0 (List.length a0) k0) a0) : Calls prog 20 #[.slice A0 (List.length a0) k0] w (Ret w (.agg (eSign r).toArray)) := by
  refine calls (M := no) (args := [.slice A0 (List.length a0) k0]) func20 rfl ?_
  replace h : H (X.s_DrawDropOther fu a0) (fun o => o = r) := H.mk h
  unfold X.s_DrawDropOther at h
  refine c_seq ?_
  refine r_start ?_
  refine xx rfl (x_new (eSign zSign) fun g0_0 => ?_)
  refine rend ?_
  refine c_seq ?_
  refine r_start ?_
  refine p 1 ?_
  obtain ⟨v1_1, hv1_1, h⟩ := H.call h
  refine xq rfl (y_call [.slice A0 (List.length a0) k0] (.agg (eSign v1_1).toArray) func103 (fun W S => C.s_DrawIsSign W hv1_1 ((s_arg h0).out W S))) ?_
  refine xx rfl (x_sto 0 g0_0 0 (eSign v1_1) ?_)
  refine rend ?_
  replace h := H.done h
  subst h
  exact ret func20 rfl (vs := [.agg (eSign v1_1).toArray]) (.cell 0 g0_0 rfl (by kernel_rfl) (by kernel_rfl) .nil) rfl (fun W S => ⟨rfl, S.below⟩)
theorem C.s_DropOther {fu : Nat} {a0 : Sign} {r : (Sign × Bool)} (w : World) (h : X.s_DropOther fu a0 = some r) : Calls prog 21 #[.agg (eSign a0).toArray] w (Ret w (.tuple #[.agg (eSign r.1).toArray, .bool r.2])) := by
  refine calls (M := no) (args := [.agg (eSign a0).toArray]) func21 rfl ?_
  replace h : H (X.s_DropOther fu a0) (fun o => o = r) := H.mk h
  unfold X.s_DropOther at h
  refine c_seq ?_
  refine r_start ?_
  refine xx rfl (x_box (eSign a0) fun g0_0 => ?_)
  refine xx rfl (x_new (eSign zSign) fun g0_1 => ?_)
  refine p 1 ?_
  refine rend ?_
  refine c_seq ?_
  refine c_seq ?_
  refine r_start ?_
  refine xq rfl (y_load (.agg (eSign a0).toArray) 0 g0_0 0) ?_
  obtain ⟨v1_1, hv1_1, h⟩ := H.call h
  refine xq rfl (y_call [.agg (eSign a0).toArray] (.bool v1_1) func91 (fun W S => C.s_siGood W hv1_1)) ?_
  refine p 2 ?_
  refine br (!v1_1) (fun q1 => ?_) (fun q1 => ?_)
  · replace h := H.t q1 h
    refine o_set 7 (congrArg Value.bool q1) ?_
    refine p 9 ?_
    refine rend ?_
    refine c_t (by kernel_rfl) ?_
    refine c_seq ?_
    refine r_start ?_
    refine p 1 ?_
    refine xx rfl (x_sto 1 g0_1 0 (eSign zSign) ?_)
    refine p 1 ?_
    refine rend ?_
    replace h := H.done h
    subst h
    exact ret func21 rfl (vs := [.agg (eSign zSign).toArray, .bool false]) (.cell 1 g0_1 rfl (by kernel_rfl) (by kernel_rfl) (.tmp (by kernel_rfl) .nil)) rfl (fun W S => ⟨rfl, S.below⟩)
  replace h := H.f q1 h
  refine o_set 7 (congrArg Value.bool q1) ?_
  refine xq rfl (y_load (.agg (eSign a0).toArray) 0 g0_0 0) ?_
  obtain ⟨v1_5, hv1_5, h⟩ := H.call h
  refine xq rfl (y_call [.agg (eSign a0).toArray] (.int .i64 v1_5) func102 (fun W S => C.s_siKind W hv1_5)) ?_
  refine p 3 ?_
  refine br (v1_5 == 0) (fun q2 => ?_) (fun q2 => ?_)
  · replace h := H.t q2 h
    refine o_set 12 (congrArg Value.bool q2) ?_
    refine p 4 ?_
    refine rend ?_
    refine c_t (by kernel_rfl) ?_
    refine c_seq ?_
    refine r_start ?_
    refine p 1 ?_
    refine xx rfl (x_sto 1 g0_1 0 (eSign zSign) ?_)
    refine p 1 ?_
    refine rend ?_
    replace h := H.done h
    subst h
    exact ret func21 rfl (vs := [.agg (eSign zSign).toArray, .bool false]) (.cell 1 g0_1 rfl (by kernel_rfl) (by kernel_rfl) (.tmp (by kernel_rfl) .nil)) rfl (fun W S => ⟨rfl, S.below⟩)
  replace h := H.f q2 h
  refine o_set 12 (congrArg Value.bool q2) ?_
  refine xq rfl (y_load (.agg (eSign a0).toArray) 0 g0_0 0) ?_
  obtain ⟨v1_10, hv1_10, h⟩ := H.call h
  refine xq rfl (y_call [.agg (eSign a0).toArray] (.int .i64 v1_10) func102 (fun W S => C.s_siKind W hv1_10)) ?_
  refine p 2 ?_
  refine rend ?_
  refine c_or (v1_10 == 3) (fun q3 => ?_) (fun q3 => ?_)
  · replace h := H.t q3 h
    refine c_seq ?_
    refine r_start ?_
    refine p 1 ?_
    refine xx rfl (x_sto 1 g0_1 0 (eSign zSign) ?_)
    refine p 1 ?_
    refine rend ?_
    replace h := H.done h
    subst h
    exact ret func21 rfl (vs := [.agg (eSign zSign).toArray, .bool false]) (.cell 1 g0_1 rfl (by kernel_rfl) (by kernel_rfl) (.tmp (by kernel_rfl) .nil)) rfl (fun W S => ⟨rfl, S.below⟩)
  replace h := H.f q3 h
  refine c_skip ?_
  refine c_seq ?_
  refine r_start ?_
  refine p 1 ?_
  refine xq rfl (y_load (.agg (eHand a0.Main).toArray) 0 g0_0 0) ?_
  refine p 1 ?_
  refine xx rfl (x_sto 1 g0_1 0 (eSign ({ zSign with Main := a0.Main })) ?_)
  refine p 1 ?_
  refine rend ?_
  replace h := H.done h
  subst h
  exact ret func21 rfl (vs := [.agg (eSign ({ zSign with Main := a0.Main })).toArray, .bool true]) (.cell 1 g0_1 rfl (by kernel_rfl) (by kernel_rfl) (.tmp (by kernel_rfl) .nil)) rfl (fun W S => ⟨rfl, S.below⟩)
theorem C.i_Sign_steps {a0 : Sign} {r : Int} (w : World) (h : X.i_Sign_steps a0 = some r) : Calls prog 104 #[.agg (eSign a0).toArray] w (Ret w (.int .i64 r)) := by
  refine calls (M := no) (args := [.agg (eSign a0).toArray]) func104 rfl ?_
  replace h : H (X.i_Sign_steps a0) (fun o => o = r) := H.mk h
  unfold X.i_Sign_steps at h
  refine c_seq ?_
  refine r_start ?_
  refine xx rfl (x_box (eSign a0) fun g0_0 => ?_)
  refine p 1 ?_
  refine rend ?_
  refine c_seq ?_
  refine as_start 12 12 ?_
  refine ap 0 2 ?_
  refine aq 2 rfl (y_load (.agg (eMove a0.Main.Move).toArray) 0 g0_0 11) ?_
  obtain ⟨v1_3, hv1_3, h⟩ := H.call h
  refine aq 3 rfl (y_call [.agg (eMove a0.Main.Move).toArray] (.string (bs v1_3)) func107 (fun W S => C.i_Move_all W hv1_3)) ?_
  refine ap 4 3 ?_
  refine aq 7 rfl (y_load (.agg (eMove a0.Other.Move).toArray) 0 g0_0 25) ?_
  obtain ⟨v1_8, hv1_8, h⟩ := H.call h
  refine aq 8 rfl (y_call [.agg (eMove a0.Other.Move).toArray] (.string (bs v1_8)) func107 (fun W S => C.i_Move_all W hv1_8)) ?_
  refine ap 9 3 ?_
  refine a_done ?_
  replace h := H.done h
  subst h
  exact ret func104 rfl (vs := [.int .i64 (if (List.length v1_8 : Int) > (List.length v1_3 : Int) then (List.length v1_8 : Int) else (List.length v1_3 : Int))]) (.tmp (by kernel_rfl) .nil) rfl (fun W S => ⟨rfl, S.below⟩)
theorem C.i_StepsOfSign {fu : Nat} {a0 : Sign} {r : (Int × Bool)} (w : World) (h : X.i_StepsOfSign fu a0 = some r) : Calls prog 22 #[.agg (eSign a0).toArray] w (Ret w (.tuple #[.int .i64 r.1, .bool r.2])) := by
  refine calls (M := no) (args := [.agg (eSign a0).toArray]) func22 rfl ?_
  replace h : H (X.i_StepsOfSign fu a0) (fun o => o = r) := H.mk h
  unfold X.i_StepsOfSign at h
  refine c_seq ?_
  refine r_start ?_
  refine xx rfl (x_box (eSign a0) fun g0_0 => ?_)
  refine p 2 ?_
  refine rend ?_
  refine c_seq ?_
  refine c_seq ?_
  refine r_start ?_
  refine xq rfl (y_load (.agg (eSign a0).toArray) 0 g0_0 0) ?_
  obtain ⟨v1_1, hv1_1, h⟩ := H.call h
  refine xq rfl (y_call [.agg (eSign a0).toArray] (.bool v1_1) func19 (fun W S => C.i_IsSign W hv1_1)) ?_
  refine p 1 ?_
  refine rend ?_
  refine c_or (!v1_1) (fun q1 => ?_) (fun q1 => ?_)
  · replace h := H.t q1 h
    refine c_seq ?_
    refine r_start ?_
    refine p 2 ?_
    refine rend ?_
    replace h := H.done h
    subst h
    exact ret func22 rfl (vs := [.int .i64 0, .bool false]) (.tmp (by kernel_rfl) (.tmp (by kernel_rfl) .nil)) rfl (fun W S => ⟨rfl, S.below⟩)
  replace h := H.f q1 h
  refine c_skip ?_
  refine c_seq ?_
  refine r_start ?_
  refine xq rfl (y_load (.agg (eSign a0).toArray) 0 g0_0 0) ?_
  obtain ⟨v3_1, hv3_1, h⟩ := H.call h
  refine xq rfl (y_call [.agg (eSign a0).toArray] (.int .i64 v3_1) func104 (fun W S => C.i_Sign_steps W hv3_1)) ?_
  refine p 2 ?_
  refine rend ?_
  replace h := H.done h
  subst h
  exact ret func22 rfl (vs := [.int .i64 v3_1, .bool true]) (.tmp (by kernel_rfl) (.tmp (by kernel_rfl) .nil)) rfl (fun W S => ⟨rfl, S.below⟩)
theorem C.s_StepsOfSign {fu : Nat} {a0 : Sign} {r : (Int × Bool)} (w : World) (h : X.s_StepsOfSign fu a0 = some r) : Calls prog 23 #[.agg (eSign a0).toArray] w (Ret w (.tuple #[.int .i64 r.1, .bool r.2])) := by
  refine calls (M := no) (args := [.agg (eSign a0).toArray]) func23 rfl ?_
  replace h : H (X.s_StepsOfSign fu a0) (fun o => o = r) := H.mk h
  unfold X.s_StepsOfSign at h
  refine c_seq ?_
  refine r_start ?_
  refine xx rfl (x_box (eSign a0) fun g0_0 => ?_)
  refine p 2 ?_
  refine rend ?_
  refine c_seq ?_
  refine c_seq ?_
  refine r_start ?_
  refine xq rfl (y_load (.agg (eSign a0).toArray) 0 g0_0 0) ?_
  obtain ⟨v1_1, hv1_1, h⟩ := H.call h
  refine xq rfl (y_call [.agg (eSign a0).toArray] (.bool v1_1) func91 (fun W S => C.s_siGood W hv1_1)) ?_
  refine p 1 ?_
  refine rend ?_
  refine c_or (!v1_1) (fun q1 => ?_) (fun q1 => ?_)
  · replace h := H.t q1 h
    refine c_seq ?_
    refine r_start ?_
    refine p 2 ?_
    refine rend ?_
    replace h := H.done h
    subst h
    exact ret func23 rfl (vs := [.int .i64 0, .bool false]) (.tmp (by kernel_rfl) (.tmp (by kernel_rfl) .nil)) rfl (fun W S => ⟨rfl, S.below⟩)
  replace h := H.f q1 h
  refine c_skip ?_
  refine c_seq ?_
  refine as_start 13 13 ?_
  refine ap 0 2 ?_
  refine aq 2 rfl (y_load (.agg (eMove a0.Main.Move).toArray) 0 g0_0 11) ?_
  obtain ⟨v3_3, hv3_3, h⟩ := H.call h
  refine aq 3 rfl (y_call [.agg (eMove a0.Main.Move).toArray] (.string (bs v3_3)) func106 (fun W S => C.s_mvAll W hv3_3)) ?_
  refine ap 4 3 ?_
  refine aq 7 rfl (y_load (.agg (eMove a0.Other.Move).toArray) 0 g0_0 25) ?_
  obtain ⟨v3_8, hv3_8, h⟩ := H.call h
  refine aq 8 rfl (y_call [.agg (eMove a0.Other.Move).toArray] (.string (bs v3_8)) func106 (fun W S => C.s_mvAll W hv3_8)) ?_
  refine ap 9 1 ?_
  obtain ⟨v3_10, hv3_10, h⟩ := H.call h
  refine aq 10 rfl (y_call [.int .i64 (List.length v3_3 : Int), .int .i64 (List.length v3_8 : Int)] (.int .i64 v3_10) func105 (fun W S => C.s_l1Most W hv3_10)) ?_
  refine ap 11 2 ?_
  refine a_done ?_
  replace h := H.done h
  subst h
  exact ret func23 rfl (vs := [.int .i64 v3_10, .bool true]) (.tmp (by kernel_rfl) (.tmp (by kernel_rfl) .nil)) rfl (fun W S => ⟨rfl, S.below⟩)
theorem C.i_AllSteps {a0 : Move} {r : (Str × Bool)} (w : World) (h : X.i_AllSteps a0 = some r) : Calls prog 24 #[.agg (eMove a0).toArray] w (Ret w (.tuple #[.string (bs r.1), .bool r.2])) := by
  refine calls (M := no) (args := [.agg (eMove a0).toArray]) func24 rfl ?_
  replace h : H (X.i_AllSteps a0) (fun o => o = r) := H.mk h
  unfold X.i_AllSteps at h
  refine c_seq ?_
  refine r_start ?_
  refine xx rfl (x_box (eMove a0) fun g0_0 => ?_)
  refine p 2 ?_
  refine rend ?_
  refine c_seq ?_
  refine c_seq ?_
  refine r_start ?_
  refine xq rfl (y_load (.agg (eMove a0).toArray) 0 g0_0 0) ?_
  obtain ⟨v1_1, hv1_1, h⟩ := H.call h
  refine xq rfl (y_call [.agg (eMove a0).toArray] (.bool v1_1) func100 (fun W S => C.i_IsMove W hv1_1)) ?_
  refine p 1 ?_
  refine rend ?_
  refine c_or (!v1_1) (fun q1 => ?_) (fun q1 => ?_)
  · replace h := H.t q1 h
    refine c_seq ?_
    refine r_start ?_
    refine p 2 ?_
    refine rend ?_
    replace h := H.done h
    subst h
    exact ret func24 rfl (vs := [.string (bs ([] : Str)), .bool false]) (.tmp (by kernel_rfl) (.tmp (by kernel_rfl) .nil)) rfl (fun W S => ⟨rfl, S.below⟩)
  replace h := H.f q1 h
  refine c_skip ?_
  refine c_seq ?_
  refine r_start ?_
  refine xq rfl (y_load (.agg (eMove a0).toArray) 0 g0_0 0) ?_
  obtain ⟨v3_1, hv3_1, h⟩ := H.call h
  refine xq rfl (y_call [.agg (eMove a0).toArray] (.string (bs v3_1)) func107 (fun W S => C.i_Move_all W hv3_1)) ?_
  refine p 2 ?_
  refine rend ?_
  replace h := H.done h
  subst h
  exact ret func24 rfl (vs := [.string (bs v3_1), .bool true]) (.tmp (by kernel_rfl) (.tmp (by kernel_rfl) .nil)) rfl (fun W S => ⟨rfl, S.below⟩)
theorem C.s_OneHand {fu : Nat} {a0 : Hand} {r : (Sign × Bool)} (w : World) (h : X.s_OneHand fu a0 = some r) : Calls prog 26 #[.agg (eHand a0).toArray] w (Ret w (.tuple #[.agg (eSign r.1).toArray, .bool r.2])) := by
  refine calls (M := no) (args := [.agg (eHand a0).toArray]) func26 rfl ?_
  replace h : H (X.s_OneHand fu a0) (fun o => o = r) := H.mk h
  unfold X.s_OneHand at h
  refine c_seq ?_
  refine r_start ?_
  refine xx rfl (x_box (eHand a0) fun g0_0 => ?_)
  refine xx rfl (x_new (eSign zSign) fun g0_1 => ?_)
  refine p 1 ?_
  refine rend ?_
  refine c_seq ?_
  refine c_seq ?_
  refine r_start ?_
  refine xq rfl (y_load (.agg (eHand a0).toArray) 0 g0_0 0) ?_
  obtain ⟨v1_1, hv1_1, h⟩ := H.call h
  refine xq rfl (y_call [.agg (eHand a0).toArray] (.bool v1_1) func95 (fun W S => C.s_siHand W hv1_1)) ?_
  refine p 1 ?_
  refine rend ?_
  refine c_or (!v1_1) (fun q1 => ?_) (fun q1 => ?_)
  · replace h := H.t q1 h
    refine c_seq ?_
    refine r_start ?_
    refine p 1 ?_
    refine xx rfl (x_sto 1 g0_1 0 (eSign zSign) ?_)
    refine p 1 ?_
    refine rend ?_
    replace h := H.done h
    subst h
    exact ret func26 rfl (vs := [.agg (eSign zSign).toArray, .bool false]) (.cell 1 g0_1 rfl (by kernel_rfl) (by kernel_rfl) (.tmp (by kernel_rfl) .nil)) rfl (fun W S => ⟨rfl, S.below⟩)
  replace h := H.f q1 h
  refine c_skip ?_
  refine c_seq ?_
  refine r_start ?_
  refine xq rfl (y_load (.agg (eHand a0).toArray) 0 g0_0 0) ?_
  refine p 1 ?_
  refine xx rfl (x_sto 1 g0_1 0 (eSign ({ zSign with Main := a0 })) ?_)
  refine p 1 ?_
  refine rend ?_
  replace h := H.done h
  subst h
  exact ret func26 rfl (vs := [.agg (eSign ({ zSign with Main := a0 })).toArray, .bool true]) (.cell 1 g0_1 rfl (by kernel_rfl) (by kernel_rfl) (.tmp (by kernel_rfl) .nil)) rfl (fun W S => ⟨rfl, S.below⟩)
theorem C.l_FnSigns {fu : Nat} {a0 : (List Int)} {A0 : Option Addr} {k0 : Nat} {a1 : (List Int)} {A1 : Option Addr} {k1 : Nat} {r : Bool} (w : World) (h : X.l_FnSigns fu a0 a1 = some r) (h0 : RdT (eI .u8) w (.slice A0 (List.length a0) k0) a0) (h1 : RdT (eI .u8) w (.slice A1 (List.length a1) k1) a1) : Calls prog 3 #[.slice A0 (List.length a0) k0, .slice A1 (List.length a1) k1] w (Ret w (.bool r)) := by
  refine calls (M := no) (args := [.slice A0 (List.length a0) k0, .slice A1 (List.length a1) k1]) func3 rfl ?_
  replace h : H (X.l_FnSigns fu a0 a1) (fun o => o = r) := H.mk h
  unfold X.l_FnSigns at h
  refine c_seq ?_
  refine r_start ?_
  refine p 1 ?_
  refine rend ?_
  refine c_seq ?_
  refine c_seq ?_
  refine r_start ?_
  refine p 2 ?_
  obtain ⟨v1_2, hv1_2, h⟩ := H.call h
  refine xq rfl (y_call [.slice A0 (List.length a0) k0, .slice A1 (List.length a1) k1] (.bool v1_2) func8 (fun W S => C.l_big W hv1_2 ((s_arg h0).out W S) ((s_arg h1).out W S))) ?_
  refine rend ?_
  refine c_or v1_2 (fun q1 => ?_) (fun q1 => ?_)
  · replace h := H.t q1 h
    refine c_seq ?_
    refine r_start ?_
    refine p 1 ?_
    refine rend ?_
    replace h := H.done h
    subst h
    exact ret func3 rfl (vs := [.bool true]) (.tmp (by kernel_rfl) .nil) rfl (fun W S => ⟨rfl, S.below⟩)
  replace h := H.f q1 h
  refine c_skip ?_
  refine c_seq ?_
  refine r_start ?_
  refine p 1 ?_
  obtain ⟨v3_1, hv3_1, h⟩ := H.call h
  refine xq rfl (y_call [.slice A0 (List.length a0) k0] (.tuple #[.agg (eHand v3_1.1).toArray, .agg (eHand v3_1.2).toArray]) func9 (fun W S => C.s_DrawTwoHands W hv3_1 ((s_arg h0).out W S))) ?_
  refine p 3 ?_
  refine xx rfl (x_new (eHand zHand) fun g3_5 => ?_)
  refine xx rfl (x_new (eHand zHand) fun g3_6 => ?_)
  refine xx rfl (x_sto 0 g3_5 0 (eHand v3_1.1) ?_)
  refine xx rfl (x_sto 1 g3_6 0 (eHand v3_1.2) ?_)
  refine rend ?_
  refine c_seq ?_
  refine r_start ?_
  refine xq rfl (y_load (.agg (eHand v3_1.1).toArray) 0 g3_5 0) ?_
  refine xq rfl (y_load (.agg (eHand v3_1.2).toArray) 1 g3_6 0) ?_
  obtain ⟨v4_2, hv4_2, h⟩ := H.call h
  refine xq rfl (y_call [.agg (eHand v3_1.1).toArray, .agg (eHand v3_1.2).toArray] (.tuple #[.agg (eSign v4_2.1).toArray, .bool v4_2.2]) func10 (fun W S => C.i_TwoHands W hv4_2)) ?_
  refine p 3 ?_
  refine xx rfl (x_new (eSign zSign) fun g4_6 => ?_)
  refine xx rfl (x_sto 2 g4_6 0 (eSign v4_2.1) ?_)
  refine p 1 ?_
  refine rend ?_
  refine c_seq ?_
  refine r_start ?_
  refine xq rfl (y_load (.agg (eHand v3_1.1).toArray) 0 g3_5 0) ?_
  refine xq rfl (y_load (.agg (eHand v3_1.2).toArray) 1 g3_6 0) ?_
  obtain ⟨v5_2, hv5_2, h⟩ := H.call h
  refine xq rfl (y_call [.agg (eHand v3_1.1).toArray, .agg (eHand v3_1.2).toArray] (.tuple #[.agg (eSign v5_2.1).toArray, .bool v5_2.2]) func11 (fun W S => C.s_TwoHands W hv5_2)) ?_
  refine p 3 ?_
  refine xx rfl (x_new (eSign zSign) fun g5_6 => ?_)
  refine xx rfl (x_sto 3 g5_6 0 (eSign v5_2.1) ?_)
  refine p 1 ?_
  refine rend ?_
  refine c_seq ?_
  refine r_start ?_
  refine xq rfl (y_load (.agg (eHand v3_1.1).toArray) 0 g3_5 0) ?_
  refine xq rfl (y_load (.agg (eHand v3_1.2).toArray) 1 g3_6 0) ?_
  obtain ⟨v6_2, hv6_2, h⟩ := H.call h
  refine xq rfl (y_call [.agg (eHand v3_1.1).toArray, .agg (eHand v3_1.2).toArray] (.tuple #[.int .i64 v6_2.1, .bool v6_2.2]) func12 (fun W S => C.i_BrokenRule W hv6_2)) ?_
  refine p 5 ?_
  refine rend ?_
  refine c_seq ?_
  refine r_start ?_
  refine xq rfl (y_load (.agg (eHand v3_1.1).toArray) 0 g3_5 0) ?_
  refine xq rfl (y_load (.agg (eHand v3_1.2).toArray) 1 g3_6 0) ?_
  obtain ⟨v7_2, hv7_2, h⟩ := H.call h
  refine xq rfl (y_call [.agg (eHand v3_1.1).toArray, .agg (eHand v3_1.2).toArray] (.tuple #[.int .i64 v7_2.1, .bool v7_2.2]) func13 (fun W S => C.s_BrokenRule W hv7_2)) ?_
  refine p 5 ?_
  refine rend ?_
  refine c_seq ?_
  refine c_seq ?_
  refine joinT (X := Bool) (H.bnd h) (fun (x : Bool) => x) (fun b2 => [box g3_5 33 (eHand v3_1.1), box g3_6 33 (eHand v3_1.2), box g4_6 37 (eSign v4_2.1), box g5_6 37 (eSign v5_2.1)]) (fun b2 u => (jk u 0 1 (.slice A1 (List.length a1) k1 :: (jk u 2 3 (.pointer (some ⟨g3_5, 0, none⟩) :: .pointer (some ⟨g3_6, 0, none⟩) :: .pointer (some ⟨g4_6, 0, none⟩) :: .bool v4_2.2 :: .pointer (some ⟨g5_6, 0, none⟩) :: (jk u 10 101 (.bool b2 :: (jk u 112 224 [])))))))) (fun h hj3 => ?_) ?_
  · skip
    refine r_start ?_
    refine p 4 ?_
    refine br (!(v4_2.2 == v5_2.2)) (fun q4 => ?_) (fun q4 => ?_)
    · replace h := H.t q4 h
      refine o_set 78 (congrArg Value.bool q4) ?_
      refine p 33 ?_
      refine rend ?_
      replace h := H.done h
      exact hj3 true _ _ h (by kernel_rfl) (by kernel_rfl)
    replace h := H.f q4 h
    refine o_set 78 (congrArg Value.bool q4) ?_
    refine xq rfl (y_load (.agg (eSign v4_2.1).toArray) 2 g4_6 0) ?_
    refine xq rfl (y_load (.agg (eSign v5_2.1).toArray) 3 g5_6 0) ?_
    refine p 3 ?_
    refine br (!qSign v4_2.1 v5_2.1) (fun q5 => ?_) (fun q5 => ?_)
    · replace h := H.t q5 h
      refine o_set 83 (congrArg Value.bool q5) ?_
      refine p 28 ?_
      refine rend ?_
      replace h := H.done h
      exact hj3 true _ _ h (by kernel_rfl) (by kernel_rfl)
    replace h := H.f q5 h
    refine o_set 83 (congrArg Value.bool q5) ?_
    refine p 5 ?_
    refine br (!(v6_2.2 == v7_2.2)) (fun q6 => ?_) (fun q6 => ?_)
    · replace h := H.t q6 h
      refine o_set 88 (congrArg Value.bool q6) ?_
      refine p 23 ?_
      refine rend ?_
      replace h := H.done h
      exact hj3 true _ _ h (by kernel_rfl) (by kernel_rfl)
    replace h := H.f q6 h
    refine o_set 88 (congrArg Value.bool q6) ?_
    refine p 5 ?_
    refine br (v6_2.1 != v7_2.1) (fun q7 => ?_) (fun q7 => ?_)
    · replace h := H.t q7 h
      refine o_set 93 (congrArg Value.bool q7) ?_
      refine p 18 ?_
      refine rend ?_
      replace h := H.done h
      exact hj3 true _ _ h (by kernel_rfl) (by kernel_rfl)
    replace h := H.f q7 h
    refine o_set 93 (congrArg Value.bool q7) ?_
    refine p 1 ?_
    refine xq rfl (y_load (.agg (eHand v3_1.1).toArray) 0 g3_5 0) ?_
    obtain ⟨v8_21, hv8_21, h⟩ := H.call h
    refine xq rfl (y_call [.agg (eHand v3_1.1).toArray] (.bool v8_21) func14 (fun W S => C.i_IsHand W hv8_21)) ?_
    refine p 1 ?_
    refine br v8_21 (fun q8 => ?_) (fun q8 => ?_)
    · replace h := H.t q8 h
      refine o_set 97 (congrArg Value.bool q8) ?_
      refine xq rfl (y_load (.agg (eHand v3_1.2).toArray) 1 g3_6 0) ?_
      obtain ⟨v8_24, hv8_24, h⟩ := H.call h
      refine xq rfl (y_call [.agg (eHand v3_1.2).toArray] (.bool v8_24) func14 (fun W S => C.i_IsHand W hv8_24)) ?_
      refine p 4 ?_
      refine br (!(v6_2.2 == v8_24)) (fun q9 => ?_) (fun q9 => ?_)
      · replace h := H.t q9 h
        refine o_set 103 (congrArg Value.bool q9) ?_
        refine p 8 ?_
        refine rend ?_
        replace h := H.done h
        exact hj3 true _ _ h (by kernel_rfl) (by kernel_rfl)
      replace h := H.f q9 h
      refine o_set 103 (congrArg Value.bool q9) ?_
      refine p 3 ?_
      refine br v6_2.2 (fun q10 => ?_) (fun q10 => ?_)
      · replace h := H.t q10 h
        refine o_set 106 (congrArg Value.bool q10) ?_
        refine p 5 ?_
        refine rend ?_
        replace h := H.done h
        exact hj3 (!(v4_2.2 == (v7_2.1 == 0))) _ _ h (by kernel_rfl) (by kernel_rfl)
      replace h := H.f q10 h
      refine o_set 106 (congrArg Value.bool q10) ?_
      refine p 5 ?_
      refine rend ?_
      replace h := H.done h
      exact hj3 (!(v4_2.2 == false)) _ _ h (by kernel_rfl) (by kernel_rfl)
    replace h := H.f q8 h
    refine o_set 97 (congrArg Value.bool q8) ?_
    refine p 6 ?_
    refine br (!(v6_2.2 == false)) (fun q11 => ?_) (fun q11 => ?_)
    · replace h := H.t q11 h
      refine o_set 103 (congrArg Value.bool q11) ?_
      refine p 8 ?_
      refine rend ?_
      replace h := H.done h
      exact hj3 true _ _ h (by kernel_rfl) (by kernel_rfl)
    replace h := H.f q11 h
    refine o_set 103 (congrArg Value.bool q11) ?_
    refine p 3 ?_
    refine br v6_2.2 (fun q12 => ?_) (fun q12 => ?_)
    · replace h := H.t q12 h
      refine o_set 106 (congrArg Value.bool q12) ?_
      refine p 5 ?_
      refine rend ?_
      replace h := H.done h
      exact hj3 (!(v4_2.2 == (v7_2.1 == 0))) _ _ h (by kernel_rfl) (by kernel_rfl)
    replace h := H.f q12 h
    refine o_set 106 (congrArg Value.bool q12) ?_
    refine p 5 ?_
    refine rend ?_
    replace h := H.done h
    exact hj3 (!(v4_2.2 == false)) _ _ h (by kernel_rfl) (by kernel_rfl)
  intro b2 u h
  refine c_or b2 (fun q13 => ?_) (fun q13 => ?_)
  · replace h := H.t q13 h
    refine c_seq ?_
    refine r_start ?_
    refine p 1 ?_
    refine rend ?_
    replace h := H.done h
    subst h
    exact ret func3 rfl (vs := [.bool false]) (.tmp (by kernel_rfl) .nil) rfl (fun W S => ⟨rfl, S.below⟩)
  replace h := H.f q13 h
  refine c_skip ?_
  refine c_seq ?_
  refine c_seq ?_
  refine r_start ?_
  refine p 1 ?_
  refine rend ?_
  refine joinTE (X := Unit) (H.or h) (fun (x : Unit) => x) (fun _ => [box g3_5 33 (eHand v3_1.1), box g3_6 33 (eHand v3_1.2), box g4_6 37 (eSign v4_2.1), box g5_6 37 (eSign v5_2.1)]) (fun _ u => (jk u 0 1 (.slice A1 (List.length a1) k1 :: (jk u 2 334 [])))) (fun h hj14 => ?_) ?_
  · skip
    refine c_or v4_2.2 (fun q15 => ?_) (fun q15 => ?_)
    · replace h := H.t q15 h
      refine c_seq ?_
      refine r_start ?_
      refine xq rfl (y_load (.agg (eSign v4_2.1).toArray) 2 g4_6 0) ?_
      obtain ⟨v11_1, hv11_1, h⟩ := H.call h
      refine xq rfl (y_call [.agg (eSign v4_2.1).toArray] (.tuple #[.int .i64 v11_1.1, .bool v11_1.2]) func15 (fun W S => C.i_KindOfSign W hv11_1)) ?_
      refine p 5 ?_
      refine rend ?_
      refine c_seq ?_
      refine r_start ?_
      refine xq rfl (y_load (.agg (eSign v5_2.1).toArray) 3 g5_6 0) ?_
      obtain ⟨v12_1, hv12_1, h⟩ := H.call h
      refine xq rfl (y_call [.agg (eSign v5_2.1).toArray] (.tuple #[.int .i64 v12_1.1, .bool v12_1.2]) func16 (fun W S => C.s_KindOfSign W hv12_1)) ?_
      refine p 5 ?_
      refine rend ?_
      refine c_seq ?_
      refine r_start ?_
      refine xq rfl (y_load (.agg (eSign v4_2.1).toArray) 2 g4_6 0) ?_
      obtain ⟨v13_1, hv13_1, h⟩ := H.call h
      refine xq rfl (y_call [.agg (eSign v4_2.1).toArray] (.tuple #[.agg (eSign v13_1.1).toArray, .bool v13_1.2]) func17 (fun W S => C.i_DropOther W hv13_1)) ?_
      refine p 3 ?_
      refine xx rfl (x_new (eSign zSign) fun g13_5 => ?_)
      refine xx rfl (x_sto 4 g13_5 0 (eSign v13_1.1) ?_)
      refine p 1 ?_
      refine rend ?_
      refine frg (fun u => (jk u 0 1 (.slice A1 (List.length a1) k1 :: (jk u 2 3 (.pointer (some ⟨g3_5, 0, none⟩) :: .pointer (some ⟨g3_6, 0, none⟩) :: .pointer (some ⟨g4_6, 0, none⟩) :: (jk u 8 7 (.int .i64 v11_1.1 :: .bool v11_1.2 :: .int .i64 v12_1.1 :: .bool v12_1.2 :: .pointer (some ⟨g13_5, 0, none⟩) :: .bool v13_1.2 :: (jk u 21 315 [])))))))) (by kernel_rfl) fun u => ?_
      refine keep 5 (its' := [box g3_5 33 (eHand v3_1.1), box g3_6 33 (eHand v3_1.2), box g4_6 37 (eSign v4_2.1), box g5_6 37 (eSign v5_2.1), box g13_5 37 (eSign v13_1.1)]) (by kernel_rfl) ?_
      refine c_seq ?_
      refine r_start ?_
      refine xq rfl (y_load (.agg (eHand v3_1.1).toArray) 0 g3_5 0) ?_
      obtain ⟨v14_1, hv14_1, h⟩ := H.call h
      refine xq rfl (y_call [.agg (eHand v3_1.1).toArray] (.tuple #[.agg (eSign v14_1.1).toArray, .bool v14_1.2]) func18 (fun W S => C.i_OneHand W hv14_1)) ?_
      refine p 3 ?_
      refine xx rfl (x_new (eSign zSign) fun g14_5 => ?_)
      refine xx rfl (x_sto 5 g14_5 0 (eSign v14_1.1) ?_)
      refine p 1 ?_
      refine rend ?_
      refine c_seq ?_
      refine joinT (X := Bool) (H.bnd h) (fun (x : Bool) => x) (fun b16 => [box g3_5 33 (eHand v3_1.1), box g3_6 33 (eHand v3_1.2), box g4_6 37 (eSign v4_2.1), box g5_6 37 (eSign v5_2.1), box g13_5 37 (eSign v13_1.1), box g14_5 37 (eSign v14_1.1)]) (fun b16 u => (jk u 0 1 (.slice A1 (List.length a1) k1 :: (jk u 2 177 (.bool b16 :: (jk u 180 156 [])))))) (fun h hj17 => ?_) ?_
      · skip
        refine r_start ?_
        refine xq rfl (y_load (.agg (eSign v4_2.1).toArray) 2 g4_6 0) ?_
        obtain ⟨v15_1, hv15_1, h⟩ := H.call h
        refine xq rfl (y_call [.agg (eSign v4_2.1).toArray] (.bool v15_1) func19 (fun W S => C.i_IsSign W hv15_1)) ?_
        refine p 2 ?_
        refine br (!v15_1) (fun q18 => ?_) (fun q18 => ?_)
        · replace h := H.t q18 h
          refine o_set 136 (congrArg Value.bool q18) ?_
          refine p 43 ?_
          refine rend ?_
          replace h := H.done h
          exact hj17 true _ _ h (by kernel_rfl) (by kernel_rfl)
        replace h := H.f q18 h
        refine o_set 136 (congrArg Value.bool q18) ?_
        refine p 4 ?_
        refine br (!v11_1.2) (fun q19 => ?_) (fun q19 => ?_)
        · replace h := H.t q19 h
          refine o_set 140 (congrArg Value.bool q19) ?_
          refine p 39 ?_
          refine rend ?_
          replace h := H.done h
          exact hj17 true _ _ h (by kernel_rfl) (by kernel_rfl)
        replace h := H.f q19 h
        refine o_set 140 (congrArg Value.bool q19) ?_
        refine p 4 ?_
        refine br (!v12_1.2) (fun q20 => ?_) (fun q20 => ?_)
        · replace h := H.t q20 h
          refine o_set 144 (congrArg Value.bool q20) ?_
          refine p 35 ?_
          refine rend ?_
          replace h := H.done h
          exact hj17 true _ _ h (by kernel_rfl) (by kernel_rfl)
        replace h := H.f q20 h
        refine o_set 144 (congrArg Value.bool q20) ?_
        refine p 5 ?_
        refine br (v11_1.1 != v12_1.1) (fun q21 => ?_) (fun q21 => ?_)
        · replace h := H.t q21 h
          refine o_set 149 (congrArg Value.bool q21) ?_
          refine p 30 ?_
          refine rend ?_
          replace h := H.done h
          exact hj17 true _ _ h (by kernel_rfl) (by kernel_rfl)
        replace h := H.f q21 h
        refine o_set 149 (congrArg Value.bool q21) ?_
        refine p 4 ?_
        refine br (v12_1.1 == 0) (fun q22 => ?_) (fun q22 => ?_)
        · replace h := H.t q22 h
          refine o_set 153 (congrArg Value.bool q22) ?_
          refine p 26 ?_
          refine rend ?_
          replace h := H.done h
          exact hj17 true _ _ h (by kernel_rfl) (by kernel_rfl)
        replace h := H.f q22 h
        refine o_set 153 (congrArg Value.bool q22) ?_
        refine p 6 ?_
        refine br (!(v13_1.2 == (v12_1.1 != 3))) (fun q23 => ?_) (fun q23 => ?_)
        · replace h := H.t q23 h
          refine o_set 159 (congrArg Value.bool q23) ?_
          refine p 20 ?_
          refine rend ?_
          replace h := H.done h
          exact hj17 true _ _ h (by kernel_rfl) (by kernel_rfl)
        replace h := H.f q23 h
        refine o_set 159 (congrArg Value.bool q23) ?_
        refine p 4 ?_
        refine br (!v14_1.2) (fun q24 => ?_) (fun q24 => ?_)
        · replace h := H.t q24 h
          refine o_set 163 (congrArg Value.bool q24) ?_
          refine p 16 ?_
          refine rend ?_
          replace h := H.done h
          exact hj17 true _ _ h (by kernel_rfl) (by kernel_rfl)
        replace h := H.f q24 h
        refine o_set 163 (congrArg Value.bool q24) ?_
        refine p 2 ?_
        refine br v13_1.2 (fun q25 => ?_) (fun q25 => ?_)
        · replace h := H.t q25 h
          refine o_set 165 (congrArg Value.bool q25) ?_
          refine xq rfl (y_load (.agg (eSign v13_1.1).toArray) 4 g13_5 0) ?_
          refine xq rfl (y_load (.agg (eSign v14_1.1).toArray) 5 g14_5 0) ?_
          refine p 4 ?_
          refine br (!qSign v13_1.1 v14_1.1) (fun q26 => ?_) (fun q26 => ?_)
          · replace h := H.t q26 h
            refine o_set 171 (congrArg Value.bool q26) ?_
            refine p 8 ?_
            refine rend ?_
            replace h := H.done h
            exact hj17 true _ _ h (by kernel_rfl) (by kernel_rfl)
          replace h := H.f q26 h
          refine o_set 171 (congrArg Value.bool q26) ?_
          refine p 4 ?_
          refine xq rfl (y_load (.string (bs v3_1.2.Move.Steps)) 1 g3_6 11) ?_
          refine p 3 ?_
          refine rend ?_
          replace h := H.done h
          exact hj17 (!((v12_1.1 == 1) == (!seq v3_1.2.Move.Steps ([] : Str)))) _ _ h (by kernel_rfl) (by kernel_rfl)
        replace h := H.f q25 h
        refine o_set 165 (congrArg Value.bool q25) ?_
        refine p 10 ?_
        refine xq rfl (y_load (.string (bs v3_1.2.Move.Steps)) 1 g3_6 11) ?_
        refine p 3 ?_
        refine rend ?_
        replace h := H.done h
        exact hj17 (!((v12_1.1 == 1) == (!seq v3_1.2.Move.Steps ([] : Str)))) _ _ h (by kernel_rfl) (by kernel_rfl)
      intro b16 u h
      refine c_or b16 (fun q27 => ?_) (fun q27 => ?_)
      · replace h := H.t q27 h
        refine c_seq ?_
        refine r_start ?_
        refine p 1 ?_
        refine rend ?_
        replace h := H.inl h
        replace h := H.done h
        subst h
        exact ret func3 rfl (vs := [.bool false]) (.tmp (by kernel_rfl) .nil) rfl (fun W S => ⟨rfl, S.below⟩)
      replace h := H.f q27 h
      refine c_skip ?_
      replace h := H.inr h
      exact hj14 () _ _ h (by kernel_rfl) (by kernel_rfl)
    replace h := H.f q15 h
    refine c_skip ?_
    replace h := H.inr h
    exact hj14 () _ _ h (by kernel_rfl) (by kernel_rfl)
  intro x u h
  refine c_seq ?_
  refine r_start ?_
  refine p 1 ?_
  obtain ⟨v17_1, hv17_1, h⟩ := H.call h
  refine xq rfl (y_call [.slice A1 (List.length a1) k1] (.agg (eSign v17_1).toArray) func20 (fun W S => C.s_DrawDropOther W hv17_1 ((s_arg h1).out W S))) ?_
  refine xx rfl (x_new (eSign zSign) fun g17_2 => ?_)
  refine xx rfl (x_sto 4 g17_2 0 (eSign v17_1) ?_)
  refine rend ?_
  refine c_seq ?_
  refine r_start ?_
  refine xq rfl (y_load (.agg (eSign v17_1).toArray) 4 g17_2 0) ?_
  obtain ⟨v18_1, hv18_1, h⟩ := H.call h
  refine xq rfl (y_call [.agg (eSign v17_1).toArray] (.tuple #[.agg (eSign v18_1.1).toArray, .bool v18_1.2]) func17 (fun W S => C.i_DropOther W hv18_1)) ?_
  refine p 3 ?_
  refine xx rfl (x_new (eSign zSign) fun g18_5 => ?_)
  refine xx rfl (x_sto 5 g18_5 0 (eSign v18_1.1) ?_)
  refine p 1 ?_
  refine rend ?_
  refine c_seq ?_
  refine r_start ?_
  refine xq rfl (y_load (.agg (eSign v17_1).toArray) 4 g17_2 0) ?_
  obtain ⟨v19_1, hv19_1, h⟩ := H.call h
  refine xq rfl (y_call [.agg (eSign v17_1).toArray] (.tuple #[.agg (eSign v19_1.1).toArray, .bool v19_1.2]) func21 (fun W S => C.s_DropOther W hv19_1)) ?_
  refine p 3 ?_
  refine xx rfl (x_new (eSign zSign) fun g19_5 => ?_)
  refine xx rfl (x_sto 6 g19_5 0 (eSign v19_1.1) ?_)
  refine p 1 ?_
  refine rend ?_
  refine c_seq ?_
  refine r_start ?_
  refine xq rfl (y_load (.agg (eSign v17_1).toArray) 4 g17_2 0) ?_
  obtain ⟨v20_1, hv20_1, h⟩ := H.call h
  refine xq rfl (y_call [.agg (eSign v17_1).toArray] (.tuple #[.int .i64 v20_1.1, .bool v20_1.2]) func15 (fun W S => C.i_KindOfSign W hv20_1)) ?_
  refine p 5 ?_
  refine rend ?_
  refine c_seq ?_
  refine r_start ?_
  refine xq rfl (y_load (.agg (eSign v17_1).toArray) 4 g17_2 0) ?_
  obtain ⟨v21_1, hv21_1, h⟩ := H.call h
  refine xq rfl (y_call [.agg (eSign v17_1).toArray] (.tuple #[.int .i64 v21_1.1, .bool v21_1.2]) func16 (fun W S => C.s_KindOfSign W hv21_1)) ?_
  refine p 5 ?_
  refine rend ?_
  refine c_seq ?_
  refine r_start ?_
  refine xq rfl (y_load (.agg (eSign v17_1).toArray) 4 g17_2 0) ?_
  obtain ⟨v22_1, hv22_1, h⟩ := H.call h
  refine xq rfl (y_call [.agg (eSign v17_1).toArray] (.tuple #[.int .i64 v22_1.1, .bool v22_1.2]) func22 (fun W S => C.i_StepsOfSign W hv22_1)) ?_
  refine p 5 ?_
  refine rend ?_
  refine c_seq ?_
  refine r_start ?_
  refine xq rfl (y_load (.agg (eSign v17_1).toArray) 4 g17_2 0) ?_
  obtain ⟨v23_1, hv23_1, h⟩ := H.call h
  refine xq rfl (y_call [.agg (eSign v17_1).toArray] (.tuple #[.int .i64 v23_1.1, .bool v23_1.2]) func23 (fun W S => C.s_StepsOfSign W hv23_1)) ?_
  refine p 5 ?_
  refine rend ?_
  refine c_seq ?_
  refine c_seq ?_
  refine joinT (X := Bool) (H.bnd h) (fun (x : Bool) => x) (fun b28 => [box g3_5 33 (eHand v3_1.1), box g3_6 33 (eHand v3_1.2), box g4_6 37 (eSign v4_2.1), box g5_6 37 (eSign v5_2.1), box g17_2 37 (eSign v17_1), box g18_5 37 (eSign v18_1.1), box g19_5 37 (eSign v19_1.1)]) (fun b28 u => (jk u 0 1 (.slice A1 (List.length a1) k1 :: (jk u 2 21 (.pointer (some ⟨g17_2, 0, none⟩) :: (jk u 24 5 (.bool v20_1.2 :: .int .i64 v21_1.1 :: (jk u 31 3 (.int .i64 v23_1.1 :: (jk u 35 222 (.bool b28 :: (jk u 258 78 [])))))))))))) (fun h hj29 => ?_) ?_
  · skip
    refine r_start ?_
    refine p 4 ?_
    refine br (!(v18_1.2 == v19_1.2)) (fun q30 => ?_) (fun q30 => ?_)
    · replace h := H.t q30 h
      refine o_set 215 (congrArg Value.bool q30) ?_
      refine p 42 ?_
      refine rend ?_
      replace h := H.done h
      exact hj29 true _ _ h (by kernel_rfl) (by kernel_rfl)
    replace h := H.f q30 h
    refine o_set 215 (congrArg Value.bool q30) ?_
    refine xq rfl (y_load (.agg (eSign v18_1.1).toArray) 5 g18_5 0) ?_
    refine xq rfl (y_load (.agg (eSign v19_1.1).toArray) 6 g19_5 0) ?_
    refine p 3 ?_
    refine br (!qSign v18_1.1 v19_1.1) (fun q31 => ?_) (fun q31 => ?_)
    · replace h := H.t q31 h
      refine o_set 220 (congrArg Value.bool q31) ?_
      refine p 37 ?_
      refine rend ?_
      replace h := H.done h
      exact hj29 true _ _ h (by kernel_rfl) (by kernel_rfl)
    replace h := H.f q31 h
    refine o_set 220 (congrArg Value.bool q31) ?_
    refine p 5 ?_
    refine br (!(v20_1.2 == v21_1.2)) (fun q32 => ?_) (fun q32 => ?_)
    · replace h := H.t q32 h
      refine o_set 225 (congrArg Value.bool q32) ?_
      refine p 32 ?_
      refine rend ?_
      replace h := H.done h
      exact hj29 true _ _ h (by kernel_rfl) (by kernel_rfl)
    replace h := H.f q32 h
    refine o_set 225 (congrArg Value.bool q32) ?_
    refine p 5 ?_
    refine br (v20_1.1 != v21_1.1) (fun q33 => ?_) (fun q33 => ?_)
    · replace h := H.t q33 h
      refine o_set 230 (congrArg Value.bool q33) ?_
      refine p 27 ?_
      refine rend ?_
      replace h := H.done h
      exact hj29 true _ _ h (by kernel_rfl) (by kernel_rfl)
    replace h := H.f q33 h
    refine o_set 230 (congrArg Value.bool q33) ?_
    refine p 5 ?_
    refine br (!(v22_1.2 == v23_1.2)) (fun q34 => ?_) (fun q34 => ?_)
    · replace h := H.t q34 h
      refine o_set 235 (congrArg Value.bool q34) ?_
      refine p 22 ?_
      refine rend ?_
      replace h := H.done h
      exact hj29 true _ _ h (by kernel_rfl) (by kernel_rfl)
    replace h := H.f q34 h
    refine o_set 235 (congrArg Value.bool q34) ?_
    refine p 5 ?_
    refine br (v22_1.1 != v23_1.1) (fun q35 => ?_) (fun q35 => ?_)
    · replace h := H.t q35 h
      refine o_set 240 (congrArg Value.bool q35) ?_
      refine p 17 ?_
      refine rend ?_
      replace h := H.done h
      exact hj29 true _ _ h (by kernel_rfl) (by kernel_rfl)
    replace h := H.f q35 h
    refine o_set 240 (congrArg Value.bool q35) ?_
    refine p 1 ?_
    refine xq rfl (y_load (.agg (eSign v17_1).toArray) 4 g17_2 0) ?_
    obtain ⟨v24_31, hv24_31, h⟩ := H.call h
    refine xq rfl (y_call [.agg (eSign v17_1).toArray] (.bool v24_31) func19 (fun W S => C.i_IsSign W hv24_31)) ?_
    refine p 3 ?_
    refine br (!(v20_1.2 == v24_31)) (fun q36 => ?_) (fun q36 => ?_)
    · replace h := H.t q36 h
      refine o_set 246 (congrArg Value.bool q36) ?_
      refine p 11 ?_
      refine rend ?_
      replace h := H.done h
      exact hj29 true _ _ h (by kernel_rfl) (by kernel_rfl)
    replace h := H.f q36 h
    refine o_set 246 (congrArg Value.bool q36) ?_
    refine p 5 ?_
    refine br (!(v22_1.2 == v20_1.2)) (fun q37 => ?_) (fun q37 => ?_)
    · replace h := H.t q37 h
      refine o_set 251 (congrArg Value.bool q37) ?_
      refine p 6 ?_
      refine rend ?_
      replace h := H.done h
      exact hj29 true _ _ h (by kernel_rfl) (by kernel_rfl)
    replace h := H.f q37 h
    refine o_set 251 (congrArg Value.bool q37) ?_
    refine p 2 ?_
    refine br v18_1.2 (fun q38 => ?_) (fun q38 => ?_)
    · replace h := H.t q38 h
      refine o_set 253 (congrArg Value.bool q38) ?_
      refine p 4 ?_
      refine rend ?_
      replace h := H.done h
      exact hj29 (!v20_1.2) _ _ h (by kernel_rfl) (by kernel_rfl)
    replace h := H.f q38 h
    refine o_set 253 (congrArg Value.bool q38) ?_
    refine p 4 ?_
    refine rend ?_
    replace h := H.done h
    exact hj29 false _ _ h (by kernel_rfl) (by kernel_rfl)
  intro b28 u h
  refine c_or b28 (fun q39 => ?_) (fun q39 => ?_)
  · replace h := H.t q39 h
    refine c_seq ?_
    refine r_start ?_
    refine p 1 ?_
    refine rend ?_
    replace h := H.done h
    subst h
    exact ret func3 rfl (vs := [.bool false]) (.tmp (by kernel_rfl) .nil) rfl (fun W S => ⟨rfl, S.below⟩)
  replace h := H.f q39 h
  refine c_skip ?_
  refine c_seq ?_
  refine c_seq ?_
  refine r_start ?_
  refine p 1 ?_
  refine rend ?_
  refine joinTE (X := Unit) (H.or h) (fun (x : Unit) => x) (fun _ => [box g3_5 33 (eHand v3_1.1), box g3_6 33 (eHand v3_1.2), box g4_6 37 (eSign v4_2.1), box g5_6 37 (eSign v5_2.1), box g17_2 37 (eSign v17_1), box g18_5 37 (eSign v18_1.1), box g19_5 37 (eSign v19_1.1)]) (fun _ u => (jk u 0 1 (.slice A1 (List.length a1) k1 :: (jk u 2 334 [])))) (fun h hj40 => ?_) ?_
  · skip
    refine c_or v20_1.2 (fun q41 => ?_) (fun q41 => ?_)
    · replace h := H.t q41 h
      refine c_seq ?_
      refine r_start ?_
      refine p 2 ?_
      refine xq rfl (y_load (.agg (eMove v17_1.Main.Move).toArray) 4 g17_2 11) ?_
      obtain ⟨v27_3, hv27_3, h⟩ := H.call h
      refine xq rfl (y_call [.agg (eMove v17_1.Main.Move).toArray] (.tuple #[.string (bs v27_3.1), .bool v27_3.2]) func24 (fun W S => C.i_AllSteps W hv27_3)) ?_
      refine p 5 ?_
      refine rend ?_
      refine frg (fun u => (jk u 0 1 (.slice A1 (List.length a1) k1 :: (jk u 2 21 (.pointer (some ⟨g17_2, 0, none⟩) :: (jk u 24 6 (.int .i64 v21_1.1 :: (jk u 31 3 (.int .i64 v23_1.1 :: (jk u 35 1 (.string (bs v27_3.1) :: .bool v27_3.2 :: (jk u 38 298 [])))))))))))) (by kernel_rfl) fun u => ?_
      refine keep 7 (its' := [box g3_5 33 (eHand v3_1.1), box g3_6 33 (eHand v3_1.2), box g4_6 37 (eSign v4_2.1), box g5_6 37 (eSign v5_2.1), box g17_2 37 (eSign v17_1), box g18_5 37 (eSign v18_1.1), box g19_5 37 (eSign v19_1.1)]) (by kernel_rfl) ?_
      refine c_seq ?_
      refine joinT (X := Bool) (H.bnd h) (fun (x : Bool) => x) (fun b42 => [box g3_5 33 (eHand v3_1.1), box g3_6 33 (eHand v3_1.2), box g4_6 37 (eSign v4_2.1), box g5_6 37 (eSign v5_2.1), box g17_2 37 (eSign v17_1), box g18_5 37 (eSign v18_1.1), box g19_5 37 (eSign v19_1.1)]) (fun b42 u => (jk u 0 1 (.slice A1 (List.length a1) k1 :: (jk u 2 288 (.bool b42 :: (jk u 291 45 [])))))) (fun h hj43 => ?_) ?_
      · skip
        refine r_start ?_
        refine p 3 ?_
        refine br (!v27_3.2) (fun q44 => ?_) (fun q44 => ?_)
        · replace h := H.t q44 h
          refine o_set 268 (congrArg Value.bool q44) ?_
          refine p 22 ?_
          refine rend ?_
          replace h := H.done h
          exact hj43 true _ _ h (by kernel_rfl) (by kernel_rfl)
        replace h := H.f q44 h
        refine o_set 268 (congrArg Value.bool q44) ?_
        refine p 6 ?_
        refine br (decide (v23_1.1 < (List.length v27_3.1 : Int))) (fun q45 => ?_) (fun q45 => ?_)
        · replace h := H.t q45 h
          refine o_set 274 (congrArg Value.bool q45) ?_
          refine p 16 ?_
          refine rend ?_
          replace h := H.done h
          exact hj43 true _ _ h (by kernel_rfl) (by kernel_rfl)
        replace h := H.f q45 h
        refine o_set 274 (congrArg Value.bool q45) ?_
        refine p 3 ?_
        refine br (v21_1.1 == 0) (fun q46 => ?_) (fun q46 => ?_)
        · replace h := H.t q46 h
          refine o_set 277 (congrArg Value.bool q46) ?_
          refine p 7 ?_
          refine br (v23_1.1 != (List.length v27_3.1 : Int)) (fun q47 => ?_) (fun q47 => ?_)
          · replace h := H.t q47 h
            refine o_set 284 (congrArg Value.bool q47) ?_
            refine p 6 ?_
            refine rend ?_
            replace h := H.done h
            exact hj43 true _ _ h (by kernel_rfl) (by kernel_rfl)
          replace h := H.f q47 h
          refine o_set 284 (congrArg Value.bool q47) ?_
          refine p 3 ?_
          refine xq rfl (y_load (.bool v17_1.Two) 4 g17_2 13) ?_
          refine p 2 ?_
          refine rend ?_
          replace h := H.done h
          exact hj43 ((v21_1.1 == 0) == v17_1.Two) _ _ h (by kernel_rfl) (by kernel_rfl)
        replace h := H.f q46 h
        refine o_set 277 (congrArg Value.bool q46) ?_
        refine p 10 ?_
        refine xq rfl (y_load (.bool v17_1.Two) 4 g17_2 13) ?_
        refine p 2 ?_
        refine rend ?_
        replace h := H.done h
        exact hj43 ((v21_1.1 == 0) == v17_1.Two) _ _ h (by kernel_rfl) (by kernel_rfl)
      intro b42 u h
      refine c_or b42 (fun q48 => ?_) (fun q48 => ?_)
      · replace h := H.t q48 h
        refine c_seq ?_
        refine r_start ?_
        refine p 1 ?_
        refine rend ?_
        replace h := H.inl h
        replace h := H.done h
        subst h
        exact ret func3 rfl (vs := [.bool false]) (.tmp (by kernel_rfl) .nil) rfl (fun W S => ⟨rfl, S.below⟩)
      replace h := H.f q48 h
      refine c_skip ?_
      replace h := H.inr h
      exact hj40 () _ _ h (by kernel_rfl) (by kernel_rfl)
    replace h := H.f q41 h
    refine c_skip ?_
    replace h := H.inr h
    exact hj40 () _ _ h (by kernel_rfl) (by kernel_rfl)
  intro x u h
  refine c_seq ?_
  refine r_start ?_
  refine p 1 ?_
  obtain ⟨v30_1, hv30_1, h⟩ := H.call h
  refine xq rfl (y_call [.slice A1 (List.length a1) k1] (.agg (eHand v30_1).toArray) func25 (fun W S => C.s_DrawOneHand W hv30_1 ((s_arg h1).out W S))) ?_
  refine xx rfl (x_new (eHand zHand) fun g30_2 => ?_)
  refine xx rfl (x_sto 7 g30_2 0 (eHand v30_1) ?_)
  refine rend ?_
  refine c_seq ?_
  refine r_start ?_
  refine xq rfl (y_load (.agg (eHand v30_1).toArray) 7 g30_2 0) ?_
  obtain ⟨v31_1, hv31_1, h⟩ := H.call h
  refine xq rfl (y_call [.agg (eHand v30_1).toArray] (.tuple #[.agg (eSign v31_1.1).toArray, .bool v31_1.2]) func18 (fun W S => C.i_OneHand W hv31_1)) ?_
  refine p 3 ?_
  refine xx rfl (x_new (eSign zSign) fun g31_5 => ?_)
  refine xx rfl (x_sto 8 g31_5 0 (eSign v31_1.1) ?_)
  refine p 1 ?_
  refine rend ?_
  refine c_seq ?_
  refine r_start ?_
  refine xq rfl (y_load (.agg (eHand v30_1).toArray) 7 g30_2 0) ?_
  obtain ⟨v32_1, hv32_1, h⟩ := H.call h
  refine xq rfl (y_call [.agg (eHand v30_1).toArray] (.tuple #[.agg (eSign v32_1.1).toArray, .bool v32_1.2]) func26 (fun W S => C.s_OneHand W hv32_1)) ?_
  refine p 3 ?_
  refine xx rfl (x_new (eSign zSign) fun g32_5 => ?_)
  refine xx rfl (x_sto 9 g32_5 0 (eSign v32_1.1) ?_)
  refine p 1 ?_
  refine rend ?_
  refine c_seq ?_
  refine r_start ?_
  refine p 4 ?_
  refine br (v31_1.2 == v32_1.2) (fun q49 => ?_) (fun q49 => ?_)
  · replace h := H.t q49 h
    refine o_set 306 (congrArg Value.bool q49) ?_
    refine xq rfl (y_load (.agg (eSign v31_1.1).toArray) 8 g31_5 0) ?_
    refine xq rfl (y_load (.agg (eSign v32_1.1).toArray) 9 g32_5 0) ?_
    refine p 3 ?_
    refine br (qSign v31_1.1 v32_1.1) (fun q50 => ?_) (fun q50 => ?_)
    · replace h := H.t q50 h
      refine o_set 311 (congrArg Value.bool q50) ?_
      refine p 1 ?_
      refine xq rfl (y_load (.agg (eHand v30_1).toArray) 7 g30_2 0) ?_
      obtain ⟨v33_11, hv33_11, h⟩ := H.call h
      refine xq rfl (y_call [.agg (eHand v30_1).toArray] (.bool v33_11) func14 (fun W S => C.i_IsHand W hv33_11)) ?_
      refine p 3 ?_
      refine br (v31_1.2 == v33_11) (fun q51 => ?_) (fun q51 => ?_)
      · replace h := H.t q51 h
        refine o_set 317 (congrArg Value.bool q51) ?_
        refine p 3 ?_
        refine br (!v31_1.2) (fun q52 => ?_) (fun q52 => ?_)
        · replace h := H.t q52 h
          refine o_set 320 (congrArg Value.bool q52) ?_
          refine p 16 ?_
          refine rend ?_
          replace h := H.done h
          subst h
          exact ret func3 rfl (vs := [.bool true]) (.tmp (by kernel_rfl) .nil) rfl (fun W S => ⟨rfl, S.below⟩)
        replace h := H.f q52 h
        refine o_set 320 (congrArg Value.bool q52) ?_
        refine p 1 ?_
        refine xq rfl (y_load (.bool v32_1.1.Two) 9 g32_5 13) ?_
        refine p 2 ?_
        refine br (!v32_1.1.Two) (fun q53 => ?_) (fun q53 => ?_)
        · replace h := H.t q53 h
          refine o_set 324 (congrArg Value.bool q53) ?_
          refine p 1 ?_
          refine xq rfl (y_load (.agg (eHand v32_1.1.Main).toArray) 9 g32_5 0) ?_
          refine xq rfl (y_load (.agg (eHand v30_1).toArray) 7 g30_2 0) ?_
          refine p 3 ?_
          refine br (qHand v32_1.1.Main v30_1) (fun q54 => ?_) (fun q54 => ?_)
          · replace h := H.t q54 h
            refine o_set 330 (congrArg Value.bool q54) ?_
            refine xq rfl (y_load (.agg (eSign v31_1.1).toArray) 8 g31_5 0) ?_
            obtain ⟨v33_29, hv33_29, h⟩ := H.call h
            refine xq rfl (y_call [.agg (eSign v31_1.1).toArray] (.bool v33_29) func19 (fun W S => C.i_IsSign W hv33_29)) ?_
            refine p 4 ?_
            refine rend ?_
            replace h := H.done h
            subst h
            exact ret func3 rfl (vs := [.bool v33_29]) (.tmp (by kernel_rfl) .nil) rfl (fun W S => ⟨rfl, S.below⟩)
          replace h := H.f q54 h
          refine o_set 330 (congrArg Value.bool q54) ?_
          refine p 6 ?_
          refine rend ?_
          replace h := H.done h
          subst h
          exact ret func3 rfl (vs := [.bool false]) (.tmp (by kernel_rfl) .nil) rfl (fun W S => ⟨rfl, S.below⟩)
        replace h := H.f q53 h
        refine o_set 324 (congrArg Value.bool q53) ?_
        refine p 12 ?_
        refine rend ?_
        replace h := H.done h
        subst h
        exact ret func3 rfl (vs := [.bool false]) (.tmp (by kernel_rfl) .nil) rfl (fun W S => ⟨rfl, S.below⟩)
      replace h := H.f q51 h
      refine o_set 317 (congrArg Value.bool q51) ?_
      refine p 19 ?_
      refine rend ?_
      replace h := H.done h
      subst h
      exact ret func3 rfl (vs := [.bool false]) (.tmp (by kernel_rfl) .nil) rfl (fun W S => ⟨rfl, S.below⟩)
    replace h := H.f q50 h
    refine o_set 311 (congrArg Value.bool q50) ?_
    refine p 25 ?_
    refine rend ?_
    replace h := H.done h
    subst h
    exact ret func3 rfl (vs := [.bool false]) (.tmp (by kernel_rfl) .nil) rfl (fun W S => ⟨rfl, S.below⟩)
  replace h := H.f q49 h
  refine o_set 306 (congrArg Value.bool q49) ?_
  refine p 30 ?_
  refine rend ?_
  replace h := H.done h
  subst h
  exact ret func3 rfl (vs := [.bool false]) (.tmp (by kernel_rfl) .nil) rfl (fun W S => ⟨rfl, S.below⟩)
end Go.Proofs.XC
