/- Contracts: each function of the given program, called where its plain function gives an answer, returns just that answer and changes nothing that was there. By AI agents; no person has read it. -/
import Derived.Test.YtldkmmopfhhdgaaGreatDoorC1
set_option linter.unusedVariables false
set_option linter.unusedSimpArgs false
set_option maxRecDepth 100000
set_option maxHeartbeats 40000000
namespace Go.Proofs.XC
open Go Go.RowKit
open Tryz
theorem C.s_noHand {fu : Nat} {a0 : Hand} {r : Hand} (w : World) (h : X.s_noHand fu a0 = some r) : Calls prog 190 #[.agg (eHand a0).toArray] w (Ret w (.agg (eHand r).toArray)) := by
  refine calls (M := no) (args := [.agg (eHand a0).toArray]) func190 rfl ?_
  replace h : H (X.s_noHand fu a0) (fun o => o = r) := H.mk h
  unfold X.s_noHand at h
  refine c_seq ?_
  refine r_start ?_
  refine xx rfl (x_box (eHand a0) fun g0_0 => ?_)
  refine xx rfl (x_new (eHand zHand) fun g0_1 => ?_)
  refine rend ?_
  refine c_seq ?_
  refine r_start ?_
  refine p 1 ?_
  refine xq rfl (y_load (.agg (eMove a0.Move).toArray) 0 g0_0 11) ?_
  obtain ⟨v1_2, hv1_2, h⟩ := H.call h
  refine xq rfl (y_call [.agg (eMove a0.Move).toArray] (.agg (eMove v1_2).toArray) func163 (fun W S => C.s_mvNormal W hv1_2)) ?_
  refine p 1 ?_
  refine xx rfl (x_sto 0 g0_0 11 (eHand ({ a0 with Move := v1_2 })) ?_)
  refine rend ?_
  refine c_seq ?_
  refine r_start ?_
  refine xq rfl (y_load (.agg (eHand ({ a0 with Move := v1_2 })).toArray) 0 g0_0 0) ?_
  refine xx rfl (x_sto 1 g0_1 0 (eHand ({ a0 with Move := v1_2 })) ?_)
  refine rend ?_
  replace h := H.done h
  subst h
  exact ret func190 rfl (vs := [.agg (eHand ({ a0 with Move := v1_2 })).toArray]) (.cell 1 g0_1 rfl (by kernel_rfl) (by kernel_rfl) .nil) rfl (fun W S => ⟨rfl, S.below⟩)
theorem C.s_noForm {fu : Nat} {a0 : Sign} {r : Sign} (w : World) (h : X.s_noForm fu a0 = some r) : Calls prog 117 #[.agg (eSign a0).toArray] w (Ret w (.agg (eSign r).toArray)) := by
  refine calls (M := no) (args := [.agg (eSign a0).toArray]) func117 rfl ?_
  replace h : H (X.s_noForm fu a0) (fun o => o = r) := H.mk h
  unfold X.s_noForm at h
  refine c_seq ?_
  refine r_start ?_
  refine xx rfl (x_box (eSign a0) fun g0_0 => ?_)
  refine xx rfl (x_new (eSign zSign) fun g0_1 => ?_)
  refine rend ?_
  refine c_seq ?_
  refine r_start ?_
  refine p 1 ?_
  refine xq rfl (y_load (.agg (eHand a0.Main).toArray) 0 g0_0 0) ?_
  obtain ⟨v1_2, hv1_2, h⟩ := H.call h
  refine xq rfl (y_call [.agg (eHand a0.Main).toArray] (.agg (eHand v1_2).toArray) func190 (fun W S => C.s_noHand W hv1_2)) ?_
  refine p 1 ?_
  refine xx rfl (x_new (eSign zSign) fun g1_4 => ?_)
  refine xx rfl (x_sto 2 g1_4 0 (eSign ({ zSign with Main := v1_2 })) ?_)
  refine rend ?_
  refine c_seq ?_
  refine c_seq ?_
  refine r_start ?_
  refine p 1 ?_
  refine xq rfl (y_load (.bool a0.Two) 0 g0_0 13) ?_
  refine p 1 ?_
  refine rend ?_
  refine c_or (!a0.Two) (fun q1 => ?_) (fun q1 => ?_)
  · replace h := H.t q1 h
    refine c_seq ?_
    refine r_start ?_
    refine xq rfl (y_load (.agg (eSign ({ zSign with Main := v1_2 })).toArray) 2 g1_4 0) ?_
    refine xx rfl (x_sto 1 g0_1 0 (eSign ({ zSign with Main := v1_2 })) ?_)
    refine rend ?_
    replace h := H.done h
    subst h
    exact ret func117 rfl (vs := [.agg (eSign ({ zSign with Main := v1_2 })).toArray]) (.cell 1 g0_1 rfl (by kernel_rfl) (by kernel_rfl) .nil) rfl (fun W S => ⟨rfl, S.below⟩)
  replace h := H.f q1 h
  refine c_skip ?_
  refine c_seq ?_
  refine r_start ?_
  refine p 1 ?_
  refine xx rfl (x_sto 2 g1_4 13 (eSign (⟨v1_2, true, zSign.Other⟩ : Sign)) ?_)
  refine rend ?_
  refine c_seq ?_
  refine r_start ?_
  refine p 1 ?_
  refine xq rfl (y_load (.agg (eHand a0.Other).toArray) 0 g0_0 14) ?_
  obtain ⟨v5_2, hv5_2, h⟩ := H.call h
  refine xq rfl (y_call [.agg (eHand a0.Other).toArray] (.agg (eHand v5_2).toArray) func190 (fun W S => C.s_noHand W hv5_2)) ?_
  refine p 1 ?_
  refine xx rfl (x_sto 2 g1_4 14 (eSign (⟨v1_2, true, v5_2⟩ : Sign)) ?_)
  refine rend ?_
  refine c_seq ?_
  refine c_seq ?_
  refine as_start 12 12 ?_
  refine aq 0 rfl (y_load (.agg (eSign (⟨v1_2, true, v5_2⟩ : Sign)).toArray) 2 g1_4 0) ?_
  obtain ⟨v6_1, hv6_1, h⟩ := H.call h
  refine aq 1 rfl (y_call [.agg (eSign (⟨v1_2, true, v5_2⟩ : Sign)).toArray] (.int .i64 v6_1) func102 (fun W S => C.s_siKind W hv6_1)) ?_
  refine ap 2 2 ?_
  refine br (v6_1 == 1) (fun q2 => ?_) (fun q2 => ?_)
  · replace h := H.t q2 h
    refine a_set 21 (congrArg Value.bool q2) ?_
    refine ap 4 1 ?_
    refine aq 5 rfl (y_load (.agg (eHand v5_2).toArray) 2 g1_4 14) ?_
    obtain ⟨v6_6, hv6_6, h⟩ := H.call h
    refine aq 6 rfl (y_call [.agg (eHand v5_2).toArray] (.string (bs v6_6)) func113 (fun W S => C.s_siText W hv6_6)) ?_
    refine ap 7 1 ?_
    refine aq 8 rfl (y_load (.agg (eHand v1_2).toArray) 2 g1_4 0) ?_
    obtain ⟨v6_9, hv6_9, h⟩ := H.call h
    refine aq 9 rfl (y_call [.agg (eHand v1_2).toArray] (.string (bs v6_9)) func113 (fun W S => C.s_siText W hv6_9)) ?_
    refine ap 10 2 ?_
    refine a_done ?_
    refine c_or (slt v6_6 v6_9) (fun q3 => ?_) (fun q3 => ?_)
    · replace h := H.t q3 h
      refine c_seq ?_
      refine r_start ?_
      refine p 1 ?_
      refine xq rfl (y_load (.agg (eHand v1_2).toArray) 2 g1_4 0) ?_
      refine xx rfl (x_new (eHand zHand) fun g7_2 => ?_)
      refine xx rfl (x_sto 3 g7_2 0 (eHand v1_2) ?_)
      refine rend ?_
      refine c_seq ?_
      refine r_start ?_
      refine p 1 ?_
      refine xq rfl (y_load (.agg (eHand v5_2).toArray) 2 g1_4 14) ?_
      refine p 1 ?_
      refine xx rfl (x_sto 2 g1_4 0 (eSign (⟨v5_2, true, v5_2⟩ : Sign)) ?_)
      refine rend ?_
      refine r_start ?_
      refine xq rfl (y_load (.agg (eHand v1_2).toArray) 3 g7_2 0) ?_
      refine p 1 ?_
      refine xx rfl (x_sto 2 g1_4 14 (eSign (⟨v5_2, true, v1_2⟩ : Sign)) ?_)
      refine rend ?_
      refine c_seq ?_
      refine r_start ?_
      refine xq rfl (y_load (.agg (eSign (⟨v5_2, true, v1_2⟩ : Sign)).toArray) 2 g1_4 0) ?_
      refine xx rfl (x_sto 1 g0_1 0 (eSign (⟨v5_2, true, v1_2⟩ : Sign)) ?_)
      refine rend ?_
      replace h := H.done h
      subst h
      exact ret func117 rfl (vs := [.agg (eSign (⟨v5_2, true, v1_2⟩ : Sign)).toArray]) (.cell 1 g0_1 rfl (by kernel_rfl) (by kernel_rfl) .nil) rfl (fun W S => ⟨rfl, S.below⟩)
    replace h := H.f q3 h
    refine c_skip ?_
    refine c_seq ?_
    refine r_start ?_
    refine xq rfl (y_load (.agg (eSign (⟨v1_2, true, v5_2⟩ : Sign)).toArray) 2 g1_4 0) ?_
    refine xx rfl (x_sto 1 g0_1 0 (eSign (⟨v1_2, true, v5_2⟩ : Sign)) ?_)
    refine rend ?_
    replace h := H.done h
    subst h
    exact ret func117 rfl (vs := [.agg (eSign (⟨v1_2, true, v5_2⟩ : Sign)).toArray]) (.cell 1 g0_1 rfl (by kernel_rfl) (by kernel_rfl) .nil) rfl (fun W S => ⟨rfl, S.below⟩)
  replace h := H.f q2 h
  refine a_set 21 (congrArg Value.bool q2) ?_
  refine ap 4 8 ?_
  refine a_done ?_
  refine c_f (by kernel_rfl) ?_
  refine c_skip ?_
  refine c_seq ?_
  refine r_start ?_
  refine xq rfl (y_load (.agg (eSign (⟨v1_2, true, v5_2⟩ : Sign)).toArray) 2 g1_4 0) ?_
  refine xx rfl (x_sto 1 g0_1 0 (eSign (⟨v1_2, true, v5_2⟩ : Sign)) ?_)
  refine rend ?_
  replace h := H.done h
  subst h
  exact ret func117 rfl (vs := [.agg (eSign (⟨v1_2, true, v5_2⟩ : Sign)).toArray]) (.cell 1 g0_1 rfl (by kernel_rfl) (by kernel_rfl) .nil) rfl (fun W S => ⟨rfl, S.below⟩)
end Go.Proofs.XC
