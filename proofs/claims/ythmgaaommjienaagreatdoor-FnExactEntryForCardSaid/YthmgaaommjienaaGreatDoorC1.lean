/- Contracts: each function of the given program, called where its plain function gives an answer, returns just that answer and changes nothing that was there. By AI agents; no person has read it. -/
import Derived.Test.YthmgaaommjienaaGreatDoorC0
set_option linter.unusedVariables false
set_option linter.unusedSimpArgs false
set_option maxRecDepth 100000
set_option maxHeartbeats 40000000
namespace Go.Proofs.XC
open Go Go.RowKit
open Tryz
theorem C.i_Move_normal {fu : Nat} {a0 : Move} {r : Move} (w : World) (h : X.i_Move_normal fu a0 = some r) : Calls prog 213 #[.agg (eMove a0).toArray] w (Ret w (.agg (eMove r).toArray)) := by
  refine calls (M := no) (args := [.agg (eMove a0).toArray]) func213 rfl ?_
  replace h : H (X.i_Move_normal fu a0) (fun o => o = r) := H.mk h
  unfold X.i_Move_normal at h
  refine c_seq ?_
  refine r_start ?_
  refine xx rfl (x_box (eMove a0) fun g0_0 => ?_)
  refine xx rfl (x_new (eMove zMove) fun g0_1 => ?_)
  refine rend ?_
  refine c_seq ?_
  refine r_start ?_
  refine xq rfl (y_load (.agg (eMove a0).toArray) 0 g0_0 0) ?_
  obtain ⟨v1_1, hv1_1, h⟩ := H.call h
  refine xq rfl (y_call [.agg (eMove a0).toArray] (.string (bs v1_1)) func133 (fun W S => C.i_Move_all W hv1_1)) ?_
  obtain ⟨v1_2, hv1_2, h⟩ := H.call h
  refine xq rfl (y_call [.string (bs v1_1)] (.tuple #[.agg (eMove v1_2.1).toArray, .bool v1_2.2]) func249 (fun W S => C.i_moveOf W hv1_2)) ?_
  refine p 3 ?_
  refine xx rfl (x_new (eMove zMove) fun g1_6 => ?_)
  refine xx rfl (x_sto 2 g1_6 0 (eMove v1_2.1) ?_)
  refine p 1 ?_
  refine rend ?_
  refine c_seq ?_
  refine r_start ?_
  refine xq rfl (y_load (.agg (eMove v1_2.1).toArray) 2 g1_6 0) ?_
  refine xx rfl (x_sto 1 g0_1 0 (eMove v1_2.1) ?_)
  refine rend ?_
  replace h := H.done h
  subst h
  exact ret func213 rfl (vs := [.agg (eMove v1_2.1).toArray]) (.cell 1 g0_1 rfl (by kernel_rfl) (by kernel_rfl) .nil) rfl (fun W S => ⟨rfl, S.below⟩)
theorem C.i_Hand_normal {fu : Nat} {a0 : Hand} {r : Hand} (w : World) (h : X.i_Hand_normal fu a0 = some r) : Calls prog 157 #[.agg (eHand a0).toArray] w (Ret w (.agg (eHand r).toArray)) := by
  refine calls (M := no) (args := [.agg (eHand a0).toArray]) func157 rfl ?_
  replace h : H (X.i_Hand_normal fu a0) (fun o => o = r) := H.mk h
  unfold X.i_Hand_normal at h
  refine c_seq ?_
  refine r_start ?_
  refine xx rfl (x_box (eHand a0) fun g0_0 => ?_)
  refine xx rfl (x_new (eHand zHand) fun g0_1 => ?_)
  refine rend ?_
  refine c_seq ?_
  refine r_start ?_
  refine p 1 ?_
  refine xq rfl (y_load (.agg (eMove a0.Move).toArray) 0 g0_0 11) ?_
  obtain ⟨v1_2, hv1_2, h⟩ := H.call h
  refine xq rfl (y_call [.agg (eMove a0.Move).toArray] (.agg (eMove v1_2).toArray) func213 (fun W S => C.i_Move_normal W hv1_2)) ?_
  refine p 1 ?_
  refine xx rfl (x_sto 0 g0_0 11 (eHand ({ a0 with Move := v1_2 })) ?_)
  refine rend ?_
  refine c_seq ?_
  refine r_start ?_
  refine xq rfl (y_load (.agg (eHand ({ a0 with Move := v1_2 })).toArray) 0 g0_0 0) ?_
  refine xx rfl (x_sto 1 g0_1 0 (eHand ({ a0 with Move := v1_2 })) ?_)
  refine rend ?_
  replace h := H.done h
  subst h
  exact ret func157 rfl (vs := [.agg (eHand ({ a0 with Move := v1_2 })).toArray]) (.cell 1 g0_1 rfl (by kernel_rfl) (by kernel_rfl) .nil) rfl (fun W S => ⟨rfl, S.below⟩)
theorem C.i_Sign_normal {fu : Nat} {a0 : Sign} {r : Sign} (w : World) (h : X.i_Sign_normal fu a0 = some r) : Calls prog 90 #[.agg (eSign a0).toArray] w (Ret w (.agg (eSign r).toArray)) := by
  refine calls (M := no) (args := [.agg (eSign a0).toArray]) func90 rfl ?_
  replace h : H (X.i_Sign_normal fu a0) (fun o => o = r) := H.mk h
  unfold X.i_Sign_normal at h
  refine c_seq ?_
  refine r_start ?_
  refine xx rfl (x_box (eSign a0) fun g0_0 => ?_)
  refine xx rfl (x_new (eSign zSign) fun g0_1 => ?_)
  refine rend ?_
  refine c_seq ?_
  refine r_start ?_
  refine p 1 ?_
  refine xq rfl (y_load (.agg (eHand a0.Main).toArray) 0 g0_0 0) ?_
  obtain ⟨v1_2, hv1_2, h⟩ := H.call h
  refine xq rfl (y_call [.agg (eHand a0.Main).toArray] (.agg (eHand v1_2).toArray) func157 (fun W S => C.i_Hand_normal W hv1_2)) ?_
  refine p 1 ?_
  refine xx rfl (x_sto 0 g0_0 0 (eSign ({ a0 with Main := v1_2 })) ?_)
  refine rend ?_
  refine c_seq ?_
  refine c_seq ?_
  refine r_start ?_
  refine p 1 ?_
  refine xq rfl (y_load (.bool a0.Two) 0 g0_0 13) ?_
  refine p 1 ?_
  refine rend ?_
  refine c_or (!a0.Two) (fun q1 => ?_) (fun q1 => ?_)
  · replace h := H.t q1 h
    refine c_seq ?_
    refine r_start ?_
    refine xq rfl (y_load (.agg (eSign ({ a0 with Main := v1_2 })).toArray) 0 g0_0 0) ?_
    refine xx rfl (x_sto 1 g0_1 0 (eSign ({ a0 with Main := v1_2 })) ?_)
    refine rend ?_
    replace h := H.done h
    subst h
    exact ret func90 rfl (vs := [.agg (eSign ({ a0 with Main := v1_2 })).toArray]) (.cell 1 g0_1 rfl (by kernel_rfl) (by kernel_rfl) .nil) rfl (fun W S => ⟨rfl, S.below⟩)
  replace h := H.f q1 h
  refine c_skip ?_
  refine c_seq ?_
  refine r_start ?_
  refine p 1 ?_
  refine xq rfl (y_load (.agg (eHand a0.Other).toArray) 0 g0_0 14) ?_
  obtain ⟨v4_2, hv4_2, h⟩ := H.call h
  refine xq rfl (y_call [.agg (eHand a0.Other).toArray] (.agg (eHand v4_2).toArray) func157 (fun W S => C.i_Hand_normal W hv4_2)) ?_
  refine p 1 ?_
  refine xx rfl (x_sto 0 g0_0 14 (eSign (⟨v1_2, a0.Two, v4_2⟩ : Sign)) ?_)
  refine rend ?_
  refine c_seq ?_
  refine c_seq ?_
  refine as_start 12 12 ?_
  refine aq 0 rfl (y_load (.agg (eSign (⟨v1_2, a0.Two, v4_2⟩ : Sign)).toArray) 0 g0_0 0) ?_
  obtain ⟨v5_1, hv5_1, h⟩ := H.call h
  refine aq 1 rfl (y_call [.agg (eSign (⟨v1_2, a0.Two, v4_2⟩ : Sign)).toArray] (.int .i64 v5_1) func128 (fun W S => C.i_Sign_kind W hv5_1)) ?_
  refine ap 2 2 ?_
  refine br (v5_1 == 1) (fun q2 => ?_) (fun q2 => ?_)
  · replace h := H.t q2 h
    refine a_set 18 (congrArg Value.bool q2) ?_
    refine ap 4 1 ?_
    refine aq 5 rfl (y_load (.agg (eHand v4_2).toArray) 0 g0_0 14) ?_
    obtain ⟨v5_6, hv5_6, h⟩ := H.call h
    refine aq 6 rfl (y_call [.agg (eHand v4_2).toArray] (.string (bs v5_6)) func153 (fun W S => C.i_Hand_text W hv5_6)) ?_
    refine ap 7 1 ?_
    refine aq 8 rfl (y_load (.agg (eHand v1_2).toArray) 0 g0_0 0) ?_
    obtain ⟨v5_9, hv5_9, h⟩ := H.call h
    refine aq 9 rfl (y_call [.agg (eHand v1_2).toArray] (.string (bs v5_9)) func153 (fun W S => C.i_Hand_text W hv5_9)) ?_
    refine ap 10 2 ?_
    refine a_done ?_
    refine c_or (slt v5_6 v5_9) (fun q3 => ?_) (fun q3 => ?_)
    · replace h := H.t q3 h
      refine r_start ?_
      refine p 1 ?_
      refine xq rfl (y_load (.agg (eHand v4_2).toArray) 0 g0_0 14) ?_
      refine p 1 ?_
      refine xq rfl (y_load (.agg (eHand v1_2).toArray) 0 g0_0 0) ?_
      refine p 1 ?_
      refine xx rfl (x_sto 0 g0_0 0 (eSign (⟨v4_2, a0.Two, v4_2⟩ : Sign)) ?_)
      refine p 1 ?_
      refine xx rfl (x_sto 0 g0_0 14 (eSign (⟨v4_2, a0.Two, v1_2⟩ : Sign)) ?_)
      refine rend ?_
      refine c_seq ?_
      refine r_start ?_
      refine xq rfl (y_load (.agg (eSign (⟨v4_2, a0.Two, v1_2⟩ : Sign)).toArray) 0 g0_0 0) ?_
      refine xx rfl (x_sto 1 g0_1 0 (eSign (⟨v4_2, a0.Two, v1_2⟩ : Sign)) ?_)
      refine rend ?_
      replace h := H.done h
      subst h
      exact ret func90 rfl (vs := [.agg (eSign (⟨v4_2, a0.Two, v1_2⟩ : Sign)).toArray]) (.cell 1 g0_1 rfl (by kernel_rfl) (by kernel_rfl) .nil) rfl (fun W S => ⟨rfl, S.below⟩)
    replace h := H.f q3 h
    refine c_skip ?_
    refine c_seq ?_
    refine r_start ?_
    refine xq rfl (y_load (.agg (eSign (⟨v1_2, a0.Two, v4_2⟩ : Sign)).toArray) 0 g0_0 0) ?_
    refine xx rfl (x_sto 1 g0_1 0 (eSign (⟨v1_2, a0.Two, v4_2⟩ : Sign)) ?_)
    refine rend ?_
    replace h := H.done h
    subst h
    exact ret func90 rfl (vs := [.agg (eSign (⟨v1_2, a0.Two, v4_2⟩ : Sign)).toArray]) (.cell 1 g0_1 rfl (by kernel_rfl) (by kernel_rfl) .nil) rfl (fun W S => ⟨rfl, S.below⟩)
  replace h := H.f q2 h
  refine a_set 18 (congrArg Value.bool q2) ?_
  refine ap 4 8 ?_
  refine a_done ?_
  refine c_f (by kernel_rfl) ?_
  refine c_skip ?_
  refine c_seq ?_
  refine r_start ?_
  refine xq rfl (y_load (.agg (eSign (⟨v1_2, a0.Two, v4_2⟩ : Sign)).toArray) 0 g0_0 0) ?_
  refine xx rfl (x_sto 1 g0_1 0 (eSign (⟨v1_2, a0.Two, v4_2⟩ : Sign)) ?_)
  refine rend ?_
  replace h := H.done h
  subst h
  exact ret func90 rfl (vs := [.agg (eSign (⟨v1_2, a0.Two, v4_2⟩ : Sign)).toArray]) (.cell 1 g0_1 rfl (by kernel_rfl) (by kernel_rfl) .nil) rfl (fun W S => ⟨rfl, S.below⟩)
theorem C.s_prApart {fu : Nat} {a0 : Sign} {a1 : Sign} {r : (List Int)} (w : World) (h : X.s_prApart fu a0 a1 = some r) : Calls prog 111 #[.agg (eSign a0).toArray, .agg (eSign a1).toArray] w (RetR (eI .i64) 3 w r (fun v => v)) := by
  refine calls (M := no) (args := [.agg (eSign a0).toArray, .agg (eSign a1).toArray]) func111 rfl ?_
  replace h : H (X.s_prApart fu a0 a1) (fun o => o = r) := H.mk h
  unfold X.s_prApart at h
  refine c_seq ?_
  refine r_start ?_
  refine xx rfl (x_box (eSign a0) fun g0_0 => ?_)
  refine xx rfl (x_box (eSign a1) fun g0_1 => ?_)
  refine p 1 ?_
  refine rend ?_
  refine c_seq ?_
  refine joinT (X := (Sign × Sign × Nat × Nat)) (H.bnd h) (fun ⟨s1, s2, g1_4, g1_5⟩ => (s1, s2)) (fun ⟨s1, s2, g1_4, g1_5⟩ => [box g0_0 46 (eSign a0), box g0_1 46 (eSign a1), box g1_4 46 (eSign s1), box g1_5 46 (eSign s2)]) (fun ⟨s1, s2, g1_4, g1_5⟩ u => (jk u 0 5 (.pointer (some ⟨g1_4, 0, none⟩) :: .pointer (some ⟨g1_5, 0, none⟩) :: (jk u 7 61 [])))) (fun h hj3 => ?_) ?_
  · skip
    refine as_start 6 8 ?_
    refine aq 0 rfl (y_load (.agg (eSign a0).toArray) 0 g0_0 0) ?_
    obtain ⟨v1_1, hv1_1, h⟩ := H.call h
    refine aq 1 rfl (y_call [.agg (eSign a0).toArray] (.agg (eSign v1_1).toArray) func73 (fun W S => C.s_noForm W hv1_1)) ?_
    refine aq 2 rfl (y_load (.agg (eSign a1).toArray) 1 g0_1 0) ?_
    obtain ⟨v1_3, hv1_3, h⟩ := H.call h
    refine aq 3 rfl (y_call [.agg (eSign a1).toArray] (.agg (eSign v1_3).toArray) func73 (fun W S => C.s_noForm W hv1_3)) ?_
    refine a_two 4 5 rfl rfl ?_ ?_
    · skip
      refine (x_new (eSign zSign) fun g1_4 => ⟨.inr (by kernel_rfl), ?_⟩)
      refine ax 5 rfl (x_new (eSign zSign) fun g1_5 => ⟨.inr (by kernel_rfl), ?_⟩)
      refine ax 6 rfl (x_sto 2 g1_4 0 (eSign v1_1) ⟨.inl (by kernel_rfl), ?_⟩)
      refine ax 7 rfl (x_sto 3 g1_5 0 (eSign v1_3) ⟨.inl (by kernel_rfl), ?_⟩)
      refine a_done ?_
      replace h := H.done h
      exact hj3 (v1_1, v1_3, g1_4, g1_5) _ _ h (by kernel_rfl) (by kernel_rfl)
    refine (x_new (eSign zSign) fun g1_5 => ⟨.inr (by kernel_rfl), ?_⟩)
    refine ax 4 rfl (x_new (eSign zSign) fun g1_4 => ⟨.inr (by kernel_rfl), ?_⟩)
    refine ax 6 rfl (x_sto 3 g1_4 0 (eSign v1_1) ⟨.inl (by kernel_rfl), ?_⟩)
    refine ax 7 rfl (x_sto 2 g1_5 0 (eSign v1_3) ⟨.inl (by kernel_rfl), ?_⟩)
    refine a_done ?_
    refine swp [box g0_0 46 (eSign a0), box g0_1 46 (eSign a1)] (box g1_5 46 (eSign v1_3)) (box g1_4 46 (eSign v1_1)) ?_
    replace h := H.done h
    exact hj3 (v1_1, v1_3, g1_4, g1_5) _ _ h (by kernel_rfl) (by kernel_rfl)
  intro x u h
  obtain ⟨s1, s2, g1_4, g1_5⟩ := x
  refine c_seq ?_
  refine r_start ?_
  refine p 1 ?_
  refine rend ?_
  refine c_seq ?_
  refine c_seq ?_
  refine r_start ?_
  refine p 2 ?_
  refine xq rfl (y_load (.agg (eShape s1.Main.Shape).toArray) 2 g1_4 0) ?_
  refine p 2 ?_
  refine xq rfl (y_load (.agg (eShape s2.Main.Shape).toArray) 3 g1_5 0) ?_
  refine p 1 ?_
  refine rend ?_
  refine c_or (!qShape s1.Main.Shape s2.Main.Shape) (fun q4 => ?_) (fun q4 => ?_)
  · replace h := H.t q4 h
    refine r_start ?_
    refine p 1 ?_
    refine xx rfl (e_lit (e := (eI .i64)) (el := 3) [.int .i64 0] ([0] : List Int) fun A4_1 k4_1 => ?_)
    refine o_nil (eI .i64) 3 ?_
    obtain ⟨y4_2, hy4_2, h⟩ := H.call h
    refine xx rfl (e_app 5 hy4_2 (s_own 4) fun A4_2 k4_2 => ?_)
    refine p 1 ?_
    refine rend ?_
    refine c_seq ?_
    refine c_seq ?_
    refine r_start ?_
    refine p 2 ?_
    refine xq rfl (y_load (.agg (eOrient s1.Main.Orient).toArray) 2 g1_4 6) ?_
    refine p 2 ?_
    refine xq rfl (y_load (.agg (eOrient s2.Main.Orient).toArray) 3 g1_5 6) ?_
    refine p 1 ?_
    refine rend ?_
    refine c_or (!qOrient s1.Main.Orient s2.Main.Orient) (fun q5 => ?_) (fun q5 => ?_)
    · replace h := H.t q5 h
      refine r_start ?_
      refine p 1 ?_
      refine xx rfl (e_lit (e := (eI .i64)) (el := 3) [.int .i64 1] ([1] : List Int) fun A6_1 k6_1 => ?_)
      obtain ⟨y6_2, hy6_2, h⟩ := H.call h
      refine xx rfl (e_app 5 hy6_2 (s_own 6) fun A6_2 k6_2 => ?_)
      refine p 1 ?_
      refine rend ?_
      refine c_seq ?_
      refine c_seq ?_
      refine r_start ?_
      refine p 2 ?_
      refine xq rfl (y_load (.agg (ePlace s1.Main.Place).toArray) 2 g1_4 8) ?_
      refine p 2 ?_
      refine xq rfl (y_load (.agg (ePlace s2.Main.Place).toArray) 3 g1_5 8) ?_
      refine p 1 ?_
      refine rend ?_
      refine c_or (!qPlace s1.Main.Place s2.Main.Place) (fun q6 => ?_) (fun q6 => ?_)
      · replace h := H.t q6 h
        refine r_start ?_
        refine p 1 ?_
        refine xx rfl (e_lit (e := (eI .i64)) (el := 3) [.int .i64 2] ([2] : List Int) fun A8_1 k8_1 => ?_)
        obtain ⟨y8_2, hy8_2, h⟩ := H.call h
        refine xx rfl (e_app 5 hy8_2 (s_own 7) fun A8_2 k8_2 => ?_)
        refine p 1 ?_
        refine rend ?_
        refine c_seq ?_
        refine c_seq ?_
        refine r_start ?_
        refine p 2 ?_
        refine xq rfl (y_load (.agg (eMove s1.Main.Move).toArray) 2 g1_4 11) ?_
        refine p 2 ?_
        refine xq rfl (y_load (.agg (eMove s2.Main.Move).toArray) 3 g1_5 11) ?_
        refine p 1 ?_
        refine rend ?_
        refine c_or (!qMove s1.Main.Move s2.Main.Move) (fun q7 => ?_) (fun q7 => ?_)
        · replace h := H.t q7 h
          refine r_start ?_
          refine p 1 ?_
          refine xx rfl (e_lit (e := (eI .i64)) (el := 3) [.int .i64 3] ([3] : List Int) fun A10_1 k10_1 => ?_)
          obtain ⟨y10_2, hy10_2, h⟩ := H.call h
          refine xx rfl (e_app 5 hy10_2 (s_own 8) fun A10_2 k10_2 => ?_)
          refine p 1 ?_
          refine rend ?_
          refine c_seq ?_
          refine c_seq ?_
          refine r_start ?_
          refine p 1 ?_
          refine xq rfl (y_load (.bool s1.Two) 2 g1_4 13) ?_
          refine p 1 ?_
          refine xq rfl (y_load (.bool s2.Two) 3 g1_5 13) ?_
          refine p 2 ?_
          refine br (!(s1.Two == s2.Two)) (fun q8 => ?_) (fun q8 => ?_)
          · replace h := H.t q8 h
            refine o_set 57 (congrArg Value.bool q8) ?_
            refine p 6 ?_
            refine rend ?_
            refine c_t (by kernel_rfl) ?_
            refine r_start ?_
            refine p 1 ?_
            refine xx rfl (e_lit (e := (eI .i64)) (el := 3) [.int .i64 4] ([4] : List Int) fun A12_1 k12_1 => ?_)
            obtain ⟨y12_2, hy12_2, h⟩ := H.call h
            refine xx rfl (e_app 5 hy12_2 (s_own 9) fun A12_2 k12_2 => ?_)
            refine p 1 ?_
            refine rend ?_
            refine frg (fun u => (jk u 0 7 (.slice A12_2 (List.length y12_2) k12_2 :: (jk u 8 60 [])))) (by kernel_rfl) fun u => ?_
            refine keep 10 (its' := [box g0_0 46 (eSign a0), box g0_1 46 (eSign a1), box g1_4 46 (eSign s1), box g1_5 46 (eSign s2), rowT (eI .i64) w.heap.size 3 (.slice A4_1 (List.length ([0] : List Int)) k4_1) ([0] : List Int), rowT (eI .i64) w.heap.size 3 (.slice A12_2 (List.length y12_2) k12_2) y12_2, rowT (eI .i64) w.heap.size 3 (.slice A6_1 (List.length ([1] : List Int)) k6_1) ([1] : List Int), rowT (eI .i64) w.heap.size 3 (.slice A8_1 (List.length ([2] : List Int)) k8_1) ([2] : List Int), rowT (eI .i64) w.heap.size 3 (.slice A10_1 (List.length ([3] : List Int)) k10_1) ([3] : List Int), rowT (eI .i64) w.heap.size 3 (.slice A12_1 (List.length ([4] : List Int)) k12_1) ([4] : List Int)]) (by kernel_rfl) ?_
            refine c_seq ?_
            refine r_start ?_
            refine p 2 ?_
            refine rend ?_
            replace h := H.done h
            subst h
            exact ret func111 rfl (vs := [.slice A12_2 (List.length y12_2) k12_2]) (.tmp (by kernel_rfl) .nil) rfl (fun W S => ⟨_, _, rfl, S.row 5, S.below⟩)
          replace h := H.f q8 h
          refine o_set 57 (congrArg Value.bool q8) ?_
          refine p 1 ?_
          refine xq rfl (y_load (.agg (eHand s1.Other).toArray) 2 g1_4 14) ?_
          refine p 1 ?_
          refine xq rfl (y_load (.agg (eHand s2.Other).toArray) 3 g1_5 14) ?_
          refine p 2 ?_
          refine rend ?_
          refine c_or (!qHand s1.Other s2.Other) (fun q9 => ?_) (fun q9 => ?_)
          · replace h := H.t q9 h
            refine r_start ?_
            refine p 1 ?_
            refine xx rfl (e_lit (e := (eI .i64)) (el := 3) [.int .i64 4] ([4] : List Int) fun A12_1 k12_1 => ?_)
            obtain ⟨y12_2, hy12_2, h⟩ := H.call h
            refine xx rfl (e_app 5 hy12_2 (s_own 9) fun A12_2 k12_2 => ?_)
            refine p 1 ?_
            refine rend ?_
            refine frg (fun u => (jk u 0 7 (.slice A12_2 (List.length y12_2) k12_2 :: (jk u 8 60 [])))) (by kernel_rfl) fun u => ?_
            refine keep 10 (its' := [box g0_0 46 (eSign a0), box g0_1 46 (eSign a1), box g1_4 46 (eSign s1), box g1_5 46 (eSign s2), rowT (eI .i64) w.heap.size 3 (.slice A4_1 (List.length ([0] : List Int)) k4_1) ([0] : List Int), rowT (eI .i64) w.heap.size 3 (.slice A12_2 (List.length y12_2) k12_2) y12_2, rowT (eI .i64) w.heap.size 3 (.slice A6_1 (List.length ([1] : List Int)) k6_1) ([1] : List Int), rowT (eI .i64) w.heap.size 3 (.slice A8_1 (List.length ([2] : List Int)) k8_1) ([2] : List Int), rowT (eI .i64) w.heap.size 3 (.slice A10_1 (List.length ([3] : List Int)) k10_1) ([3] : List Int), rowT (eI .i64) w.heap.size 3 (.slice A12_1 (List.length ([4] : List Int)) k12_1) ([4] : List Int)]) (by kernel_rfl) ?_
            refine c_seq ?_
            refine r_start ?_
            refine p 2 ?_
            refine rend ?_
            replace h := H.done h
            subst h
            exact ret func111 rfl (vs := [.slice A12_2 (List.length y12_2) k12_2]) (.tmp (by kernel_rfl) .nil) rfl (fun W S => ⟨_, _, rfl, S.row 5, S.below⟩)
          replace h := H.f q9 h
          refine c_skip ?_
          refine c_seq ?_
          refine r_start ?_
          refine p 2 ?_
          refine rend ?_
          refine frg (fun u => (jk u 0 4 (.slice A10_2 (List.length y10_2) k10_2 :: (jk u 5 63 [])))) (by kernel_rfl) fun u => ?_
          refine keep 9 (its' := [box g0_0 46 (eSign a0), box g0_1 46 (eSign a1), box g1_4 46 (eSign s1), box g1_5 46 (eSign s2), rowT (eI .i64) w.heap.size 3 (.slice A4_1 (List.length ([0] : List Int)) k4_1) ([0] : List Int), rowT (eI .i64) w.heap.size 3 (.slice A10_2 (List.length y10_2) k10_2) y10_2, rowT (eI .i64) w.heap.size 3 (.slice A6_1 (List.length ([1] : List Int)) k6_1) ([1] : List Int), rowT (eI .i64) w.heap.size 3 (.slice A8_1 (List.length ([2] : List Int)) k8_1) ([2] : List Int), rowT (eI .i64) w.heap.size 3 (.slice A10_1 (List.length ([3] : List Int)) k10_1) ([3] : List Int)]) (by kernel_rfl) ?_
          replace h := H.done h
          subst h
          exact ret func111 rfl (vs := [.slice A10_2 (List.length y10_2) k10_2]) (.tmp (by kernel_rfl) .nil) rfl (fun W S => ⟨_, _, rfl, S.row 5, S.below⟩)
        replace h := H.f q7 h
        refine c_skip ?_
        refine c_seq ?_
        refine c_seq ?_
        refine r_start ?_
        refine p 1 ?_
        refine xq rfl (y_load (.bool s1.Two) 2 g1_4 13) ?_
        refine p 1 ?_
        refine xq rfl (y_load (.bool s2.Two) 3 g1_5 13) ?_
        refine p 2 ?_
        refine br (!(s1.Two == s2.Two)) (fun q10 => ?_) (fun q10 => ?_)
        · replace h := H.t q10 h
          refine o_set 57 (congrArg Value.bool q10) ?_
          refine p 6 ?_
          refine rend ?_
          refine c_t (by kernel_rfl) ?_
          refine r_start ?_
          refine p 1 ?_
          refine xx rfl (e_lit (e := (eI .i64)) (el := 3) [.int .i64 4] ([4] : List Int) fun A12_1 k12_1 => ?_)
          obtain ⟨y12_2, hy12_2, h⟩ := H.call h
          refine xx rfl (e_app 5 hy12_2 (s_own 8) fun A12_2 k12_2 => ?_)
          refine p 1 ?_
          refine rend ?_
          refine c_seq ?_
          refine r_start ?_
          refine p 2 ?_
          refine rend ?_
          refine frg (fun u => (jk u 0 4 (.slice A12_2 (List.length y12_2) k12_2 :: (jk u 5 63 [])))) (by kernel_rfl) fun u => ?_
          refine keep 9 (its' := [box g0_0 46 (eSign a0), box g0_1 46 (eSign a1), box g1_4 46 (eSign s1), box g1_5 46 (eSign s2), rowT (eI .i64) w.heap.size 3 (.slice A4_1 (List.length ([0] : List Int)) k4_1) ([0] : List Int), rowT (eI .i64) w.heap.size 3 (.slice A12_2 (List.length y12_2) k12_2) y12_2, rowT (eI .i64) w.heap.size 3 (.slice A6_1 (List.length ([1] : List Int)) k6_1) ([1] : List Int), rowT (eI .i64) w.heap.size 3 (.slice A8_1 (List.length ([2] : List Int)) k8_1) ([2] : List Int), rowT (eI .i64) w.heap.size 3 (.slice A12_1 (List.length ([4] : List Int)) k12_1) ([4] : List Int)]) (by kernel_rfl) ?_
          replace h := H.done h
          subst h
          exact ret func111 rfl (vs := [.slice A12_2 (List.length y12_2) k12_2]) (.tmp (by kernel_rfl) .nil) rfl (fun W S => ⟨_, _, rfl, S.row 5, S.below⟩)
        replace h := H.f q10 h
        refine o_set 57 (congrArg Value.bool q10) ?_
        refine p 1 ?_
        refine xq rfl (y_load (.agg (eHand s1.Other).toArray) 2 g1_4 14) ?_
        refine p 1 ?_
        refine xq rfl (y_load (.agg (eHand s2.Other).toArray) 3 g1_5 14) ?_
        refine p 2 ?_
        refine rend ?_
        refine c_or (!qHand s1.Other s2.Other) (fun q11 => ?_) (fun q11 => ?_)
        · replace h := H.t q11 h
          refine r_start ?_
          refine p 1 ?_
          refine xx rfl (e_lit (e := (eI .i64)) (el := 3) [.int .i64 4] ([4] : List Int) fun A12_1 k12_1 => ?_)
          obtain ⟨y12_2, hy12_2, h⟩ := H.call h
          refine xx rfl (e_app 5 hy12_2 (s_own 8) fun A12_2 k12_2 => ?_)
          refine p 1 ?_
          refine rend ?_
          refine c_seq ?_
          refine r_start ?_
          refine p 2 ?_
          refine rend ?_
          refine frg (fun u => (jk u 0 4 (.slice A12_2 (List.length y12_2) k12_2 :: (jk u 5 63 [])))) (by kernel_rfl) fun u => ?_
          refine keep 9 (its' := [box g0_0 46 (eSign a0), box g0_1 46 (eSign a1), box g1_4 46 (eSign s1), box g1_5 46 (eSign s2), rowT (eI .i64) w.heap.size 3 (.slice A4_1 (List.length ([0] : List Int)) k4_1) ([0] : List Int), rowT (eI .i64) w.heap.size 3 (.slice A12_2 (List.length y12_2) k12_2) y12_2, rowT (eI .i64) w.heap.size 3 (.slice A6_1 (List.length ([1] : List Int)) k6_1) ([1] : List Int), rowT (eI .i64) w.heap.size 3 (.slice A8_1 (List.length ([2] : List Int)) k8_1) ([2] : List Int), rowT (eI .i64) w.heap.size 3 (.slice A12_1 (List.length ([4] : List Int)) k12_1) ([4] : List Int)]) (by kernel_rfl) ?_
          replace h := H.done h
          subst h
          exact ret func111 rfl (vs := [.slice A12_2 (List.length y12_2) k12_2]) (.tmp (by kernel_rfl) .nil) rfl (fun W S => ⟨_, _, rfl, S.row 5, S.below⟩)
        replace h := H.f q11 h
        refine c_skip ?_
        refine c_seq ?_
        refine r_start ?_
        refine p 2 ?_
        refine rend ?_
        replace h := H.done h
        subst h
        exact ret func111 rfl (vs := [.slice A8_2 (List.length y8_2) k8_2]) (.tmp (by kernel_rfl) .nil) rfl (fun W S => ⟨_, _, rfl, S.row 5, S.below⟩)
      replace h := H.f q6 h
      refine c_skip ?_
      refine c_seq ?_
      refine c_seq ?_
      refine r_start ?_
      refine p 2 ?_
      refine xq rfl (y_load (.agg (eMove s1.Main.Move).toArray) 2 g1_4 11) ?_
      refine p 2 ?_
      refine xq rfl (y_load (.agg (eMove s2.Main.Move).toArray) 3 g1_5 11) ?_
      refine p 1 ?_
      refine rend ?_
      refine c_or (!qMove s1.Main.Move s2.Main.Move) (fun q12 => ?_) (fun q12 => ?_)
      · replace h := H.t q12 h
        refine r_start ?_
        refine p 1 ?_
        refine xx rfl (e_lit (e := (eI .i64)) (el := 3) [.int .i64 3] ([3] : List Int) fun A10_1 k10_1 => ?_)
        obtain ⟨y10_2, hy10_2, h⟩ := H.call h
        refine xx rfl (e_app 5 hy10_2 (s_own 7) fun A10_2 k10_2 => ?_)
        refine p 1 ?_
        refine rend ?_
        refine c_seq ?_
        refine c_seq ?_
        refine r_start ?_
        refine p 1 ?_
        refine xq rfl (y_load (.bool s1.Two) 2 g1_4 13) ?_
        refine p 1 ?_
        refine xq rfl (y_load (.bool s2.Two) 3 g1_5 13) ?_
        refine p 2 ?_
        refine br (!(s1.Two == s2.Two)) (fun q13 => ?_) (fun q13 => ?_)
        · replace h := H.t q13 h
          refine o_set 57 (congrArg Value.bool q13) ?_
          refine p 6 ?_
          refine rend ?_
          refine c_t (by kernel_rfl) ?_
          refine r_start ?_
          refine p 1 ?_
          refine xx rfl (e_lit (e := (eI .i64)) (el := 3) [.int .i64 4] ([4] : List Int) fun A12_1 k12_1 => ?_)
          obtain ⟨y12_2, hy12_2, h⟩ := H.call h
          refine xx rfl (e_app 5 hy12_2 (s_own 8) fun A12_2 k12_2 => ?_)
          refine p 1 ?_
          refine rend ?_
          refine c_seq ?_
          refine r_start ?_
          refine p 2 ?_
          refine rend ?_
          refine frg (fun u => (jk u 0 4 (.slice A12_2 (List.length y12_2) k12_2 :: (jk u 5 63 [])))) (by kernel_rfl) fun u => ?_
          refine keep 9 (its' := [box g0_0 46 (eSign a0), box g0_1 46 (eSign a1), box g1_4 46 (eSign s1), box g1_5 46 (eSign s2), rowT (eI .i64) w.heap.size 3 (.slice A4_1 (List.length ([0] : List Int)) k4_1) ([0] : List Int), rowT (eI .i64) w.heap.size 3 (.slice A12_2 (List.length y12_2) k12_2) y12_2, rowT (eI .i64) w.heap.size 3 (.slice A6_1 (List.length ([1] : List Int)) k6_1) ([1] : List Int), rowT (eI .i64) w.heap.size 3 (.slice A10_1 (List.length ([3] : List Int)) k10_1) ([3] : List Int), rowT (eI .i64) w.heap.size 3 (.slice A12_1 (List.length ([4] : List Int)) k12_1) ([4] : List Int)]) (by kernel_rfl) ?_
          replace h := H.done h
          subst h
          exact ret func111 rfl (vs := [.slice A12_2 (List.length y12_2) k12_2]) (.tmp (by kernel_rfl) .nil) rfl (fun W S => ⟨_, _, rfl, S.row 5, S.below⟩)
        replace h := H.f q13 h
        refine o_set 57 (congrArg Value.bool q13) ?_
        refine p 1 ?_
        refine xq rfl (y_load (.agg (eHand s1.Other).toArray) 2 g1_4 14) ?_
        refine p 1 ?_
        refine xq rfl (y_load (.agg (eHand s2.Other).toArray) 3 g1_5 14) ?_
        refine p 2 ?_
        refine rend ?_
        refine c_or (!qHand s1.Other s2.Other) (fun q14 => ?_) (fun q14 => ?_)
        · replace h := H.t q14 h
          refine r_start ?_
          refine p 1 ?_
          refine xx rfl (e_lit (e := (eI .i64)) (el := 3) [.int .i64 4] ([4] : List Int) fun A12_1 k12_1 => ?_)
          obtain ⟨y12_2, hy12_2, h⟩ := H.call h
          refine xx rfl (e_app 5 hy12_2 (s_own 8) fun A12_2 k12_2 => ?_)
          refine p 1 ?_
          refine rend ?_
          refine c_seq ?_
          refine r_start ?_
          refine p 2 ?_
          refine rend ?_
          refine frg (fun u => (jk u 0 4 (.slice A12_2 (List.length y12_2) k12_2 :: (jk u 5 63 [])))) (by kernel_rfl) fun u => ?_
          refine keep 9 (its' := [box g0_0 46 (eSign a0), box g0_1 46 (eSign a1), box g1_4 46 (eSign s1), box g1_5 46 (eSign s2), rowT (eI .i64) w.heap.size 3 (.slice A4_1 (List.length ([0] : List Int)) k4_1) ([0] : List Int), rowT (eI .i64) w.heap.size 3 (.slice A12_2 (List.length y12_2) k12_2) y12_2, rowT (eI .i64) w.heap.size 3 (.slice A6_1 (List.length ([1] : List Int)) k6_1) ([1] : List Int), rowT (eI .i64) w.heap.size 3 (.slice A10_1 (List.length ([3] : List Int)) k10_1) ([3] : List Int), rowT (eI .i64) w.heap.size 3 (.slice A12_1 (List.length ([4] : List Int)) k12_1) ([4] : List Int)]) (by kernel_rfl) ?_
          replace h := H.done h
          subst h
          exact ret func111 rfl (vs := [.slice A12_2 (List.length y12_2) k12_2]) (.tmp (by kernel_rfl) .nil) rfl (fun W S => ⟨_, _, rfl, S.row 5, S.below⟩)
        replace h := H.f q14 h
        refine c_skip ?_
        refine c_seq ?_
        refine r_start ?_
        refine p 2 ?_
        refine rend ?_
        replace h := H.done h
        subst h
        exact ret func111 rfl (vs := [.slice A10_2 (List.length y10_2) k10_2]) (.tmp (by kernel_rfl) .nil) rfl (fun W S => ⟨_, _, rfl, S.row 5, S.below⟩)
      replace h := H.f q12 h
      refine c_skip ?_
      refine c_seq ?_
      refine c_seq ?_
      refine r_start ?_
      refine p 1 ?_
      refine xq rfl (y_load (.bool s1.Two) 2 g1_4 13) ?_
      refine p 1 ?_
      refine xq rfl (y_load (.bool s2.Two) 3 g1_5 13) ?_
      refine p 2 ?_
      refine br (!(s1.Two == s2.Two)) (fun q15 => ?_) (fun q15 => ?_)
      · replace h := H.t q15 h
        refine o_set 57 (congrArg Value.bool q15) ?_
        refine p 6 ?_
        refine rend ?_
        refine c_t (by kernel_rfl) ?_
        refine r_start ?_
        refine p 1 ?_
        refine xx rfl (e_lit (e := (eI .i64)) (el := 3) [.int .i64 4] ([4] : List Int) fun A12_1 k12_1 => ?_)
        obtain ⟨y12_2, hy12_2, h⟩ := H.call h
        refine xx rfl (e_app 5 hy12_2 (s_own 7) fun A12_2 k12_2 => ?_)
        refine p 1 ?_
        refine rend ?_
        refine c_seq ?_
        refine r_start ?_
        refine p 2 ?_
        refine rend ?_
        replace h := H.done h
        subst h
        exact ret func111 rfl (vs := [.slice A12_2 (List.length y12_2) k12_2]) (.tmp (by kernel_rfl) .nil) rfl (fun W S => ⟨_, _, rfl, S.row 5, S.below⟩)
      replace h := H.f q15 h
      refine o_set 57 (congrArg Value.bool q15) ?_
      refine p 1 ?_
      refine xq rfl (y_load (.agg (eHand s1.Other).toArray) 2 g1_4 14) ?_
      refine p 1 ?_
      refine xq rfl (y_load (.agg (eHand s2.Other).toArray) 3 g1_5 14) ?_
      refine p 2 ?_
      refine rend ?_
      refine c_or (!qHand s1.Other s2.Other) (fun q16 => ?_) (fun q16 => ?_)
      · replace h := H.t q16 h
        refine r_start ?_
        refine p 1 ?_
        refine xx rfl (e_lit (e := (eI .i64)) (el := 3) [.int .i64 4] ([4] : List Int) fun A12_1 k12_1 => ?_)
        obtain ⟨y12_2, hy12_2, h⟩ := H.call h
        refine xx rfl (e_app 5 hy12_2 (s_own 7) fun A12_2 k12_2 => ?_)
        refine p 1 ?_
        refine rend ?_
        refine c_seq ?_
        refine r_start ?_
        refine p 2 ?_
        refine rend ?_
        replace h := H.done h
        subst h
        exact ret func111 rfl (vs := [.slice A12_2 (List.length y12_2) k12_2]) (.tmp (by kernel_rfl) .nil) rfl (fun W S => ⟨_, _, rfl, S.row 5, S.below⟩)
      replace h := H.f q16 h
      refine c_skip ?_
      refine c_seq ?_
      refine r_start ?_
      refine p 2 ?_
      refine rend ?_
      replace h := H.done h
      subst h
      exact ret func111 rfl (vs := [.slice A6_2 (List.length y6_2) k6_2]) (.tmp (by kernel_rfl) .nil) rfl (fun W S => ⟨_, _, rfl, S.row 5, S.below⟩)
    replace h := H.f q5 h
    refine c_skip ?_
    refine c_seq ?_
    refine c_seq ?_
    refine r_start ?_
    refine p 2 ?_
    refine xq rfl (y_load (.agg (ePlace s1.Main.Place).toArray) 2 g1_4 8) ?_
    refine p 2 ?_
    refine xq rfl (y_load (.agg (ePlace s2.Main.Place).toArray) 3 g1_5 8) ?_
    refine p 1 ?_
    refine rend ?_
    refine c_or (!qPlace s1.Main.Place s2.Main.Place) (fun q17 => ?_) (fun q17 => ?_)
    · replace h := H.t q17 h
      refine r_start ?_
      refine p 1 ?_
      refine xx rfl (e_lit (e := (eI .i64)) (el := 3) [.int .i64 2] ([2] : List Int) fun A8_1 k8_1 => ?_)
      obtain ⟨y8_2, hy8_2, h⟩ := H.call h
      refine xx rfl (e_app 5 hy8_2 (s_own 6) fun A8_2 k8_2 => ?_)
      refine p 1 ?_
      refine rend ?_
      refine c_seq ?_
      refine c_seq ?_
      refine r_start ?_
      refine p 2 ?_
      refine xq rfl (y_load (.agg (eMove s1.Main.Move).toArray) 2 g1_4 11) ?_
      refine p 2 ?_
      refine xq rfl (y_load (.agg (eMove s2.Main.Move).toArray) 3 g1_5 11) ?_
      refine p 1 ?_
      refine rend ?_
      refine c_or (!qMove s1.Main.Move s2.Main.Move) (fun q18 => ?_) (fun q18 => ?_)
      · replace h := H.t q18 h
        refine r_start ?_
        refine p 1 ?_
        refine xx rfl (e_lit (e := (eI .i64)) (el := 3) [.int .i64 3] ([3] : List Int) fun A10_1 k10_1 => ?_)
        obtain ⟨y10_2, hy10_2, h⟩ := H.call h
        refine xx rfl (e_app 5 hy10_2 (s_own 7) fun A10_2 k10_2 => ?_)
        refine p 1 ?_
        refine rend ?_
        refine c_seq ?_
        refine c_seq ?_
        refine r_start ?_
        refine p 1 ?_
        refine xq rfl (y_load (.bool s1.Two) 2 g1_4 13) ?_
        refine p 1 ?_
        refine xq rfl (y_load (.bool s2.Two) 3 g1_5 13) ?_
        refine p 2 ?_
        refine br (!(s1.Two == s2.Two)) (fun q19 => ?_) (fun q19 => ?_)
        · replace h := H.t q19 h
          refine o_set 57 (congrArg Value.bool q19) ?_
          refine p 6 ?_
          refine rend ?_
          refine c_t (by kernel_rfl) ?_
          refine r_start ?_
          refine p 1 ?_
          refine xx rfl (e_lit (e := (eI .i64)) (el := 3) [.int .i64 4] ([4] : List Int) fun A12_1 k12_1 => ?_)
          obtain ⟨y12_2, hy12_2, h⟩ := H.call h
          refine xx rfl (e_app 5 hy12_2 (s_own 8) fun A12_2 k12_2 => ?_)
          refine p 1 ?_
          refine rend ?_
          refine c_seq ?_
          refine r_start ?_
          refine p 2 ?_
          refine rend ?_
          refine frg (fun u => (jk u 0 4 (.slice A12_2 (List.length y12_2) k12_2 :: (jk u 5 63 [])))) (by kernel_rfl) fun u => ?_
          refine keep 9 (its' := [box g0_0 46 (eSign a0), box g0_1 46 (eSign a1), box g1_4 46 (eSign s1), box g1_5 46 (eSign s2), rowT (eI .i64) w.heap.size 3 (.slice A4_1 (List.length ([0] : List Int)) k4_1) ([0] : List Int), rowT (eI .i64) w.heap.size 3 (.slice A12_2 (List.length y12_2) k12_2) y12_2, rowT (eI .i64) w.heap.size 3 (.slice A8_1 (List.length ([2] : List Int)) k8_1) ([2] : List Int), rowT (eI .i64) w.heap.size 3 (.slice A10_1 (List.length ([3] : List Int)) k10_1) ([3] : List Int), rowT (eI .i64) w.heap.size 3 (.slice A12_1 (List.length ([4] : List Int)) k12_1) ([4] : List Int)]) (by kernel_rfl) ?_
          replace h := H.done h
          subst h
          exact ret func111 rfl (vs := [.slice A12_2 (List.length y12_2) k12_2]) (.tmp (by kernel_rfl) .nil) rfl (fun W S => ⟨_, _, rfl, S.row 5, S.below⟩)
        replace h := H.f q19 h
        refine o_set 57 (congrArg Value.bool q19) ?_
        refine p 1 ?_
        refine xq rfl (y_load (.agg (eHand s1.Other).toArray) 2 g1_4 14) ?_
        refine p 1 ?_
        refine xq rfl (y_load (.agg (eHand s2.Other).toArray) 3 g1_5 14) ?_
        refine p 2 ?_
        refine rend ?_
        refine c_or (!qHand s1.Other s2.Other) (fun q20 => ?_) (fun q20 => ?_)
        · replace h := H.t q20 h
          refine r_start ?_
          refine p 1 ?_
          refine xx rfl (e_lit (e := (eI .i64)) (el := 3) [.int .i64 4] ([4] : List Int) fun A12_1 k12_1 => ?_)
          obtain ⟨y12_2, hy12_2, h⟩ := H.call h
          refine xx rfl (e_app 5 hy12_2 (s_own 8) fun A12_2 k12_2 => ?_)
          refine p 1 ?_
          refine rend ?_
          refine c_seq ?_
          refine r_start ?_
          refine p 2 ?_
          refine rend ?_
          refine frg (fun u => (jk u 0 4 (.slice A12_2 (List.length y12_2) k12_2 :: (jk u 5 63 [])))) (by kernel_rfl) fun u => ?_
          refine keep 9 (its' := [box g0_0 46 (eSign a0), box g0_1 46 (eSign a1), box g1_4 46 (eSign s1), box g1_5 46 (eSign s2), rowT (eI .i64) w.heap.size 3 (.slice A4_1 (List.length ([0] : List Int)) k4_1) ([0] : List Int), rowT (eI .i64) w.heap.size 3 (.slice A12_2 (List.length y12_2) k12_2) y12_2, rowT (eI .i64) w.heap.size 3 (.slice A8_1 (List.length ([2] : List Int)) k8_1) ([2] : List Int), rowT (eI .i64) w.heap.size 3 (.slice A10_1 (List.length ([3] : List Int)) k10_1) ([3] : List Int), rowT (eI .i64) w.heap.size 3 (.slice A12_1 (List.length ([4] : List Int)) k12_1) ([4] : List Int)]) (by kernel_rfl) ?_
          replace h := H.done h
          subst h
          exact ret func111 rfl (vs := [.slice A12_2 (List.length y12_2) k12_2]) (.tmp (by kernel_rfl) .nil) rfl (fun W S => ⟨_, _, rfl, S.row 5, S.below⟩)
        replace h := H.f q20 h
        refine c_skip ?_
        refine c_seq ?_
        refine r_start ?_
        refine p 2 ?_
        refine rend ?_
        replace h := H.done h
        subst h
        exact ret func111 rfl (vs := [.slice A10_2 (List.length y10_2) k10_2]) (.tmp (by kernel_rfl) .nil) rfl (fun W S => ⟨_, _, rfl, S.row 5, S.below⟩)
      replace h := H.f q18 h
      refine c_skip ?_
      refine c_seq ?_
      refine c_seq ?_
      refine r_start ?_
      refine p 1 ?_
      refine xq rfl (y_load (.bool s1.Two) 2 g1_4 13) ?_
      refine p 1 ?_
      refine xq rfl (y_load (.bool s2.Two) 3 g1_5 13) ?_
      refine p 2 ?_
      refine br (!(s1.Two == s2.Two)) (fun q21 => ?_) (fun q21 => ?_)
      · replace h := H.t q21 h
        refine o_set 57 (congrArg Value.bool q21) ?_
        refine p 6 ?_
        refine rend ?_
        refine c_t (by kernel_rfl) ?_
        refine r_start ?_
        refine p 1 ?_
        refine xx rfl (e_lit (e := (eI .i64)) (el := 3) [.int .i64 4] ([4] : List Int) fun A12_1 k12_1 => ?_)
        obtain ⟨y12_2, hy12_2, h⟩ := H.call h
        refine xx rfl (e_app 5 hy12_2 (s_own 7) fun A12_2 k12_2 => ?_)
        refine p 1 ?_
        refine rend ?_
        refine c_seq ?_
        refine r_start ?_
        refine p 2 ?_
        refine rend ?_
        replace h := H.done h
        subst h
        exact ret func111 rfl (vs := [.slice A12_2 (List.length y12_2) k12_2]) (.tmp (by kernel_rfl) .nil) rfl (fun W S => ⟨_, _, rfl, S.row 5, S.below⟩)
      replace h := H.f q21 h
      refine o_set 57 (congrArg Value.bool q21) ?_
      refine p 1 ?_
      refine xq rfl (y_load (.agg (eHand s1.Other).toArray) 2 g1_4 14) ?_
      refine p 1 ?_
      refine xq rfl (y_load (.agg (eHand s2.Other).toArray) 3 g1_5 14) ?_
      refine p 2 ?_
      refine rend ?_
      refine c_or (!qHand s1.Other s2.Other) (fun q22 => ?_) (fun q22 => ?_)
      · replace h := H.t q22 h
        refine r_start ?_
        refine p 1 ?_
        refine xx rfl (e_lit (e := (eI .i64)) (el := 3) [.int .i64 4] ([4] : List Int) fun A12_1 k12_1 => ?_)
        obtain ⟨y12_2, hy12_2, h⟩ := H.call h
        refine xx rfl (e_app 5 hy12_2 (s_own 7) fun A12_2 k12_2 => ?_)
        refine p 1 ?_
        refine rend ?_
        refine c_seq ?_
        refine r_start ?_
        refine p 2 ?_
        refine rend ?_
        replace h := H.done h
        subst h
        exact ret func111 rfl (vs := [.slice A12_2 (List.length y12_2) k12_2]) (.tmp (by kernel_rfl) .nil) rfl (fun W S => ⟨_, _, rfl, S.row 5, S.below⟩)
      replace h := H.f q22 h
      refine c_skip ?_
      refine c_seq ?_
      refine r_start ?_
      refine p 2 ?_
      refine rend ?_
      replace h := H.done h
      subst h
      exact ret func111 rfl (vs := [.slice A8_2 (List.length y8_2) k8_2]) (.tmp (by kernel_rfl) .nil) rfl (fun W S => ⟨_, _, rfl, S.row 5, S.below⟩)
    replace h := H.f q17 h
    refine c_skip ?_
    refine c_seq ?_
    refine c_seq ?_
    refine r_start ?_
    refine p 2 ?_
    refine xq rfl (y_load (.agg (eMove s1.Main.Move).toArray) 2 g1_4 11) ?_
    refine p 2 ?_
    refine xq rfl (y_load (.agg (eMove s2.Main.Move).toArray) 3 g1_5 11) ?_
    refine p 1 ?_
    refine rend ?_
    refine c_or (!qMove s1.Main.Move s2.Main.Move) (fun q23 => ?_) (fun q23 => ?_)
    · replace h := H.t q23 h
      refine r_start ?_
      refine p 1 ?_
      refine xx rfl (e_lit (e := (eI .i64)) (el := 3) [.int .i64 3] ([3] : List Int) fun A10_1 k10_1 => ?_)
      obtain ⟨y10_2, hy10_2, h⟩ := H.call h
      refine xx rfl (e_app 5 hy10_2 (s_own 6) fun A10_2 k10_2 => ?_)
      refine p 1 ?_
      refine rend ?_
      refine c_seq ?_
      refine c_seq ?_
      refine r_start ?_
      refine p 1 ?_
      refine xq rfl (y_load (.bool s1.Two) 2 g1_4 13) ?_
      refine p 1 ?_
      refine xq rfl (y_load (.bool s2.Two) 3 g1_5 13) ?_
      refine p 2 ?_
      refine br (!(s1.Two == s2.Two)) (fun q24 => ?_) (fun q24 => ?_)
      · replace h := H.t q24 h
        refine o_set 57 (congrArg Value.bool q24) ?_
        refine p 6 ?_
        refine rend ?_
        refine c_t (by kernel_rfl) ?_
        refine r_start ?_
        refine p 1 ?_
        refine xx rfl (e_lit (e := (eI .i64)) (el := 3) [.int .i64 4] ([4] : List Int) fun A12_1 k12_1 => ?_)
        obtain ⟨y12_2, hy12_2, h⟩ := H.call h
        refine xx rfl (e_app 5 hy12_2 (s_own 7) fun A12_2 k12_2 => ?_)
        refine p 1 ?_
        refine rend ?_
        refine c_seq ?_
        refine r_start ?_
        refine p 2 ?_
        refine rend ?_
        replace h := H.done h
        subst h
        exact ret func111 rfl (vs := [.slice A12_2 (List.length y12_2) k12_2]) (.tmp (by kernel_rfl) .nil) rfl (fun W S => ⟨_, _, rfl, S.row 5, S.below⟩)
      replace h := H.f q24 h
      refine o_set 57 (congrArg Value.bool q24) ?_
      refine p 1 ?_
      refine xq rfl (y_load (.agg (eHand s1.Other).toArray) 2 g1_4 14) ?_
      refine p 1 ?_
      refine xq rfl (y_load (.agg (eHand s2.Other).toArray) 3 g1_5 14) ?_
      refine p 2 ?_
      refine rend ?_
      refine c_or (!qHand s1.Other s2.Other) (fun q25 => ?_) (fun q25 => ?_)
      · replace h := H.t q25 h
        refine r_start ?_
        refine p 1 ?_
        refine xx rfl (e_lit (e := (eI .i64)) (el := 3) [.int .i64 4] ([4] : List Int) fun A12_1 k12_1 => ?_)
        obtain ⟨y12_2, hy12_2, h⟩ := H.call h
        refine xx rfl (e_app 5 hy12_2 (s_own 7) fun A12_2 k12_2 => ?_)
        refine p 1 ?_
        refine rend ?_
        refine c_seq ?_
        refine r_start ?_
        refine p 2 ?_
        refine rend ?_
        replace h := H.done h
        subst h
        exact ret func111 rfl (vs := [.slice A12_2 (List.length y12_2) k12_2]) (.tmp (by kernel_rfl) .nil) rfl (fun W S => ⟨_, _, rfl, S.row 5, S.below⟩)
      replace h := H.f q25 h
      refine c_skip ?_
      refine c_seq ?_
      refine r_start ?_
      refine p 2 ?_
      refine rend ?_
      replace h := H.done h
      subst h
      exact ret func111 rfl (vs := [.slice A10_2 (List.length y10_2) k10_2]) (.tmp (by kernel_rfl) .nil) rfl (fun W S => ⟨_, _, rfl, S.row 5, S.below⟩)
    replace h := H.f q23 h
    refine c_skip ?_
    refine c_seq ?_
    refine c_seq ?_
    refine r_start ?_
    refine p 1 ?_
    refine xq rfl (y_load (.bool s1.Two) 2 g1_4 13) ?_
    refine p 1 ?_
    refine xq rfl (y_load (.bool s2.Two) 3 g1_5 13) ?_
    refine p 2 ?_
    refine br (!(s1.Two == s2.Two)) (fun q26 => ?_) (fun q26 => ?_)
    · replace h := H.t q26 h
      refine o_set 57 (congrArg Value.bool q26) ?_
      refine p 6 ?_
      refine rend ?_
      refine c_t (by kernel_rfl) ?_
      refine r_start ?_
      refine p 1 ?_
      refine xx rfl (e_lit (e := (eI .i64)) (el := 3) [.int .i64 4] ([4] : List Int) fun A12_1 k12_1 => ?_)
      obtain ⟨y12_2, hy12_2, h⟩ := H.call h
      refine xx rfl (e_app 5 hy12_2 (s_own 6) fun A12_2 k12_2 => ?_)
      refine p 1 ?_
      refine rend ?_
      refine c_seq ?_
      refine r_start ?_
      refine p 2 ?_
      refine rend ?_
      replace h := H.done h
      subst h
      exact ret func111 rfl (vs := [.slice A12_2 (List.length y12_2) k12_2]) (.tmp (by kernel_rfl) .nil) rfl (fun W S => ⟨_, _, rfl, S.row 5, S.below⟩)
    replace h := H.f q26 h
    refine o_set 57 (congrArg Value.bool q26) ?_
    refine p 1 ?_
    refine xq rfl (y_load (.agg (eHand s1.Other).toArray) 2 g1_4 14) ?_
    refine p 1 ?_
    refine xq rfl (y_load (.agg (eHand s2.Other).toArray) 3 g1_5 14) ?_
    refine p 2 ?_
    refine rend ?_
    refine c_or (!qHand s1.Other s2.Other) (fun q27 => ?_) (fun q27 => ?_)
    · replace h := H.t q27 h
      refine r_start ?_
      refine p 1 ?_
      refine xx rfl (e_lit (e := (eI .i64)) (el := 3) [.int .i64 4] ([4] : List Int) fun A12_1 k12_1 => ?_)
      obtain ⟨y12_2, hy12_2, h⟩ := H.call h
      refine xx rfl (e_app 5 hy12_2 (s_own 6) fun A12_2 k12_2 => ?_)
      refine p 1 ?_
      refine rend ?_
      refine c_seq ?_
      refine r_start ?_
      refine p 2 ?_
      refine rend ?_
      replace h := H.done h
      subst h
      exact ret func111 rfl (vs := [.slice A12_2 (List.length y12_2) k12_2]) (.tmp (by kernel_rfl) .nil) rfl (fun W S => ⟨_, _, rfl, S.row 5, S.below⟩)
    replace h := H.f q27 h
    refine c_skip ?_
    refine c_seq ?_
    refine r_start ?_
    refine p 2 ?_
    refine rend ?_
    replace h := H.done h
    subst h
    exact ret func111 rfl (vs := [.slice A4_2 (List.length y4_2) k4_2]) (.tmp (by kernel_rfl) .nil) rfl (fun W S => ⟨_, _, rfl, S.row 5, S.below⟩)
  replace h := H.f q4 h
  refine c_skip ?_
  refine c_seq ?_
  refine c_seq ?_
  refine r_start ?_
  refine p 2 ?_
  refine xq rfl (y_load (.agg (eOrient s1.Main.Orient).toArray) 2 g1_4 6) ?_
  refine p 2 ?_
  refine xq rfl (y_load (.agg (eOrient s2.Main.Orient).toArray) 3 g1_5 6) ?_
  refine p 1 ?_
  refine rend ?_
  refine c_or (!qOrient s1.Main.Orient s2.Main.Orient) (fun q28 => ?_) (fun q28 => ?_)
  · replace h := H.t q28 h
    refine r_start ?_
    refine p 1 ?_
    refine xx rfl (e_lit (e := (eI .i64)) (el := 3) [.int .i64 1] ([1] : List Int) fun A6_1 k6_1 => ?_)
    refine o_nil (eI .i64) 3 ?_
    obtain ⟨y6_2, hy6_2, h⟩ := H.call h
    refine xx rfl (e_app 5 hy6_2 (s_own 4) fun A6_2 k6_2 => ?_)
    refine p 1 ?_
    refine rend ?_
    refine c_seq ?_
    refine c_seq ?_
    refine r_start ?_
    refine p 2 ?_
    refine xq rfl (y_load (.agg (ePlace s1.Main.Place).toArray) 2 g1_4 8) ?_
    refine p 2 ?_
    refine xq rfl (y_load (.agg (ePlace s2.Main.Place).toArray) 3 g1_5 8) ?_
    refine p 1 ?_
    refine rend ?_
    refine c_or (!qPlace s1.Main.Place s2.Main.Place) (fun q29 => ?_) (fun q29 => ?_)
    · replace h := H.t q29 h
      refine r_start ?_
      refine p 1 ?_
      refine xx rfl (e_lit (e := (eI .i64)) (el := 3) [.int .i64 2] ([2] : List Int) fun A8_1 k8_1 => ?_)
      obtain ⟨y8_2, hy8_2, h⟩ := H.call h
      refine xx rfl (e_app 5 hy8_2 (s_own 6) fun A8_2 k8_2 => ?_)
      refine p 1 ?_
      refine rend ?_
      refine c_seq ?_
      refine c_seq ?_
      refine r_start ?_
      refine p 2 ?_
      refine xq rfl (y_load (.agg (eMove s1.Main.Move).toArray) 2 g1_4 11) ?_
      refine p 2 ?_
      refine xq rfl (y_load (.agg (eMove s2.Main.Move).toArray) 3 g1_5 11) ?_
      refine p 1 ?_
      refine rend ?_
      refine c_or (!qMove s1.Main.Move s2.Main.Move) (fun q30 => ?_) (fun q30 => ?_)
      · replace h := H.t q30 h
        refine r_start ?_
        refine p 1 ?_
        refine xx rfl (e_lit (e := (eI .i64)) (el := 3) [.int .i64 3] ([3] : List Int) fun A10_1 k10_1 => ?_)
        obtain ⟨y10_2, hy10_2, h⟩ := H.call h
        refine xx rfl (e_app 5 hy10_2 (s_own 7) fun A10_2 k10_2 => ?_)
        refine p 1 ?_
        refine rend ?_
        refine c_seq ?_
        refine c_seq ?_
        refine r_start ?_
        refine p 1 ?_
        refine xq rfl (y_load (.bool s1.Two) 2 g1_4 13) ?_
        refine p 1 ?_
        refine xq rfl (y_load (.bool s2.Two) 3 g1_5 13) ?_
        refine p 2 ?_
        refine br (!(s1.Two == s2.Two)) (fun q31 => ?_) (fun q31 => ?_)
        · replace h := H.t q31 h
          refine o_set 57 (congrArg Value.bool q31) ?_
          refine p 6 ?_
          refine rend ?_
          refine c_t (by kernel_rfl) ?_
          refine r_start ?_
          refine p 1 ?_
          refine xx rfl (e_lit (e := (eI .i64)) (el := 3) [.int .i64 4] ([4] : List Int) fun A12_1 k12_1 => ?_)
          obtain ⟨y12_2, hy12_2, h⟩ := H.call h
          refine xx rfl (e_app 5 hy12_2 (s_own 8) fun A12_2 k12_2 => ?_)
          refine p 1 ?_
          refine rend ?_
          refine c_seq ?_
          refine r_start ?_
          refine p 2 ?_
          refine rend ?_
          refine frg (fun u => (jk u 0 4 (.slice A12_2 (List.length y12_2) k12_2 :: (jk u 5 63 [])))) (by kernel_rfl) fun u => ?_
          refine keep 9 (its' := [box g0_0 46 (eSign a0), box g0_1 46 (eSign a1), box g1_4 46 (eSign s1), box g1_5 46 (eSign s2), rowT (eI .i64) w.heap.size 3 (.slice A6_1 (List.length ([1] : List Int)) k6_1) ([1] : List Int), rowT (eI .i64) w.heap.size 3 (.slice A12_2 (List.length y12_2) k12_2) y12_2, rowT (eI .i64) w.heap.size 3 (.slice A8_1 (List.length ([2] : List Int)) k8_1) ([2] : List Int), rowT (eI .i64) w.heap.size 3 (.slice A10_1 (List.length ([3] : List Int)) k10_1) ([3] : List Int), rowT (eI .i64) w.heap.size 3 (.slice A12_1 (List.length ([4] : List Int)) k12_1) ([4] : List Int)]) (by kernel_rfl) ?_
          replace h := H.done h
          subst h
          exact ret func111 rfl (vs := [.slice A12_2 (List.length y12_2) k12_2]) (.tmp (by kernel_rfl) .nil) rfl (fun W S => ⟨_, _, rfl, S.row 5, S.below⟩)
        replace h := H.f q31 h
        refine o_set 57 (congrArg Value.bool q31) ?_
        refine p 1 ?_
        refine xq rfl (y_load (.agg (eHand s1.Other).toArray) 2 g1_4 14) ?_
        refine p 1 ?_
        refine xq rfl (y_load (.agg (eHand s2.Other).toArray) 3 g1_5 14) ?_
        refine p 2 ?_
        refine rend ?_
        refine c_or (!qHand s1.Other s2.Other) (fun q32 => ?_) (fun q32 => ?_)
        · replace h := H.t q32 h
          refine r_start ?_
          refine p 1 ?_
          refine xx rfl (e_lit (e := (eI .i64)) (el := 3) [.int .i64 4] ([4] : List Int) fun A12_1 k12_1 => ?_)
          obtain ⟨y12_2, hy12_2, h⟩ := H.call h
          refine xx rfl (e_app 5 hy12_2 (s_own 8) fun A12_2 k12_2 => ?_)
          refine p 1 ?_
          refine rend ?_
          refine c_seq ?_
          refine r_start ?_
          refine p 2 ?_
          refine rend ?_
          refine frg (fun u => (jk u 0 4 (.slice A12_2 (List.length y12_2) k12_2 :: (jk u 5 63 [])))) (by kernel_rfl) fun u => ?_
          refine keep 9 (its' := [box g0_0 46 (eSign a0), box g0_1 46 (eSign a1), box g1_4 46 (eSign s1), box g1_5 46 (eSign s2), rowT (eI .i64) w.heap.size 3 (.slice A6_1 (List.length ([1] : List Int)) k6_1) ([1] : List Int), rowT (eI .i64) w.heap.size 3 (.slice A12_2 (List.length y12_2) k12_2) y12_2, rowT (eI .i64) w.heap.size 3 (.slice A8_1 (List.length ([2] : List Int)) k8_1) ([2] : List Int), rowT (eI .i64) w.heap.size 3 (.slice A10_1 (List.length ([3] : List Int)) k10_1) ([3] : List Int), rowT (eI .i64) w.heap.size 3 (.slice A12_1 (List.length ([4] : List Int)) k12_1) ([4] : List Int)]) (by kernel_rfl) ?_
          replace h := H.done h
          subst h
          exact ret func111 rfl (vs := [.slice A12_2 (List.length y12_2) k12_2]) (.tmp (by kernel_rfl) .nil) rfl (fun W S => ⟨_, _, rfl, S.row 5, S.below⟩)
        replace h := H.f q32 h
        refine c_skip ?_
        refine c_seq ?_
        refine r_start ?_
        refine p 2 ?_
        refine rend ?_
        replace h := H.done h
        subst h
        exact ret func111 rfl (vs := [.slice A10_2 (List.length y10_2) k10_2]) (.tmp (by kernel_rfl) .nil) rfl (fun W S => ⟨_, _, rfl, S.row 5, S.below⟩)
      replace h := H.f q30 h
      refine c_skip ?_
      refine c_seq ?_
      refine c_seq ?_
      refine r_start ?_
      refine p 1 ?_
      refine xq rfl (y_load (.bool s1.Two) 2 g1_4 13) ?_
      refine p 1 ?_
      refine xq rfl (y_load (.bool s2.Two) 3 g1_5 13) ?_
      refine p 2 ?_
      refine br (!(s1.Two == s2.Two)) (fun q33 => ?_) (fun q33 => ?_)
      · replace h := H.t q33 h
        refine o_set 57 (congrArg Value.bool q33) ?_
        refine p 6 ?_
        refine rend ?_
        refine c_t (by kernel_rfl) ?_
        refine r_start ?_
        refine p 1 ?_
        refine xx rfl (e_lit (e := (eI .i64)) (el := 3) [.int .i64 4] ([4] : List Int) fun A12_1 k12_1 => ?_)
        obtain ⟨y12_2, hy12_2, h⟩ := H.call h
        refine xx rfl (e_app 5 hy12_2 (s_own 7) fun A12_2 k12_2 => ?_)
        refine p 1 ?_
        refine rend ?_
        refine c_seq ?_
        refine r_start ?_
        refine p 2 ?_
        refine rend ?_
        replace h := H.done h
        subst h
        exact ret func111 rfl (vs := [.slice A12_2 (List.length y12_2) k12_2]) (.tmp (by kernel_rfl) .nil) rfl (fun W S => ⟨_, _, rfl, S.row 5, S.below⟩)
      replace h := H.f q33 h
      refine o_set 57 (congrArg Value.bool q33) ?_
      refine p 1 ?_
      refine xq rfl (y_load (.agg (eHand s1.Other).toArray) 2 g1_4 14) ?_
      refine p 1 ?_
      refine xq rfl (y_load (.agg (eHand s2.Other).toArray) 3 g1_5 14) ?_
      refine p 2 ?_
      refine rend ?_
      refine c_or (!qHand s1.Other s2.Other) (fun q34 => ?_) (fun q34 => ?_)
      · replace h := H.t q34 h
        refine r_start ?_
        refine p 1 ?_
        refine xx rfl (e_lit (e := (eI .i64)) (el := 3) [.int .i64 4] ([4] : List Int) fun A12_1 k12_1 => ?_)
        obtain ⟨y12_2, hy12_2, h⟩ := H.call h
        refine xx rfl (e_app 5 hy12_2 (s_own 7) fun A12_2 k12_2 => ?_)
        refine p 1 ?_
        refine rend ?_
        refine c_seq ?_
        refine r_start ?_
        refine p 2 ?_
        refine rend ?_
        replace h := H.done h
        subst h
        exact ret func111 rfl (vs := [.slice A12_2 (List.length y12_2) k12_2]) (.tmp (by kernel_rfl) .nil) rfl (fun W S => ⟨_, _, rfl, S.row 5, S.below⟩)
      replace h := H.f q34 h
      refine c_skip ?_
      refine c_seq ?_
      refine r_start ?_
      refine p 2 ?_
      refine rend ?_
      replace h := H.done h
      subst h
      exact ret func111 rfl (vs := [.slice A8_2 (List.length y8_2) k8_2]) (.tmp (by kernel_rfl) .nil) rfl (fun W S => ⟨_, _, rfl, S.row 5, S.below⟩)
    replace h := H.f q29 h
    refine c_skip ?_
    refine c_seq ?_
    refine c_seq ?_
    refine r_start ?_
    refine p 2 ?_
    refine xq rfl (y_load (.agg (eMove s1.Main.Move).toArray) 2 g1_4 11) ?_
    refine p 2 ?_
    refine xq rfl (y_load (.agg (eMove s2.Main.Move).toArray) 3 g1_5 11) ?_
    refine p 1 ?_
    refine rend ?_
    refine c_or (!qMove s1.Main.Move s2.Main.Move) (fun q35 => ?_) (fun q35 => ?_)
    · replace h := H.t q35 h
      refine r_start ?_
      refine p 1 ?_
      refine xx rfl (e_lit (e := (eI .i64)) (el := 3) [.int .i64 3] ([3] : List Int) fun A10_1 k10_1 => ?_)
      obtain ⟨y10_2, hy10_2, h⟩ := H.call h
      refine xx rfl (e_app 5 hy10_2 (s_own 6) fun A10_2 k10_2 => ?_)
      refine p 1 ?_
      refine rend ?_
      refine c_seq ?_
      refine c_seq ?_
      refine r_start ?_
      refine p 1 ?_
      refine xq rfl (y_load (.bool s1.Two) 2 g1_4 13) ?_
      refine p 1 ?_
      refine xq rfl (y_load (.bool s2.Two) 3 g1_5 13) ?_
      refine p 2 ?_
      refine br (!(s1.Two == s2.Two)) (fun q36 => ?_) (fun q36 => ?_)
      · replace h := H.t q36 h
        refine o_set 57 (congrArg Value.bool q36) ?_
        refine p 6 ?_
        refine rend ?_
        refine c_t (by kernel_rfl) ?_
        refine r_start ?_
        refine p 1 ?_
        refine xx rfl (e_lit (e := (eI .i64)) (el := 3) [.int .i64 4] ([4] : List Int) fun A12_1 k12_1 => ?_)
        obtain ⟨y12_2, hy12_2, h⟩ := H.call h
        refine xx rfl (e_app 5 hy12_2 (s_own 7) fun A12_2 k12_2 => ?_)
        refine p 1 ?_
        refine rend ?_
        refine c_seq ?_
        refine r_start ?_
        refine p 2 ?_
        refine rend ?_
        replace h := H.done h
        subst h
        exact ret func111 rfl (vs := [.slice A12_2 (List.length y12_2) k12_2]) (.tmp (by kernel_rfl) .nil) rfl (fun W S => ⟨_, _, rfl, S.row 5, S.below⟩)
      replace h := H.f q36 h
      refine o_set 57 (congrArg Value.bool q36) ?_
      refine p 1 ?_
      refine xq rfl (y_load (.agg (eHand s1.Other).toArray) 2 g1_4 14) ?_
      refine p 1 ?_
      refine xq rfl (y_load (.agg (eHand s2.Other).toArray) 3 g1_5 14) ?_
      refine p 2 ?_
      refine rend ?_
      refine c_or (!qHand s1.Other s2.Other) (fun q37 => ?_) (fun q37 => ?_)
      · replace h := H.t q37 h
        refine r_start ?_
        refine p 1 ?_
        refine xx rfl (e_lit (e := (eI .i64)) (el := 3) [.int .i64 4] ([4] : List Int) fun A12_1 k12_1 => ?_)
        obtain ⟨y12_2, hy12_2, h⟩ := H.call h
        refine xx rfl (e_app 5 hy12_2 (s_own 7) fun A12_2 k12_2 => ?_)
        refine p 1 ?_
        refine rend ?_
        refine c_seq ?_
        refine r_start ?_
        refine p 2 ?_
        refine rend ?_
        replace h := H.done h
        subst h
        exact ret func111 rfl (vs := [.slice A12_2 (List.length y12_2) k12_2]) (.tmp (by kernel_rfl) .nil) rfl (fun W S => ⟨_, _, rfl, S.row 5, S.below⟩)
      replace h := H.f q37 h
      refine c_skip ?_
      refine c_seq ?_
      refine r_start ?_
      refine p 2 ?_
      refine rend ?_
      replace h := H.done h
      subst h
      exact ret func111 rfl (vs := [.slice A10_2 (List.length y10_2) k10_2]) (.tmp (by kernel_rfl) .nil) rfl (fun W S => ⟨_, _, rfl, S.row 5, S.below⟩)
    replace h := H.f q35 h
    refine c_skip ?_
    refine c_seq ?_
    refine c_seq ?_
    refine r_start ?_
    refine p 1 ?_
    refine xq rfl (y_load (.bool s1.Two) 2 g1_4 13) ?_
    refine p 1 ?_
    refine xq rfl (y_load (.bool s2.Two) 3 g1_5 13) ?_
    refine p 2 ?_
    refine br (!(s1.Two == s2.Two)) (fun q38 => ?_) (fun q38 => ?_)
    · replace h := H.t q38 h
      refine o_set 57 (congrArg Value.bool q38) ?_
      refine p 6 ?_
      refine rend ?_
      refine c_t (by kernel_rfl) ?_
      refine r_start ?_
      refine p 1 ?_
      refine xx rfl (e_lit (e := (eI .i64)) (el := 3) [.int .i64 4] ([4] : List Int) fun A12_1 k12_1 => ?_)
      obtain ⟨y12_2, hy12_2, h⟩ := H.call h
      refine xx rfl (e_app 5 hy12_2 (s_own 6) fun A12_2 k12_2 => ?_)
      refine p 1 ?_
      refine rend ?_
      refine c_seq ?_
      refine r_start ?_
      refine p 2 ?_
      refine rend ?_
      replace h := H.done h
      subst h
      exact ret func111 rfl (vs := [.slice A12_2 (List.length y12_2) k12_2]) (.tmp (by kernel_rfl) .nil) rfl (fun W S => ⟨_, _, rfl, S.row 5, S.below⟩)
    replace h := H.f q38 h
    refine o_set 57 (congrArg Value.bool q38) ?_
    refine p 1 ?_
    refine xq rfl (y_load (.agg (eHand s1.Other).toArray) 2 g1_4 14) ?_
    refine p 1 ?_
    refine xq rfl (y_load (.agg (eHand s2.Other).toArray) 3 g1_5 14) ?_
    refine p 2 ?_
    refine rend ?_
    refine c_or (!qHand s1.Other s2.Other) (fun q39 => ?_) (fun q39 => ?_)
    · replace h := H.t q39 h
      refine r_start ?_
      refine p 1 ?_
      refine xx rfl (e_lit (e := (eI .i64)) (el := 3) [.int .i64 4] ([4] : List Int) fun A12_1 k12_1 => ?_)
      obtain ⟨y12_2, hy12_2, h⟩ := H.call h
      refine xx rfl (e_app 5 hy12_2 (s_own 6) fun A12_2 k12_2 => ?_)
      refine p 1 ?_
      refine rend ?_
      refine c_seq ?_
      refine r_start ?_
      refine p 2 ?_
      refine rend ?_
      replace h := H.done h
      subst h
      exact ret func111 rfl (vs := [.slice A12_2 (List.length y12_2) k12_2]) (.tmp (by kernel_rfl) .nil) rfl (fun W S => ⟨_, _, rfl, S.row 5, S.below⟩)
    replace h := H.f q39 h
    refine c_skip ?_
    refine c_seq ?_
    refine r_start ?_
    refine p 2 ?_
    refine rend ?_
    replace h := H.done h
    subst h
    exact ret func111 rfl (vs := [.slice A6_2 (List.length y6_2) k6_2]) (.tmp (by kernel_rfl) .nil) rfl (fun W S => ⟨_, _, rfl, S.row 5, S.below⟩)
  replace h := H.f q28 h
  refine c_skip ?_
  refine c_seq ?_
  refine c_seq ?_
  refine r_start ?_
  refine p 2 ?_
  refine xq rfl (y_load (.agg (ePlace s1.Main.Place).toArray) 2 g1_4 8) ?_
  refine p 2 ?_
  refine xq rfl (y_load (.agg (ePlace s2.Main.Place).toArray) 3 g1_5 8) ?_
  refine p 1 ?_
  refine rend ?_
  refine c_or (!qPlace s1.Main.Place s2.Main.Place) (fun q40 => ?_) (fun q40 => ?_)
  · replace h := H.t q40 h
    refine r_start ?_
    refine p 1 ?_
    refine xx rfl (e_lit (e := (eI .i64)) (el := 3) [.int .i64 2] ([2] : List Int) fun A8_1 k8_1 => ?_)
    refine o_nil (eI .i64) 3 ?_
    obtain ⟨y8_2, hy8_2, h⟩ := H.call h
    refine xx rfl (e_app 5 hy8_2 (s_own 4) fun A8_2 k8_2 => ?_)
    refine p 1 ?_
    refine rend ?_
    refine c_seq ?_
    refine c_seq ?_
    refine r_start ?_
    refine p 2 ?_
    refine xq rfl (y_load (.agg (eMove s1.Main.Move).toArray) 2 g1_4 11) ?_
    refine p 2 ?_
    refine xq rfl (y_load (.agg (eMove s2.Main.Move).toArray) 3 g1_5 11) ?_
    refine p 1 ?_
    refine rend ?_
    refine c_or (!qMove s1.Main.Move s2.Main.Move) (fun q41 => ?_) (fun q41 => ?_)
    · replace h := H.t q41 h
      refine r_start ?_
      refine p 1 ?_
      refine xx rfl (e_lit (e := (eI .i64)) (el := 3) [.int .i64 3] ([3] : List Int) fun A10_1 k10_1 => ?_)
      obtain ⟨y10_2, hy10_2, h⟩ := H.call h
      refine xx rfl (e_app 5 hy10_2 (s_own 6) fun A10_2 k10_2 => ?_)
      refine p 1 ?_
      refine rend ?_
      refine c_seq ?_
      refine c_seq ?_
      refine r_start ?_
      refine p 1 ?_
      refine xq rfl (y_load (.bool s1.Two) 2 g1_4 13) ?_
      refine p 1 ?_
      refine xq rfl (y_load (.bool s2.Two) 3 g1_5 13) ?_
      refine p 2 ?_
      refine br (!(s1.Two == s2.Two)) (fun q42 => ?_) (fun q42 => ?_)
      · replace h := H.t q42 h
        refine o_set 57 (congrArg Value.bool q42) ?_
        refine p 6 ?_
        refine rend ?_
        refine c_t (by kernel_rfl) ?_
        refine r_start ?_
        refine p 1 ?_
        refine xx rfl (e_lit (e := (eI .i64)) (el := 3) [.int .i64 4] ([4] : List Int) fun A12_1 k12_1 => ?_)
        obtain ⟨y12_2, hy12_2, h⟩ := H.call h
        refine xx rfl (e_app 5 hy12_2 (s_own 7) fun A12_2 k12_2 => ?_)
        refine p 1 ?_
        refine rend ?_
        refine c_seq ?_
        refine r_start ?_
        refine p 2 ?_
        refine rend ?_
        replace h := H.done h
        subst h
        exact ret func111 rfl (vs := [.slice A12_2 (List.length y12_2) k12_2]) (.tmp (by kernel_rfl) .nil) rfl (fun W S => ⟨_, _, rfl, S.row 5, S.below⟩)
      replace h := H.f q42 h
      refine o_set 57 (congrArg Value.bool q42) ?_
      refine p 1 ?_
      refine xq rfl (y_load (.agg (eHand s1.Other).toArray) 2 g1_4 14) ?_
      refine p 1 ?_
      refine xq rfl (y_load (.agg (eHand s2.Other).toArray) 3 g1_5 14) ?_
      refine p 2 ?_
      refine rend ?_
      refine c_or (!qHand s1.Other s2.Other) (fun q43 => ?_) (fun q43 => ?_)
      · replace h := H.t q43 h
        refine r_start ?_
        refine p 1 ?_
        refine xx rfl (e_lit (e := (eI .i64)) (el := 3) [.int .i64 4] ([4] : List Int) fun A12_1 k12_1 => ?_)
        obtain ⟨y12_2, hy12_2, h⟩ := H.call h
        refine xx rfl (e_app 5 hy12_2 (s_own 7) fun A12_2 k12_2 => ?_)
        refine p 1 ?_
        refine rend ?_
        refine c_seq ?_
        refine r_start ?_
        refine p 2 ?_
        refine rend ?_
        replace h := H.done h
        subst h
        exact ret func111 rfl (vs := [.slice A12_2 (List.length y12_2) k12_2]) (.tmp (by kernel_rfl) .nil) rfl (fun W S => ⟨_, _, rfl, S.row 5, S.below⟩)
      replace h := H.f q43 h
      refine c_skip ?_
      refine c_seq ?_
      refine r_start ?_
      refine p 2 ?_
      refine rend ?_
      replace h := H.done h
      subst h
      exact ret func111 rfl (vs := [.slice A10_2 (List.length y10_2) k10_2]) (.tmp (by kernel_rfl) .nil) rfl (fun W S => ⟨_, _, rfl, S.row 5, S.below⟩)
    replace h := H.f q41 h
    refine c_skip ?_
    refine c_seq ?_
    refine c_seq ?_
    refine r_start ?_
    refine p 1 ?_
    refine xq rfl (y_load (.bool s1.Two) 2 g1_4 13) ?_
    refine p 1 ?_
    refine xq rfl (y_load (.bool s2.Two) 3 g1_5 13) ?_
    refine p 2 ?_
    refine br (!(s1.Two == s2.Two)) (fun q44 => ?_) (fun q44 => ?_)
    · replace h := H.t q44 h
      refine o_set 57 (congrArg Value.bool q44) ?_
      refine p 6 ?_
      refine rend ?_
      refine c_t (by kernel_rfl) ?_
      refine r_start ?_
      refine p 1 ?_
      refine xx rfl (e_lit (e := (eI .i64)) (el := 3) [.int .i64 4] ([4] : List Int) fun A12_1 k12_1 => ?_)
      obtain ⟨y12_2, hy12_2, h⟩ := H.call h
      refine xx rfl (e_app 5 hy12_2 (s_own 6) fun A12_2 k12_2 => ?_)
      refine p 1 ?_
      refine rend ?_
      refine c_seq ?_
      refine r_start ?_
      refine p 2 ?_
      refine rend ?_
      replace h := H.done h
      subst h
      exact ret func111 rfl (vs := [.slice A12_2 (List.length y12_2) k12_2]) (.tmp (by kernel_rfl) .nil) rfl (fun W S => ⟨_, _, rfl, S.row 5, S.below⟩)
    replace h := H.f q44 h
    refine o_set 57 (congrArg Value.bool q44) ?_
    refine p 1 ?_
    refine xq rfl (y_load (.agg (eHand s1.Other).toArray) 2 g1_4 14) ?_
    refine p 1 ?_
    refine xq rfl (y_load (.agg (eHand s2.Other).toArray) 3 g1_5 14) ?_
    refine p 2 ?_
    refine rend ?_
    refine c_or (!qHand s1.Other s2.Other) (fun q45 => ?_) (fun q45 => ?_)
    · replace h := H.t q45 h
      refine r_start ?_
      refine p 1 ?_
      refine xx rfl (e_lit (e := (eI .i64)) (el := 3) [.int .i64 4] ([4] : List Int) fun A12_1 k12_1 => ?_)
      obtain ⟨y12_2, hy12_2, h⟩ := H.call h
      refine xx rfl (e_app 5 hy12_2 (s_own 6) fun A12_2 k12_2 => ?_)
      refine p 1 ?_
      refine rend ?_
      refine c_seq ?_
      refine r_start ?_
      refine p 2 ?_
      refine rend ?_
      replace h := H.done h
      subst h
      exact ret func111 rfl (vs := [.slice A12_2 (List.length y12_2) k12_2]) (.tmp (by kernel_rfl) .nil) rfl (fun W S => ⟨_, _, rfl, S.row 5, S.below⟩)
    replace h := H.f q45 h
    refine c_skip ?_
    refine c_seq ?_
    refine r_start ?_
    refine p 2 ?_
    refine rend ?_
    replace h := H.done h
    subst h
    exact ret func111 rfl (vs := [.slice A8_2 (List.length y8_2) k8_2]) (.tmp (by kernel_rfl) .nil) rfl (fun W S => ⟨_, _, rfl, S.row 5, S.below⟩)
  replace h := H.f q40 h
  refine c_skip ?_
  refine c_seq ?_
  refine c_seq ?_
  refine r_start ?_
  refine p 2 ?_
  refine xq rfl (y_load (.agg (eMove s1.Main.Move).toArray) 2 g1_4 11) ?_
  refine p 2 ?_
  refine xq rfl (y_load (.agg (eMove s2.Main.Move).toArray) 3 g1_5 11) ?_
  refine p 1 ?_
  refine rend ?_
  refine c_or (!qMove s1.Main.Move s2.Main.Move) (fun q46 => ?_) (fun q46 => ?_)
  · replace h := H.t q46 h
    refine r_start ?_
    refine p 1 ?_
    refine xx rfl (e_lit (e := (eI .i64)) (el := 3) [.int .i64 3] ([3] : List Int) fun A10_1 k10_1 => ?_)
    refine o_nil (eI .i64) 3 ?_
    obtain ⟨y10_2, hy10_2, h⟩ := H.call h
    refine xx rfl (e_app 5 hy10_2 (s_own 4) fun A10_2 k10_2 => ?_)
    refine p 1 ?_
    refine rend ?_
    refine c_seq ?_
    refine c_seq ?_
    refine r_start ?_
    refine p 1 ?_
    refine xq rfl (y_load (.bool s1.Two) 2 g1_4 13) ?_
    refine p 1 ?_
    refine xq rfl (y_load (.bool s2.Two) 3 g1_5 13) ?_
    refine p 2 ?_
    refine br (!(s1.Two == s2.Two)) (fun q47 => ?_) (fun q47 => ?_)
    · replace h := H.t q47 h
      refine o_set 57 (congrArg Value.bool q47) ?_
      refine p 6 ?_
      refine rend ?_
      refine c_t (by kernel_rfl) ?_
      refine r_start ?_
      refine p 1 ?_
      refine xx rfl (e_lit (e := (eI .i64)) (el := 3) [.int .i64 4] ([4] : List Int) fun A12_1 k12_1 => ?_)
      obtain ⟨y12_2, hy12_2, h⟩ := H.call h
      refine xx rfl (e_app 5 hy12_2 (s_own 6) fun A12_2 k12_2 => ?_)
      refine p 1 ?_
      refine rend ?_
      refine c_seq ?_
      refine r_start ?_
      refine p 2 ?_
      refine rend ?_
      replace h := H.done h
      subst h
      exact ret func111 rfl (vs := [.slice A12_2 (List.length y12_2) k12_2]) (.tmp (by kernel_rfl) .nil) rfl (fun W S => ⟨_, _, rfl, S.row 5, S.below⟩)
    replace h := H.f q47 h
    refine o_set 57 (congrArg Value.bool q47) ?_
    refine p 1 ?_
    refine xq rfl (y_load (.agg (eHand s1.Other).toArray) 2 g1_4 14) ?_
    refine p 1 ?_
    refine xq rfl (y_load (.agg (eHand s2.Other).toArray) 3 g1_5 14) ?_
    refine p 2 ?_
    refine rend ?_
    refine c_or (!qHand s1.Other s2.Other) (fun q48 => ?_) (fun q48 => ?_)
    · replace h := H.t q48 h
      refine r_start ?_
      refine p 1 ?_
      refine xx rfl (e_lit (e := (eI .i64)) (el := 3) [.int .i64 4] ([4] : List Int) fun A12_1 k12_1 => ?_)
      obtain ⟨y12_2, hy12_2, h⟩ := H.call h
      refine xx rfl (e_app 5 hy12_2 (s_own 6) fun A12_2 k12_2 => ?_)
      refine p 1 ?_
      refine rend ?_
      refine c_seq ?_
      refine r_start ?_
      refine p 2 ?_
      refine rend ?_
      replace h := H.done h
      subst h
      exact ret func111 rfl (vs := [.slice A12_2 (List.length y12_2) k12_2]) (.tmp (by kernel_rfl) .nil) rfl (fun W S => ⟨_, _, rfl, S.row 5, S.below⟩)
    replace h := H.f q48 h
    refine c_skip ?_
    refine c_seq ?_
    refine r_start ?_
    refine p 2 ?_
    refine rend ?_
    replace h := H.done h
    subst h
    exact ret func111 rfl (vs := [.slice A10_2 (List.length y10_2) k10_2]) (.tmp (by kernel_rfl) .nil) rfl (fun W S => ⟨_, _, rfl, S.row 5, S.below⟩)
  replace h := H.f q46 h
  refine c_skip ?_
  refine c_seq ?_
  refine c_seq ?_
  refine r_start ?_
  refine p 1 ?_
  refine xq rfl (y_load (.bool s1.Two) 2 g1_4 13) ?_
  refine p 1 ?_
  refine xq rfl (y_load (.bool s2.Two) 3 g1_5 13) ?_
  refine p 2 ?_
  refine br (!(s1.Two == s2.Two)) (fun q49 => ?_) (fun q49 => ?_)
  · replace h := H.t q49 h
    refine o_set 57 (congrArg Value.bool q49) ?_
    refine p 6 ?_
    refine rend ?_
    refine c_t (by kernel_rfl) ?_
    refine r_start ?_
    refine p 1 ?_
    refine xx rfl (e_lit (e := (eI .i64)) (el := 3) [.int .i64 4] ([4] : List Int) fun A12_1 k12_1 => ?_)
    refine o_nil (eI .i64) 3 ?_
    obtain ⟨y12_2, hy12_2, h⟩ := H.call h
    refine xx rfl (e_app 5 hy12_2 (s_own 4) fun A12_2 k12_2 => ?_)
    refine p 1 ?_
    refine rend ?_
    refine c_seq ?_
    refine r_start ?_
    refine p 2 ?_
    refine rend ?_
    replace h := H.done h
    subst h
    exact ret func111 rfl (vs := [.slice A12_2 (List.length y12_2) k12_2]) (.tmp (by kernel_rfl) .nil) rfl (fun W S => ⟨_, _, rfl, S.row 5, S.below⟩)
  replace h := H.f q49 h
  refine o_set 57 (congrArg Value.bool q49) ?_
  refine p 1 ?_
  refine xq rfl (y_load (.agg (eHand s1.Other).toArray) 2 g1_4 14) ?_
  refine p 1 ?_
  refine xq rfl (y_load (.agg (eHand s2.Other).toArray) 3 g1_5 14) ?_
  refine p 2 ?_
  refine rend ?_
  refine c_or (!qHand s1.Other s2.Other) (fun q50 => ?_) (fun q50 => ?_)
  · replace h := H.t q50 h
    refine r_start ?_
    refine p 1 ?_
    refine xx rfl (e_lit (e := (eI .i64)) (el := 3) [.int .i64 4] ([4] : List Int) fun A12_1 k12_1 => ?_)
    refine o_nil (eI .i64) 3 ?_
    obtain ⟨y12_2, hy12_2, h⟩ := H.call h
    refine xx rfl (e_app 5 hy12_2 (s_own 4) fun A12_2 k12_2 => ?_)
    refine p 1 ?_
    refine rend ?_
    refine c_seq ?_
    refine r_start ?_
    refine p 2 ?_
    refine rend ?_
    replace h := H.done h
    subst h
    exact ret func111 rfl (vs := [.slice A12_2 (List.length y12_2) k12_2]) (.tmp (by kernel_rfl) .nil) rfl (fun W S => ⟨_, _, rfl, S.row 5, S.below⟩)
  replace h := H.f q50 h
  refine c_skip ?_
  refine c_seq ?_
  refine r_start ?_
  refine p 2 ?_
  refine rend ?_
  replace h := H.done h
  subst h
  exact ret func111 rfl (vs := [.slice none 0 0]) (.tmp (by kernel_rfl) .nil) rfl (fun W S => ⟨none, 0, rfl, World.ownsRow_nil _ _ _ _, S.below⟩)
theorem C.i_Hand_same {a0 : Hand} {a1 : Hand} {r : (List Bool)} (w : World) (h : X.i_Hand_same a0 a1 = some r) : Calls prog 168 #[.agg (eHand a0).toArray, .agg (eHand a1).toArray] w (RetR eB 4 w r (fun v => v)) := by
  refine calls (M := no) (args := [.agg (eHand a0).toArray, .agg (eHand a1).toArray]) func168 rfl ?_
  replace h : H (X.i_Hand_same a0 a1) (fun o => o = r) := H.mk h
  unfold X.i_Hand_same at h
  refine c_seq ?_
  refine r_start ?_
  refine xx rfl (x_box (eHand a0) fun g0_0 => ?_)
  refine xx rfl (x_box (eHand a1) fun g0_1 => ?_)
  refine p 1 ?_
  refine rend ?_
  refine c_seq ?_
  refine as_start 22 22 ?_
  refine ap 0 1 ?_
  refine aq 1 rfl (y_load (.agg (eShape a0.Shape).toArray) 0 g0_0 0) ?_
  refine ap 2 1 ?_
  refine aq 3 rfl (y_load (.agg (eShape a1.Shape).toArray) 1 g0_1 0) ?_
  refine ap 4 2 ?_
  refine aq 6 rfl (y_load (.agg (eOrient a0.Orient).toArray) 0 g0_0 6) ?_
  refine ap 7 1 ?_
  refine aq 8 rfl (y_load (.agg (eOrient a1.Orient).toArray) 1 g0_1 6) ?_
  refine ap 9 2 ?_
  refine aq 11 rfl (y_load (.agg (ePlace a0.Place).toArray) 0 g0_0 8) ?_
  refine ap 12 1 ?_
  refine aq 13 rfl (y_load (.agg (ePlace a1.Place).toArray) 1 g0_1 8) ?_
  refine ap 14 2 ?_
  refine aq 16 rfl (y_load (.agg (eMove a0.Move).toArray) 0 g0_0 11) ?_
  refine ap 17 1 ?_
  refine aq 18 rfl (y_load (.agg (eMove a1.Move).toArray) 1 g0_1 11) ?_
  refine ap 19 1 ?_
  refine ax 20 rfl (e_lit (e := eB) (el := 4) [.bool (qShape a0.Shape a1.Shape), .bool (qOrient a0.Orient a1.Orient), .bool (qPlace a0.Place a1.Place), .bool (qMove a0.Move a1.Move)] ([(qShape a0.Shape a1.Shape), (qOrient a0.Orient a1.Orient), (qPlace a0.Place a1.Place), (qMove a0.Move a1.Move)] : List Bool) fun A1_20 k1_20 => ⟨.inr (by kernel_rfl), ?_⟩)
  refine ap 21 1 ?_
  refine a_done ?_
  replace h := H.done h
  subst h
  exact ret func168 rfl (vs := [.slice A1_20 (List.length ([(qShape a0.Shape a1.Shape), (qOrient a0.Orient a1.Orient), (qPlace a0.Place a1.Place), (qMove a0.Move a1.Move)] : List Bool)) k1_20]) (.tmp (by kernel_rfl) .nil) rfl (fun W S => ⟨_, _, rfl, S.row 2, S.below⟩)
theorem C.i_those_bool {a0 : (List Bool)} {A0 : Option Addr} {k0 : Nat} {a1 : (Bool → Option Bool)} {g1 : Nat} {cp1 : List Value} {r : (List Int)} (w : World) (h : X.i_those_bool a0 a1 = some r) (h0 : RdT eB w (.slice A0 (List.length a0) k0) a0) (hg1 : isFn prog g1 = true) (hF1 : ∀ (x0 : Bool) (r : Bool) (W : World), Up w W → a1 x0 = some r → Calls prog g1 (([.bool x0] : List Value) ++ cp1).toArray W (Ret W (.bool r))) : Calls prog 169 #[.slice A0 (List.length a0) k0, .func (.func g1) #[] cp1.toArray] w (RetR (eI .i64) 3 w r (fun v => v)) := by
  refine calls (M := no) (args := [.slice A0 (List.length a0) k0, .func (.func g1) #[] cp1.toArray]) func169 rfl ?_
  replace h : H (X.i_those_bool a0 a1) (fun o => o = r) := H.mk h
  unfold X.i_those_bool at h
  refine c_seq ?_
  refine r_start ?_
  refine p 1 ?_
  refine rend ?_
  refine c_seq ?_
  refine r_start ?_
  refine p 1 ?_
  refine rend ?_
  refine c_seq ?_
  refine c_seq ?_
  refine r_start ?_
  refine p 3 ?_
  refine rend ?_
  refine c_block ?_
  refine c_nil (eI .i64) 3 ?_
  refine joinH (X := ((List Int) × Option Addr × Nat)) 0 (H.bnd h) (fun ⟨l4, A5, k6⟩ => l4) (fun ⟨l4, A5, k6⟩ => [rowT (eI .i64) w.heap.size 3 (.slice A5 (List.length l4) k6) l4]) (fun ⟨l4, A5, k6⟩ u => (jk u 0 5 (.slice A5 (List.length l4) k6 :: (jk u 6 18 [])))) (fun h hj7 => ?_) ?_
  · skip
    refine rangeR (X := ((List Int) × Option Addr × Nat)) (s_arg h0) (fun ⟨l1, A2, k3⟩ => l1) (fun ⟨l1, A2, k3⟩ => [rowT (eI .i64) w.heap.size 3 (.slice A2 (List.length l1) k3) l1]) (fun (j8 : Nat) ⟨l1, A2, k3⟩ u => (jk u 0 1 (.func (.func g1) #[] cp1.toArray :: (jk u 2 3 (.slice A2 (List.length l1) k3 :: (jk u 6 2 (.slice A0 (List.length a0) k0 :: .int .i64 (List.length a0 : Int) :: .int .i64 (j8 : Int) :: (jk u 11 13 [])))))))) (([] : List Int), none, 0) h (by kernel_rfl) (by kernel_rfl) ?_ ?_
    · intro j8 x u x9 q10 hg11 hw12 h
      obtain ⟨l1, A2, k3⟩ := x
      refine c_seq ?_
      refine r_start ?_
      refine p 1 ?_
      refine rend ?_
      refine c_seq ?_
      refine c_yes q10 ?_
      refine c_skip ?_
      refine c_seq ?_
      refine c_block ?_
      refine c_seq ?_
      refine r_start ?_
      refine p 1 ?_
      refine xq rfl (y_idx (e := eB) (el := 4) hg11 (s_arg h0)) ?_
      refine xq rfl (y_el (e := eB) 0 (.bool x9) hg11 (s_arg h0)) ?_
      refine p 2 ?_
      refine rend ?_
      refine c_seq ?_
      refine r_start ?_
      refine p 2 ?_
      obtain ⟨v5_2, hv5_2, h⟩ := H.call h
      refine xq rfl (y_cf cp1 [.bool x9] (.bool v5_2) hg1 (fun W S => hF1 _ _ W S.below hv5_2)) ?_
      refine rend ?_
      refine c_or v5_2 (fun q13 => ?_) (fun q13 => ?_)
      · replace h := H.t q13 h
        refine r_start ?_
        refine p 2 ?_
        refine xx rfl (e_lit (e := (eI .i64)) (el := 3) [.int .i64 (j8 : Int)] ([(j8 : Int)] : List Int) fun A6_2 k6_2 => ?_)
        obtain ⟨y6_3, hy6_3, h⟩ := H.call h
        refine xx rfl (e_app 0 hy6_3 (s_own 1) fun A6_3 k6_3 => ?_)
        refine p 1 ?_
        refine rend ?_
        refine c_inb ?_
        refine r_start ?_
        refine p 2 ?_
        refine rend ?_
        refine c_set 10 (ci hw12) ?_
        replace h := H.inl h
        exact h (y6_3, A6_3, k6_3) _ _ rfl (by kernel_rfl) (by kernel_rfl)
      replace h := H.f q13 h
      refine c_skip ?_
      refine c_inb ?_
      refine r_start ?_
      refine p 2 ?_
      refine rend ?_
      refine c_set 10 (ci hw12) ?_
      replace h := H.inl h
      exact h (l1, A2, k3) _ _ rfl (by kernel_rfl) (by kernel_rfl)
    · intro x u q10 h
      obtain ⟨l1, A2, k3⟩ := x
      refine c_seq ?_
      refine r_start ?_
      refine p 1 ?_
      refine rend ?_
      refine c_seq ?_
      refine c_no q10 ?_
      refine cx ?_
      replace h := H.done h
      exact hj7 (l1, A2, k3) _ _ h (by kernel_rfl) (by kernel_rfl)
  intro x u h
  obtain ⟨l4, A5, k6⟩ := x
  refine c_seq ?_
  refine r_start ?_
  refine p 2 ?_
  refine rend ?_
  replace h := H.done h
  subst h
  exact ret func169 rfl (vs := [.slice A5 (List.length l4) k6]) (.tmp (by kernel_rfl) .nil) rfl (fun W S => ⟨_, _, rfl, S.row 0, S.below⟩)
theorem C.i_partsApart_1 {a0 : Bool} {r : Bool} (w : World) (h : X.i_partsApart_1 a0 = some r) : Calls prog 170 #[.bool a0] w (Ret w (.bool r)) := by
  refine calls (M := no) (args := [.bool a0]) func170 rfl ?_
  replace h : H (X.i_partsApart_1 a0) (fun o => o = r) := H.mk h
  unfold X.i_partsApart_1 at h
  refine c_seq ?_
  refine r_start ?_
  refine p 1 ?_
  refine rend ?_
  refine c_seq ?_
  refine r_start ?_
  refine p 3 ?_
  refine rend ?_
  replace h := H.done h
  subst h
  exact ret func170 rfl (vs := [.bool (!a0)]) (.tmp (by kernel_rfl) .nil) rfl (fun W S => ⟨rfl, S.below⟩)
theorem C.i_partsApart {fu : Nat} {a0 : Sign} {a1 : Sign} {r : (List Int)} (w : World) (h : X.i_partsApart fu a0 a1 = some r) : Calls prog 112 #[.agg (eSign a0).toArray, .agg (eSign a1).toArray] w (RetR (eI .i64) 3 w r (fun v => v)) := by
  refine calls (M := no) (args := [.agg (eSign a0).toArray, .agg (eSign a1).toArray]) func112 rfl ?_
  replace h : H (X.i_partsApart fu a0 a1) (fun o => o = r) := H.mk h
  unfold X.i_partsApart at h
  refine c_seq ?_
  refine r_start ?_
  refine xx rfl (x_box (eSign a0) fun g0_0 => ?_)
  refine xx rfl (x_box (eSign a1) fun g0_1 => ?_)
  refine p 1 ?_
  refine rend ?_
  refine c_seq ?_
  refine joinT (X := (Sign × Sign × Nat × Nat)) (H.bnd h) (fun ⟨s1, s2, g1_4, g1_5⟩ => (s1, s2)) (fun ⟨s1, s2, g1_4, g1_5⟩ => [box g0_0 46 (eSign a0), box g0_1 46 (eSign a1), box g1_4 46 (eSign s1), box g1_5 46 (eSign s2)]) (fun ⟨s1, s2, g1_4, g1_5⟩ u => (jk u 0 5 (.pointer (some ⟨g1_4, 0, none⟩) :: .pointer (some ⟨g1_5, 0, none⟩) :: (jk u 7 26 [])))) (fun h hj3 => ?_) ?_
  · skip
    refine as_start 6 8 ?_
    refine aq 0 rfl (y_load (.agg (eSign a0).toArray) 0 g0_0 0) ?_
    obtain ⟨v1_1, hv1_1, h⟩ := H.call h
    refine aq 1 rfl (y_call [.agg (eSign a0).toArray] (.agg (eSign v1_1).toArray) func90 (fun W S => C.i_Sign_normal W hv1_1)) ?_
    refine aq 2 rfl (y_load (.agg (eSign a1).toArray) 1 g0_1 0) ?_
    obtain ⟨v1_3, hv1_3, h⟩ := H.call h
    refine aq 3 rfl (y_call [.agg (eSign a1).toArray] (.agg (eSign v1_3).toArray) func90 (fun W S => C.i_Sign_normal W hv1_3)) ?_
    refine a_two 4 5 rfl rfl ?_ ?_
    · skip
      refine (x_new (eSign zSign) fun g1_4 => ⟨.inr (by kernel_rfl), ?_⟩)
      refine ax 5 rfl (x_new (eSign zSign) fun g1_5 => ⟨.inr (by kernel_rfl), ?_⟩)
      refine ax 6 rfl (x_sto 2 g1_4 0 (eSign v1_1) ⟨.inl (by kernel_rfl), ?_⟩)
      refine ax 7 rfl (x_sto 3 g1_5 0 (eSign v1_3) ⟨.inl (by kernel_rfl), ?_⟩)
      refine a_done ?_
      replace h := H.done h
      exact hj3 (v1_1, v1_3, g1_4, g1_5) _ _ h (by kernel_rfl) (by kernel_rfl)
    refine (x_new (eSign zSign) fun g1_5 => ⟨.inr (by kernel_rfl), ?_⟩)
    refine ax 4 rfl (x_new (eSign zSign) fun g1_4 => ⟨.inr (by kernel_rfl), ?_⟩)
    refine ax 6 rfl (x_sto 3 g1_4 0 (eSign v1_1) ⟨.inl (by kernel_rfl), ?_⟩)
    refine ax 7 rfl (x_sto 2 g1_5 0 (eSign v1_3) ⟨.inl (by kernel_rfl), ?_⟩)
    refine a_done ?_
    refine swp [box g0_0 46 (eSign a0), box g0_1 46 (eSign a1)] (box g1_5 46 (eSign v1_3)) (box g1_4 46 (eSign v1_1)) ?_
    replace h := H.done h
    exact hj3 (v1_1, v1_3, g1_4, g1_5) _ _ h (by kernel_rfl) (by kernel_rfl)
  intro x u h
  obtain ⟨s1, s2, g1_4, g1_5⟩ := x
  refine c_seq ?_
  refine as_start 20 20 ?_
  refine ap 0 1 ?_
  refine aq 1 rfl (y_load (.agg (eHand s1.Main).toArray) 2 g1_4 0) ?_
  refine ap 2 1 ?_
  refine aq 3 rfl (y_load (.agg (eHand s2.Main).toArray) 3 g1_5 0) ?_
  refine ap 5 1 ?_
  refine aq 6 rfl (y_load (.bool s1.Two) 2 g1_4 13) ?_
  refine ap 7 1 ?_
  refine aq 8 rfl (y_load (.bool s2.Two) 3 g1_5 13) ?_
  refine ap 9 1 ?_
  obtain ⟨v2_4, hv2_4, h⟩ := H.call h
  refine ax 4 rfl (e_cr [.agg (eHand s1.Main).toArray, .agg (eHand s2.Main).toArray] (fun v => v) func168 (fun W S => C.i_Hand_same W hv2_4) fun A2_4 k2_4 => ⟨.inr (by kernel_rfl), ?_⟩)
  refine ap 10 1 ?_
  refine br (s1.Two == s2.Two) (fun q4 => ?_) (fun q4 => ?_)
  · replace h := H.t q4 h
    refine a_set 22 (congrArg Value.bool q4) ?_
    refine ap 11 1 ?_
    refine aq 12 rfl (y_load (.agg (eHand s1.Other).toArray) 2 g1_4 14) ?_
    refine ap 13 1 ?_
    refine aq 14 rfl (y_load (.agg (eHand s2.Other).toArray) 3 g1_5 14) ?_
    refine ap 15 2 ?_
    refine ax 17 rfl (e_lit (e := eB) (el := 4) [.bool (qHand s1.Other s2.Other)] ([(qHand s1.Other s2.Other)] : List Bool) fun A2_17 k2_17 => ⟨.inr (by kernel_rfl), ?_⟩)
    obtain ⟨y2_18, hy2_18, h⟩ := H.call h
    refine ax 18 rfl (e_app 4 hy2_18 (s_own 5) fun A2_18 k2_18 => ⟨.inr (by kernel_rfl), ?_⟩)
    refine ap 19 1 ?_
    refine a_done ?_
    refine c_seq ?_
    refine r_start ?_
    refine p 1 ?_
    obtain ⟨v3_1, hv3_1, h⟩ := H.call h
    refine xx rfl (e_cr [.slice A2_18 (List.length y2_18) k2_18, .func (.func 170) #[] #[]] (fun v => v) func169 (fun W S => C.i_those_bool W hv3_1 ((s_own 4).out W S) (isFn_of func170) (fun x0_2 r W2 hu2 hx2 => C.i_partsApart_1 W2 hx2)) fun A3_1 k3_1 => ?_)
    refine p 1 ?_
    refine rend ?_
    replace h := H.done h
    subst h
    exact ret func112 rfl (vs := [.slice A3_1 (List.length v3_1) k3_1]) (.tmp (by kernel_rfl) .nil) rfl (fun W S => ⟨_, _, rfl, S.row 6, S.below⟩)
  replace h := H.f q4 h
  refine a_set 22 (congrArg Value.bool q4) ?_
  refine ap 11 6 ?_
  refine ax 17 rfl (e_lit (e := eB) (el := 4) [.bool false] ([false] : List Bool) fun A2_17 k2_17 => ⟨.inr (by kernel_rfl), ?_⟩)
  obtain ⟨y2_18, hy2_18, h⟩ := H.call h
  refine ax 18 rfl (e_app 4 hy2_18 (s_own 5) fun A2_18 k2_18 => ⟨.inr (by kernel_rfl), ?_⟩)
  refine ap 19 1 ?_
  refine a_done ?_
  refine c_seq ?_
  refine r_start ?_
  refine p 1 ?_
  obtain ⟨v3_1, hv3_1, h⟩ := H.call h
  refine xx rfl (e_cr [.slice A2_18 (List.length y2_18) k2_18, .func (.func 170) #[] #[]] (fun v => v) func169 (fun W S => C.i_those_bool W hv3_1 ((s_own 4).out W S) (isFn_of func170) (fun x0_2 r W2 hu2 hx2 => C.i_partsApart_1 W2 hx2)) fun A3_1 k3_1 => ?_)
  refine p 1 ?_
  refine rend ?_
  replace h := H.done h
  subst h
  exact ret func112 rfl (vs := [.slice A3_1 (List.length v3_1) k3_1]) (.tmp (by kernel_rfl) .nil) rfl (fun W S => ⟨_, _, rfl, S.row 6, S.below⟩)
theorem C.l_szSignS {fu : Nat} {a0 : (List Sign)} {A0 : Option Addr} {k0 : Nat} {a1 : Int} {r : Int} (w : World) (h : X.l_szSignS fu a0 a1 = some r) (h0 : RdT nSign w (.slice A0 (List.length a0) k0) a0) : Calls prog 22 #[.slice A0 (List.length a0) k0, .int .i64 a1] w (Ret w (.int .i64 r)) := by
  refine calls (M := no) (args := [.slice A0 (List.length a0) k0, .int .i64 a1]) func22 rfl ?_
  replace h : H (X.l_szSignS fu a0 a1) (fun o => o = r) := H.mk h
  unfold X.l_szSignS at h
  refine c_seq ?_
  refine r_start ?_
  refine p 1 ?_
  refine rend ?_
  refine c_seq ?_
  refine r_start ?_
  refine p 5 ?_
  refine rend ?_
  refine c_seq ?_
  refine c_seq ?_
  refine r_start ?_
  refine p 2 ?_
  refine rend ?_
  refine c_or (decide ((wr (a1 - (List.length a0 : Int))) < 0)) (fun q1 => ?_) (fun q1 => ?_)
  · replace h := H.t q1 h
    refine c_seq ?_
    refine r_start ?_
    refine p 1 ?_
    refine rend ?_
    replace h := H.done h
    subst h
    exact ret func22 rfl (vs := [.int .i64 (-1)]) (.tmp (by kernel_rfl) .nil) rfl (fun W S => ⟨rfl, S.below⟩)
  replace h := H.f q1 h
  refine c_skip ?_
  refine c_seq ?_
  refine c_seq ?_
  refine r_start ?_
  refine p 1 ?_
  refine rend ?_
  refine c_block ?_
  refine joinE (X := Int) 0 (H.or h) (fun (x : Int) => x) (fun n4 => []) (fun n4 u => (jk u 0 1 (.int .i64 n4 :: (jk u 2 25 [])))) (fun h hj5 => ?_) ?_
  · skip
    refine loopR (X := (Int × Int)) (fun (x : (Int × Int)) => x) (fun ⟨n2, n3⟩ => []) (fun ⟨n2, n3⟩ u => (.slice A0 (List.length a0) k0 :: .int .i64 n2 :: (jk u 2 3 (.int .i64 n3 :: (jk u 6 21 []))))) ((wr (a1 - (List.length a0 : Int))), 0) h (by kernel_rfl) (by kernel_rfl) ?_
    intro x u h
    obtain ⟨n2, n3⟩ := x
    refine c_seq ?_
    refine c_seq ?_
    refine r_start ?_
    refine p 4 ?_
    refine rend ?_
    refine c_or (decide (n3 < (List.length a0 : Int))) (fun q6 => ?_) (fun q6 => ?_)
    · replace h := H.t q6 h
      refine c_skip ?_
      refine c_seq ?_
      refine c_block ?_
      refine c_seq ?_
      refine r_start ?_
      refine p 2 ?_
      obtain ⟨y7_2, hy7_2, h⟩ := H.call h
      refine xq rfl (y_idx (e := nSign) (el := 33) hy7_2 (s_arg h0)) ?_
      refine xq rfl (y_el (e := nSign) 0 (.agg (eSign y7_2).toArray) hy7_2 (s_arg h0)) ?_
      refine p 1 ?_
      obtain ⟨v7_5, hv7_5, h⟩ := H.call h
      refine xq rfl (y_call [.agg (eSign y7_2).toArray, .int .i64 n2] (.int .i64 v7_5) func15 (fun W S => C.l_szSign W hv7_5)) ?_
      refine p 1 ?_
      refine rend ?_
      refine c_seq ?_
      refine r_start ?_
      refine p 2 ?_
      refine rend ?_
      refine c_or (decide (v7_5 < 0)) (fun q7 => ?_) (fun q7 => ?_)
      · replace h := H.t q7 h
        refine c_seq ?_
        refine r_start ?_
        refine p 1 ?_
        refine rend ?_
        replace h := H.inr h
        replace h := H.done h
        subst h
        exact ret func22 rfl (vs := [.int .i64 (-1)]) (.tmp (by kernel_rfl) .nil) rfl (fun W S => ⟨rfl, S.below⟩)
      replace h := H.f q7 h
      refine c_skip ?_
      refine c_inb ?_
      refine r_start ?_
      refine p 3 ?_
      refine rend ?_
      replace h := H.inl h
      exact h (v7_5, (wr (n3 + 1))) _ _ rfl (by kernel_rfl) (by kernel_rfl)
    replace h := H.f q6 h
    refine cx ?_
    replace h := H.inr h
    exact hj5 n2 _ _ h (by kernel_rfl) (by kernel_rfl)
  intro n4 u h
  refine c_seq ?_
  refine r_start ?_
  refine p 2 ?_
  refine rend ?_
  replace h := H.done h
  subst h
  exact ret func22 rfl (vs := [.int .i64 n4]) (.tmp (by kernel_rfl) .nil) rfl (fun W S => ⟨rfl, S.below⟩)
theorem C.s_paList {fu : Nat} {a0 : (List Sign)} {A0 : Option Addr} {k0 : Nat} {r : Bool} (w : World) (h : X.s_paList fu a0 = some r) (h0 : RdT nSign w (.slice A0 (List.length a0) k0) a0) : Calls prog 82 #[.slice A0 (List.length a0) k0] w (Ret w (.bool r)) := by
  refine calls (M := no) (args := [.slice A0 (List.length a0) k0]) func82 rfl ?_
  replace h : H (X.s_paList fu a0) (fun o => o = r) := H.mk h
  unfold X.s_paList at h
  refine c_seq ?_
  refine r_start ?_
  refine p 1 ?_
  refine rend ?_
  refine c_seq ?_
  refine c_seq ?_
  refine r_start ?_
  refine p 3 ?_
  refine rend ?_
  refine c_block ?_
  refine joinE (X := Unit) 0 (H.or h) (fun (x : Unit) => x) (fun _ => []) (fun _ u => (.slice A0 (List.length a0) k0 :: (jk u 1 17 []))) (fun h hj1 => ?_) ?_
  · skip
    refine rangeR (X := Unit) (s_arg h0) (fun (x : Unit) => x) (fun _ => []) (fun (j2 : Nat) _ u => (.slice A0 (List.length a0) k0 :: (jk u 1 4 (.slice A0 (List.length a0) k0 :: .int .i64 (List.length a0 : Int) :: .int .i64 (j2 : Int) :: (jk u 8 10 []))))) () h (by kernel_rfl) (by kernel_rfl) ?_ ?_
    · intro j2 x u x3 q4 hg5 hw6 h
      refine c_seq ?_
      refine r_start ?_
      refine p 1 ?_
      refine rend ?_
      refine c_seq ?_
      refine c_yes q4 ?_
      refine c_skip ?_
      refine c_seq ?_
      refine c_block ?_
      refine c_seq ?_
      refine r_start ?_
      refine xq rfl (y_idx (e := nSign) (el := 46) hg5 (s_arg h0)) ?_
      refine xq rfl (y_el (e := nSign) 0 (.agg (eSign x3).toArray) hg5 (s_arg h0)) ?_
      refine xx rfl (x_new (eSign zSign) fun g3_2 => ?_)
      refine xx rfl (x_sto 0 g3_2 0 (eSign x3) ?_)
      refine rend ?_
      refine c_seq ?_
      refine r_start ?_
      refine xq rfl (y_load (.agg (eSign x3).toArray) 0 g3_2 0) ?_
      obtain ⟨v4_1, hv4_1, h⟩ := H.call h
      refine xq rfl (y_call [.agg (eSign x3).toArray] (.bool v4_1) func72 (fun W S => C.s_siGood W hv4_1)) ?_
      refine p 1 ?_
      refine rend ?_
      refine c_or (!v4_1) (fun q7 => ?_) (fun q7 => ?_)
      · replace h := H.t q7 h
        refine c_seq ?_
        refine r_start ?_
        refine p 1 ?_
        refine rend ?_
        replace h := H.inr h
        replace h := H.done h
        subst h
        exact ret func82 rfl (vs := [.bool false]) (.tmp (by kernel_rfl) .nil) rfl (fun W S => ⟨rfl, S.below⟩)
      replace h := H.f q7 h
      refine c_skip ?_
      refine c_inb ?_
      refine r_start ?_
      refine p 2 ?_
      refine rend ?_
      refine c_set 7 (ci hw6) ?_
      replace h := H.inl h
      exact h () _ _ rfl (by kernel_rfl) (by kernel_rfl)
    · intro x u q4 h
      refine c_seq ?_
      refine r_start ?_
      refine p 1 ?_
      refine rend ?_
      refine c_seq ?_
      refine c_no q4 ?_
      refine cx ?_
      replace h := H.done h
      exact hj1 () _ _ h (by kernel_rfl) (by kernel_rfl)
  intro x u h
  refine c_seq ?_
  refine r_start ?_
  refine p 4 ?_
  refine rend ?_
  replace h := H.done h
  subst h
  exact ret func82 rfl (vs := [.bool (decide ((List.length a0 : Int) ≤ 20))]) (.tmp (by kernel_rfl) .nil) rfl (fun W S => ⟨rfl, S.below⟩)
theorem C.s_paText {fu : Nat} {a0 : Sign} {r : Str} (w : World) (h : X.s_paText fu a0 = some r) : Calls prog 83 #[.agg (eSign a0).toArray] w (Ret w (.string (bs r))) := by
  refine calls (M := no) (args := [.agg (eSign a0).toArray]) func83 rfl ?_
  replace h : H (X.s_paText fu a0) (fun o => o = r) := H.mk h
  unfold X.s_paText at h
  refine c_seq ?_
  refine r_start ?_
  refine xx rfl (x_box (eSign a0) fun g0_0 => ?_)
  refine p 1 ?_
  refine rend ?_
  refine c_seq ?_
  refine c_seq ?_
  refine r_start ?_
  refine p 1 ?_
  refine xq rfl (y_load (.bool a0.Two) 0 g0_0 13) ?_
  refine rend ?_
  refine c_or a0.Two (fun q1 => ?_) (fun q1 => ?_)
  · replace h := H.t q1 h
    refine c_seq ?_
    refine as_start 9 9 ?_
    refine ap 0 1 ?_
    refine aq 1 rfl (y_load (.agg (eHand a0.Main).toArray) 0 g0_0 0) ?_
    obtain ⟨v2_2, hv2_2, h⟩ := H.call h
    refine aq 2 rfl (y_call [.agg (eHand a0.Main).toArray] (.string (bs v2_2)) func141 (fun W S => C.s_siText W hv2_2)) ?_
    obtain ⟨y2_3, hy2_3, h⟩ := H.call h
    refine aq 3 rfl (y_cat hy2_3) ?_
    refine ap 4 1 ?_
    refine aq 5 rfl (y_load (.agg (eHand a0.Other).toArray) 0 g0_0 14) ?_
    obtain ⟨v2_6, hv2_6, h⟩ := H.call h
    refine aq 6 rfl (y_call [.agg (eHand a0.Other).toArray] (.string (bs v2_6)) func141 (fun W S => C.s_siText W hv2_6)) ?_
    obtain ⟨y2_7, hy2_7, h⟩ := H.call h
    refine aq 7 rfl (y_cat hy2_7) ?_
    refine ap 8 1 ?_
    refine a_done ?_
    replace h := H.done h
    subst h
    exact ret func83 rfl (vs := [.string (bs y2_7)]) (.tmp (by kernel_rfl) .nil) rfl (fun W S => ⟨rfl, S.below⟩)
  replace h := H.f q1 h
  refine c_skip ?_
  refine c_seq ?_
  refine r_start ?_
  refine p 1 ?_
  refine xq rfl (y_load (.agg (eHand a0.Main).toArray) 0 g0_0 0) ?_
  obtain ⟨v3_2, hv3_2, h⟩ := H.call h
  refine xq rfl (y_call [.agg (eHand a0.Main).toArray] (.string (bs v3_2)) func141 (fun W S => C.s_siText W hv3_2)) ?_
  refine p 1 ?_
  refine rend ?_
  replace h := H.done h
  subst h
  exact ret func83 rfl (vs := [.string (bs v3_2)]) (.tmp (by kernel_rfl) .nil) rfl (fun W S => ⟨rfl, S.below⟩)
theorem C.l_toSignS {fu : Nat} {a0 : (List Sign)} {A0 : Option Addr} {k0 : Nat} {r : (List Sign)} (w : World) (h : X.l_toSignS fu a0 = some r) (h0 : RdT nSign w (.slice A0 (List.length a0) k0) a0) : Calls prog 24 #[.slice A0 (List.length a0) k0] w (RetR nSign 46 w r (fun v => v)) := by
  refine calls (M := no) (args := [.slice A0 (List.length a0) k0]) func24 rfl ?_
  replace h : H (X.l_toSignS fu a0) (fun o => o = r) := H.mk h
  unfold X.l_toSignS at h
  refine c_seq ?_
  refine r_start ?_
  refine p 1 ?_
  refine rend ?_
  refine c_seq ?_
  refine r_start ?_
  refine p 2 ?_
  obtain ⟨y1_2, hy1_2, h⟩ := H.call h
  refine xx rfl (e_make (el := 46) hy1_2 fun A1_2 k1_2 => ?_)
  refine p 1 ?_
  refine rend ?_
  refine c_seq ?_
  refine c_seq ?_
  refine r_start ?_
  refine p 1 ?_
  refine rend ?_
  refine c_block ?_
  refine joinH (X := ((List Sign) × Option Addr × Nat)) 0 (H.bnd h) (fun ⟨l5, A6, k7⟩ => l5) (fun ⟨l5, A6, k7⟩ => [rowT nSign w.heap.size 46 (.slice A6 (List.length l5) k7) l5]) (fun ⟨l5, A6, k7⟩ u => (jk u 0 3 (.slice A6 (List.length l5) k7 :: (jk u 4 19 [])))) (fun h hj8 => ?_) ?_
  · skip
    refine loopR (X := (Int × (List Sign) × Option Addr × Nat)) (fun ⟨n1, l2, A3, k4⟩ => (n1, l2)) (fun ⟨n1, l2, A3, k4⟩ => [rowT nSign w.heap.size 46 (.slice A3 (List.length l2) k4) l2]) (fun ⟨n1, l2, A3, k4⟩ u => (.slice A0 (List.length a0) k0 :: (jk u 1 2 (.slice A3 (List.length l2) k4 :: .int .i64 n1 :: (jk u 5 18 []))))) (0, y1_2, A1_2, k1_2) h (by kernel_rfl) (by kernel_rfl) ?_
    intro x u h
    obtain ⟨n1, l2, A3, k4⟩ := x
    refine c_seq ?_
    refine c_seq ?_
    refine r_start ?_
    refine p 4 ?_
    refine rend ?_
    refine c_or (decide (n1 < (List.length a0 : Int))) (fun q9 => ?_) (fun q9 => ?_)
    · replace h := H.t q9 h
      refine c_skip ?_
      refine c_seq ?_
      refine c_block ?_
      refine r_start ?_
      refine p 4 ?_
      obtain ⟨y5_4, hy5_4, h⟩ := H.call h
      refine xq rfl (y_idx (e := nSign) (el := 33) hy5_4 (s_arg h0)) ?_
      refine xq rfl (y_el (e := nSign) 0 (.agg (eSign y5_4).toArray) hy5_4 (s_arg h0)) ?_
      obtain ⟨v5_6, hv5_6, h⟩ := H.call h
      refine xq rfl (y_call [.agg (eSign y5_4).toArray] (.agg (eSign v5_6).toArray) func17 (fun W S => C.l_toSign W hv5_6)) ?_
      obtain ⟨y5_7, hy5_7, h⟩ := H.call h
      refine xq rfl (y_idx (e := nSign) (el := 46) hy5_7 (s_own 0)) ?_
      refine xx rfl (e_stel (e := nSign) (b := v5_6) 0 0 (eSign v5_6) hy5_7 (by kernel_rfl) ?_)
      refine o_set 3 (sl_set (A := A3) (c := k4) (l := l2) (n := Int.toNat n1) (b := v5_6)) ?_
      refine rend ?_
      refine c_inb ?_
      refine r_start ?_
      refine p 3 ?_
      refine rend ?_
      replace h := H.inl h
      exact h ((wr (n1 + 1)), (List.set l2 (Int.toNat n1) v5_6), A3, k4) _ _ rfl (by kernel_rfl) (by kernel_rfl)
    replace h := H.f q9 h
    refine cx ?_
    replace h := H.inr h
    exact hj8 (l2, A3, k4) _ _ h (by kernel_rfl) (by kernel_rfl)
  intro x u h
  obtain ⟨l5, A6, k7⟩ := x
  refine c_seq ?_
  refine r_start ?_
  refine p 2 ?_
  refine rend ?_
  replace h := H.done h
  subst h
  exact ret func24 rfl (vs := [.slice A6 (List.length l5) k7]) (.tmp (by kernel_rfl) .nil) rfl (fun W S => ⟨_, _, rfl, S.row 0, S.below⟩)
theorem C.slices_IndexFunc_i_Sign_i_Sign {a0 : (List Sign)} {A0 : Option Addr} {k0 : Nat} {a1 : (Sign → Option Bool)} {g1 : Nat} {cp1 : List Value} {r : Int} (w : World) (h : X.slices_IndexFunc_i_Sign_i_Sign a0 a1 = some r) (h0 : RdT nSign w (.slice A0 (List.length a0) k0) a0) (hg1 : isFn prog g1 = true) (hF1 : ∀ (x0 : Sign) (r : Bool) (W : World), Up w W → a1 x0 = some r → Calls prog g1 (([.agg (eSign x0).toArray] : List Value) ++ cp1).toArray W (Ret W (.bool r))) : Calls prog 136 #[.slice A0 (List.length a0) k0, .func (.func g1) #[] cp1.toArray] w (Ret w (.int .i64 r)) := by
  refine calls (M := no) (args := [.slice A0 (List.length a0) k0, .func (.func g1) #[] cp1.toArray]) func136 rfl ?_
  replace h : H (X.slices_IndexFunc_i_Sign_i_Sign a0 a1) (fun o => o = r) := H.mk h
  unfold X.slices_IndexFunc_i_Sign_i_Sign at h
  refine c_seq ?_
  refine r_start ?_
  refine p 1 ?_
  refine rend ?_
  refine c_seq ?_
  refine c_seq ?_
  refine r_start ?_
  refine p 3 ?_
  refine rend ?_
  refine c_block ?_
  refine joinE (X := Unit) 0 (H.or h) (fun (x : Unit) => x) (fun _ => []) (fun _ u => (jk u 0 19 [])) (fun h hj1 => ?_) ?_
  · skip
    refine rangeR (X := Unit) (s_arg h0) (fun (x : Unit) => x) (fun _ => []) (fun (j2 : Nat) _ u => (.slice A0 (List.length a0) k0 :: .func (.func g1) #[] cp1.toArray :: (jk u 2 5 (.int .i64 (List.length a0 : Int) :: .int .i64 (j2 : Int) :: (jk u 9 10 []))))) () h (by kernel_rfl) (by kernel_rfl) ?_ ?_
    · intro j2 x u x3 q4 hg5 hw6 h
      refine c_seq ?_
      refine r_start ?_
      refine p 1 ?_
      refine rend ?_
      refine c_seq ?_
      refine c_yes q4 ?_
      refine c_skip ?_
      refine c_seq ?_
      refine c_block ?_
      refine c_seq ?_
      refine r_start ?_
      refine p 2 ?_
      refine rend ?_
      refine c_seq ?_
      refine r_start ?_
      refine p 3 ?_
      refine xq rfl (y_idx (e := nSign) (el := 46) hg5 (s_arg h0)) ?_
      refine xq rfl (y_el (e := nSign) 0 (.agg (eSign x3).toArray) hg5 (s_arg h0)) ?_
      obtain ⟨v4_5, hv4_5, h⟩ := H.call h
      refine xq rfl (y_cf cp1 [.agg (eSign x3).toArray] (.bool v4_5) hg1 (fun W S => hF1 _ _ W S.below hv4_5)) ?_
      refine rend ?_
      refine c_or v4_5 (fun q7 => ?_) (fun q7 => ?_)
      · replace h := H.t q7 h
        refine c_seq ?_
        refine r_start ?_
        refine p 2 ?_
        refine rend ?_
        replace h := H.inr h
        replace h := H.done h
        subst h
        exact ret func136 rfl (vs := [.int .i64 (j2 : Int)]) (.tmp (by kernel_rfl) .nil) rfl (fun W S => ⟨rfl, S.below⟩)
      replace h := H.f q7 h
      refine c_skip ?_
      refine c_inb ?_
      refine r_start ?_
      refine p 2 ?_
      refine rend ?_
      refine c_set 8 (ci hw6) ?_
      replace h := H.inl h
      exact h () _ _ rfl (by kernel_rfl) (by kernel_rfl)
    · intro x u q4 h
      refine c_seq ?_
      refine r_start ?_
      refine p 1 ?_
      refine rend ?_
      refine c_seq ?_
      refine c_no q4 ?_
      refine cx ?_
      replace h := H.done h
      exact hj1 () _ _ h (by kernel_rfl) (by kernel_rfl)
  intro x u h
  refine c_seq ?_
  refine r_start ?_
  refine p 1 ?_
  refine rend ?_
  replace h := H.done h
  subst h
  exact ret func136 rfl (vs := [.int .i64 (-1)]) (.tmp (by kernel_rfl) .nil) rfl (fun W S => ⟨rfl, S.below⟩)
theorem C.slices_ContainsFunc_i_Sign_i_Sign {a0 : (List Sign)} {A0 : Option Addr} {k0 : Nat} {a1 : (Sign → Option Bool)} {g1 : Nat} {cp1 : List Value} {r : Bool} (w : World) (h : X.slices_ContainsFunc_i_Sign_i_Sign a0 a1 = some r) (h0 : RdT nSign w (.slice A0 (List.length a0) k0) a0) (hg1 : isFn prog g1 = true) (hF1 : ∀ (x0 : Sign) (r : Bool) (W : World), Up w W → a1 x0 = some r → Calls prog g1 (([.agg (eSign x0).toArray] : List Value) ++ cp1).toArray W (Ret W (.bool r))) : Calls prog 150 #[.slice A0 (List.length a0) k0, .func (.func g1) #[] cp1.toArray] w (Ret w (.bool r)) := by
  refine calls (M := no) (args := [.slice A0 (List.length a0) k0, .func (.func g1) #[] cp1.toArray]) func150 rfl ?_
  replace h : H (X.slices_ContainsFunc_i_Sign_i_Sign a0 a1) (fun o => o = r) := H.mk h
  unfold X.slices_ContainsFunc_i_Sign_i_Sign at h
  refine c_seq ?_
  refine r_start ?_
  refine p 1 ?_
  refine rend ?_
  refine c_seq ?_
  refine r_start ?_
  refine p 2 ?_
  obtain ⟨v1_2, hv1_2, h⟩ := H.call h
  refine xq rfl (y_call [.slice A0 (List.length a0) k0, .func (.func g1) #[] cp1.toArray] (.int .i64 v1_2) func136 (fun W S => C.slices_IndexFunc_i_Sign_i_Sign W hv1_2 ((s_arg h0).out W S) hg1 (fun x0_2 r W2 hu2 hx2 => hF1 x0_2 r W2 (Up.trans S.below hu2) hx2))) ?_
  refine p 2 ?_
  refine rend ?_
  replace h := H.done h
  subst h
  exact ret func150 rfl (vs := [.bool (decide (v1_2 ≥ 0))]) (.tmp (by kernel_rfl) .nil) rfl (fun W S => ⟨rfl, S.below⟩)
theorem C.i_allOf_i_Sign_1 {a0 : Sign} {a1 : (Sign → Option Bool)} {g1 : Nat} {cp1 : List Value} {p1 : Nat} {r : Bool} (w : World) (h : X.i_allOf_i_Sign_1 a1 a0 = some r) (hg1 : isFn prog g1 = true) (hF1 : ∀ (x0 : Sign) (r : Bool) (W : World), Up w W → a1 x0 = some r → Calls prog g1 (([.agg (eSign x0).toArray] : List Value) ++ cp1).toArray W (Ret W (.bool r))) (hp1 : w.heap[p1]? = some (.cells ([.func (.func g1) #[] cp1.toArray] : List Value).toArray 92 (0, 0))) : Calls prog 151 #[.agg (eSign a0).toArray, .pointer (some ⟨p1, 0, none⟩)] w (Ret w (.bool r)) := by
  refine calls (M := no) (args := [.agg (eSign a0).toArray, .pointer (some ⟨p1, 0, none⟩)]) func151 rfl ?_
  replace h : H (X.i_allOf_i_Sign_1 a1 a0) (fun o => o = r) := H.mk h
  unfold X.i_allOf_i_Sign_1 at h
  refine c_seq ?_
  refine r_start ?_
  refine xx rfl (x_box (eSign a0) fun g0_0 => ?_)
  refine p 1 ?_
  refine rend ?_
  refine c_seq ?_
  refine r_start ?_
  refine xq rfl (y_ld0 (.func (.func g1) #[] cp1.toArray) p1 0 hp1) ?_
  refine xq rfl (y_load (.agg (eSign a0).toArray) 0 g0_0 0) ?_
  obtain ⟨v1_2, hv1_2, h⟩ := H.call h
  refine xq rfl (y_cf cp1 [.agg (eSign a0).toArray] (.bool v1_2) hg1 (fun W S => hF1 _ _ W S.below hv1_2)) ?_
  refine p 2 ?_
  refine rend ?_
  replace h := H.done h
  subst h
  exact ret func151 rfl (vs := [.bool (!v1_2)]) (.tmp (by kernel_rfl) .nil) rfl (fun W S => ⟨rfl, S.below⟩)
theorem C.i_allOf_i_Sign {a0 : (List Sign)} {A0 : Option Addr} {k0 : Nat} {a1 : (Sign → Option Bool)} {g1 : Nat} {cp1 : List Value} {r : Bool} (w : World) (h : X.i_allOf_i_Sign a0 a1 = some r) (h0 : RdT nSign w (.slice A0 (List.length a0) k0) a0) (hg1 : isFn prog g1 = true) (hF1 : ∀ (x0 : Sign) (r : Bool) (W : World), Up w W → a1 x0 = some r → Calls prog g1 (([.agg (eSign x0).toArray] : List Value) ++ cp1).toArray W (Ret W (.bool r))) : Calls prog 84 #[.slice A0 (List.length a0) k0, .func (.func g1) #[] cp1.toArray] w (Ret w (.bool r)) := by
  refine calls (M := no) (args := [.slice A0 (List.length a0) k0, .func (.func g1) #[] cp1.toArray]) func84 rfl ?_
  replace h : H (X.i_allOf_i_Sign a0 a1) (fun o => o = r) := H.mk h
  unfold X.i_allOf_i_Sign at h
  refine c_seq ?_
  refine r_start ?_
  refine xx rfl (x_box [.func (.func g1) #[] cp1.toArray] fun g0_0 => ?_)
  refine p 1 ?_
  refine rend ?_
  refine c_seq ?_
  refine r_start ?_
  refine p 2 ?_
  obtain ⟨v1_2, hv1_2, h⟩ := H.call h
  refine xq rfl (y_call [.slice A0 (List.length a0) k0, .func (.func 151) #[] #[.pointer (some ⟨g0_0, 0, none⟩)]] (.bool v1_2) func150 (fun W S => C.slices_ContainsFunc_i_Sign_i_Sign W hv1_2 ((s_arg h0).out W S) (isFn_of func151) (fun x0_2 r W2 hu2 hx2 => C.i_allOf_i_Sign_1 W2 hx2 hg1 (fun x0_3 r W3 hu3 hx3 => hF1 x0_3 r W3 (Up.trans (Up.trans S.below hu2) hu3) hx3) (bx_up (S.bx 0) hu2)))) ?_
  refine p 2 ?_
  refine rend ?_
  replace h := H.done h
  subst h
  exact ret func84 rfl (vs := [.bool (!v1_2)]) (.tmp (by kernel_rfl) .nil) rfl (fun W S => ⟨rfl, S.below⟩)
theorem C.i_Sign_text {a0 : Sign} {r : Str} (w : World) (h : X.i_Sign_text a0 = some r) : Calls prog 86 #[.agg (eSign a0).toArray] w (Ret w (.string (bs r))) := by
  refine calls (M := no) (args := [.agg (eSign a0).toArray]) func86 rfl ?_
  replace h : H (X.i_Sign_text a0) (fun o => o = r) := H.mk h
  unfold X.i_Sign_text at h
  refine c_seq ?_
  refine r_start ?_
  refine xx rfl (x_box (eSign a0) fun g0_0 => ?_)
  refine p 1 ?_
  refine rend ?_
  refine c_seq ?_
  refine c_seq ?_
  refine r_start ?_
  refine p 1 ?_
  refine xq rfl (y_load (.bool a0.Two) 0 g0_0 13) ?_
  refine p 1 ?_
  refine rend ?_
  refine c_or (!a0.Two) (fun q1 => ?_) (fun q1 => ?_)
  · replace h := H.t q1 h
    refine c_seq ?_
    refine r_start ?_
    refine p 1 ?_
    refine xq rfl (y_load (.agg (eHand a0.Main).toArray) 0 g0_0 0) ?_
    obtain ⟨v2_2, hv2_2, h⟩ := H.call h
    refine xq rfl (y_call [.agg (eHand a0.Main).toArray] (.string (bs v2_2)) func153 (fun W S => C.i_Hand_text W hv2_2)) ?_
    refine p 1 ?_
    refine rend ?_
    replace h := H.done h
    subst h
    exact ret func86 rfl (vs := [.string (bs v2_2)]) (.tmp (by kernel_rfl) .nil) rfl (fun W S => ⟨rfl, S.below⟩)
  replace h := H.f q1 h
  refine c_skip ?_
  refine c_seq ?_
  refine as_start 9 9 ?_
  refine ap 0 1 ?_
  refine aq 1 rfl (y_load (.agg (eHand a0.Main).toArray) 0 g0_0 0) ?_
  obtain ⟨v3_2, hv3_2, h⟩ := H.call h
  refine aq 2 rfl (y_call [.agg (eHand a0.Main).toArray] (.string (bs v3_2)) func153 (fun W S => C.i_Hand_text W hv3_2)) ?_
  obtain ⟨y3_3, hy3_3, h⟩ := H.call h
  refine aq 3 rfl (y_cat hy3_3) ?_
  refine ap 4 1 ?_
  refine aq 5 rfl (y_load (.agg (eHand a0.Other).toArray) 0 g0_0 14) ?_
  obtain ⟨v3_6, hv3_6, h⟩ := H.call h
  refine aq 6 rfl (y_call [.agg (eHand a0.Other).toArray] (.string (bs v3_6)) func153 (fun W S => C.i_Hand_text W hv3_6)) ?_
  obtain ⟨y3_7, hy3_7, h⟩ := H.call h
  refine aq 7 rfl (y_cat hy3_7) ?_
  refine ap 8 1 ?_
  refine a_done ?_
  replace h := H.done h
  subst h
  exact ret func86 rfl (vs := [.string (bs y3_7)]) (.tmp (by kernel_rfl) .nil) rfl (fun W S => ⟨rfl, S.below⟩)
theorem C.l_eqShape {a0 : Shape} {a1 : Shape} {r : Bool} (w : World) (h : X.l_eqShape a0 a1 = some r) : Calls prog 172 #[.agg (eShape a0).toArray, .agg (eShape a1).toArray] w (Ret w (.bool r)) := by
  refine calls (M := no) (args := [.agg (eShape a0).toArray, .agg (eShape a1).toArray]) func172 rfl ?_
  replace h : H (X.l_eqShape a0 a1) (fun o => o = r) := H.mk h
  unfold X.l_eqShape at h
  refine c_seq ?_
  refine r_start ?_
  refine xx rfl (x_box (eShape a0) fun g0_0 => ?_)
  refine xx rfl (x_box (eShape a1) fun g0_1 => ?_)
  refine p 1 ?_
  refine rend ?_
  refine c_seq ?_
  refine c_seq ?_
  refine r_start ?_
  refine p 1 ?_
  refine xq rfl (y_load (.int .i64 a0.Thumb) 0 g0_0 0) ?_
  refine p 1 ?_
  refine xq rfl (y_load (.int .i64 a1.Thumb) 1 g0_1 0) ?_
  refine p 1 ?_
  refine rend ?_
  refine c_or (a0.Thumb != a1.Thumb) (fun q1 => ?_) (fun q1 => ?_)
  · replace h := H.t q1 h
    refine c_seq ?_
    refine r_start ?_
    refine p 1 ?_
    refine rend ?_
    replace h := H.done h
    subst h
    exact ret func172 rfl (vs := [.bool false]) (.tmp (by kernel_rfl) .nil) rfl (fun W S => ⟨rfl, S.below⟩)
  replace h := H.f q1 h
  refine c_skip ?_
  refine c_seq ?_
  refine c_seq ?_
  refine r_start ?_
  refine p 1 ?_
  refine xq rfl (y_load (.int .i64 a0.Index) 0 g0_0 1) ?_
  refine p 1 ?_
  refine xq rfl (y_load (.int .i64 a1.Index) 1 g0_1 1) ?_
  refine p 1 ?_
  refine rend ?_
  refine c_or (a0.Index != a1.Index) (fun q2 => ?_) (fun q2 => ?_)
  · replace h := H.t q2 h
    refine c_seq ?_
    refine r_start ?_
    refine p 1 ?_
    refine rend ?_
    replace h := H.done h
    subst h
    exact ret func172 rfl (vs := [.bool false]) (.tmp (by kernel_rfl) .nil) rfl (fun W S => ⟨rfl, S.below⟩)
  replace h := H.f q2 h
  refine c_skip ?_
  refine c_seq ?_
  refine c_seq ?_
  refine r_start ?_
  refine p 1 ?_
  refine xq rfl (y_load (.int .i64 a0.Middle) 0 g0_0 2) ?_
  refine p 1 ?_
  refine xq rfl (y_load (.int .i64 a1.Middle) 1 g0_1 2) ?_
  refine p 1 ?_
  refine rend ?_
  refine c_or (a0.Middle != a1.Middle) (fun q3 => ?_) (fun q3 => ?_)
  · replace h := H.t q3 h
    refine c_seq ?_
    refine r_start ?_
    refine p 1 ?_
    refine rend ?_
    replace h := H.done h
    subst h
    exact ret func172 rfl (vs := [.bool false]) (.tmp (by kernel_rfl) .nil) rfl (fun W S => ⟨rfl, S.below⟩)
  replace h := H.f q3 h
  refine c_skip ?_
  refine c_seq ?_
  refine c_seq ?_
  refine r_start ?_
  refine p 1 ?_
  refine xq rfl (y_load (.int .i64 a0.Ring) 0 g0_0 3) ?_
  refine p 1 ?_
  refine xq rfl (y_load (.int .i64 a1.Ring) 1 g0_1 3) ?_
  refine p 1 ?_
  refine rend ?_
  refine c_or (a0.Ring != a1.Ring) (fun q4 => ?_) (fun q4 => ?_)
  · replace h := H.t q4 h
    refine c_seq ?_
    refine r_start ?_
    refine p 1 ?_
    refine rend ?_
    replace h := H.done h
    subst h
    exact ret func172 rfl (vs := [.bool false]) (.tmp (by kernel_rfl) .nil) rfl (fun W S => ⟨rfl, S.below⟩)
  replace h := H.f q4 h
  refine c_skip ?_
  refine c_seq ?_
  refine c_seq ?_
  refine r_start ?_
  refine p 1 ?_
  refine xq rfl (y_load (.int .i64 a0.Little) 0 g0_0 4) ?_
  refine p 1 ?_
  refine xq rfl (y_load (.int .i64 a1.Little) 1 g0_1 4) ?_
  refine p 1 ?_
  refine rend ?_
  refine c_or (a0.Little != a1.Little) (fun q5 => ?_) (fun q5 => ?_)
  · replace h := H.t q5 h
    refine c_seq ?_
    refine r_start ?_
    refine p 1 ?_
    refine rend ?_
    replace h := H.done h
    subst h
    exact ret func172 rfl (vs := [.bool false]) (.tmp (by kernel_rfl) .nil) rfl (fun W S => ⟨rfl, S.below⟩)
  replace h := H.f q5 h
  refine c_skip ?_
  refine c_seq ?_
  refine c_seq ?_
  refine r_start ?_
  refine p 1 ?_
  refine xq rfl (y_load (.bool a0.Spread) 0 g0_0 5) ?_
  refine p 1 ?_
  refine xq rfl (y_load (.bool a1.Spread) 1 g0_1 5) ?_
  refine p 1 ?_
  refine rend ?_
  refine c_or (!(a0.Spread == a1.Spread)) (fun q6 => ?_) (fun q6 => ?_)
  · replace h := H.t q6 h
    refine c_seq ?_
    refine r_start ?_
    refine p 1 ?_
    refine rend ?_
    replace h := H.done h
    subst h
    exact ret func172 rfl (vs := [.bool false]) (.tmp (by kernel_rfl) .nil) rfl (fun W S => ⟨rfl, S.below⟩)
  replace h := H.f q6 h
  refine c_skip ?_
  refine c_seq ?_
  refine r_start ?_
  refine p 1 ?_
  refine rend ?_
  replace h := H.done h
  subst h
  exact ret func172 rfl (vs := [.bool true]) (.tmp (by kernel_rfl) .nil) rfl (fun W S => ⟨rfl, S.below⟩)
theorem C.l_eqOrient {a0 : Orient} {a1 : Orient} {r : Bool} (w : World) (h : X.l_eqOrient a0 a1 = some r) : Calls prog 173 #[.agg (eOrient a0).toArray, .agg (eOrient a1).toArray] w (Ret w (.bool r)) := by
  refine calls (M := no) (args := [.agg (eOrient a0).toArray, .agg (eOrient a1).toArray]) func173 rfl ?_
  replace h : H (X.l_eqOrient a0 a1) (fun o => o = r) := H.mk h
  unfold X.l_eqOrient at h
  refine c_seq ?_
  refine r_start ?_
  refine xx rfl (x_box (eOrient a0) fun g0_0 => ?_)
  refine xx rfl (x_box (eOrient a1) fun g0_1 => ?_)
  refine p 1 ?_
  refine rend ?_
  refine c_seq ?_
  refine c_seq ?_
  refine r_start ?_
  refine p 1 ?_
  refine xq rfl (y_load (.int .i64 a0.Palm) 0 g0_0 0) ?_
  refine p 1 ?_
  refine xq rfl (y_load (.int .i64 a1.Palm) 1 g0_1 0) ?_
  refine p 1 ?_
  refine rend ?_
  refine c_or (a0.Palm != a1.Palm) (fun q1 => ?_) (fun q1 => ?_)
  · replace h := H.t q1 h
    refine c_seq ?_
    refine r_start ?_
    refine p 1 ?_
    refine rend ?_
    replace h := H.done h
    subst h
    exact ret func173 rfl (vs := [.bool false]) (.tmp (by kernel_rfl) .nil) rfl (fun W S => ⟨rfl, S.below⟩)
  replace h := H.f q1 h
  refine c_skip ?_
  refine c_seq ?_
  refine c_seq ?_
  refine r_start ?_
  refine p 1 ?_
  refine xq rfl (y_load (.int .i64 a0.Fingers) 0 g0_0 1) ?_
  refine p 1 ?_
  refine xq rfl (y_load (.int .i64 a1.Fingers) 1 g0_1 1) ?_
  refine p 1 ?_
  refine rend ?_
  refine c_or (a0.Fingers != a1.Fingers) (fun q2 => ?_) (fun q2 => ?_)
  · replace h := H.t q2 h
    refine c_seq ?_
    refine r_start ?_
    refine p 1 ?_
    refine rend ?_
    replace h := H.done h
    subst h
    exact ret func173 rfl (vs := [.bool false]) (.tmp (by kernel_rfl) .nil) rfl (fun W S => ⟨rfl, S.below⟩)
  replace h := H.f q2 h
  refine c_skip ?_
  refine c_seq ?_
  refine r_start ?_
  refine p 1 ?_
  refine rend ?_
  replace h := H.done h
  subst h
  exact ret func173 rfl (vs := [.bool true]) (.tmp (by kernel_rfl) .nil) rfl (fun W S => ⟨rfl, S.below⟩)
theorem C.l_eqPlace {a0 : Place} {a1 : Place} {r : Bool} (w : World) (h : X.l_eqPlace a0 a1 = some r) : Calls prog 174 #[.agg (ePlace a0).toArray, .agg (ePlace a1).toArray] w (Ret w (.bool r)) := by
  refine calls (M := no) (args := [.agg (ePlace a0).toArray, .agg (ePlace a1).toArray]) func174 rfl ?_
  replace h : H (X.l_eqPlace a0 a1) (fun o => o = r) := H.mk h
  unfold X.l_eqPlace at h
  refine c_seq ?_
  refine r_start ?_
  refine xx rfl (x_box (ePlace a0) fun g0_0 => ?_)
  refine xx rfl (x_box (ePlace a1) fun g0_1 => ?_)
  refine p 1 ?_
  refine rend ?_
  refine c_seq ?_
  refine c_seq ?_
  refine r_start ?_
  refine p 1 ?_
  refine xq rfl (y_load (.int .i64 a0.Region) 0 g0_0 0) ?_
  refine p 1 ?_
  refine xq rfl (y_load (.int .i64 a1.Region) 1 g0_1 0) ?_
  refine p 1 ?_
  refine rend ?_
  refine c_or (a0.Region != a1.Region) (fun q1 => ?_) (fun q1 => ?_)
  · replace h := H.t q1 h
    refine c_seq ?_
    refine r_start ?_
    refine p 1 ?_
    refine rend ?_
    replace h := H.done h
    subst h
    exact ret func174 rfl (vs := [.bool false]) (.tmp (by kernel_rfl) .nil) rfl (fun W S => ⟨rfl, S.below⟩)
  replace h := H.f q1 h
  refine c_skip ?_
  refine c_seq ?_
  refine c_seq ?_
  refine r_start ?_
  refine p 1 ?_
  refine xq rfl (y_load (.int .i64 a0.Side) 0 g0_0 1) ?_
  refine p 1 ?_
  refine xq rfl (y_load (.int .i64 a1.Side) 1 g0_1 1) ?_
  refine p 1 ?_
  refine rend ?_
  refine c_or (a0.Side != a1.Side) (fun q2 => ?_) (fun q2 => ?_)
  · replace h := H.t q2 h
    refine c_seq ?_
    refine r_start ?_
    refine p 1 ?_
    refine rend ?_
    replace h := H.done h
    subst h
    exact ret func174 rfl (vs := [.bool false]) (.tmp (by kernel_rfl) .nil) rfl (fun W S => ⟨rfl, S.below⟩)
  replace h := H.f q2 h
  refine c_skip ?_
  refine c_seq ?_
  refine c_seq ?_
  refine r_start ?_
  refine p 1 ?_
  refine xq rfl (y_load (.bool a0.Contact) 0 g0_0 2) ?_
  refine p 1 ?_
  refine xq rfl (y_load (.bool a1.Contact) 1 g0_1 2) ?_
  refine p 1 ?_
  refine rend ?_
  refine c_or (!(a0.Contact == a1.Contact)) (fun q3 => ?_) (fun q3 => ?_)
  · replace h := H.t q3 h
    refine c_seq ?_
    refine r_start ?_
    refine p 1 ?_
    refine rend ?_
    replace h := H.done h
    subst h
    exact ret func174 rfl (vs := [.bool false]) (.tmp (by kernel_rfl) .nil) rfl (fun W S => ⟨rfl, S.below⟩)
  replace h := H.f q3 h
  refine c_skip ?_
  refine c_seq ?_
  refine r_start ?_
  refine p 1 ?_
  refine rend ?_
  replace h := H.done h
  subst h
  exact ret func174 rfl (vs := [.bool true]) (.tmp (by kernel_rfl) .nil) rfl (fun W S => ⟨rfl, S.below⟩)
theorem C.l_eqMove {a0 : Move} {a1 : Move} {r : Bool} (w : World) (h : X.l_eqMove a0 a1 = some r) : Calls prog 175 #[.agg (eMove a0).toArray, .agg (eMove a1).toArray] w (Ret w (.bool r)) := by
  refine calls (M := no) (args := [.agg (eMove a0).toArray, .agg (eMove a1).toArray]) func175 rfl ?_
  replace h : H (X.l_eqMove a0 a1) (fun o => o = r) := H.mk h
  unfold X.l_eqMove at h
  refine c_seq ?_
  refine r_start ?_
  refine xx rfl (x_box (eMove a0) fun g0_0 => ?_)
  refine xx rfl (x_box (eMove a1) fun g0_1 => ?_)
  refine p 1 ?_
  refine rend ?_
  refine c_seq ?_
  refine c_seq ?_
  refine r_start ?_
  refine p 1 ?_
  refine xq rfl (y_load (.string (bs a0.Steps)) 0 g0_0 0) ?_
  refine p 1 ?_
  refine xq rfl (y_load (.string (bs a1.Steps)) 1 g0_1 0) ?_
  refine p 1 ?_
  refine rend ?_
  refine c_or (!seq a0.Steps a1.Steps) (fun q1 => ?_) (fun q1 => ?_)
  · replace h := H.t q1 h
    refine c_seq ?_
    refine r_start ?_
    refine p 1 ?_
    refine rend ?_
    replace h := H.done h
    subst h
    exact ret func175 rfl (vs := [.bool false]) (.tmp (by kernel_rfl) .nil) rfl (fun W S => ⟨rfl, S.below⟩)
  replace h := H.f q1 h
  refine c_skip ?_
  refine c_seq ?_
  refine c_seq ?_
  refine r_start ?_
  refine p 1 ?_
  refine xq rfl (y_load (.int .i64 a0.Repeat) 0 g0_0 1) ?_
  refine p 1 ?_
  refine xq rfl (y_load (.int .i64 a1.Repeat) 1 g0_1 1) ?_
  refine p 1 ?_
  refine rend ?_
  refine c_or (a0.Repeat != a1.Repeat) (fun q2 => ?_) (fun q2 => ?_)
  · replace h := H.t q2 h
    refine c_seq ?_
    refine r_start ?_
    refine p 1 ?_
    refine rend ?_
    replace h := H.done h
    subst h
    exact ret func175 rfl (vs := [.bool false]) (.tmp (by kernel_rfl) .nil) rfl (fun W S => ⟨rfl, S.below⟩)
  replace h := H.f q2 h
  refine c_skip ?_
  refine c_seq ?_
  refine r_start ?_
  refine p 1 ?_
  refine rend ?_
  replace h := H.done h
  subst h
  exact ret func175 rfl (vs := [.bool true]) (.tmp (by kernel_rfl) .nil) rfl (fun W S => ⟨rfl, S.below⟩)
theorem C.l_eqHand {a0 : Hand} {a1 : Hand} {r : Bool} (w : World) (h : X.l_eqHand a0 a1 = some r) : Calls prog 115 #[.agg (eHand a0).toArray, .agg (eHand a1).toArray] w (Ret w (.bool r)) := by
  refine calls (M := no) (args := [.agg (eHand a0).toArray, .agg (eHand a1).toArray]) func115 rfl ?_
  replace h : H (X.l_eqHand a0 a1) (fun o => o = r) := H.mk h
  unfold X.l_eqHand at h
  refine c_seq ?_
  refine r_start ?_
  refine xx rfl (x_box (eHand a0) fun g0_0 => ?_)
  refine xx rfl (x_box (eHand a1) fun g0_1 => ?_)
  refine p 1 ?_
  refine rend ?_
  refine c_seq ?_
  refine c_seq ?_
  refine r_start ?_
  refine p 1 ?_
  refine xq rfl (y_load (.agg (eShape a0.Shape).toArray) 0 g0_0 0) ?_
  refine p 1 ?_
  refine xq rfl (y_load (.agg (eShape a1.Shape).toArray) 1 g0_1 0) ?_
  obtain ⟨v1_4, hv1_4, h⟩ := H.call h
  refine xq rfl (y_call [.agg (eShape a0.Shape).toArray, .agg (eShape a1.Shape).toArray] (.bool v1_4) func172 (fun W S => C.l_eqShape W hv1_4)) ?_
  refine p 1 ?_
  refine rend ?_
  refine c_or (!v1_4) (fun q1 => ?_) (fun q1 => ?_)
  · replace h := H.t q1 h
    refine c_seq ?_
    refine r_start ?_
    refine p 1 ?_
    refine rend ?_
    replace h := H.done h
    subst h
    exact ret func115 rfl (vs := [.bool false]) (.tmp (by kernel_rfl) .nil) rfl (fun W S => ⟨rfl, S.below⟩)
  replace h := H.f q1 h
  refine c_skip ?_
  refine c_seq ?_
  refine c_seq ?_
  refine r_start ?_
  refine p 1 ?_
  refine xq rfl (y_load (.agg (eOrient a0.Orient).toArray) 0 g0_0 6) ?_
  refine p 1 ?_
  refine xq rfl (y_load (.agg (eOrient a1.Orient).toArray) 1 g0_1 6) ?_
  obtain ⟨v3_4, hv3_4, h⟩ := H.call h
  refine xq rfl (y_call [.agg (eOrient a0.Orient).toArray, .agg (eOrient a1.Orient).toArray] (.bool v3_4) func173 (fun W S => C.l_eqOrient W hv3_4)) ?_
  refine p 1 ?_
  refine rend ?_
  refine c_or (!v3_4) (fun q2 => ?_) (fun q2 => ?_)
  · replace h := H.t q2 h
    refine c_seq ?_
    refine r_start ?_
    refine p 1 ?_
    refine rend ?_
    replace h := H.done h
    subst h
    exact ret func115 rfl (vs := [.bool false]) (.tmp (by kernel_rfl) .nil) rfl (fun W S => ⟨rfl, S.below⟩)
  replace h := H.f q2 h
  refine c_skip ?_
  refine c_seq ?_
  refine c_seq ?_
  refine r_start ?_
  refine p 1 ?_
  refine xq rfl (y_load (.agg (ePlace a0.Place).toArray) 0 g0_0 8) ?_
  refine p 1 ?_
  refine xq rfl (y_load (.agg (ePlace a1.Place).toArray) 1 g0_1 8) ?_
  obtain ⟨v5_4, hv5_4, h⟩ := H.call h
  refine xq rfl (y_call [.agg (ePlace a0.Place).toArray, .agg (ePlace a1.Place).toArray] (.bool v5_4) func174 (fun W S => C.l_eqPlace W hv5_4)) ?_
  refine p 1 ?_
  refine rend ?_
  refine c_or (!v5_4) (fun q3 => ?_) (fun q3 => ?_)
  · replace h := H.t q3 h
    refine c_seq ?_
    refine r_start ?_
    refine p 1 ?_
    refine rend ?_
    replace h := H.done h
    subst h
    exact ret func115 rfl (vs := [.bool false]) (.tmp (by kernel_rfl) .nil) rfl (fun W S => ⟨rfl, S.below⟩)
  replace h := H.f q3 h
  refine c_skip ?_
  refine c_seq ?_
  refine c_seq ?_
  refine r_start ?_
  refine p 1 ?_
  refine xq rfl (y_load (.agg (eMove a0.Move).toArray) 0 g0_0 11) ?_
  refine p 1 ?_
  refine xq rfl (y_load (.agg (eMove a1.Move).toArray) 1 g0_1 11) ?_
  obtain ⟨v7_4, hv7_4, h⟩ := H.call h
  refine xq rfl (y_call [.agg (eMove a0.Move).toArray, .agg (eMove a1.Move).toArray] (.bool v7_4) func175 (fun W S => C.l_eqMove W hv7_4)) ?_
  refine p 1 ?_
  refine rend ?_
  refine c_or (!v7_4) (fun q4 => ?_) (fun q4 => ?_)
  · replace h := H.t q4 h
    refine c_seq ?_
    refine r_start ?_
    refine p 1 ?_
    refine rend ?_
    replace h := H.done h
    subst h
    exact ret func115 rfl (vs := [.bool false]) (.tmp (by kernel_rfl) .nil) rfl (fun W S => ⟨rfl, S.below⟩)
  replace h := H.f q4 h
  refine c_skip ?_
  refine c_seq ?_
  refine r_start ?_
  refine p 1 ?_
  refine rend ?_
  replace h := H.done h
  subst h
  exact ret func115 rfl (vs := [.bool true]) (.tmp (by kernel_rfl) .nil) rfl (fun W S => ⟨rfl, S.below⟩)
theorem C.l_eqSign {a0 : Sign} {a1 : Sign} {r : Bool} (w : World) (h : X.l_eqSign a0 a1 = some r) : Calls prog 49 #[.agg (eSign a0).toArray, .agg (eSign a1).toArray] w (Ret w (.bool r)) := by
  refine calls (M := no) (args := [.agg (eSign a0).toArray, .agg (eSign a1).toArray]) func49 rfl ?_
  replace h : H (X.l_eqSign a0 a1) (fun o => o = r) := H.mk h
  unfold X.l_eqSign at h
  refine c_seq ?_
  refine r_start ?_
  refine xx rfl (x_box (eSign a0) fun g0_0 => ?_)
  refine xx rfl (x_box (eSign a1) fun g0_1 => ?_)
  refine p 1 ?_
  refine rend ?_
  refine c_seq ?_
  refine c_seq ?_
  refine r_start ?_
  refine p 1 ?_
  refine xq rfl (y_load (.agg (eHand a0.Main).toArray) 0 g0_0 0) ?_
  refine p 1 ?_
  refine xq rfl (y_load (.agg (eHand a1.Main).toArray) 1 g0_1 0) ?_
  obtain ⟨v1_4, hv1_4, h⟩ := H.call h
  refine xq rfl (y_call [.agg (eHand a0.Main).toArray, .agg (eHand a1.Main).toArray] (.bool v1_4) func115 (fun W S => C.l_eqHand W hv1_4)) ?_
  refine p 1 ?_
  refine rend ?_
  refine c_or (!v1_4) (fun q1 => ?_) (fun q1 => ?_)
  · replace h := H.t q1 h
    refine c_seq ?_
    refine r_start ?_
    refine p 1 ?_
    refine rend ?_
    replace h := H.done h
    subst h
    exact ret func49 rfl (vs := [.bool false]) (.tmp (by kernel_rfl) .nil) rfl (fun W S => ⟨rfl, S.below⟩)
  replace h := H.f q1 h
  refine c_skip ?_
  refine c_seq ?_
  refine c_seq ?_
  refine r_start ?_
  refine p 1 ?_
  refine xq rfl (y_load (.bool a0.Two) 0 g0_0 13) ?_
  refine p 1 ?_
  refine xq rfl (y_load (.bool a1.Two) 1 g0_1 13) ?_
  refine p 1 ?_
  refine rend ?_
  refine c_or (!(a0.Two == a1.Two)) (fun q2 => ?_) (fun q2 => ?_)
  · replace h := H.t q2 h
    refine c_seq ?_
    refine r_start ?_
    refine p 1 ?_
    refine rend ?_
    replace h := H.done h
    subst h
    exact ret func49 rfl (vs := [.bool false]) (.tmp (by kernel_rfl) .nil) rfl (fun W S => ⟨rfl, S.below⟩)
  replace h := H.f q2 h
  refine c_skip ?_
  refine c_seq ?_
  refine c_seq ?_
  refine r_start ?_
  refine p 1 ?_
  refine xq rfl (y_load (.agg (eHand a0.Other).toArray) 0 g0_0 14) ?_
  refine p 1 ?_
  refine xq rfl (y_load (.agg (eHand a1.Other).toArray) 1 g0_1 14) ?_
  obtain ⟨v5_4, hv5_4, h⟩ := H.call h
  refine xq rfl (y_call [.agg (eHand a0.Other).toArray, .agg (eHand a1.Other).toArray] (.bool v5_4) func115 (fun W S => C.l_eqHand W hv5_4)) ?_
  refine p 1 ?_
  refine rend ?_
  refine c_or (!v5_4) (fun q3 => ?_) (fun q3 => ?_)
  · replace h := H.t q3 h
    refine c_seq ?_
    refine r_start ?_
    refine p 1 ?_
    refine rend ?_
    replace h := H.done h
    subst h
    exact ret func49 rfl (vs := [.bool false]) (.tmp (by kernel_rfl) .nil) rfl (fun W S => ⟨rfl, S.below⟩)
  replace h := H.f q3 h
  refine c_skip ?_
  refine c_seq ?_
  refine r_start ?_
  refine p 1 ?_
  refine rend ?_
  replace h := H.done h
  subst h
  exact ret func49 rfl (vs := [.bool true]) (.tmp (by kernel_rfl) .nil) rfl (fun W S => ⟨rfl, S.below⟩)
theorem C.l_eqSignS {fu : Nat} {a0 : (List Sign)} {A0 : Option Addr} {k0 : Nat} {a1 : (List Sign)} {A1 : Option Addr} {k1 : Nat} {r : Bool} (w : World) (h : X.l_eqSignS fu a0 a1 = some r) (h0 : RdT nSign w (.slice A0 (List.length a0) k0) a0) (h1 : RdT nSign w (.slice A1 (List.length a1) k1) a1) : Calls prog 26 #[.slice A0 (List.length a0) k0, .slice A1 (List.length a1) k1] w (Ret w (.bool r)) := by
  refine calls (M := no) (args := [.slice A0 (List.length a0) k0, .slice A1 (List.length a1) k1]) func26 rfl ?_
  replace h : H (X.l_eqSignS fu a0 a1) (fun o => o = r) := H.mk h
  unfold X.l_eqSignS at h
  refine c_seq ?_
  refine r_start ?_
  refine p 1 ?_
  refine rend ?_
  refine c_seq ?_
  refine c_seq ?_
  refine r_start ?_
  refine p 5 ?_
  refine rend ?_
  refine c_or ((List.length a0 : Int) != (List.length a1 : Int)) (fun q1 => ?_) (fun q1 => ?_)
  · replace h := H.t q1 h
    refine c_seq ?_
    refine r_start ?_
    refine p 1 ?_
    refine rend ?_
    replace h := H.done h
    subst h
    exact ret func26 rfl (vs := [.bool false]) (.tmp (by kernel_rfl) .nil) rfl (fun W S => ⟨rfl, S.below⟩)
  replace h := H.f q1 h
  refine c_skip ?_
  refine c_seq ?_
  refine c_seq ?_
  refine r_start ?_
  refine p 1 ?_
  refine rend ?_
  refine c_block ?_
  refine joinE (X := Unit) 0 (H.or h) (fun (x : Unit) => x) (fun _ => []) (fun _ u => (jk u 0 27 [])) (fun h hj3 => ?_) ?_
  · skip
    refine loopR (X := Int) (fun (x : Int) => x) (fun n2 => []) (fun n2 u => (.slice A0 (List.length a0) k0 :: .slice A1 (List.length a1) k1 :: (jk u 2 3 (.int .i64 n2 :: (jk u 6 21 []))))) 0 h (by kernel_rfl) (by kernel_rfl) ?_
    intro n2 u h
    refine c_seq ?_
    refine c_seq ?_
    refine r_start ?_
    refine p 4 ?_
    refine rend ?_
    refine c_or (decide (n2 < (List.length a0 : Int))) (fun q4 => ?_) (fun q4 => ?_)
    · replace h := H.t q4 h
      refine c_skip ?_
      refine c_seq ?_
      refine c_block ?_
      refine c_seq ?_
      refine as_start 10 10 ?_
      refine ap 0 2 ?_
      obtain ⟨y6_2, hy6_2, h⟩ := H.call h
      refine aq 2 rfl (y_idx (e := nSign) (el := 46) hy6_2 (s_arg h0)) ?_
      refine aq 3 rfl (y_el (e := nSign) 0 (.agg (eSign y6_2).toArray) hy6_2 (s_arg h0)) ?_
      refine ap 4 2 ?_
      obtain ⟨y6_6, hy6_6, h⟩ := H.call h
      refine aq 6 rfl (y_idx (e := nSign) (el := 46) hy6_6 (s_arg h1)) ?_
      refine aq 7 rfl (y_el (e := nSign) 0 (.agg (eSign y6_6).toArray) hy6_6 (s_arg h1)) ?_
      obtain ⟨v6_8, hv6_8, h⟩ := H.call h
      refine aq 8 rfl (y_call [.agg (eSign y6_2).toArray, .agg (eSign y6_6).toArray] (.bool v6_8) func49 (fun W S => C.l_eqSign W hv6_8)) ?_
      refine ap 9 1 ?_
      refine a_done ?_
      refine c_or (!v6_8) (fun q5 => ?_) (fun q5 => ?_)
      · replace h := H.t q5 h
        refine c_seq ?_
        refine r_start ?_
        refine p 1 ?_
        refine rend ?_
        replace h := H.inr h
        replace h := H.done h
        subst h
        exact ret func26 rfl (vs := [.bool false]) (.tmp (by kernel_rfl) .nil) rfl (fun W S => ⟨rfl, S.below⟩)
      replace h := H.f q5 h
      refine c_skip ?_
      refine c_inb ?_
      refine r_start ?_
      refine p 3 ?_
      refine rend ?_
      replace h := H.inl h
      exact h (wr (n2 + 1)) _ _ rfl (by kernel_rfl) (by kernel_rfl)
    replace h := H.f q4 h
    refine cx ?_
    replace h := H.inr h
    exact hj3 () _ _ h (by kernel_rfl) (by kernel_rfl)
  intro x u h
  refine c_seq ?_
  refine r_start ?_
  refine p 1 ?_
  refine rend ?_
  replace h := H.done h
  subst h
  exact ret func26 rfl (vs := [.bool true]) (.tmp (by kernel_rfl) .nil) rfl (fun W S => ⟨rfl, S.below⟩)
theorem C.s_siCompare {fu : Nat} {a0 : Hand} {a1 : Hand} {r : Int} (w : World) (h : X.s_siCompare fu a0 a1 = some r) : Calls prog 154 #[.agg (eHand a0).toArray, .agg (eHand a1).toArray] w (Ret w (.int .i64 r)) := by
  refine calls (M := no) (args := [.agg (eHand a0).toArray, .agg (eHand a1).toArray]) func154 rfl ?_
  replace h : H (X.s_siCompare fu a0 a1) (fun o => o = r) := H.mk h
  unfold X.s_siCompare at h
  refine c_seq ?_
  refine r_start ?_
  refine xx rfl (x_box (eHand a0) fun g0_0 => ?_)
  refine xx rfl (x_box (eHand a1) fun g0_1 => ?_)
  refine p 1 ?_
  refine rend ?_
  refine c_seq ?_
  refine c_seq ?_
  refine as_start 6 6 ?_
  refine aq 0 rfl (y_load (.agg (eHand a0).toArray) 0 g0_0 0) ?_
  obtain ⟨v1_1, hv1_1, h⟩ := H.call h
  refine aq 1 rfl (y_call [.agg (eHand a0).toArray] (.string (bs v1_1)) func141 (fun W S => C.s_siText W hv1_1)) ?_
  refine aq 2 rfl (y_load (.agg (eHand a1).toArray) 1 g0_1 0) ?_
  obtain ⟨v1_3, hv1_3, h⟩ := H.call h
  refine aq 3 rfl (y_call [.agg (eHand a1).toArray] (.string (bs v1_3)) func141 (fun W S => C.s_siText W hv1_3)) ?_
  refine ap 4 2 ?_
  refine a_done ?_
  refine c_block ?_
  refine c_seq ?_
  refine r_start ?_
  refine p 4 ?_
  refine rend ?_
  refine c_or (slt v1_1 v1_3) (fun q1 => ?_) (fun q1 => ?_)
  · replace h := H.t q1 h
    refine c_seq ?_
    refine r_start ?_
    refine p 1 ?_
    refine rend ?_
    replace h := H.done h
    subst h
    exact ret func154 rfl (vs := [.int .i64 (-1)]) (.tmp (by kernel_rfl) .nil) rfl (fun W S => ⟨rfl, S.below⟩)
  replace h := H.f q1 h
  refine c_seq ?_
  refine r_start ?_
  refine p 4 ?_
  refine rend ?_
  refine c_or (!(slt v1_1 v1_3 || seq v1_1 v1_3)) (fun q2 => ?_) (fun q2 => ?_)
  · replace h := H.t q2 h
    refine c_seq ?_
    refine r_start ?_
    refine p 1 ?_
    refine rend ?_
    replace h := H.done h
    subst h
    exact ret func154 rfl (vs := [.int .i64 1]) (.tmp (by kernel_rfl) .nil) rfl (fun W S => ⟨rfl, S.below⟩)
  replace h := H.f q2 h
  refine c_skip ?_
  refine c_inb ?_
  refine c_seq ?_
  refine r_start ?_
  refine p 1 ?_
  refine rend ?_
  replace h := H.done h
  subst h
  exact ret func154 rfl (vs := [.int .i64 0]) (.tmp (by kernel_rfl) .nil) rfl (fun W S => ⟨rfl, S.below⟩)
theorem C.s_noCompare {fu : Nat} {a0 : Sign} {a1 : Sign} {r : Int} (w : World) (h : X.s_noCompare fu a0 a1 = some r) : Calls prog 88 #[.agg (eSign a0).toArray, .agg (eSign a1).toArray] w (Ret w (.int .i64 r)) := by
  refine calls (M := no) (args := [.agg (eSign a0).toArray, .agg (eSign a1).toArray]) func88 rfl ?_
  replace h : H (X.s_noCompare fu a0 a1) (fun o => o = r) := H.mk h
  unfold X.s_noCompare at h
  refine c_seq ?_
  refine r_start ?_
  refine xx rfl (x_box (eSign a0) fun g0_0 => ?_)
  refine xx rfl (x_box (eSign a1) fun g0_1 => ?_)
  refine p 1 ?_
  refine rend ?_
  refine c_seq ?_
  refine joinT (X := (Sign × Sign × Nat × Nat)) (H.bnd h) (fun ⟨s1, s2, g1_4, g1_5⟩ => (s1, s2)) (fun ⟨s1, s2, g1_4, g1_5⟩ => [box g0_0 46 (eSign a0), box g0_1 46 (eSign a1), box g1_4 46 (eSign s1), box g1_5 46 (eSign s2)]) (fun ⟨s1, s2, g1_4, g1_5⟩ u => (jk u 0 5 (.pointer (some ⟨g1_4, 0, none⟩) :: .pointer (some ⟨g1_5, 0, none⟩) :: (jk u 7 35 [])))) (fun h hj3 => ?_) ?_
  · skip
    refine as_start 6 8 ?_
    refine aq 0 rfl (y_load (.agg (eSign a0).toArray) 0 g0_0 0) ?_
    obtain ⟨v1_1, hv1_1, h⟩ := H.call h
    refine aq 1 rfl (y_call [.agg (eSign a0).toArray] (.agg (eSign v1_1).toArray) func73 (fun W S => C.s_noForm W hv1_1)) ?_
    refine aq 2 rfl (y_load (.agg (eSign a1).toArray) 1 g0_1 0) ?_
    obtain ⟨v1_3, hv1_3, h⟩ := H.call h
    refine aq 3 rfl (y_call [.agg (eSign a1).toArray] (.agg (eSign v1_3).toArray) func73 (fun W S => C.s_noForm W hv1_3)) ?_
    refine a_two 4 5 rfl rfl ?_ ?_
    · skip
      refine (x_new (eSign zSign) fun g1_4 => ⟨.inr (by kernel_rfl), ?_⟩)
      refine ax 5 rfl (x_new (eSign zSign) fun g1_5 => ⟨.inr (by kernel_rfl), ?_⟩)
      refine ax 6 rfl (x_sto 2 g1_4 0 (eSign v1_1) ⟨.inl (by kernel_rfl), ?_⟩)
      refine ax 7 rfl (x_sto 3 g1_5 0 (eSign v1_3) ⟨.inl (by kernel_rfl), ?_⟩)
      refine a_done ?_
      replace h := H.done h
      exact hj3 (v1_1, v1_3, g1_4, g1_5) _ _ h (by kernel_rfl) (by kernel_rfl)
    refine (x_new (eSign zSign) fun g1_5 => ⟨.inr (by kernel_rfl), ?_⟩)
    refine ax 4 rfl (x_new (eSign zSign) fun g1_4 => ⟨.inr (by kernel_rfl), ?_⟩)
    refine ax 6 rfl (x_sto 3 g1_4 0 (eSign v1_1) ⟨.inl (by kernel_rfl), ?_⟩)
    refine ax 7 rfl (x_sto 2 g1_5 0 (eSign v1_3) ⟨.inl (by kernel_rfl), ?_⟩)
    refine a_done ?_
    refine swp [box g0_0 46 (eSign a0), box g0_1 46 (eSign a1)] (box g1_5 46 (eSign v1_3)) (box g1_4 46 (eSign v1_1)) ?_
    replace h := H.done h
    exact hj3 (v1_1, v1_3, g1_4, g1_5) _ _ h (by kernel_rfl) (by kernel_rfl)
  intro x u h
  obtain ⟨s1, s2, g1_4, g1_5⟩ := x
  refine c_seq ?_
  refine c_seq ?_
  refine r_start ?_
  refine p 1 ?_
  refine xq rfl (y_load (.agg (eHand s1.Main).toArray) 2 g1_4 0) ?_
  refine p 1 ?_
  refine xq rfl (y_load (.agg (eHand s2.Main).toArray) 3 g1_5 0) ?_
  obtain ⟨v2_4, hv2_4, h⟩ := H.call h
  refine xq rfl (y_call [.agg (eHand s1.Main).toArray, .agg (eHand s2.Main).toArray] (.int .i64 v2_4) func154 (fun W S => C.s_siCompare W hv2_4)) ?_
  refine p 1 ?_
  refine rend ?_
  refine c_seq ?_
  refine r_start ?_
  refine p 2 ?_
  refine rend ?_
  refine c_or (v2_4 != 0) (fun q4 => ?_) (fun q4 => ?_)
  · replace h := H.t q4 h
    refine c_seq ?_
    refine r_start ?_
    refine p 2 ?_
    refine rend ?_
    replace h := H.done h
    subst h
    exact ret func88 rfl (vs := [.int .i64 v2_4]) (.tmp (by kernel_rfl) .nil) rfl (fun W S => ⟨rfl, S.below⟩)
  replace h := H.f q4 h
  refine c_skip ?_
  refine c_seq ?_
  refine c_block ?_
  refine c_seq ?_
  refine r_start ?_
  refine p 1 ?_
  refine xq rfl (y_load (.bool s1.Two) 2 g1_4 13) ?_
  refine p 2 ?_
  refine br (!s1.Two) (fun q5 => ?_) (fun q5 => ?_)
  · replace h := H.t q5 h
    refine o_set 24 (congrArg Value.bool q5) ?_
    refine p 1 ?_
    refine xq rfl (y_load (.bool s2.Two) 3 g1_5 13) ?_
    refine p 3 ?_
    refine rend ?_
    refine c_or (!s2.Two) (fun q6 => ?_) (fun q6 => ?_)
    · replace h := H.t q6 h
      refine c_seq ?_
      refine r_start ?_
      refine p 1 ?_
      refine rend ?_
      replace h := H.done h
      subst h
      exact ret func88 rfl (vs := [.int .i64 0]) (.tmp (by kernel_rfl) .nil) rfl (fun W S => ⟨rfl, S.below⟩)
    replace h := H.f q6 h
    refine c_seq ?_
    refine r_start ?_
    refine p 1 ?_
    refine xq rfl (y_load (.bool s1.Two) 2 g1_4 13) ?_
    refine p 2 ?_
    refine rend ?_
    refine c_yes q5 ?_
    refine c_seq ?_
    refine r_start ?_
    refine p 1 ?_
    refine rend ?_
    replace h := H.done h
    subst h
    exact ret func88 rfl (vs := [.int .i64 (-1)]) (.tmp (by kernel_rfl) .nil) rfl (fun W S => ⟨rfl, S.below⟩)
  replace h := H.f q5 h
  refine o_set 24 (congrArg Value.bool q5) ?_
  refine p 5 ?_
  refine rend ?_
  refine c_f (by kernel_rfl) ?_
  refine c_seq ?_
  refine r_start ?_
  refine p 1 ?_
  refine xq rfl (y_load (.bool s1.Two) 2 g1_4 13) ?_
  refine p 2 ?_
  refine rend ?_
  refine c_no q5 ?_
  refine c_seq ?_
  refine r_start ?_
  refine p 1 ?_
  refine xq rfl (y_load (.bool s2.Two) 3 g1_5 13) ?_
  refine p 2 ?_
  refine rend ?_
  refine c_or (!s2.Two) (fun q7 => ?_) (fun q7 => ?_)
  · replace h := H.t q7 h
    refine c_seq ?_
    refine r_start ?_
    refine p 1 ?_
    refine rend ?_
    replace h := H.done h
    subst h
    exact ret func88 rfl (vs := [.int .i64 1]) (.tmp (by kernel_rfl) .nil) rfl (fun W S => ⟨rfl, S.below⟩)
  replace h := H.f q7 h
  refine c_skip ?_
  refine c_inb ?_
  refine c_seq ?_
  refine r_start ?_
  refine p 1 ?_
  refine xq rfl (y_load (.agg (eHand s1.Other).toArray) 2 g1_4 14) ?_
  refine p 1 ?_
  refine xq rfl (y_load (.agg (eHand s2.Other).toArray) 3 g1_5 14) ?_
  obtain ⟨v11_4, hv11_4, h⟩ := H.call h
  refine xq rfl (y_call [.agg (eHand s1.Other).toArray, .agg (eHand s2.Other).toArray] (.int .i64 v11_4) func154 (fun W S => C.s_siCompare W hv11_4)) ?_
  refine p 1 ?_
  refine rend ?_
  replace h := H.done h
  subst h
  exact ret func88 rfl (vs := [.int .i64 v11_4]) (.tmp (by kernel_rfl) .nil) rfl (fun W S => ⟨rfl, S.below⟩)
theorem C.strings_Compare {a0 a1 : Str} {r : Int} (w : World) (h : X.strings_Compare a0 a1 = some r) : Calls prog 155 #[.string (bs a0), .string (bs a1)] w (Ret w (.int .i64 r)) := by
  obtain rfl := Option.some.inj h
  refine (Tryz.strings_Compare (bs a0) (bs a1) w).mono ?_
  rintro e w' ⟨rfl, rfl⟩
  exact ⟨rfl, Below.refl _ _⟩
theorem C.cmp_Or_int {a0 : (List Int)} {A0 : Option Addr} {k0 : Nat} {r : Int} (w : World) (h : X.cmp_Or_int a0 = some r) (h0 : RdT (eI .i64) w (.slice A0 (List.length a0) k0) a0) : Calls prog 156 #[.slice A0 (List.length a0) k0] w (Ret w (.int .i64 r)) := by
  refine calls (M := no) (args := [.slice A0 (List.length a0) k0]) func156 rfl ?_
  replace h : H (X.cmp_Or_int a0) (fun o => o = r) := H.mk h
  unfold X.cmp_Or_int at h
  refine c_seq ?_
  refine r_start ?_
  refine p 1 ?_
  refine rend ?_
  refine c_seq ?_
  refine r_start ?_
  refine p 1 ?_
  refine rend ?_
  refine c_seq ?_
  refine c_seq ?_
  refine r_start ?_
  refine p 3 ?_
  refine rend ?_
  refine c_block ?_
  refine joinE (X := Unit) 0 (H.or h) (fun (x : Unit) => x) (fun _ => []) (fun _ u => (jk u 0 3 (.int .i64 0 :: (jk u 4 14 [])))) (fun h hj1 => ?_) ?_
  · skip
    refine rangeR (X := Unit) (s_arg h0) (fun (x : Unit) => x) (fun _ => []) (fun (j2 : Nat) _ u => (jk u 0 3 (.int .i64 0 :: (jk u 4 2 (.slice A0 (List.length a0) k0 :: .int .i64 (List.length a0 : Int) :: .int .i64 (j2 : Int) :: (jk u 9 9 [])))))) () h (by kernel_rfl) (by kernel_rfl) ?_ ?_
    · intro j2 x u x3 q4 hg5 hw6 h
      refine c_seq ?_
      refine r_start ?_
      refine p 1 ?_
      refine rend ?_
      refine c_seq ?_
      refine c_yes q4 ?_
      refine c_skip ?_
      refine c_seq ?_
      refine c_block ?_
      refine c_seq ?_
      refine r_start ?_
      refine xq rfl (y_idx (e := (eI .i64)) (el := 3) hg5 (s_arg h0)) ?_
      refine xq rfl (y_el (e := (eI .i64)) 0 (.int .i64 x3) hg5 (s_arg h0)) ?_
      refine p 1 ?_
      refine rend ?_
      refine c_seq ?_
      refine r_start ?_
      refine p 3 ?_
      refine rend ?_
      refine c_or (x3 != 0) (fun q7 => ?_) (fun q7 => ?_)
      · replace h := H.t q7 h
        refine c_seq ?_
        refine r_start ?_
        refine p 2 ?_
        refine rend ?_
        replace h := H.inr h
        replace h := H.done h
        subst h
        exact ret func156 rfl (vs := [.int .i64 x3]) (.tmp (by kernel_rfl) .nil) rfl (fun W S => ⟨rfl, S.below⟩)
      replace h := H.f q7 h
      refine c_skip ?_
      refine c_inb ?_
      refine r_start ?_
      refine p 2 ?_
      refine rend ?_
      refine c_set 8 (ci hw6) ?_
      replace h := H.inl h
      exact h () _ _ rfl (by kernel_rfl) (by kernel_rfl)
    · intro x u q4 h
      refine c_seq ?_
      refine r_start ?_
      refine p 1 ?_
      refine rend ?_
      refine c_seq ?_
      refine c_no q4 ?_
      refine cx ?_
      replace h := H.done h
      exact hj1 () _ _ h (by kernel_rfl) (by kernel_rfl)
  intro x u h
  refine c_seq ?_
  refine r_start ?_
  refine p 2 ?_
  refine rend ?_
  replace h := H.done h
  subst h
  exact ret func156 rfl (vs := [.int .i64 0]) (.tmp (by kernel_rfl) .nil) rfl (fun W S => ⟨rfl, S.below⟩)
theorem C.i_compareSigns {a0 : Sign} {a1 : Sign} {r : Int} (w : World) (h : X.i_compareSigns a0 a1 = some r) : Calls prog 89 #[.agg (eSign a0).toArray, .agg (eSign a1).toArray] w (Ret w (.int .i64 r)) := by
  refine calls (M := no) (args := [.agg (eSign a0).toArray, .agg (eSign a1).toArray]) func89 rfl ?_
  replace h : H (X.i_compareSigns a0 a1) (fun o => o = r) := H.mk h
  unfold X.i_compareSigns at h
  refine c_seq ?_
  refine r_start ?_
  refine xx rfl (x_box (eSign a0) fun g0_0 => ?_)
  refine xx rfl (x_box (eSign a1) fun g0_1 => ?_)
  refine p 1 ?_
  refine rend ?_
  refine c_seq ?_
  refine c_seq ?_
  refine r_start ?_
  refine p 1 ?_
  refine xq rfl (y_load (.bool a0.Two) 0 g0_0 13) ?_
  refine p 1 ?_
  refine xq rfl (y_load (.bool a1.Two) 1 g0_1 13) ?_
  refine p 2 ?_
  refine br (!(a0.Two == a1.Two)) (fun q1 => ?_) (fun q1 => ?_)
  · replace h := H.t q1 h
    refine o_set 11 (congrArg Value.bool q1) ?_
    refine p 4 ?_
    refine rend ?_
    refine c_t (by kernel_rfl) ?_
    refine c_seq ?_
    refine as_start 8 8 ?_
    refine ap 0 1 ?_
    refine aq 1 rfl (y_load (.agg (eHand a0.Main).toArray) 0 g0_0 0) ?_
    obtain ⟨v2_2, hv2_2, h⟩ := H.call h
    refine aq 2 rfl (y_call [.agg (eHand a0.Main).toArray] (.string (bs v2_2)) func153 (fun W S => C.i_Hand_text W hv2_2)) ?_
    refine ap 3 1 ?_
    refine aq 4 rfl (y_load (.agg (eHand a1.Main).toArray) 1 g0_1 0) ?_
    obtain ⟨v2_5, hv2_5, h⟩ := H.call h
    refine aq 5 rfl (y_call [.agg (eHand a1.Main).toArray] (.string (bs v2_5)) func153 (fun W S => C.i_Hand_text W hv2_5)) ?_
    obtain ⟨v2_6, hv2_6, h⟩ := H.call h
    refine aq 6 rfl (y_call [.string (bs v2_2), .string (bs v2_5)] (.int .i64 v2_6) func155 (fun W S => C.strings_Compare W hv2_6)) ?_
    refine ap 7 1 ?_
    refine a_done ?_
    refine c_seq ?_
    refine c_block ?_
    refine c_seq ?_
    refine r_start ?_
    refine p 3 ?_
    refine br (v2_6 != 0) (fun q2 => ?_) (fun q2 => ?_)
    · replace h := H.t q2 h
      refine o_set 26 (congrArg Value.bool q2) ?_
      refine p 7 ?_
      refine rend ?_
      refine c_t (by kernel_rfl) ?_
      refine c_seq ?_
      refine r_start ?_
      refine p 2 ?_
      refine rend ?_
      replace h := H.done h
      subst h
      exact ret func89 rfl (vs := [.int .i64 v2_6]) (.tmp (by kernel_rfl) .nil) rfl (fun W S => ⟨rfl, S.below⟩)
    replace h := H.f q2 h
    refine o_set 26 (congrArg Value.bool q2) ?_
    refine p 1 ?_
    refine xq rfl (y_load (.bool a0.Two) 0 g0_0 13) ?_
    refine p 1 ?_
    refine xq rfl (y_load (.bool a1.Two) 1 g0_1 13) ?_
    refine p 3 ?_
    refine rend ?_
    refine c_or (a0.Two == a1.Two) (fun q3 => ?_) (fun q3 => ?_)
    · replace h := H.t q3 h
      refine c_seq ?_
      refine r_start ?_
      refine p 2 ?_
      refine rend ?_
      replace h := H.done h
      subst h
      exact ret func89 rfl (vs := [.int .i64 v2_6]) (.tmp (by kernel_rfl) .nil) rfl (fun W S => ⟨rfl, S.below⟩)
    replace h := H.f q3 h
    refine c_seq ?_
    refine r_start ?_
    refine p 1 ?_
    refine xq rfl (y_load (.bool a0.Two) 0 g0_0 13) ?_
    refine p 1 ?_
    refine rend ?_
    refine c_or a0.Two (fun q4 => ?_) (fun q4 => ?_)
    · replace h := H.t q4 h
      refine c_seq ?_
      refine r_start ?_
      refine p 1 ?_
      refine rend ?_
      replace h := H.done h
      subst h
      exact ret func89 rfl (vs := [.int .i64 1]) (.tmp (by kernel_rfl) .nil) rfl (fun W S => ⟨rfl, S.below⟩)
    replace h := H.f q4 h
    refine c_skip ?_
    refine c_inb ?_
    refine c_seq ?_
    refine r_start ?_
    refine p 1 ?_
    refine rend ?_
    replace h := H.done h
    subst h
    exact ret func89 rfl (vs := [.int .i64 (-1)]) (.tmp (by kernel_rfl) .nil) rfl (fun W S => ⟨rfl, S.below⟩)
  replace h := H.f q1 h
  refine o_set 11 (congrArg Value.bool q1) ?_
  refine p 1 ?_
  refine xq rfl (y_load (.bool a0.Two) 0 g0_0 13) ?_
  refine p 2 ?_
  refine rend ?_
  refine c_or (!a0.Two) (fun q5 => ?_) (fun q5 => ?_)
  · replace h := H.t q5 h
    refine c_seq ?_
    refine as_start 8 8 ?_
    refine ap 0 1 ?_
    refine aq 1 rfl (y_load (.agg (eHand a0.Main).toArray) 0 g0_0 0) ?_
    obtain ⟨v2_2, hv2_2, h⟩ := H.call h
    refine aq 2 rfl (y_call [.agg (eHand a0.Main).toArray] (.string (bs v2_2)) func153 (fun W S => C.i_Hand_text W hv2_2)) ?_
    refine ap 3 1 ?_
    refine aq 4 rfl (y_load (.agg (eHand a1.Main).toArray) 1 g0_1 0) ?_
    obtain ⟨v2_5, hv2_5, h⟩ := H.call h
    refine aq 5 rfl (y_call [.agg (eHand a1.Main).toArray] (.string (bs v2_5)) func153 (fun W S => C.i_Hand_text W hv2_5)) ?_
    obtain ⟨v2_6, hv2_6, h⟩ := H.call h
    refine aq 6 rfl (y_call [.string (bs v2_2), .string (bs v2_5)] (.int .i64 v2_6) func155 (fun W S => C.strings_Compare W hv2_6)) ?_
    refine ap 7 1 ?_
    refine a_done ?_
    refine c_seq ?_
    refine c_block ?_
    refine c_seq ?_
    refine r_start ?_
    refine p 3 ?_
    refine br (v2_6 != 0) (fun q6 => ?_) (fun q6 => ?_)
    · replace h := H.t q6 h
      refine o_set 26 (congrArg Value.bool q6) ?_
      refine p 7 ?_
      refine rend ?_
      refine c_t (by kernel_rfl) ?_
      refine c_seq ?_
      refine r_start ?_
      refine p 2 ?_
      refine rend ?_
      replace h := H.done h
      subst h
      exact ret func89 rfl (vs := [.int .i64 v2_6]) (.tmp (by kernel_rfl) .nil) rfl (fun W S => ⟨rfl, S.below⟩)
    replace h := H.f q6 h
    refine o_set 26 (congrArg Value.bool q6) ?_
    refine p 1 ?_
    refine xq rfl (y_load (.bool a0.Two) 0 g0_0 13) ?_
    refine p 1 ?_
    refine xq rfl (y_load (.bool a1.Two) 1 g0_1 13) ?_
    refine p 3 ?_
    refine rend ?_
    refine c_or (a0.Two == a1.Two) (fun q7 => ?_) (fun q7 => ?_)
    · replace h := H.t q7 h
      refine c_seq ?_
      refine r_start ?_
      refine p 2 ?_
      refine rend ?_
      replace h := H.done h
      subst h
      exact ret func89 rfl (vs := [.int .i64 v2_6]) (.tmp (by kernel_rfl) .nil) rfl (fun W S => ⟨rfl, S.below⟩)
    replace h := H.f q7 h
    refine c_seq ?_
    refine r_start ?_
    refine p 1 ?_
    refine xq rfl (y_load (.bool a0.Two) 0 g0_0 13) ?_
    refine p 1 ?_
    refine rend ?_
    refine c_or a0.Two (fun q8 => ?_) (fun q8 => ?_)
    · replace h := H.t q8 h
      refine c_seq ?_
      refine r_start ?_
      refine p 1 ?_
      refine rend ?_
      replace h := H.done h
      subst h
      exact ret func89 rfl (vs := [.int .i64 1]) (.tmp (by kernel_rfl) .nil) rfl (fun W S => ⟨rfl, S.below⟩)
    replace h := H.f q8 h
    refine c_skip ?_
    refine c_inb ?_
    refine c_seq ?_
    refine r_start ?_
    refine p 1 ?_
    refine rend ?_
    replace h := H.done h
    subst h
    exact ret func89 rfl (vs := [.int .i64 (-1)]) (.tmp (by kernel_rfl) .nil) rfl (fun W S => ⟨rfl, S.below⟩)
  replace h := H.f q5 h
  refine c_skip ?_
  refine c_seq ?_
  refine as_start 17 17 ?_
  refine ap 0 1 ?_
  refine aq 1 rfl (y_load (.agg (eHand a0.Main).toArray) 0 g0_0 0) ?_
  obtain ⟨v8_2, hv8_2, h⟩ := H.call h
  refine aq 2 rfl (y_call [.agg (eHand a0.Main).toArray] (.string (bs v8_2)) func153 (fun W S => C.i_Hand_text W hv8_2)) ?_
  refine ap 3 1 ?_
  refine aq 4 rfl (y_load (.agg (eHand a1.Main).toArray) 1 g0_1 0) ?_
  obtain ⟨v8_5, hv8_5, h⟩ := H.call h
  refine aq 5 rfl (y_call [.agg (eHand a1.Main).toArray] (.string (bs v8_5)) func153 (fun W S => C.i_Hand_text W hv8_5)) ?_
  obtain ⟨v8_6, hv8_6, h⟩ := H.call h
  refine aq 6 rfl (y_call [.string (bs v8_2), .string (bs v8_5)] (.int .i64 v8_6) func155 (fun W S => C.strings_Compare W hv8_6)) ?_
  refine ap 7 1 ?_
  refine aq 8 rfl (y_load (.agg (eHand a0.Other).toArray) 0 g0_0 14) ?_
  obtain ⟨v8_9, hv8_9, h⟩ := H.call h
  refine aq 9 rfl (y_call [.agg (eHand a0.Other).toArray] (.string (bs v8_9)) func153 (fun W S => C.i_Hand_text W hv8_9)) ?_
  refine ap 10 1 ?_
  refine aq 11 rfl (y_load (.agg (eHand a1.Other).toArray) 1 g0_1 14) ?_
  obtain ⟨v8_12, hv8_12, h⟩ := H.call h
  refine aq 12 rfl (y_call [.agg (eHand a1.Other).toArray] (.string (bs v8_12)) func153 (fun W S => C.i_Hand_text W hv8_12)) ?_
  obtain ⟨v8_13, hv8_13, h⟩ := H.call h
  refine aq 13 rfl (y_call [.string (bs v8_9), .string (bs v8_12)] (.int .i64 v8_13) func155 (fun W S => C.strings_Compare W hv8_13)) ?_
  refine ax 14 rfl (e_lit (e := (eI .i64)) (el := 3) [.int .i64 v8_6, .int .i64 v8_13] ([v8_6, v8_13] : List Int) fun A8_14 k8_14 => ⟨.inr (by kernel_rfl), ?_⟩)
  obtain ⟨v8_15, hv8_15, h⟩ := H.call h
  refine ax 15 rfl (e_y (y_call [.slice A8_14 (List.length ([v8_6, v8_13] : List Int)) k8_14] (.int .i64 v8_15) func156 (fun W S => C.cmp_Or_int W hv8_15 ((s_own 2).out W S))) ⟨.inr (by kernel_rfl), ?_⟩)
  refine ap 16 1 ?_
  refine a_done ?_
  replace h := H.done h
  subst h
  exact ret func89 rfl (vs := [.int .i64 v8_15]) (.tmp (by kernel_rfl) .nil) rfl (fun W S => ⟨rfl, S.below⟩)
theorem C.s_cmGood {fu : Nat} {a0 : (List Sign)} {A0 : Option Addr} {k0 : Nat} {r : Bool} (w : World) (h : X.s_cmGood fu a0 = some r) (h0 : RdT nSign w (.slice A0 (List.length a0) k0) a0) : Calls prog 91 #[.slice A0 (List.length a0) k0] w (Ret w (.bool r)) := by
  refine calls (M := no) (args := [.slice A0 (List.length a0) k0]) func91 rfl ?_
  replace h : H (X.s_cmGood fu a0) (fun o => o = r) := H.mk h
  unfold X.s_cmGood at h
  refine c_seq ?_
  refine r_start ?_
  refine p 1 ?_
  refine rend ?_
  refine c_seq ?_
  refine r_start ?_
  refine p 2 ?_
  obtain ⟨v1_2, hv1_2, h⟩ := H.call h
  refine xq rfl (y_call [.int .i64 (List.length a0 : Int), .int .i64 2, .int .i64 4] (.bool v1_2) func158 (fun W S => C.s_l1In W hv1_2)) ?_
  refine p 1 ?_
  refine br v1_2 (fun q1 => ?_) (fun q1 => ?_)
  · replace h := H.t q1 h
    refine o_set 6 (congrArg Value.bool q1) ?_
    refine p 1 ?_
    obtain ⟨v1_5, hv1_5, h⟩ := H.call h
    refine xq rfl (y_call [.slice A0 (List.length a0) k0] (.bool v1_5) func82 (fun W S => C.s_paList W hv1_5 ((s_arg h0).out W S))) ?_
    refine p 2 ?_
    refine rend ?_
    replace h := H.done h
    subst h
    exact ret func91 rfl (vs := [.bool v1_5]) (.tmp (by kernel_rfl) .nil) rfl (fun W S => ⟨rfl, S.below⟩)
  replace h := H.f q1 h
  refine o_set 6 (congrArg Value.bool q1) ?_
  refine p 4 ?_
  refine rend ?_
  replace h := H.done h
  subst h
  exact ret func91 rfl (vs := [.bool false]) (.tmp (by kernel_rfl) .nil) rfl (fun W S => ⟨rfl, S.below⟩)
theorem C.i_areSigns {fu : Nat} {a0 : (List Sign)} {A0 : Option Addr} {k0 : Nat} {a1 : Int} {r : Bool} (w : World) (h : X.i_areSigns fu a0 a1 = some r) (h0 : RdT nSign w (.slice A0 (List.length a0) k0) a0) : Calls prog 106 #[.slice A0 (List.length a0) k0, .int .i64 a1] w (Ret w (.bool r)) := by
  refine calls (M := no) (args := [.slice A0 (List.length a0) k0, .int .i64 a1]) func106 rfl ?_
  replace h : H (X.i_areSigns fu a0 a1) (fun o => o = r) := H.mk h
  unfold X.i_areSigns at h
  refine c_seq ?_
  refine r_start ?_
  refine p 1 ?_
  refine rend ?_
  refine c_seq ?_
  refine r_start ?_
  refine p 5 ?_
  refine br (decide ((List.length a0 : Int) ≤ a1)) (fun q1 => ?_) (fun q1 => ?_)
  · replace h := H.t q1 h
    refine o_set 9 (congrArg Value.bool q1) ?_
    refine p 1 ?_
    obtain ⟨v1_6, hv1_6, h⟩ := H.call h
    refine xq rfl (y_call [.slice A0 (List.length a0) k0, .func (.func 61) #[] #[]] (.bool v1_6) func84 (fun W S => C.i_allOf_i_Sign W hv1_6 ((s_arg h0).out W S) (isFn_of func61) (fun x0_2 r W2 hu2 hx2 => C.i_IsSign W2 hx2))) ?_
    refine p 2 ?_
    refine rend ?_
    replace h := H.done h
    subst h
    exact ret func106 rfl (vs := [.bool v1_6]) (.tmp (by kernel_rfl) .nil) rfl (fun W S => ⟨rfl, S.below⟩)
  replace h := H.f q1 h
  refine o_set 9 (congrArg Value.bool q1) ?_
  refine p 4 ?_
  refine rend ?_
  replace h := H.done h
  subst h
  exact ret func106 rfl (vs := [.bool false]) (.tmp (by kernel_rfl) .nil) rfl (fun W S => ⟨rfl, S.below⟩)
theorem C.i_isMade {fu : Nat} {a0 : (List Sign)} {A0 : Option Addr} {k0 : Nat} {r : Bool} (w : World) (h : X.i_isMade fu a0 = some r) (h0 : RdT nSign w (.slice A0 (List.length a0) k0) a0) : Calls prog 92 #[.slice A0 (List.length a0) k0] w (Ret w (.bool r)) := by
  refine calls (M := no) (args := [.slice A0 (List.length a0) k0]) func92 rfl ?_
  replace h : H (X.i_isMade fu a0) (fun o => o = r) := H.mk h
  unfold X.i_isMade at h
  refine c_seq ?_
  refine r_start ?_
  refine p 1 ?_
  refine rend ?_
  refine c_seq ?_
  refine r_start ?_
  refine p 4 ?_
  refine br (decide ((List.length a0 : Int) ≥ 2)) (fun q1 => ?_) (fun q1 => ?_)
  · replace h := H.t q1 h
    refine o_set 6 (congrArg Value.bool q1) ?_
    refine p 1 ?_
    obtain ⟨v1_5, hv1_5, h⟩ := H.call h
    refine xq rfl (y_call [.slice A0 (List.length a0) k0, .int .i64 4] (.bool v1_5) func106 (fun W S => C.i_areSigns W hv1_5 ((s_arg h0).out W S))) ?_
    refine p 2 ?_
    refine rend ?_
    replace h := H.done h
    subst h
    exact ret func92 rfl (vs := [.bool v1_5]) (.tmp (by kernel_rfl) .nil) rfl (fun W S => ⟨rfl, S.below⟩)
  replace h := H.f q1 h
  refine o_set 6 (congrArg Value.bool q1) ?_
  refine p 4 ?_
  refine rend ?_
  replace h := H.done h
  subst h
  exact ret func92 rfl (vs := [.bool false]) (.tmp (by kernel_rfl) .nil) rfl (fun W S => ⟨rfl, S.below⟩)
theorem C.l_szEntry {a0 : Entry} {a1 : Int} {r : Int} (w : World) (h : X.l_szEntry a0 a1 = some r) : Calls prog 94 #[.agg (eEntry a0).toArray, .int .i64 a1] w (Ret w (.int .i64 r)) := by
  refine calls (M := no) (args := [.agg (eEntry a0).toArray, .int .i64 a1]) func94 rfl ?_
  replace h : H (X.l_szEntry a0 a1) (fun o => o = r) := H.mk h
  unfold X.l_szEntry at h
  refine c_seq ?_
  refine r_start ?_
  refine xx rfl (x_box (eEntry a0) fun g0_0 => ?_)
  refine p 1 ?_
  refine rend ?_
  refine c_seq ?_
  refine r_start ?_
  refine p 2 ?_
  refine xq rfl (y_load (.string (bs a0.Gloss)) 0 g0_0 0) ?_
  refine p 3 ?_
  refine rend ?_
  refine c_seq ?_
  refine c_seq ?_
  refine r_start ?_
  refine p 2 ?_
  refine rend ?_
  refine c_or (decide ((wr (a1 - (List.length a0.Gloss : Int))) < 0)) (fun q1 => ?_) (fun q1 => ?_)
  · replace h := H.t q1 h
    refine c_seq ?_
    refine r_start ?_
    refine p 1 ?_
    refine rend ?_
    replace h := H.done h
    subst h
    exact ret func94 rfl (vs := [.int .i64 (-1)]) (.tmp (by kernel_rfl) .nil) rfl (fun W S => ⟨rfl, S.below⟩)
  replace h := H.f q1 h
  refine c_skip ?_
  refine c_seq ?_
  refine r_start ?_
  refine p 1 ?_
  refine xq rfl (y_load (.agg (eSign a0.Sign).toArray) 0 g0_0 1) ?_
  refine p 1 ?_
  obtain ⟨v4_3, hv4_3, h⟩ := H.call h
  refine xq rfl (y_call [.agg (eSign a0.Sign).toArray, .int .i64 (wr (a1 - (List.length a0.Gloss : Int)))] (.int .i64 v4_3) func15 (fun W S => C.l_szSign W hv4_3)) ?_
  refine p 1 ?_
  refine rend ?_
  refine c_seq ?_
  refine c_seq ?_
  refine r_start ?_
  refine p 2 ?_
  refine rend ?_
  refine c_or (decide (v4_3 < 0)) (fun q2 => ?_) (fun q2 => ?_)
  · replace h := H.t q2 h
    refine c_seq ?_
    refine r_start ?_
    refine p 1 ?_
    refine rend ?_
    replace h := H.done h
    subst h
    exact ret func94 rfl (vs := [.int .i64 (-1)]) (.tmp (by kernel_rfl) .nil) rfl (fun W S => ⟨rfl, S.below⟩)
  replace h := H.f q2 h
  refine c_skip ?_
  refine c_seq ?_
  refine r_start ?_
  refine p 2 ?_
  refine rend ?_
  replace h := H.done h
  subst h
  exact ret func94 rfl (vs := [.int .i64 v4_3]) (.tmp (by kernel_rfl) .nil) rfl (fun W S => ⟨rfl, S.below⟩)
theorem C.l_szEntryS {fu : Nat} {a0 : (List Entry)} {A0 : Option Addr} {k0 : Nat} {a1 : Int} {r : Int} (w : World) (h : X.l_szEntryS fu a0 a1 = some r) (h0 : RdT nEntry w (.slice A0 (List.length a0) k0) a0) : Calls prog 31 #[.slice A0 (List.length a0) k0, .int .i64 a1] w (Ret w (.int .i64 r)) := by
  refine calls (M := no) (args := [.slice A0 (List.length a0) k0, .int .i64 a1]) func31 rfl ?_
  replace h : H (X.l_szEntryS fu a0 a1) (fun o => o = r) := H.mk h
  unfold X.l_szEntryS at h
  refine c_seq ?_
  refine r_start ?_
  refine p 1 ?_
  refine rend ?_
  refine c_seq ?_
  refine r_start ?_
  refine p 5 ?_
  refine rend ?_
  refine c_seq ?_
  refine c_seq ?_
  refine r_start ?_
  refine p 2 ?_
  refine rend ?_
  refine c_or (decide ((wr (a1 - (List.length a0 : Int))) < 0)) (fun q1 => ?_) (fun q1 => ?_)
  · replace h := H.t q1 h
    refine c_seq ?_
    refine r_start ?_
    refine p 1 ?_
    refine rend ?_
    replace h := H.done h
    subst h
    exact ret func31 rfl (vs := [.int .i64 (-1)]) (.tmp (by kernel_rfl) .nil) rfl (fun W S => ⟨rfl, S.below⟩)
  replace h := H.f q1 h
  refine c_skip ?_
  refine c_seq ?_
  refine c_seq ?_
  refine r_start ?_
  refine p 1 ?_
  refine rend ?_
  refine c_block ?_
  refine joinE (X := Int) 0 (H.or h) (fun (x : Int) => x) (fun n4 => []) (fun n4 u => (jk u 0 1 (.int .i64 n4 :: (jk u 2 25 [])))) (fun h hj5 => ?_) ?_
  · skip
    refine loopR (X := (Int × Int)) (fun (x : (Int × Int)) => x) (fun ⟨n2, n3⟩ => []) (fun ⟨n2, n3⟩ u => (.slice A0 (List.length a0) k0 :: .int .i64 n2 :: (jk u 2 3 (.int .i64 n3 :: (jk u 6 21 []))))) ((wr (a1 - (List.length a0 : Int))), 0) h (by kernel_rfl) (by kernel_rfl) ?_
    intro x u h
    obtain ⟨n2, n3⟩ := x
    refine c_seq ?_
    refine c_seq ?_
    refine r_start ?_
    refine p 4 ?_
    refine rend ?_
    refine c_or (decide (n3 < (List.length a0 : Int))) (fun q6 => ?_) (fun q6 => ?_)
    · replace h := H.t q6 h
      refine c_skip ?_
      refine c_seq ?_
      refine c_block ?_
      refine c_seq ?_
      refine r_start ?_
      refine p 2 ?_
      obtain ⟨y7_2, hy7_2, h⟩ := H.call h
      refine xq rfl (y_idx (e := nEntry) (el := 123) hy7_2 (s_arg h0)) ?_
      refine xq rfl (y_el (e := nEntry) 0 (.agg (eEntry y7_2).toArray) hy7_2 (s_arg h0)) ?_
      refine p 1 ?_
      obtain ⟨v7_5, hv7_5, h⟩ := H.call h
      refine xq rfl (y_call [.agg (eEntry y7_2).toArray, .int .i64 n2] (.int .i64 v7_5) func94 (fun W S => C.l_szEntry W hv7_5)) ?_
      refine p 1 ?_
      refine rend ?_
      refine c_seq ?_
      refine r_start ?_
      refine p 2 ?_
      refine rend ?_
      refine c_or (decide (v7_5 < 0)) (fun q7 => ?_) (fun q7 => ?_)
      · replace h := H.t q7 h
        refine c_seq ?_
        refine r_start ?_
        refine p 1 ?_
        refine rend ?_
        replace h := H.inr h
        replace h := H.done h
        subst h
        exact ret func31 rfl (vs := [.int .i64 (-1)]) (.tmp (by kernel_rfl) .nil) rfl (fun W S => ⟨rfl, S.below⟩)
      replace h := H.f q7 h
      refine c_skip ?_
      refine c_inb ?_
      refine r_start ?_
      refine p 3 ?_
      refine rend ?_
      replace h := H.inl h
      exact h (v7_5, (wr (n3 + 1))) _ _ rfl (by kernel_rfl) (by kernel_rfl)
    replace h := H.f q6 h
    refine cx ?_
    replace h := H.inr h
    exact hj5 n2 _ _ h (by kernel_rfl) (by kernel_rfl)
  intro n4 u h
  refine c_seq ?_
  refine r_start ?_
  refine p 2 ?_
  refine rend ?_
  replace h := H.done h
  subst h
  exact ret func31 rfl (vs := [.int .i64 n4]) (.tmp (by kernel_rfl) .nil) rfl (fun W S => ⟨rfl, S.below⟩)
theorem C.s_enGloss {fu : Nat} {a0 : Str} {r : Bool} (w : World) (h : X.s_enGloss fu a0 = some r) : Calls prog 96 #[.string (bs a0)] w (Ret w (.bool r)) := by
  refine calls (M := no) (args := [.string (bs a0)]) func96 rfl ?_
  replace h : H (X.s_enGloss fu a0) (fun o => o = r) := H.mk h
  unfold X.s_enGloss at h
  refine c_seq ?_
  refine r_start ?_
  refine p 1 ?_
  refine rend ?_
  refine c_seq ?_
  refine c_seq ?_
  refine r_start ?_
  refine p 1 ?_
  refine rend ?_
  refine c_block ?_
  refine joinE (X := Unit) 0 (H.or h) (fun (x : Unit) => x) (fun _ => []) (fun _ u => (.string (bs a0) :: (jk u 1 22 []))) (fun h hj2 => ?_) ?_
  · skip
    refine loopR (X := Int) (fun (x : Int) => x) (fun n1 => []) (fun n1 u => (.string (bs a0) :: (jk u 1 2 (.int .i64 n1 :: (jk u 4 19 []))))) 0 h (by kernel_rfl) (by kernel_rfl) ?_
    intro n1 u h
    refine c_seq ?_
    refine c_seq ?_
    refine r_start ?_
    refine p 4 ?_
    refine rend ?_
    refine c_or (decide (n1 < (List.length a0 : Int))) (fun q3 => ?_) (fun q3 => ?_)
    · replace h := H.t q3 h
      refine c_skip ?_
      refine c_seq ?_
      refine c_block ?_
      refine c_seq ?_
      refine r_start ?_
      refine p 2 ?_
      obtain ⟨y4_2, hy4_2, h⟩ := H.call h
      refine xq rfl (y_byte hy4_2) ?_
      refine p 2 ?_
      refine br (decide (y4_2 < 65)) (fun q4 => ?_) (fun q4 => ?_)
      · replace h := H.t q4 h
        refine o_set 14 (congrArg Value.bool q4) ?_
        refine p 5 ?_
        refine rend ?_
        refine c_t (by kernel_rfl) ?_
        refine c_seq ?_
        refine r_start ?_
        refine p 1 ?_
        refine rend ?_
        replace h := H.inr h
        replace h := H.done h
        subst h
        exact ret func96 rfl (vs := [.bool false]) (.tmp (by kernel_rfl) .nil) rfl (fun W S => ⟨rfl, S.below⟩)
      replace h := H.f q4 h
      refine o_set 14 (congrArg Value.bool q4) ?_
      refine p 2 ?_
      refine xq rfl (y_byte hy4_2) ?_
      refine p 2 ?_
      refine rend ?_
      refine c_or (decide (y4_2 > 90)) (fun q5 => ?_) (fun q5 => ?_)
      · replace h := H.t q5 h
        refine c_seq ?_
        refine r_start ?_
        refine p 1 ?_
        refine rend ?_
        replace h := H.inr h
        replace h := H.done h
        subst h
        exact ret func96 rfl (vs := [.bool false]) (.tmp (by kernel_rfl) .nil) rfl (fun W S => ⟨rfl, S.below⟩)
      replace h := H.f q5 h
      refine c_skip ?_
      refine c_inb ?_
      refine r_start ?_
      refine p 3 ?_
      refine rend ?_
      replace h := H.inl h
      exact h (wr (n1 + 1)) _ _ rfl (by kernel_rfl) (by kernel_rfl)
    replace h := H.f q3 h
    refine cx ?_
    replace h := H.inr h
    exact hj2 () _ _ h (by kernel_rfl) (by kernel_rfl)
  intro x u h
  refine c_seq ?_
  refine r_start ?_
  refine p 2 ?_
  obtain ⟨v6_2, hv6_2, h⟩ := H.call h
  refine xq rfl (y_call [.int .i64 (List.length a0 : Int), .int .i64 1, .int .i64 8] (.bool v6_2) func158 (fun W S => C.s_l1In W hv6_2)) ?_
  refine p 1 ?_
  refine rend ?_
  replace h := H.done h
  subst h
  exact ret func96 rfl (vs := [.bool v6_2]) (.tmp (by kernel_rfl) .nil) rfl (fun W S => ⟨rfl, S.below⟩)
theorem C.s_enRegion {a0 : Int} {r : Bool} (w : World) (h : X.s_enRegion a0 = some r) : Calls prog 97 #[.int .i64 a0] w (Ret w (.bool r)) := by
  refine calls (M := no) (args := [.int .i64 a0]) func97 rfl ?_
  replace h : H (X.s_enRegion a0) (fun o => o = r) := H.mk h
  unfold X.s_enRegion at h
  refine c_seq ?_
  refine r_start ?_
  refine p 1 ?_
  refine rend ?_
  refine c_seq ?_
  refine r_start ?_
  refine p 1 ?_
  obtain ⟨v1_1, hv1_1, h⟩ := H.call h
  refine xq rfl (y_call [.int .i64 a0, .int .i64 0, .int .i64 5] (.bool v1_1) func158 (fun W S => C.s_l1In W hv1_1)) ?_
  refine p 1 ?_
  refine rend ?_
  replace h := H.done h
  subst h
  exact ret func97 rfl (vs := [.bool v1_1]) (.tmp (by kernel_rfl) .nil) rfl (fun W S => ⟨rfl, S.below⟩)
theorem C.s_enOne {fu : Nat} {a0 : Entry} {r : Bool} (w : World) (h : X.s_enOne fu a0 = some r) : Calls prog 160 #[.agg (eEntry a0).toArray] w (Ret w (.bool r)) := by
  refine calls (M := no) (args := [.agg (eEntry a0).toArray]) func160 rfl ?_
  replace h : H (X.s_enOne fu a0) (fun o => o = r) := H.mk h
  unfold X.s_enOne at h
  refine c_seq ?_
  refine r_start ?_
  refine xx rfl (x_box (eEntry a0) fun g0_0 => ?_)
  refine p 1 ?_
  refine rend ?_
  refine c_seq ?_
  refine r_start ?_
  refine p 1 ?_
  refine xq rfl (y_load (.string (bs a0.Gloss)) 0 g0_0 0) ?_
  obtain ⟨v1_2, hv1_2, h⟩ := H.call h
  refine xq rfl (y_call [.string (bs a0.Gloss)] (.bool v1_2) func96 (fun W S => C.s_enGloss W hv1_2)) ?_
  refine p 1 ?_
  refine br v1_2 (fun q1 => ?_) (fun q1 => ?_)
  · replace h := H.t q1 h
    refine o_set 6 (congrArg Value.bool q1) ?_
    refine p 1 ?_
    refine xq rfl (y_load (.agg (eSign a0.Sign).toArray) 0 g0_0 1) ?_
    obtain ⟨v1_6, hv1_6, h⟩ := H.call h
    refine xq rfl (y_call [.agg (eSign a0.Sign).toArray] (.bool v1_6) func72 (fun W S => C.s_siGood W hv1_6)) ?_
    refine p 2 ?_
    refine br v1_6 (fun q2 => ?_) (fun q2 => ?_)
    · replace h := H.t q2 h
      refine o_set 11 (congrArg Value.bool q2) ?_
      refine p 1 ?_
      refine xq rfl (y_load (.int .i64 a0.Region) 0 g0_0 28) ?_
      obtain ⟨v1_11, hv1_11, h⟩ := H.call h
      refine xq rfl (y_call [.int .i64 a0.Region] (.bool v1_11) func97 (fun W S => C.s_enRegion W hv1_11)) ?_
      refine p 2 ?_
      refine br v1_11 (fun q3 => ?_) (fun q3 => ?_)
      · replace h := H.t q3 h
        refine o_set 16 (congrArg Value.bool q3) ?_
        refine p 1 ?_
        refine xq rfl (y_load (.int .i64 a0.Uses) 0 g0_0 29) ?_
        obtain ⟨v1_16, hv1_16, h⟩ := H.call h
        refine xq rfl (y_call [.int .i64 a0.Uses, .int .i64 0, .int .i64 99999] (.bool v1_16) func158 (fun W S => C.s_l1In W hv1_16)) ?_
        refine p 2 ?_
        refine rend ?_
        replace h := H.done h
        subst h
        exact ret func160 rfl (vs := [.bool v1_16]) (.tmp (by kernel_rfl) .nil) rfl (fun W S => ⟨rfl, S.below⟩)
      replace h := H.f q3 h
      refine o_set 16 (congrArg Value.bool q3) ?_
      refine p 5 ?_
      refine rend ?_
      replace h := H.done h
      subst h
      exact ret func160 rfl (vs := [.bool false]) (.tmp (by kernel_rfl) .nil) rfl (fun W S => ⟨rfl, S.below⟩)
    replace h := H.f q2 h
    refine o_set 11 (congrArg Value.bool q2) ?_
    refine p 10 ?_
    refine rend ?_
    replace h := H.done h
    subst h
    exact ret func160 rfl (vs := [.bool false]) (.tmp (by kernel_rfl) .nil) rfl (fun W S => ⟨rfl, S.below⟩)
  replace h := H.f q1 h
  refine o_set 6 (congrArg Value.bool q1) ?_
  refine p 15 ?_
  refine rend ?_
  replace h := H.done h
  subst h
  exact ret func160 rfl (vs := [.bool false]) (.tmp (by kernel_rfl) .nil) rfl (fun W S => ⟨rfl, S.below⟩)
theorem C.s_enBefore {a0 : Entry} {a1 : Entry} {r : Bool} (w : World) (h : X.s_enBefore a0 a1 = some r) : Calls prog 161 #[.agg (eEntry a0).toArray, .agg (eEntry a1).toArray] w (Ret w (.bool r)) := by
  refine calls (M := no) (args := [.agg (eEntry a0).toArray, .agg (eEntry a1).toArray]) func161 rfl ?_
  replace h : H (X.s_enBefore a0 a1) (fun o => o = r) := H.mk h
  unfold X.s_enBefore at h
  refine c_seq ?_
  refine r_start ?_
  refine xx rfl (x_box (eEntry a0) fun g0_0 => ?_)
  refine xx rfl (x_box (eEntry a1) fun g0_1 => ?_)
  refine p 1 ?_
  refine rend ?_
  refine c_seq ?_
  refine r_start ?_
  refine p 1 ?_
  refine xq rfl (y_load (.string (bs a0.Gloss)) 0 g0_0 0) ?_
  refine p 1 ?_
  refine xq rfl (y_load (.string (bs a1.Gloss)) 1 g0_1 0) ?_
  refine p 2 ?_
  refine br (slt a0.Gloss a1.Gloss) (fun q1 => ?_) (fun q1 => ?_)
  · replace h := H.t q1 h
    refine o_set 10 (congrArg Value.bool q1) ?_
    refine p 14 ?_
    refine rend ?_
    replace h := H.done h
    subst h
    exact ret func161 rfl (vs := [.bool true]) (.tmp (by kernel_rfl) .nil) rfl (fun W S => ⟨rfl, S.below⟩)
  replace h := H.f q1 h
  refine o_set 10 (congrArg Value.bool q1) ?_
  refine p 1 ?_
  refine xq rfl (y_load (.string (bs a0.Gloss)) 0 g0_0 0) ?_
  refine p 1 ?_
  refine xq rfl (y_load (.string (bs a1.Gloss)) 1 g0_1 0) ?_
  refine p 2 ?_
  refine br (seq a0.Gloss a1.Gloss) (fun q2 => ?_) (fun q2 => ?_)
  · replace h := H.t q2 h
    refine o_set 16 (congrArg Value.bool q2) ?_
    refine p 1 ?_
    refine xq rfl (y_load (.int .i64 a0.Region) 0 g0_0 28) ?_
    refine p 1 ?_
    refine xq rfl (y_load (.int .i64 a1.Region) 1 g0_1 28) ?_
    refine p 4 ?_
    refine rend ?_
    replace h := H.done h
    subst h
    exact ret func161 rfl (vs := [.bool (decide (a0.Region < a1.Region))]) (.tmp (by kernel_rfl) .nil) rfl (fun W S => ⟨rfl, S.below⟩)
  replace h := H.f q2 h
  refine o_set 16 (congrArg Value.bool q2) ?_
  refine p 8 ?_
  refine rend ?_
  replace h := H.done h
  subst h
  exact ret func161 rfl (vs := [.bool false]) (.tmp (by kernel_rfl) .nil) rfl (fun W S => ⟨rfl, S.below⟩)
theorem C.s_enGood {fu : Nat} {a0 : (List Entry)} {A0 : Option Addr} {k0 : Nat} {r : Bool} (w : World) (h : X.s_enGood fu a0 = some r) (h0 : RdT nEntry w (.slice A0 (List.length a0) k0) a0) : Calls prog 95 #[.slice A0 (List.length a0) k0] w (Ret w (.bool r)) := by
  refine calls (M := no) (args := [.slice A0 (List.length a0) k0]) func95 rfl ?_
  replace h : H (X.s_enGood fu a0) (fun o => o = r) := H.mk h
  unfold X.s_enGood at h
  refine c_seq ?_
  refine r_start ?_
  refine p 1 ?_
  refine rend ?_
  refine c_seq ?_
  refine c_seq ?_
  refine r_start ?_
  refine p 3 ?_
  refine rend ?_
  refine c_block ?_
  refine joinE (X := Unit) 0 (H.or h) (fun (x : Unit) => x) (fun _ => []) (fun _ u => (.slice A0 (List.length a0) k0 :: (jk u 1 32 []))) (fun h hj1 => ?_) ?_
  · skip
    refine rangeR (X := Unit) (s_arg h0) (fun (x : Unit) => x) (fun _ => []) (fun (j2 : Nat) _ u => (.slice A0 (List.length a0) k0 :: (jk u 1 4 (.slice A0 (List.length a0) k0 :: .int .i64 (List.length a0 : Int) :: .int .i64 (j2 : Int) :: (jk u 8 25 []))))) () h (by kernel_rfl) (by kernel_rfl) ?_ ?_
    · intro j2 x u x3 q4 hg5 hw6 h
      refine c_seq ?_
      refine r_start ?_
      refine p 1 ?_
      refine rend ?_
      refine c_seq ?_
      refine c_yes q4 ?_
      refine c_skip ?_
      refine c_seq ?_
      refine c_block ?_
      refine c_seq ?_
      refine r_start ?_
      refine p 1 ?_
      refine xq rfl (y_idx (e := nEntry) (el := 129) hg5 (s_arg h0)) ?_
      refine xq rfl (y_el (e := nEntry) 0 (.agg (eEntry x3).toArray) hg5 (s_arg h0)) ?_
      refine xx rfl (x_new (eEntry zEntry) fun g3_3 => ?_)
      refine p 1 ?_
      refine xx rfl (x_sto 0 g3_3 0 (eEntry x3) ?_)
      refine rend ?_
      refine c_seq ?_
      refine as_start 17 17 ?_
      refine aq 0 rfl (y_load (.agg (eEntry x3).toArray) 0 g3_3 0) ?_
      obtain ⟨v4_1, hv4_1, h⟩ := H.call h
      refine aq 1 rfl (y_call [.agg (eEntry x3).toArray] (.bool v4_1) func160 (fun W S => C.s_enOne W hv4_1)) ?_
      refine ap 2 2 ?_
      refine br (!v4_1) (fun q7 => ?_) (fun q7 => ?_)
      · replace h := H.t q7 h
        refine a_set 15 (congrArg Value.bool q7) ?_
        refine ap 4 13 ?_
        refine a_done ?_
        refine c_t (by kernel_rfl) ?_
        refine c_seq ?_
        refine r_start ?_
        refine p 1 ?_
        refine rend ?_
        replace h := H.inr h
        replace h := H.done h
        subst h
        exact ret func95 rfl (vs := [.bool false]) (.tmp (by kernel_rfl) .nil) rfl (fun W S => ⟨rfl, S.below⟩)
      replace h := H.f q7 h
      refine a_set 15 (congrArg Value.bool q7) ?_
      refine ap 4 3 ?_
      refine br (decide ((j2 : Int) > 0)) (fun q8 => ?_) (fun q8 => ?_)
      · replace h := H.t q8 h
        refine a_set 18 (congrArg Value.bool q8) ?_
        refine ap 7 3 ?_
        obtain ⟨y4_10, hy4_10, h⟩ := H.call h
        refine aq 10 rfl (y_idx (e := nEntry) (el := 129) hy4_10 (s_arg h0)) ?_
        refine aq 11 rfl (y_el (e := nEntry) 0 (.agg (eEntry y4_10).toArray) hy4_10 (s_arg h0)) ?_
        refine aq 12 rfl (y_load (.agg (eEntry x3).toArray) 0 g3_3 0) ?_
        obtain ⟨v4_13, hv4_13, h⟩ := H.call h
        refine aq 13 rfl (y_call [.agg (eEntry y4_10).toArray, .agg (eEntry x3).toArray] (.bool v4_13) func161 (fun W S => C.s_enBefore W hv4_13)) ?_
        refine ap 14 3 ?_
        refine a_done ?_
        refine c_or (!v4_13) (fun q9 => ?_) (fun q9 => ?_)
        · replace h := H.t q9 h
          refine c_seq ?_
          refine r_start ?_
          refine p 1 ?_
          refine rend ?_
          replace h := H.inr h
          replace h := H.done h
          subst h
          exact ret func95 rfl (vs := [.bool false]) (.tmp (by kernel_rfl) .nil) rfl (fun W S => ⟨rfl, S.below⟩)
        replace h := H.f q9 h
        refine c_skip ?_
        refine c_inb ?_
        refine r_start ?_
        refine p 2 ?_
        refine rend ?_
        refine c_set 7 (ci hw6) ?_
        replace h := H.inl h
        exact h () _ _ rfl (by kernel_rfl) (by kernel_rfl)
      replace h := H.f q8 h
      refine a_set 18 (congrArg Value.bool q8) ?_
      refine ap 7 10 ?_
      refine a_done ?_
      refine c_f (by kernel_rfl) ?_
      refine c_skip ?_
      refine c_inb ?_
      refine r_start ?_
      refine p 2 ?_
      refine rend ?_
      refine c_set 7 (ci hw6) ?_
      replace h := H.inl h
      exact h () _ _ rfl (by kernel_rfl) (by kernel_rfl)
    · intro x u q4 h
      refine c_seq ?_
      refine r_start ?_
      refine p 1 ?_
      refine rend ?_
      refine c_seq ?_
      refine c_no q4 ?_
      refine cx ?_
      replace h := H.done h
      exact hj1 () _ _ h (by kernel_rfl) (by kernel_rfl)
  intro x u h
  refine c_seq ?_
  refine r_start ?_
  refine p 4 ?_
  refine rend ?_
  replace h := H.done h
  subst h
  exact ret func95 rfl (vs := [.bool (decide ((List.length a0 : Int) ≤ 16))]) (.tmp (by kernel_rfl) .nil) rfl (fun W S => ⟨rfl, S.below⟩)
theorem C.l_toEntry {a0 : Entry} {r : Entry} (w : World) (h : X.l_toEntry a0 = some r) : Calls prog 99 #[.agg (eEntry a0).toArray] w (Ret w (.agg (eEntry r).toArray)) := by
  refine calls (M := no) (args := [.agg (eEntry a0).toArray]) func99 rfl ?_
  replace h : H (X.l_toEntry a0) (fun o => o = r) := H.mk h
  unfold X.l_toEntry at h
  refine c_seq ?_
  refine r_start ?_
  refine xx rfl (x_box (eEntry a0) fun g0_0 => ?_)
  refine xx rfl (x_new (eEntry zEntry) fun g0_1 => ?_)
  refine rend ?_
  refine c_seq ?_
  refine r_start ?_
  refine xx rfl (x_new (eEntry zEntry) fun g1_0 => ?_)
  refine rend ?_
  refine c_seq ?_
  refine r_start ?_
  refine p 1 ?_
  refine xq rfl (y_load (.string (bs a0.Gloss)) 0 g0_0 0) ?_
  refine p 1 ?_
  refine xx rfl (x_sto 2 g1_0 0 (eEntry ({ zEntry with Gloss := a0.Gloss })) ?_)
  refine rend ?_
  refine c_seq ?_
  refine r_start ?_
  refine p 1 ?_
  refine xq rfl (y_load (.agg (eSign a0.Sign).toArray) 0 g0_0 1) ?_
  obtain ⟨v3_2, hv3_2, h⟩ := H.call h
  refine xq rfl (y_call [.agg (eSign a0.Sign).toArray] (.agg (eSign v3_2).toArray) func17 (fun W S => C.l_toSign W hv3_2)) ?_
  refine p 1 ?_
  refine xx rfl (x_sto 2 g1_0 1 (eEntry ({ zEntry with Gloss := a0.Gloss, Sign := v3_2 })) ?_)
  refine rend ?_
  refine c_seq ?_
  refine r_start ?_
  refine p 1 ?_
  refine xq rfl (y_load (.int .i64 a0.Region) 0 g0_0 28) ?_
  refine p 1 ?_
  refine xx rfl (x_sto 2 g1_0 28 (eEntry ({ a0 with Sign := v3_2, Uses := zEntry.Uses })) ?_)
  refine rend ?_
  refine c_seq ?_
  refine r_start ?_
  refine p 1 ?_
  refine xq rfl (y_load (.int .i64 a0.Uses) 0 g0_0 29) ?_
  refine p 1 ?_
  refine xx rfl (x_sto 2 g1_0 29 (eEntry ({ a0 with Sign := v3_2 })) ?_)
  refine rend ?_
  refine c_seq ?_
  refine r_start ?_
  refine xq rfl (y_load (.agg (eEntry ({ a0 with Sign := v3_2 })).toArray) 2 g1_0 0) ?_
  refine xx rfl (x_sto 1 g0_1 0 (eEntry ({ a0 with Sign := v3_2 })) ?_)
  refine rend ?_
  replace h := H.done h
  subst h
  exact ret func99 rfl (vs := [.agg (eEntry ({ a0 with Sign := v3_2 })).toArray]) (.cell 1 g0_1 rfl (by kernel_rfl) (by kernel_rfl) .nil) rfl (fun W S => ⟨rfl, S.below⟩)
theorem C.l_toEntryS {fu : Nat} {a0 : (List Entry)} {A0 : Option Addr} {k0 : Nat} {r : (List Entry)} (w : World) (h : X.l_toEntryS fu a0 = some r) (h0 : RdT nEntry w (.slice A0 (List.length a0) k0) a0) : Calls prog 33 #[.slice A0 (List.length a0) k0] w (RetR nEntry 129 w r (fun v => v)) := by
  refine calls (M := no) (args := [.slice A0 (List.length a0) k0]) func33 rfl ?_
  replace h : H (X.l_toEntryS fu a0) (fun o => o = r) := H.mk h
  unfold X.l_toEntryS at h
  refine c_seq ?_
  refine r_start ?_
  refine p 1 ?_
  refine rend ?_
  refine c_seq ?_
  refine r_start ?_
  refine p 2 ?_
  obtain ⟨y1_2, hy1_2, h⟩ := H.call h
  refine xx rfl (e_make (el := 129) hy1_2 fun A1_2 k1_2 => ?_)
  refine p 1 ?_
  refine rend ?_
  refine c_seq ?_
  refine c_seq ?_
  refine r_start ?_
  refine p 1 ?_
  refine rend ?_
  refine c_block ?_
  refine joinH (X := ((List Entry) × Option Addr × Nat)) 0 (H.bnd h) (fun ⟨l5, A6, k7⟩ => l5) (fun ⟨l5, A6, k7⟩ => [rowT nEntry w.heap.size 129 (.slice A6 (List.length l5) k7) l5]) (fun ⟨l5, A6, k7⟩ u => (jk u 0 3 (.slice A6 (List.length l5) k7 :: (jk u 4 19 [])))) (fun h hj8 => ?_) ?_
  · skip
    refine loopR (X := (Int × (List Entry) × Option Addr × Nat)) (fun ⟨n1, l2, A3, k4⟩ => (n1, l2)) (fun ⟨n1, l2, A3, k4⟩ => [rowT nEntry w.heap.size 129 (.slice A3 (List.length l2) k4) l2]) (fun ⟨n1, l2, A3, k4⟩ u => (.slice A0 (List.length a0) k0 :: (jk u 1 2 (.slice A3 (List.length l2) k4 :: .int .i64 n1 :: (jk u 5 18 []))))) (0, y1_2, A1_2, k1_2) h (by kernel_rfl) (by kernel_rfl) ?_
    intro x u h
    obtain ⟨n1, l2, A3, k4⟩ := x
    refine c_seq ?_
    refine c_seq ?_
    refine r_start ?_
    refine p 4 ?_
    refine rend ?_
    refine c_or (decide (n1 < (List.length a0 : Int))) (fun q9 => ?_) (fun q9 => ?_)
    · replace h := H.t q9 h
      refine c_skip ?_
      refine c_seq ?_
      refine c_block ?_
      refine r_start ?_
      refine p 4 ?_
      obtain ⟨y5_4, hy5_4, h⟩ := H.call h
      refine xq rfl (y_idx (e := nEntry) (el := 123) hy5_4 (s_arg h0)) ?_
      refine xq rfl (y_el (e := nEntry) 0 (.agg (eEntry y5_4).toArray) hy5_4 (s_arg h0)) ?_
      obtain ⟨v5_6, hv5_6, h⟩ := H.call h
      refine xq rfl (y_call [.agg (eEntry y5_4).toArray] (.agg (eEntry v5_6).toArray) func99 (fun W S => C.l_toEntry W hv5_6)) ?_
      obtain ⟨y5_7, hy5_7, h⟩ := H.call h
      refine xq rfl (y_idx (e := nEntry) (el := 129) hy5_7 (s_own 0)) ?_
      refine xx rfl (e_stel (e := nEntry) (b := v5_6) 0 0 (eEntry v5_6) hy5_7 (by kernel_rfl) ?_)
      refine o_set 3 (sl_set (A := A3) (c := k4) (l := l2) (n := Int.toNat n1) (b := v5_6)) ?_
      refine rend ?_
      refine c_inb ?_
      refine r_start ?_
      refine p 3 ?_
      refine rend ?_
      replace h := H.inl h
      exact h ((wr (n1 + 1)), (List.set l2 (Int.toNat n1) v5_6), A3, k4) _ _ rfl (by kernel_rfl) (by kernel_rfl)
    replace h := H.f q9 h
    refine cx ?_
    replace h := H.inr h
    exact hj8 (l2, A3, k4) _ _ h (by kernel_rfl) (by kernel_rfl)
  intro x u h
  obtain ⟨l5, A6, k7⟩ := x
  refine c_seq ?_
  refine r_start ?_
  refine p 2 ?_
  refine rend ?_
  replace h := H.done h
  subst h
  exact ret func33 rfl (vs := [.slice A6 (List.length l5) k7]) (.tmp (by kernel_rfl) .nil) rfl (fun W S => ⟨_, _, rfl, S.row 0, S.below⟩)
theorem C.i_isWordOf {a0 : Str} {a1 : Str} {r : Bool} (w : World) (h : X.i_isWordOf a0 a1 = some r) : Calls prog 164 #[.string (bs a0), .string (bs a1)] w (Ret w (.bool r)) := by
  refine calls (M := no) (args := [.string (bs a0), .string (bs a1)]) func164 rfl ?_
  replace h : H (X.i_isWordOf a0 a1) (fun o => o = r) := H.mk h
  unfold X.i_isWordOf at h
  refine c_seq ?_
  refine r_start ?_
  refine p 1 ?_
  refine rend ?_
  refine c_seq ?_
  refine r_start ?_
  refine p 2 ?_
  obtain ⟨v1_2, hv1_2, h⟩ := H.call h
  refine xq rfl (y_call [.int .i64 (List.length a0 : Int), .int .i64 1, .int .i64 8] (.bool v1_2) func102 (fun W S => C.i_within W hv1_2)) ?_
  refine p 1 ?_
  refine br v1_2 (fun q1 => ?_) (fun q1 => ?_)
  · replace h := H.t q1 h
    refine o_set 8 (congrArg Value.bool q1) ?_
    refine p 2 ?_
    obtain ⟨v1_6, hv1_6, h⟩ := H.call h
    refine xq rfl (y_call [.string (bs a0), .string (bs a1)] (.bool v1_6) func199 (fun W S => C.i_hasOnly W hv1_6)) ?_
    refine p 2 ?_
    refine rend ?_
    replace h := H.done h
    subst h
    exact ret func164 rfl (vs := [.bool v1_6]) (.tmp (by kernel_rfl) .nil) rfl (fun W S => ⟨rfl, S.below⟩)
  replace h := H.f q1 h
  refine o_set 8 (congrArg Value.bool q1) ?_
  refine p 5 ?_
  refine rend ?_
  replace h := H.done h
  subst h
  exact ret func164 rfl (vs := [.bool false]) (.tmp (by kernel_rfl) .nil) rfl (fun W S => ⟨rfl, S.below⟩)
theorem C.i_IsGloss {a0 : Str} {r : Bool} (w : World) (h : X.i_IsGloss a0 = some r) : Calls prog 101 #[.string (bs a0)] w (Ret w (.bool r)) := by
  refine calls (M := no) (args := [.string (bs a0)]) func101 rfl ?_
  replace h : H (X.i_IsGloss a0) (fun o => o = r) := H.mk h
  unfold X.i_IsGloss at h
  refine c_seq ?_
  refine r_start ?_
  refine p 1 ?_
  refine rend ?_
  refine c_seq ?_
  refine r_start ?_
  refine p 1 ?_
  obtain ⟨v1_1, hv1_1, h⟩ := H.call h
  refine xq rfl (y_call [.string (bs a0), .string (bs ([65, 66, 67, 68, 69, 70, 71, 72, 73, 74, 75, 76, 77, 78, 79, 80, 81, 82, 83, 84, 85, 86, 87, 88, 89, 90] : Str))] (.bool v1_1) func164 (fun W S => C.i_isWordOf W hv1_1)) ?_
  refine p 1 ?_
  refine rend ?_
  replace h := H.done h
  subst h
  exact ret func101 rfl (vs := [.bool v1_1]) (.tmp (by kernel_rfl) .nil) rfl (fun W S => ⟨rfl, S.below⟩)
theorem C.i_isEntry {fu : Nat} {a0 : Entry} {r : Bool} (w : World) (h : X.i_isEntry fu a0 = some r) : Calls prog 162 #[.agg (eEntry a0).toArray] w (Ret w (.bool r)) := by
  refine calls (M := no) (args := [.agg (eEntry a0).toArray]) func162 rfl ?_
  replace h : H (X.i_isEntry fu a0) (fun o => o = r) := H.mk h
  unfold X.i_isEntry at h
  refine c_seq ?_
  refine r_start ?_
  refine xx rfl (x_box (eEntry a0) fun g0_0 => ?_)
  refine p 1 ?_
  refine rend ?_
  refine c_seq ?_
  refine r_start ?_
  refine p 1 ?_
  refine xq rfl (y_load (.string (bs a0.Gloss)) 0 g0_0 0) ?_
  obtain ⟨v1_2, hv1_2, h⟩ := H.call h
  refine xq rfl (y_call [.string (bs a0.Gloss)] (.bool v1_2) func101 (fun W S => C.i_IsGloss W hv1_2)) ?_
  refine p 1 ?_
  refine br v1_2 (fun q1 => ?_) (fun q1 => ?_)
  · replace h := H.t q1 h
    refine o_set 6 (congrArg Value.bool q1) ?_
    refine p 1 ?_
    refine xq rfl (y_load (.agg (eSign a0.Sign).toArray) 0 g0_0 1) ?_
    obtain ⟨v1_6, hv1_6, h⟩ := H.call h
    refine xq rfl (y_call [.agg (eSign a0.Sign).toArray] (.bool v1_6) func61 (fun W S => C.i_IsSign W hv1_6)) ?_
    refine p 2 ?_
    refine br v1_6 (fun q2 => ?_) (fun q2 => ?_)
    · replace h := H.t q2 h
      refine o_set 11 (congrArg Value.bool q2) ?_
      refine p 1 ?_
      refine xq rfl (y_load (.int .i64 a0.Region) 0 g0_0 28) ?_
      obtain ⟨v1_11, hv1_11, h⟩ := H.call h
      refine xq rfl (y_call [.int .i64 a0.Region, .int .i64 0, .int .i64 5] (.bool v1_11) func102 (fun W S => C.i_within W hv1_11)) ?_
      refine p 2 ?_
      refine br v1_11 (fun q3 => ?_) (fun q3 => ?_)
      · replace h := H.t q3 h
        refine o_set 16 (congrArg Value.bool q3) ?_
        refine p 1 ?_
        refine xq rfl (y_load (.int .i64 a0.Uses) 0 g0_0 29) ?_
        obtain ⟨v1_16, hv1_16, h⟩ := H.call h
        refine xq rfl (y_call [.int .i64 a0.Uses, .int .i64 0, .int .i64 99999] (.bool v1_16) func102 (fun W S => C.i_within W hv1_16)) ?_
        refine p 2 ?_
        refine rend ?_
        replace h := H.done h
        subst h
        exact ret func162 rfl (vs := [.bool v1_16]) (.tmp (by kernel_rfl) .nil) rfl (fun W S => ⟨rfl, S.below⟩)
      replace h := H.f q3 h
      refine o_set 16 (congrArg Value.bool q3) ?_
      refine p 5 ?_
      refine rend ?_
      replace h := H.done h
      subst h
      exact ret func162 rfl (vs := [.bool false]) (.tmp (by kernel_rfl) .nil) rfl (fun W S => ⟨rfl, S.below⟩)
    replace h := H.f q2 h
    refine o_set 11 (congrArg Value.bool q2) ?_
    refine p 10 ?_
    refine rend ?_
    replace h := H.done h
    subst h
    exact ret func162 rfl (vs := [.bool false]) (.tmp (by kernel_rfl) .nil) rfl (fun W S => ⟨rfl, S.below⟩)
  replace h := H.f q1 h
  refine o_set 6 (congrArg Value.bool q1) ?_
  refine p 15 ?_
  refine rend ?_
  replace h := H.done h
  subst h
  exact ret func162 rfl (vs := [.bool false]) (.tmp (by kernel_rfl) .nil) rfl (fun W S => ⟨rfl, S.below⟩)
theorem C.cmp_isNaN_int {a0 : Int} {r : Bool} (w : World) (h : X.cmp_isNaN_int a0 = some r) : Calls prog 251 #[.int .i64 a0] w (Ret w (.bool r)) := by
  refine calls (M := no) (args := [.int .i64 a0]) func251 rfl ?_
  replace h : H (X.cmp_isNaN_int a0) (fun o => o = r) := H.mk h
  unfold X.cmp_isNaN_int at h
  refine c_seq ?_
  refine r_start ?_
  refine p 1 ?_
  refine rend ?_
  refine c_seq ?_
  refine r_start ?_
  refine p 4 ?_
  refine rend ?_
  replace h := H.done h
  subst h
  exact ret func251 rfl (vs := [.bool (a0 != a0)]) (.tmp (by kernel_rfl) .nil) rfl (fun W S => ⟨rfl, S.below⟩)
theorem C.cmp_Compare_int {a0 : Int} {a1 : Int} {r : Int} (w : World) (h : X.cmp_Compare_int a0 a1 = some r) : Calls prog 215 #[.int .i64 a0, .int .i64 a1] w (Ret w (.int .i64 r)) := by
  refine calls (M := no) (args := [.int .i64 a0, .int .i64 a1]) func215 rfl ?_
  replace h : H (X.cmp_Compare_int a0 a1) (fun o => o = r) := H.mk h
  unfold X.cmp_Compare_int at h
  refine c_seq ?_
  refine r_start ?_
  refine p 1 ?_
  refine rend ?_
  refine c_seq ?_
  refine r_start ?_
  refine p 1 ?_
  obtain ⟨v1_1, hv1_1, h⟩ := H.call h
  refine xq rfl (y_call [.int .i64 a0] (.bool v1_1) func251 (fun W S => C.cmp_isNaN_int W hv1_1)) ?_
  refine p 1 ?_
  refine rend ?_
  refine c_seq ?_
  refine r_start ?_
  refine p 1 ?_
  obtain ⟨v2_1, hv2_1, h⟩ := H.call h
  refine xq rfl (y_call [.int .i64 a1] (.bool v2_1) func251 (fun W S => C.cmp_isNaN_int W hv2_1)) ?_
  refine p 1 ?_
  refine rend ?_
  refine c_seq ?_
  refine c_seq ?_
  refine r_start ?_
  refine p 1 ?_
  refine rend ?_
  refine c_or v1_1 (fun q1 => ?_) (fun q1 => ?_)
  · replace h := H.t q1 h
    refine c_seq ?_
    refine c_seq ?_
    refine r_start ?_
    refine p 1 ?_
    refine rend ?_
    refine c_or v2_1 (fun q2 => ?_) (fun q2 => ?_)
    · replace h := H.t q2 h
      refine c_seq ?_
      refine r_start ?_
      refine p 1 ?_
      refine rend ?_
      replace h := H.done h
      subst h
      exact ret func215 rfl (vs := [.int .i64 0]) (.tmp (by kernel_rfl) .nil) rfl (fun W S => ⟨rfl, S.below⟩)
    replace h := H.f q2 h
    refine c_skip ?_
    refine c_seq ?_
    refine r_start ?_
    refine p 1 ?_
    refine rend ?_
    replace h := H.done h
    subst h
    exact ret func215 rfl (vs := [.int .i64 (-1)]) (.tmp (by kernel_rfl) .nil) rfl (fun W S => ⟨rfl, S.below⟩)
  replace h := H.f q1 h
  refine c_skip ?_
  refine c_seq ?_
  refine c_seq ?_
  refine r_start ?_
  refine p 1 ?_
  refine rend ?_
  refine c_or v2_1 (fun q3 => ?_) (fun q3 => ?_)
  · replace h := H.t q3 h
    refine c_seq ?_
    refine r_start ?_
    refine p 1 ?_
    refine rend ?_
    replace h := H.done h
    subst h
    exact ret func215 rfl (vs := [.int .i64 1]) (.tmp (by kernel_rfl) .nil) rfl (fun W S => ⟨rfl, S.below⟩)
  replace h := H.f q3 h
  refine c_skip ?_
  refine c_seq ?_
  refine c_seq ?_
  refine r_start ?_
  refine p 3 ?_
  refine rend ?_
  refine c_or (decide (a0 < a1)) (fun q4 => ?_) (fun q4 => ?_)
  · replace h := H.t q4 h
    refine c_seq ?_
    refine r_start ?_
    refine p 1 ?_
    refine rend ?_
    replace h := H.done h
    subst h
    exact ret func215 rfl (vs := [.int .i64 (-1)]) (.tmp (by kernel_rfl) .nil) rfl (fun W S => ⟨rfl, S.below⟩)
  replace h := H.f q4 h
  refine c_skip ?_
  refine c_seq ?_
  refine c_seq ?_
  refine r_start ?_
  refine p 3 ?_
  refine rend ?_
  refine c_or (decide (a0 > a1)) (fun q5 => ?_) (fun q5 => ?_)
  · replace h := H.t q5 h
    refine c_seq ?_
    refine r_start ?_
    refine p 1 ?_
    refine rend ?_
    replace h := H.done h
    subst h
    exact ret func215 rfl (vs := [.int .i64 1]) (.tmp (by kernel_rfl) .nil) rfl (fun W S => ⟨rfl, S.below⟩)
  replace h := H.f q5 h
  refine c_skip ?_
  refine c_seq ?_
  refine r_start ?_
  refine p 1 ?_
  refine rend ?_
  replace h := H.done h
  subst h
  exact ret func215 rfl (vs := [.int .i64 0]) (.tmp (by kernel_rfl) .nil) rfl (fun W S => ⟨rfl, S.below⟩)
theorem C.i_compareEntries {a0 : Entry} {a1 : Entry} {r : Int} (w : World) (h : X.i_compareEntries a0 a1 = some r) : Calls prog 163 #[.agg (eEntry a0).toArray, .agg (eEntry a1).toArray] w (Ret w (.int .i64 r)) := by
  refine calls (M := no) (args := [.agg (eEntry a0).toArray, .agg (eEntry a1).toArray]) func163 rfl ?_
  replace h : H (X.i_compareEntries a0 a1) (fun o => o = r) := H.mk h
  unfold X.i_compareEntries at h
  refine c_seq ?_
  refine r_start ?_
  refine xx rfl (x_box (eEntry a0) fun g0_0 => ?_)
  refine xx rfl (x_box (eEntry a1) fun g0_1 => ?_)
  refine p 1 ?_
  refine rend ?_
  refine c_seq ?_
  refine as_start 13 13 ?_
  refine ap 0 1 ?_
  refine aq 1 rfl (y_load (.string (bs a0.Gloss)) 0 g0_0 0) ?_
  refine ap 2 1 ?_
  refine aq 3 rfl (y_load (.string (bs a1.Gloss)) 1 g0_1 0) ?_
  obtain ⟨v1_4, hv1_4, h⟩ := H.call h
  refine aq 4 rfl (y_call [.string (bs a0.Gloss), .string (bs a1.Gloss)] (.int .i64 v1_4) func155 (fun W S => C.strings_Compare W hv1_4)) ?_
  refine ap 5 1 ?_
  refine aq 6 rfl (y_load (.int .i64 a0.Region) 0 g0_0 28) ?_
  refine ap 7 1 ?_
  refine aq 8 rfl (y_load (.int .i64 a1.Region) 1 g0_1 28) ?_
  obtain ⟨v1_9, hv1_9, h⟩ := H.call h
  refine aq 9 rfl (y_call [.int .i64 a0.Region, .int .i64 a1.Region] (.int .i64 v1_9) func215 (fun W S => C.cmp_Compare_int W hv1_9)) ?_
  refine ax 10 rfl (e_lit (e := (eI .i64)) (el := 3) [.int .i64 v1_4, .int .i64 v1_9] ([v1_4, v1_9] : List Int) fun A1_10 k1_10 => ⟨.inr (by kernel_rfl), ?_⟩)
  obtain ⟨v1_11, hv1_11, h⟩ := H.call h
  refine ax 11 rfl (e_y (y_call [.slice A1_10 (List.length ([v1_4, v1_9] : List Int)) k1_10] (.int .i64 v1_11) func156 (fun W S => C.cmp_Or_int W hv1_11 ((s_own 2).out W S))) ⟨.inr (by kernel_rfl), ?_⟩)
  refine ap 12 1 ?_
  refine a_done ?_
  replace h := H.done h
  subst h
  exact ret func163 rfl (vs := [.int .i64 v1_11]) (.tmp (by kernel_rfl) .nil) rfl (fun W S => ⟨rfl, S.below⟩)
theorem C.i_AreEntries {fu : Nat} {a0 : (List Entry)} {A0 : Option Addr} {k0 : Nat} {r : Bool} (w : World) (h : X.i_AreEntries fu a0 = some r) (h0 : RdT nEntry w (.slice A0 (List.length a0) k0) a0) : Calls prog 100 #[.slice A0 (List.length a0) k0] w (Ret w (.bool r)) := by
  refine calls (M := no) (args := [.slice A0 (List.length a0) k0]) func100 rfl ?_
  replace h : H (X.i_AreEntries fu a0) (fun o => o = r) := H.mk h
  unfold X.i_AreEntries at h
  refine c_seq ?_
  refine r_start ?_
  refine p 1 ?_
  refine rend ?_
  refine c_seq ?_
  refine c_seq ?_
  refine r_start ?_
  refine p 3 ?_
  refine rend ?_
  refine c_block ?_
  refine joinE (X := Unit) 0 (H.or h) (fun (x : Unit) => x) (fun _ => []) (fun _ u => (.slice A0 (List.length a0) k0 :: (jk u 1 32 []))) (fun h hj1 => ?_) ?_
  · skip
    refine rangeR (X := Unit) (s_arg h0) (fun (x : Unit) => x) (fun _ => []) (fun (j2 : Nat) _ u => (.slice A0 (List.length a0) k0 :: (jk u 1 4 (.slice A0 (List.length a0) k0 :: .int .i64 (List.length a0 : Int) :: .int .i64 (j2 : Int) :: (jk u 8 25 []))))) () h (by kernel_rfl) (by kernel_rfl) ?_ ?_
    · intro j2 x u x3 q4 hg5 hw6 h
      refine c_seq ?_
      refine r_start ?_
      refine p 1 ?_
      refine rend ?_
      refine c_seq ?_
      refine c_yes q4 ?_
      refine c_skip ?_
      refine c_seq ?_
      refine c_block ?_
      refine c_seq ?_
      refine r_start ?_
      refine p 1 ?_
      refine xq rfl (y_idx (e := nEntry) (el := 129) hg5 (s_arg h0)) ?_
      refine xq rfl (y_el (e := nEntry) 0 (.agg (eEntry x3).toArray) hg5 (s_arg h0)) ?_
      refine xx rfl (x_new (eEntry zEntry) fun g3_3 => ?_)
      refine p 1 ?_
      refine xx rfl (x_sto 0 g3_3 0 (eEntry x3) ?_)
      refine rend ?_
      refine c_seq ?_
      refine as_start 17 17 ?_
      refine aq 0 rfl (y_load (.agg (eEntry x3).toArray) 0 g3_3 0) ?_
      obtain ⟨v4_1, hv4_1, h⟩ := H.call h
      refine aq 1 rfl (y_call [.agg (eEntry x3).toArray] (.bool v4_1) func162 (fun W S => C.i_isEntry W hv4_1)) ?_
      refine ap 2 2 ?_
      refine br (!v4_1) (fun q7 => ?_) (fun q7 => ?_)
      · replace h := H.t q7 h
        refine a_set 15 (congrArg Value.bool q7) ?_
        refine ap 4 13 ?_
        refine a_done ?_
        refine c_t (by kernel_rfl) ?_
        refine c_seq ?_
        refine r_start ?_
        refine p 1 ?_
        refine rend ?_
        replace h := H.inr h
        replace h := H.done h
        subst h
        exact ret func100 rfl (vs := [.bool false]) (.tmp (by kernel_rfl) .nil) rfl (fun W S => ⟨rfl, S.below⟩)
      replace h := H.f q7 h
      refine a_set 15 (congrArg Value.bool q7) ?_
      refine ap 4 3 ?_
      refine br (decide ((j2 : Int) > 0)) (fun q8 => ?_) (fun q8 => ?_)
      · replace h := H.t q8 h
        refine a_set 18 (congrArg Value.bool q8) ?_
        refine ap 7 3 ?_
        obtain ⟨y4_10, hy4_10, h⟩ := H.call h
        refine aq 10 rfl (y_idx (e := nEntry) (el := 129) hy4_10 (s_arg h0)) ?_
        refine aq 11 rfl (y_el (e := nEntry) 0 (.agg (eEntry y4_10).toArray) hy4_10 (s_arg h0)) ?_
        refine aq 12 rfl (y_load (.agg (eEntry x3).toArray) 0 g3_3 0) ?_
        obtain ⟨v4_13, hv4_13, h⟩ := H.call h
        refine aq 13 rfl (y_call [.agg (eEntry y4_10).toArray, .agg (eEntry x3).toArray] (.int .i64 v4_13) func163 (fun W S => C.i_compareEntries W hv4_13)) ?_
        refine ap 14 3 ?_
        refine a_done ?_
        refine c_or (decide (v4_13 ≥ 0)) (fun q9 => ?_) (fun q9 => ?_)
        · replace h := H.t q9 h
          refine c_seq ?_
          refine r_start ?_
          refine p 1 ?_
          refine rend ?_
          replace h := H.inr h
          replace h := H.done h
          subst h
          exact ret func100 rfl (vs := [.bool false]) (.tmp (by kernel_rfl) .nil) rfl (fun W S => ⟨rfl, S.below⟩)
        replace h := H.f q9 h
        refine c_skip ?_
        refine c_inb ?_
        refine r_start ?_
        refine p 2 ?_
        refine rend ?_
        refine c_set 7 (ci hw6) ?_
        replace h := H.inl h
        exact h () _ _ rfl (by kernel_rfl) (by kernel_rfl)
      replace h := H.f q8 h
      refine a_set 18 (congrArg Value.bool q8) ?_
      refine ap 7 10 ?_
      refine a_done ?_
      refine c_f (by kernel_rfl) ?_
      refine c_skip ?_
      refine c_inb ?_
      refine r_start ?_
      refine p 2 ?_
      refine rend ?_
      refine c_set 7 (ci hw6) ?_
      replace h := H.inl h
      exact h () _ _ rfl (by kernel_rfl) (by kernel_rfl)
    · intro x u q4 h
      refine c_seq ?_
      refine r_start ?_
      refine p 1 ?_
      refine rend ?_
      refine c_seq ?_
      refine c_no q4 ?_
      refine cx ?_
      replace h := H.done h
      exact hj1 () _ _ h (by kernel_rfl) (by kernel_rfl)
  intro x u h
  refine c_seq ?_
  refine r_start ?_
  refine p 4 ?_
  refine rend ?_
  replace h := H.done h
  subst h
  exact ret func100 rfl (vs := [.bool (decide ((List.length a0 : Int) ≤ 16))]) (.tmp (by kernel_rfl) .nil) rfl (fun W S => ⟨rfl, S.below⟩)
theorem C.l_eqEntry {a0 : Entry} {a1 : Entry} {r : Bool} (w : World) (h : X.l_eqEntry a0 a1 = some r) : Calls prog 104 #[.agg (eEntry a0).toArray, .agg (eEntry a1).toArray] w (Ret w (.bool r)) := by
  refine calls (M := no) (args := [.agg (eEntry a0).toArray, .agg (eEntry a1).toArray]) func104 rfl ?_
  replace h : H (X.l_eqEntry a0 a1) (fun o => o = r) := H.mk h
  unfold X.l_eqEntry at h
  refine c_seq ?_
  refine r_start ?_
  refine xx rfl (x_box (eEntry a0) fun g0_0 => ?_)
  refine xx rfl (x_box (eEntry a1) fun g0_1 => ?_)
  refine p 1 ?_
  refine rend ?_
  refine c_seq ?_
  refine c_seq ?_
  refine r_start ?_
  refine p 1 ?_
  refine xq rfl (y_load (.string (bs a0.Gloss)) 0 g0_0 0) ?_
  refine p 1 ?_
  refine xq rfl (y_load (.string (bs a1.Gloss)) 1 g0_1 0) ?_
  refine p 1 ?_
  refine rend ?_
  refine c_or (!seq a0.Gloss a1.Gloss) (fun q1 => ?_) (fun q1 => ?_)
  · replace h := H.t q1 h
    refine c_seq ?_
    refine r_start ?_
    refine p 1 ?_
    refine rend ?_
    replace h := H.done h
    subst h
    exact ret func104 rfl (vs := [.bool false]) (.tmp (by kernel_rfl) .nil) rfl (fun W S => ⟨rfl, S.below⟩)
  replace h := H.f q1 h
  refine c_skip ?_
  refine c_seq ?_
  refine c_seq ?_
  refine r_start ?_
  refine p 1 ?_
  refine xq rfl (y_load (.agg (eSign a0.Sign).toArray) 0 g0_0 1) ?_
  refine p 1 ?_
  refine xq rfl (y_load (.agg (eSign a1.Sign).toArray) 1 g0_1 1) ?_
  obtain ⟨v3_4, hv3_4, h⟩ := H.call h
  refine xq rfl (y_call [.agg (eSign a0.Sign).toArray, .agg (eSign a1.Sign).toArray] (.bool v3_4) func49 (fun W S => C.l_eqSign W hv3_4)) ?_
  refine p 1 ?_
  refine rend ?_
  refine c_or (!v3_4) (fun q2 => ?_) (fun q2 => ?_)
  · replace h := H.t q2 h
    refine c_seq ?_
    refine r_start ?_
    refine p 1 ?_
    refine rend ?_
    replace h := H.done h
    subst h
    exact ret func104 rfl (vs := [.bool false]) (.tmp (by kernel_rfl) .nil) rfl (fun W S => ⟨rfl, S.below⟩)
  replace h := H.f q2 h
  refine c_skip ?_
  refine c_seq ?_
  refine c_seq ?_
  refine r_start ?_
  refine p 1 ?_
  refine xq rfl (y_load (.int .i64 a0.Region) 0 g0_0 28) ?_
  refine p 1 ?_
  refine xq rfl (y_load (.int .i64 a1.Region) 1 g0_1 28) ?_
  refine p 1 ?_
  refine rend ?_
  refine c_or (a0.Region != a1.Region) (fun q3 => ?_) (fun q3 => ?_)
  · replace h := H.t q3 h
    refine c_seq ?_
    refine r_start ?_
    refine p 1 ?_
    refine rend ?_
    replace h := H.done h
    subst h
    exact ret func104 rfl (vs := [.bool false]) (.tmp (by kernel_rfl) .nil) rfl (fun W S => ⟨rfl, S.below⟩)
  replace h := H.f q3 h
  refine c_skip ?_
  refine c_seq ?_
  refine c_seq ?_
  refine r_start ?_
  refine p 1 ?_
  refine xq rfl (y_load (.int .i64 a0.Uses) 0 g0_0 29) ?_
  refine p 1 ?_
  refine xq rfl (y_load (.int .i64 a1.Uses) 1 g0_1 29) ?_
  refine p 1 ?_
  refine rend ?_
  refine c_or (a0.Uses != a1.Uses) (fun q4 => ?_) (fun q4 => ?_)
  · replace h := H.t q4 h
    refine c_seq ?_
    refine r_start ?_
    refine p 1 ?_
    refine rend ?_
    replace h := H.done h
    subst h
    exact ret func104 rfl (vs := [.bool false]) (.tmp (by kernel_rfl) .nil) rfl (fun W S => ⟨rfl, S.below⟩)
  replace h := H.f q4 h
  refine c_skip ?_
  refine c_seq ?_
  refine r_start ?_
  refine p 1 ?_
  refine rend ?_
  replace h := H.done h
  subst h
  exact ret func104 rfl (vs := [.bool true]) (.tmp (by kernel_rfl) .nil) rfl (fun W S => ⟨rfl, S.below⟩)
theorem C.l_eqEntryS {fu : Nat} {a0 : (List Entry)} {A0 : Option Addr} {k0 : Nat} {a1 : (List Entry)} {A1 : Option Addr} {k1 : Nat} {r : Bool} (w : World) (h : X.l_eqEntryS fu a0 a1 = some r) (h0 : RdT nEntry w (.slice A0 (List.length a0) k0) a0) (h1 : RdT nEntry w (.slice A1 (List.length a1) k1) a1) : Calls prog 35 #[.slice A0 (List.length a0) k0, .slice A1 (List.length a1) k1] w (Ret w (.bool r)) := by
  refine calls (M := no) (args := [.slice A0 (List.length a0) k0, .slice A1 (List.length a1) k1]) func35 rfl ?_
  replace h : H (X.l_eqEntryS fu a0 a1) (fun o => o = r) := H.mk h
  unfold X.l_eqEntryS at h
  refine c_seq ?_
  refine r_start ?_
  refine p 1 ?_
  refine rend ?_
  refine c_seq ?_
  refine c_seq ?_
  refine r_start ?_
  refine p 5 ?_
  refine rend ?_
  refine c_or ((List.length a0 : Int) != (List.length a1 : Int)) (fun q1 => ?_) (fun q1 => ?_)
  · replace h := H.t q1 h
    refine c_seq ?_
    refine r_start ?_
    refine p 1 ?_
    refine rend ?_
    replace h := H.done h
    subst h
    exact ret func35 rfl (vs := [.bool false]) (.tmp (by kernel_rfl) .nil) rfl (fun W S => ⟨rfl, S.below⟩)
  replace h := H.f q1 h
  refine c_skip ?_
  refine c_seq ?_
  refine c_seq ?_
  refine r_start ?_
  refine p 1 ?_
  refine rend ?_
  refine c_block ?_
  refine joinE (X := Unit) 0 (H.or h) (fun (x : Unit) => x) (fun _ => []) (fun _ u => (jk u 0 27 [])) (fun h hj3 => ?_) ?_
  · skip
    refine loopR (X := Int) (fun (x : Int) => x) (fun n2 => []) (fun n2 u => (.slice A0 (List.length a0) k0 :: .slice A1 (List.length a1) k1 :: (jk u 2 3 (.int .i64 n2 :: (jk u 6 21 []))))) 0 h (by kernel_rfl) (by kernel_rfl) ?_
    intro n2 u h
    refine c_seq ?_
    refine c_seq ?_
    refine r_start ?_
    refine p 4 ?_
    refine rend ?_
    refine c_or (decide (n2 < (List.length a0 : Int))) (fun q4 => ?_) (fun q4 => ?_)
    · replace h := H.t q4 h
      refine c_skip ?_
      refine c_seq ?_
      refine c_block ?_
      refine c_seq ?_
      refine as_start 10 10 ?_
      refine ap 0 2 ?_
      obtain ⟨y6_2, hy6_2, h⟩ := H.call h
      refine aq 2 rfl (y_idx (e := nEntry) (el := 129) hy6_2 (s_arg h0)) ?_
      refine aq 3 rfl (y_el (e := nEntry) 0 (.agg (eEntry y6_2).toArray) hy6_2 (s_arg h0)) ?_
      refine ap 4 2 ?_
      obtain ⟨y6_6, hy6_6, h⟩ := H.call h
      refine aq 6 rfl (y_idx (e := nEntry) (el := 129) hy6_6 (s_arg h1)) ?_
      refine aq 7 rfl (y_el (e := nEntry) 0 (.agg (eEntry y6_6).toArray) hy6_6 (s_arg h1)) ?_
      obtain ⟨v6_8, hv6_8, h⟩ := H.call h
      refine aq 8 rfl (y_call [.agg (eEntry y6_2).toArray, .agg (eEntry y6_6).toArray] (.bool v6_8) func104 (fun W S => C.l_eqEntry W hv6_8)) ?_
      refine ap 9 1 ?_
      refine a_done ?_
      refine c_or (!v6_8) (fun q5 => ?_) (fun q5 => ?_)
      · replace h := H.t q5 h
        refine c_seq ?_
        refine r_start ?_
        refine p 1 ?_
        refine rend ?_
        replace h := H.inr h
        replace h := H.done h
        subst h
        exact ret func35 rfl (vs := [.bool false]) (.tmp (by kernel_rfl) .nil) rfl (fun W S => ⟨rfl, S.below⟩)
      replace h := H.f q5 h
      refine c_skip ?_
      refine c_inb ?_
      refine r_start ?_
      refine p 3 ?_
      refine rend ?_
      replace h := H.inl h
      exact h (wr (n2 + 1)) _ _ rfl (by kernel_rfl) (by kernel_rfl)
    replace h := H.f q4 h
    refine cx ?_
    replace h := H.inr h
    exact hj3 () _ _ h (by kernel_rfl) (by kernel_rfl)
  intro x u h
  refine c_seq ?_
  refine r_start ?_
  refine p 1 ?_
  refine rend ?_
  replace h := H.done h
  subst h
  exact ret func35 rfl (vs := [.bool true]) (.tmp (by kernel_rfl) .nil) rfl (fun W S => ⟨rfl, S.below⟩)
theorem C.l_eqIntS {fu : Nat} {a0 : (List Int)} {A0 : Option Addr} {k0 : Nat} {a1 : (List Int)} {A1 : Option Addr} {k1 : Nat} {r : Bool} (w : World) (h : X.l_eqIntS fu a0 a1 = some r) (h0 : RdT (eI .i64) w (.slice A0 (List.length a0) k0) a0) (h1 : RdT (eI .i64) w (.slice A1 (List.length a1) k1) a1) : Calls prog 42 #[.slice A0 (List.length a0) k0, .slice A1 (List.length a1) k1] w (Ret w (.bool r)) := by
  refine calls (M := no) (args := [.slice A0 (List.length a0) k0, .slice A1 (List.length a1) k1]) func42 rfl ?_
  replace h : H (X.l_eqIntS fu a0 a1) (fun o => o = r) := H.mk h
  unfold X.l_eqIntS at h
  refine c_seq ?_
  refine r_start ?_
  refine p 1 ?_
  refine rend ?_
  refine c_seq ?_
  refine c_seq ?_
  refine r_start ?_
  refine p 5 ?_
  refine rend ?_
  refine c_or ((List.length a0 : Int) != (List.length a1 : Int)) (fun q1 => ?_) (fun q1 => ?_)
  · replace h := H.t q1 h
    refine c_seq ?_
    refine r_start ?_
    refine p 1 ?_
    refine rend ?_
    replace h := H.done h
    subst h
    exact ret func42 rfl (vs := [.bool false]) (.tmp (by kernel_rfl) .nil) rfl (fun W S => ⟨rfl, S.below⟩)
  replace h := H.f q1 h
  refine c_skip ?_
  refine c_seq ?_
  refine c_seq ?_
  refine r_start ?_
  refine p 1 ?_
  refine rend ?_
  refine c_block ?_
  refine joinE (X := Unit) 0 (H.or h) (fun (x : Unit) => x) (fun _ => []) (fun _ u => (jk u 0 26 [])) (fun h hj3 => ?_) ?_
  · skip
    refine loopR (X := Int) (fun (x : Int) => x) (fun n2 => []) (fun n2 u => (.slice A0 (List.length a0) k0 :: .slice A1 (List.length a1) k1 :: (jk u 2 3 (.int .i64 n2 :: (jk u 6 20 []))))) 0 h (by kernel_rfl) (by kernel_rfl) ?_
    intro n2 u h
    refine c_seq ?_
    refine c_seq ?_
    refine r_start ?_
    refine p 4 ?_
    refine rend ?_
    refine c_or (decide (n2 < (List.length a0 : Int))) (fun q4 => ?_) (fun q4 => ?_)
    · replace h := H.t q4 h
      refine c_skip ?_
      refine c_seq ?_
      refine c_block ?_
      refine c_seq ?_
      refine as_start 9 9 ?_
      refine ap 0 2 ?_
      obtain ⟨y6_2, hy6_2, h⟩ := H.call h
      refine aq 2 rfl (y_idx (e := (eI .i64)) (el := 3) hy6_2 (s_arg h0)) ?_
      refine aq 3 rfl (y_el (e := (eI .i64)) 0 (.int .i64 y6_2) hy6_2 (s_arg h0)) ?_
      refine ap 4 2 ?_
      obtain ⟨y6_6, hy6_6, h⟩ := H.call h
      refine aq 6 rfl (y_idx (e := (eI .i64)) (el := 3) hy6_6 (s_arg h1)) ?_
      refine aq 7 rfl (y_el (e := (eI .i64)) 0 (.int .i64 y6_6) hy6_6 (s_arg h1)) ?_
      refine ap 8 1 ?_
      refine a_done ?_
      refine c_or (y6_2 != y6_6) (fun q5 => ?_) (fun q5 => ?_)
      · replace h := H.t q5 h
        refine c_seq ?_
        refine r_start ?_
        refine p 1 ?_
        refine rend ?_
        replace h := H.inr h
        replace h := H.done h
        subst h
        exact ret func42 rfl (vs := [.bool false]) (.tmp (by kernel_rfl) .nil) rfl (fun W S => ⟨rfl, S.below⟩)
      replace h := H.f q5 h
      refine c_skip ?_
      refine c_inb ?_
      refine r_start ?_
      refine p 3 ?_
      refine rend ?_
      replace h := H.inl h
      exact h (wr (n2 + 1)) _ _ rfl (by kernel_rfl) (by kernel_rfl)
    replace h := H.f q4 h
    refine cx ?_
    replace h := H.inr h
    exact hj3 () _ _ h (by kernel_rfl) (by kernel_rfl)
  intro x u h
  refine c_seq ?_
  refine r_start ?_
  refine p 1 ?_
  refine rend ?_
  replace h := H.done h
  subst h
  exact ret func42 rfl (vs := [.bool true]) (.tmp (by kernel_rfl) .nil) rfl (fun W S => ⟨rfl, S.below⟩)
theorem C.l_markIntS {fu : Nat} {a0 : (List Int)} {A0 : Option Addr} {k0 B0 n0 : Nat} {a1 : Int} {r : (Int × (List Int))} (w : World) (h : X.l_markIntS fu a0 a1 = some r) (hn0 : List.length a0 = n0) (h0 : World.ownsRow w B0 3 (Enc.sz (eI .i64)) (.slice A0 n0 k0) n0 (Enc.flat (eI .i64) a0)) : Calls prog 43 #[.slice A0 (n0) k0, .int .i64 a1] w (RetW (eI .i64) B0 3 A0 n0 k0 w r.2 (.int .i64 r.1)) := by
  subst hn0
  refine callsW (args := [.slice A0 (List.length a0) k0, .int .i64 a1]) rfl h0 func43 rfl ?_
  replace h : H (X.l_markIntS fu a0 a1) (fun o => o = r) := H.mk h
  unfold X.l_markIntS at h
  refine c_seq ?_
  refine r_start ?_
  refine p 1 ?_
  refine rend ?_
  refine c_seq ?_
  refine c_seq ?_
  refine r_start ?_
  refine p 1 ?_
  refine rend ?_
  refine c_block ?_
  refine joinH (X := (Int × (List Int))) 0 (H.bnd h) (fun (x : (Int × (List Int))) => x) (fun ⟨n4, l5⟩ => [argW (eI .i64) B0 3 A0 (List.length a0) k0 l5]) (fun ⟨n4, l5⟩ u => (jk u 0 1 (.int .i64 n4 :: (jk u 2 17 [])))) (fun h hj6 => ?_) ?_
  · skip
    refine loopR (X := (Int × Int × (List Int))) (fun (x : (Int × Int × (List Int))) => x) (fun ⟨n1, n2, l3⟩ => [argW (eI .i64) B0 3 A0 (List.length a0) k0 l3]) (fun ⟨n1, n2, l3⟩ u => (.slice A0 (List.length a0) k0 :: .int .i64 n1 :: (jk u 2 3 (.int .i64 n2 :: (jk u 6 13 []))))) (a1, 0, a0) h (by kernel_rfl) (by kernel_rfl) ?_
    intro x u h
    obtain ⟨n1, n2, l3⟩ := x
    refine c_seq ?_
    refine c_seq ?_
    refine r_start ?_
    refine p 4 ?_
    refine rend ?_
    refine c_or (decide (n2 < (List.length a0 : Int))) (fun q7 => ?_) (fun q7 => ?_)
    · replace h := H.t q7 h
      refine c_skip ?_
      refine c_seq ?_
      refine c_block ?_
      refine c_seq ?_
      refine r_start ?_
      refine p 3 ?_
      obtain ⟨y4_3, hy4_3, h⟩ := H.call h
      refine xq rfl (y_idxW (e := (eI .i64)) (el := 3) 0 hy4_3) ?_
      refine xx rfl (e_stW (e := (eI .i64)) (b := n1) 0 0 ([.int .i64 n1]) hy4_3 (by kernel_rfl) ?_)
      refine rend ?_
      refine r_start ?_
      refine p 3 ?_
      refine rend ?_
      refine c_inb ?_
      refine r_start ?_
      refine p 3 ?_
      refine rend ?_
      replace h := H.inl h
      exact h ((wr (n1 + 1)), (wr (n2 + 1)), (List.set l3 (Int.toNat n2) n1)) _ _ rfl (by kernel_rfl) (by kernel_rfl)
    replace h := H.f q7 h
    refine cx ?_
    replace h := H.inr h
    exact hj6 (n1, l3) _ _ h (by kernel_rfl) (by kernel_rfl)
  intro x u h
  obtain ⟨n4, l5⟩ := x
  refine c_seq ?_
  refine r_start ?_
  refine p 2 ?_
  refine rend ?_
  replace h := H.done h
  subst h
  exact ret func43 rfl (vs := [.int .i64 n4]) (.tmp (by kernel_rfl) .nil) rfl (fun W S => S.retW)
theorem C.l_heldIntS {fu : Nat} {a0 : (List Int)} {A0 : Option Addr} {k0 : Nat} {a1 : Int} {r : Int} (w : World) (h : X.l_heldIntS fu a0 a1 = some r) (h0 : RdT (eI .i64) w (.slice A0 (List.length a0) k0) a0) : Calls prog 44 #[.slice A0 (List.length a0) k0, .int .i64 a1] w (Ret w (.int .i64 r)) := by
  refine calls (M := no) (args := [.slice A0 (List.length a0) k0, .int .i64 a1]) func44 rfl ?_
  replace h : H (X.l_heldIntS fu a0 a1) (fun o => o = r) := H.mk h
  unfold X.l_heldIntS at h
  refine c_seq ?_
  refine r_start ?_
  refine p 1 ?_
  refine rend ?_
  refine c_seq ?_
  refine c_seq ?_
  refine r_start ?_
  refine p 1 ?_
  refine rend ?_
  refine c_block ?_
  refine joinE (X := Int) 0 (H.or h) (fun (x : Int) => x) (fun n3 => []) (fun n3 u => (jk u 0 1 (.int .i64 n3 :: (jk u 2 19 [])))) (fun h hj4 => ?_) ?_
  · skip
    refine loopR (X := (Int × Int)) (fun (x : (Int × Int)) => x) (fun ⟨n1, n2⟩ => []) (fun ⟨n1, n2⟩ u => (.slice A0 (List.length a0) k0 :: .int .i64 n1 :: (jk u 2 3 (.int .i64 n2 :: (jk u 6 15 []))))) (a1, 0) h (by kernel_rfl) (by kernel_rfl) ?_
    intro x u h
    obtain ⟨n1, n2⟩ := x
    refine c_seq ?_
    refine c_seq ?_
    refine r_start ?_
    refine p 4 ?_
    refine rend ?_
    refine c_or (decide (n2 < (List.length a0 : Int))) (fun q5 => ?_) (fun q5 => ?_)
    · replace h := H.t q5 h
      refine c_skip ?_
      refine c_seq ?_
      refine c_block ?_
      refine c_seq ?_
      refine c_seq ?_
      refine r_start ?_
      refine p 2 ?_
      obtain ⟨y4_2, hy4_2, h⟩ := H.call h
      refine xq rfl (y_idx (e := (eI .i64)) (el := 3) hy4_2 (s_arg h0)) ?_
      refine xq rfl (y_el (e := (eI .i64)) 0 (.int .i64 y4_2) hy4_2 (s_arg h0)) ?_
      refine p 2 ?_
      refine rend ?_
      refine c_or (y4_2 != n1) (fun q6 => ?_) (fun q6 => ?_)
      · replace h := H.t q6 h
        refine c_seq ?_
        refine r_start ?_
        refine p 1 ?_
        refine rend ?_
        replace h := H.inr h
        replace h := H.done h
        subst h
        exact ret func44 rfl (vs := [.int .i64 (-1)]) (.tmp (by kernel_rfl) .nil) rfl (fun W S => ⟨rfl, S.below⟩)
      replace h := H.f q6 h
      refine c_skip ?_
      refine r_start ?_
      refine p 3 ?_
      refine rend ?_
      refine c_inb ?_
      refine r_start ?_
      refine p 3 ?_
      refine rend ?_
      replace h := H.inl h
      exact h ((wr (n1 + 1)), (wr (n2 + 1))) _ _ rfl (by kernel_rfl) (by kernel_rfl)
    replace h := H.f q5 h
    refine cx ?_
    replace h := H.inr h
    exact hj4 n1 _ _ h (by kernel_rfl) (by kernel_rfl)
  intro n3 u h
  refine c_seq ?_
  refine r_start ?_
  refine p 2 ?_
  refine rend ?_
  replace h := H.done h
  subst h
  exact ret func44 rfl (vs := [.int .i64 n3]) (.tmp (by kernel_rfl) .nil) rfl (fun W S => ⟨rfl, S.below⟩)
theorem C.l_markText {fu : Nat} {a0 : Int} {r : Str} (w : World) (h : X.l_markText fu a0 = some r) : Calls prog 110 #[.int .i64 a0] w (Ret w (.string (bs r))) := by
  refine calls (M := no) (args := [.int .i64 a0]) func110 rfl ?_
  replace h : H (X.l_markText fu a0) (fun o => o = r) := H.mk h
  unfold X.l_markText at h
  refine c_seq ?_
  refine r_start ?_
  refine p 1 ?_
  refine rend ?_
  refine c_seq ?_
  refine c_seq ?_
  refine r_start ?_
  refine p 2 ?_
  refine rend ?_
  refine c_or (decide (a0 ≤ 0)) (fun q1 => ?_) (fun q1 => ?_)
  · replace h := H.t q1 h
    refine c_seq ?_
    refine r_start ?_
    refine p 1 ?_
    refine rend ?_
    replace h := H.done h
    subst h
    exact ret func110 rfl (vs := [.string (bs ([109, 48] : Str))]) (.tmp (by kernel_rfl) .nil) rfl (fun W S => ⟨rfl, S.below⟩)
  replace h := H.f q1 h
  refine c_skip ?_
  refine c_seq ?_
  refine r_start ?_
  refine p 1 ?_
  refine rend ?_
  refine c_seq ?_
  refine c_block ?_
  refine joinH (X := Str) 0 (H.bnd h) (fun (x : Str) => x) (fun t4 => []) (fun t4 u => (jk u 0 3 (.string (bs t4) :: (jk u 4 16 [])))) (fun h hj5 => ?_) ?_
  · skip
    refine loopR (X := (Int × Str)) (fun (x : (Int × Str)) => x) (fun ⟨n2, t3⟩ => []) (fun ⟨n2, t3⟩ u => (.int .i64 n2 :: (jk u 1 2 (.string (bs t3) :: (jk u 4 16 []))))) (a0, ([] : Str)) h (by kernel_rfl) (by kernel_rfl) ?_
    intro x u h
    obtain ⟨n2, t3⟩ := x
    refine c_seq ?_
    refine c_seq ?_
    refine r_start ?_
    refine p 2 ?_
    refine rend ?_
    refine c_or (decide (n2 > 0)) (fun q6 => ?_) (fun q6 => ?_)
    · replace h := H.t q6 h
      refine c_skip ?_
      refine c_block ?_
      refine c_seq ?_
      refine r_start ?_
      refine p 4 ?_
      refine xx rfl (e_lit (e := (eI .u8)) (el := 5) [.int .u8 (wk .u8 (wr (48 + (Int.tmod n2 10))))] ([(wk .u8 (wr (48 + (Int.tmod n2 10))))] : List Int) fun A5_4 k5_4 => ?_)
      refine xq rfl (y_conv (el := 5) (s_own 0)) ?_
      refine p 1 ?_
      obtain ⟨y5_7, hy5_7, h⟩ := H.call h
      refine xq rfl (y_cat hy5_7) ?_
      refine p 1 ?_
      refine rend ?_
      refine r_start ?_
      refine p 3 ?_
      refine rend ?_
      refine c_inb ?_
      replace h := H.inl h
      exact h ((wr (Int.tdiv n2 10)), y5_7) _ _ rfl (by kernel_rfl) (by kernel_rfl)
    replace h := H.f q6 h
    refine cx ?_
    replace h := H.inr h
    exact hj5 t3 _ _ h (by kernel_rfl) (by kernel_rfl)
  intro t4 u h
  refine c_seq ?_
  refine r_start ?_
  refine p 1 ?_
  obtain ⟨y7_1, hy7_1, h⟩ := H.call h
  refine xq rfl (y_cat hy7_1) ?_
  refine p 1 ?_
  refine rend ?_
  replace h := H.done h
  subst h
  exact ret func110 rfl (vs := [.string (bs y7_1)]) (.tmp (by kernel_rfl) .nil) rfl (fun W S => ⟨rfl, S.below⟩)
end Go.Proofs.XC
