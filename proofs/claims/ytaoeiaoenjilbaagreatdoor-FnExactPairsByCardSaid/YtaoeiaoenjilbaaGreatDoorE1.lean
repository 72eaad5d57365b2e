/- Contracts: each function of the given program, called where its plain function gives an answer, returns just that answer and changes nothing that was there. By AI agents; no person has read it. -/
import Derived.Test.YtaoeiaoenjilbaaGreatDoorC1
set_option linter.unusedVariables false
set_option linter.unusedSimpArgs false
set_option maxRecDepth 100000
set_option maxHeartbeats 40000000
namespace Go.Proofs.XC
open Go Go.RowKit
open Tryz
theorem C.s_prApart {fu : Nat} {a0 : Sign} {a1 : Sign} {r : (List Int)} (w : World) (h : X.s_prApart fu a0 a1 = some r) : Calls prog 117 #[.agg (eSign a0).toArray, .agg (eSign a1).toArray] w (RetR (eI .i64) 3 w r (fun v => v)) := by
  refine calls (M := no) (args := [.agg (eSign a0).toArray, .agg (eSign a1).toArray]) func117 rfl ?_
  replace h : H (X.s_prApart fu a0 a1) (fun o => o = r) := H.mk h
  unfold X.s_prApart at h
  refine c_seq ?_
  refine r_start ?_
  refine xx rfl (x_box (eSign a0) fun g0_0 => ?_)
  refine xx rfl (x_box (eSign a1) fun g0_1 => ?_)
  refine p 1 ?_
  refine rend ?_
  refine c_seq ?_
  refine joinT (X := (Sign × Sign × Nat × Nat)) (H.bnd h) (fun ⟨s1, s2, g1_4, g1_5⟩ => (s1, s2)) (fun ⟨s1, s2, g1_4, g1_5⟩ => [box g0_0 85 (eSign a0), box g0_1 85 (eSign a1), box g1_4 85 (eSign s1), box g1_5 85 (eSign s2)]) (fun ⟨s1, s2, g1_4, g1_5⟩ u => (jk u 0 5 (.pointer (some ⟨g1_4, 0, none⟩) :: .pointer (some ⟨g1_5, 0, none⟩) :: (jk u 7 61 [])))) (fun h hj3 => ?_) ?_
  · skip
    refine as_start 8 8 ?_
    refine aq 0 rfl (y_load (.agg (eSign a0).toArray) 0 g0_0 0) ?_
    obtain ⟨v1_1, hv1_1, h⟩ := H.call h
    refine aq 1 rfl (y_call [.agg (eSign a0).toArray] (.agg (eSign v1_1).toArray) func76 (fun W S => C.s_noForm W hv1_1)) ?_
    refine aq 2 rfl (y_load (.agg (eSign a1).toArray) 1 g0_1 0) ?_
    obtain ⟨v1_3, hv1_3, h⟩ := H.call h
    refine aq 3 rfl (y_call [.agg (eSign a1).toArray] (.agg (eSign v1_3).toArray) func76 (fun W S => C.s_noForm W hv1_3)) ?_
    refine a_two 4 5 rfl rfl ?_ ?_
    · skip
      refine (x_new (eSign zSign) fun g1_4 => ⟨.inr (by kernel_rfl), ?_⟩)
      refine ax 5 rfl (x_new (eSign zSign) fun g1_5 => ⟨.inr (by kernel_rfl), ?_⟩)
      refine ax 6 rfl (x_sto 2 g1_4 0 (eSign v1_1) ⟨.inr (by kernel_rfl), ?_⟩)
      refine ax 7 rfl (x_sto 3 g1_5 0 (eSign v1_3) ⟨.inr (by kernel_rfl), ?_⟩)
      refine a_done ?_
      replace h := H.done h
      exact hj3 (v1_1, v1_3, g1_4, g1_5) _ _ h (by kernel_rfl) (by kernel_rfl)
    refine (x_new (eSign zSign) fun g1_5 => ⟨.inr (by kernel_rfl), ?_⟩)
    refine ax 4 rfl (x_new (eSign zSign) fun g1_4 => ⟨.inr (by kernel_rfl), ?_⟩)
    refine ax 6 rfl (x_sto 3 g1_4 0 (eSign v1_1) ⟨.inr (by kernel_rfl), ?_⟩)
    refine ax 7 rfl (x_sto 2 g1_5 0 (eSign v1_3) ⟨.inr (by kernel_rfl), ?_⟩)
    refine a_done ?_
    refine swp [box g0_0 85 (eSign a0), box g0_1 85 (eSign a1)] (box g1_5 85 (eSign v1_3)) (box g1_4 85 (eSign v1_1)) ?_
    replace h := H.done h
    exact hj3 (v1_1, v1_3, g1_4, g1_5) _ _ h (by kernel_rfl) (by kernel_rfl)
  intro x u h
  obtain ⟨s1, s2, g1_4, g1_5⟩ := x
  refine c_seq ?_
  refine r_start ?_
  refine p 1 ?_
  refine rend ?_
  refine c_seq ?_
  refine c_seq ?_
  refine r_start ?_
  refine p 2 ?_
  refine xq rfl (y_load (.agg (eShape s1.Main.Shape).toArray) 2 g1_4 0) ?_
  refine p 2 ?_
  refine xq rfl (y_load (.agg (eShape s2.Main.Shape).toArray) 3 g1_5 0) ?_
  refine p 1 ?_
  refine rend ?_
  refine c_or (!qShape s1.Main.Shape s2.Main.Shape) (fun q4 => ?_) (fun q4 => ?_)
  · replace h := H.t q4 h
    refine r_start ?_
    refine p 1 ?_
    refine xx rfl (e_lit (e := (eI .i64)) (el := 3) [.int .i64 0] ([0] : List Int) fun A4_1 k4_1 => ?_)
    refine o_nil (eI .i64) 3 ?_
    obtain ⟨y4_2, hy4_2, h⟩ := H.call h
    refine xx rfl (e_app 5 hy4_2 (s_own 4) fun A4_2 k4_2 => ?_)
    refine p 1 ?_
    refine rend ?_
    refine c_seq ?_
    refine c_seq ?_
    refine r_start ?_
    refine p 2 ?_
    refine xq rfl (y_load (.agg (eOrient s1.Main.Orient).toArray) 2 g1_4 6) ?_
    refine p 2 ?_
    refine xq rfl (y_load (.agg (eOrient s2.Main.Orient).toArray) 3 g1_5 6) ?_
    refine p 1 ?_
    refine rend ?_
    refine c_or (!qOrient s1.Main.Orient s2.Main.Orient) (fun q5 => ?_) (fun q5 => ?_)
    · replace h := H.t q5 h
      refine r_start ?_
      refine p 1 ?_
      refine xx rfl (e_lit (e := (eI .i64)) (el := 3) [.int .i64 1] ([1] : List Int) fun A6_1 k6_1 => ?_)
      obtain ⟨y6_2, hy6_2, h⟩ := H.call h
      refine xx rfl (e_app 5 hy6_2 (s_own 6) fun A6_2 k6_2 => ?_)
      refine p 1 ?_
      refine rend ?_
      refine c_seq ?_
      refine c_seq ?_
      refine r_start ?_
      refine p 2 ?_
      refine xq rfl (y_load (.agg (ePlace s1.Main.Place).toArray) 2 g1_4 8) ?_
      refine p 2 ?_
      refine xq rfl (y_load (.agg (ePlace s2.Main.Place).toArray) 3 g1_5 8) ?_
      refine p 1 ?_
      refine rend ?_
      refine c_or (!qPlace s1.Main.Place s2.Main.Place) (fun q6 => ?_) (fun q6 => ?_)
      · replace h := H.t q6 h
        refine r_start ?_
        refine p 1 ?_
        refine xx rfl (e_lit (e := (eI .i64)) (el := 3) [.int .i64 2] ([2] : List Int) fun A8_1 k8_1 => ?_)
        obtain ⟨y8_2, hy8_2, h⟩ := H.call h
        refine xx rfl (e_app 5 hy8_2 (s_own 7) fun A8_2 k8_2 => ?_)
        refine p 1 ?_
        refine rend ?_
        refine c_seq ?_
        refine c_seq ?_
        refine r_start ?_
        refine p 2 ?_
        refine xq rfl (y_load (.agg (eMove s1.Main.Move).toArray) 2 g1_4 11) ?_
        refine p 2 ?_
        refine xq rfl (y_load (.agg (eMove s2.Main.Move).toArray) 3 g1_5 11) ?_
        refine p 1 ?_
        refine rend ?_
        refine c_or (!qMove s1.Main.Move s2.Main.Move) (fun q7 => ?_) (fun q7 => ?_)
        · replace h := H.t q7 h
          refine r_start ?_
          refine p 1 ?_
          refine xx rfl (e_lit (e := (eI .i64)) (el := 3) [.int .i64 3] ([3] : List Int) fun A10_1 k10_1 => ?_)
          obtain ⟨y10_2, hy10_2, h⟩ := H.call h
          refine xx rfl (e_app 5 hy10_2 (s_own 8) fun A10_2 k10_2 => ?_)
          refine p 1 ?_
          refine rend ?_
          refine c_seq ?_
          refine c_seq ?_
          refine r_start ?_
          refine p 1 ?_
          refine xq rfl (y_load (.bool s1.Two) 2 g1_4 13) ?_
          refine p 1 ?_
          refine xq rfl (y_load (.bool s2.Two) 3 g1_5 13) ?_
          refine p 2 ?_
          refine br (!(s1.Two == s2.Two)) (fun q8 => ?_) (fun q8 => ?_)
          · replace h := H.t q8 h
            refine o_set 57 (congrArg Value.bool q8) ?_
            refine p 6 ?_
            refine rend ?_
            refine c_t (by kernel_rfl) ?_
            refine r_start ?_
            refine p 1 ?_
            refine xx rfl (e_lit (e := (eI .i64)) (el := 3) [.int .i64 4] ([4] : List Int) fun A12_1 k12_1 => ?_)
            obtain ⟨y12_2, hy12_2, h⟩ := H.call h
            refine xx rfl (e_app 5 hy12_2 (s_own 9) fun A12_2 k12_2 => ?_)
            refine p 1 ?_
            refine rend ?_
            refine frg (fun u => (jk u 0 7 (.slice A12_2 (List.length y12_2) k12_2 :: (jk u 8 60 [])))) (by kernel_rfl) fun u => ?_
            refine keep 10 (its' := [box g0_0 85 (eSign a0), box g0_1 85 (eSign a1), box g1_4 85 (eSign s1), box g1_5 85 (eSign s2), rowT (eI .i64) w.heap.size 3 (.slice A4_1 (List.length ([0] : List Int)) k4_1) ([0] : List Int), rowT (eI .i64) w.heap.size 3 (.slice A12_2 (List.length y12_2) k12_2) y12_2, rowT (eI .i64) w.heap.size 3 (.slice A6_1 (List.length ([1] : List Int)) k6_1) ([1] : List Int), rowT (eI .i64) w.heap.size 3 (.slice A8_1 (List.length ([2] : List Int)) k8_1) ([2] : List Int), rowT (eI .i64) w.heap.size 3 (.slice A10_1 (List.length ([3] : List Int)) k10_1) ([3] : List Int), rowT (eI .i64) w.heap.size 3 (.slice A12_1 (List.length ([4] : List Int)) k12_1) ([4] : List Int)]) (by kernel_rfl) ?_
            refine c_seq ?_
            refine r_start ?_
            refine p 2 ?_
            refine rend ?_
            replace h := H.done h
            subst h
            exact ret func117 rfl (vs := [.slice A12_2 (List.length y12_2) k12_2]) (.tmp (by kernel_rfl) .nil) rfl (fun W S => ⟨_, _, rfl, S.row 5, S.below⟩)
          replace h := H.f q8 h
          refine o_set 57 (congrArg Value.bool q8) ?_
          refine p 1 ?_
          refine xq rfl (y_load (.agg (eHand s1.Other).toArray) 2 g1_4 14) ?_
          refine p 1 ?_
          refine xq rfl (y_load (.agg (eHand s2.Other).toArray) 3 g1_5 14) ?_
          refine p 2 ?_
          refine rend ?_
          refine c_or (!qHand s1.Other s2.Other) (fun q9 => ?_) (fun q9 => ?_)
          · replace h := H.t q9 h
            refine r_start ?_
            refine p 1 ?_
            refine xx rfl (e_lit (e := (eI .i64)) (el := 3) [.int .i64 4] ([4] : List Int) fun A12_1 k12_1 => ?_)
            obtain ⟨y12_2, hy12_2, h⟩ := H.call h
            refine xx rfl (e_app 5 hy12_2 (s_own 9) fun A12_2 k12_2 => ?_)
            refine p 1 ?_
            refine rend ?_
            refine frg (fun u => (jk u 0 7 (.slice A12_2 (List.length y12_2) k12_2 :: (jk u 8 60 [])))) (by kernel_rfl) fun u => ?_
            refine keep 10 (its' := [box g0_0 85 (eSign a0), box g0_1 85 (eSign a1), box g1_4 85 (eSign s1), box g1_5 85 (eSign s2), rowT (eI .i64) w.heap.size 3 (.slice A4_1 (List.length ([0] : List Int)) k4_1) ([0] : List Int), rowT (eI .i64) w.heap.size 3 (.slice A12_2 (List.length y12_2) k12_2) y12_2, rowT (eI .i64) w.heap.size 3 (.slice A6_1 (List.length ([1] : List Int)) k6_1) ([1] : List Int), rowT (eI .i64) w.heap.size 3 (.slice A8_1 (List.length ([2] : List Int)) k8_1) ([2] : List Int), rowT (eI .i64) w.heap.size 3 (.slice A10_1 (List.length ([3] : List Int)) k10_1) ([3] : List Int), rowT (eI .i64) w.heap.size 3 (.slice A12_1 (List.length ([4] : List Int)) k12_1) ([4] : List Int)]) (by kernel_rfl) ?_
            refine c_seq ?_
            refine r_start ?_
            refine p 2 ?_
            refine rend ?_
            replace h := H.done h
            subst h
            exact ret func117 rfl (vs := [.slice A12_2 (List.length y12_2) k12_2]) (.tmp (by kernel_rfl) .nil) rfl (fun W S => ⟨_, _, rfl, S.row 5, S.below⟩)
          replace h := H.f q9 h
          refine c_skip ?_
          refine c_seq ?_
          refine r_start ?_
          refine p 2 ?_
          refine rend ?_
          refine frg (fun u => (jk u 0 4 (.slice A10_2 (List.length y10_2) k10_2 :: (jk u 5 63 [])))) (by kernel_rfl) fun u => ?_
          refine keep 9 (its' := [box g0_0 85 (eSign a0), box g0_1 85 (eSign a1), box g1_4 85 (eSign s1), box g1_5 85 (eSign s2), rowT (eI .i64) w.heap.size 3 (.slice A4_1 (List.length ([0] : List Int)) k4_1) ([0] : List Int), rowT (eI .i64) w.heap.size 3 (.slice A10_2 (List.length y10_2) k10_2) y10_2, rowT (eI .i64) w.heap.size 3 (.slice A6_1 (List.length ([1] : List Int)) k6_1) ([1] : List Int), rowT (eI .i64) w.heap.size 3 (.slice A8_1 (List.length ([2] : List Int)) k8_1) ([2] : List Int), rowT (eI .i64) w.heap.size 3 (.slice A10_1 (List.length ([3] : List Int)) k10_1) ([3] : List Int)]) (by kernel_rfl) ?_
          replace h := H.done h
          subst h
          exact ret func117 rfl (vs := [.slice A10_2 (List.length y10_2) k10_2]) (.tmp (by kernel_rfl) .nil) rfl (fun W S => ⟨_, _, rfl, S.row 5, S.below⟩)
        replace h := H.f q7 h
        refine c_skip ?_
        refine c_seq ?_
        refine c_seq ?_
        refine r_start ?_
        refine p 1 ?_
        refine xq rfl (y_load (.bool s1.Two) 2 g1_4 13) ?_
        refine p 1 ?_
        refine xq rfl (y_load (.bool s2.Two) 3 g1_5 13) ?_
        refine p 2 ?_
        refine br (!(s1.Two == s2.Two)) (fun q10 => ?_) (fun q10 => ?_)
        · replace h := H.t q10 h
          refine o_set 57 (congrArg Value.bool q10) ?_
          refine p 6 ?_
          refine rend ?_
          refine c_t (by kernel_rfl) ?_
          refine r_start ?_
          refine p 1 ?_
          refine xx rfl (e_lit (e := (eI .i64)) (el := 3) [.int .i64 4] ([4] : List Int) fun A12_1 k12_1 => ?_)
          obtain ⟨y12_2, hy12_2, h⟩ := H.call h
          refine xx rfl (e_app 5 hy12_2 (s_own 8) fun A12_2 k12_2 => ?_)
          refine p 1 ?_
          refine rend ?_
          refine c_seq ?_
          refine r_start ?_
          refine p 2 ?_
          refine rend ?_
          refine frg (fun u => (jk u 0 4 (.slice A12_2 (List.length y12_2) k12_2 :: (jk u 5 63 [])))) (by kernel_rfl) fun u => ?_
          refine keep 9 (its' := [box g0_0 85 (eSign a0), box g0_1 85 (eSign a1), box g1_4 85 (eSign s1), box g1_5 85 (eSign s2), rowT (eI .i64) w.heap.size 3 (.slice A4_1 (List.length ([0] : List Int)) k4_1) ([0] : List Int), rowT (eI .i64) w.heap.size 3 (.slice A12_2 (List.length y12_2) k12_2) y12_2, rowT (eI .i64) w.heap.size 3 (.slice A6_1 (List.length ([1] : List Int)) k6_1) ([1] : List Int), rowT (eI .i64) w.heap.size 3 (.slice A8_1 (List.length ([2] : List Int)) k8_1) ([2] : List Int), rowT (eI .i64) w.heap.size 3 (.slice A12_1 (List.length ([4] : List Int)) k12_1) ([4] : List Int)]) (by kernel_rfl) ?_
          replace h := H.done h
          subst h
          exact ret func117 rfl (vs := [.slice A12_2 (List.length y12_2) k12_2]) (.tmp (by kernel_rfl) .nil) rfl (fun W S => ⟨_, _, rfl, S.row 5, S.below⟩)
        replace h := H.f q10 h
        refine o_set 57 (congrArg Value.bool q10) ?_
        refine p 1 ?_
        refine xq rfl (y_load (.agg (eHand s1.Other).toArray) 2 g1_4 14) ?_
        refine p 1 ?_
        refine xq rfl (y_load (.agg (eHand s2.Other).toArray) 3 g1_5 14) ?_
        refine p 2 ?_
        refine rend ?_
        refine c_or (!qHand s1.Other s2.Other) (fun q11 => ?_) (fun q11 => ?_)
        · replace h := H.t q11 h
          refine r_start ?_
          refine p 1 ?_
          refine xx rfl (e_lit (e := (eI .i64)) (el := 3) [.int .i64 4] ([4] : List Int) fun A12_1 k12_1 => ?_)
          obtain ⟨y12_2, hy12_2, h⟩ := H.call h
          refine xx rfl (e_app 5 hy12_2 (s_own 8) fun A12_2 k12_2 => ?_)
          refine p 1 ?_
          refine rend ?_
          refine c_seq ?_
          refine r_start ?_
          refine p 2 ?_
          refine rend ?_
          refine frg (fun u => (jk u 0 4 (.slice A12_2 (List.length y12_2) k12_2 :: (jk u 5 63 [])))) (by kernel_rfl) fun u => ?_
          refine keep 9 (its' := [box g0_0 85 (eSign a0), box g0_1 85 (eSign a1), box g1_4 85 (eSign s1), box g1_5 85 (eSign s2), rowT (eI .i64) w.heap.size 3 (.slice A4_1 (List.length ([0] : List Int)) k4_1) ([0] : List Int), rowT (eI .i64) w.heap.size 3 (.slice A12_2 (List.length y12_2) k12_2) y12_2, rowT (eI .i64) w.heap.size 3 (.slice A6_1 (List.length ([1] : List Int)) k6_1) ([1] : List Int), rowT (eI .i64) w.heap.size 3 (.slice A8_1 (List.length ([2] : List Int)) k8_1) ([2] : List Int), rowT (eI .i64) w.heap.size 3 (.slice A12_1 (List.length ([4] : List Int)) k12_1) ([4] : List Int)]) (by kernel_rfl) ?_
          replace h := H.done h
          subst h
          exact ret func117 rfl (vs := [.slice A12_2 (List.length y12_2) k12_2]) (.tmp (by kernel_rfl) .nil) rfl (fun W S => ⟨_, _, rfl, S.row 5, S.below⟩)
        replace h := H.f q11 h
        refine c_skip ?_
        refine c_seq ?_
        refine r_start ?_
        refine p 2 ?_
        refine rend ?_
        replace h := H.done h
        subst h
        exact ret func117 rfl (vs := [.slice A8_2 (List.length y8_2) k8_2]) (.tmp (by kernel_rfl) .nil) rfl (fun W S => ⟨_, _, rfl, S.row 5, S.below⟩)
      replace h := H.f q6 h
      refine c_skip ?_
      refine c_seq ?_
      refine c_seq ?_
      refine r_start ?_
      refine p 2 ?_
      refine xq rfl (y_load (.agg (eMove s1.Main.Move).toArray) 2 g1_4 11) ?_
      refine p 2 ?_
      refine xq rfl (y_load (.agg (eMove s2.Main.Move).toArray) 3 g1_5 11) ?_
      refine p 1 ?_
      refine rend ?_
      refine c_or (!qMove s1.Main.Move s2.Main.Move) (fun q12 => ?_) (fun q12 => ?_)
      · replace h := H.t q12 h
        refine r_start ?_
        refine p 1 ?_
        refine xx rfl (e_lit (e := (eI .i64)) (el := 3) [.int .i64 3] ([3] : List Int) fun A10_1 k10_1 => ?_)
        obtain ⟨y10_2, hy10_2, h⟩ := H.call h
        refine xx rfl (e_app 5 hy10_2 (s_own 7) fun A10_2 k10_2 => ?_)
        refine p 1 ?_
        refine rend ?_
        refine c_seq ?_
        refine c_seq ?_
        refine r_start ?_
        refine p 1 ?_
        refine xq rfl (y_load (.bool s1.Two) 2 g1_4 13) ?_
        refine p 1 ?_
        refine xq rfl (y_load (.bool s2.Two) 3 g1_5 13) ?_
        refine p 2 ?_
        refine br (!(s1.Two == s2.Two)) (fun q13 => ?_) (fun q13 => ?_)
        · replace h := H.t q13 h
          refine o_set 57 (congrArg Value.bool q13) ?_
          refine p 6 ?_
          refine rend ?_
          refine c_t (by kernel_rfl) ?_
          refine r_start ?_
          refine p 1 ?_
          refine xx rfl (e_lit (e := (eI .i64)) (el := 3) [.int .i64 4] ([4] : List Int) fun A12_1 k12_1 => ?_)
          obtain ⟨y12_2, hy12_2, h⟩ := H.call h
          refine xx rfl (e_app 5 hy12_2 (s_own 8) fun A12_2 k12_2 => ?_)
          refine p 1 ?_
          refine rend ?_
          refine c_seq ?_
          refine r_start ?_
          refine p 2 ?_
          refine rend ?_
          refine frg (fun u => (jk u 0 4 (.slice A12_2 (List.length y12_2) k12_2 :: (jk u 5 63 [])))) (by kernel_rfl) fun u => ?_
          refine keep 9 (its' := [box g0_0 85 (eSign a0), box g0_1 85 (eSign a1), box g1_4 85 (eSign s1), box g1_5 85 (eSign s2), rowT (eI .i64) w.heap.size 3 (.slice A4_1 (List.length ([0] : List Int)) k4_1) ([0] : List Int), rowT (eI .i64) w.heap.size 3 (.slice A12_2 (List.length y12_2) k12_2) y12_2, rowT (eI .i64) w.heap.size 3 (.slice A6_1 (List.length ([1] : List Int)) k6_1) ([1] : List Int), rowT (eI .i64) w.heap.size 3 (.slice A10_1 (List.length ([3] : List Int)) k10_1) ([3] : List Int), rowT (eI .i64) w.heap.size 3 (.slice A12_1 (List.length ([4] : List Int)) k12_1) ([4] : List Int)]) (by kernel_rfl) ?_
          replace h := H.done h
          subst h
          exact ret func117 rfl (vs := [.slice A12_2 (List.length y12_2) k12_2]) (.tmp (by kernel_rfl) .nil) rfl (fun W S => ⟨_, _, rfl, S.row 5, S.below⟩)
        replace h := H.f q13 h
        refine o_set 57 (congrArg Value.bool q13) ?_
        refine p 1 ?_
        refine xq rfl (y_load (.agg (eHand s1.Other).toArray) 2 g1_4 14) ?_
        refine p 1 ?_
        refine xq rfl (y_load (.agg (eHand s2.Other).toArray) 3 g1_5 14) ?_
        refine p 2 ?_
        refine rend ?_
        refine c_or (!qHand s1.Other s2.Other) (fun q14 => ?_) (fun q14 => ?_)
        · replace h := H.t q14 h
          refine r_start ?_
          refine p 1 ?_
          refine xx rfl (e_lit (e := (eI .i64)) (el := 3) [.int .i64 4] ([4] : List Int) fun A12_1 k12_1 => ?_)
          obtain ⟨y12_2, hy12_2, h⟩ := H.call h
          refine xx rfl (e_app 5 hy12_2 (s_own 8) fun A12_2 k12_2 => ?_)
          refine p 1 ?_
          refine rend ?_
          refine c_seq ?_
          refine r_start ?_
          refine p 2 ?_
          refine rend ?_
          refine frg (fun u => (jk u 0 4 (.slice A12_2 (List.length y12_2) k12_2 :: (jk u 5 63 [])))) (by kernel_rfl) fun u => ?_
          refine keep 9 (its' := [box g0_0 85 (eSign a0), box g0_1 85 (eSign a1), box g1_4 85 (eSign s1), box g1_5 85 (eSign s2), rowT (eI .i64) w.heap.size 3 (.slice A4_1 (List.length ([0] : List Int)) k4_1) ([0] : List Int), rowT (eI .i64) w.heap.size 3 (.slice A12_2 (List.length y12_2) k12_2) y12_2, rowT (eI .i64) w.heap.size 3 (.slice A6_1 (List.length ([1] : List Int)) k6_1) ([1] : List Int), rowT (eI .i64) w.heap.size 3 (.slice A10_1 (List.length ([3] : List Int)) k10_1) ([3] : List Int), rowT (eI .i64) w.heap.size 3 (.slice A12_1 (List.length ([4] : List Int)) k12_1) ([4] : List Int)]) (by kernel_rfl) ?_
          replace h := H.done h
          subst h
          exact ret func117 rfl (vs := [.slice A12_2 (List.length y12_2) k12_2]) (.tmp (by kernel_rfl) .nil) rfl (fun W S => ⟨_, _, rfl, S.row 5, S.below⟩)
        replace h := H.f q14 h
        refine c_skip ?_
        refine c_seq ?_
        refine r_start ?_
        refine p 2 ?_
        refine rend ?_
        replace h := H.done h
        subst h
        exact ret func117 rfl (vs := [.slice A10_2 (List.length y10_2) k10_2]) (.tmp (by kernel_rfl) .nil) rfl (fun W S => ⟨_, _, rfl, S.row 5, S.below⟩)
      replace h := H.f q12 h
      refine c_skip ?_
      refine c_seq ?_
      refine c_seq ?_
      refine r_start ?_
      refine p 1 ?_
      refine xq rfl (y_load (.bool s1.Two) 2 g1_4 13) ?_
      refine p 1 ?_
      refine xq rfl (y_load (.bool s2.Two) 3 g1_5 13) ?_
      refine p 2 ?_
      refine br (!(s1.Two == s2.Two)) (fun q15 => ?_) (fun q15 => ?_)
      · replace h := H.t q15 h
        refine o_set 57 (congrArg Value.bool q15) ?_
        refine p 6 ?_
        refine rend ?_
        refine c_t (by kernel_rfl) ?_
        refine r_start ?_
        refine p 1 ?_
        refine xx rfl (e_lit (e := (eI .i64)) (el := 3) [.int .i64 4] ([4] : List Int) fun A12_1 k12_1 => ?_)
        obtain ⟨y12_2, hy12_2, h⟩ := H.call h
        refine xx rfl (e_app 5 hy12_2 (s_own 7) fun A12_2 k12_2 => ?_)
        refine p 1 ?_
        refine rend ?_
        refine c_seq ?_
        refine r_start ?_
        refine p 2 ?_
        refine rend ?_
        replace h := H.done h
        subst h
        exact ret func117 rfl (vs := [.slice A12_2 (List.length y12_2) k12_2]) (.tmp (by kernel_rfl) .nil) rfl (fun W S => ⟨_, _, rfl, S.row 5, S.below⟩)
      replace h := H.f q15 h
      refine o_set 57 (congrArg Value.bool q15) ?_
      refine p 1 ?_
      refine xq rfl (y_load (.agg (eHand s1.Other).toArray) 2 g1_4 14) ?_
      refine p 1 ?_
      refine xq rfl (y_load (.agg (eHand s2.Other).toArray) 3 g1_5 14) ?_
      refine p 2 ?_
      refine rend ?_
      refine c_or (!qHand s1.Other s2.Other) (fun q16 => ?_) (fun q16 => ?_)
      · replace h := H.t q16 h
        refine r_start ?_
        refine p 1 ?_
        refine xx rfl (e_lit (e := (eI .i64)) (el := 3) [.int .i64 4] ([4] : List Int) fun A12_1 k12_1 => ?_)
        obtain ⟨y12_2, hy12_2, h⟩ := H.call h
        refine xx rfl (e_app 5 hy12_2 (s_own 7) fun A12_2 k12_2 => ?_)
        refine p 1 ?_
        refine rend ?_
        refine c_seq ?_
        refine r_start ?_
        refine p 2 ?_
        refine rend ?_
        replace h := H.done h
        subst h
        exact ret func117 rfl (vs := [.slice A12_2 (List.length y12_2) k12_2]) (.tmp (by kernel_rfl) .nil) rfl (fun W S => ⟨_, _, rfl, S.row 5, S.below⟩)
      replace h := H.f q16 h
      refine c_skip ?_
      refine c_seq ?_
      refine r_start ?_
      refine p 2 ?_
      refine rend ?_
      replace h := H.done h
      subst h
      exact ret func117 rfl (vs := [.slice A6_2 (List.length y6_2) k6_2]) (.tmp (by kernel_rfl) .nil) rfl (fun W S => ⟨_, _, rfl, S.row 5, S.below⟩)
    replace h := H.f q5 h
    refine c_skip ?_
    refine c_seq ?_
    refine c_seq ?_
    refine r_start ?_
    refine p 2 ?_
    refine xq rfl (y_load (.agg (ePlace s1.Main.Place).toArray) 2 g1_4 8) ?_
    refine p 2 ?_
    refine xq rfl (y_load (.agg (ePlace s2.Main.Place).toArray) 3 g1_5 8) ?_
    refine p 1 ?_
    refine rend ?_
    refine c_or (!qPlace s1.Main.Place s2.Main.Place) (fun q17 => ?_) (fun q17 => ?_)
    · replace h := H.t q17 h
      refine r_start ?_
      refine p 1 ?_
      refine xx rfl (e_lit (e := (eI .i64)) (el := 3) [.int .i64 2] ([2] : List Int) fun A8_1 k8_1 => ?_)
      obtain ⟨y8_2, hy8_2, h⟩ := H.call h
      refine xx rfl (e_app 5 hy8_2 (s_own 6) fun A8_2 k8_2 => ?_)
      refine p 1 ?_
      refine rend ?_
      refine c_seq ?_
      refine c_seq ?_
      refine r_start ?_
      refine p 2 ?_
      refine xq rfl (y_load (.agg (eMove s1.Main.Move).toArray) 2 g1_4 11) ?_
      refine p 2 ?_
      refine xq rfl (y_load (.agg (eMove s2.Main.Move).toArray) 3 g1_5 11) ?_
      refine p 1 ?_
      refine rend ?_
      refine c_or (!qMove s1.Main.Move s2.Main.Move) (fun q18 => ?_) (fun q18 => ?_)
      · replace h := H.t q18 h
        refine r_start ?_
        refine p 1 ?_
        refine xx rfl (e_lit (e := (eI .i64)) (el := 3) [.int .i64 3] ([3] : List Int) fun A10_1 k10_1 => ?_)
        obtain ⟨y10_2, hy10_2, h⟩ := H.call h
        refine xx rfl (e_app 5 hy10_2 (s_own 7) fun A10_2 k10_2 => ?_)
        refine p 1 ?_
        refine rend ?_
        refine c_seq ?_
        refine c_seq ?_
        refine r_start ?_
        refine p 1 ?_
        refine xq rfl (y_load (.bool s1.Two) 2 g1_4 13) ?_
        refine p 1 ?_
        refine xq rfl (y_load (.bool s2.Two) 3 g1_5 13) ?_
        refine p 2 ?_
        refine br (!(s1.Two == s2.Two)) (fun q19 => ?_) (fun q19 => ?_)
        · replace h := H.t q19 h
          refine o_set 57 (congrArg Value.bool q19) ?_
          refine p 6 ?_
          refine rend ?_
          refine c_t (by kernel_rfl) ?_
          refine r_start ?_
          refine p 1 ?_
          refine xx rfl (e_lit (e := (eI .i64)) (el := 3) [.int .i64 4] ([4] : List Int) fun A12_1 k12_1 => ?_)
          obtain ⟨y12_2, hy12_2, h⟩ := H.call h
          refine xx rfl (e_app 5 hy12_2 (s_own 8) fun A12_2 k12_2 => ?_)
          refine p 1 ?_
          refine rend ?_
          refine c_seq ?_
          refine r_start ?_
          refine p 2 ?_
          refine rend ?_
          refine frg (fun u => (jk u 0 4 (.slice A12_2 (List.length y12_2) k12_2 :: (jk u 5 63 [])))) (by kernel_rfl) fun u => ?_
          refine keep 9 (its' := [box g0_0 85 (eSign a0), box g0_1 85 (eSign a1), box g1_4 85 (eSign s1), box g1_5 85 (eSign s2), rowT (eI .i64) w.heap.size 3 (.slice A4_1 (List.length ([0] : List Int)) k4_1) ([0] : List Int), rowT (eI .i64) w.heap.size 3 (.slice A12_2 (List.length y12_2) k12_2) y12_2, rowT (eI .i64) w.heap.size 3 (.slice A8_1 (List.length ([2] : List Int)) k8_1) ([2] : List Int), rowT (eI .i64) w.heap.size 3 (.slice A10_1 (List.length ([3] : List Int)) k10_1) ([3] : List Int), rowT (eI .i64) w.heap.size 3 (.slice A12_1 (List.length ([4] : List Int)) k12_1) ([4] : List Int)]) (by kernel_rfl) ?_
          replace h := H.done h
          subst h
          exact ret func117 rfl (vs := [.slice A12_2 (List.length y12_2) k12_2]) (.tmp (by kernel_rfl) .nil) rfl (fun W S => ⟨_, _, rfl, S.row 5, S.below⟩)
        replace h := H.f q19 h
        refine o_set 57 (congrArg Value.bool q19) ?_
        refine p 1 ?_
        refine xq rfl (y_load (.agg (eHand s1.Other).toArray) 2 g1_4 14) ?_
        refine p 1 ?_
        refine xq rfl (y_load (.agg (eHand s2.Other).toArray) 3 g1_5 14) ?_
        refine p 2 ?_
        refine rend ?_
        refine c_or (!qHand s1.Other s2.Other) (fun q20 => ?_) (fun q20 => ?_)
        · replace h := H.t q20 h
          refine r_start ?_
          refine p 1 ?_
          refine xx rfl (e_lit (e := (eI .i64)) (el := 3) [.int .i64 4] ([4] : List Int) fun A12_1 k12_1 => ?_)
          obtain ⟨y12_2, hy12_2, h⟩ := H.call h
          refine xx rfl (e_app 5 hy12_2 (s_own 8) fun A12_2 k12_2 => ?_)
          refine p 1 ?_
          refine rend ?_
          refine c_seq ?_
          refine r_start ?_
          refine p 2 ?_
          refine rend ?_
          refine frg (fun u => (jk u 0 4 (.slice A12_2 (List.length y12_2) k12_2 :: (jk u 5 63 [])))) (by kernel_rfl) fun u => ?_
          refine keep 9 (its' := [box g0_0 85 (eSign a0), box g0_1 85 (eSign a1), box g1_4 85 (eSign s1), box g1_5 85 (eSign s2), rowT (eI .i64) w.heap.size 3 (.slice A4_1 (List.length ([0] : List Int)) k4_1) ([0] : List Int), rowT (eI .i64) w.heap.size 3 (.slice A12_2 (List.length y12_2) k12_2) y12_2, rowT (eI .i64) w.heap.size 3 (.slice A8_1 (List.length ([2] : List Int)) k8_1) ([2] : List Int), rowT (eI .i64) w.heap.size 3 (.slice A10_1 (List.length ([3] : List Int)) k10_1) ([3] : List Int), rowT (eI .i64) w.heap.size 3 (.slice A12_1 (List.length ([4] : List Int)) k12_1) ([4] : List Int)]) (by kernel_rfl) ?_
          replace h := H.done h
          subst h
          exact ret func117 rfl (vs := [.slice A12_2 (List.length y12_2) k12_2]) (.tmp (by kernel_rfl) .nil) rfl (fun W S => ⟨_, _, rfl, S.row 5, S.below⟩)
        replace h := H.f q20 h
        refine c_skip ?_
        refine c_seq ?_
        refine r_start ?_
        refine p 2 ?_
        refine rend ?_
        replace h := H.done h
        subst h
        exact ret func117 rfl (vs := [.slice A10_2 (List.length y10_2) k10_2]) (.tmp (by kernel_rfl) .nil) rfl (fun W S => ⟨_, _, rfl, S.row 5, S.below⟩)
      replace h := H.f q18 h
      refine c_skip ?_
      refine c_seq ?_
      refine c_seq ?_
      refine r_start ?_
      refine p 1 ?_
      refine xq rfl (y_load (.bool s1.Two) 2 g1_4 13) ?_
      refine p 1 ?_
      refine xq rfl (y_load (.bool s2.Two) 3 g1_5 13) ?_
      refine p 2 ?_
      refine br (!(s1.Two == s2.Two)) (fun q21 => ?_) (fun q21 => ?_)
      · replace h := H.t q21 h
        refine o_set 57 (congrArg Value.bool q21) ?_
        refine p 6 ?_
        refine rend ?_
        refine c_t (by kernel_rfl) ?_
        refine r_start ?_
        refine p 1 ?_
        refine xx rfl (e_lit (e := (eI .i64)) (el := 3) [.int .i64 4] ([4] : List Int) fun A12_1 k12_1 => ?_)
        obtain ⟨y12_2, hy12_2, h⟩ := H.call h
        refine xx rfl (e_app 5 hy12_2 (s_own 7) fun A12_2 k12_2 => ?_)
        refine p 1 ?_
        refine rend ?_
        refine c_seq ?_
        refine r_start ?_
        refine p 2 ?_
        refine rend ?_
        replace h := H.done h
        subst h
        exact ret func117 rfl (vs := [.slice A12_2 (List.length y12_2) k12_2]) (.tmp (by kernel_rfl) .nil) rfl (fun W S => ⟨_, _, rfl, S.row 5, S.below⟩)
      replace h := H.f q21 h
      refine o_set 57 (congrArg Value.bool q21) ?_
      refine p 1 ?_
      refine xq rfl (y_load (.agg (eHand s1.Other).toArray) 2 g1_4 14) ?_
      refine p 1 ?_
      refine xq rfl (y_load (.agg (eHand s2.Other).toArray) 3 g1_5 14) ?_
      refine p 2 ?_
      refine rend ?_
      refine c_or (!qHand s1.Other s2.Other) (fun q22 => ?_) (fun q22 => ?_)
      · replace h := H.t q22 h
        refine r_start ?_
        refine p 1 ?_
        refine xx rfl (e_lit (e := (eI .i64)) (el := 3) [.int .i64 4] ([4] : List Int) fun A12_1 k12_1 => ?_)
        obtain ⟨y12_2, hy12_2, h⟩ := H.call h
        refine xx rfl (e_app 5 hy12_2 (s_own 7) fun A12_2 k12_2 => ?_)
        refine p 1 ?_
        refine rend ?_
        refine c_seq ?_
        refine r_start ?_
        refine p 2 ?_
        refine rend ?_
        replace h := H.done h
        subst h
        exact ret func117 rfl (vs := [.slice A12_2 (List.length y12_2) k12_2]) (.tmp (by kernel_rfl) .nil) rfl (fun W S => ⟨_, _, rfl, S.row 5, S.below⟩)
      replace h := H.f q22 h
      refine c_skip ?_
      refine c_seq ?_
      refine r_start ?_
      refine p 2 ?_
      refine rend ?_
      replace h := H.done h
      subst h
      exact ret func117 rfl (vs := [.slice A8_2 (List.length y8_2) k8_2]) (.tmp (by kernel_rfl) .nil) rfl (fun W S => ⟨_, _, rfl, S.row 5, S.below⟩)
    replace h := H.f q17 h
    refine c_skip ?_
    refine c_seq ?_
    refine c_seq ?_
    refine r_start ?_
    refine p 2 ?_
    refine xq rfl (y_load (.agg (eMove s1.Main.Move).toArray) 2 g1_4 11) ?_
    refine p 2 ?_
    refine xq rfl (y_load (.agg (eMove s2.Main.Move).toArray) 3 g1_5 11) ?_
    refine p 1 ?_
    refine rend ?_
    refine c_or (!qMove s1.Main.Move s2.Main.Move) (fun q23 => ?_) (fun q23 => ?_)
    · replace h := H.t q23 h
      refine r_start ?_
      refine p 1 ?_
      refine xx rfl (e_lit (e := (eI .i64)) (el := 3) [.int .i64 3] ([3] : List Int) fun A10_1 k10_1 => ?_)
      obtain ⟨y10_2, hy10_2, h⟩ := H.call h
      refine xx rfl (e_app 5 hy10_2 (s_own 6) fun A10_2 k10_2 => ?_)
      refine p 1 ?_
      refine rend ?_
      refine c_seq ?_
      refine c_seq ?_
      refine r_start ?_
      refine p 1 ?_
      refine xq rfl (y_load (.bool s1.Two) 2 g1_4 13) ?_
      refine p 1 ?_
      refine xq rfl (y_load (.bool s2.Two) 3 g1_5 13) ?_
      refine p 2 ?_
      refine br (!(s1.Two == s2.Two)) (fun q24 => ?_) (fun q24 => ?_)
      · replace h := H.t q24 h
        refine o_set 57 (congrArg Value.bool q24) ?_
        refine p 6 ?_
        refine rend ?_
        refine c_t (by kernel_rfl) ?_
        refine r_start ?_
        refine p 1 ?_
        refine xx rfl (e_lit (e := (eI .i64)) (el := 3) [.int .i64 4] ([4] : List Int) fun A12_1 k12_1 => ?_)
        obtain ⟨y12_2, hy12_2, h⟩ := H.call h
        refine xx rfl (e_app 5 hy12_2 (s_own 7) fun A12_2 k12_2 => ?_)
        refine p 1 ?_
        refine rend ?_
        refine c_seq ?_
        refine r_start ?_
        refine p 2 ?_
        refine rend ?_
        replace h := H.done h
        subst h
        exact ret func117 rfl (vs := [.slice A12_2 (List.length y12_2) k12_2]) (.tmp (by kernel_rfl) .nil) rfl (fun W S => ⟨_, _, rfl, S.row 5, S.below⟩)
      replace h := H.f q24 h
      refine o_set 57 (congrArg Value.bool q24) ?_
      refine p 1 ?_
      refine xq rfl (y_load (.agg (eHand s1.Other).toArray) 2 g1_4 14) ?_
      refine p 1 ?_
      refine xq rfl (y_load (.agg (eHand s2.Other).toArray) 3 g1_5 14) ?_
      refine p 2 ?_
      refine rend ?_
      refine c_or (!qHand s1.Other s2.Other) (fun q25 => ?_) (fun q25 => ?_)
      · replace h := H.t q25 h
        refine r_start ?_
        refine p 1 ?_
        refine xx rfl (e_lit (e := (eI .i64)) (el := 3) [.int .i64 4] ([4] : List Int) fun A12_1 k12_1 => ?_)
        obtain ⟨y12_2, hy12_2, h⟩ := H.call h
        refine xx rfl (e_app 5 hy12_2 (s_own 7) fun A12_2 k12_2 => ?_)
        refine p 1 ?_
        refine rend ?_
        refine c_seq ?_
        refine r_start ?_
        refine p 2 ?_
        refine rend ?_
        replace h := H.done h
        subst h
        exact ret func117 rfl (vs := [.slice A12_2 (List.length y12_2) k12_2]) (.tmp (by kernel_rfl) .nil) rfl (fun W S => ⟨_, _, rfl, S.row 5, S.below⟩)
      replace h := H.f q25 h
      refine c_skip ?_
      refine c_seq ?_
      refine r_start ?_
      refine p 2 ?_
      refine rend ?_
      replace h := H.done h
      subst h
      exact ret func117 rfl (vs := [.slice A10_2 (List.length y10_2) k10_2]) (.tmp (by kernel_rfl) .nil) rfl (fun W S => ⟨_, _, rfl, S.row 5, S.below⟩)
    replace h := H.f q23 h
    refine c_skip ?_
    refine c_seq ?_
    refine c_seq ?_
    refine r_start ?_
    refine p 1 ?_
    refine xq rfl (y_load (.bool s1.Two) 2 g1_4 13) ?_
    refine p 1 ?_
    refine xq rfl (y_load (.bool s2.Two) 3 g1_5 13) ?_
    refine p 2 ?_
    refine br (!(s1.Two == s2.Two)) (fun q26 => ?_) (fun q26 => ?_)
    · replace h := H.t q26 h
      refine o_set 57 (congrArg Value.bool q26) ?_
      refine p 6 ?_
      refine rend ?_
      refine c_t (by kernel_rfl) ?_
      refine r_start ?_
      refine p 1 ?_
      refine xx rfl (e_lit (e := (eI .i64)) (el := 3) [.int .i64 4] ([4] : List Int) fun A12_1 k12_1 => ?_)
      obtain ⟨y12_2, hy12_2, h⟩ := H.call h
      refine xx rfl (e_app 5 hy12_2 (s_own 6) fun A12_2 k12_2 => ?_)
      refine p 1 ?_
      refine rend ?_
      refine c_seq ?_
      refine r_start ?_
      refine p 2 ?_
      refine rend ?_
      replace h := H.done h
      subst h
      exact ret func117 rfl (vs := [.slice A12_2 (List.length y12_2) k12_2]) (.tmp (by kernel_rfl) .nil) rfl (fun W S => ⟨_, _, rfl, S.row 5, S.below⟩)
    replace h := H.f q26 h
    refine o_set 57 (congrArg Value.bool q26) ?_
    refine p 1 ?_
    refine xq rfl (y_load (.agg (eHand s1.Other).toArray) 2 g1_4 14) ?_
    refine p 1 ?_
    refine xq rfl (y_load (.agg (eHand s2.Other).toArray) 3 g1_5 14) ?_
    refine p 2 ?_
    refine rend ?_
    refine c_or (!qHand s1.Other s2.Other) (fun q27 => ?_) (fun q27 => ?_)
    · replace h := H.t q27 h
      refine r_start ?_
      refine p 1 ?_
      refine xx rfl (e_lit (e := (eI .i64)) (el := 3) [.int .i64 4] ([4] : List Int) fun A12_1 k12_1 => ?_)
      obtain ⟨y12_2, hy12_2, h⟩ := H.call h
      refine xx rfl (e_app 5 hy12_2 (s_own 6) fun A12_2 k12_2 => ?_)
      refine p 1 ?_
      refine rend ?_
      refine c_seq ?_
      refine r_start ?_
      refine p 2 ?_
      refine rend ?_
      replace h := H.done h
      subst h
      exact ret func117 rfl (vs := [.slice A12_2 (List.length y12_2) k12_2]) (.tmp (by kernel_rfl) .nil) rfl (fun W S => ⟨_, _, rfl, S.row 5, S.below⟩)
    replace h := H.f q27 h
    refine c_skip ?_
    refine c_seq ?_
    refine r_start ?_
    refine p 2 ?_
    refine rend ?_
    replace h := H.done h
    subst h
    exact ret func117 rfl (vs := [.slice A4_2 (List.length y4_2) k4_2]) (.tmp (by kernel_rfl) .nil) rfl (fun W S => ⟨_, _, rfl, S.row 5, S.below⟩)
  replace h := H.f q4 h
  refine c_skip ?_
  refine c_seq ?_
  refine c_seq ?_
  refine r_start ?_
  refine p 2 ?_
  refine xq rfl (y_load (.agg (eOrient s1.Main.Orient).toArray) 2 g1_4 6) ?_
  refine p 2 ?_
  refine xq rfl (y_load (.agg (eOrient s2.Main.Orient).toArray) 3 g1_5 6) ?_
  refine p 1 ?_
  refine rend ?_
  refine c_or (!qOrient s1.Main.Orient s2.Main.Orient) (fun q28 => ?_) (fun q28 => ?_)
  · replace h := H.t q28 h
    refine r_start ?_
    refine p 1 ?_
    refine xx rfl (e_lit (e := (eI .i64)) (el := 3) [.int .i64 1] ([1] : List Int) fun A6_1 k6_1 => ?_)
    refine o_nil (eI .i64) 3 ?_
    obtain ⟨y6_2, hy6_2, h⟩ := H.call h
    refine xx rfl (e_app 5 hy6_2 (s_own 4) fun A6_2 k6_2 => ?_)
    refine p 1 ?_
    refine rend ?_
    refine c_seq ?_
    refine c_seq ?_
    refine r_start ?_
    refine p 2 ?_
    refine xq rfl (y_load (.agg (ePlace s1.Main.Place).toArray) 2 g1_4 8) ?_
    refine p 2 ?_
    refine xq rfl (y_load (.agg (ePlace s2.Main.Place).toArray) 3 g1_5 8) ?_
    refine p 1 ?_
    refine rend ?_
    refine c_or (!qPlace s1.Main.Place s2.Main.Place) (fun q29 => ?_) (fun q29 => ?_)
    · replace h := H.t q29 h
      refine r_start ?_
      refine p 1 ?_
      refine xx rfl (e_lit (e := (eI .i64)) (el := 3) [.int .i64 2] ([2] : List Int) fun A8_1 k8_1 => ?_)
      obtain ⟨y8_2, hy8_2, h⟩ := H.call h
      refine xx rfl (e_app 5 hy8_2 (s_own 6) fun A8_2 k8_2 => ?_)
      refine p 1 ?_
      refine rend ?_
      refine c_seq ?_
      refine c_seq ?_
      refine r_start ?_
      refine p 2 ?_
      refine xq rfl (y_load (.agg (eMove s1.Main.Move).toArray) 2 g1_4 11) ?_
      refine p 2 ?_
      refine xq rfl (y_load (.agg (eMove s2.Main.Move).toArray) 3 g1_5 11) ?_
      refine p 1 ?_
      refine rend ?_
      refine c_or (!qMove s1.Main.Move s2.Main.Move) (fun q30 => ?_) (fun q30 => ?_)
      · replace h := H.t q30 h
        refine r_start ?_
        refine p 1 ?_
        refine xx rfl (e_lit (e := (eI .i64)) (el := 3) [.int .i64 3] ([3] : List Int) fun A10_1 k10_1 => ?_)
        obtain ⟨y10_2, hy10_2, h⟩ := H.call h
        refine xx rfl (e_app 5 hy10_2 (s_own 7) fun A10_2 k10_2 => ?_)
        refine p 1 ?_
        refine rend ?_
        refine c_seq ?_
        refine c_seq ?_
        refine r_start ?_
        refine p 1 ?_
        refine xq rfl (y_load (.bool s1.Two) 2 g1_4 13) ?_
        refine p 1 ?_
        refine xq rfl (y_load (.bool s2.Two) 3 g1_5 13) ?_
        refine p 2 ?_
        refine br (!(s1.Two == s2.Two)) (fun q31 => ?_) (fun q31 => ?_)
        · replace h := H.t q31 h
          refine o_set 57 (congrArg Value.bool q31) ?_
          refine p 6 ?_
          refine rend ?_
          refine c_t (by kernel_rfl) ?_
          refine r_start ?_
          refine p 1 ?_
          refine xx rfl (e_lit (e := (eI .i64)) (el := 3) [.int .i64 4] ([4] : List Int) fun A12_1 k12_1 => ?_)
          obtain ⟨y12_2, hy12_2, h⟩ := H.call h
          refine xx rfl (e_app 5 hy12_2 (s_own 8) fun A12_2 k12_2 => ?_)
          refine p 1 ?_
          refine rend ?_
          refine c_seq ?_
          refine r_start ?_
          refine p 2 ?_
          refine rend ?_
          refine frg (fun u => (jk u 0 4 (.slice A12_2 (List.length y12_2) k12_2 :: (jk u 5 63 [])))) (by kernel_rfl) fun u => ?_
          refine keep 9 (its' := [box g0_0 85 (eSign a0), box g0_1 85 (eSign a1), box g1_4 85 (eSign s1), box g1_5 85 (eSign s2), rowT (eI .i64) w.heap.size 3 (.slice A6_1 (List.length ([1] : List Int)) k6_1) ([1] : List Int), rowT (eI .i64) w.heap.size 3 (.slice A12_2 (List.length y12_2) k12_2) y12_2, rowT (eI .i64) w.heap.size 3 (.slice A8_1 (List.length ([2] : List Int)) k8_1) ([2] : List Int), rowT (eI .i64) w.heap.size 3 (.slice A10_1 (List.length ([3] : List Int)) k10_1) ([3] : List Int), rowT (eI .i64) w.heap.size 3 (.slice A12_1 (List.length ([4] : List Int)) k12_1) ([4] : List Int)]) (by kernel_rfl) ?_
          replace h := H.done h
          subst h
          exact ret func117 rfl (vs := [.slice A12_2 (List.length y12_2) k12_2]) (.tmp (by kernel_rfl) .nil) rfl (fun W S => ⟨_, _, rfl, S.row 5, S.below⟩)
        replace h := H.f q31 h
        refine o_set 57 (congrArg Value.bool q31) ?_
        refine p 1 ?_
        refine xq rfl (y_load (.agg (eHand s1.Other).toArray) 2 g1_4 14) ?_
        refine p 1 ?_
        refine xq rfl (y_load (.agg (eHand s2.Other).toArray) 3 g1_5 14) ?_
        refine p 2 ?_
        refine rend ?_
        refine c_or (!qHand s1.Other s2.Other) (fun q32 => ?_) (fun q32 => ?_)
        · replace h := H.t q32 h
          refine r_start ?_
          refine p 1 ?_
          refine xx rfl (e_lit (e := (eI .i64)) (el := 3) [.int .i64 4] ([4] : List Int) fun A12_1 k12_1 => ?_)
          obtain ⟨y12_2, hy12_2, h⟩ := H.call h
          refine xx rfl (e_app 5 hy12_2 (s_own 8) fun A12_2 k12_2 => ?_)
          refine p 1 ?_
          refine rend ?_
          refine c_seq ?_
          refine r_start ?_
          refine p 2 ?_
          refine rend ?_
          refine frg (fun u => (jk u 0 4 (.slice A12_2 (List.length y12_2) k12_2 :: (jk u 5 63 [])))) (by kernel_rfl) fun u => ?_
          refine keep 9 (its' := [box g0_0 85 (eSign a0), box g0_1 85 (eSign a1), box g1_4 85 (eSign s1), box g1_5 85 (eSign s2), rowT (eI .i64) w.heap.size 3 (.slice A6_1 (List.length ([1] : List Int)) k6_1) ([1] : List Int), rowT (eI .i64) w.heap.size 3 (.slice A12_2 (List.length y12_2) k12_2) y12_2, rowT (eI .i64) w.heap.size 3 (.slice A8_1 (List.length ([2] : List Int)) k8_1) ([2] : List Int), rowT (eI .i64) w.heap.size 3 (.slice A10_1 (List.length ([3] : List Int)) k10_1) ([3] : List Int), rowT (eI .i64) w.heap.size 3 (.slice A12_1 (List.length ([4] : List Int)) k12_1) ([4] : List Int)]) (by kernel_rfl) ?_
          replace h := H.done h
          subst h
          exact ret func117 rfl (vs := [.slice A12_2 (List.length y12_2) k12_2]) (.tmp (by kernel_rfl) .nil) rfl (fun W S => ⟨_, _, rfl, S.row 5, S.below⟩)
        replace h := H.f q32 h
        refine c_skip ?_
        refine c_seq ?_
        refine r_start ?_
        refine p 2 ?_
        refine rend ?_
        replace h := H.done h
        subst h
        exact ret func117 rfl (vs := [.slice A10_2 (List.length y10_2) k10_2]) (.tmp (by kernel_rfl) .nil) rfl (fun W S => ⟨_, _, rfl, S.row 5, S.below⟩)
      replace h := H.f q30 h
      refine c_skip ?_
      refine c_seq ?_
      refine c_seq ?_
      refine r_start ?_
      refine p 1 ?_
      refine xq rfl (y_load (.bool s1.Two) 2 g1_4 13) ?_
      refine p 1 ?_
      refine xq rfl (y_load (.bool s2.Two) 3 g1_5 13) ?_
      refine p 2 ?_
      refine br (!(s1.Two == s2.Two)) (fun q33 => ?_) (fun q33 => ?_)
      · replace h := H.t q33 h
        refine o_set 57 (congrArg Value.bool q33) ?_
        refine p 6 ?_
        refine rend ?_
        refine c_t (by kernel_rfl) ?_
        refine r_start ?_
        refine p 1 ?_
        refine xx rfl (e_lit (e := (eI .i64)) (el := 3) [.int .i64 4] ([4] : List Int) fun A12_1 k12_1 => ?_)
        obtain ⟨y12_2, hy12_2, h⟩ := H.call h
        refine xx rfl (e_app 5 hy12_2 (s_own 7) fun A12_2 k12_2 => ?_)
        refine p 1 ?_
        refine rend ?_
        refine c_seq ?_
        refine r_start ?_
        refine p 2 ?_
        refine rend ?_
        replace h := H.done h
        subst h
        exact ret func117 rfl (vs := [.slice A12_2 (List.length y12_2) k12_2]) (.tmp (by kernel_rfl) .nil) rfl (fun W S => ⟨_, _, rfl, S.row 5, S.below⟩)
      replace h := H.f q33 h
      refine o_set 57 (congrArg Value.bool q33) ?_
      refine p 1 ?_
      refine xq rfl (y_load (.agg (eHand s1.Other).toArray) 2 g1_4 14) ?_
      refine p 1 ?_
      refine xq rfl (y_load (.agg (eHand s2.Other).toArray) 3 g1_5 14) ?_
      refine p 2 ?_
      refine rend ?_
      refine c_or (!qHand s1.Other s2.Other) (fun q34 => ?_) (fun q34 => ?_)
      · replace h := H.t q34 h
        refine r_start ?_
        refine p 1 ?_
        refine xx rfl (e_lit (e := (eI .i64)) (el := 3) [.int .i64 4] ([4] : List Int) fun A12_1 k12_1 => ?_)
        obtain ⟨y12_2, hy12_2, h⟩ := H.call h
        refine xx rfl (e_app 5 hy12_2 (s_own 7) fun A12_2 k12_2 => ?_)
        refine p 1 ?_
        refine rend ?_
        refine c_seq ?_
        refine r_start ?_
        refine p 2 ?_
        refine rend ?_
        replace h := H.done h
        subst h
        exact ret func117 rfl (vs := [.slice A12_2 (List.length y12_2) k12_2]) (.tmp (by kernel_rfl) .nil) rfl (fun W S => ⟨_, _, rfl, S.row 5, S.below⟩)
      replace h := H.f q34 h
      refine c_skip ?_
      refine c_seq ?_
      refine r_start ?_
      refine p 2 ?_
      refine rend ?_
      replace h := H.done h
      subst h
      exact ret func117 rfl (vs := [.slice A8_2 (List.length y8_2) k8_2]) (.tmp (by kernel_rfl) .nil) rfl (fun W S => ⟨_, _, rfl, S.row 5, S.below⟩)
    replace h := H.f q29 h
    refine c_skip ?_
    refine c_seq ?_
    refine c_seq ?_
    refine r_start ?_
    refine p 2 ?_
    refine xq rfl (y_load (.agg (eMove s1.Main.Move).toArray) 2 g1_4 11) ?_
    refine p 2 ?_
    refine xq rfl (y_load (.agg (eMove s2.Main.Move).toArray) 3 g1_5 11) ?_
    refine p 1 ?_
    refine rend ?_
    refine c_or (!qMove s1.Main.Move s2.Main.Move) (fun q35 => ?_) (fun q35 => ?_)
    · replace h := H.t q35 h
      refine r_start ?_
      refine p 1 ?_
      refine xx rfl (e_lit (e := (eI .i64)) (el := 3) [.int .i64 3] ([3] : List Int) fun A10_1 k10_1 => ?_)
      obtain ⟨y10_2, hy10_2, h⟩ := H.call h
      refine xx rfl (e_app 5 hy10_2 (s_own 6) fun A10_2 k10_2 => ?_)
      refine p 1 ?_
      refine rend ?_
      refine c_seq ?_
      refine c_seq ?_
      refine r_start ?_
      refine p 1 ?_
      refine xq rfl (y_load (.bool s1.Two) 2 g1_4 13) ?_
      refine p 1 ?_
      refine xq rfl (y_load (.bool s2.Two) 3 g1_5 13) ?_
      refine p 2 ?_
      refine br (!(s1.Two == s2.Two)) (fun q36 => ?_) (fun q36 => ?_)
      · replace h := H.t q36 h
        refine o_set 57 (congrArg Value.bool q36) ?_
        refine p 6 ?_
        refine rend ?_
        refine c_t (by kernel_rfl) ?_
        refine r_start ?_
        refine p 1 ?_
        refine xx rfl (e_lit (e := (eI .i64)) (el := 3) [.int .i64 4] ([4] : List Int) fun A12_1 k12_1 => ?_)
        obtain ⟨y12_2, hy12_2, h⟩ := H.call h
        refine xx rfl (e_app 5 hy12_2 (s_own 7) fun A12_2 k12_2 => ?_)
        refine p 1 ?_
        refine rend ?_
        refine c_seq ?_
        refine r_start ?_
        refine p 2 ?_
        refine rend ?_
        replace h := H.done h
        subst h
        exact ret func117 rfl (vs := [.slice A12_2 (List.length y12_2) k12_2]) (.tmp (by kernel_rfl) .nil) rfl (fun W S => ⟨_, _, rfl, S.row 5, S.below⟩)
      replace h := H.f q36 h
      refine o_set 57 (congrArg Value.bool q36) ?_
      refine p 1 ?_
      refine xq rfl (y_load (.agg (eHand s1.Other).toArray) 2 g1_4 14) ?_
      refine p 1 ?_
      refine xq rfl (y_load (.agg (eHand s2.Other).toArray) 3 g1_5 14) ?_
      refine p 2 ?_
      refine rend ?_
      refine c_or (!qHand s1.Other s2.Other) (fun q37 => ?_) (fun q37 => ?_)
      · replace h := H.t q37 h
        refine r_start ?_
        refine p 1 ?_
        refine xx rfl (e_lit (e := (eI .i64)) (el := 3) [.int .i64 4] ([4] : List Int) fun A12_1 k12_1 => ?_)
        obtain ⟨y12_2, hy12_2, h⟩ := H.call h
        refine xx rfl (e_app 5 hy12_2 (s_own 7) fun A12_2 k12_2 => ?_)
        refine p 1 ?_
        refine rend ?_
        refine c_seq ?_
        refine r_start ?_
        refine p 2 ?_
        refine rend ?_
        replace h := H.done h
        subst h
        exact ret func117 rfl (vs := [.slice A12_2 (List.length y12_2) k12_2]) (.tmp (by kernel_rfl) .nil) rfl (fun W S => ⟨_, _, rfl, S.row 5, S.below⟩)
      replace h := H.f q37 h
      refine c_skip ?_
      refine c_seq ?_
      refine r_start ?_
      refine p 2 ?_
      refine rend ?_
      replace h := H.done h
      subst h
      exact ret func117 rfl (vs := [.slice A10_2 (List.length y10_2) k10_2]) (.tmp (by kernel_rfl) .nil) rfl (fun W S => ⟨_, _, rfl, S.row 5, S.below⟩)
    replace h := H.f q35 h
    refine c_skip ?_
    refine c_seq ?_
    refine c_seq ?_
    refine r_start ?_
    refine p 1 ?_
    refine xq rfl (y_load (.bool s1.Two) 2 g1_4 13) ?_
    refine p 1 ?_
    refine xq rfl (y_load (.bool s2.Two) 3 g1_5 13) ?_
    refine p 2 ?_
    refine br (!(s1.Two == s2.Two)) (fun q38 => ?_) (fun q38 => ?_)
    · replace h := H.t q38 h
      refine o_set 57 (congrArg Value.bool q38) ?_
      refine p 6 ?_
      refine rend ?_
      refine c_t (by kernel_rfl) ?_
      refine r_start ?_
      refine p 1 ?_
      refine xx rfl (e_lit (e := (eI .i64)) (el := 3) [.int .i64 4] ([4] : List Int) fun A12_1 k12_1 => ?_)
      obtain ⟨y12_2, hy12_2, h⟩ := H.call h
      refine xx rfl (e_app 5 hy12_2 (s_own 6) fun A12_2 k12_2 => ?_)
      refine p 1 ?_
      refine rend ?_
      refine c_seq ?_
      refine r_start ?_
      refine p 2 ?_
      refine rend ?_
      replace h := H.done h
      subst h
      exact ret func117 rfl (vs := [.slice A12_2 (List.length y12_2) k12_2]) (.tmp (by kernel_rfl) .nil) rfl (fun W S => ⟨_, _, rfl, S.row 5, S.below⟩)
    replace h := H.f q38 h
    refine o_set 57 (congrArg Value.bool q38) ?_
    refine p 1 ?_
    refine xq rfl (y_load (.agg (eHand s1.Other).toArray) 2 g1_4 14) ?_
    refine p 1 ?_
    refine xq rfl (y_load (.agg (eHand s2.Other).toArray) 3 g1_5 14) ?_
    refine p 2 ?_
    refine rend ?_
    refine c_or (!qHand s1.Other s2.Other) (fun q39 => ?_) (fun q39 => ?_)
    · replace h := H.t q39 h
      refine r_start ?_
      refine p 1 ?_
      refine xx rfl (e_lit (e := (eI .i64)) (el := 3) [.int .i64 4] ([4] : List Int) fun A12_1 k12_1 => ?_)
      obtain ⟨y12_2, hy12_2, h⟩ := H.call h
      refine xx rfl (e_app 5 hy12_2 (s_own 6) fun A12_2 k12_2 => ?_)
      refine p 1 ?_
      refine rend ?_
      refine c_seq ?_
      refine r_start ?_
      refine p 2 ?_
      refine rend ?_
      replace h := H.done h
      subst h
      exact ret func117 rfl (vs := [.slice A12_2 (List.length y12_2) k12_2]) (.tmp (by kernel_rfl) .nil) rfl (fun W S => ⟨_, _, rfl, S.row 5, S.below⟩)
    replace h := H.f q39 h
    refine c_skip ?_
    refine c_seq ?_
    refine r_start ?_
    refine p 2 ?_
    refine rend ?_
    replace h := H.done h
    subst h
    exact ret func117 rfl (vs := [.slice A6_2 (List.length y6_2) k6_2]) (.tmp (by kernel_rfl) .nil) rfl (fun W S => ⟨_, _, rfl, S.row 5, S.below⟩)
  replace h := H.f q28 h
  refine c_skip ?_
  refine c_seq ?_
  refine c_seq ?_
  refine r_start ?_
  refine p 2 ?_
  refine xq rfl (y_load (.agg (ePlace s1.Main.Place).toArray) 2 g1_4 8) ?_
  refine p 2 ?_
  refine xq rfl (y_load (.agg (ePlace s2.Main.Place).toArray) 3 g1_5 8) ?_
  refine p 1 ?_
  refine rend ?_
  refine c_or (!qPlace s1.Main.Place s2.Main.Place) (fun q40 => ?_) (fun q40 => ?_)
  · replace h := H.t q40 h
    refine r_start ?_
    refine p 1 ?_
    refine xx rfl (e_lit (e := (eI .i64)) (el := 3) [.int .i64 2] ([2] : List Int) fun A8_1 k8_1 => ?_)
    refine o_nil (eI .i64) 3 ?_
    obtain ⟨y8_2, hy8_2, h⟩ := H.call h
    refine xx rfl (e_app 5 hy8_2 (s_own 4) fun A8_2 k8_2 => ?_)
    refine p 1 ?_
    refine rend ?_
    refine c_seq ?_
    refine c_seq ?_
    refine r_start ?_
    refine p 2 ?_
    refine xq rfl (y_load (.agg (eMove s1.Main.Move).toArray) 2 g1_4 11) ?_
    refine p 2 ?_
    refine xq rfl (y_load (.agg (eMove s2.Main.Move).toArray) 3 g1_5 11) ?_
    refine p 1 ?_
    refine rend ?_
    refine c_or (!qMove s1.Main.Move s2.Main.Move) (fun q41 => ?_) (fun q41 => ?_)
    · replace h := H.t q41 h
      refine r_start ?_
      refine p 1 ?_
      refine xx rfl (e_lit (e := (eI .i64)) (el := 3) [.int .i64 3] ([3] : List Int) fun A10_1 k10_1 => ?_)
      obtain ⟨y10_2, hy10_2, h⟩ := H.call h
      refine xx rfl (e_app 5 hy10_2 (s_own 6) fun A10_2 k10_2 => ?_)
      refine p 1 ?_
      refine rend ?_
      refine c_seq ?_
      refine c_seq ?_
      refine r_start ?_
      refine p 1 ?_
      refine xq rfl (y_load (.bool s1.Two) 2 g1_4 13) ?_
      refine p 1 ?_
      refine xq rfl (y_load (.bool s2.Two) 3 g1_5 13) ?_
      refine p 2 ?_
      refine br (!(s1.Two == s2.Two)) (fun q42 => ?_) (fun q42 => ?_)
      · replace h := H.t q42 h
        refine o_set 57 (congrArg Value.bool q42) ?_
        refine p 6 ?_
        refine rend ?_
        refine c_t (by kernel_rfl) ?_
        refine r_start ?_
        refine p 1 ?_
        refine xx rfl (e_lit (e := (eI .i64)) (el := 3) [.int .i64 4] ([4] : List Int) fun A12_1 k12_1 => ?_)
        obtain ⟨y12_2, hy12_2, h⟩ := H.call h
        refine xx rfl (e_app 5 hy12_2 (s_own 7) fun A12_2 k12_2 => ?_)
        refine p 1 ?_
        refine rend ?_
        refine c_seq ?_
        refine r_start ?_
        refine p 2 ?_
        refine rend ?_
        replace h := H.done h
        subst h
        exact ret func117 rfl (vs := [.slice A12_2 (List.length y12_2) k12_2]) (.tmp (by kernel_rfl) .nil) rfl (fun W S => ⟨_, _, rfl, S.row 5, S.below⟩)
      replace h := H.f q42 h
      refine o_set 57 (congrArg Value.bool q42) ?_
      refine p 1 ?_
      refine xq rfl (y_load (.agg (eHand s1.Other).toArray) 2 g1_4 14) ?_
      refine p 1 ?_
      refine xq rfl (y_load (.agg (eHand s2.Other).toArray) 3 g1_5 14) ?_
      refine p 2 ?_
      refine rend ?_
      refine c_or (!qHand s1.Other s2.Other) (fun q43 => ?_) (fun q43 => ?_)
      · replace h := H.t q43 h
        refine r_start ?_
        refine p 1 ?_
        refine xx rfl (e_lit (e := (eI .i64)) (el := 3) [.int .i64 4] ([4] : List Int) fun A12_1 k12_1 => ?_)
        obtain ⟨y12_2, hy12_2, h⟩ := H.call h
        refine xx rfl (e_app 5 hy12_2 (s_own 7) fun A12_2 k12_2 => ?_)
        refine p 1 ?_
        refine rend ?_
        refine c_seq ?_
        refine r_start ?_
        refine p 2 ?_
        refine rend ?_
        replace h := H.done h
        subst h
        exact ret func117 rfl (vs := [.slice A12_2 (List.length y12_2) k12_2]) (.tmp (by kernel_rfl) .nil) rfl (fun W S => ⟨_, _, rfl, S.row 5, S.below⟩)
      replace h := H.f q43 h
      refine c_skip ?_
      refine c_seq ?_
      refine r_start ?_
      refine p 2 ?_
      refine rend ?_
      replace h := H.done h
      subst h
      exact ret func117 rfl (vs := [.slice A10_2 (List.length y10_2) k10_2]) (.tmp (by kernel_rfl) .nil) rfl (fun W S => ⟨_, _, rfl, S.row 5, S.below⟩)
    replace h := H.f q41 h
    refine c_skip ?_
    refine c_seq ?_
    refine c_seq ?_
    refine r_start ?_
    refine p 1 ?_
    refine xq rfl (y_load (.bool s1.Two) 2 g1_4 13) ?_
    refine p 1 ?_
    refine xq rfl (y_load (.bool s2.Two) 3 g1_5 13) ?_
    refine p 2 ?_
    refine br (!(s1.Two == s2.Two)) (fun q44 => ?_) (fun q44 => ?_)
    · replace h := H.t q44 h
      refine o_set 57 (congrArg Value.bool q44) ?_
      refine p 6 ?_
      refine rend ?_
      refine c_t (by kernel_rfl) ?_
      refine r_start ?_
      refine p 1 ?_
      refine xx rfl (e_lit (e := (eI .i64)) (el := 3) [.int .i64 4] ([4] : List Int) fun A12_1 k12_1 => ?_)
      obtain ⟨y12_2, hy12_2, h⟩ := H.call h
      refine xx rfl (e_app 5 hy12_2 (s_own 6) fun A12_2 k12_2 => ?_)
      refine p 1 ?_
      refine rend ?_
      refine c_seq ?_
      refine r_start ?_
      refine p 2 ?_
      refine rend ?_
      replace h := H.done h
      subst h
      exact ret func117 rfl (vs := [.slice A12_2 (List.length y12_2) k12_2]) (.tmp (by kernel_rfl) .nil) rfl (fun W S => ⟨_, _, rfl, S.row 5, S.below⟩)
    replace h := H.f q44 h
    refine o_set 57 (congrArg Value.bool q44) ?_
    refine p 1 ?_
    refine xq rfl (y_load (.agg (eHand s1.Other).toArray) 2 g1_4 14) ?_
    refine p 1 ?_
    refine xq rfl (y_load (.agg (eHand s2.Other).toArray) 3 g1_5 14) ?_
    refine p 2 ?_
    refine rend ?_
    refine c_or (!qHand s1.Other s2.Other) (fun q45 => ?_) (fun q45 => ?_)
    · replace h := H.t q45 h
      refine r_start ?_
      refine p 1 ?_
      refine xx rfl (e_lit (e := (eI .i64)) (el := 3) [.int .i64 4] ([4] : List Int) fun A12_1 k12_1 => ?_)
      obtain ⟨y12_2, hy12_2, h⟩ := H.call h
      refine xx rfl (e_app 5 hy12_2 (s_own 6) fun A12_2 k12_2 => ?_)
      refine p 1 ?_
      refine rend ?_
      refine c_seq ?_
      refine r_start ?_
      refine p 2 ?_
      refine rend ?_
      replace h := H.done h
      subst h
      exact ret func117 rfl (vs := [.slice A12_2 (List.length y12_2) k12_2]) (.tmp (by kernel_rfl) .nil) rfl (fun W S => ⟨_, _, rfl, S.row 5, S.below⟩)
    replace h := H.f q45 h
    refine c_skip ?_
    refine c_seq ?_
    refine r_start ?_
    refine p 2 ?_
    refine rend ?_
    replace h := H.done h
    subst h
    exact ret func117 rfl (vs := [.slice A8_2 (List.length y8_2) k8_2]) (.tmp (by kernel_rfl) .nil) rfl (fun W S => ⟨_, _, rfl, S.row 5, S.below⟩)
  replace h := H.f q40 h
  refine c_skip ?_
  refine c_seq ?_
  refine c_seq ?_
  refine r_start ?_
  refine p 2 ?_
  refine xq rfl (y_load (.agg (eMove s1.Main.Move).toArray) 2 g1_4 11) ?_
  refine p 2 ?_
  refine xq rfl (y_load (.agg (eMove s2.Main.Move).toArray) 3 g1_5 11) ?_
  refine p 1 ?_
  refine rend ?_
  refine c_or (!qMove s1.Main.Move s2.Main.Move) (fun q46 => ?_) (fun q46 => ?_)
  · replace h := H.t q46 h
    refine r_start ?_
    refine p 1 ?_
    refine xx rfl (e_lit (e := (eI .i64)) (el := 3) [.int .i64 3] ([3] : List Int) fun A10_1 k10_1 => ?_)
    refine o_nil (eI .i64) 3 ?_
    obtain ⟨y10_2, hy10_2, h⟩ := H.call h
    refine xx rfl (e_app 5 hy10_2 (s_own 4) fun A10_2 k10_2 => ?_)
    refine p 1 ?_
    refine rend ?_
    refine c_seq ?_
    refine c_seq ?_
    refine r_start ?_
    refine p 1 ?_
    refine xq rfl (y_load (.bool s1.Two) 2 g1_4 13) ?_
    refine p 1 ?_
    refine xq rfl (y_load (.bool s2.Two) 3 g1_5 13) ?_
    refine p 2 ?_
    refine br (!(s1.Two == s2.Two)) (fun q47 => ?_) (fun q47 => ?_)
    · replace h := H.t q47 h
      refine o_set 57 (congrArg Value.bool q47) ?_
      refine p 6 ?_
      refine rend ?_
      refine c_t (by kernel_rfl) ?_
      refine r_start ?_
      refine p 1 ?_
      refine xx rfl (e_lit (e := (eI .i64)) (el := 3) [.int .i64 4] ([4] : List Int) fun A12_1 k12_1 => ?_)
      obtain ⟨y12_2, hy12_2, h⟩ := H.call h
      refine xx rfl (e_app 5 hy12_2 (s_own 6) fun A12_2 k12_2 => ?_)
      refine p 1 ?_
      refine rend ?_
      refine c_seq ?_
      refine r_start ?_
      refine p 2 ?_
      refine rend ?_
      replace h := H.done h
      subst h
      exact ret func117 rfl (vs := [.slice A12_2 (List.length y12_2) k12_2]) (.tmp (by kernel_rfl) .nil) rfl (fun W S => ⟨_, _, rfl, S.row 5, S.below⟩)
    replace h := H.f q47 h
    refine o_set 57 (congrArg Value.bool q47) ?_
    refine p 1 ?_
    refine xq rfl (y_load (.agg (eHand s1.Other).toArray) 2 g1_4 14) ?_
    refine p 1 ?_
    refine xq rfl (y_load (.agg (eHand s2.Other).toArray) 3 g1_5 14) ?_
    refine p 2 ?_
    refine rend ?_
    refine c_or (!qHand s1.Other s2.Other) (fun q48 => ?_) (fun q48 => ?_)
    · replace h := H.t q48 h
      refine r_start ?_
      refine p 1 ?_
      refine xx rfl (e_lit (e := (eI .i64)) (el := 3) [.int .i64 4] ([4] : List Int) fun A12_1 k12_1 => ?_)
      obtain ⟨y12_2, hy12_2, h⟩ := H.call h
      refine xx rfl (e_app 5 hy12_2 (s_own 6) fun A12_2 k12_2 => ?_)
      refine p 1 ?_
      refine rend ?_
      refine c_seq ?_
      refine r_start ?_
      refine p 2 ?_
      refine rend ?_
      replace h := H.done h
      subst h
      exact ret func117 rfl (vs := [.slice A12_2 (List.length y12_2) k12_2]) (.tmp (by kernel_rfl) .nil) rfl (fun W S => ⟨_, _, rfl, S.row 5, S.below⟩)
    replace h := H.f q48 h
    refine c_skip ?_
    refine c_seq ?_
    refine r_start ?_
    refine p 2 ?_
    refine rend ?_
    replace h := H.done h
    subst h
    exact ret func117 rfl (vs := [.slice A10_2 (List.length y10_2) k10_2]) (.tmp (by kernel_rfl) .nil) rfl (fun W S => ⟨_, _, rfl, S.row 5, S.below⟩)
  replace h := H.f q46 h
  refine c_skip ?_
  refine c_seq ?_
  refine c_seq ?_
  refine r_start ?_
  refine p 1 ?_
  refine xq rfl (y_load (.bool s1.Two) 2 g1_4 13) ?_
  refine p 1 ?_
  refine xq rfl (y_load (.bool s2.Two) 3 g1_5 13) ?_
  refine p 2 ?_
  refine br (!(s1.Two == s2.Two)) (fun q49 => ?_) (fun q49 => ?_)
  · replace h := H.t q49 h
    refine o_set 57 (congrArg Value.bool q49) ?_
    refine p 6 ?_
    refine rend ?_
    refine c_t (by kernel_rfl) ?_
    refine r_start ?_
    refine p 1 ?_
    refine xx rfl (e_lit (e := (eI .i64)) (el := 3) [.int .i64 4] ([4] : List Int) fun A12_1 k12_1 => ?_)
    refine o_nil (eI .i64) 3 ?_
    obtain ⟨y12_2, hy12_2, h⟩ := H.call h
    refine xx rfl (e_app 5 hy12_2 (s_own 4) fun A12_2 k12_2 => ?_)
    refine p 1 ?_
    refine rend ?_
    refine c_seq ?_
    refine r_start ?_
    refine p 2 ?_
    refine rend ?_
    replace h := H.done h
    subst h
    exact ret func117 rfl (vs := [.slice A12_2 (List.length y12_2) k12_2]) (.tmp (by kernel_rfl) .nil) rfl (fun W S => ⟨_, _, rfl, S.row 5, S.below⟩)
  replace h := H.f q49 h
  refine o_set 57 (congrArg Value.bool q49) ?_
  refine p 1 ?_
  refine xq rfl (y_load (.agg (eHand s1.Other).toArray) 2 g1_4 14) ?_
  refine p 1 ?_
  refine xq rfl (y_load (.agg (eHand s2.Other).toArray) 3 g1_5 14) ?_
  refine p 2 ?_
  refine rend ?_
  refine c_or (!qHand s1.Other s2.Other) (fun q50 => ?_) (fun q50 => ?_)
  · replace h := H.t q50 h
    refine r_start ?_
    refine p 1 ?_
    refine xx rfl (e_lit (e := (eI .i64)) (el := 3) [.int .i64 4] ([4] : List Int) fun A12_1 k12_1 => ?_)
    refine o_nil (eI .i64) 3 ?_
    obtain ⟨y12_2, hy12_2, h⟩ := H.call h
    refine xx rfl (e_app 5 hy12_2 (s_own 4) fun A12_2 k12_2 => ?_)
    refine p 1 ?_
    refine rend ?_
    refine c_seq ?_
    refine r_start ?_
    refine p 2 ?_
    refine rend ?_
    replace h := H.done h
    subst h
    exact ret func117 rfl (vs := [.slice A12_2 (List.length y12_2) k12_2]) (.tmp (by kernel_rfl) .nil) rfl (fun W S => ⟨_, _, rfl, S.row 5, S.below⟩)
  replace h := H.f q50 h
  refine c_skip ?_
  refine c_seq ?_
  refine r_start ?_
  refine p 2 ?_
  refine rend ?_
  replace h := H.done h
  subst h
  exact ret func117 rfl (vs := [.slice none 0 0]) (.tmp (by kernel_rfl) .nil) rfl (fun W S => ⟨none, 0, rfl, World.ownsRow_nil _ _ _ _, S.below⟩)
theorem C.s_prPairs {fu : Nat} {a0 : (List Sign)} {A0 : Option Addr} {k0 : Nat} {a1 : Int} {r : (List (List Int))} (w : World) (h : X.s_prPairs fu a0 a1 = some r) (h0 : RdT nSign w (.slice A0 (List.length a0) k0) a0) : Calls prog 63 #[.slice A0 (List.length a0) k0, .int .i64 a1] w (RetD (eI .i64) 30 3 w r (fun v => v)) := by
  refine calls (M := no) (args := [.slice A0 (List.length a0) k0, .int .i64 a1]) func63 rfl ?_
  replace h : H (X.s_prPairs fu a0 a1) (fun o => o = r) := H.mk h
  unfold X.s_prPairs at h
  refine c_seq ?_
  refine r_start ?_
  refine p 1 ?_
  refine rend ?_
  refine c_seq ?_
  refine r_start ?_
  refine p 1 ?_
  refine rend ?_
  refine c_seq ?_
  refine c_seq ?_
  refine r_start ?_
  refine p 3 ?_
  refine rend ?_
  refine c_block ?_
  refine c_nil eSl 30 ?_
  refine c_inn (eI .i64) 3 ?_
  refine joinH (X := ((List (List Int)) × List Sl × Option Addr × Nat)) 0 (H.bnd h) (fun ⟨l8, u5, A6, k7⟩ => l8) (fun ⟨l8, u5, A6, k7⟩ => [rowT eSl w.heap.size 30 (.slice A6 (List.length u5) k7) u5, inns (eI .i64) w.heap.size 3 u5 l8]) (fun ⟨l8, u5, A6, k7⟩ u => (jk u 0 5 (.slice A6 (List.length u5) k7 :: (jk u 6 47 [])))) (fun h hj9 => ?_) ?_
  · skip
    refine rangeR (X := ((List (List Int)) × List Sl × Option Addr × Nat)) (s_arg h0) (fun ⟨l4, u1, A2, k3⟩ => l4) (fun ⟨l4, u1, A2, k3⟩ => [rowT eSl w.heap.size 30 (.slice A2 (List.length u1) k3) u1, inns (eI .i64) w.heap.size 3 u1 l4]) (fun (j10 : Nat) ⟨l4, u1, A2, k3⟩ u => (.slice A0 (List.length a0) k0 :: .int .i64 a1 :: (jk u 2 3 (.slice A2 (List.length u1) k3 :: (jk u 6 4 (.int .i64 (List.length a0 : Int) :: .int .i64 (j10 : Int) :: (jk u 12 41 []))))))) (([] : List (List Int)), ([] : List Sl), none, 0) h (by kernel_rfl) (by kernel_rfl) ?_ ?_
    · intro j10 x u x11 q12 hg13 hw14 h
      obtain ⟨l4, u1, A2, k3⟩ := x
      refine c_seq ?_
      refine r_start ?_
      refine p 1 ?_
      refine rend ?_
      refine c_seq ?_
      refine c_yes q12 ?_
      refine c_skip ?_
      refine c_seq ?_
      refine c_block ?_
      refine c_seq ?_
      refine r_start ?_
      refine p 2 ?_
      refine rend ?_
      refine c_seq ?_
      refine r_start ?_
      refine p 3 ?_
      refine rend ?_
      refine c_block ?_
      refine joinH (X := ((List (List Int)) × List Sl × Option Addr × Nat)) 2 (H.bnd h) (fun ⟨l23, u20, A21, k22⟩ => l23) (fun ⟨l23, u20, A21, k22⟩ => [rowT eSl w.heap.size 30 (.slice A21 (List.length u20) k22) u20, inns (eI .i64) w.heap.size 3 u20 l23]) (fun ⟨l23, u20, A21, k22⟩ u => (.slice A0 (List.length a0) k0 :: .int .i64 a1 :: (jk u 2 3 (.slice A21 (List.length u20) k22 :: (jk u 6 4 (.int .i64 (List.length a0 : Int) :: .int .i64 (j10 : Int) :: (jk u 12 41 []))))))) (fun h hj24 => ?_) ?_
      · skip
        refine loopR (X := (Int × (List (List Int)) × List Sl × Option Addr × Nat)) (fun ⟨n15, l19, u16, A17, k18⟩ => (n15, l19)) (fun ⟨n15, l19, u16, A17, k18⟩ => [rowT eSl w.heap.size 30 (.slice A17 (List.length u16) k18) u16, inns (eI .i64) w.heap.size 3 u16 l19]) (fun ⟨n15, l19, u16, A17, k18⟩ u => (.slice A0 (List.length a0) k0 :: .int .i64 a1 :: (jk u 2 3 (.slice A17 (List.length u16) k18 :: .int .i64 (j10 : Int) :: .int .i64 n15 :: (jk u 8 2 (.int .i64 (List.length a0 : Int) :: .int .i64 (j10 : Int) :: (jk u 12 41 []))))))) ((wr ((j10 : Int) + 1)), l4, u1, A2, k3) h (by kernel_rfl) (by kernel_rfl) ?_
        intro x u h
        obtain ⟨n15, l19, u16, A17, k18⟩ := x
        refine c_seq ?_
        refine c_seq ?_
        refine r_start ?_
        refine p 4 ?_
        refine rend ?_
        refine c_or (decide (n15 < (List.length a0 : Int))) (fun q25 => ?_) (fun q25 => ?_)
        · replace h := H.t q25 h
          refine c_skip ?_
          refine c_seq ?_
          refine c_block ?_
          refine c_seq ?_
          refine as_start 10 10 ?_
          refine ap 0 2 ?_
          obtain ⟨y8_2, hy8_2, h⟩ := H.call h
          refine aq 2 rfl (y_idx (e := nSign) (el := 85) hy8_2 (s_arg h0)) ?_
          refine aq 3 rfl (y_el (e := nSign) 0 (.agg (eSign y8_2).toArray) hy8_2 (s_arg h0)) ?_
          refine ap 4 2 ?_
          obtain ⟨y8_6, hy8_6, h⟩ := H.call h
          refine aq 6 rfl (y_idx (e := nSign) (el := 85) hy8_6 (s_arg h0)) ?_
          refine aq 7 rfl (y_el (e := nSign) 0 (.agg (eSign y8_6).toArray) hy8_6 (s_arg h0)) ?_
          obtain ⟨v8_8, hv8_8, h⟩ := H.call h
          refine ax 8 rfl (e_cr [.agg (eSign y8_2).toArray, .agg (eSign y8_6).toArray] (fun v => v) func117 (fun W S => C.s_prApart W hv8_8) fun A8_8 k8_8 => ⟨.inr (by kernel_rfl), ?_⟩)
          refine ap 9 1 ?_
          refine a_done ?_
          refine c_seq ?_
          refine r_start ?_
          refine p 4 ?_
          refine br ((List.length v8_8 : Int) == 1) (fun q26 => ?_) (fun q26 => ?_)
          · replace h := H.t q26 h
            refine o_set 34 (congrArg Value.bool q26) ?_
            refine p 3 ?_
            refine br (decide (a1 < 0)) (fun q27 => ?_) (fun q27 => ?_)
            · replace h := H.t q27 h
              refine o_set 37 (congrArg Value.bool q27) ?_
              refine p 7 ?_
              refine rend ?_
              refine c_t (by kernel_rfl) ?_
              refine r_start ?_
              refine p 3 ?_
              refine xx rfl (e_lit (e := (eI .i64)) (el := 3) [.int .i64 (j10 : Int), .int .i64 n15] ([(j10 : Int), n15] : List Int) fun A10_3 k10_3 => ?_)
              refine xx rfl (e_lit (e := eSl) (el := 30) [.slice A10_3 (List.length ([(j10 : Int), n15] : List Int)) k10_3] ([⟨A10_3, List.length ([(j10 : Int), n15] : List Int), k10_3⟩] : List Sl) fun A10_4 k10_4 => ?_)
              obtain ⟨y10_5, hy10_5, h⟩ := H.call h
              refine o_fact (f_len (i_own 1)) fun hl10_5 => ?_
              obtain ⟨ha10_5, hq10_5⟩ := appD_sl (ws := ([⟨A10_3, List.length ([(j10 : Int), n15] : List Int), k10_3⟩] : List Sl)) hy10_5 hl10_5 rfl
              refine xx rfl (e_app 0 ha10_5 (s_own 4) fun A10_5 k10_5 => ?_)
              refine p 1 ?_
              refine rend ?_
              refine absorbE (e := (eI .i64)) (B := w.heap.size) (t := 3) (A := A10_3) (c := k10_3) (l := ([(j10 : Int), n15] : List Int)) (us := u16) [0, 2, 3, 1] [rowT eSl w.heap.size 30 (.slice A10_5 (List.length (u16 ++ ([⟨A10_3, List.length ([(j10 : Int), n15] : List Int), k10_3⟩] : List Sl))) k10_5) (u16 ++ ([⟨A10_3, List.length ([(j10 : Int), n15] : List Int), k10_3⟩] : List Sl)), rowT (eI .i64) w.heap.size 3 (.slice A8_8 (List.length v8_8) k8_8) v8_8] hq10_5 ?_
              refine c_inb ?_
              refine r_start ?_
              refine p 3 ?_
              refine rend ?_
              refine pick [0, 2] [rowT eSl w.heap.size 30 (.slice A10_5 (List.length (u16 ++ ([⟨A10_3, List.length ([(j10 : Int), n15] : List Int), k10_3⟩] : List Sl))) k10_5) (u16 ++ ([⟨A10_3, List.length ([(j10 : Int), n15] : List Int), k10_3⟩] : List Sl)), inns (eI .i64) w.heap.size 3 (u16 ++ ([⟨A10_3, List.length ([(j10 : Int), n15] : List Int), k10_3⟩] : List Sl)) y10_5] ?_
              replace h := H.inl h
              exact h ((wr (n15 + 1)), y10_5, (u16 ++ ([⟨A10_3, List.length ([(j10 : Int), n15] : List Int), k10_3⟩] : List Sl)), A10_5, k10_5) _ _ rfl (by kernel_rfl) (by kernel_rfl)
            replace h := H.f q27 h
            refine o_set 37 (congrArg Value.bool q27) ?_
            refine p 1 ?_
            obtain ⟨y9_8, hy9_8, h⟩ := H.call h
            refine xq rfl (y_idx (e := (eI .i64)) (el := 3) hy9_8 (s_own 2)) ?_
            refine xq rfl (y_el (e := (eI .i64)) 0 (.int .i64 y9_8) hy9_8 (s_own 2)) ?_
            refine p 4 ?_
            refine rend ?_
            refine c_or (y9_8 == a1) (fun q28 => ?_) (fun q28 => ?_)
            · replace h := H.t q28 h
              refine r_start ?_
              refine p 3 ?_
              refine xx rfl (e_lit (e := (eI .i64)) (el := 3) [.int .i64 (j10 : Int), .int .i64 n15] ([(j10 : Int), n15] : List Int) fun A10_3 k10_3 => ?_)
              refine xx rfl (e_lit (e := eSl) (el := 30) [.slice A10_3 (List.length ([(j10 : Int), n15] : List Int)) k10_3] ([⟨A10_3, List.length ([(j10 : Int), n15] : List Int), k10_3⟩] : List Sl) fun A10_4 k10_4 => ?_)
              obtain ⟨y10_5, hy10_5, h⟩ := H.call h
              refine o_fact (f_len (i_own 1)) fun hl10_5 => ?_
              obtain ⟨ha10_5, hq10_5⟩ := appD_sl (ws := ([⟨A10_3, List.length ([(j10 : Int), n15] : List Int), k10_3⟩] : List Sl)) hy10_5 hl10_5 rfl
              refine xx rfl (e_app 0 ha10_5 (s_own 4) fun A10_5 k10_5 => ?_)
              refine p 1 ?_
              refine rend ?_
              refine absorbE (e := (eI .i64)) (B := w.heap.size) (t := 3) (A := A10_3) (c := k10_3) (l := ([(j10 : Int), n15] : List Int)) (us := u16) [0, 2, 3, 1] [rowT eSl w.heap.size 30 (.slice A10_5 (List.length (u16 ++ ([⟨A10_3, List.length ([(j10 : Int), n15] : List Int), k10_3⟩] : List Sl))) k10_5) (u16 ++ ([⟨A10_3, List.length ([(j10 : Int), n15] : List Int), k10_3⟩] : List Sl)), rowT (eI .i64) w.heap.size 3 (.slice A8_8 (List.length v8_8) k8_8) v8_8] hq10_5 ?_
              refine c_inb ?_
              refine r_start ?_
              refine p 3 ?_
              refine rend ?_
              refine pick [0, 2] [rowT eSl w.heap.size 30 (.slice A10_5 (List.length (u16 ++ ([⟨A10_3, List.length ([(j10 : Int), n15] : List Int), k10_3⟩] : List Sl))) k10_5) (u16 ++ ([⟨A10_3, List.length ([(j10 : Int), n15] : List Int), k10_3⟩] : List Sl)), inns (eI .i64) w.heap.size 3 (u16 ++ ([⟨A10_3, List.length ([(j10 : Int), n15] : List Int), k10_3⟩] : List Sl)) y10_5] ?_
              replace h := H.inl h
              exact h ((wr (n15 + 1)), y10_5, (u16 ++ ([⟨A10_3, List.length ([(j10 : Int), n15] : List Int), k10_3⟩] : List Sl)), A10_5, k10_5) _ _ rfl (by kernel_rfl) (by kernel_rfl)
            replace h := H.f q28 h
            refine c_skip ?_
            refine c_inb ?_
            refine r_start ?_
            refine p 3 ?_
            refine rend ?_
            replace h := H.inl h
            exact h ((wr (n15 + 1)), l19, u16, A17, k18) _ _ rfl (by kernel_rfl) (by kernel_rfl)
          replace h := H.f q26 h
          refine o_set 34 (congrArg Value.bool q26) ?_
          refine p 10 ?_
          refine rend ?_
          refine c_f (by kernel_rfl) ?_
          refine c_skip ?_
          refine c_inb ?_
          refine r_start ?_
          refine p 3 ?_
          refine rend ?_
          replace h := H.inl h
          exact h ((wr (n15 + 1)), l19, u16, A17, k18) _ _ rfl (by kernel_rfl) (by kernel_rfl)
        replace h := H.f q25 h
        refine cx ?_
        replace h := H.inr h
        exact hj24 (l19, u16, A17, k18) _ _ h (by kernel_rfl) (by kernel_rfl)
      intro x u h
      obtain ⟨l23, u20, A21, k22⟩ := x
      refine c_inb ?_
      refine r_start ?_
      refine p 2 ?_
      refine rend ?_
      refine c_set 11 (ci hw14) ?_
      replace h := H.inl h
      exact h (l23, u20, A21, k22) _ _ rfl (by kernel_rfl) (by kernel_rfl)
    · intro x u q12 h
      obtain ⟨l4, u1, A2, k3⟩ := x
      refine c_seq ?_
      refine r_start ?_
      refine p 1 ?_
      refine rend ?_
      refine c_seq ?_
      refine c_no q12 ?_
      refine cx ?_
      replace h := H.done h
      exact hj9 (l4, u1, A2, k3) _ _ h (by kernel_rfl) (by kernel_rfl)
  intro x u h
  obtain ⟨l8, u5, A6, k7⟩ := x
  refine c_seq ?_
  refine r_start ?_
  refine p 2 ?_
  refine rend ?_
  replace h := H.done h
  subst h
  exact ret func63 rfl (vs := [.slice A6 (List.length u5) k7]) (.tmp (by kernel_rfl) .nil) rfl (fun W S => S.retD (res := fun v => v) 0 1 (by decide))
end Go.Proofs.XC
