/- Contracts: each function of the given program, called where its plain function gives an answer, returns just that answer and changes nothing that was there. By AI agents; no person has read it. -/
import Derived.Test.YtcniidjoaancoaaGreatDoorC1
set_option linter.unusedVariables false
set_option linter.unusedSimpArgs false
set_option maxRecDepth 100000
set_option maxHeartbeats 40000000
namespace Go.Proofs.XC
open Go Go.RowKit
open Tryz
theorem C.s_prApart {fu : Nat} {a0 : Sign} {a1 : Sign} {r : (List Int)} (w : World) (h : X.s_prApart fu a0 a1 = some r) : Calls prog 153 #[.agg (eSign a0).toArray, .agg (eSign a1).toArray] w (RetR (eI .i64) 3 w r (fun v => v)) := by
  refine calls (M := no) (args := [.agg (eSign a0).toArray, .agg (eSign a1).toArray]) func153 rfl ?_
  replace h : H (X.s_prApart fu a0 a1) (fun o => o = r) := H.mk h
  unfold X.s_prApart at h
  refine c_seq ?_
  refine r_start ?_
  refine xx rfl (x_box (eSign a0) fun g0_0 => ?_)
  refine xx rfl (x_box (eSign a1) fun g0_1 => ?_)
  refine p 1 ?_
  refine rend ?_
  refine c_seq ?_
  refine joinT (X := (Sign × Sign × Nat × Nat)) (H.bnd h) (fun ⟨s1, s2, g1_4, g1_5⟩ => (s1, s2)) (fun ⟨s1, s2, g1_4, g1_5⟩ => [box g0_0 66 (eSign a0), box g0_1 66 (eSign a1), box g1_4 66 (eSign s1), box g1_5 66 (eSign s2)]) (fun ⟨s1, s2, g1_4, g1_5⟩ u => (jk u 0 5 (.pointer (some ⟨g1_4, 0, none⟩) :: .pointer (some ⟨g1_5, 0, none⟩) :: (jk u 7 61 [])))) (fun h hj3 => ?_) ?_
  · skip
    refine as_start 8 8 ?_
    refine aq 0 rfl (y_load (.agg (eSign a0).toArray) 0 g0_0 0) ?_
    obtain ⟨v1_1, hv1_1, h⟩ := H.call h
    refine aq 1 rfl (y_call [.agg (eSign a0).toArray] (.agg (eSign v1_1).toArray) func90 (fun W S => C.s_noForm W hv1_1)) ?_
    refine aq 2 rfl (y_load (.agg (eSign a1).toArray) 1 g0_1 0) ?_
    obtain ⟨v1_3, hv1_3, h⟩ := H.call h
    refine aq 3 rfl (y_call [.agg (eSign a1).toArray] (.agg (eSign v1_3).toArray) func90 (fun W S => C.s_noForm W hv1_3)) ?_
    refine a_two 4 5 rfl rfl ?_ ?_
    · skip
      refine (x_new (eSign zSign) fun g1_4 => ⟨.inr (by kernel_rfl), ?_⟩)
      refine ax 5 rfl (x_new (eSign zSign) fun g1_5 => ⟨.inr (by kernel_rfl), ?_⟩)
      refine ax 6 rfl (x_sto 2 g1_4 0 (eSign v1_1) ⟨.inr (by kernel_rfl), ?_⟩)
      refine ax 7 rfl (x_sto 3 g1_5 0 (eSign v1_3) ⟨.inr (by kernel_rfl), ?_⟩)
      refine a_done ?_
      replace h := H.done h
      exact hj3 (v1_1, v1_3, g1_4, g1_5) _ _ h (by kernel_rfl) (by kernel_rfl)
    refine (x_new (eSign zSign) fun g1_5 => ⟨.inr (by kernel_rfl), ?_⟩)
    refine ax 4 rfl (x_new (eSign zSign) fun g1_4 => ⟨.inr (by kernel_rfl), ?_⟩)
    refine ax 6 rfl (x_sto 3 g1_4 0 (eSign v1_1) ⟨.inr (by kernel_rfl), ?_⟩)
    refine ax 7 rfl (x_sto 2 g1_5 0 (eSign v1_3) ⟨.inr (by kernel_rfl), ?_⟩)
    refine a_done ?_
    refine swp [box g0_0 66 (eSign a0), box g0_1 66 (eSign a1)] (box g1_5 66 (eSign v1_3)) (box g1_4 66 (eSign v1_1)) ?_
    replace h := H.done h
    exact hj3 (v1_1, v1_3, g1_4, g1_5) _ _ h (by kernel_rfl) (by kernel_rfl)
  intro x u h
  obtain ⟨s1, s2, g1_4, g1_5⟩ := x
  refine c_seq ?_
  refine r_start ?_
  refine p 1 ?_
  refine rend ?_
  refine c_seq ?_
  refine c_seq ?_
  refine r_start ?_
  refine p 2 ?_
  refine xq rfl (y_load (.agg (eShape s1.Main.Shape).toArray) 2 g1_4 0) ?_
  refine p 2 ?_
  refine xq rfl (y_load (.agg (eShape s2.Main.Shape).toArray) 3 g1_5 0) ?_
  refine p 1 ?_
  refine rend ?_
  refine c_or (!qShape s1.Main.Shape s2.Main.Shape) (fun q4 => ?_) (fun q4 => ?_)
  · replace h := H.t q4 h
    refine r_start ?_
    refine p 1 ?_
    refine xx rfl (e_lit (e := (eI .i64)) (el := 3) [.int .i64 0] ([0] : List Int) fun A4_1 k4_1 => ?_)
    refine o_nil (eI .i64) 3 ?_
    obtain ⟨y4_2, hy4_2, h⟩ := H.call h
    refine xx rfl (e_app 5 hy4_2 (s_own 4) fun A4_2 k4_2 => ?_)
    refine p 1 ?_
    refine rend ?_
    refine c_seq ?_
    refine c_seq ?_
    refine r_start ?_
    refine p 2 ?_
    refine xq rfl (y_load (.agg (eOrient s1.Main.Orient).toArray) 2 g1_4 6) ?_
    refine p 2 ?_
    refine xq rfl (y_load (.agg (eOrient s2.Main.Orient).toArray) 3 g1_5 6) ?_
    refine p 1 ?_
    refine rend ?_
    refine c_or (!qOrient s1.Main.Orient s2.Main.Orient) (fun q5 => ?_) (fun q5 => ?_)
    · replace h := H.t q5 h
      refine r_start ?_
      refine p 1 ?_
      refine xx rfl (e_lit (e := (eI .i64)) (el := 3) [.int .i64 1] ([1] : List Int) fun A6_1 k6_1 => ?_)
      obtain ⟨y6_2, hy6_2, h⟩ := H.call h
      refine xx rfl (e_app 5 hy6_2 (s_own 6) fun A6_2 k6_2 => ?_)
      refine p 1 ?_
      refine rend ?_
      refine c_seq ?_
      refine c_seq ?_
      refine r_start ?_
      refine p 2 ?_
      refine xq rfl (y_load (.agg (ePlace s1.Main.Place).toArray) 2 g1_4 8) ?_
      refine p 2 ?_
      refine xq rfl (y_load (.agg (ePlace s2.Main.Place).toArray) 3 g1_5 8) ?_
      refine p 1 ?_
      refine rend ?_
      refine c_or (!qPlace s1.Main.Place s2.Main.Place) (fun q6 => ?_) (fun q6 => ?_)
      · replace h := H.t q6 h
        refine r_start ?_
        refine p 1 ?_
        refine xx rfl (e_lit (e := (eI .i64)) (el := 3) [.int .i64 2] ([2] : List Int) fun A8_1 k8_1 => ?_)
        obtain ⟨y8_2, hy8_2, h⟩ := H.call h
        refine xx rfl (e_app 5 hy8_2 (s_own 7) fun A8_2 k8_2 => ?_)
        refine p 1 ?_
        refine rend ?_
        refine c_seq ?_
        refine c_seq ?_
        refine r_start ?_
        refine p 2 ?_
        refine xq rfl (y_load (.agg (eMove s1.Main.Move).toArray) 2 g1_4 11) ?_
        refine p 2 ?_
        refine xq rfl (y_load (.agg (eMove s2.Main.Move).toArray) 3 g1_5 11) ?_
        refine p 1 ?_
        refine rend ?_
        refine c_or (!qMove s1.Main.Move s2.Main.Move) (fun q7 => ?_) (fun q7 => ?_)
        · replace h := H.t q7 h
          refine r_start ?_
          refine p 1 ?_
          refine xx rfl (e_lit (e := (eI .i64)) (el := 3) [.int .i64 3] ([3] : List Int) fun A10_1 k10_1 => ?_)
          obtain ⟨y10_2, hy10_2, h⟩ := H.call h
          refine xx rfl (e_app 5 hy10_2 (s_own 8) fun A10_2 k10_2 => ?_)
          refine p 1 ?_
          refine rend ?_
          refine c_seq ?_
          refine c_seq ?_
          refine r_start ?_
          refine p 1 ?_
          refine xq rfl (y_load (.bool s1.Two) 2 g1_4 13) ?_
          refine p 1 ?_
          refine xq rfl (y_load (.bool s2.Two) 3 g1_5 13) ?_
          refine p 2 ?_
          refine br (!(s1.Two == s2.Two)) (fun q8 => ?_) (fun q8 => ?_)
          · replace h := H.t q8 h
            refine o_set 57 (congrArg Value.bool q8) ?_
            refine p 6 ?_
            refine rend ?_
            refine c_t (by kernel_rfl) ?_
            refine r_start ?_
            refine p 1 ?_
            refine xx rfl (e_lit (e := (eI .i64)) (el := 3) [.int .i64 4] ([4] : List Int) fun A12_1 k12_1 => ?_)
            obtain ⟨y12_2, hy12_2, h⟩ := H.call h
            refine xx rfl (e_app 5 hy12_2 (s_own 9) fun A12_2 k12_2 => ?_)
            refine p 1 ?_
            refine rend ?_
            refine frg (fun u => (jk u 0 7 (.slice A12_2 (List.length y12_2) k12_2 :: (jk u 8 60 [])))) (by kernel_rfl) fun u => ?_
            refine keep 10 (its' := [box g0_0 66 (eSign a0), box g0_1 66 (eSign a1), box g1_4 66 (eSign s1), box g1_5 66 (eSign s2), rowT (eI .i64) w.heap.size 3 (.slice A4_1 (List.length ([0] : List Int)) k4_1) ([0] : List Int), rowT (eI .i64) w.heap.size 3 (.slice A12_2 (List.length y12_2) k12_2) y12_2, rowT (eI .i64) w.heap.size 3 (.slice A6_1 (List.length ([1] : List Int)) k6_1) ([1] : List Int), rowT (eI .i64) w.heap.size 3 (.slice A8_1 (List.length ([2] : List Int)) k8_1) ([2] : List Int), rowT (eI .i64) w.heap.size 3 (.slice A10_1 (List.length ([3] : List Int)) k10_1) ([3] : List Int), rowT (eI .i64) w.heap.size 3 (.slice A12_1 (List.length ([4] : List Int)) k12_1) ([4] : List Int)]) (by kernel_rfl) ?_
            refine c_seq ?_
            refine r_start ?_
            refine p 2 ?_
            refine rend ?_
            replace h := H.done h
            subst h
            exact ret func153 rfl (vs := [.slice A12_2 (List.length y12_2) k12_2]) (.tmp (by kernel_rfl) .nil) rfl (fun W S => ⟨_, _, rfl, S.row 5, S.below⟩)
          replace h := H.f q8 h
          refine o_set 57 (congrArg Value.bool q8) ?_
          refine p 1 ?_
          refine xq rfl (y_load (.agg (eHand s1.Other).toArray) 2 g1_4 14) ?_
          refine p 1 ?_
          refine xq rfl (y_load (.agg (eHand s2.Other).toArray) 3 g1_5 14) ?_
          refine p 2 ?_
          refine rend ?_
          refine c_or (!qHand s1.Other s2.Other) (fun q9 => ?_) (fun q9 => ?_)
          · replace h := H.t q9 h
            refine r_start ?_
            refine p 1 ?_
            refine xx rfl (e_lit (e := (eI .i64)) (el := 3) [.int .i64 4] ([4] : List Int) fun A12_1 k12_1 => ?_)
            obtain ⟨y12_2, hy12_2, h⟩ := H.call h
            refine xx rfl (e_app 5 hy12_2 (s_own 9) fun A12_2 k12_2 => ?_)
            refine p 1 ?_
            refine rend ?_
            refine frg (fun u => (jk u 0 7 (.slice A12_2 (List.length y12_2) k12_2 :: (jk u 8 60 [])))) (by kernel_rfl) fun u => ?_
            refine keep 10 (its' := [box g0_0 66 (eSign a0), box g0_1 66 (eSign a1), box g1_4 66 (eSign s1), box g1_5 66 (eSign s2), rowT (eI .i64) w.heap.size 3 (.slice A4_1 (List.length ([0] : List Int)) k4_1) ([0] : List Int), rowT (eI .i64) w.heap.size 3 (.slice A12_2 (List.length y12_2) k12_2) y12_2, rowT (eI .i64) w.heap.size 3 (.slice A6_1 (List.length ([1] : List Int)) k6_1) ([1] : List Int), rowT (eI .i64) w.heap.size 3 (.slice A8_1 (List.length ([2] : List Int)) k8_1) ([2] : List Int), rowT (eI .i64) w.heap.size 3 (.slice A10_1 (List.length ([3] : List Int)) k10_1) ([3] : List Int), rowT (eI .i64) w.heap.size 3 (.slice A12_1 (List.length ([4] : List Int)) k12_1) ([4] : List Int)]) (by kernel_rfl) ?_
            refine c_seq ?_
            refine r_start ?_
            refine p 2 ?_
            refine rend ?_
            replace h := H.done h
            subst h
            exact ret func153 rfl (vs := [.slice A12_2 (List.length y12_2) k12_2]) (.tmp (by kernel_rfl) .nil) rfl (fun W S => ⟨_, _, rfl, S.row 5, S.below⟩)
          replace h := H.f q9 h
          refine c_skip ?_
          refine c_seq ?_
          refine r_start ?_
          refine p 2 ?_
          refine rend ?_
          refine frg (fun u => (jk u 0 4 (.slice A10_2 (List.length y10_2) k10_2 :: (jk u 5 63 [])))) (by kernel_rfl) fun u => ?_
          refine keep 9 (its' := [box g0_0 66 (eSign a0), box g0_1 66 (eSign a1), box g1_4 66 (eSign s1), box g1_5 66 (eSign s2), rowT (eI .i64) w.heap.size 3 (.slice A4_1 (List.length ([0] : List Int)) k4_1) ([0] : List Int), rowT (eI .i64) w.heap.size 3 (.slice A10_2 (List.length y10_2) k10_2) y10_2, rowT (eI .i64) w.heap.size 3 (.slice A6_1 (List.length ([1] : List Int)) k6_1) ([1] : List Int), rowT (eI .i64) w.heap.size 3 (.slice A8_1 (List.length ([2] : List Int)) k8_1) ([2] : List Int), rowT (eI .i64) w.heap.size 3 (.slice A10_1 (List.length ([3] : List Int)) k10_1) ([3] : List Int)]) (by kernel_rfl) ?_
          replace h := H.done h
          subst h
          exact ret func153 rfl (vs := [.slice A10_2 (List.length y10_2) k10_2]) (.tmp (by kernel_rfl) .nil) rfl (fun W S => ⟨_, _, rfl, S.row 5, S.below⟩)
        replace h := H.f q7 h
        refine c_skip ?_
        refine c_seq ?_
        refine c_seq ?_
        refine r_start ?_
        refine p 1 ?_
        refine xq rfl (y_load (.bool s1.Two) 2 g1_4 13) ?_
        refine p 1 ?_
        refine xq rfl (y_load (.bool s2.Two) 3 g1_5 13) ?_
        refine p 2 ?_
        refine br (!(s1.Two == s2.Two)) (fun q10 => ?_) (fun q10 => ?_)
        · replace h := H.t q10 h
          refine o_set 57 (congrArg Value.bool q10) ?_
          refine p 6 ?_
          refine rend ?_
          refine c_t (by kernel_rfl) ?_
          refine r_start ?_
          refine p 1 ?_
          refine xx rfl (e_lit (e := (eI .i64)) (el := 3) [.int .i64 4] ([4] : List Int) fun A12_1 k12_1 => ?_)
          obtain ⟨y12_2, hy12_2, h⟩ := H.call h
          refine xx rfl (e_app 5 hy12_2 (s_own 8) fun A12_2 k12_2 => ?_)
          refine p 1 ?_
          refine rend ?_
          refine c_seq ?_
          refine r_start ?_
          refine p 2 ?_
          refine rend ?_
          refine frg (fun u => (jk u 0 4 (.slice A12_2 (List.length y12_2) k12_2 :: (jk u 5 63 [])))) (by kernel_rfl) fun u => ?_
          refine keep 9 (its' := [box g0_0 66 (eSign a0), box g0_1 66 (eSign a1), box g1_4 66 (eSign s1), box g1_5 66 (eSign s2), rowT (eI .i64) w.heap.size 3 (.slice A4_1 (List.length ([0] : List Int)) k4_1) ([0] : List Int), rowT (eI .i64) w.heap.size 3 (.slice A12_2 (List.length y12_2) k12_2) y12_2, rowT (eI .i64) w.heap.size 3 (.slice A6_1 (List.length ([1] : List Int)) k6_1) ([1] : List Int), rowT (eI .i64) w.heap.size 3 (.slice A8_1 (List.length ([2] : List Int)) k8_1) ([2] : List Int), rowT (eI .i64) w.heap.size 3 (.slice A12_1 (List.length ([4] : List Int)) k12_1) ([4] : List Int)]) (by kernel_rfl) ?_
          replace h := H.done h
          subst h
          exact ret func153 rfl (vs := [.slice A12_2 (List.length y12_2) k12_2]) (.tmp (by kernel_rfl) .nil) rfl (fun W S => ⟨_, _, rfl, S.row 5, S.below⟩)
        replace h := H.f q10 h
        refine o_set 57 (congrArg Value.bool q10) ?_
        refine p 1 ?_
        refine xq rfl (y_load (.agg (eHand s1.Other).toArray) 2 g1_4 14) ?_
        refine p 1 ?_
        refine xq rfl (y_load (.agg (eHand s2.Other).toArray) 3 g1_5 14) ?_
        refine p 2 ?_
        refine rend ?_
        refine c_or (!qHand s1.Other s2.Other) (fun q11 => ?_) (fun q11 => ?_)
        · replace h := H.t q11 h
          refine r_start ?_
          refine p 1 ?_
          refine xx rfl (e_lit (e := (eI .i64)) (el := 3) [.int .i64 4] ([4] : List Int) fun A12_1 k12_1 => ?_)
          obtain ⟨y12_2, hy12_2, h⟩ := H.call h
          refine xx rfl (e_app 5 hy12_2 (s_own 8) fun A12_2 k12_2 => ?_)
          refine p 1 ?_
          refine rend ?_
          refine c_seq ?_
          refine r_start ?_
          refine p 2 ?_
          refine rend ?_
          refine frg (fun u => (jk u 0 4 (.slice A12_2 (List.length y12_2) k12_2 :: (jk u 5 63 [])))) (by kernel_rfl) fun u => ?_
          refine keep 9 (its' := [box g0_0 66 (eSign a0), box g0_1 66 (eSign a1), box g1_4 66 (eSign s1), box g1_5 66 (eSign s2), rowT (eI .i64) w.heap.size 3 (.slice A4_1 (List.length ([0] : List Int)) k4_1) ([0] : List Int), rowT (eI .i64) w.heap.size 3 (.slice A12_2 (List.length y12_2) k12_2) y12_2, rowT (eI .i64) w.heap.size 3 (.slice A6_1 (List.length ([1] : List Int)) k6_1) ([1] : List Int), rowT (eI .i64) w.heap.size 3 (.slice A8_1 (List.length ([2] : List Int)) k8_1) ([2] : List Int), rowT (eI .i64) w.heap.size 3 (.slice A12_1 (List.length ([4] : List Int)) k12_1) ([4] : List Int)]) (by kernel_rfl) ?_
          replace h := H.done h
          subst h
          exact ret func153 rfl (vs := [.slice A12_2 (List.length y12_2) k12_2]) (.tmp (by kernel_rfl) .nil) rfl (fun W S => ⟨_, _, rfl, S.row 5, S.below⟩)
        replace h := H.f q11 h
        refine c_skip ?_
        refine c_seq ?_
        refine r_start ?_
        refine p 2 ?_
        refine rend ?_
        replace h := H.done h
        subst h
        exact ret func153 rfl (vs := [.slice A8_2 (List.length y8_2) k8_2]) (.tmp (by kernel_rfl) .nil) rfl (fun W S => ⟨_, _, rfl, S.row 5, S.below⟩)
      replace h := H.f q6 h
      refine c_skip ?_
      refine c_seq ?_
      refine c_seq ?_
      refine r_start ?_
      refine p 2 ?_
      refine xq rfl (y_load (.agg (eMove s1.Main.Move).toArray) 2 g1_4 11) ?_
      refine p 2 ?_
      refine xq rfl (y_load (.agg (eMove s2.Main.Move).toArray) 3 g1_5 11) ?_
      refine p 1 ?_
      refine rend ?_
      refine c_or (!qMove s1.Main.Move s2.Main.Move) (fun q12 => ?_) (fun q12 => ?_)
      · replace h := H.t q12 h
        refine r_start ?_
        refine p 1 ?_
        refine xx rfl (e_lit (e := (eI .i64)) (el := 3) [.int .i64 3] ([3] : List Int) fun A10_1 k10_1 => ?_)
        obtain ⟨y10_2, hy10_2, h⟩ := H.call h
        refine xx rfl (e_app 5 hy10_2 (s_own 7) fun A10_2 k10_2 => ?_)
        refine p 1 ?_
        refine rend ?_
        refine c_seq ?_
        refine c_seq ?_
        refine r_start ?_
        refine p 1 ?_
        refine xq rfl (y_load (.bool s1.Two) 2 g1_4 13) ?_
        refine p 1 ?_
        refine xq rfl (y_load (.bool s2.Two) 3 g1_5 13) ?_
        refine p 2 ?_
        refine br (!(s1.Two == s2.Two)) (fun q13 => ?_) (fun q13 => ?_)
        · replace h := H.t q13 h
          refine o_set 57 (congrArg Value.bool q13) ?_
          refine p 6 ?_
          refine rend ?_
          refine c_t (by kernel_rfl) ?_
          refine r_start ?_
          refine p 1 ?_
          refine xx rfl (e_lit (e := (eI .i64)) (el := 3) [.int .i64 4] ([4] : List Int) fun A12_1 k12_1 => ?_)
          obtain ⟨y12_2, hy12_2, h⟩ := H.call h
          refine xx rfl (e_app 5 hy12_2 (s_own 8) fun A12_2 k12_2 => ?_)
          refine p 1 ?_
          refine rend ?_
          refine c_seq ?_
          refine r_start ?_
          refine p 2 ?_
          refine rend ?_
          refine frg (fun u => (jk u 0 4 (.slice A12_2 (List.length y12_2) k12_2 :: (jk u 5 63 [])))) (by kernel_rfl) fun u => ?_
          refine keep 9 (its' := [box g0_0 66 (eSign a0), box g0_1 66 (eSign a1), box g1_4 66 (eSign s1), box g1_5 66 (eSign s2), rowT (eI .i64) w.heap.size 3 (.slice A4_1 (List.length ([0] : List Int)) k4_1) ([0] : List Int), rowT (eI .i64) w.heap.size 3 (.slice A12_2 (List.length y12_2) k12_2) y12_2, rowT (eI .i64) w.heap.size 3 (.slice A6_1 (List.length ([1] : List Int)) k6_1) ([1] : List Int), rowT (eI .i64) w.heap.size 3 (.slice A10_1 (List.length ([3] : List Int)) k10_1) ([3] : List Int), rowT (eI .i64) w.heap.size 3 (.slice A12_1 (List.length ([4] : List Int)) k12_1) ([4] : List Int)]) (by kernel_rfl) ?_
          replace h := H.done h
          subst h
          exact ret func153 rfl (vs := [.slice A12_2 (List.length y12_2) k12_2]) (.tmp (by kernel_rfl) .nil) rfl (fun W S => ⟨_, _, rfl, S.row 5, S.below⟩)
        replace h := H.f q13 h
        refine o_set 57 (congrArg Value.bool q13) ?_
        refine p 1 ?_
        refine xq rfl (y_load (.agg (eHand s1.Other).toArray) 2 g1_4 14) ?_
        refine p 1 ?_
        refine xq rfl (y_load (.agg (eHand s2.Other).toArray) 3 g1_5 14) ?_
        refine p 2 ?_
        refine rend ?_
        refine c_or (!qHand s1.Other s2.Other) (fun q14 => ?_) (fun q14 => ?_)
        · replace h := H.t q14 h
          refine r_start ?_
          refine p 1 ?_
          refine xx rfl (e_lit (e := (eI .i64)) (el := 3) [.int .i64 4] ([4] : List Int) fun A12_1 k12_1 => ?_)
          obtain ⟨y12_2, hy12_2, h⟩ := H.call h
          refine xx rfl (e_app 5 hy12_2 (s_own 8) fun A12_2 k12_2 => ?_)
          refine p 1 ?_
          refine rend ?_
          refine c_seq ?_
          refine r_start ?_
          refine p 2 ?_
          refine rend ?_
          refine frg (fun u => (jk u 0 4 (.slice A12_2 (List.length y12_2) k12_2 :: (jk u 5 63 [])))) (by kernel_rfl) fun u => ?_
          refine keep 9 (its' := [box g0_0 66 (eSign a0), box g0_1 66 (eSign a1), box g1_4 66 (eSign s1), box g1_5 66 (eSign s2), rowT (eI .i64) w.heap.size 3 (.slice A4_1 (List.length ([0] : List Int)) k4_1) ([0] : List Int), rowT (eI .i64) w.heap.size 3 (.slice A12_2 (List.length y12_2) k12_2) y12_2, rowT (eI .i64) w.heap.size 3 (.slice A6_1 (List.length ([1] : List Int)) k6_1) ([1] : List Int), rowT (eI .i64) w.heap.size 3 (.slice A10_1 (List.length ([3] : List Int)) k10_1) ([3] : List Int), rowT (eI .i64) w.heap.size 3 (.slice A12_1 (List.length ([4] : List Int)) k12_1) ([4] : List Int)]) (by kernel_rfl) ?_
          replace h := H.done h
          subst h
          exact ret func153 rfl (vs := [.slice A12_2 (List.length y12_2) k12_2]) (.tmp (by kernel_rfl) .nil) rfl (fun W S => ⟨_, _, rfl, S.row 5, S.below⟩)
        replace h := H.f q14 h
        refine c_skip ?_
        refine c_seq ?_
        refine r_start ?_
        refine p 2 ?_
        refine rend ?_
        replace h := H.done h
        subst h
        exact ret func153 rfl (vs := [.slice A10_2 (List.length y10_2) k10_2]) (.tmp (by kernel_rfl) .nil) rfl (fun W S => ⟨_, _, rfl, S.row 5, S.below⟩)
      replace h := H.f q12 h
      refine c_skip ?_
      refine c_seq ?_
      refine c_seq ?_
      refine r_start ?_
      refine p 1 ?_
      refine xq rfl (y_load (.bool s1.Two) 2 g1_4 13) ?_
      refine p 1 ?_
      refine xq rfl (y_load (.bool s2.Two) 3 g1_5 13) ?_
      refine p 2 ?_
      refine br (!(s1.Two == s2.Two)) (fun q15 => ?_) (fun q15 => ?_)
      · replace h := H.t q15 h
        refine o_set 57 (congrArg Value.bool q15) ?_
        refine p 6 ?_
        refine rend ?_
        refine c_t (by kernel_rfl) ?_
        refine r_start ?_
        refine p 1 ?_
        refine xx rfl (e_lit (e := (eI .i64)) (el := 3) [.int .i64 4] ([4] : List Int) fun A12_1 k12_1 => ?_)
        obtain ⟨y12_2, hy12_2, h⟩ := H.call h
        refine xx rfl (e_app 5 hy12_2 (s_own 7) fun A12_2 k12_2 => ?_)
        refine p 1 ?_
        refine rend ?_
        refine c_seq ?_
        refine r_start ?_
        refine p 2 ?_
        refine rend ?_
        replace h := H.done h
        subst h
        exact ret func153 rfl (vs := [.slice A12_2 (List.length y12_2) k12_2]) (.tmp (by kernel_rfl) .nil) rfl (fun W S => ⟨_, _, rfl, S.row 5, S.below⟩)
      replace h := H.f q15 h
      refine o_set 57 (congrArg Value.bool q15) ?_
      refine p 1 ?_
      refine xq rfl (y_load (.agg (eHand s1.Other).toArray) 2 g1_4 14) ?_
      refine p 1 ?_
      refine xq rfl (y_load (.agg (eHand s2.Other).toArray) 3 g1_5 14) ?_
      refine p 2 ?_
      refine rend ?_
      refine c_or (!qHand s1.Other s2.Other) (fun q16 => ?_) (fun q16 => ?_)
      · replace h := H.t q16 h
        refine r_start ?_
        refine p 1 ?_
        refine xx rfl (e_lit (e := (eI .i64)) (el := 3) [.int .i64 4] ([4] : List Int) fun A12_1 k12_1 => ?_)
        obtain ⟨y12_2, hy12_2, h⟩ := H.call h
        refine xx rfl (e_app 5 hy12_2 (s_own 7) fun A12_2 k12_2 => ?_)
        refine p 1 ?_
        refine rend ?_
        refine c_seq ?_
        refine r_start ?_
        refine p 2 ?_
        refine rend ?_
        replace h := H.done h
        subst h
        exact ret func153 rfl (vs := [.slice A12_2 (List.length y12_2) k12_2]) (.tmp (by kernel_rfl) .nil) rfl (fun W S => ⟨_, _, rfl, S.row 5, S.below⟩)
      replace h := H.f q16 h
      refine c_skip ?_
      refine c_seq ?_
      refine r_start ?_
      refine p 2 ?_
      refine rend ?_
      replace h := H.done h
      subst h
      exact ret func153 rfl (vs := [.slice A6_2 (List.length y6_2) k6_2]) (.tmp (by kernel_rfl) .nil) rfl (fun W S => ⟨_, _, rfl, S.row 5, S.below⟩)
    replace h := H.f q5 h
    refine c_skip ?_
    refine c_seq ?_
    refine c_seq ?_
    refine r_start ?_
    refine p 2 ?_
    refine xq rfl (y_load (.agg (ePlace s1.Main.Place).toArray) 2 g1_4 8) ?_
    refine p 2 ?_
    refine xq rfl (y_load (.agg (ePlace s2.Main.Place).toArray) 3 g1_5 8) ?_
    refine p 1 ?_
    refine rend ?_
    refine c_or (!qPlace s1.Main.Place s2.Main.Place) (fun q17 => ?_) (fun q17 => ?_)
    · replace h := H.t q17 h
      refine r_start ?_
      refine p 1 ?_
      refine xx rfl (e_lit (e := (eI .i64)) (el := 3) [.int .i64 2] ([2] : List Int) fun A8_1 k8_1 => ?_)
      obtain ⟨y8_2, hy8_2, h⟩ := H.call h
      refine xx rfl (e_app 5 hy8_2 (s_own 6) fun A8_2 k8_2 => ?_)
      refine p 1 ?_
      refine rend ?_
      refine c_seq ?_
      refine c_seq ?_
      refine r_start ?_
      refine p 2 ?_
      refine xq rfl (y_load (.agg (eMove s1.Main.Move).toArray) 2 g1_4 11) ?_
      refine p 2 ?_
      refine xq rfl (y_load (.agg (eMove s2.Main.Move).toArray) 3 g1_5 11) ?_
      refine p 1 ?_
      refine rend ?_
      refine c_or (!qMove s1.Main.Move s2.Main.Move) (fun q18 => ?_) (fun q18 => ?_)
      · replace h := H.t q18 h
        refine r_start ?_
        refine p 1 ?_
        refine xx rfl (e_lit (e := (eI .i64)) (el := 3) [.int .i64 3] ([3] : List Int) fun A10_1 k10_1 => ?_)
        obtain ⟨y10_2, hy10_2, h⟩ := H.call h
        refine xx rfl (e_app 5 hy10_2 (s_own 7) fun A10_2 k10_2 => ?_)
        refine p 1 ?_
        refine rend ?_
        refine c_seq ?_
        refine c_seq ?_
        refine r_start ?_
        refine p 1 ?_
        refine xq rfl (y_load (.bool s1.Two) 2 g1_4 13) ?_
        refine p 1 ?_
        refine xq rfl (y_load (.bool s2.Two) 3 g1_5 13) ?_
        refine p 2 ?_
        refine br (!(s1.Two == s2.Two)) (fun q19 => ?_) (fun q19 => ?_)
        · replace h := H.t q19 h
          refine o_set 57 (congrArg Value.bool q19) ?_
          refine p 6 ?_
          refine rend ?_
          refine c_t (by kernel_rfl) ?_
          refine r_start ?_
          refine p 1 ?_
          refine xx rfl (e_lit (e := (eI .i64)) (el := 3) [.int .i64 4] ([4] : List Int) fun A12_1 k12_1 => ?_)
          obtain ⟨y12_2, hy12_2, h⟩ := H.call h
          refine xx rfl (e_app 5 hy12_2 (s_own 8) fun A12_2 k12_2 => ?_)
          refine p 1 ?_
          refine rend ?_
          refine c_seq ?_
          refine r_start ?_
          refine p 2 ?_
          refine rend ?_
          refine frg (fun u => (jk u 0 4 (.slice A12_2 (List.length y12_2) k12_2 :: (jk u 5 63 [])))) (by kernel_rfl) fun u => ?_
          refine keep 9 (its' := [box g0_0 66 (eSign a0), box g0_1 66 (eSign a1), box g1_4 66 (eSign s1), box g1_5 66 (eSign s2), rowT (eI .i64) w.heap.size 3 (.slice A4_1 (List.length ([0] : List Int)) k4_1) ([0] : List Int), rowT (eI .i64) w.heap.size 3 (.slice A12_2 (List.length y12_2) k12_2) y12_2, rowT (eI .i64) w.heap.size 3 (.slice A8_1 (List.length ([2] : List Int)) k8_1) ([2] : List Int), rowT (eI .i64) w.heap.size 3 (.slice A10_1 (List.length ([3] : List Int)) k10_1) ([3] : List Int), rowT (eI .i64) w.heap.size 3 (.slice A12_1 (List.length ([4] : List Int)) k12_1) ([4] : List Int)]) (by kernel_rfl) ?_
          replace h := H.done h
          subst h
          exact ret func153 rfl (vs := [.slice A12_2 (List.length y12_2) k12_2]) (.tmp (by kernel_rfl) .nil) rfl (fun W S => ⟨_, _, rfl, S.row 5, S.below⟩)
        replace h := H.f q19 h
        refine o_set 57 (congrArg Value.bool q19) ?_
        refine p 1 ?_
        refine xq rfl (y_load (.agg (eHand s1.Other).toArray) 2 g1_4 14) ?_
        refine p 1 ?_
        refine xq rfl (y_load (.agg (eHand s2.Other).toArray) 3 g1_5 14) ?_
        refine p 2 ?_
        refine rend ?_
        refine c_or (!qHand s1.Other s2.Other) (fun q20 => ?_) (fun q20 => ?_)
        · replace h := H.t q20 h
          refine r_start ?_
          refine p 1 ?_
          refine xx rfl (e_lit (e := (eI .i64)) (el := 3) [.int .i64 4] ([4] : List Int) fun A12_1 k12_1 => ?_)
          obtain ⟨y12_2, hy12_2, h⟩ := H.call h
          refine xx rfl (e_app 5 hy12_2 (s_own 8) fun A12_2 k12_2 => ?_)
          refine p 1 ?_
          refine rend ?_
          refine c_seq ?_
          refine r_start ?_
          refine p 2 ?_
          refine rend ?_
          refine frg (fun u => (jk u 0 4 (.slice A12_2 (List.length y12_2) k12_2 :: (jk u 5 63 [])))) (by kernel_rfl) fun u => ?_
          refine keep 9 (its' := [box g0_0 66 (eSign a0), box g0_1 66 (eSign a1), box g1_4 66 (eSign s1), box g1_5 66 (eSign s2), rowT (eI .i64) w.heap.size 3 (.slice A4_1 (List.length ([0] : List Int)) k4_1) ([0] : List Int), rowT (eI .i64) w.heap.size 3 (.slice A12_2 (List.length y12_2) k12_2) y12_2, rowT (eI .i64) w.heap.size 3 (.slice A8_1 (List.length ([2] : List Int)) k8_1) ([2] : List Int), rowT (eI .i64) w.heap.size 3 (.slice A10_1 (List.length ([3] : List Int)) k10_1) ([3] : List Int), rowT (eI .i64) w.heap.size 3 (.slice A12_1 (List.length ([4] : List Int)) k12_1) ([4] : List Int)]) (by kernel_rfl) ?_
          replace h := H.done h
          subst h
          exact ret func153 rfl (vs := [.slice A12_2 (List.length y12_2) k12_2]) (.tmp (by kernel_rfl) .nil) rfl (fun W S => ⟨_, _, rfl, S.row 5, S.below⟩)
        replace h := H.f q20 h
        refine c_skip ?_
        refine c_seq ?_
        refine r_start ?_
        refine p 2 ?_
        refine rend ?_
        replace h := H.done h
        subst h
        exact ret func153 rfl (vs := [.slice A10_2 (List.length y10_2) k10_2]) (.tmp (by kernel_rfl) .nil) rfl (fun W S => ⟨_, _, rfl, S.row 5, S.below⟩)
      replace h := H.f q18 h
      refine c_skip ?_
      refine c_seq ?_
      refine c_seq ?_
      refine r_start ?_
      refine p 1 ?_
      refine xq rfl (y_load (.bool s1.Two) 2 g1_4 13) ?_
      refine p 1 ?_
      refine xq rfl (y_load (.bool s2.Two) 3 g1_5 13) ?_
      refine p 2 ?_
      refine br (!(s1.Two == s2.Two)) (fun q21 => ?_) (fun q21 => ?_)
      · replace h := H.t q21 h
        refine o_set 57 (congrArg Value.bool q21) ?_
        refine p 6 ?_
        refine rend ?_
        refine c_t (by kernel_rfl) ?_
        refine r_start ?_
        refine p 1 ?_
        refine xx rfl (e_lit (e := (eI .i64)) (el := 3) [.int .i64 4] ([4] : List Int) fun A12_1 k12_1 => ?_)
        obtain ⟨y12_2, hy12_2, h⟩ := H.call h
        refine xx rfl (e_app 5 hy12_2 (s_own 7) fun A12_2 k12_2 => ?_)
        refine p 1 ?_
        refine rend ?_
        refine c_seq ?_
        refine r_start ?_
        refine p 2 ?_
        refine rend ?_
        replace h := H.done h
        subst h
        exact ret func153 rfl (vs := [.slice A12_2 (List.length y12_2) k12_2]) (.tmp (by kernel_rfl) .nil) rfl (fun W S => ⟨_, _, rfl, S.row 5, S.below⟩)
      replace h := H.f q21 h
      refine o_set 57 (congrArg Value.bool q21) ?_
      refine p 1 ?_
      refine xq rfl (y_load (.agg (eHand s1.Other).toArray) 2 g1_4 14) ?_
      refine p 1 ?_
      refine xq rfl (y_load (.agg (eHand s2.Other).toArray) 3 g1_5 14) ?_
      refine p 2 ?_
      refine rend ?_
      refine c_or (!qHand s1.Other s2.Other) (fun q22 => ?_) (fun q22 => ?_)
      · replace h := H.t q22 h
        refine r_start ?_
        refine p 1 ?_
        refine xx rfl (e_lit (e := (eI .i64)) (el := 3) [.int .i64 4] ([4] : List Int) fun A12_1 k12_1 => ?_)
        obtain ⟨y12_2, hy12_2, h⟩ := H.call h
        refine xx rfl (e_app 5 hy12_2 (s_own 7) fun A12_2 k12_2 => ?_)
        refine p 1 ?_
        refine rend ?_
        refine c_seq ?_
        refine r_start ?_
        refine p 2 ?_
        refine rend ?_
        replace h := H.done h
        subst h
        exact ret func153 rfl (vs := [.slice A12_2 (List.length y12_2) k12_2]) (.tmp (by kernel_rfl) .nil) rfl (fun W S => ⟨_, _, rfl, S.row 5, S.below⟩)
      replace h := H.f q22 h
      refine c_skip ?_
      refine c_seq ?_
      refine r_start ?_
      refine p 2 ?_
      refine rend ?_
      replace h := H.done h
      subst h
      exact ret func153 rfl (vs := [.slice A8_2 (List.length y8_2) k8_2]) (.tmp (by kernel_rfl) .nil) rfl (fun W S => ⟨_, _, rfl, S.row 5, S.below⟩)
    replace h := H.f q17 h
    refine c_skip ?_
    refine c_seq ?_
    refine c_seq ?_
    refine r_start ?_
    refine p 2 ?_
    refine xq rfl (y_load (.agg (eMove s1.Main.Move).toArray) 2 g1_4 11) ?_
    refine p 2 ?_
    refine xq rfl (y_load (.agg (eMove s2.Main.Move).toArray) 3 g1_5 11) ?_
    refine p 1 ?_
    refine rend ?_
    refine c_or (!qMove s1.Main.Move s2.Main.Move) (fun q23 => ?_) (fun q23 => ?_)
    · replace h := H.t q23 h
      refine r_start ?_
      refine p 1 ?_
      refine xx rfl (e_lit (e := (eI .i64)) (el := 3) [.int .i64 3] ([3] : List Int) fun A10_1 k10_1 => ?_)
      obtain ⟨y10_2, hy10_2, h⟩ := H.call h
      refine xx rfl (e_app 5 hy10_2 (s_own 6) fun A10_2 k10_2 => ?_)
      refine p 1 ?_
      refine rend ?_
      refine c_seq ?_
      refine c_seq ?_
      refine r_start ?_
      refine p 1 ?_
      refine xq rfl (y_load (.bool s1.Two) 2 g1_4 13) ?_
      refine p 1 ?_
      refine xq rfl (y_load (.bool s2.Two) 3 g1_5 13) ?_
      refine p 2 ?_
      refine br (!(s1.Two == s2.Two)) (fun q24 => ?_) (fun q24 => ?_)
      · replace h := H.t q24 h
        refine o_set 57 (congrArg Value.bool q24) ?_
        refine p 6 ?_
        refine rend ?_
        refine c_t (by kernel_rfl) ?_
        refine r_start ?_
        refine p 1 ?_
        refine xx rfl (e_lit (e := (eI .i64)) (el := 3) [.int .i64 4] ([4] : List Int) fun A12_1 k12_1 => ?_)
        obtain ⟨y12_2, hy12_2, h⟩ := H.call h
        refine xx rfl (e_app 5 hy12_2 (s_own 7) fun A12_2 k12_2 => ?_)
        refine p 1 ?_
        refine rend ?_
        refine c_seq ?_
        refine r_start ?_
        refine p 2 ?_
        refine rend ?_
        replace h := H.done h
        subst h
        exact ret func153 rfl (vs := [.slice A12_2 (List.length y12_2) k12_2]) (.tmp (by kernel_rfl) .nil) rfl (fun W S => ⟨_, _, rfl, S.row 5, S.below⟩)
      replace h := H.f q24 h
      refine o_set 57 (congrArg Value.bool q24) ?_
      refine p 1 ?_
      refine xq rfl (y_load (.agg (eHand s1.Other).toArray) 2 g1_4 14) ?_
      refine p 1 ?_
      refine xq rfl (y_load (.agg (eHand s2.Other).toArray) 3 g1_5 14) ?_
      refine p 2 ?_
      refine rend ?_
      refine c_or (!qHand s1.Other s2.Other) (fun q25 => ?_) (fun q25 => ?_)
      · replace h := H.t q25 h
        refine r_start ?_
        refine p 1 ?_
        refine xx rfl (e_lit (e := (eI .i64)) (el := 3) [.int .i64 4] ([4] : List Int) fun A12_1 k12_1 => ?_)
        obtain ⟨y12_2, hy12_2, h⟩ := H.call h
        refine xx rfl (e_app 5 hy12_2 (s_own 7) fun A12_2 k12_2 => ?_)
        refine p 1 ?_
        refine rend ?_
        refine c_seq ?_
        refine r_start ?_
        refine p 2 ?_
        refine rend ?_
        replace h := H.done h
        subst h
        exact ret func153 rfl (vs := [.slice A12_2 (List.length y12_2) k12_2]) (.tmp (by kernel_rfl) .nil) rfl (fun W S => ⟨_, _, rfl, S.row 5, S.below⟩)
      replace h := H.f q25 h
      refine c_skip ?_
      refine c_seq ?_
      refine r_start ?_
      refine p 2 ?_
      refine rend ?_
      replace h := H.done h
      subst h
      exact ret func153 rfl (vs := [.slice A10_2 (List.length y10_2) k10_2]) (.tmp (by kernel_rfl) .nil) rfl (fun W S => ⟨_, _, rfl, S.row 5, S.below⟩)
    replace h := H.f q23 h
    refine c_skip ?_
    refine c_seq ?_
    refine c_seq ?_
    refine r_start ?_
    refine p 1 ?_
    refine xq rfl (y_load (.bool s1.Two) 2 g1_4 13) ?_
    refine p 1 ?_
    refine xq rfl (y_load (.bool s2.Two) 3 g1_5 13) ?_
    refine p 2 ?_
    refine br (!(s1.Two == s2.Two)) (fun q26 => ?_) (fun q26 => ?_)
    · replace h := H.t q26 h
      refine o_set 57 (congrArg Value.bool q26) ?_
      refine p 6 ?_
      refine rend ?_
      refine c_t (by kernel_rfl) ?_
      refine r_start ?_
      refine p 1 ?_
      refine xx rfl (e_lit (e := (eI .i64)) (el := 3) [.int .i64 4] ([4] : List Int) fun A12_1 k12_1 => ?_)
      obtain ⟨y12_2, hy12_2, h⟩ := H.call h
      refine xx rfl (e_app 5 hy12_2 (s_own 6) fun A12_2 k12_2 => ?_)
      refine p 1 ?_
      refine rend ?_
      refine c_seq ?_
      refine r_start ?_
      refine p 2 ?_
      refine rend ?_
      replace h := H.done h
      subst h
      exact ret func153 rfl (vs := [.slice A12_2 (List.length y12_2) k12_2]) (.tmp (by kernel_rfl) .nil) rfl (fun W S => ⟨_, _, rfl, S.row 5, S.below⟩)
    replace h := H.f q26 h
    refine o_set 57 (congrArg Value.bool q26) ?_
    refine p 1 ?_
    refine xq rfl (y_load (.agg (eHand s1.Other).toArray) 2 g1_4 14) ?_
    refine p 1 ?_
    refine xq rfl (y_load (.agg (eHand s2.Other).toArray) 3 g1_5 14) ?_
    refine p 2 ?_
    refine rend ?_
    refine c_or (!qHand s1.Other s2.Other) (fun q27 => ?_) (fun q27 => ?_)
    · replace h := H.t q27 h
      refine r_start ?_
      refine p 1 ?_
      refine xx rfl (e_lit (e := (eI .i64)) (el := 3) [.int .i64 4] ([4] : List Int) fun A12_1 k12_1 => ?_)
      obtain ⟨y12_2, hy12_2, h⟩ := H.call h
      refine xx rfl (e_app 5 hy12_2 (s_own 6) fun A12_2 k12_2 => ?_)
      refine p 1 ?_
      refine rend ?_
      refine c_seq ?_
      refine r_start ?_
      refine p 2 ?_
      refine rend ?_
      replace h := H.done h
      subst h
      exact ret func153 rfl (vs := [.slice A12_2 (List.length y12_2) k12_2]) (.tmp (by kernel_rfl) .nil) rfl (fun W S => ⟨_, _, rfl, S.row 5, S.below⟩)
    replace h := H.f q27 h
    refine c_skip ?_
    refine c_seq ?_
    refine r_start ?_
    refine p 2 ?_
    refine rend ?_
    replace h := H.done h
    subst h
    exact ret func153 rfl (vs := [.slice A4_2 (List.length y4_2) k4_2]) (.tmp (by kernel_rfl) .nil) rfl (fun W S => ⟨_, _, rfl, S.row 5, S.below⟩)
  replace h := H.f q4 h
  refine c_skip ?_
  refine c_seq ?_
  refine c_seq ?_
  refine r_start ?_
  refine p 2 ?_
  refine xq rfl (y_load (.agg (eOrient s1.Main.Orient).toArray) 2 g1_4 6) ?_
  refine p 2 ?_
  refine xq rfl (y_load (.agg (eOrient s2.Main.Orient).toArray) 3 g1_5 6) ?_
  refine p 1 ?_
  refine rend ?_
  refine c_or (!qOrient s1.Main.Orient s2.Main.Orient) (fun q28 => ?_) (fun q28 => ?_)
  · replace h := H.t q28 h
    refine r_start ?_
    refine p 1 ?_
    refine xx rfl (e_lit (e := (eI .i64)) (el := 3) [.int .i64 1] ([1] : List Int) fun A6_1 k6_1 => ?_)
    refine o_nil (eI .i64) 3 ?_
    obtain ⟨y6_2, hy6_2, h⟩ := H.call h
    refine xx rfl (e_app 5 hy6_2 (s_own 4) fun A6_2 k6_2 => ?_)
    refine p 1 ?_
    refine rend ?_
    refine c_seq ?_
    refine c_seq ?_
    refine r_start ?_
    refine p 2 ?_
    refine xq rfl (y_load (.agg (ePlace s1.Main.Place).toArray) 2 g1_4 8) ?_
    refine p 2 ?_
    refine xq rfl (y_load (.agg (ePlace s2.Main.Place).toArray) 3 g1_5 8) ?_
    refine p 1 ?_
    refine rend ?_
    refine c_or (!qPlace s1.Main.Place s2.Main.Place) (fun q29 => ?_) (fun q29 => ?_)
    · replace h := H.t q29 h
      refine r_start ?_
      refine p 1 ?_
      refine xx rfl (e_lit (e := (eI .i64)) (el := 3) [.int .i64 2] ([2] : List Int) fun A8_1 k8_1 => ?_)
      obtain ⟨y8_2, hy8_2, h⟩ := H.call h
      refine xx rfl (e_app 5 hy8_2 (s_own 6) fun A8_2 k8_2 => ?_)
      refine p 1 ?_
      refine rend ?_
      refine c_seq ?_
      refine c_seq ?_
      refine r_start ?_
      refine p 2 ?_
      refine xq rfl (y_load (.agg (eMove s1.Main.Move).toArray) 2 g1_4 11) ?_
      refine p 2 ?_
      refine xq rfl (y_load (.agg (eMove s2.Main.Move).toArray) 3 g1_5 11) ?_
      refine p 1 ?_
      refine rend ?_
      refine c_or (!qMove s1.Main.Move s2.Main.Move) (fun q30 => ?_) (fun q30 => ?_)
      · replace h := H.t q30 h
        refine r_start ?_
        refine p 1 ?_
        refine xx rfl (e_lit (e := (eI .i64)) (el := 3) [.int .i64 3] ([3] : List Int) fun A10_1 k10_1 => ?_)
        obtain ⟨y10_2, hy10_2, h⟩ := H.call h
        refine xx rfl (e_app 5 hy10_2 (s_own 7) fun A10_2 k10_2 => ?_)
        refine p 1 ?_
        refine rend ?_
        refine c_seq ?_
        refine c_seq ?_
        refine r_start ?_
        refine p 1 ?_
        refine xq rfl (y_load (.bool s1.Two) 2 g1_4 13) ?_
        refine p 1 ?_
        refine xq rfl (y_load (.bool s2.Two) 3 g1_5 13) ?_
        refine p 2 ?_
        refine br (!(s1.Two == s2.Two)) (fun q31 => ?_) (fun q31 => ?_)
        · replace h := H.t q31 h
          refine o_set 57 (congrArg Value.bool q31) ?_
          refine p 6 ?_
          refine rend ?_
          refine c_t (by kernel_rfl) ?_
          refine r_start ?_
          refine p 1 ?_
          refine xx rfl (e_lit (e := (eI .i64)) (el := 3) [.int .i64 4] ([4] : List Int) fun A12_1 k12_1 => ?_)
          obtain ⟨y12_2, hy12_2, h⟩ := H.call h
          refine xx rfl (e_app 5 hy12_2 (s_own 8) fun A12_2 k12_2 => ?_)
          refine p 1 ?_
          refine rend ?_
          refine c_seq ?_
          refine r_start ?_
          refine p 2 ?_
          refine rend ?_
          refine frg (fun u => (jk u 0 4 (.slice A12_2 (List.length y12_2) k12_2 :: (jk u 5 63 [])))) (by kernel_rfl) fun u => ?_
          refine keep 9 (its' := [box g0_0 66 (eSign a0), box g0_1 66 (eSign a1), box g1_4 66 (eSign s1), box g1_5 66 (eSign s2), rowT (eI .i64) w.heap.size 3 (.slice A6_1 (List.length ([1] : List Int)) k6_1) ([1] : List Int), rowT (eI .i64) w.heap.size 3 (.slice A12_2 (List.length y12_2) k12_2) y12_2, rowT (eI .i64) w.heap.size 3 (.slice A8_1 (List.length ([2] : List Int)) k8_1) ([2] : List Int), rowT (eI .i64) w.heap.size 3 (.slice A10_1 (List.length ([3] : List Int)) k10_1) ([3] : List Int), rowT (eI .i64) w.heap.size 3 (.slice A12_1 (List.length ([4] : List Int)) k12_1) ([4] : List Int)]) (by kernel_rfl) ?_
          replace h := H.done h
          subst h
          exact ret func153 rfl (vs := [.slice A12_2 (List.length y12_2) k12_2]) (.tmp (by kernel_rfl) .nil) rfl (fun W S => ⟨_, _, rfl, S.row 5, S.below⟩)
        replace h := H.f q31 h
        refine o_set 57 (congrArg Value.bool q31) ?_
        refine p 1 ?_
        refine xq rfl (y_load (.agg (eHand s1.Other).toArray) 2 g1_4 14) ?_
        refine p 1 ?_
        refine xq rfl (y_load (.agg (eHand s2.Other).toArray) 3 g1_5 14) ?_
        refine p 2 ?_
        refine rend ?_
        refine c_or (!qHand s1.Other s2.Other) (fun q32 => ?_) (fun q32 => ?_)
        · replace h := H.t q32 h
          refine r_start ?_
          refine p 1 ?_
          refine xx rfl (e_lit (e := (eI .i64)) (el := 3) [.int .i64 4] ([4] : List Int) fun A12_1 k12_1 => ?_)
          obtain ⟨y12_2, hy12_2, h⟩ := H.call h
          refine xx rfl (e_app 5 hy12_2 (s_own 8) fun A12_2 k12_2 => ?_)
          refine p 1 ?_
          refine rend ?_
          refine c_seq ?_
          refine r_start ?_
          refine p 2 ?_
          refine rend ?_
          refine frg (fun u => (jk u 0 4 (.slice A12_2 (List.length y12_2) k12_2 :: (jk u 5 63 [])))) (by kernel_rfl) fun u => ?_
          refine keep 9 (its' := [box g0_0 66 (eSign a0), box g0_1 66 (eSign a1), box g1_4 66 (eSign s1), box g1_5 66 (eSign s2), rowT (eI .i64) w.heap.size 3 (.slice A6_1 (List.length ([1] : List Int)) k6_1) ([1] : List Int), rowT (eI .i64) w.heap.size 3 (.slice A12_2 (List.length y12_2) k12_2) y12_2, rowT (eI .i64) w.heap.size 3 (.slice A8_1 (List.length ([2] : List Int)) k8_1) ([2] : List Int), rowT (eI .i64) w.heap.size 3 (.slice A10_1 (List.length ([3] : List Int)) k10_1) ([3] : List Int), rowT (eI .i64) w.heap.size 3 (.slice A12_1 (List.length ([4] : List Int)) k12_1) ([4] : List Int)]) (by kernel_rfl) ?_
          replace h := H.done h
          subst h
          exact ret func153 rfl (vs := [.slice A12_2 (List.length y12_2) k12_2]) (.tmp (by kernel_rfl) .nil) rfl (fun W S => ⟨_, _, rfl, S.row 5, S.below⟩)
        replace h := H.f q32 h
        refine c_skip ?_
        refine c_seq ?_
        refine r_start ?_
        refine p 2 ?_
        refine rend ?_
        replace h := H.done h
        subst h
        exact ret func153 rfl (vs := [.slice A10_2 (List.length y10_2) k10_2]) (.tmp (by kernel_rfl) .nil) rfl (fun W S => ⟨_, _, rfl, S.row 5, S.below⟩)
      replace h := H.f q30 h
      refine c_skip ?_
      refine c_seq ?_
      refine c_seq ?_
      refine r_start ?_
      refine p 1 ?_
      refine xq rfl (y_load (.bool s1.Two) 2 g1_4 13) ?_
      refine p 1 ?_
      refine xq rfl (y_load (.bool s2.Two) 3 g1_5 13) ?_
      refine p 2 ?_
      refine br (!(s1.Two == s2.Two)) (fun q33 => ?_) (fun q33 => ?_)
      · replace h := H.t q33 h
        refine o_set 57 (congrArg Value.bool q33) ?_
        refine p 6 ?_
        refine rend ?_
        refine c_t (by kernel_rfl) ?_
        refine r_start ?_
        refine p 1 ?_
        refine xx rfl (e_lit (e := (eI .i64)) (el := 3) [.int .i64 4] ([4] : List Int) fun A12_1 k12_1 => ?_)
        obtain ⟨y12_2, hy12_2, h⟩ := H.call h
        refine xx rfl (e_app 5 hy12_2 (s_own 7) fun A12_2 k12_2 => ?_)
        refine p 1 ?_
        refine rend ?_
        refine c_seq ?_
        refine r_start ?_
        refine p 2 ?_
        refine rend ?_
        replace h := H.done h
        subst h
        exact ret func153 rfl (vs := [.slice A12_2 (List.length y12_2) k12_2]) (.tmp (by kernel_rfl) .nil) rfl (fun W S => ⟨_, _, rfl, S.row 5, S.below⟩)
      replace h := H.f q33 h
      refine o_set 57 (congrArg Value.bool q33) ?_
      refine p 1 ?_
      refine xq rfl (y_load (.agg (eHand s1.Other).toArray) 2 g1_4 14) ?_
      refine p 1 ?_
      refine xq rfl (y_load (.agg (eHand s2.Other).toArray) 3 g1_5 14) ?_
      refine p 2 ?_
      refine rend ?_
      refine c_or (!qHand s1.Other s2.Other) (fun q34 => ?_) (fun q34 => ?_)
      · replace h := H.t q34 h
        refine r_start ?_
        refine p 1 ?_
        refine xx rfl (e_lit (e := (eI .i64)) (el := 3) [.int .i64 4] ([4] : List Int) fun A12_1 k12_1 => ?_)
        obtain ⟨y12_2, hy12_2, h⟩ := H.call h
        refine xx rfl (e_app 5 hy12_2 (s_own 7) fun A12_2 k12_2 => ?_)
        refine p 1 ?_
        refine rend ?_
        refine c_seq ?_
        refine r_start ?_
        refine p 2 ?_
        refine rend ?_
        replace h := H.done h
        subst h
        exact ret func153 rfl (vs := [.slice A12_2 (List.length y12_2) k12_2]) (.tmp (by kernel_rfl) .nil) rfl (fun W S => ⟨_, _, rfl, S.row 5, S.below⟩)
      replace h := H.f q34 h
      refine c_skip ?_
      refine c_seq ?_
      refine r_start ?_
      refine p 2 ?_
      refine rend ?_
      replace h := H.done h
      subst h
      exact ret func153 rfl (vs := [.slice A8_2 (List.length y8_2) k8_2]) (.tmp (by kernel_rfl) .nil) rfl (fun W S => ⟨_, _, rfl, S.row 5, S.below⟩)
    replace h := H.f q29 h
    refine c_skip ?_
    refine c_seq ?_
    refine c_seq ?_
    refine r_start ?_
    refine p 2 ?_
    refine xq rfl (y_load (.agg (eMove s1.Main.Move).toArray) 2 g1_4 11) ?_
    refine p 2 ?_
    refine xq rfl (y_load (.agg (eMove s2.Main.Move).toArray) 3 g1_5 11) ?_
    refine p 1 ?_
    refine rend ?_
    refine c_or (!qMove s1.Main.Move s2.Main.Move) (fun q35 => ?_) (fun q35 => ?_)
    · replace h := H.t q35 h
      refine r_start ?_
      refine p 1 ?_
      refine xx rfl (e_lit (e := (eI .i64)) (el := 3) [.int .i64 3] ([3] : List Int) fun A10_1 k10_1 => ?_)
      obtain ⟨y10_2, hy10_2, h⟩ := H.call h
      refine xx rfl (e_app 5 hy10_2 (s_own 6) fun A10_2 k10_2 => ?_)
      refine p 1 ?_
      refine rend ?_
      refine c_seq ?_
      refine c_seq ?_
      refine r_start ?_
      refine p 1 ?_
      refine xq rfl (y_load (.bool s1.Two) 2 g1_4 13) ?_
      refine p 1 ?_
      refine xq rfl (y_load (.bool s2.Two) 3 g1_5 13) ?_
      refine p 2 ?_
      refine br (!(s1.Two == s2.Two)) (fun q36 => ?_) (fun q36 => ?_)
      · replace h := H.t q36 h
        refine o_set 57 (congrArg Value.bool q36) ?_
        refine p 6 ?_
        refine rend ?_
        refine c_t (by kernel_rfl) ?_
        refine r_start ?_
        refine p 1 ?_
        refine xx rfl (e_lit (e := (eI .i64)) (el := 3) [.int .i64 4] ([4] : List Int) fun A12_1 k12_1 => ?_)
        obtain ⟨y12_2, hy12_2, h⟩ := H.call h
        refine xx rfl (e_app 5 hy12_2 (s_own 7) fun A12_2 k12_2 => ?_)
        refine p 1 ?_
        refine rend ?_
        refine c_seq ?_
        refine r_start ?_
        refine p 2 ?_
        refine rend ?_
        replace h := H.done h
        subst h
        exact ret func153 rfl (vs := [.slice A12_2 (List.length y12_2) k12_2]) (.tmp (by kernel_rfl) .nil) rfl (fun W S => ⟨_, _, rfl, S.row 5, S.below⟩)
      replace h := H.f q36 h
      refine o_set 57 (congrArg Value.bool q36) ?_
      refine p 1 ?_
      refine xq rfl (y_load (.agg (eHand s1.Other).toArray) 2 g1_4 14) ?_
      refine p 1 ?_
      refine xq rfl (y_load (.agg (eHand s2.Other).toArray) 3 g1_5 14) ?_
      refine p 2 ?_
      refine rend ?_
      refine c_or (!qHand s1.Other s2.Other) (fun q37 => ?_) (fun q37 => ?_)
      · replace h := H.t q37 h
        refine r_start ?_
        refine p 1 ?_
        refine xx rfl (e_lit (e := (eI .i64)) (el := 3) [.int .i64 4] ([4] : List Int) fun A12_1 k12_1 => ?_)
        obtain ⟨y12_2, hy12_2, h⟩ := H.call h
        refine xx rfl (e_app 5 hy12_2 (s_own 7) fun A12_2 k12_2 => ?_)
        refine p 1 ?_
        refine rend ?_
        refine c_seq ?_
        refine r_start ?_
        refine p 2 ?_
        refine rend ?_
        replace h := H.done h
        subst h
        exact ret func153 rfl (vs := [.slice A12_2 (List.length y12_2) k12_2]) (.tmp (by kernel_rfl) .nil) rfl (fun W S => ⟨_, _, rfl, S.row 5, S.below⟩)
      replace h := H.f q37 h
      refine c_skip ?_
      refine c_seq ?_
      refine r_start ?_
      refine p 2 ?_
      refine rend ?_
      replace h := H.done h
      subst h
      exact ret func153 rfl (vs := [.slice A10_2 (List.length y10_2) k10_2]) (.tmp (by kernel_rfl) .nil) rfl (fun W S => ⟨_, _, rfl, S.row 5, S.below⟩)
    replace h := H.f q35 h
    refine c_skip ?_
    refine c_seq ?_
    refine c_seq ?_
    refine r_start ?_
    refine p 1 ?_
    refine xq rfl (y_load (.bool s1.Two) 2 g1_4 13) ?_
    refine p 1 ?_
    refine xq rfl (y_load (.bool s2.Two) 3 g1_5 13) ?_
    refine p 2 ?_
    refine br (!(s1.Two == s2.Two)) (fun q38 => ?_) (fun q38 => ?_)
    · replace h := H.t q38 h
      refine o_set 57 (congrArg Value.bool q38) ?_
      refine p 6 ?_
      refine rend ?_
      refine c_t (by kernel_rfl) ?_
      refine r_start ?_
      refine p 1 ?_
      refine xx rfl (e_lit (e := (eI .i64)) (el := 3) [.int .i64 4] ([4] : List Int) fun A12_1 k12_1 => ?_)
      obtain ⟨y12_2, hy12_2, h⟩ := H.call h
      refine xx rfl (e_app 5 hy12_2 (s_own 6) fun A12_2 k12_2 => ?_)
      refine p 1 ?_
      refine rend ?_
      refine c_seq ?_
      refine r_start ?_
      refine p 2 ?_
      refine rend ?_
      replace h := H.done h
      subst h
      exact ret func153 rfl (vs := [.slice A12_2 (List.length y12_2) k12_2]) (.tmp (by kernel_rfl) .nil) rfl (fun W S => ⟨_, _, rfl, S.row 5, S.below⟩)
    replace h := H.f q38 h
    refine o_set 57 (congrArg Value.bool q38) ?_
    refine p 1 ?_
    refine xq rfl (y_load (.agg (eHand s1.Other).toArray) 2 g1_4 14) ?_
    refine p 1 ?_
    refine xq rfl (y_load (.agg (eHand s2.Other).toArray) 3 g1_5 14) ?_
    refine p 2 ?_
    refine rend ?_
    refine c_or (!qHand s1.Other s2.Other) (fun q39 => ?_) (fun q39 => ?_)
    · replace h := H.t q39 h
      refine r_start ?_
      refine p 1 ?_
      refine xx rfl (e_lit (e := (eI .i64)) (el := 3) [.int .i64 4] ([4] : List Int) fun A12_1 k12_1 => ?_)
      obtain ⟨y12_2, hy12_2, h⟩ := H.call h
      refine xx rfl (e_app 5 hy12_2 (s_own 6) fun A12_2 k12_2 => ?_)
      refine p 1 ?_
      refine rend ?_
      refine c_seq ?_
      refine r_start ?_
      refine p 2 ?_
      refine rend ?_
      replace h := H.done h
      subst h
      exact ret func153 rfl (vs := [.slice A12_2 (List.length y12_2) k12_2]) (.tmp (by kernel_rfl) .nil) rfl (fun W S => ⟨_, _, rfl, S.row 5, S.below⟩)
    replace h := H.f q39 h
    refine c_skip ?_
    refine c_seq ?_
    refine r_start ?_
    refine p 2 ?_
    refine rend ?_
    replace h := H.done h
    subst h
    exact ret func153 rfl (vs := [.slice A6_2 (List.length y6_2) k6_2]) (.tmp (by kernel_rfl) .nil) rfl (fun W S => ⟨_, _, rfl, S.row 5, S.below⟩)
  replace h := H.f q28 h
  refine c_skip ?_
  refine c_seq ?_
  refine c_seq ?_
  refine r_start ?_
  refine p 2 ?_
  refine xq rfl (y_load (.agg (ePlace s1.Main.Place).toArray) 2 g1_4 8) ?_
  refine p 2 ?_
  refine xq rfl (y_load (.agg (ePlace s2.Main.Place).toArray) 3 g1_5 8) ?_
  refine p 1 ?_
  refine rend ?_
  refine c_or (!qPlace s1.Main.Place s2.Main.Place) (fun q40 => ?_) (fun q40 => ?_)
  · replace h := H.t q40 h
    refine r_start ?_
    refine p 1 ?_
    refine xx rfl (e_lit (e := (eI .i64)) (el := 3) [.int .i64 2] ([2] : List Int) fun A8_1 k8_1 => ?_)
    refine o_nil (eI .i64) 3 ?_
    obtain ⟨y8_2, hy8_2, h⟩ := H.call h
    refine xx rfl (e_app 5 hy8_2 (s_own 4) fun A8_2 k8_2 => ?_)
    refine p 1 ?_
    refine rend ?_
    refine c_seq ?_
    refine c_seq ?_
    refine r_start ?_
    refine p 2 ?_
    refine xq rfl (y_load (.agg (eMove s1.Main.Move).toArray) 2 g1_4 11) ?_
    refine p 2 ?_
    refine xq rfl (y_load (.agg (eMove s2.Main.Move).toArray) 3 g1_5 11) ?_
    refine p 1 ?_
    refine rend ?_
    refine c_or (!qMove s1.Main.Move s2.Main.Move) (fun q41 => ?_) (fun q41 => ?_)
    · replace h := H.t q41 h
      refine r_start ?_
      refine p 1 ?_
      refine xx rfl (e_lit (e := (eI .i64)) (el := 3) [.int .i64 3] ([3] : List Int) fun A10_1 k10_1 => ?_)
      obtain ⟨y10_2, hy10_2, h⟩ := H.call h
      refine xx rfl (e_app 5 hy10_2 (s_own 6) fun A10_2 k10_2 => ?_)
      refine p 1 ?_
      refine rend ?_
      refine c_seq ?_
      refine c_seq ?_
      refine r_start ?_
      refine p 1 ?_
      refine xq rfl (y_load (.bool s1.Two) 2 g1_4 13) ?_
      refine p 1 ?_
      refine xq rfl (y_load (.bool s2.Two) 3 g1_5 13) ?_
      refine p 2 ?_
      refine br (!(s1.Two == s2.Two)) (fun q42 => ?_) (fun q42 => ?_)
      · replace h := H.t q42 h
        refine o_set 57 (congrArg Value.bool q42) ?_
        refine p 6 ?_
        refine rend ?_
        refine c_t (by kernel_rfl) ?_
        refine r_start ?_
        refine p 1 ?_
        refine xx rfl (e_lit (e := (eI .i64)) (el := 3) [.int .i64 4] ([4] : List Int) fun A12_1 k12_1 => ?_)
        obtain ⟨y12_2, hy12_2, h⟩ := H.call h
        refine xx rfl (e_app 5 hy12_2 (s_own 7) fun A12_2 k12_2 => ?_)
        refine p 1 ?_
        refine rend ?_
        refine c_seq ?_
        refine r_start ?_
        refine p 2 ?_
        refine rend ?_
        replace h := H.done h
        subst h
        exact ret func153 rfl (vs := [.slice A12_2 (List.length y12_2) k12_2]) (.tmp (by kernel_rfl) .nil) rfl (fun W S => ⟨_, _, rfl, S.row 5, S.below⟩)
      replace h := H.f q42 h
      refine o_set 57 (congrArg Value.bool q42) ?_
      refine p 1 ?_
      refine xq rfl (y_load (.agg (eHand s1.Other).toArray) 2 g1_4 14) ?_
      refine p 1 ?_
      refine xq rfl (y_load (.agg (eHand s2.Other).toArray) 3 g1_5 14) ?_
      refine p 2 ?_
      refine rend ?_
      refine c_or (!qHand s1.Other s2.Other) (fun q43 => ?_) (fun q43 => ?_)
      · replace h := H.t q43 h
        refine r_start ?_
        refine p 1 ?_
        refine xx rfl (e_lit (e := (eI .i64)) (el := 3) [.int .i64 4] ([4] : List Int) fun A12_1 k12_1 => ?_)
        obtain ⟨y12_2, hy12_2, h⟩ := H.call h
        refine xx rfl (e_app 5 hy12_2 (s_own 7) fun A12_2 k12_2 => ?_)
        refine p 1 ?_
        refine rend ?_
        refine c_seq ?_
        refine r_start ?_
        refine p 2 ?_
        refine rend ?_
        replace h := H.done h
        subst h
        exact ret func153 rfl (vs := [.slice A12_2 (List.length y12_2) k12_2]) (.tmp (by kernel_rfl) .nil) rfl (fun W S => ⟨_, _, rfl, S.row 5, S.below⟩)
      replace h := H.f q43 h
      refine c_skip ?_
      refine c_seq ?_
      refine r_start ?_
      refine p 2 ?_
      refine rend ?_
      replace h := H.done h
      subst h
      exact ret func153 rfl (vs := [.slice A10_2 (List.length y10_2) k10_2]) (.tmp (by kernel_rfl) .nil) rfl (fun W S => ⟨_, _, rfl, S.row 5, S.below⟩)
    replace h := H.f q41 h
    refine c_skip ?_
    refine c_seq ?_
    refine c_seq ?_
    refine r_start ?_
    refine p 1 ?_
    refine xq rfl (y_load (.bool s1.Two) 2 g1_4 13) ?_
    refine p 1 ?_
    refine xq rfl (y_load (.bool s2.Two) 3 g1_5 13) ?_
    refine p 2 ?_
    refine br (!(s1.Two == s2.Two)) (fun q44 => ?_) (fun q44 => ?_)
    · replace h := H.t q44 h
      refine o_set 57 (congrArg Value.bool q44) ?_
      refine p 6 ?_
      refine rend ?_
      refine c_t (by kernel_rfl) ?_
      refine r_start ?_
      refine p 1 ?_
      refine xx rfl (e_lit (e := (eI .i64)) (el := 3) [.int .i64 4] ([4] : List Int) fun A12_1 k12_1 => ?_)
      obtain ⟨y12_2, hy12_2, h⟩ := H.call h
      refine xx rfl (e_app 5 hy12_2 (s_own 6) fun A12_2 k12_2 => ?_)
      refine p 1 ?_
      refine rend ?_
      refine c_seq ?_
      refine r_start ?_
      refine p 2 ?_
      refine rend ?_
      replace h := H.done h
      subst h
      exact ret func153 rfl (vs := [.slice A12_2 (List.length y12_2) k12_2]) (.tmp (by kernel_rfl) .nil) rfl (fun W S => ⟨_, _, rfl, S.row 5, S.below⟩)
    replace h := H.f q44 h
    refine o_set 57 (congrArg Value.bool q44) ?_
    refine p 1 ?_
    refine xq rfl (y_load (.agg (eHand s1.Other).toArray) 2 g1_4 14) ?_
    refine p 1 ?_
    refine xq rfl (y_load (.agg (eHand s2.Other).toArray) 3 g1_5 14) ?_
    refine p 2 ?_
    refine rend ?_
    refine c_or (!qHand s1.Other s2.Other) (fun q45 => ?_) (fun q45 => ?_)
    · replace h := H.t q45 h
      refine r_start ?_
      refine p 1 ?_
      refine xx rfl (e_lit (e := (eI .i64)) (el := 3) [.int .i64 4] ([4] : List Int) fun A12_1 k12_1 => ?_)
      obtain ⟨y12_2, hy12_2, h⟩ := H.call h
      refine xx rfl (e_app 5 hy12_2 (s_own 6) fun A12_2 k12_2 => ?_)
      refine p 1 ?_
      refine rend ?_
      refine c_seq ?_
      refine r_start ?_
      refine p 2 ?_
      refine rend ?_
      replace h := H.done h
      subst h
      exact ret func153 rfl (vs := [.slice A12_2 (List.length y12_2) k12_2]) (.tmp (by kernel_rfl) .nil) rfl (fun W S => ⟨_, _, rfl, S.row 5, S.below⟩)
    replace h := H.f q45 h
    refine c_skip ?_
    refine c_seq ?_
    refine r_start ?_
    refine p 2 ?_
    refine rend ?_
    replace h := H.done h
    subst h
    exact ret func153 rfl (vs := [.slice A8_2 (List.length y8_2) k8_2]) (.tmp (by kernel_rfl) .nil) rfl (fun W S => ⟨_, _, rfl, S.row 5, S.below⟩)
  replace h := H.f q40 h
  refine c_skip ?_
  refine c_seq ?_
  refine c_seq ?_
  refine r_start ?_
  refine p 2 ?_
  refine xq rfl (y_load (.agg (eMove s1.Main.Move).toArray) 2 g1_4 11) ?_
  refine p 2 ?_
  refine xq rfl (y_load (.agg (eMove s2.Main.Move).toArray) 3 g1_5 11) ?_
  refine p 1 ?_
  refine rend ?_
  refine c_or (!qMove s1.Main.Move s2.Main.Move) (fun q46 => ?_) (fun q46 => ?_)
  · replace h := H.t q46 h
    refine r_start ?_
    refine p 1 ?_
    refine xx rfl (e_lit (e := (eI .i64)) (el := 3) [.int .i64 3] ([3] : List Int) fun A10_1 k10_1 => ?_)
    refine o_nil (eI .i64) 3 ?_
    obtain ⟨y10_2, hy10_2, h⟩ := H.call h
    refine xx rfl (e_app 5 hy10_2 (s_own 4) fun A10_2 k10_2 => ?_)
    refine p 1 ?_
    refine rend ?_
    refine c_seq ?_
    refine c_seq ?_
    refine r_start ?_
    refine p 1 ?_
    refine xq rfl (y_load (.bool s1.Two) 2 g1_4 13) ?_
    refine p 1 ?_
    refine xq rfl (y_load (.bool s2.Two) 3 g1_5 13) ?_
    refine p 2 ?_
    refine br (!(s1.Two == s2.Two)) (fun q47 => ?_) (fun q47 => ?_)
    · replace h := H.t q47 h
      refine o_set 57 (congrArg Value.bool q47) ?_
      refine p 6 ?_
      refine rend ?_
      refine c_t (by kernel_rfl) ?_
      refine r_start ?_
      refine p 1 ?_
      refine xx rfl (e_lit (e := (eI .i64)) (el := 3) [.int .i64 4] ([4] : List Int) fun A12_1 k12_1 => ?_)
      obtain ⟨y12_2, hy12_2, h⟩ := H.call h
      refine xx rfl (e_app 5 hy12_2 (s_own 6) fun A12_2 k12_2 => ?_)
      refine p 1 ?_
      refine rend ?_
      refine c_seq ?_
      refine r_start ?_
      refine p 2 ?_
      refine rend ?_
      replace h := H.done h
      subst h
      exact ret func153 rfl (vs := [.slice A12_2 (List.length y12_2) k12_2]) (.tmp (by kernel_rfl) .nil) rfl (fun W S => ⟨_, _, rfl, S.row 5, S.below⟩)
    replace h := H.f q47 h
    refine o_set 57 (congrArg Value.bool q47) ?_
    refine p 1 ?_
    refine xq rfl (y_load (.agg (eHand s1.Other).toArray) 2 g1_4 14) ?_
    refine p 1 ?_
    refine xq rfl (y_load (.agg (eHand s2.Other).toArray) 3 g1_5 14) ?_
    refine p 2 ?_
    refine rend ?_
    refine c_or (!qHand s1.Other s2.Other) (fun q48 => ?_) (fun q48 => ?_)
    · replace h := H.t q48 h
      refine r_start ?_
      refine p 1 ?_
      refine xx rfl (e_lit (e := (eI .i64)) (el := 3) [.int .i64 4] ([4] : List Int) fun A12_1 k12_1 => ?_)
      obtain ⟨y12_2, hy12_2, h⟩ := H.call h
      refine xx rfl (e_app 5 hy12_2 (s_own 6) fun A12_2 k12_2 => ?_)
      refine p 1 ?_
      refine rend ?_
      refine c_seq ?_
      refine r_start ?_
      refine p 2 ?_
      refine rend ?_
      replace h := H.done h
      subst h
      exact ret func153 rfl (vs := [.slice A12_2 (List.length y12_2) k12_2]) (.tmp (by kernel_rfl) .nil) rfl (fun W S => ⟨_, _, rfl, S.row 5, S.below⟩)
    replace h := H.f q48 h
    refine c_skip ?_
    refine c_seq ?_
    refine r_start ?_
    refine p 2 ?_
    refine rend ?_
    replace h := H.done h
    subst h
    exact ret func153 rfl (vs := [.slice A10_2 (List.length y10_2) k10_2]) (.tmp (by kernel_rfl) .nil) rfl (fun W S => ⟨_, _, rfl, S.row 5, S.below⟩)
  replace h := H.f q46 h
  refine c_skip ?_
  refine c_seq ?_
  refine c_seq ?_
  refine r_start ?_
  refine p 1 ?_
  refine xq rfl (y_load (.bool s1.Two) 2 g1_4 13) ?_
  refine p 1 ?_
  refine xq rfl (y_load (.bool s2.Two) 3 g1_5 13) ?_
  refine p 2 ?_
  refine br (!(s1.Two == s2.Two)) (fun q49 => ?_) (fun q49 => ?_)
  · replace h := H.t q49 h
    refine o_set 57 (congrArg Value.bool q49) ?_
    refine p 6 ?_
    refine rend ?_
    refine c_t (by kernel_rfl) ?_
    refine r_start ?_
    refine p 1 ?_
    refine xx rfl (e_lit (e := (eI .i64)) (el := 3) [.int .i64 4] ([4] : List Int) fun A12_1 k12_1 => ?_)
    refine o_nil (eI .i64) 3 ?_
    obtain ⟨y12_2, hy12_2, h⟩ := H.call h
    refine xx rfl (e_app 5 hy12_2 (s_own 4) fun A12_2 k12_2 => ?_)
    refine p 1 ?_
    refine rend ?_
    refine c_seq ?_
    refine r_start ?_
    refine p 2 ?_
    refine rend ?_
    replace h := H.done h
    subst h
    exact ret func153 rfl (vs := [.slice A12_2 (List.length y12_2) k12_2]) (.tmp (by kernel_rfl) .nil) rfl (fun W S => ⟨_, _, rfl, S.row 5, S.below⟩)
  replace h := H.f q49 h
  refine o_set 57 (congrArg Value.bool q49) ?_
  refine p 1 ?_
  refine xq rfl (y_load (.agg (eHand s1.Other).toArray) 2 g1_4 14) ?_
  refine p 1 ?_
  refine xq rfl (y_load (.agg (eHand s2.Other).toArray) 3 g1_5 14) ?_
  refine p 2 ?_
  refine rend ?_
  refine c_or (!qHand s1.Other s2.Other) (fun q50 => ?_) (fun q50 => ?_)
  · replace h := H.t q50 h
    refine r_start ?_
    refine p 1 ?_
    refine xx rfl (e_lit (e := (eI .i64)) (el := 3) [.int .i64 4] ([4] : List Int) fun A12_1 k12_1 => ?_)
    refine o_nil (eI .i64) 3 ?_
    obtain ⟨y12_2, hy12_2, h⟩ := H.call h
    refine xx rfl (e_app 5 hy12_2 (s_own 4) fun A12_2 k12_2 => ?_)
    refine p 1 ?_
    refine rend ?_
    refine c_seq ?_
    refine r_start ?_
    refine p 2 ?_
    refine rend ?_
    replace h := H.done h
    subst h
    exact ret func153 rfl (vs := [.slice A12_2 (List.length y12_2) k12_2]) (.tmp (by kernel_rfl) .nil) rfl (fun W S => ⟨_, _, rfl, S.row 5, S.below⟩)
  replace h := H.f q50 h
  refine c_skip ?_
  refine c_seq ?_
  refine r_start ?_
  refine p 2 ?_
  refine rend ?_
  replace h := H.done h
  subst h
  exact ret func153 rfl (vs := [.slice none 0 0]) (.tmp (by kernel_rfl) .nil) rfl (fun W S => ⟨none, 0, rfl, World.ownsRow_nil _ _ _ _, S.below⟩)
theorem C.s_prPair {fu : Nat} {a0 : Sign} {a1 : Sign} {r : Bool} (w : World) (h : X.s_prPair fu a0 a1 = some r) : Calls prog 110 #[.agg (eSign a0).toArray, .agg (eSign a1).toArray] w (Ret w (.bool r)) := by
  refine calls (M := no) (args := [.agg (eSign a0).toArray, .agg (eSign a1).toArray]) func110 rfl ?_
  replace h : H (X.s_prPair fu a0 a1) (fun o => o = r) := H.mk h
  unfold X.s_prPair at h
  refine c_seq ?_
  refine r_start ?_
  refine xx rfl (x_box (eSign a0) fun g0_0 => ?_)
  refine xx rfl (x_box (eSign a1) fun g0_1 => ?_)
  refine p 1 ?_
  refine rend ?_
  refine c_seq ?_
  refine r_start ?_
  refine xq rfl (y_load (.agg (eSign a0).toArray) 0 g0_0 0) ?_
  refine xq rfl (y_load (.agg (eSign a1).toArray) 1 g0_1 0) ?_
  obtain ⟨v1_2, hv1_2, h⟩ := H.call h
  refine xx rfl (e_cr [.agg (eSign a0).toArray, .agg (eSign a1).toArray] (fun v => v) func153 (fun W S => C.s_prApart W hv1_2) fun A1_2 k1_2 => ?_)
  refine p 3 ?_
  refine rend ?_
  replace h := H.done h
  subst h
  exact ret func110 rfl (vs := [.bool ((List.length v1_2 : Int) == 1)]) (.tmp (by kernel_rfl) .nil) rfl (fun W S => ⟨rfl, S.below⟩)
theorem C.s_prWith {fu : Nat} {a0 : (List Sign)} {A0 : Option Addr} {k0 : Nat} {a1 : Int} {r : (List Int)} (w : World) (h : X.s_prWith fu a0 a1 = some r) (h0 : RdT nSign w (.slice A0 (List.length a0) k0) a0) : Calls prog 62 #[.slice A0 (List.length a0) k0, .int .i64 a1] w (RetR (eI .i64) 3 w r (fun v => v)) := by
  refine calls (M := no) (args := [.slice A0 (List.length a0) k0, .int .i64 a1]) func62 rfl ?_
  replace h : H (X.s_prWith fu a0 a1) (fun o => o = r) := H.mk h
  unfold X.s_prWith at h
  refine c_seq ?_
  refine r_start ?_
  refine p 1 ?_
  refine rend ?_
  refine c_seq ?_
  refine r_start ?_
  refine p 1 ?_
  refine rend ?_
  refine c_seq ?_
  refine c_seq ?_
  refine r_start ?_
  refine p 3 ?_
  refine rend ?_
  refine c_block ?_
  refine c_nil (eI .i64) 3 ?_
  refine joinH (X := ((List Int) × Option Addr × Nat)) 0 (H.bnd h) (fun ⟨l4, A5, k6⟩ => l4) (fun ⟨l4, A5, k6⟩ => [rowT (eI .i64) w.heap.size 3 (.slice A5 (List.length l4) k6) l4]) (fun ⟨l4, A5, k6⟩ u => (jk u 0 5 (.slice A5 (List.length l4) k6 :: (jk u 6 21 [])))) (fun h hj7 => ?_) ?_
  · skip
    refine rangeR (X := ((List Int) × Option Addr × Nat)) (s_arg h0) (fun ⟨l1, A2, k3⟩ => l1) (fun ⟨l1, A2, k3⟩ => [rowT (eI .i64) w.heap.size 3 (.slice A2 (List.length l1) k3) l1]) (fun (j8 : Nat) ⟨l1, A2, k3⟩ u => (.slice A0 (List.length a0) k0 :: .int .i64 a1 :: (jk u 2 3 (.slice A2 (List.length l1) k3 :: (jk u 6 2 (.slice A0 (List.length a0) k0 :: .int .i64 (List.length a0 : Int) :: .int .i64 (j8 : Int) :: (jk u 11 16 []))))))) (([] : List Int), none, 0) h (by kernel_rfl) (by kernel_rfl) ?_ ?_
    · intro j8 x u x9 q10 hg11 hw12 h
      obtain ⟨l1, A2, k3⟩ := x
      refine c_seq ?_
      refine r_start ?_
      refine p 1 ?_
      refine rend ?_
      refine c_seq ?_
      refine c_yes q10 ?_
      refine c_skip ?_
      refine c_seq ?_
      refine c_block ?_
      refine c_seq ?_
      refine r_start ?_
      refine p 1 ?_
      refine xq rfl (y_idx (e := nSign) (el := 66) hg11 (s_arg h0)) ?_
      refine xq rfl (y_el (e := nSign) 0 (.agg (eSign x9).toArray) hg11 (s_arg h0)) ?_
      refine xx rfl (x_new (eSign zSign) fun g4_3 => ?_)
      refine p 1 ?_
      refine xx rfl (x_sto 1 g4_3 0 (eSign x9) ?_)
      refine rend ?_
      refine c_seq ?_
      refine as_start 6 6 ?_
      refine ap 0 2 ?_
      obtain ⟨y5_2, hy5_2, h⟩ := H.call h
      refine aq 2 rfl (y_idx (e := nSign) (el := 66) hy5_2 (s_arg h0)) ?_
      refine aq 3 rfl (y_el (e := nSign) 0 (.agg (eSign y5_2).toArray) hy5_2 (s_arg h0)) ?_
      refine aq 4 rfl (y_load (.agg (eSign x9).toArray) 1 g4_3 0) ?_
      obtain ⟨v5_5, hv5_5, h⟩ := H.call h
      refine aq 5 rfl (y_call [.agg (eSign y5_2).toArray, .agg (eSign x9).toArray] (.bool v5_5) func110 (fun W S => C.s_prPair W hv5_5)) ?_
      refine a_done ?_
      refine c_or v5_5 (fun q13 => ?_) (fun q13 => ?_)
      · replace h := H.t q13 h
        refine r_start ?_
        refine p 2 ?_
        refine xx rfl (e_lit (e := (eI .i64)) (el := 3) [.int .i64 (j8 : Int)] ([(j8 : Int)] : List Int) fun A6_2 k6_2 => ?_)
        obtain ⟨y6_3, hy6_3, h⟩ := H.call h
        refine xx rfl (e_app 0 hy6_3 (s_own 2) fun A6_3 k6_3 => ?_)
        refine p 1 ?_
        refine rend ?_
        refine c_inb ?_
        refine r_start ?_
        refine p 2 ?_
        refine rend ?_
        refine c_set 10 (ci hw12) ?_
        replace h := H.inl h
        exact h (y6_3, A6_3, k6_3) _ _ rfl (by kernel_rfl) (by kernel_rfl)
      replace h := H.f q13 h
      refine c_skip ?_
      refine c_inb ?_
      refine r_start ?_
      refine p 2 ?_
      refine rend ?_
      refine c_set 10 (ci hw12) ?_
      replace h := H.inl h
      exact h (l1, A2, k3) _ _ rfl (by kernel_rfl) (by kernel_rfl)
    · intro x u q10 h
      obtain ⟨l1, A2, k3⟩ := x
      refine c_seq ?_
      refine r_start ?_
      refine p 1 ?_
      refine rend ?_
      refine c_seq ?_
      refine c_no q10 ?_
      refine cx ?_
      replace h := H.done h
      exact hj7 (l1, A2, k3) _ _ h (by kernel_rfl) (by kernel_rfl)
  intro x u h
  obtain ⟨l4, A5, k6⟩ := x
  refine c_seq ?_
  refine r_start ?_
  refine p 2 ?_
  refine rend ?_
  replace h := H.done h
  subst h
  exact ret func62 rfl (vs := [.slice A5 (List.length l4) k6]) (.tmp (by kernel_rfl) .nil) rfl (fun W S => ⟨_, _, rfl, S.row 0, S.below⟩)
theorem C.i_Hand_same {a0 : Hand} {a1 : Hand} {r : (List Bool)} (w : World) (h : X.i_Hand_same a0 a1 = some r) : Calls prog 221 #[.agg (eHand a0).toArray, .agg (eHand a1).toArray] w (RetR eB 4 w r (fun v => v)) := by
  refine calls (M := no) (args := [.agg (eHand a0).toArray, .agg (eHand a1).toArray]) func221 rfl ?_
  replace h : H (X.i_Hand_same a0 a1) (fun o => o = r) := H.mk h
  unfold X.i_Hand_same at h
  refine c_seq ?_
  refine r_start ?_
  refine xx rfl (x_box (eHand a0) fun g0_0 => ?_)
  refine xx rfl (x_box (eHand a1) fun g0_1 => ?_)
  refine p 1 ?_
  refine rend ?_
  refine c_seq ?_
  refine as_start 22 22 ?_
  refine ap 0 1 ?_
  refine aq 1 rfl (y_load (.agg (eShape a0.Shape).toArray) 0 g0_0 0) ?_
  refine ap 2 1 ?_
  refine aq 3 rfl (y_load (.agg (eShape a1.Shape).toArray) 1 g0_1 0) ?_
  refine ap 4 2 ?_
  refine aq 6 rfl (y_load (.agg (eOrient a0.Orient).toArray) 0 g0_0 6) ?_
  refine ap 7 1 ?_
  refine aq 8 rfl (y_load (.agg (eOrient a1.Orient).toArray) 1 g0_1 6) ?_
  refine ap 9 2 ?_
  refine aq 11 rfl (y_load (.agg (ePlace a0.Place).toArray) 0 g0_0 8) ?_
  refine ap 12 1 ?_
  refine aq 13 rfl (y_load (.agg (ePlace a1.Place).toArray) 1 g0_1 8) ?_
  refine ap 14 2 ?_
  refine aq 16 rfl (y_load (.agg (eMove a0.Move).toArray) 0 g0_0 11) ?_
  refine ap 17 1 ?_
  refine aq 18 rfl (y_load (.agg (eMove a1.Move).toArray) 1 g0_1 11) ?_
  refine ap 19 1 ?_
  refine ax 20 rfl (e_lit (e := eB) (el := 4) [.bool (qShape a0.Shape a1.Shape), .bool (qOrient a0.Orient a1.Orient), .bool (qPlace a0.Place a1.Place), .bool (qMove a0.Move a1.Move)] ([(qShape a0.Shape a1.Shape), (qOrient a0.Orient a1.Orient), (qPlace a0.Place a1.Place), (qMove a0.Move a1.Move)] : List Bool) fun A1_20 k1_20 => ⟨.inr (by kernel_rfl), ?_⟩)
  refine ap 21 1 ?_
  refine a_done ?_
  replace h := H.done h
  subst h
  exact ret func221 rfl (vs := [.slice A1_20 (List.length ([(qShape a0.Shape a1.Shape), (qOrient a0.Orient a1.Orient), (qPlace a0.Place a1.Place), (qMove a0.Move a1.Move)] : List Bool)) k1_20]) (.tmp (by kernel_rfl) .nil) rfl (fun W S => ⟨_, _, rfl, S.row 2, S.below⟩)
theorem C.i_those_bool {a0 : (List Bool)} {A0 : Option Addr} {k0 : Nat} {a1 : (Bool → Option Bool)} {g1 : Nat} {cp1 : List Value} {r : (List Int)} (w : World) (h : X.i_those_bool a0 a1 = some r) (h0 : RdT eB w (.slice A0 (List.length a0) k0) a0) (hg1 : isFn prog g1 = true) (hF1 : ∀ (x0 : Bool) (r : Bool) (W : World), Up w W → a1 x0 = some r → Calls prog g1 (([.bool x0] : List Value) ++ cp1).toArray W (Ret W (.bool r))) : Calls prog 222 #[.slice A0 (List.length a0) k0, .func (.func g1) #[] cp1.toArray] w (RetR (eI .i64) 3 w r (fun v => v)) := by
  refine calls (M := no) (args := [.slice A0 (List.length a0) k0, .func (.func g1) #[] cp1.toArray]) func222 rfl ?_
  replace h : H (X.i_those_bool a0 a1) (fun o => o = r) := H.mk h
  unfold X.i_those_bool at h
  refine c_seq ?_
  refine r_start ?_
  refine p 1 ?_
  refine rend ?_
  refine c_seq ?_
  refine r_start ?_
  refine p 1 ?_
  refine rend ?_
  refine c_seq ?_
  refine c_seq ?_
  refine r_start ?_
  refine p 3 ?_
  refine rend ?_
  refine c_block ?_
  refine c_nil (eI .i64) 3 ?_
  refine joinH (X := ((List Int) × Option Addr × Nat)) 0 (H.bnd h) (fun ⟨l4, A5, k6⟩ => l4) (fun ⟨l4, A5, k6⟩ => [rowT (eI .i64) w.heap.size 3 (.slice A5 (List.length l4) k6) l4]) (fun ⟨l4, A5, k6⟩ u => (jk u 0 5 (.slice A5 (List.length l4) k6 :: (jk u 6 18 [])))) (fun h hj7 => ?_) ?_
  · skip
    refine rangeR (X := ((List Int) × Option Addr × Nat)) (s_arg h0) (fun ⟨l1, A2, k3⟩ => l1) (fun ⟨l1, A2, k3⟩ => [rowT (eI .i64) w.heap.size 3 (.slice A2 (List.length l1) k3) l1]) (fun (j8 : Nat) ⟨l1, A2, k3⟩ u => (jk u 0 1 (.func (.func g1) #[] cp1.toArray :: (jk u 2 3 (.slice A2 (List.length l1) k3 :: (jk u 6 2 (.slice A0 (List.length a0) k0 :: .int .i64 (List.length a0 : Int) :: .int .i64 (j8 : Int) :: (jk u 11 13 [])))))))) (([] : List Int), none, 0) h (by kernel_rfl) (by kernel_rfl) ?_ ?_
    · intro j8 x u x9 q10 hg11 hw12 h
      obtain ⟨l1, A2, k3⟩ := x
      refine c_seq ?_
      refine r_start ?_
      refine p 1 ?_
      refine rend ?_
      refine c_seq ?_
      refine c_yes q10 ?_
      refine c_skip ?_
      refine c_seq ?_
      refine c_block ?_
      refine c_seq ?_
      refine r_start ?_
      refine p 1 ?_
      refine xq rfl (y_idx (e := eB) (el := 4) hg11 (s_arg h0)) ?_
      refine xq rfl (y_el (e := eB) 0 (.bool x9) hg11 (s_arg h0)) ?_
      refine p 2 ?_
      refine rend ?_
      refine c_seq ?_
      refine r_start ?_
      refine p 2 ?_
      obtain ⟨v5_2, hv5_2, h⟩ := H.call h
      refine xq rfl (y_cf cp1 [.bool x9] (.bool v5_2) hg1 (fun W S => hF1 _ _ W S.below hv5_2)) ?_
      refine rend ?_
      refine c_or v5_2 (fun q13 => ?_) (fun q13 => ?_)
      · replace h := H.t q13 h
        refine r_start ?_
        refine p 2 ?_
        refine xx rfl (e_lit (e := (eI .i64)) (el := 3) [.int .i64 (j8 : Int)] ([(j8 : Int)] : List Int) fun A6_2 k6_2 => ?_)
        obtain ⟨y6_3, hy6_3, h⟩ := H.call h
        refine xx rfl (e_app 0 hy6_3 (s_own 1) fun A6_3 k6_3 => ?_)
        refine p 1 ?_
        refine rend ?_
        refine c_inb ?_
        refine r_start ?_
        refine p 2 ?_
        refine rend ?_
        refine c_set 10 (ci hw12) ?_
        replace h := H.inl h
        exact h (y6_3, A6_3, k6_3) _ _ rfl (by kernel_rfl) (by kernel_rfl)
      replace h := H.f q13 h
      refine c_skip ?_
      refine c_inb ?_
      refine r_start ?_
      refine p 2 ?_
      refine rend ?_
      refine c_set 10 (ci hw12) ?_
      replace h := H.inl h
      exact h (l1, A2, k3) _ _ rfl (by kernel_rfl) (by kernel_rfl)
    · intro x u q10 h
      obtain ⟨l1, A2, k3⟩ := x
      refine c_seq ?_
      refine r_start ?_
      refine p 1 ?_
      refine rend ?_
      refine c_seq ?_
      refine c_no q10 ?_
      refine cx ?_
      replace h := H.done h
      exact hj7 (l1, A2, k3) _ _ h (by kernel_rfl) (by kernel_rfl)
  intro x u h
  obtain ⟨l4, A5, k6⟩ := x
  refine c_seq ?_
  refine r_start ?_
  refine p 2 ?_
  refine rend ?_
  replace h := H.done h
  subst h
  exact ret func222 rfl (vs := [.slice A5 (List.length l4) k6]) (.tmp (by kernel_rfl) .nil) rfl (fun W S => ⟨_, _, rfl, S.row 0, S.below⟩)
theorem C.i_partsApart_1 {a0 : Bool} {r : Bool} (w : World) (h : X.i_partsApart_1 a0 = some r) : Calls prog 223 #[.bool a0] w (Ret w (.bool r)) := by
  refine calls (M := no) (args := [.bool a0]) func223 rfl ?_
  replace h : H (X.i_partsApart_1 a0) (fun o => o = r) := H.mk h
  unfold X.i_partsApart_1 at h
  refine c_seq ?_
  refine r_start ?_
  refine p 1 ?_
  refine rend ?_
  refine c_seq ?_
  refine r_start ?_
  refine p 3 ?_
  refine rend ?_
  replace h := H.done h
  subst h
  exact ret func223 rfl (vs := [.bool (!a0)]) (.tmp (by kernel_rfl) .nil) rfl (fun W S => ⟨rfl, S.below⟩)
theorem C.i_partsApart {fu : Nat} {a0 : Sign} {a1 : Sign} {r : (List Int)} (w : World) (h : X.i_partsApart fu a0 a1 = some r) : Calls prog 156 #[.agg (eSign a0).toArray, .agg (eSign a1).toArray] w (RetR (eI .i64) 3 w r (fun v => v)) := by
  refine calls (M := no) (args := [.agg (eSign a0).toArray, .agg (eSign a1).toArray]) func156 rfl ?_
  replace h : H (X.i_partsApart fu a0 a1) (fun o => o = r) := H.mk h
  unfold X.i_partsApart at h
  refine c_seq ?_
  refine r_start ?_
  refine xx rfl (x_box (eSign a0) fun g0_0 => ?_)
  refine xx rfl (x_box (eSign a1) fun g0_1 => ?_)
  refine p 1 ?_
  refine rend ?_
  refine c_seq ?_
  refine joinT (X := (Sign × Sign × Nat × Nat)) (H.bnd h) (fun ⟨s1, s2, g1_4, g1_5⟩ => (s1, s2)) (fun ⟨s1, s2, g1_4, g1_5⟩ => [box g0_0 66 (eSign a0), box g0_1 66 (eSign a1), box g1_4 66 (eSign s1), box g1_5 66 (eSign s2)]) (fun ⟨s1, s2, g1_4, g1_5⟩ u => (jk u 0 5 (.pointer (some ⟨g1_4, 0, none⟩) :: .pointer (some ⟨g1_5, 0, none⟩) :: (jk u 7 26 [])))) (fun h hj3 => ?_) ?_
  · skip
    refine as_start 8 8 ?_
    refine aq 0 rfl (y_load (.agg (eSign a0).toArray) 0 g0_0 0) ?_
    obtain ⟨v1_1, hv1_1, h⟩ := H.call h
    refine aq 1 rfl (y_call [.agg (eSign a0).toArray] (.agg (eSign v1_1).toArray) func93 (fun W S => C.i_Sign_normal W hv1_1)) ?_
    refine aq 2 rfl (y_load (.agg (eSign a1).toArray) 1 g0_1 0) ?_
    obtain ⟨v1_3, hv1_3, h⟩ := H.call h
    refine aq 3 rfl (y_call [.agg (eSign a1).toArray] (.agg (eSign v1_3).toArray) func93 (fun W S => C.i_Sign_normal W hv1_3)) ?_
    refine a_two 4 5 rfl rfl ?_ ?_
    · skip
      refine (x_new (eSign zSign) fun g1_4 => ⟨.inr (by kernel_rfl), ?_⟩)
      refine ax 5 rfl (x_new (eSign zSign) fun g1_5 => ⟨.inr (by kernel_rfl), ?_⟩)
      refine ax 6 rfl (x_sto 2 g1_4 0 (eSign v1_1) ⟨.inr (by kernel_rfl), ?_⟩)
      refine ax 7 rfl (x_sto 3 g1_5 0 (eSign v1_3) ⟨.inr (by kernel_rfl), ?_⟩)
      refine a_done ?_
      replace h := H.done h
      exact hj3 (v1_1, v1_3, g1_4, g1_5) _ _ h (by kernel_rfl) (by kernel_rfl)
    refine (x_new (eSign zSign) fun g1_5 => ⟨.inr (by kernel_rfl), ?_⟩)
    refine ax 4 rfl (x_new (eSign zSign) fun g1_4 => ⟨.inr (by kernel_rfl), ?_⟩)
    refine ax 6 rfl (x_sto 3 g1_4 0 (eSign v1_1) ⟨.inr (by kernel_rfl), ?_⟩)
    refine ax 7 rfl (x_sto 2 g1_5 0 (eSign v1_3) ⟨.inr (by kernel_rfl), ?_⟩)
    refine a_done ?_
    refine swp [box g0_0 66 (eSign a0), box g0_1 66 (eSign a1)] (box g1_5 66 (eSign v1_3)) (box g1_4 66 (eSign v1_1)) ?_
    replace h := H.done h
    exact hj3 (v1_1, v1_3, g1_4, g1_5) _ _ h (by kernel_rfl) (by kernel_rfl)
  intro x u h
  obtain ⟨s1, s2, g1_4, g1_5⟩ := x
  refine c_seq ?_
  refine as_start 20 20 ?_
  refine ap 0 1 ?_
  refine aq 1 rfl (y_load (.agg (eHand s1.Main).toArray) 2 g1_4 0) ?_
  refine ap 2 1 ?_
  refine aq 3 rfl (y_load (.agg (eHand s2.Main).toArray) 3 g1_5 0) ?_
  refine ap 5 1 ?_
  refine aq 6 rfl (y_load (.bool s1.Two) 2 g1_4 13) ?_
  refine ap 7 1 ?_
  refine aq 8 rfl (y_load (.bool s2.Two) 3 g1_5 13) ?_
  refine ap 9 1 ?_
  obtain ⟨v2_4, hv2_4, h⟩ := H.call h
  refine ax 4 rfl (e_cr [.agg (eHand s1.Main).toArray, .agg (eHand s2.Main).toArray] (fun v => v) func221 (fun W S => C.i_Hand_same W hv2_4) fun A2_4 k2_4 => ⟨.inr (by kernel_rfl), ?_⟩)
  refine ap 10 1 ?_
  refine br (s1.Two == s2.Two) (fun q4 => ?_) (fun q4 => ?_)
  · replace h := H.t q4 h
    refine a_set 22 (congrArg Value.bool q4) ?_
    refine ap 11 1 ?_
    refine aq 12 rfl (y_load (.agg (eHand s1.Other).toArray) 2 g1_4 14) ?_
    refine ap 13 1 ?_
    refine aq 14 rfl (y_load (.agg (eHand s2.Other).toArray) 3 g1_5 14) ?_
    refine ap 15 2 ?_
    refine ax 17 rfl (e_lit (e := eB) (el := 4) [.bool (qHand s1.Other s2.Other)] ([(qHand s1.Other s2.Other)] : List Bool) fun A2_17 k2_17 => ⟨.inr (by kernel_rfl), ?_⟩)
    obtain ⟨y2_18, hy2_18, h⟩ := H.call h
    refine ax 18 rfl (e_app 4 hy2_18 (s_own 5) fun A2_18 k2_18 => ⟨.inr (by kernel_rfl), ?_⟩)
    refine ap 19 1 ?_
    refine a_done ?_
    refine c_seq ?_
    refine r_start ?_
    refine p 1 ?_
    obtain ⟨v3_1, hv3_1, h⟩ := H.call h
    refine xx rfl (e_cr [.slice A2_18 (List.length y2_18) k2_18, .func (.func 223) #[] #[]] (fun v => v) func222 (fun W S => C.i_those_bool W hv3_1 ((s_own 4).out W S) (isFn_of func223) (fun x0_2 r W2 hu2 hx2 => C.i_partsApart_1 W2 hx2)) fun A3_1 k3_1 => ?_)
    refine p 1 ?_
    refine rend ?_
    replace h := H.done h
    subst h
    exact ret func156 rfl (vs := [.slice A3_1 (List.length v3_1) k3_1]) (.tmp (by kernel_rfl) .nil) rfl (fun W S => ⟨_, _, rfl, S.row 6, S.below⟩)
  replace h := H.f q4 h
  refine a_set 22 (congrArg Value.bool q4) ?_
  refine ap 11 6 ?_
  refine ax 17 rfl (e_lit (e := eB) (el := 4) [.bool false] ([false] : List Bool) fun A2_17 k2_17 => ⟨.inr (by kernel_rfl), ?_⟩)
  obtain ⟨y2_18, hy2_18, h⟩ := H.call h
  refine ax 18 rfl (e_app 4 hy2_18 (s_own 5) fun A2_18 k2_18 => ⟨.inr (by kernel_rfl), ?_⟩)
  refine ap 19 1 ?_
  refine a_done ?_
  refine c_seq ?_
  refine r_start ?_
  refine p 1 ?_
  obtain ⟨v3_1, hv3_1, h⟩ := H.call h
  refine xx rfl (e_cr [.slice A2_18 (List.length y2_18) k2_18, .func (.func 223) #[] #[]] (fun v => v) func222 (fun W S => C.i_those_bool W hv3_1 ((s_own 4).out W S) (isFn_of func223) (fun x0_2 r W2 hu2 hx2 => C.i_partsApart_1 W2 hx2)) fun A3_1 k3_1 => ?_)
  refine p 1 ?_
  refine rend ?_
  replace h := H.done h
  subst h
  exact ret func156 rfl (vs := [.slice A3_1 (List.length v3_1) k3_1]) (.tmp (by kernel_rfl) .nil) rfl (fun W S => ⟨_, _, rfl, S.row 6, S.below⟩)
theorem C.i_isPair {fu : Nat} {a0 : Sign} {a1 : Sign} {r : Bool} (w : World) (h : X.i_isPair fu a0 a1 = some r) : Calls prog 113 #[.agg (eSign a0).toArray, .agg (eSign a1).toArray] w (Ret w (.bool r)) := by
  refine calls (M := no) (args := [.agg (eSign a0).toArray, .agg (eSign a1).toArray]) func113 rfl ?_
  replace h : H (X.i_isPair fu a0 a1) (fun o => o = r) := H.mk h
  unfold X.i_isPair at h
  refine c_seq ?_
  refine r_start ?_
  refine xx rfl (x_box (eSign a0) fun g0_0 => ?_)
  refine xx rfl (x_box (eSign a1) fun g0_1 => ?_)
  refine p 1 ?_
  refine rend ?_
  refine c_seq ?_
  refine r_start ?_
  refine xq rfl (y_load (.agg (eSign a0).toArray) 0 g0_0 0) ?_
  refine xq rfl (y_load (.agg (eSign a1).toArray) 1 g0_1 0) ?_
  obtain ⟨v1_2, hv1_2, h⟩ := H.call h
  refine xx rfl (e_cr [.agg (eSign a0).toArray, .agg (eSign a1).toArray] (fun v => v) func156 (fun W S => C.i_partsApart W hv1_2) fun A1_2 k1_2 => ?_)
  refine p 3 ?_
  refine rend ?_
  replace h := H.done h
  subst h
  exact ret func113 rfl (vs := [.bool ((List.length v1_2 : Int) == 1)]) (.tmp (by kernel_rfl) .nil) rfl (fun W S => ⟨rfl, S.below⟩)
theorem C.i_pairsWith_1 {fu : Nat} {a0 : Sign} {a1 : (List Sign)} {A1 : Option Addr} {k1 : Nat} {p1 : Nat} {a2 : Int} {p2 : Nat} {r : Bool} (w : World) (h : X.i_pairsWith_1 fu a1 a2 a0 = some r) (h1 : RdT nSign w (.slice A1 (List.length a1) k1) a1) (hp1 : w.heap[p1]? = some (.cells ([.slice A1 (List.length a1) k1] : List Value).toArray 26 (0, 0))) (hp2 : w.heap[p2]? = some (.cells ([.int .i64 a2] : List Value).toArray 3 (0, 0))) : Calls prog 112 #[.agg (eSign a0).toArray, .pointer (some ⟨p1, 0, none⟩), .pointer (some ⟨p2, 0, none⟩)] w (Ret w (.bool r)) := by
  refine calls (M := no) (args := [.agg (eSign a0).toArray, .pointer (some ⟨p1, 0, none⟩), .pointer (some ⟨p2, 0, none⟩)]) func112 rfl ?_
  replace h : H (X.i_pairsWith_1 fu a1 a2 a0) (fun o => o = r) := H.mk h
  unfold X.i_pairsWith_1 at h
  refine c_seq ?_
  refine r_start ?_
  refine xx rfl (x_box (eSign a0) fun g0_0 => ?_)
  refine p 1 ?_
  refine rend ?_
  refine c_seq ?_
  refine as_start 7 7 ?_
  refine aq 0 rfl (y_ld0 (.slice A1 (List.length a1) k1) p1 0 hp1) ?_
  refine aq 1 rfl (y_ld0 (.int .i64 a2) p2 0 hp2) ?_
  obtain ⟨y1_2, hy1_2, h⟩ := H.call h
  refine aq 2 rfl (y_idx (e := nSign) (el := 66) hy1_2 (s_arg h1)) ?_
  refine aq 3 rfl (y_el (e := nSign) 0 (.agg (eSign y1_2).toArray) hy1_2 (s_arg h1)) ?_
  refine aq 4 rfl (y_load (.agg (eSign a0).toArray) 0 g0_0 0) ?_
  obtain ⟨v1_5, hv1_5, h⟩ := H.call h
  refine aq 5 rfl (y_call [.agg (eSign y1_2).toArray, .agg (eSign a0).toArray] (.bool v1_5) func113 (fun W S => C.i_isPair W hv1_5)) ?_
  refine ap 6 1 ?_
  refine a_done ?_
  replace h := H.done h
  subst h
  exact ret func112 rfl (vs := [.bool v1_5]) (.tmp (by kernel_rfl) .nil) rfl (fun W S => ⟨rfl, S.below⟩)
theorem C.i_pairsWith {fu : Nat} {a0 : (List Sign)} {A0 : Option Addr} {k0 : Nat} {a1 : Int} {r : (List Int)} (w : World) (h : X.i_pairsWith fu a0 a1 = some r) (h0 : RdT nSign w (.slice A0 (List.length a0) k0) a0) : Calls prog 64 #[.slice A0 (List.length a0) k0, .int .i64 a1] w (RetR (eI .i64) 3 w r (fun v => v)) := by
  refine calls (M := no) (args := [.slice A0 (List.length a0) k0, .int .i64 a1]) func64 rfl ?_
  replace h : H (X.i_pairsWith fu a0 a1) (fun o => o = r) := H.mk h
  unfold X.i_pairsWith at h
  refine c_seq ?_
  refine r_start ?_
  refine xx rfl (x_box [.slice A0 (List.length a0) k0] fun g0_0 => ?_)
  refine xx rfl (x_box [.int .i64 a1] fun g0_1 => ?_)
  refine p 1 ?_
  refine rend ?_
  refine c_seq ?_
  refine r_start ?_
  refine xq rfl (y_load (.slice A0 (List.length a0) k0) 0 g0_0 0) ?_
  refine p 1 ?_
  obtain ⟨v1_2, hv1_2, h⟩ := H.call h
  refine xx rfl (e_cr [.slice A0 (List.length a0) k0, .func (.func 112) #[] #[.pointer (some ⟨g0_0, 0, none⟩), .pointer (some ⟨g0_1, 0, none⟩)]] (fun v => v) func71 (fun W S => C.i_those_i_Sign W hv1_2 ((s_arg h0).out W S) (isFn_of func112) (fun x0_2 r W2 hu2 hx2 => C.i_pairsWith_1 W2 hx2 (Rd.up ((s_arg h0).out W S) hu2) (bx_up (S.bx 0) hu2) (bx_up (S.bx 1) hu2))) fun A1_2 k1_2 => ?_)
  refine p 1 ?_
  refine rend ?_
  replace h := H.done h
  subst h
  exact ret func64 rfl (vs := [.slice A1_2 (List.length v1_2) k1_2]) (.tmp (by kernel_rfl) .nil) rfl (fun W S => ⟨_, _, rfl, S.row 2, S.below⟩)
end Go.Proofs.XC
