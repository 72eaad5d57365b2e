/- Contracts: each function, called where its plain function gives an answer, returns just that answer and changes nothing that was there. By AI agents; no person has read it. -/
import Derived.Test.YtkckmehkialgjaaGreatDoorC1
set_option linter.unusedVariables false
set_option linter.unusedSimpArgs false
set_option maxRecDepth 100000
set_option maxHeartbeats 40000000
namespace Go.Proofs.XC
open Go Go.RowKit
open Tryz
theorem C.s_prIndex {fu : Nat} {a0 : (List Sign)} {A0 : Option Addr} {k0 : Nat} {a1 : Int} {r : Bool} (w : World) (h : X.s_prIndex fu a0 a1 = some r) (h0 : RdT nSign w (.slice A0 (List.length a0) k0) a0) : Calls prog 44 #[.slice A0 (List.length a0) k0, .int .i64 a1] w (Ret w (.bool r)) := by
  refine calls (M := no) (args := [.slice A0 (List.length a0) k0, .int .i64 a1]) func44 rfl ?_
  replace h : H (X.s_prIndex fu a0 a1) (fun o => o = r) := H.mk h
  unfold X.s_prIndex at h
  refine c_seq ?_
  refine r_start ?_
  refine p 1 ?_
  refine rend ?_
  refine c_seq ?_
  refine r_start ?_
  refine p 1 ?_
  obtain ⟨v1_1, hv1_1, h⟩ := H.call h
  refine xq rfl (y_call [.slice A0 (List.length a0) k0] (.bool v1_1) func56 (fun W S => C.s_noList W hv1_1 ((s_arg h0).out W S))) ?_
  refine p 1 ?_
  refine br v1_1 (fun q1 => ?_) (fun q1 => ?_)
  · replace h := H.t q1 h
    refine o_set 7 (congrArg Value.bool q1) ?_
    refine p 4 ?_
    obtain ⟨v1_7, hv1_7, h⟩ := H.call h
    refine xq rfl (y_call [.int .i64 a1, .int .i64 0, .int .i64 (wr ((List.length a0 : Int) - 1))] (.bool v1_7) func45 (fun W S => C.s_l1In W hv1_7)) ?_
    refine p 2 ?_
    refine rend ?_
    replace h := H.done h
    subst h
    exact ret func44 rfl (vs := [.bool v1_7]) (.tmp (by kernel_rfl) .nil) rfl (fun W S => ⟨rfl, S.below⟩)
  replace h := H.f q1 h
  refine o_set 7 (congrArg Value.bool q1) ?_
  refine p 7 ?_
  refine rend ?_
  replace h := H.done h
  subst h
  exact ret func44 rfl (vs := [.bool false]) (.tmp (by kernel_rfl) .nil) rfl (fun W S => ⟨rfl, S.below⟩)
theorem C.s_prApart {fu : Nat} {a0 : Sign} {a1 : Sign} {r : (List Int)} (w : World) (h : X.s_prApart fu a0 a1 = some r) : Calls prog 162 #[.agg (eSign a0).toArray, .agg (eSign a1).toArray] w (RetR (eI .i64) 3 w r (fun v => v)) := by
  refine calls (M := no) (args := [.agg (eSign a0).toArray, .agg (eSign a1).toArray]) func162 rfl ?_
  replace h : H (X.s_prApart fu a0 a1) (fun o => o = r) := H.mk h
  unfold X.s_prApart at h
  refine c_seq ?_
  refine r_start ?_
  refine xx rfl (x_box (eSign a0) fun g0_0 => ?_)
  refine xx rfl (x_box (eSign a1) fun g0_1 => ?_)
  refine p 1 ?_
  refine rend ?_
  refine c_seq ?_
  refine joinT (X := (Sign × Sign × Nat × Nat)) (H.bnd h) (fun ⟨s1, s2, g1_4, g1_5⟩ => (s1, s2)) (fun ⟨s1, s2, g1_4, g1_5⟩ => [box g0_0 47 (eSign a0), box g0_1 47 (eSign a1), box g1_4 47 (eSign s1), box g1_5 47 (eSign s2)]) (fun ⟨s1, s2, g1_4, g1_5⟩ u => (jk u 0 5 (.pointer (some ⟨g1_4, 0, none⟩) :: .pointer (some ⟨g1_5, 0, none⟩) :: (jk u 7 61 [])))) (fun h hj3 => ?_) ?_
  · skip
    refine as_start 8 8 ?_
    refine aq 0 rfl (y_load (.agg (eSign a0).toArray) 0 g0_0 0) ?_
    obtain ⟨v1_1, hv1_1, h⟩ := H.call h
    refine aq 1 rfl (y_call [.agg (eSign a0).toArray] (.agg (eSign v1_1).toArray) func58 (fun W S => C.s_noForm W hv1_1)) ?_
    refine aq 2 rfl (y_load (.agg (eSign a1).toArray) 1 g0_1 0) ?_
    obtain ⟨v1_3, hv1_3, h⟩ := H.call h
    refine aq 3 rfl (y_call [.agg (eSign a1).toArray] (.agg (eSign v1_3).toArray) func58 (fun W S => C.s_noForm W hv1_3)) ?_
    refine a_two 4 5 rfl rfl ?_ ?_
    · skip
      refine (x_new (eSign zSign) fun g1_4 => ⟨.inr (by kernel_rfl), ?_⟩)
      refine ax 5 rfl (x_new (eSign zSign) fun g1_5 => ⟨.inr (by kernel_rfl), ?_⟩)
      refine ax 6 rfl (x_sto 2 g1_4 0 (eSign v1_1) ⟨.inr (by kernel_rfl), ?_⟩)
      refine ax 7 rfl (x_sto 3 g1_5 0 (eSign v1_3) ⟨.inr (by kernel_rfl), ?_⟩)
      refine a_done ?_
      replace h := H.done h
      exact hj3 (v1_1, v1_3, g1_4, g1_5) _ _ h (by kernel_rfl) (by kernel_rfl)
    refine (x_new (eSign zSign) fun g1_5 => ⟨.inr (by kernel_rfl), ?_⟩)
    refine ax 4 rfl (x_new (eSign zSign) fun g1_4 => ⟨.inr (by kernel_rfl), ?_⟩)
    refine ax 6 rfl (x_sto 3 g1_4 0 (eSign v1_1) ⟨.inr (by kernel_rfl), ?_⟩)
    refine ax 7 rfl (x_sto 2 g1_5 0 (eSign v1_3) ⟨.inr (by kernel_rfl), ?_⟩)
    refine a_done ?_
    refine swp [box g0_0 47 (eSign a0), box g0_1 47 (eSign a1)] (box g1_5 47 (eSign v1_3)) (box g1_4 47 (eSign v1_1)) ?_
    replace h := H.done h
    exact hj3 (v1_1, v1_3, g1_4, g1_5) _ _ h (by kernel_rfl) (by kernel_rfl)
  intro x u h
  obtain ⟨s1, s2, g1_4, g1_5⟩ := x
  refine c_seq ?_
  refine r_start ?_
  refine p 1 ?_
  refine rend ?_
  refine c_seq ?_
  refine c_seq ?_
  refine r_start ?_
  refine p 2 ?_
  refine xq rfl (y_load (.agg (eShape s1.Main.Shape).toArray) 2 g1_4 0) ?_
  refine p 2 ?_
  refine xq rfl (y_load (.agg (eShape s2.Main.Shape).toArray) 3 g1_5 0) ?_
  refine p 1 ?_
  refine rend ?_
  refine c_or (!qShape s1.Main.Shape s2.Main.Shape) (fun q4 => ?_) (fun q4 => ?_)
  · replace h := H.t q4 h
    refine r_start ?_
    refine p 1 ?_
    refine xx rfl (e_lit (e := (eI .i64)) (el := 3) [.int .i64 0] ([0] : List Int) fun A4_1 k4_1 => ?_)
    refine o_nil (eI .i64) 3 ?_
    obtain ⟨y4_2, hy4_2, h⟩ := H.call h
    refine xx rfl (e_app 5 hy4_2 (s_own 4) fun A4_2 k4_2 => ?_)
    refine p 1 ?_
    refine rend ?_
    refine c_seq ?_
    refine c_seq ?_
    refine r_start ?_
    refine p 2 ?_
    refine xq rfl (y_load (.agg (eOrient s1.Main.Orient).toArray) 2 g1_4 6) ?_
    refine p 2 ?_
    refine xq rfl (y_load (.agg (eOrient s2.Main.Orient).toArray) 3 g1_5 6) ?_
    refine p 1 ?_
    refine rend ?_
    refine c_or (!qOrient s1.Main.Orient s2.Main.Orient) (fun q5 => ?_) (fun q5 => ?_)
    · replace h := H.t q5 h
      refine r_start ?_
      refine p 1 ?_
      refine xx rfl (e_lit (e := (eI .i64)) (el := 3) [.int .i64 1] ([1] : List Int) fun A6_1 k6_1 => ?_)
      obtain ⟨y6_2, hy6_2, h⟩ := H.call h
      refine xx rfl (e_app 5 hy6_2 (s_own 6) fun A6_2 k6_2 => ?_)
      refine p 1 ?_
      refine rend ?_
      refine c_seq ?_
      refine c_seq ?_
      refine r_start ?_
      refine p 2 ?_
      refine xq rfl (y_load (.agg (ePlace s1.Main.Place).toArray) 2 g1_4 8) ?_
      refine p 2 ?_
      refine xq rfl (y_load (.agg (ePlace s2.Main.Place).toArray) 3 g1_5 8) ?_
      refine p 1 ?_
      refine rend ?_
      refine c_or (!qPlace s1.Main.Place s2.Main.Place) (fun q6 => ?_) (fun q6 => ?_)
      · replace h := H.t q6 h
        refine r_start ?_
        refine p 1 ?_
        refine xx rfl (e_lit (e := (eI .i64)) (el := 3) [.int .i64 2] ([2] : List Int) fun A8_1 k8_1 => ?_)
        obtain ⟨y8_2, hy8_2, h⟩ := H.call h
        refine xx rfl (e_app 5 hy8_2 (s_own 7) fun A8_2 k8_2 => ?_)
        refine p 1 ?_
        refine rend ?_
        refine c_seq ?_
        refine c_seq ?_
        refine r_start ?_
        refine p 2 ?_
        refine xq rfl (y_load (.agg (eMove s1.Main.Move).toArray) 2 g1_4 11) ?_
        refine p 2 ?_
        refine xq rfl (y_load (.agg (eMove s2.Main.Move).toArray) 3 g1_5 11) ?_
        refine p 1 ?_
        refine rend ?_
        refine c_or (!qMove s1.Main.Move s2.Main.Move) (fun q7 => ?_) (fun q7 => ?_)
        · replace h := H.t q7 h
          refine r_start ?_
          refine p 1 ?_
          refine xx rfl (e_lit (e := (eI .i64)) (el := 3) [.int .i64 3] ([3] : List Int) fun A10_1 k10_1 => ?_)
          obtain ⟨y10_2, hy10_2, h⟩ := H.call h
          refine xx rfl (e_app 5 hy10_2 (s_own 8) fun A10_2 k10_2 => ?_)
          refine p 1 ?_
          refine rend ?_
          refine c_seq ?_
          refine c_seq ?_
          refine r_start ?_
          refine p 1 ?_
          refine xq rfl (y_load (.bool s1.Two) 2 g1_4 13) ?_
          refine p 1 ?_
          refine xq rfl (y_load (.bool s2.Two) 3 g1_5 13) ?_
          refine p 2 ?_
          refine br (!(s1.Two == s2.Two)) (fun q8 => ?_) (fun q8 => ?_)
          · replace h := H.t q8 h
            refine o_set 57 (congrArg Value.bool q8) ?_
            refine p 6 ?_
            refine rend ?_
            refine c_t (by kernel_rfl) ?_
            refine r_start ?_
            refine p 1 ?_
            refine xx rfl (e_lit (e := (eI .i64)) (el := 3) [.int .i64 4] ([4] : List Int) fun A12_1 k12_1 => ?_)
            obtain ⟨y12_2, hy12_2, h⟩ := H.call h
            refine xx rfl (e_app 5 hy12_2 (s_own 9) fun A12_2 k12_2 => ?_)
            refine p 1 ?_
            refine rend ?_
            refine frg (fun u => (jk u 0 7 (.slice A12_2 (List.length y12_2) k12_2 :: (jk u 8 60 [])))) (by kernel_rfl) fun u => ?_
            refine keep 10 (its' := [box g0_0 47 (eSign a0), box g0_1 47 (eSign a1), box g1_4 47 (eSign s1), box g1_5 47 (eSign s2), rowT (eI .i64) w.heap.size 3 (.slice A4_1 (List.length ([0] : List Int)) k4_1) ([0] : List Int), rowT (eI .i64) w.heap.size 3 (.slice A12_2 (List.length y12_2) k12_2) y12_2, rowT (eI .i64) w.heap.size 3 (.slice A6_1 (List.length ([1] : List Int)) k6_1) ([1] : List Int), rowT (eI .i64) w.heap.size 3 (.slice A8_1 (List.length ([2] : List Int)) k8_1) ([2] : List Int), rowT (eI .i64) w.heap.size 3 (.slice A10_1 (List.length ([3] : List Int)) k10_1) ([3] : List Int), rowT (eI .i64) w.heap.size 3 (.slice A12_1 (List.length ([4] : List Int)) k12_1) ([4] : List Int)]) (by kernel_rfl) ?_
            refine c_seq ?_
            refine r_start ?_
            refine p 2 ?_
            refine rend ?_
            replace h := H.done h
            subst h
            exact ret func162 rfl (vs := [.slice A12_2 (List.length y12_2) k12_2]) (.tmp (by kernel_rfl) .nil) rfl (fun W S => ⟨_, _, rfl, S.row 5, S.below⟩)
          replace h := H.f q8 h
          refine o_set 57 (congrArg Value.bool q8) ?_
          refine p 1 ?_
          refine xq rfl (y_load (.agg (eHand s1.Other).toArray) 2 g1_4 14) ?_
          refine p 1 ?_
          refine xq rfl (y_load (.agg (eHand s2.Other).toArray) 3 g1_5 14) ?_
          refine p 2 ?_
          refine rend ?_
          refine c_or (!qHand s1.Other s2.Other) (fun q9 => ?_) (fun q9 => ?_)
          · replace h := H.t q9 h
            refine r_start ?_
            refine p 1 ?_
            refine xx rfl (e_lit (e := (eI .i64)) (el := 3) [.int .i64 4] ([4] : List Int) fun A12_1 k12_1 => ?_)
            obtain ⟨y12_2, hy12_2, h⟩ := H.call h
            refine xx rfl (e_app 5 hy12_2 (s_own 9) fun A12_2 k12_2 => ?_)
            refine p 1 ?_
            refine rend ?_
            refine frg (fun u => (jk u 0 7 (.slice A12_2 (List.length y12_2) k12_2 :: (jk u 8 60 [])))) (by kernel_rfl) fun u => ?_
            refine keep 10 (its' := [box g0_0 47 (eSign a0), box g0_1 47 (eSign a1), box g1_4 47 (eSign s1), box g1_5 47 (eSign s2), rowT (eI .i64) w.heap.size 3 (.slice A4_1 (List.length ([0] : List Int)) k4_1) ([0] : List Int), rowT (eI .i64) w.heap.size 3 (.slice A12_2 (List.length y12_2) k12_2) y12_2, rowT (eI .i64) w.heap.size 3 (.slice A6_1 (List.length ([1] : List Int)) k6_1) ([1] : List Int), rowT (eI .i64) w.heap.size 3 (.slice A8_1 (List.length ([2] : List Int)) k8_1) ([2] : List Int), rowT (eI .i64) w.heap.size 3 (.slice A10_1 (List.length ([3] : List Int)) k10_1) ([3] : List Int), rowT (eI .i64) w.heap.size 3 (.slice A12_1 (List.length ([4] : List Int)) k12_1) ([4] : List Int)]) (by kernel_rfl) ?_
            refine c_seq ?_
            refine r_start ?_
            refine p 2 ?_
            refine rend ?_
            replace h := H.done h
            subst h
            exact ret func162 rfl (vs := [.slice A12_2 (List.length y12_2) k12_2]) (.tmp (by kernel_rfl) .nil) rfl (fun W S => ⟨_, _, rfl, S.row 5, S.below⟩)
          replace h := H.f q9 h
          refine c_skip ?_
          refine c_seq ?_
          refine r_start ?_
          refine p 2 ?_
          refine rend ?_
          refine frg (fun u => (jk u 0 4 (.slice A10_2 (List.length y10_2) k10_2 :: (jk u 5 63 [])))) (by kernel_rfl) fun u => ?_
          refine keep 9 (its' := [box g0_0 47 (eSign a0), box g0_1 47 (eSign a1), box g1_4 47 (eSign s1), box g1_5 47 (eSign s2), rowT (eI .i64) w.heap.size 3 (.slice A4_1 (List.length ([0] : List Int)) k4_1) ([0] : List Int), rowT (eI .i64) w.heap.size 3 (.slice A10_2 (List.length y10_2) k10_2) y10_2, rowT (eI .i64) w.heap.size 3 (.slice A6_1 (List.length ([1] : List Int)) k6_1) ([1] : List Int), rowT (eI .i64) w.heap.size 3 (.slice A8_1 (List.length ([2] : List Int)) k8_1) ([2] : List Int), rowT (eI .i64) w.heap.size 3 (.slice A10_1 (List.length ([3] : List Int)) k10_1) ([3] : List Int)]) (by kernel_rfl) ?_
          replace h := H.done h
          subst h
          exact ret func162 rfl (vs := [.slice A10_2 (List.length y10_2) k10_2]) (.tmp (by kernel_rfl) .nil) rfl (fun W S => ⟨_, _, rfl, S.row 5, S.below⟩)
        replace h := H.f q7 h
        refine c_skip ?_
        refine c_seq ?_
        refine c_seq ?_
        refine r_start ?_
        refine p 1 ?_
        refine xq rfl (y_load (.bool s1.Two) 2 g1_4 13) ?_
        refine p 1 ?_
        refine xq rfl (y_load (.bool s2.Two) 3 g1_5 13) ?_
        refine p 2 ?_
        refine br (!(s1.Two == s2.Two)) (fun q10 => ?_) (fun q10 => ?_)
        · replace h := H.t q10 h
          refine o_set 57 (congrArg Value.bool q10) ?_
          refine p 6 ?_
          refine rend ?_
          refine c_t (by kernel_rfl) ?_
          refine r_start ?_
          refine p 1 ?_
          refine xx rfl (e_lit (e := (eI .i64)) (el := 3) [.int .i64 4] ([4] : List Int) fun A12_1 k12_1 => ?_)
          obtain ⟨y12_2, hy12_2, h⟩ := H.call h
          refine xx rfl (e_app 5 hy12_2 (s_own 8) fun A12_2 k12_2 => ?_)
          refine p 1 ?_
          refine rend ?_
          refine c_seq ?_
          refine r_start ?_
          refine p 2 ?_
          refine rend ?_
          refine frg (fun u => (jk u 0 4 (.slice A12_2 (List.length y12_2) k12_2 :: (jk u 5 63 [])))) (by kernel_rfl) fun u => ?_
          refine keep 9 (its' := [box g0_0 47 (eSign a0), box g0_1 47 (eSign a1), box g1_4 47 (eSign s1), box g1_5 47 (eSign s2), rowT (eI .i64) w.heap.size 3 (.slice A4_1 (List.length ([0] : List Int)) k4_1) ([0] : List Int), rowT (eI .i64) w.heap.size 3 (.slice A12_2 (List.length y12_2) k12_2) y12_2, rowT (eI .i64) w.heap.size 3 (.slice A6_1 (List.length ([1] : List Int)) k6_1) ([1] : List Int), rowT (eI .i64) w.heap.size 3 (.slice A8_1 (List.length ([2] : List Int)) k8_1) ([2] : List Int), rowT (eI .i64) w.heap.size 3 (.slice A12_1 (List.length ([4] : List Int)) k12_1) ([4] : List Int)]) (by kernel_rfl) ?_
          replace h := H.done h
          subst h
          exact ret func162 rfl (vs := [.slice A12_2 (List.length y12_2) k12_2]) (.tmp (by kernel_rfl) .nil) rfl (fun W S => ⟨_, _, rfl, S.row 5, S.below⟩)
        replace h := H.f q10 h
        refine o_set 57 (congrArg Value.bool q10) ?_
        refine p 1 ?_
        refine xq rfl (y_load (.agg (eHand s1.Other).toArray) 2 g1_4 14) ?_
        refine p 1 ?_
        refine xq rfl (y_load (.agg (eHand s2.Other).toArray) 3 g1_5 14) ?_
        refine p 2 ?_
        refine rend ?_
        refine c_or (!qHand s1.Other s2.Other) (fun q11 => ?_) (fun q11 => ?_)
        · replace h := H.t q11 h
          refine r_start ?_
          refine p 1 ?_
          refine xx rfl (e_lit (e := (eI .i64)) (el := 3) [.int .i64 4] ([4] : List Int) fun A12_1 k12_1 => ?_)
          obtain ⟨y12_2, hy12_2, h⟩ := H.call h
          refine xx rfl (e_app 5 hy12_2 (s_own 8) fun A12_2 k12_2 => ?_)
          refine p 1 ?_
          refine rend ?_
          refine c_seq ?_
          refine r_start ?_
          refine p 2 ?_
          refine rend ?_
          refine frg (fun u => (jk u 0 4 (.slice A12_2 (List.length y12_2) k12_2 :: (jk u 5 63 [])))) (by kernel_rfl) fun u => ?_
          refine keep 9 (its' := [box g0_0 47 (eSign a0), box g0_1 47 (eSign a1), box g1_4 47 (eSign s1), box g1_5 47 (eSign s2), rowT (eI .i64) w.heap.size 3 (.slice A4_1 (List.length ([0] : List Int)) k4_1) ([0] : List Int), rowT (eI .i64) w.heap.size 3 (.slice A12_2 (List.length y12_2) k12_2) y12_2, rowT (eI .i64) w.heap.size 3 (.slice A6_1 (List.length ([1] : List Int)) k6_1) ([1] : List Int), rowT (eI .i64) w.heap.size 3 (.slice A8_1 (List.length ([2] : List Int)) k8_1) ([2] : List Int), rowT (eI .i64) w.heap.size 3 (.slice A12_1 (List.length ([4] : List Int)) k12_1) ([4] : List Int)]) (by kernel_rfl) ?_
          replace h := H.done h
          subst h
          exact ret func162 rfl (vs := [.slice A12_2 (List.length y12_2) k12_2]) (.tmp (by kernel_rfl) .nil) rfl (fun W S => ⟨_, _, rfl, S.row 5, S.below⟩)
        replace h := H.f q11 h
        refine c_skip ?_
        refine c_seq ?_
        refine r_start ?_
        refine p 2 ?_
        refine rend ?_
        replace h := H.done h
        subst h
        exact ret func162 rfl (vs := [.slice A8_2 (List.length y8_2) k8_2]) (.tmp (by kernel_rfl) .nil) rfl (fun W S => ⟨_, _, rfl, S.row 5, S.below⟩)
      replace h := H.f q6 h
      refine c_skip ?_
      refine c_seq ?_
      refine c_seq ?_
      refine r_start ?_
      refine p 2 ?_
      refine xq rfl (y_load (.agg (eMove s1.Main.Move).toArray) 2 g1_4 11) ?_
      refine p 2 ?_
      refine xq rfl (y_load (.agg (eMove s2.Main.Move).toArray) 3 g1_5 11) ?_
      refine p 1 ?_
      refine rend ?_
      refine c_or (!qMove s1.Main.Move s2.Main.Move) (fun q12 => ?_) (fun q12 => ?_)
      · replace h := H.t q12 h
        refine r_start ?_
        refine p 1 ?_
        refine xx rfl (e_lit (e := (eI .i64)) (el := 3) [.int .i64 3] ([3] : List Int) fun A10_1 k10_1 => ?_)
        obtain ⟨y10_2, hy10_2, h⟩ := H.call h
        refine xx rfl (e_app 5 hy10_2 (s_own 7) fun A10_2 k10_2 => ?_)
        refine p 1 ?_
        refine rend ?_
        refine c_seq ?_
        refine c_seq ?_
        refine r_start ?_
        refine p 1 ?_
        refine xq rfl (y_load (.bool s1.Two) 2 g1_4 13) ?_
        refine p 1 ?_
        refine xq rfl (y_load (.bool s2.Two) 3 g1_5 13) ?_
        refine p 2 ?_
        refine br (!(s1.Two == s2.Two)) (fun q13 => ?_) (fun q13 => ?_)
        · replace h := H.t q13 h
          refine o_set 57 (congrArg Value.bool q13) ?_
          refine p 6 ?_
          refine rend ?_
          refine c_t (by kernel_rfl) ?_
          refine r_start ?_
          refine p 1 ?_
          refine xx rfl (e_lit (e := (eI .i64)) (el := 3) [.int .i64 4] ([4] : List Int) fun A12_1 k12_1 => ?_)
          obtain ⟨y12_2, hy12_2, h⟩ := H.call h
          refine xx rfl (e_app 5 hy12_2 (s_own 8) fun A12_2 k12_2 => ?_)
          refine p 1 ?_
          refine rend ?_
          refine c_seq ?_
          refine r_start ?_
          refine p 2 ?_
          refine rend ?_
          refine frg (fun u => (jk u 0 4 (.slice A12_2 (List.length y12_2) k12_2 :: (jk u 5 63 [])))) (by kernel_rfl) fun u => ?_
          refine keep 9 (its' := [box g0_0 47 (eSign a0), box g0_1 47 (eSign a1), box g1_4 47 (eSign s1), box g1_5 47 (eSign s2), rowT (eI .i64) w.heap.size 3 (.slice A4_1 (List.length ([0] : List Int)) k4_1) ([0] : List Int), rowT (eI .i64) w.heap.size 3 (.slice A12_2 (List.length y12_2) k12_2) y12_2, rowT (eI .i64) w.heap.size 3 (.slice A6_1 (List.length ([1] : List Int)) k6_1) ([1] : List Int), rowT (eI .i64) w.heap.size 3 (.slice A10_1 (List.length ([3] : List Int)) k10_1) ([3] : List Int), rowT (eI .i64) w.heap.size 3 (.slice A12_1 (List.length ([4] : List Int)) k12_1) ([4] : List Int)]) (by kernel_rfl) ?_
          replace h := H.done h
          subst h
          exact ret func162 rfl (vs := [.slice A12_2 (List.length y12_2) k12_2]) (.tmp (by kernel_rfl) .nil) rfl (fun W S => ⟨_, _, rfl, S.row 5, S.below⟩)
        replace h := H.f q13 h
        refine o_set 57 (congrArg Value.bool q13) ?_
        refine p 1 ?_
        refine xq rfl (y_load (.agg (eHand s1.Other).toArray) 2 g1_4 14) ?_
        refine p 1 ?_
        refine xq rfl (y_load (.agg (eHand s2.Other).toArray) 3 g1_5 14) ?_
        refine p 2 ?_
        refine rend ?_
        refine c_or (!qHand s1.Other s2.Other) (fun q14 => ?_) (fun q14 => ?_)
        · replace h := H.t q14 h
          refine r_start ?_
          refine p 1 ?_
          refine xx rfl (e_lit (e := (eI .i64)) (el := 3) [.int .i64 4] ([4] : List Int) fun A12_1 k12_1 => ?_)
          obtain ⟨y12_2, hy12_2, h⟩ := H.call h
          refine xx rfl (e_app 5 hy12_2 (s_own 8) fun A12_2 k12_2 => ?_)
          refine p 1 ?_
          refine rend ?_
          refine c_seq ?_
          refine r_start ?_
          refine p 2 ?_
          refine rend ?_
          refine frg (fun u => (jk u 0 4 (.slice A12_2 (List.length y12_2) k12_2 :: (jk u 5 63 [])))) (by kernel_rfl) fun u => ?_
          refine keep 9 (its' := [box g0_0 47 (eSign a0), box g0_1 47 (eSign a1), box g1_4 47 (eSign s1), box g1_5 47 (eSign s2), rowT (eI .i64) w.heap.size 3 (.slice A4_1 (List.length ([0] : List Int)) k4_1) ([0] : List Int), rowT (eI .i64) w.heap.size 3 (.slice A12_2 (List.length y12_2) k12_2) y12_2, rowT (eI .i64) w.heap.size 3 (.slice A6_1 (List.length ([1] : List Int)) k6_1) ([1] : List Int), rowT (eI .i64) w.heap.size 3 (.slice A10_1 (List.length ([3] : List Int)) k10_1) ([3] : List Int), rowT (eI .i64) w.heap.size 3 (.slice A12_1 (List.length ([4] : List Int)) k12_1) ([4] : List Int)]) (by kernel_rfl) ?_
          replace h := H.done h
          subst h
          exact ret func162 rfl (vs := [.slice A12_2 (List.length y12_2) k12_2]) (.tmp (by kernel_rfl) .nil) rfl (fun W S => ⟨_, _, rfl, S.row 5, S.below⟩)
        replace h := H.f q14 h
        refine c_skip ?_
        refine c_seq ?_
        refine r_start ?_
        refine p 2 ?_
        refine rend ?_
        replace h := H.done h
        subst h
        exact ret func162 rfl (vs := [.slice A10_2 (List.length y10_2) k10_2]) (.tmp (by kernel_rfl) .nil) rfl (fun W S => ⟨_, _, rfl, S.row 5, S.below⟩)
      replace h := H.f q12 h
      refine c_skip ?_
      refine c_seq ?_
      refine c_seq ?_
      refine r_start ?_
      refine p 1 ?_
      refine xq rfl (y_load (.bool s1.Two) 2 g1_4 13) ?_
      refine p 1 ?_
      refine xq rfl (y_load (.bool s2.Two) 3 g1_5 13) ?_
      refine p 2 ?_
      refine br (!(s1.Two == s2.Two)) (fun q15 => ?_) (fun q15 => ?_)
      · replace h := H.t q15 h
        refine o_set 57 (congrArg Value.bool q15) ?_
        refine p 6 ?_
        refine rend ?_
        refine c_t (by kernel_rfl) ?_
        refine r_start ?_
        refine p 1 ?_
        refine xx rfl (e_lit (e := (eI .i64)) (el := 3) [.int .i64 4] ([4] : List Int) fun A12_1 k12_1 => ?_)
        obtain ⟨y12_2, hy12_2, h⟩ := H.call h
        refine xx rfl (e_app 5 hy12_2 (s_own 7) fun A12_2 k12_2 => ?_)
        refine p 1 ?_
        refine rend ?_
        refine c_seq ?_
        refine r_start ?_
        refine p 2 ?_
        refine rend ?_
        replace h := H.done h
        subst h
        exact ret func162 rfl (vs := [.slice A12_2 (List.length y12_2) k12_2]) (.tmp (by kernel_rfl) .nil) rfl (fun W S => ⟨_, _, rfl, S.row 5, S.below⟩)
      replace h := H.f q15 h
      refine o_set 57 (congrArg Value.bool q15) ?_
      refine p 1 ?_
      refine xq rfl (y_load (.agg (eHand s1.Other).toArray) 2 g1_4 14) ?_
      refine p 1 ?_
      refine xq rfl (y_load (.agg (eHand s2.Other).toArray) 3 g1_5 14) ?_
      refine p 2 ?_
      refine rend ?_
      refine c_or (!qHand s1.Other s2.Other) (fun q16 => ?_) (fun q16 => ?_)
      · replace h := H.t q16 h
        refine r_start ?_
        refine p 1 ?_
        refine xx rfl (e_lit (e := (eI .i64)) (el := 3) [.int .i64 4] ([4] : List Int) fun A12_1 k12_1 => ?_)
        obtain ⟨y12_2, hy12_2, h⟩ := H.call h
        refine xx rfl (e_app 5 hy12_2 (s_own 7) fun A12_2 k12_2 => ?_)
        refine p 1 ?_
        refine rend ?_
        refine c_seq ?_
        refine r_start ?_
        refine p 2 ?_
        refine rend ?_
        replace h := H.done h
        subst h
        exact ret func162 rfl (vs := [.slice A12_2 (List.length y12_2) k12_2]) (.tmp (by kernel_rfl) .nil) rfl (fun W S => ⟨_, _, rfl, S.row 5, S.below⟩)
      replace h := H.f q16 h
      refine c_skip ?_
      refine c_seq ?_
      refine r_start ?_
      refine p 2 ?_
      refine rend ?_
      replace h := H.done h
      subst h
      exact ret func162 rfl (vs := [.slice A6_2 (List.length y6_2) k6_2]) (.tmp (by kernel_rfl) .nil) rfl (fun W S => ⟨_, _, rfl, S.row 5, S.below⟩)
    replace h := H.f q5 h
    refine c_skip ?_
    refine c_seq ?_
    refine c_seq ?_
    refine r_start ?_
    refine p 2 ?_
    refine xq rfl (y_load (.agg (ePlace s1.Main.Place).toArray) 2 g1_4 8) ?_
    refine p 2 ?_
    refine xq rfl (y_load (.agg (ePlace s2.Main.Place).toArray) 3 g1_5 8) ?_
    refine p 1 ?_
    refine rend ?_
    refine c_or (!qPlace s1.Main.Place s2.Main.Place) (fun q17 => ?_) (fun q17 => ?_)
    · replace h := H.t q17 h
      refine r_start ?_
      refine p 1 ?_
      refine xx rfl (e_lit (e := (eI .i64)) (el := 3) [.int .i64 2] ([2] : List Int) fun A8_1 k8_1 => ?_)
      obtain ⟨y8_2, hy8_2, h⟩ := H.call h
      refine xx rfl (e_app 5 hy8_2 (s_own 6) fun A8_2 k8_2 => ?_)
      refine p 1 ?_
      refine rend ?_
      refine c_seq ?_
      refine c_seq ?_
      refine r_start ?_
      refine p 2 ?_
      refine xq rfl (y_load (.agg (eMove s1.Main.Move).toArray) 2 g1_4 11) ?_
      refine p 2 ?_
      refine xq rfl (y_load (.agg (eMove s2.Main.Move).toArray) 3 g1_5 11) ?_
      refine p 1 ?_
      refine rend ?_
      refine c_or (!qMove s1.Main.Move s2.Main.Move) (fun q18 => ?_) (fun q18 => ?_)
      · replace h := H.t q18 h
        refine r_start ?_
        refine p 1 ?_
        refine xx rfl (e_lit (e := (eI .i64)) (el := 3) [.int .i64 3] ([3] : List Int) fun A10_1 k10_1 => ?_)
        obtain ⟨y10_2, hy10_2, h⟩ := H.call h
        refine xx rfl (e_app 5 hy10_2 (s_own 7) fun A10_2 k10_2 => ?_)
        refine p 1 ?_
        refine rend ?_
        refine c_seq ?_
        refine c_seq ?_
        refine r_start ?_
        refine p 1 ?_
        refine xq rfl (y_load (.bool s1.Two) 2 g1_4 13) ?_
        refine p 1 ?_
        refine xq rfl (y_load (.bool s2.Two) 3 g1_5 13) ?_
        refine p 2 ?_
        refine br (!(s1.Two == s2.Two)) (fun q19 => ?_) (fun q19 => ?_)
        · replace h := H.t q19 h
          refine o_set 57 (congrArg Value.bool q19) ?_
          refine p 6 ?_
          refine rend ?_
          refine c_t (by kernel_rfl) ?_
          refine r_start ?_
          refine p 1 ?_
          refine xx rfl (e_lit (e := (eI .i64)) (el := 3) [.int .i64 4] ([4] : List Int) fun A12_1 k12_1 => ?_)
          obtain ⟨y12_2, hy12_2, h⟩ := H.call h
          refine xx rfl (e_app 5 hy12_2 (s_own 8) fun A12_2 k12_2 => ?_)
          refine p 1 ?_
          refine rend ?_
          refine c_seq ?_
          refine r_start ?_
          refine p 2 ?_
          refine rend ?_
          refine frg (fun u => (jk u 0 4 (.slice A12_2 (List.length y12_2) k12_2 :: (jk u 5 63 [])))) (by kernel_rfl) fun u => ?_
          refine keep 9 (its' := [box g0_0 47 (eSign a0), box g0_1 47 (eSign a1), box g1_4 47 (eSign s1), box g1_5 47 (eSign s2), rowT (eI .i64) w.heap.size 3 (.slice A4_1 (List.length ([0] : List Int)) k4_1) ([0] : List Int), rowT (eI .i64) w.heap.size 3 (.slice A12_2 (List.length y12_2) k12_2) y12_2, rowT (eI .i64) w.heap.size 3 (.slice A8_1 (List.length ([2] : List Int)) k8_1) ([2] : List Int), rowT (eI .i64) w.heap.size 3 (.slice A10_1 (List.length ([3] : List Int)) k10_1) ([3] : List Int), rowT (eI .i64) w.heap.size 3 (.slice A12_1 (List.length ([4] : List Int)) k12_1) ([4] : List Int)]) (by kernel_rfl) ?_
          replace h := H.done h
          subst h
          exact ret func162 rfl (vs := [.slice A12_2 (List.length y12_2) k12_2]) (.tmp (by kernel_rfl) .nil) rfl (fun W S => ⟨_, _, rfl, S.row 5, S.below⟩)
        replace h := H.f q19 h
        refine o_set 57 (congrArg Value.bool q19) ?_
        refine p 1 ?_
        refine xq rfl (y_load (.agg (eHand s1.Other).toArray) 2 g1_4 14) ?_
        refine p 1 ?_
        refine xq rfl (y_load (.agg (eHand s2.Other).toArray) 3 g1_5 14) ?_
        refine p 2 ?_
        refine rend ?_
        refine c_or (!qHand s1.Other s2.Other) (fun q20 => ?_) (fun q20 => ?_)
        · replace h := H.t q20 h
          refine r_start ?_
          refine p 1 ?_
          refine xx rfl (e_lit (e := (eI .i64)) (el := 3) [.int .i64 4] ([4] : List Int) fun A12_1 k12_1 => ?_)
          obtain ⟨y12_2, hy12_2, h⟩ := H.call h
          refine xx rfl (e_app 5 hy12_2 (s_own 8) fun A12_2 k12_2 => ?_)
          refine p 1 ?_
          refine rend ?_
          refine c_seq ?_
          refine r_start ?_
          refine p 2 ?_
          refine rend ?_
          refine frg (fun u => (jk u 0 4 (.slice A12_2 (List.length y12_2) k12_2 :: (jk u 5 63 [])))) (by kernel_rfl) fun u => ?_
          refine keep 9 (its' := [box g0_0 47 (eSign a0), box g0_1 47 (eSign a1), box g1_4 47 (eSign s1), box g1_5 47 (eSign s2), rowT (eI .i64) w.heap.size 3 (.slice A4_1 (List.length ([0] : List Int)) k4_1) ([0] : List Int), rowT (eI .i64) w.heap.size 3 (.slice A12_2 (List.length y12_2) k12_2) y12_2, rowT (eI .i64) w.heap.size 3 (.slice A8_1 (List.length ([2] : List Int)) k8_1) ([2] : List Int), rowT (eI .i64) w.heap.size 3 (.slice A10_1 (List.length ([3] : List Int)) k10_1) ([3] : List Int), rowT (eI .i64) w.heap.size 3 (.slice A12_1 (List.length ([4] : List Int)) k12_1) ([4] : List Int)]) (by kernel_rfl) ?_
          replace h := H.done h
          subst h
          exact ret func162 rfl (vs := [.slice A12_2 (List.length y12_2) k12_2]) (.tmp (by kernel_rfl) .nil) rfl (fun W S => ⟨_, _, rfl, S.row 5, S.below⟩)
        replace h := H.f q20 h
        refine c_skip ?_
        refine c_seq ?_
        refine r_start ?_
        refine p 2 ?_
        refine rend ?_
        replace h := H.done h
        subst h
        exact ret func162 rfl (vs := [.slice A10_2 (List.length y10_2) k10_2]) (.tmp (by kernel_rfl) .nil) rfl (fun W S => ⟨_, _, rfl, S.row 5, S.below⟩)
      replace h := H.f q18 h
      refine c_skip ?_
      refine c_seq ?_
      refine c_seq ?_
      refine r_start ?_
      refine p 1 ?_
      refine xq rfl (y_load (.bool s1.Two) 2 g1_4 13) ?_
      refine p 1 ?_
      refine xq rfl (y_load (.bool s2.Two) 3 g1_5 13) ?_
      refine p 2 ?_
      refine br (!(s1.Two == s2.Two)) (fun q21 => ?_) (fun q21 => ?_)
      · replace h := H.t q21 h
        refine o_set 57 (congrArg Value.bool q21) ?_
        refine p 6 ?_
        refine rend ?_
        refine c_t (by kernel_rfl) ?_
        refine r_start ?_
        refine p 1 ?_
        refine xx rfl (e_lit (e := (eI .i64)) (el := 3) [.int .i64 4] ([4] : List Int) fun A12_1 k12_1 => ?_)
        obtain ⟨y12_2, hy12_2, h⟩ := H.call h
        refine xx rfl (e_app 5 hy12_2 (s_own 7) fun A12_2 k12_2 => ?_)
        refine p 1 ?_
        refine rend ?_
        refine c_seq ?_
        refine r_start ?_
        refine p 2 ?_
        refine rend ?_
        replace h := H.done h
        subst h
        exact ret func162 rfl (vs := [.slice A12_2 (List.length y12_2) k12_2]) (.tmp (by kernel_rfl) .nil) rfl (fun W S => ⟨_, _, rfl, S.row 5, S.below⟩)
      replace h := H.f q21 h
      refine o_set 57 (congrArg Value.bool q21) ?_
      refine p 1 ?_
      refine xq rfl (y_load (.agg (eHand s1.Other).toArray) 2 g1_4 14) ?_
      refine p 1 ?_
      refine xq rfl (y_load (.agg (eHand s2.Other).toArray) 3 g1_5 14) ?_
      refine p 2 ?_
      refine rend ?_
      refine c_or (!qHand s1.Other s2.Other) (fun q22 => ?_) (fun q22 => ?_)
      · replace h := H.t q22 h
        refine r_start ?_
        refine p 1 ?_
        refine xx rfl (e_lit (e := (eI .i64)) (el := 3) [.int .i64 4] ([4] : List Int) fun A12_1 k12_1 => ?_)
        obtain ⟨y12_2, hy12_2, h⟩ := H.call h
        refine xx rfl (e_app 5 hy12_2 (s_own 7) fun A12_2 k12_2 => ?_)
        refine p 1 ?_
        refine rend ?_
        refine c_seq ?_
        refine r_start ?_
        refine p 2 ?_
        refine rend ?_
        replace h := H.done h
        subst h
        exact ret func162 rfl (vs := [.slice A12_2 (List.length y12_2) k12_2]) (.tmp (by kernel_rfl) .nil) rfl (fun W S => ⟨_, _, rfl, S.row 5, S.below⟩)
      replace h := H.f q22 h
      refine c_skip ?_
      refine c_seq ?_
      refine r_start ?_
      refine p 2 ?_
      refine rend ?_
      replace h := H.done h
      subst h
      exact ret func162 rfl (vs := [.slice A8_2 (List.length y8_2) k8_2]) (.tmp (by kernel_rfl) .nil) rfl (fun W S => ⟨_, _, rfl, S.row 5, S.below⟩)
    replace h := H.f q17 h
    refine c_skip ?_
    refine c_seq ?_
    refine c_seq ?_
    refine r_start ?_
    refine p 2 ?_
    refine xq rfl (y_load (.agg (eMove s1.Main.Move).toArray) 2 g1_4 11) ?_
    refine p 2 ?_
    refine xq rfl (y_load (.agg (eMove s2.Main.Move).toArray) 3 g1_5 11) ?_
    refine p 1 ?_
    refine rend ?_
    refine c_or (!qMove s1.Main.Move s2.Main.Move) (fun q23 => ?_) (fun q23 => ?_)
    · replace h := H.t q23 h
      refine r_start ?_
      refine p 1 ?_
      refine xx rfl (e_lit (e := (eI .i64)) (el := 3) [.int .i64 3] ([3] : List Int) fun A10_1 k10_1 => ?_)
      obtain ⟨y10_2, hy10_2, h⟩ := H.call h
      refine xx rfl (e_app 5 hy10_2 (s_own 6) fun A10_2 k10_2 => ?_)
      refine p 1 ?_
      refine rend ?_
      refine c_seq ?_
      refine c_seq ?_
      refine r_start ?_
      refine p 1 ?_
      refine xq rfl (y_load (.bool s1.Two) 2 g1_4 13) ?_
      refine p 1 ?_
      refine xq rfl (y_load (.bool s2.Two) 3 g1_5 13) ?_
      refine p 2 ?_
      refine br (!(s1.Two == s2.Two)) (fun q24 => ?_) (fun q24 => ?_)
      · replace h := H.t q24 h
        refine o_set 57 (congrArg Value.bool q24) ?_
        refine p 6 ?_
        refine rend ?_
        refine c_t (by kernel_rfl) ?_
        refine r_start ?_
        refine p 1 ?_
        refine xx rfl (e_lit (e := (eI .i64)) (el := 3) [.int .i64 4] ([4] : List Int) fun A12_1 k12_1 => ?_)
        obtain ⟨y12_2, hy12_2, h⟩ := H.call h
        refine xx rfl (e_app 5 hy12_2 (s_own 7) fun A12_2 k12_2 => ?_)
        refine p 1 ?_
        refine rend ?_
        refine c_seq ?_
        refine r_start ?_
        refine p 2 ?_
        refine rend ?_
        replace h := H.done h
        subst h
        exact ret func162 rfl (vs := [.slice A12_2 (List.length y12_2) k12_2]) (.tmp (by kernel_rfl) .nil) rfl (fun W S => ⟨_, _, rfl, S.row 5, S.below⟩)
      replace h := H.f q24 h
      refine o_set 57 (congrArg Value.bool q24) ?_
      refine p 1 ?_
      refine xq rfl (y_load (.agg (eHand s1.Other).toArray) 2 g1_4 14) ?_
      refine p 1 ?_
      refine xq rfl (y_load (.agg (eHand s2.Other).toArray) 3 g1_5 14) ?_
      refine p 2 ?_
      refine rend ?_
      refine c_or (!qHand s1.Other s2.Other) (fun q25 => ?_) (fun q25 => ?_)
      · replace h := H.t q25 h
        refine r_start ?_
        refine p 1 ?_
        refine xx rfl (e_lit (e := (eI .i64)) (el := 3) [.int .i64 4] ([4] : List Int) fun A12_1 k12_1 => ?_)
        obtain ⟨y12_2, hy12_2, h⟩ := H.call h
        refine xx rfl (e_app 5 hy12_2 (s_own 7) fun A12_2 k12_2 => ?_)
        refine p 1 ?_
        refine rend ?_
        refine c_seq ?_
        refine r_start ?_
        refine p 2 ?_
        refine rend ?_
        replace h := H.done h
        subst h
        exact ret func162 rfl (vs := [.slice A12_2 (List.length y12_2) k12_2]) (.tmp (by kernel_rfl) .nil) rfl (fun W S => ⟨_, _, rfl, S.row 5, S.below⟩)
      replace h := H.f q25 h
      refine c_skip ?_
      refine c_seq ?_
      refine r_start ?_
      refine p 2 ?_
      refine rend ?_
      replace h := H.done h
      subst h
      exact ret func162 rfl (vs := [.slice A10_2 (List.length y10_2) k10_2]) (.tmp (by kernel_rfl) .nil) rfl (fun W S => ⟨_, _, rfl, S.row 5, S.below⟩)
    replace h := H.f q23 h
    refine c_skip ?_
    refine c_seq ?_
    refine c_seq ?_
    refine r_start ?_
    refine p 1 ?_
    refine xq rfl (y_load (.bool s1.Two) 2 g1_4 13) ?_
    refine p 1 ?_
    refine xq rfl (y_load (.bool s2.Two) 3 g1_5 13) ?_
    refine p 2 ?_
    refine br (!(s1.Two == s2.Two)) (fun q26 => ?_) (fun q26 => ?_)
    · replace h := H.t q26 h
      refine o_set 57 (congrArg Value.bool q26) ?_
      refine p 6 ?_
      refine rend ?_
      refine c_t (by kernel_rfl) ?_
      refine r_start ?_
      refine p 1 ?_
      refine xx rfl (e_lit (e := (eI .i64)) (el := 3) [.int .i64 4] ([4] : List Int) fun A12_1 k12_1 => ?_)
      obtain ⟨y12_2, hy12_2, h⟩ := H.call h
      refine xx rfl (e_app 5 hy12_2 (s_own 6) fun A12_2 k12_2 => ?_)
      refine p 1 ?_
      refine rend ?_
      refine c_seq ?_
      refine r_start ?_
      refine p 2 ?_
      refine rend ?_
      replace h := H.done h
      subst h
      exact ret func162 rfl (vs := [.slice A12_2 (List.length y12_2) k12_2]) (.tmp (by kernel_rfl) .nil) rfl (fun W S => ⟨_, _, rfl, S.row 5, S.below⟩)
    replace h := H.f q26 h
    refine o_set 57 (congrArg Value.bool q26) ?_
    refine p 1 ?_
    refine xq rfl (y_load (.agg (eHand s1.Other).toArray) 2 g1_4 14) ?_
    refine p 1 ?_
    refine xq rfl (y_load (.agg (eHand s2.Other).toArray) 3 g1_5 14) ?_
    refine p 2 ?_
    refine rend ?_
    refine c_or (!qHand s1.Other s2.Other) (fun q27 => ?_) (fun q27 => ?_)
    · replace h := H.t q27 h
      refine r_start ?_
      refine p 1 ?_
      refine xx rfl (e_lit (e := (eI .i64)) (el := 3) [.int .i64 4] ([4] : List Int) fun A12_1 k12_1 => ?_)
      obtain ⟨y12_2, hy12_2, h⟩ := H.call h
      refine xx rfl (e_app 5 hy12_2 (s_own 6) fun A12_2 k12_2 => ?_)
      refine p 1 ?_
      refine rend ?_
      refine c_seq ?_
      refine r_start ?_
      refine p 2 ?_
      refine rend ?_
      replace h := H.done h
      subst h
      exact ret func162 rfl (vs := [.slice A12_2 (List.length y12_2) k12_2]) (.tmp (by kernel_rfl) .nil) rfl (fun W S => ⟨_, _, rfl, S.row 5, S.below⟩)
    replace h := H.f q27 h
    refine c_skip ?_
    refine c_seq ?_
    refine r_start ?_
    refine p 2 ?_
    refine rend ?_
    replace h := H.done h
    subst h
    exact ret func162 rfl (vs := [.slice A4_2 (List.length y4_2) k4_2]) (.tmp (by kernel_rfl) .nil) rfl (fun W S => ⟨_, _, rfl, S.row 5, S.below⟩)
  replace h := H.f q4 h
  refine c_skip ?_
  refine c_seq ?_
  refine c_seq ?_
  refine r_start ?_
  refine p 2 ?_
  refine xq rfl (y_load (.agg (eOrient s1.Main.Orient).toArray) 2 g1_4 6) ?_
  refine p 2 ?_
  refine xq rfl (y_load (.agg (eOrient s2.Main.Orient).toArray) 3 g1_5 6) ?_
  refine p 1 ?_
  refine rend ?_
  refine c_or (!qOrient s1.Main.Orient s2.Main.Orient) (fun q28 => ?_) (fun q28 => ?_)
  · replace h := H.t q28 h
    refine r_start ?_
    refine p 1 ?_
    refine xx rfl (e_lit (e := (eI .i64)) (el := 3) [.int .i64 1] ([1] : List Int) fun A6_1 k6_1 => ?_)
    refine o_nil (eI .i64) 3 ?_
    obtain ⟨y6_2, hy6_2, h⟩ := H.call h
    refine xx rfl (e_app 5 hy6_2 (s_own 4) fun A6_2 k6_2 => ?_)
    refine p 1 ?_
    refine rend ?_
    refine c_seq ?_
    refine c_seq ?_
    refine r_start ?_
    refine p 2 ?_
    refine xq rfl (y_load (.agg (ePlace s1.Main.Place).toArray) 2 g1_4 8) ?_
    refine p 2 ?_
    refine xq rfl (y_load (.agg (ePlace s2.Main.Place).toArray) 3 g1_5 8) ?_
    refine p 1 ?_
    refine rend ?_
    refine c_or (!qPlace s1.Main.Place s2.Main.Place) (fun q29 => ?_) (fun q29 => ?_)
    · replace h := H.t q29 h
      refine r_start ?_
      refine p 1 ?_
      refine xx rfl (e_lit (e := (eI .i64)) (el := 3) [.int .i64 2] ([2] : List Int) fun A8_1 k8_1 => ?_)
      obtain ⟨y8_2, hy8_2, h⟩ := H.call h
      refine xx rfl (e_app 5 hy8_2 (s_own 6) fun A8_2 k8_2 => ?_)
      refine p 1 ?_
      refine rend ?_
      refine c_seq ?_
      refine c_seq ?_
      refine r_start ?_
      refine p 2 ?_
      refine xq rfl (y_load (.agg (eMove s1.Main.Move).toArray) 2 g1_4 11) ?_
      refine p 2 ?_
      refine xq rfl (y_load (.agg (eMove s2.Main.Move).toArray) 3 g1_5 11) ?_
      refine p 1 ?_
      refine rend ?_
      refine c_or (!qMove s1.Main.Move s2.Main.Move) (fun q30 => ?_) (fun q30 => ?_)
      · replace h := H.t q30 h
        refine r_start ?_
        refine p 1 ?_
        refine xx rfl (e_lit (e := (eI .i64)) (el := 3) [.int .i64 3] ([3] : List Int) fun A10_1 k10_1 => ?_)
        obtain ⟨y10_2, hy10_2, h⟩ := H.call h
        refine xx rfl (e_app 5 hy10_2 (s_own 7) fun A10_2 k10_2 => ?_)
        refine p 1 ?_
        refine rend ?_
        refine c_seq ?_
        refine c_seq ?_
        refine r_start ?_
        refine p 1 ?_
        refine xq rfl (y_load (.bool s1.Two) 2 g1_4 13) ?_
        refine p 1 ?_
        refine xq rfl (y_load (.bool s2.Two) 3 g1_5 13) ?_
        refine p 2 ?_
        refine br (!(s1.Two == s2.Two)) (fun q31 => ?_) (fun q31 => ?_)
        · replace h := H.t q31 h
          refine o_set 57 (congrArg Value.bool q31) ?_
          refine p 6 ?_
          refine rend ?_
          refine c_t (by kernel_rfl) ?_
          refine r_start ?_
          refine p 1 ?_
          refine xx rfl (e_lit (e := (eI .i64)) (el := 3) [.int .i64 4] ([4] : List Int) fun A12_1 k12_1 => ?_)
          obtain ⟨y12_2, hy12_2, h⟩ := H.call h
          refine xx rfl (e_app 5 hy12_2 (s_own 8) fun A12_2 k12_2 => ?_)
          refine p 1 ?_
          refine rend ?_
          refine c_seq ?_
          refine r_start ?_
          refine p 2 ?_
          refine rend ?_
          refine frg (fun u => (jk u 0 4 (.slice A12_2 (List.length y12_2) k12_2 :: (jk u 5 63 [])))) (by kernel_rfl) fun u => ?_
          refine keep 9 (its' := [box g0_0 47 (eSign a0), box g0_1 47 (eSign a1), box g1_4 47 (eSign s1), box g1_5 47 (eSign s2), rowT (eI .i64) w.heap.size 3 (.slice A6_1 (List.length ([1] : List Int)) k6_1) ([1] : List Int), rowT (eI .i64) w.heap.size 3 (.slice A12_2 (List.length y12_2) k12_2) y12_2, rowT (eI .i64) w.heap.size 3 (.slice A8_1 (List.length ([2] : List Int)) k8_1) ([2] : List Int), rowT (eI .i64) w.heap.size 3 (.slice A10_1 (List.length ([3] : List Int)) k10_1) ([3] : List Int), rowT (eI .i64) w.heap.size 3 (.slice A12_1 (List.length ([4] : List Int)) k12_1) ([4] : List Int)]) (by kernel_rfl) ?_
          replace h := H.done h
          subst h
          exact ret func162 rfl (vs := [.slice A12_2 (List.length y12_2) k12_2]) (.tmp (by kernel_rfl) .nil) rfl (fun W S => ⟨_, _, rfl, S.row 5, S.below⟩)
        replace h := H.f q31 h
        refine o_set 57 (congrArg Value.bool q31) ?_
        refine p 1 ?_
        refine xq rfl (y_load (.agg (eHand s1.Other).toArray) 2 g1_4 14) ?_
        refine p 1 ?_
        refine xq rfl (y_load (.agg (eHand s2.Other).toArray) 3 g1_5 14) ?_
        refine p 2 ?_
        refine rend ?_
        refine c_or (!qHand s1.Other s2.Other) (fun q32 => ?_) (fun q32 => ?_)
        · replace h := H.t q32 h
          refine r_start ?_
          refine p 1 ?_
          refine xx rfl (e_lit (e := (eI .i64)) (el := 3) [.int .i64 4] ([4] : List Int) fun A12_1 k12_1 => ?_)
          obtain ⟨y12_2, hy12_2, h⟩ := H.call h
          refine xx rfl (e_app 5 hy12_2 (s_own 8) fun A12_2 k12_2 => ?_)
          refine p 1 ?_
          refine rend ?_
          refine c_seq ?_
          refine r_start ?_
          refine p 2 ?_
          refine rend ?_
          refine frg (fun u => (jk u 0 4 (.slice A12_2 (List.length y12_2) k12_2 :: (jk u 5 63 [])))) (by kernel_rfl) fun u => ?_
          refine keep 9 (its' := [box g0_0 47 (eSign a0), box g0_1 47 (eSign a1), box g1_4 47 (eSign s1), box g1_5 47 (eSign s2), rowT (eI .i64) w.heap.size 3 (.slice A6_1 (List.length ([1] : List Int)) k6_1) ([1] : List Int), rowT (eI .i64) w.heap.size 3 (.slice A12_2 (List.length y12_2) k12_2) y12_2, rowT (eI .i64) w.heap.size 3 (.slice A8_1 (List.length ([2] : List Int)) k8_1) ([2] : List Int), rowT (eI .i64) w.heap.size 3 (.slice A10_1 (List.length ([3] : List Int)) k10_1) ([3] : List Int), rowT (eI .i64) w.heap.size 3 (.slice A12_1 (List.length ([4] : List Int)) k12_1) ([4] : List Int)]) (by kernel_rfl) ?_
          replace h := H.done h
          subst h
          exact ret func162 rfl (vs := [.slice A12_2 (List.length y12_2) k12_2]) (.tmp (by kernel_rfl) .nil) rfl (fun W S => ⟨_, _, rfl, S.row 5, S.below⟩)
        replace h := H.f q32 h
        refine c_skip ?_
        refine c_seq ?_
        refine r_start ?_
        refine p 2 ?_
        refine rend ?_
        replace h := H.done h
        subst h
        exact ret func162 rfl (vs := [.slice A10_2 (List.length y10_2) k10_2]) (.tmp (by kernel_rfl) .nil) rfl (fun W S => ⟨_, _, rfl, S.row 5, S.below⟩)
      replace h := H.f q30 h
      refine c_skip ?_
      refine c_seq ?_
      refine c_seq ?_
      refine r_start ?_
      refine p 1 ?_
      refine xq rfl (y_load (.bool s1.Two) 2 g1_4 13) ?_
      refine p 1 ?_
      refine xq rfl (y_load (.bool s2.Two) 3 g1_5 13) ?_
      refine p 2 ?_
      refine br (!(s1.Two == s2.Two)) (fun q33 => ?_) (fun q33 => ?_)
      · replace h := H.t q33 h
        refine o_set 57 (congrArg Value.bool q33) ?_
        refine p 6 ?_
        refine rend ?_
        refine c_t (by kernel_rfl) ?_
        refine r_start ?_
        refine p 1 ?_
        refine xx rfl (e_lit (e := (eI .i64)) (el := 3) [.int .i64 4] ([4] : List Int) fun A12_1 k12_1 => ?_)
        obtain ⟨y12_2, hy12_2, h⟩ := H.call h
        refine xx rfl (e_app 5 hy12_2 (s_own 7) fun A12_2 k12_2 => ?_)
        refine p 1 ?_
        refine rend ?_
        refine c_seq ?_
        refine r_start ?_
        refine p 2 ?_
        refine rend ?_
        replace h := H.done h
        subst h
        exact ret func162 rfl (vs := [.slice A12_2 (List.length y12_2) k12_2]) (.tmp (by kernel_rfl) .nil) rfl (fun W S => ⟨_, _, rfl, S.row 5, S.below⟩)
      replace h := H.f q33 h
      refine o_set 57 (congrArg Value.bool q33) ?_
      refine p 1 ?_
      refine xq rfl (y_load (.agg (eHand s1.Other).toArray) 2 g1_4 14) ?_
      refine p 1 ?_
      refine xq rfl (y_load (.agg (eHand s2.Other).toArray) 3 g1_5 14) ?_
      refine p 2 ?_
      refine rend ?_
      refine c_or (!qHand s1.Other s2.Other) (fun q34 => ?_) (fun q34 => ?_)
      · replace h := H.t q34 h
        refine r_start ?_
        refine p 1 ?_
        refine xx rfl (e_lit (e := (eI .i64)) (el := 3) [.int .i64 4] ([4] : List Int) fun A12_1 k12_1 => ?_)
        obtain ⟨y12_2, hy12_2, h⟩ := H.call h
        refine xx rfl (e_app 5 hy12_2 (s_own 7) fun A12_2 k12_2 => ?_)
        refine p 1 ?_
        refine rend ?_
        refine c_seq ?_
        refine r_start ?_
        refine p 2 ?_
        refine rend ?_
        replace h := H.done h
        subst h
        exact ret func162 rfl (vs := [.slice A12_2 (List.length y12_2) k12_2]) (.tmp (by kernel_rfl) .nil) rfl (fun W S => ⟨_, _, rfl, S.row 5, S.below⟩)
      replace h := H.f q34 h
      refine c_skip ?_
      refine c_seq ?_
      refine r_start ?_
      refine p 2 ?_
      refine rend ?_
      replace h := H.done h
      subst h
      exact ret func162 rfl (vs := [.slice A8_2 (List.length y8_2) k8_2]) (.tmp (by kernel_rfl) .nil) rfl (fun W S => ⟨_, _, rfl, S.row 5, S.below⟩)
    replace h := H.f q29 h
    refine c_skip ?_
    refine c_seq ?_
    refine c_seq ?_
    refine r_start ?_
    refine p 2 ?_
    refine xq rfl (y_load (.agg (eMove s1.Main.Move).toArray) 2 g1_4 11) ?_
    refine p 2 ?_
    refine xq rfl (y_load (.agg (eMove s2.Main.Move).toArray) 3 g1_5 11) ?_
    refine p 1 ?_
    refine rend ?_
    refine c_or (!qMove s1.Main.Move s2.Main.Move) (fun q35 => ?_) (fun q35 => ?_)
    · replace h := H.t q35 h
      refine r_start ?_
      refine p 1 ?_
      refine xx rfl (e_lit (e := (eI .i64)) (el := 3) [.int .i64 3] ([3] : List Int) fun A10_1 k10_1 => ?_)
      obtain ⟨y10_2, hy10_2, h⟩ := H.call h
      refine xx rfl (e_app 5 hy10_2 (s_own 6) fun A10_2 k10_2 => ?_)
      refine p 1 ?_
      refine rend ?_
      refine c_seq ?_
      refine c_seq ?_
      refine r_start ?_
      refine p 1 ?_
      refine xq rfl (y_load (.bool s1.Two) 2 g1_4 13) ?_
      refine p 1 ?_
      refine xq rfl (y_load (.bool s2.Two) 3 g1_5 13) ?_
      refine p 2 ?_
      refine br (!(s1.Two == s2.Two)) (fun q36 => ?_) (fun q36 => ?_)
      · replace h := H.t q36 h
        refine o_set 57 (congrArg Value.bool q36) ?_
        refine p 6 ?_
        refine rend ?_
        refine c_t (by kernel_rfl) ?_
        refine r_start ?_
        refine p 1 ?_
        refine xx rfl (e_lit (e := (eI .i64)) (el := 3) [.int .i64 4] ([4] : List Int) fun A12_1 k12_1 => ?_)
        obtain ⟨y12_2, hy12_2, h⟩ := H.call h
        refine xx rfl (e_app 5 hy12_2 (s_own 7) fun A12_2 k12_2 => ?_)
        refine p 1 ?_
        refine rend ?_
        refine c_seq ?_
        refine r_start ?_
        refine p 2 ?_
        refine rend ?_
        replace h := H.done h
        subst h
        exact ret func162 rfl (vs := [.slice A12_2 (List.length y12_2) k12_2]) (.tmp (by kernel_rfl) .nil) rfl (fun W S => ⟨_, _, rfl, S.row 5, S.below⟩)
      replace h := H.f q36 h
      refine o_set 57 (congrArg Value.bool q36) ?_
      refine p 1 ?_
      refine xq rfl (y_load (.agg (eHand s1.Other).toArray) 2 g1_4 14) ?_
      refine p 1 ?_
      refine xq rfl (y_load (.agg (eHand s2.Other).toArray) 3 g1_5 14) ?_
      refine p 2 ?_
      refine rend ?_
      refine c_or (!qHand s1.Other s2.Other) (fun q37 => ?_) (fun q37 => ?_)
      · replace h := H.t q37 h
        refine r_start ?_
        refine p 1 ?_
        refine xx rfl (e_lit (e := (eI .i64)) (el := 3) [.int .i64 4] ([4] : List Int) fun A12_1 k12_1 => ?_)
        obtain ⟨y12_2, hy12_2, h⟩ := H.call h
        refine xx rfl (e_app 5 hy12_2 (s_own 7) fun A12_2 k12_2 => ?_)
        refine p 1 ?_
        refine rend ?_
        refine c_seq ?_
        refine r_start ?_
        refine p 2 ?_
        refine rend ?_
        replace h := H.done h
        subst h
        exact ret func162 rfl (vs := [.slice A12_2 (List.length y12_2) k12_2]) (.tmp (by kernel_rfl) .nil) rfl (fun W S => ⟨_, _, rfl, S.row 5, S.below⟩)
      replace h := H.f q37 h
      refine c_skip ?_
      refine c_seq ?_
      refine r_start ?_
      refine p 2 ?_
      refine rend ?_
      replace h := H.done h
      subst h
      exact ret func162 rfl (vs := [.slice A10_2 (List.length y10_2) k10_2]) (.tmp (by kernel_rfl) .nil) rfl (fun W S => ⟨_, _, rfl, S.row 5, S.below⟩)
    replace h := H.f q35 h
    refine c_skip ?_
    refine c_seq ?_
    refine c_seq ?_
    refine r_start ?_
    refine p 1 ?_
    refine xq rfl (y_load (.bool s1.Two) 2 g1_4 13) ?_
    refine p 1 ?_
    refine xq rfl (y_load (.bool s2.Two) 3 g1_5 13) ?_
    refine p 2 ?_
    refine br (!(s1.Two == s2.Two)) (fun q38 => ?_) (fun q38 => ?_)
    · replace h := H.t q38 h
      refine o_set 57 (congrArg Value.bool q38) ?_
      refine p 6 ?_
      refine rend ?_
      refine c_t (by kernel_rfl) ?_
      refine r_start ?_
      refine p 1 ?_
      refine xx rfl (e_lit (e := (eI .i64)) (el := 3) [.int .i64 4] ([4] : List Int) fun A12_1 k12_1 => ?_)
      obtain ⟨y12_2, hy12_2, h⟩ := H.call h
      refine xx rfl (e_app 5 hy12_2 (s_own 6) fun A12_2 k12_2 => ?_)
      refine p 1 ?_
      refine rend ?_
      refine c_seq ?_
      refine r_start ?_
      refine p 2 ?_
      refine rend ?_
      replace h := H.done h
      subst h
      exact ret func162 rfl (vs := [.slice A12_2 (List.length y12_2) k12_2]) (.tmp (by kernel_rfl) .nil) rfl (fun W S => ⟨_, _, rfl, S.row 5, S.below⟩)
    replace h := H.f q38 h
    refine o_set 57 (congrArg Value.bool q38) ?_
    refine p 1 ?_
    refine xq rfl (y_load (.agg (eHand s1.Other).toArray) 2 g1_4 14) ?_
    refine p 1 ?_
    refine xq rfl (y_load (.agg (eHand s2.Other).toArray) 3 g1_5 14) ?_
    refine p 2 ?_
    refine rend ?_
    refine c_or (!qHand s1.Other s2.Other) (fun q39 => ?_) (fun q39 => ?_)
    · replace h := H.t q39 h
      refine r_start ?_
      refine p 1 ?_
      refine xx rfl (e_lit (e := (eI .i64)) (el := 3) [.int .i64 4] ([4] : List Int) fun A12_1 k12_1 => ?_)
      obtain ⟨y12_2, hy12_2, h⟩ := H.call h
      refine xx rfl (e_app 5 hy12_2 (s_own 6) fun A12_2 k12_2 => ?_)
      refine p 1 ?_
      refine rend ?_
      refine c_seq ?_
      refine r_start ?_
      refine p 2 ?_
      refine rend ?_
      replace h := H.done h
      subst h
      exact ret func162 rfl (vs := [.slice A12_2 (List.length y12_2) k12_2]) (.tmp (by kernel_rfl) .nil) rfl (fun W S => ⟨_, _, rfl, S.row 5, S.below⟩)
    replace h := H.f q39 h
    refine c_skip ?_
    refine c_seq ?_
    refine r_start ?_
    refine p 2 ?_
    refine rend ?_
    replace h := H.done h
    subst h
    exact ret func162 rfl (vs := [.slice A6_2 (List.length y6_2) k6_2]) (.tmp (by kernel_rfl) .nil) rfl (fun W S => ⟨_, _, rfl, S.row 5, S.below⟩)
  replace h := H.f q28 h
  refine c_skip ?_
  refine c_seq ?_
  refine c_seq ?_
  refine r_start ?_
  refine p 2 ?_
  refine xq rfl (y_load (.agg (ePlace s1.Main.Place).toArray) 2 g1_4 8) ?_
  refine p 2 ?_
  refine xq rfl (y_load (.agg (ePlace s2.Main.Place).toArray) 3 g1_5 8) ?_
  refine p 1 ?_
  refine rend ?_
  refine c_or (!qPlace s1.Main.Place s2.Main.Place) (fun q40 => ?_) (fun q40 => ?_)
  · replace h := H.t q40 h
    refine r_start ?_
    refine p 1 ?_
    refine xx rfl (e_lit (e := (eI .i64)) (el := 3) [.int .i64 2] ([2] : List Int) fun A8_1 k8_1 => ?_)
    refine o_nil (eI .i64) 3 ?_
    obtain ⟨y8_2, hy8_2, h⟩ := H.call h
    refine xx rfl (e_app 5 hy8_2 (s_own 4) fun A8_2 k8_2 => ?_)
    refine p 1 ?_
    refine rend ?_
    refine c_seq ?_
    refine c_seq ?_
    refine r_start ?_
    refine p 2 ?_
    refine xq rfl (y_load (.agg (eMove s1.Main.Move).toArray) 2 g1_4 11) ?_
    refine p 2 ?_
    refine xq rfl (y_load (.agg (eMove s2.Main.Move).toArray) 3 g1_5 11) ?_
    refine p 1 ?_
    refine rend ?_
    refine c_or (!qMove s1.Main.Move s2.Main.Move) (fun q41 => ?_) (fun q41 => ?_)
    · replace h := H.t q41 h
      refine r_start ?_
      refine p 1 ?_
      refine xx rfl (e_lit (e := (eI .i64)) (el := 3) [.int .i64 3] ([3] : List Int) fun A10_1 k10_1 => ?_)
      obtain ⟨y10_2, hy10_2, h⟩ := H.call h
      refine xx rfl (e_app 5 hy10_2 (s_own 6) fun A10_2 k10_2 => ?_)
      refine p 1 ?_
      refine rend ?_
      refine c_seq ?_
      refine c_seq ?_
      refine r_start ?_
      refine p 1 ?_
      refine xq rfl (y_load (.bool s1.Two) 2 g1_4 13) ?_
      refine p 1 ?_
      refine xq rfl (y_load (.bool s2.Two) 3 g1_5 13) ?_
      refine p 2 ?_
      refine br (!(s1.Two == s2.Two)) (fun q42 => ?_) (fun q42 => ?_)
      · replace h := H.t q42 h
        refine o_set 57 (congrArg Value.bool q42) ?_
        refine p 6 ?_
        refine rend ?_
        refine c_t (by kernel_rfl) ?_
        refine r_start ?_
        refine p 1 ?_
        refine xx rfl (e_lit (e := (eI .i64)) (el := 3) [.int .i64 4] ([4] : List Int) fun A12_1 k12_1 => ?_)
        obtain ⟨y12_2, hy12_2, h⟩ := H.call h
        refine xx rfl (e_app 5 hy12_2 (s_own 7) fun A12_2 k12_2 => ?_)
        refine p 1 ?_
        refine rend ?_
        refine c_seq ?_
        refine r_start ?_
        refine p 2 ?_
        refine rend ?_
        replace h := H.done h
        subst h
        exact ret func162 rfl (vs := [.slice A12_2 (List.length y12_2) k12_2]) (.tmp (by kernel_rfl) .nil) rfl (fun W S => ⟨_, _, rfl, S.row 5, S.below⟩)
      replace h := H.f q42 h
      refine o_set 57 (congrArg Value.bool q42) ?_
      refine p 1 ?_
      refine xq rfl (y_load (.agg (eHand s1.Other).toArray) 2 g1_4 14) ?_
      refine p 1 ?_
      refine xq rfl (y_load (.agg (eHand s2.Other).toArray) 3 g1_5 14) ?_
      refine p 2 ?_
      refine rend ?_
      refine c_or (!qHand s1.Other s2.Other) (fun q43 => ?_) (fun q43 => ?_)
      · replace h := H.t q43 h
        refine r_start ?_
        refine p 1 ?_
        refine xx rfl (e_lit (e := (eI .i64)) (el := 3) [.int .i64 4] ([4] : List Int) fun A12_1 k12_1 => ?_)
        obtain ⟨y12_2, hy12_2, h⟩ := H.call h
        refine xx rfl (e_app 5 hy12_2 (s_own 7) fun A12_2 k12_2 => ?_)
        refine p 1 ?_
        refine rend ?_
        refine c_seq ?_
        refine r_start ?_
        refine p 2 ?_
        refine rend ?_
        replace h := H.done h
        subst h
        exact ret func162 rfl (vs := [.slice A12_2 (List.length y12_2) k12_2]) (.tmp (by kernel_rfl) .nil) rfl (fun W S => ⟨_, _, rfl, S.row 5, S.below⟩)
      replace h := H.f q43 h
      refine c_skip ?_
      refine c_seq ?_
      refine r_start ?_
      refine p 2 ?_
      refine rend ?_
      replace h := H.done h
      subst h
      exact ret func162 rfl (vs := [.slice A10_2 (List.length y10_2) k10_2]) (.tmp (by kernel_rfl) .nil) rfl (fun W S => ⟨_, _, rfl, S.row 5, S.below⟩)
    replace h := H.f q41 h
    refine c_skip ?_
    refine c_seq ?_
    refine c_seq ?_
    refine r_start ?_
    refine p 1 ?_
    refine xq rfl (y_load (.bool s1.Two) 2 g1_4 13) ?_
    refine p 1 ?_
    refine xq rfl (y_load (.bool s2.Two) 3 g1_5 13) ?_
    refine p 2 ?_
    refine br (!(s1.Two == s2.Two)) (fun q44 => ?_) (fun q44 => ?_)
    · replace h := H.t q44 h
      refine o_set 57 (congrArg Value.bool q44) ?_
      refine p 6 ?_
      refine rend ?_
      refine c_t (by kernel_rfl) ?_
      refine r_start ?_
      refine p 1 ?_
      refine xx rfl (e_lit (e := (eI .i64)) (el := 3) [.int .i64 4] ([4] : List Int) fun A12_1 k12_1 => ?_)
      obtain ⟨y12_2, hy12_2, h⟩ := H.call h
      refine xx rfl (e_app 5 hy12_2 (s_own 6) fun A12_2 k12_2 => ?_)
      refine p 1 ?_
      refine rend ?_
      refine c_seq ?_
      refine r_start ?_
      refine p 2 ?_
      refine rend ?_
      replace h := H.done h
      subst h
      exact ret func162 rfl (vs := [.slice A12_2 (List.length y12_2) k12_2]) (.tmp (by kernel_rfl) .nil) rfl (fun W S => ⟨_, _, rfl, S.row 5, S.below⟩)
    replace h := H.f q44 h
    refine o_set 57 (congrArg Value.bool q44) ?_
    refine p 1 ?_
    refine xq rfl (y_load (.agg (eHand s1.Other).toArray) 2 g1_4 14) ?_
    refine p 1 ?_
    refine xq rfl (y_load (.agg (eHand s2.Other).toArray) 3 g1_5 14) ?_
    refine p 2 ?_
    refine rend ?_
    refine c_or (!qHand s1.Other s2.Other) (fun q45 => ?_) (fun q45 => ?_)
    · replace h := H.t q45 h
      refine r_start ?_
      refine p 1 ?_
      refine xx rfl (e_lit (e := (eI .i64)) (el := 3) [.int .i64 4] ([4] : List Int) fun A12_1 k12_1 => ?_)
      obtain ⟨y12_2, hy12_2, h⟩ := H.call h
      refine xx rfl (e_app 5 hy12_2 (s_own 6) fun A12_2 k12_2 => ?_)
      refine p 1 ?_
      refine rend ?_
      refine c_seq ?_
      refine r_start ?_
      refine p 2 ?_
      refine rend ?_
      replace h := H.done h
      subst h
      exact ret func162 rfl (vs := [.slice A12_2 (List.length y12_2) k12_2]) (.tmp (by kernel_rfl) .nil) rfl (fun W S => ⟨_, _, rfl, S.row 5, S.below⟩)
    replace h := H.f q45 h
    refine c_skip ?_
    refine c_seq ?_
    refine r_start ?_
    refine p 2 ?_
    refine rend ?_
    replace h := H.done h
    subst h
    exact ret func162 rfl (vs := [.slice A8_2 (List.length y8_2) k8_2]) (.tmp (by kernel_rfl) .nil) rfl (fun W S => ⟨_, _, rfl, S.row 5, S.below⟩)
  replace h := H.f q40 h
  refine c_skip ?_
  refine c_seq ?_
  refine c_seq ?_
  refine r_start ?_
  refine p 2 ?_
  refine xq rfl (y_load (.agg (eMove s1.Main.Move).toArray) 2 g1_4 11) ?_
  refine p 2 ?_
  refine xq rfl (y_load (.agg (eMove s2.Main.Move).toArray) 3 g1_5 11) ?_
  refine p 1 ?_
  refine rend ?_
  refine c_or (!qMove s1.Main.Move s2.Main.Move) (fun q46 => ?_) (fun q46 => ?_)
  · replace h := H.t q46 h
    refine r_start ?_
    refine p 1 ?_
    refine xx rfl (e_lit (e := (eI .i64)) (el := 3) [.int .i64 3] ([3] : List Int) fun A10_1 k10_1 => ?_)
    refine o_nil (eI .i64) 3 ?_
    obtain ⟨y10_2, hy10_2, h⟩ := H.call h
    refine xx rfl (e_app 5 hy10_2 (s_own 4) fun A10_2 k10_2 => ?_)
    refine p 1 ?_
    refine rend ?_
    refine c_seq ?_
    refine c_seq ?_
    refine r_start ?_
    refine p 1 ?_
    refine xq rfl (y_load (.bool s1.Two) 2 g1_4 13) ?_
    refine p 1 ?_
    refine xq rfl (y_load (.bool s2.Two) 3 g1_5 13) ?_
    refine p 2 ?_
    refine br (!(s1.Two == s2.Two)) (fun q47 => ?_) (fun q47 => ?_)
    · replace h := H.t q47 h
      refine o_set 57 (congrArg Value.bool q47) ?_
      refine p 6 ?_
      refine rend ?_
      refine c_t (by kernel_rfl) ?_
      refine r_start ?_
      refine p 1 ?_
      refine xx rfl (e_lit (e := (eI .i64)) (el := 3) [.int .i64 4] ([4] : List Int) fun A12_1 k12_1 => ?_)
      obtain ⟨y12_2, hy12_2, h⟩ := H.call h
      refine xx rfl (e_app 5 hy12_2 (s_own 6) fun A12_2 k12_2 => ?_)
      refine p 1 ?_
      refine rend ?_
      refine c_seq ?_
      refine r_start ?_
      refine p 2 ?_
      refine rend ?_
      replace h := H.done h
      subst h
      exact ret func162 rfl (vs := [.slice A12_2 (List.length y12_2) k12_2]) (.tmp (by kernel_rfl) .nil) rfl (fun W S => ⟨_, _, rfl, S.row 5, S.below⟩)
    replace h := H.f q47 h
    refine o_set 57 (congrArg Value.bool q47) ?_
    refine p 1 ?_
    refine xq rfl (y_load (.agg (eHand s1.Other).toArray) 2 g1_4 14) ?_
    refine p 1 ?_
    refine xq rfl (y_load (.agg (eHand s2.Other).toArray) 3 g1_5 14) ?_
    refine p 2 ?_
    refine rend ?_
    refine c_or (!qHand s1.Other s2.Other) (fun q48 => ?_) (fun q48 => ?_)
    · replace h := H.t q48 h
      refine r_start ?_
      refine p 1 ?_
      refine xx rfl (e_lit (e := (eI .i64)) (el := 3) [.int .i64 4] ([4] : List Int) fun A12_1 k12_1 => ?_)
      obtain ⟨y12_2, hy12_2, h⟩ := H.call h
      refine xx rfl (e_app 5 hy12_2 (s_own 6) fun A12_2 k12_2 => ?_)
      refine p 1 ?_
      refine rend ?_
      refine c_seq ?_
      refine r_start ?_
      refine p 2 ?_
      refine rend ?_
      replace h := H.done h
      subst h
      exact ret func162 rfl (vs := [.slice A12_2 (List.length y12_2) k12_2]) (.tmp (by kernel_rfl) .nil) rfl (fun W S => ⟨_, _, rfl, S.row 5, S.below⟩)
    replace h := H.f q48 h
    refine c_skip ?_
    refine c_seq ?_
    refine r_start ?_
    refine p 2 ?_
    refine rend ?_
    replace h := H.done h
    subst h
    exact ret func162 rfl (vs := [.slice A10_2 (List.length y10_2) k10_2]) (.tmp (by kernel_rfl) .nil) rfl (fun W S => ⟨_, _, rfl, S.row 5, S.below⟩)
  replace h := H.f q46 h
  refine c_skip ?_
  refine c_seq ?_
  refine c_seq ?_
  refine r_start ?_
  refine p 1 ?_
  refine xq rfl (y_load (.bool s1.Two) 2 g1_4 13) ?_
  refine p 1 ?_
  refine xq rfl (y_load (.bool s2.Two) 3 g1_5 13) ?_
  refine p 2 ?_
  refine br (!(s1.Two == s2.Two)) (fun q49 => ?_) (fun q49 => ?_)
  · replace h := H.t q49 h
    refine o_set 57 (congrArg Value.bool q49) ?_
    refine p 6 ?_
    refine rend ?_
    refine c_t (by kernel_rfl) ?_
    refine r_start ?_
    refine p 1 ?_
    refine xx rfl (e_lit (e := (eI .i64)) (el := 3) [.int .i64 4] ([4] : List Int) fun A12_1 k12_1 => ?_)
    refine o_nil (eI .i64) 3 ?_
    obtain ⟨y12_2, hy12_2, h⟩ := H.call h
    refine xx rfl (e_app 5 hy12_2 (s_own 4) fun A12_2 k12_2 => ?_)
    refine p 1 ?_
    refine rend ?_
    refine c_seq ?_
    refine r_start ?_
    refine p 2 ?_
    refine rend ?_
    replace h := H.done h
    subst h
    exact ret func162 rfl (vs := [.slice A12_2 (List.length y12_2) k12_2]) (.tmp (by kernel_rfl) .nil) rfl (fun W S => ⟨_, _, rfl, S.row 5, S.below⟩)
  replace h := H.f q49 h
  refine o_set 57 (congrArg Value.bool q49) ?_
  refine p 1 ?_
  refine xq rfl (y_load (.agg (eHand s1.Other).toArray) 2 g1_4 14) ?_
  refine p 1 ?_
  refine xq rfl (y_load (.agg (eHand s2.Other).toArray) 3 g1_5 14) ?_
  refine p 2 ?_
  refine rend ?_
  refine c_or (!qHand s1.Other s2.Other) (fun q50 => ?_) (fun q50 => ?_)
  · replace h := H.t q50 h
    refine r_start ?_
    refine p 1 ?_
    refine xx rfl (e_lit (e := (eI .i64)) (el := 3) [.int .i64 4] ([4] : List Int) fun A12_1 k12_1 => ?_)
    refine o_nil (eI .i64) 3 ?_
    obtain ⟨y12_2, hy12_2, h⟩ := H.call h
    refine xx rfl (e_app 5 hy12_2 (s_own 4) fun A12_2 k12_2 => ?_)
    refine p 1 ?_
    refine rend ?_
    refine c_seq ?_
    refine r_start ?_
    refine p 2 ?_
    refine rend ?_
    replace h := H.done h
    subst h
    exact ret func162 rfl (vs := [.slice A12_2 (List.length y12_2) k12_2]) (.tmp (by kernel_rfl) .nil) rfl (fun W S => ⟨_, _, rfl, S.row 5, S.below⟩)
  replace h := H.f q50 h
  refine c_skip ?_
  refine c_seq ?_
  refine r_start ?_
  refine p 2 ?_
  refine rend ?_
  replace h := H.done h
  subst h
  exact ret func162 rfl (vs := [.slice none 0 0]) (.tmp (by kernel_rfl) .nil) rfl (fun W S => ⟨none, 0, rfl, World.ownsRow_nil _ _ _ _, S.below⟩)
theorem C.s_prPair {fu : Nat} {a0 : Sign} {a1 : Sign} {r : Bool} (w : World) (h : X.s_prPair fu a0 a1 = some r) : Calls prog 98 #[.agg (eSign a0).toArray, .agg (eSign a1).toArray] w (Ret w (.bool r)) := by
  refine calls (M := no) (args := [.agg (eSign a0).toArray, .agg (eSign a1).toArray]) func98 rfl ?_
  replace h : H (X.s_prPair fu a0 a1) (fun o => o = r) := H.mk h
  unfold X.s_prPair at h
  refine c_seq ?_
  refine r_start ?_
  refine xx rfl (x_box (eSign a0) fun g0_0 => ?_)
  refine xx rfl (x_box (eSign a1) fun g0_1 => ?_)
  refine p 1 ?_
  refine rend ?_
  refine c_seq ?_
  refine r_start ?_
  refine xq rfl (y_load (.agg (eSign a0).toArray) 0 g0_0 0) ?_
  refine xq rfl (y_load (.agg (eSign a1).toArray) 1 g0_1 0) ?_
  obtain ⟨v1_2, hv1_2, h⟩ := H.call h
  refine xx rfl (e_cr [.agg (eSign a0).toArray, .agg (eSign a1).toArray] (fun v => v) func162 (fun W S => C.s_prApart W hv1_2) fun A1_2 k1_2 => ?_)
  refine p 3 ?_
  refine rend ?_
  replace h := H.done h
  subst h
  exact ret func98 rfl (vs := [.bool ((List.length v1_2 : Int) == 1)]) (.tmp (by kernel_rfl) .nil) rfl (fun W S => ⟨rfl, S.below⟩)
theorem C.s_prWith {fu : Nat} {a0 : (List Sign)} {A0 : Option Addr} {k0 : Nat} {a1 : Int} {r : (List Int)} (w : World) (h : X.s_prWith fu a0 a1 = some r) (h0 : RdT nSign w (.slice A0 (List.length a0) k0) a0) : Calls prog 47 #[.slice A0 (List.length a0) k0, .int .i64 a1] w (RetR (eI .i64) 3 w r (fun v => v)) := by
  refine calls (M := no) (args := [.slice A0 (List.length a0) k0, .int .i64 a1]) func47 rfl ?_
  replace h : H (X.s_prWith fu a0 a1) (fun o => o = r) := H.mk h
  unfold X.s_prWith at h
  refine c_seq ?_
  refine r_start ?_
  refine p 1 ?_
  refine rend ?_
  refine c_seq ?_
  refine r_start ?_
  refine p 1 ?_
  refine rend ?_
  refine c_seq ?_
  refine c_seq ?_
  refine r_start ?_
  refine p 3 ?_
  refine rend ?_
  refine c_block ?_
  refine c_nil (eI .i64) 3 ?_
  refine joinH (X := ((List Int) × Option Addr × Nat)) 0 (H.bnd h) (fun ⟨l4, A5, k6⟩ => l4) (fun ⟨l4, A5, k6⟩ => [rowT (eI .i64) w.heap.size 3 (.slice A5 (List.length l4) k6) l4]) (fun ⟨l4, A5, k6⟩ u => (jk u 0 5 (.slice A5 (List.length l4) k6 :: (jk u 6 21 [])))) (fun h hj7 => ?_) ?_
  · skip
    refine rangeR (X := ((List Int) × Option Addr × Nat)) (s_arg h0) (fun ⟨l1, A2, k3⟩ => l1) (fun ⟨l1, A2, k3⟩ => [rowT (eI .i64) w.heap.size 3 (.slice A2 (List.length l1) k3) l1]) (fun (j8 : Nat) ⟨l1, A2, k3⟩ u => (.slice A0 (List.length a0) k0 :: .int .i64 a1 :: (jk u 2 3 (.slice A2 (List.length l1) k3 :: (jk u 6 2 (.slice A0 (List.length a0) k0 :: .int .i64 (List.length a0 : Int) :: .int .i64 (j8 : Int) :: (jk u 11 16 []))))))) (([] : List Int), none, 0) h (by kernel_rfl) (by kernel_rfl) ?_ ?_
    · intro j8 x u x9 q10 hg11 hw12 h
      obtain ⟨l1, A2, k3⟩ := x
      refine c_seq ?_
      refine r_start ?_
      refine p 1 ?_
      refine rend ?_
      refine c_seq ?_
      refine c_yes q10 ?_
      refine c_skip ?_
      refine c_seq ?_
      refine c_block ?_
      refine c_seq ?_
      refine r_start ?_
      refine p 1 ?_
      refine xq rfl (y_idx (e := nSign) (el := 47) hg11 (s_arg h0)) ?_
      refine xq rfl (y_el (e := nSign) 0 (.agg (eSign x9).toArray) hg11 (s_arg h0)) ?_
      refine xx rfl (x_new (eSign zSign) fun g4_3 => ?_)
      refine p 1 ?_
      refine xx rfl (x_sto 1 g4_3 0 (eSign x9) ?_)
      refine rend ?_
      refine c_seq ?_
      refine as_start 6 6 ?_
      refine ap 0 2 ?_
      obtain ⟨y5_2, hy5_2, h⟩ := H.call h
      refine aq 2 rfl (y_idx (e := nSign) (el := 47) hy5_2 (s_arg h0)) ?_
      refine aq 3 rfl (y_el (e := nSign) 0 (.agg (eSign y5_2).toArray) hy5_2 (s_arg h0)) ?_
      refine aq 4 rfl (y_load (.agg (eSign x9).toArray) 1 g4_3 0) ?_
      obtain ⟨v5_5, hv5_5, h⟩ := H.call h
      refine aq 5 rfl (y_call [.agg (eSign y5_2).toArray, .agg (eSign x9).toArray] (.bool v5_5) func98 (fun W S => C.s_prPair W hv5_5)) ?_
      refine a_done ?_
      refine c_or v5_5 (fun q13 => ?_) (fun q13 => ?_)
      · replace h := H.t q13 h
        refine r_start ?_
        refine p 2 ?_
        refine xx rfl (e_lit (e := (eI .i64)) (el := 3) [.int .i64 (j8 : Int)] ([(j8 : Int)] : List Int) fun A6_2 k6_2 => ?_)
        obtain ⟨y6_3, hy6_3, h⟩ := H.call h
        refine xx rfl (e_app 0 hy6_3 (s_own 2) fun A6_3 k6_3 => ?_)
        refine p 1 ?_
        refine rend ?_
        refine c_inb ?_
        refine r_start ?_
        refine p 2 ?_
        refine rend ?_
        refine c_set 10 (ci hw12) ?_
        replace h := H.inl h
        exact h (y6_3, A6_3, k6_3) _ _ rfl (by kernel_rfl) (by kernel_rfl)
      replace h := H.f q13 h
      refine c_skip ?_
      refine c_inb ?_
      refine r_start ?_
      refine p 2 ?_
      refine rend ?_
      refine c_set 10 (ci hw12) ?_
      replace h := H.inl h
      exact h (l1, A2, k3) _ _ rfl (by kernel_rfl) (by kernel_rfl)
    · intro x u q10 h
      obtain ⟨l1, A2, k3⟩ := x
      refine c_seq ?_
      refine r_start ?_
      refine p 1 ?_
      refine rend ?_
      refine c_seq ?_
      refine c_no q10 ?_
      refine cx ?_
      replace h := H.done h
      exact hj7 (l1, A2, k3) _ _ h (by kernel_rfl) (by kernel_rfl)
  intro x u h
  obtain ⟨l4, A5, k6⟩ := x
  refine c_seq ?_
  refine r_start ?_
  refine p 2 ?_
  refine rend ?_
  replace h := H.done h
  subst h
  exact ret func47 rfl (vs := [.slice A5 (List.length l4) k6]) (.tmp (by kernel_rfl) .nil) rfl (fun W S => ⟨_, _, rfl, S.row 0, S.below⟩)
theorem C.s_prSteps {fu : Nat} {a0 : (List Sign)} {A0 : Option Addr} {k0 : Nat} {a1 : Int} {r : (List Int)} (w : World) (h : X.s_prSteps fu a0 a1 = some r) (h0 : RdT nSign w (.slice A0 (List.length a0) k0) a0) : Calls prog 46 #[.slice A0 (List.length a0) k0, .int .i64 a1] w (RetR (eI .i64) 3 w r (fun v => v)) := by
  refine calls (M := no) (args := [.slice A0 (List.length a0) k0, .int .i64 a1]) func46 rfl ?_
  replace h : H (X.s_prSteps fu a0 a1) (fun o => o = r) := H.mk h
  unfold X.s_prSteps at h
  refine c_seq ?_
  refine r_start ?_
  refine p 1 ?_
  refine rend ?_
  refine c_seq ?_
  refine r_start ?_
  refine p 1 ?_
  refine rend ?_
  refine c_seq ?_
  refine c_seq ?_
  refine r_start ?_
  refine p 3 ?_
  refine rend ?_
  refine c_block ?_
  refine c_nil (eI .i64) 3 ?_
  refine joinH (X := ((List Int) × Option Addr × Nat)) 0 (H.bnd h) (fun ⟨l4, A5, k6⟩ => l4) (fun ⟨l4, A5, k6⟩ => [rowT (eI .i64) w.heap.size 3 (.slice A5 (List.length l4) k6) l4]) (fun ⟨l4, A5, k6⟩ u => (.slice A0 (List.length a0) k0 :: .int .i64 a1 :: (jk u 2 3 (.slice A5 (List.length l4) k6 :: (jk u 6 52 []))))) (fun h hj7 => ?_) ?_
  · skip
    refine rangeR (X := ((List Int) × Option Addr × Nat)) (s_arg h0) (fun ⟨l1, A2, k3⟩ => l1) (fun ⟨l1, A2, k3⟩ => [rowT (eI .i64) w.heap.size 3 (.slice A2 (List.length l1) k3) l1]) (fun (j8 : Nat) ⟨l1, A2, k3⟩ u => (.slice A0 (List.length a0) k0 :: .int .i64 a1 :: (jk u 2 3 (.slice A2 (List.length l1) k3 :: (jk u 6 5 (.int .i64 (List.length a0 : Int) :: .int .i64 (j8 : Int) :: (jk u 13 45 []))))))) (([] : List Int), none, 0) h (by kernel_rfl) (by kernel_rfl) ?_ ?_
    · intro j8 x u x9 q10 hg11 hw12 h
      obtain ⟨l1, A2, k3⟩ := x
      refine c_seq ?_
      refine r_start ?_
      refine p 1 ?_
      refine rend ?_
      refine c_seq ?_
      refine c_yes q10 ?_
      refine c_skip ?_
      refine c_seq ?_
      refine c_block ?_
      refine r_start ?_
      refine p 1 ?_
      refine xx rfl (e_lit (e := (eI .i64)) (el := 3) [.int .i64 (-1)] ([(-1)] : List Int) fun A4_1 k4_1 => ?_)
      obtain ⟨y4_2, hy4_2, h⟩ := H.call h
      refine xx rfl (e_app 0 hy4_2 (s_own 1) fun A4_2 k4_2 => ?_)
      refine p 1 ?_
      refine rend ?_
      refine c_inb ?_
      refine r_start ?_
      refine p 2 ?_
      refine rend ?_
      refine c_set 12 (ci hw12) ?_
      replace h := H.inl h
      exact h (y4_2, A4_2, k4_2) _ _ rfl (by kernel_rfl) (by kernel_rfl)
    · intro x u q10 h
      obtain ⟨l1, A2, k3⟩ := x
      refine c_seq ?_
      refine r_start ?_
      refine p 1 ?_
      refine rend ?_
      refine c_seq ?_
      refine c_no q10 ?_
      refine cx ?_
      replace h := H.done h
      exact hj7 (l1, A2, k3) _ _ h (by kernel_rfl) (by kernel_rfl)
  intro x u h
  obtain ⟨l4, A5, k6⟩ := x
  refine c_seq ?_
  refine r_start ?_
  refine p 2 ?_
  obtain ⟨y6_2, hy6_2, h⟩ := H.call h
  refine xq rfl (y_idx (e := (eI .i64)) (el := 3) hy6_2 (s_own 0)) ?_
  refine xx rfl (e_stel (e := (eI .i64)) (b := 0) 0 0 ([.int .i64 0]) hy6_2 (by kernel_rfl) ?_)
  refine o_set 5 (sl_set (A := A5) (c := k6) (l := l4) (n := Int.toNat a1) (b := 0)) ?_
  refine rend ?_
  refine c_seq ?_
  refine r_start ?_
  refine p 1 ?_
  refine xx rfl (e_lit (e := (eI .i64)) (el := 3) [.int .i64 a1] ([a1] : List Int) fun A7_1 k7_1 => ?_)
  refine p 1 ?_
  refine rend ?_
  refine c_seq ?_
  refine c_block ?_
  refine c_toX 1 ?_
  refine joinH (X := ((List Int) × (List Int) × Option Addr × Nat × Option Addr × Nat)) 2 (H.bnd h) (fun ⟨l19, l22, A20, k21, A23, k24⟩ => (l19, l22)) (fun ⟨l19, l22, A20, k21, A23, k24⟩ => [rowT (eI .i64) w.heap.size 3 (.slice A20 (List.length l19) k21) l19, rowX (eI .i64) w.heap.size 3 (.slice A23 (List.length l22) k24) l22]) (fun ⟨l19, l22, A20, k21, A23, k24⟩ u => (jk u 0 5 (.slice A20 (List.length l19) k21 :: (jk u 6 52 [])))) (fun h hj25 => ?_) ?_
  · skip
    refine loopR (X := ((List Int) × (List Int) × Option Addr × Nat × Option Addr × Nat)) (fun ⟨l13, l16, A14, k15, A17, k18⟩ => (l13, l16)) (fun ⟨l13, l16, A14, k15, A17, k18⟩ => [rowT (eI .i64) w.heap.size 3 (.slice A14 (List.length l13) k15) l13, rowX (eI .i64) w.heap.size 3 (.slice A17 (List.length l16) k18) l16]) (fun ⟨l13, l16, A14, k15, A17, k18⟩ u => (.slice A0 (List.length a0) k0 :: (jk u 1 4 (.slice A14 (List.length l13) k15 :: .slice A17 (List.length l16) k18 :: (jk u 7 51 []))))) ((List.set l4 (Int.toNat a1) 0), ([a1] : List Int), A5, k6, A7_1, k7_1) h (by kernel_rfl) (by kernel_rfl) ?_
    intro x u h
    obtain ⟨l13, l16, A14, k15, A17, k18⟩ := x
    refine c_seq ?_
    refine c_seq ?_
    refine r_start ?_
    refine p 3 ?_
    refine rend ?_
    refine c_or (decide ((List.length l16 : Int) > 0)) (fun q26 => ?_) (fun q26 => ?_)
    · replace h := H.t q26 h
      refine c_skip ?_
      refine c_block ?_
      refine c_seq ?_
      refine r_start ?_
      refine p 1 ?_
      obtain ⟨y9_1, hy9_1, h⟩ := H.call h
      refine xq rfl (y_idx (e := (eI .i64)) (el := 3) hy9_1 (s_ownX 1)) ?_
      refine xq rfl (y_el (e := (eI .i64)) 0 (.int .i64 y9_1) hy9_1 (s_ownX 1)) ?_
      refine p 1 ?_
      refine rend ?_
      refine c_seq ?_
      refine r_start ?_
      refine p 1 ?_
      obtain ⟨y10_1, hy10_1, h⟩ := H.call h
      refine xq rfl (y_cutl (e := (eI .i64)) (el := 3) hy10_1 (s_ownX 1)) ?_
      refine o_cutX 1 hy10_1 ?_
      refine p 1 ?_
      refine rend ?_
      refine c_seq ?_
      refine r_start ?_
      refine p 2 ?_
      obtain ⟨v11_2, hv11_2, h⟩ := H.call h
      refine xx rfl (e_cr [.slice A0 (List.length a0) k0, .int .i64 y9_1] (fun v => v) func47 (fun W S => C.s_prWith W hv11_2 ((s_arg h0).out W S)) fun A11_2 k11_2 => ?_)
      refine p 2 ?_
      refine rend ?_
      refine c_block ?_
      refine joinH (X := ((List Int) × (List Int) × Option Addr × Nat × Option Addr × Nat)) 4 (H.bnd h) (fun ⟨l33, l36, A34, k35, A37, k38⟩ => (l33, l36)) (fun ⟨l33, l36, A34, k35, A37, k38⟩ => [rowT (eI .i64) w.heap.size 3 (.slice A34 (List.length l33) k35) l33, rowX (eI .i64) w.heap.size 3 (.slice A37 (List.length l36) k38) l36, rowT (eI .i64) w.heap.size 3 (.slice A11_2 (List.length v11_2) k11_2) v11_2]) (fun ⟨l33, l36, A34, k35, A37, k38⟩ u => (.slice A0 (List.length a0) k0 :: (jk u 1 4 (.slice A34 (List.length l33) k35 :: .slice A37 (List.length l36) k38 :: (jk u 7 51 []))))) (fun h hj39 => ?_) ?_
      · skip
        refine rangeR (X := ((List Int) × (List Int) × Option Addr × Nat × Option Addr × Nat)) (s_own 2) (fun ⟨l27, l30, A28, k29, A31, k32⟩ => (l27, l30)) (fun ⟨l27, l30, A28, k29, A31, k32⟩ => [rowT (eI .i64) w.heap.size 3 (.slice A28 (List.length l27) k29) l27, rowX (eI .i64) w.heap.size 3 (.slice A31 (List.length l30) k32) l30, rowT (eI .i64) w.heap.size 3 (.slice A11_2 (List.length v11_2) k11_2) v11_2]) (fun (j40 : Nat) ⟨l27, l30, A28, k29, A31, k32⟩ u => (.slice A0 (List.length a0) k0 :: (jk u 1 4 (.slice A28 (List.length l27) k29 :: .slice A31 (List.length l30) k32 :: .int .i64 y9_1 :: (jk u 8 25 (.slice A11_2 (List.length v11_2) k11_2 :: .int .i64 (List.length v11_2 : Int) :: .int .i64 (j40 : Int) :: (jk u 36 22 []))))))) (l13, y10_1, A14, k15, cutA (eI .i64) A17 k18 (Int.toNat 1), k18 - Int.toNat 1) h (by kernel_rfl) (by kernel_rfl) ?_ ?_
        · intro j40 x u x41 q42 hg43 hw44 h
          obtain ⟨l27, l30, A28, k29, A31, k32⟩ := x
          refine c_seq ?_
          refine r_start ?_
          refine p 1 ?_
          refine rend ?_
          refine c_seq ?_
          refine c_yes q42 ?_
          refine c_skip ?_
          refine c_seq ?_
          refine c_block ?_
          refine c_seq ?_
          refine r_start ?_
          refine xq rfl (y_idx (e := (eI .i64)) (el := 3) hg43 (s_own 2)) ?_
          refine xq rfl (y_el (e := (eI .i64)) 0 (.int .i64 x41) hg43 (s_own 2)) ?_
          refine p 1 ?_
          refine rend ?_
          refine frg (fun u => (.slice A0 (List.length a0) k0 :: (jk u 1 4 (.slice A28 (List.length l27) k29 :: .slice A31 (List.length l30) k32 :: .int .i64 y9_1 :: (jk u 8 1 (.int .i64 x41 :: (jk u 10 23 (.slice A11_2 (List.length v11_2) k11_2 :: .int .i64 (List.length v11_2 : Int) :: .int .i64 (j40 : Int) :: (jk u 36 22 []))))))))) (by kernel_rfl) fun u => ?_
          refine keep 3 (its' := [rowT (eI .i64) w.heap.size 3 (.slice A28 (List.length l27) k29) l27, rowX (eI .i64) w.heap.size 3 (.slice A31 (List.length l30) k32) l30, rowT (eI .i64) w.heap.size 3 (.slice A11_2 (List.length v11_2) k11_2) v11_2]) (by kernel_rfl) ?_
          refine c_seq ?_
          refine r_start ?_
          refine p 2 ?_
          obtain ⟨y14_2, hy14_2, h⟩ := H.call h
          refine xq rfl (y_idx (e := (eI .i64)) (el := 3) hy14_2 (s_own 0)) ?_
          refine xq rfl (y_el (e := (eI .i64)) 0 (.int .i64 y14_2) hy14_2 (s_own 0)) ?_
          refine p 1 ?_
          refine rend ?_
          refine c_or (decide (y14_2 < 0)) (fun q45 => ?_) (fun q45 => ?_)
          · replace h := H.t q45 h
            refine c_seq ?_
            refine r_start ?_
            refine p 4 ?_
            obtain ⟨y15_4, hy15_4, h⟩ := H.call h
            refine xq rfl (y_idx (e := (eI .i64)) (el := 3) hy15_4 (s_own 0)) ?_
            refine xq rfl (y_el (e := (eI .i64)) 0 (.int .i64 y15_4) hy15_4 (s_own 0)) ?_
            refine p 1 ?_
            refine xq rfl (y_idx (e := (eI .i64)) (el := 3) hy14_2 (s_own 0)) ?_
            refine xx rfl (e_stel (e := (eI .i64)) (b := (wr (y15_4 + 1))) 0 0 ([.int .i64 (wr (y15_4 + 1))]) hy14_2 (by kernel_rfl) ?_)
            refine o_set 5 (sl_set (A := A28) (c := k29) (l := l27) (n := Int.toNat x41) (b := (wr (y15_4 + 1)))) ?_
            refine rend ?_
            refine r_start ?_
            refine p 2 ?_
            refine xx rfl (e_lit (e := (eI .i64)) (el := 3) [.int .i64 x41] ([x41] : List Int) fun A16_2 k16_2 => ?_)
            obtain ⟨y16_3, hy16_3, h⟩ := H.call h
            refine xx rfl (e_appX 1 hy16_3 (s_own 3) fun A16_3 k16_3 => ?_)
            refine p 1 ?_
            refine rend ?_
            refine c_inb ?_
            refine r_start ?_
            refine p 2 ?_
            refine rend ?_
            refine c_set 35 (ci hw44) ?_
            replace h := H.inl h
            exact h ((List.set l27 (Int.toNat x41) (wr (y15_4 + 1))), y16_3, A28, k29, A16_3, k16_3) _ _ rfl (by kernel_rfl) (by kernel_rfl)
          replace h := H.f q45 h
          refine c_skip ?_
          refine c_inb ?_
          refine r_start ?_
          refine p 2 ?_
          refine rend ?_
          refine c_set 35 (ci hw44) ?_
          replace h := H.inl h
          exact h (l27, l30, A28, k29, A31, k32) _ _ rfl (by kernel_rfl) (by kernel_rfl)
        · intro x u q42 h
          obtain ⟨l27, l30, A28, k29, A31, k32⟩ := x
          refine c_seq ?_
          refine r_start ?_
          refine p 1 ?_
          refine rend ?_
          refine c_seq ?_
          refine c_no q42 ?_
          refine cx ?_
          replace h := H.done h
          exact hj39 (l27, l30, A28, k29, A31, k32) _ _ h (by kernel_rfl) (by kernel_rfl)
      intro x u h
      obtain ⟨l33, l36, A34, k35, A37, k38⟩ := x
      refine c_inb ?_
      replace h := H.inl h
      exact h (l33, l36, A34, k35, A37, k38) _ _ rfl (by kernel_rfl) (by kernel_rfl)
    replace h := H.f q26 h
    refine cx ?_
    replace h := H.inr h
    exact hj25 (l13, l16, A14, k15, A17, k18) _ _ h (by kernel_rfl) (by kernel_rfl)
  intro x u h
  obtain ⟨l19, l22, A20, k21, A23, k24⟩ := x
  refine c_seq ?_
  refine r_start ?_
  refine p 2 ?_
  refine rend ?_
  replace h := H.done h
  subst h
  exact ret func46 rfl (vs := [.slice A20 (List.length l19) k21]) (.tmp (by kernel_rfl) .nil) rfl (fun W S => ⟨_, _, rfl, S.row 0, S.below⟩)
theorem C.s_StepsBetween {fu : Nat} {a0 : (List Sign)} {A0 : Option Addr} {k0 : Nat} {a1 : Int} {a2 : Int} {r : ((List Int) × Bool)} (w : World) (h : X.s_StepsBetween fu a0 a1 a2 = some r) (h0 : RdT nSign w (.slice A0 (List.length a0) k0) a0) : Calls prog 16 #[.slice A0 (List.length a0) k0, .int .i64 a1, .int .i64 a2] w (RetR (eI .i64) 3 w r.1 (fun v => .tuple #[v, .bool r.2])) := by
  refine calls (M := no) (args := [.slice A0 (List.length a0) k0, .int .i64 a1, .int .i64 a2]) func16 rfl ?_
  replace h : H (X.s_StepsBetween fu a0 a1 a2) (fun o => o = r) := H.mk h
  unfold X.s_StepsBetween at h
  refine c_seq ?_
  refine r_start ?_
  refine p 2 ?_
  refine rend ?_
  refine c_seq ?_
  refine c_seq ?_
  refine r_start ?_
  refine p 2 ?_
  obtain ⟨v1_2, hv1_2, h⟩ := H.call h
  refine xq rfl (y_call [.slice A0 (List.length a0) k0, .int .i64 a1] (.bool v1_2) func44 (fun W S => C.s_prIndex W hv1_2 ((s_arg h0).out W S))) ?_
  refine p 2 ?_
  refine br (!v1_2) (fun q1 => ?_) (fun q1 => ?_)
  · replace h := H.t q1 h
    refine o_set 17 (congrArg Value.bool q1) ?_
    refine p 7 ?_
    refine rend ?_
    refine c_t (by kernel_rfl) ?_
    refine c_seq ?_
    refine r_start ?_
    refine p 2 ?_
    refine rend ?_
    replace h := H.done h
    subst h
    exact ret func16 rfl (vs := [.slice none 0 0, .bool false]) (.tmp (by kernel_rfl) (.tmp (by kernel_rfl) .nil)) rfl (fun W S => ⟨none, 0, rfl, World.ownsRow_nil _ _ _ _, S.below⟩)
  replace h := H.f q1 h
  refine o_set 17 (congrArg Value.bool q1) ?_
  refine p 4 ?_
  obtain ⟨v1_9, hv1_9, h⟩ := H.call h
  refine xq rfl (y_call [.int .i64 a2, .int .i64 0, .int .i64 (wr ((List.length a0 : Int) - 1))] (.bool v1_9) func45 (fun W S => C.s_l1In W hv1_9)) ?_
  refine p 2 ?_
  refine rend ?_
  refine c_or (!v1_9) (fun q2 => ?_) (fun q2 => ?_)
  · replace h := H.t q2 h
    refine c_seq ?_
    refine r_start ?_
    refine p 2 ?_
    refine rend ?_
    replace h := H.done h
    subst h
    exact ret func16 rfl (vs := [.slice none 0 0, .bool false]) (.tmp (by kernel_rfl) (.tmp (by kernel_rfl) .nil)) rfl (fun W S => ⟨none, 0, rfl, World.ownsRow_nil _ _ _ _, S.below⟩)
  replace h := H.f q2 h
  refine c_skip ?_
  refine c_seq ?_
  refine r_start ?_
  refine p 2 ?_
  obtain ⟨v3_2, hv3_2, h⟩ := H.call h
  refine xx rfl (e_cr [.slice A0 (List.length a0) k0, .int .i64 a2] (fun v => v) func46 (fun W S => C.s_prSteps W hv3_2 ((s_arg h0).out W S)) fun A3_2 k3_2 => ?_)
  refine p 1 ?_
  refine rend ?_
  refine c_seq ?_
  refine c_seq ?_
  refine r_start ?_
  refine p 2 ?_
  obtain ⟨y4_2, hy4_2, h⟩ := H.call h
  refine xq rfl (y_idx (e := (eI .i64)) (el := 3) hy4_2 (s_own 0)) ?_
  refine xq rfl (y_el (e := (eI .i64)) 0 (.int .i64 y4_2) hy4_2 (s_own 0)) ?_
  refine p 1 ?_
  refine rend ?_
  refine c_or (decide (y4_2 < 0)) (fun q3 => ?_) (fun q3 => ?_)
  · replace h := H.t q3 h
    refine c_seq ?_
    refine r_start ?_
    refine p 2 ?_
    refine rend ?_
    replace h := H.done h
    subst h
    exact ret func16 rfl (vs := [.slice none 0 0, .bool false]) (.tmp (by kernel_rfl) (.tmp (by kernel_rfl) .nil)) rfl (fun W S => ⟨none, 0, rfl, World.ownsRow_nil _ _ _ _, S.below⟩)
  replace h := H.f q3 h
  refine c_skip ?_
  refine c_seq ?_
  refine r_start ?_
  refine p 1 ?_
  refine xx rfl (e_lit (e := (eI .i64)) (el := 3) [.int .i64 a1] ([a1] : List Int) fun A6_1 k6_1 => ?_)
  refine p 1 ?_
  refine rend ?_
  refine c_seq ?_
  refine c_seq ?_
  refine r_start ?_
  refine p 2 ?_
  refine rend ?_
  refine c_block ?_
  refine joinH (X := ((List Int) × Option Addr × Nat)) 0 (H.bnd h) (fun ⟨l8, A9, k10⟩ => l8) (fun ⟨l8, A9, k10⟩ => [rowT (eI .i64) w.heap.size 3 (.slice A3_2 (List.length v3_2) k3_2) v3_2, rowT (eI .i64) w.heap.size 3 (.slice A9 (List.length l8) k10) l8]) (fun ⟨l8, A9, k10⟩ u => (jk u 0 9 (.slice A9 (List.length l8) k10 :: (jk u 10 54 [])))) (fun h hj11 => ?_) ?_
  · skip
    refine loopR (X := (Int × (List Int) × Option Addr × Nat)) (fun ⟨n4, l5, A6, k7⟩ => (n4, l5)) (fun ⟨n4, l5, A6, k7⟩ => [rowT (eI .i64) w.heap.size 3 (.slice A3_2 (List.length v3_2) k3_2) v3_2, rowT (eI .i64) w.heap.size 3 (.slice A6 (List.length l5) k7) l5]) (fun ⟨n4, l5, A6, k7⟩ u => (.slice A0 (List.length a0) k0 :: (jk u 1 1 (.int .i64 a2 :: (jk u 3 5 (.slice A3_2 (List.length v3_2) k3_2 :: .slice A6 (List.length l5) k7 :: .int .i64 n4 :: (jk u 11 53 []))))))) (a1, ([a1] : List Int), A6_1, k6_1) h (by kernel_rfl) (by kernel_rfl) ?_
    intro x u h
    obtain ⟨n4, l5, A6, k7⟩ := x
    refine c_seq ?_
    refine c_seq ?_
    refine r_start ?_
    refine p 3 ?_
    refine rend ?_
    refine c_or (n4 != a2) (fun q12 => ?_) (fun q12 => ?_)
    · replace h := H.t q12 h
      refine c_skip ?_
      refine c_block ?_
      refine c_seq ?_
      refine c_seq ?_
      refine r_start ?_
      refine p 2 ?_
      obtain ⟨v9_2, hv9_2, h⟩ := H.call h
      refine xx rfl (e_cr [.slice A0 (List.length a0) k0, .int .i64 n4] (fun v => v) func47 (fun W S => C.s_prWith W hv9_2 ((s_arg h0).out W S)) fun A9_2 k9_2 => ?_)
      refine p 2 ?_
      refine rend ?_
      refine c_block ?_
      refine joinH (X := Int) 2 (H.bnd h) (fun (x : Int) => x) (fun n13 => [rowT (eI .i64) w.heap.size 3 (.slice A3_2 (List.length v3_2) k3_2) v3_2, rowT (eI .i64) w.heap.size 3 (.slice A6 (List.length l5) k7) l5, rowT (eI .i64) w.heap.size 3 (.slice A9_2 (List.length v9_2) k9_2) v9_2]) (fun n13 u => (.slice A0 (List.length a0) k0 :: (jk u 1 1 (.int .i64 a2 :: (jk u 3 5 (.slice A3_2 (List.length v3_2) k3_2 :: .slice A6 (List.length l5) k7 :: .int .i64 n13 :: (jk u 11 53 []))))))) (fun h hj14 => ?_) ?_
      · skip
        refine rangeR (X := Unit) (s_own 2) (fun (x : Unit) => x) (fun _ => [rowT (eI .i64) w.heap.size 3 (.slice A3_2 (List.length v3_2) k3_2) v3_2, rowT (eI .i64) w.heap.size 3 (.slice A6 (List.length l5) k7) l5, rowT (eI .i64) w.heap.size 3 (.slice A9_2 (List.length v9_2) k9_2) v9_2]) (fun (j15 : Nat) _ u => (.slice A0 (List.length a0) k0 :: (jk u 1 1 (.int .i64 a2 :: (jk u 3 5 (.slice A3_2 (List.length v3_2) k3_2 :: .slice A6 (List.length l5) k7 :: .int .i64 n4 :: (jk u 11 30 (.slice A9_2 (List.length v9_2) k9_2 :: .int .i64 (List.length v9_2 : Int) :: .int .i64 (j15 : Int) :: (jk u 44 20 []))))))))) () h (by kernel_rfl) (by kernel_rfl) ?_ ?_
        · intro j15 x u x16 q17 hg18 hw19 h
          refine c_seq ?_
          refine r_start ?_
          refine p 1 ?_
          refine rend ?_
          refine c_seq ?_
          refine c_yes q17 ?_
          refine c_skip ?_
          refine c_seq ?_
          refine c_block ?_
          refine c_seq ?_
          refine r_start ?_
          refine xq rfl (y_idx (e := (eI .i64)) (el := 3) hg18 (s_own 2)) ?_
          refine xq rfl (y_el (e := (eI .i64)) 0 (.int .i64 x16) hg18 (s_own 2)) ?_
          refine p 1 ?_
          refine rend ?_
          refine c_seq ?_
          refine as_start 10 10 ?_
          refine ap 0 2 ?_
          obtain ⟨y12_2, hy12_2, h⟩ := H.call h
          refine aq 2 rfl (y_idx (e := (eI .i64)) (el := 3) hy12_2 (s_own 0)) ?_
          refine aq 3 rfl (y_el (e := (eI .i64)) 0 (.int .i64 y12_2) hy12_2 (s_own 0)) ?_
          refine ap 4 2 ?_
          obtain ⟨y12_6, hy12_6, h⟩ := H.call h
          refine aq 6 rfl (y_idx (e := (eI .i64)) (el := 3) hy12_6 (s_own 0)) ?_
          refine aq 7 rfl (y_el (e := (eI .i64)) 0 (.int .i64 y12_6) hy12_6 (s_own 0)) ?_
          refine ap 8 2 ?_
          refine a_done ?_
          refine c_or (y12_2 == (wr (y12_6 - 1))) (fun q20 => ?_) (fun q20 => ?_)
          · replace h := H.t q20 h
            refine c_seq ?_
            refine r_start ?_
            refine p 2 ?_
            refine rend ?_
            refine cx ?_
            replace h := H.inr h
            exact hj14 x16 _ _ h (by kernel_rfl) (by kernel_rfl)
          replace h := H.f q20 h
          refine c_skip ?_
          refine c_inb ?_
          refine r_start ?_
          refine p 2 ?_
          refine rend ?_
          refine c_set 43 (ci hw19) ?_
          replace h := H.inl h
          exact h () _ _ rfl (by kernel_rfl) (by kernel_rfl)
        · intro x u q17 h
          refine c_seq ?_
          refine r_start ?_
          refine p 1 ?_
          refine rend ?_
          refine c_seq ?_
          refine c_no q17 ?_
          refine cx ?_
          replace h := H.done h
          exact hj14 n4 _ _ h (by kernel_rfl) (by kernel_rfl)
      intro n13 u h
      refine r_start ?_
      refine p 2 ?_
      refine xx rfl (e_lit (e := (eI .i64)) (el := 3) [.int .i64 n13] ([n13] : List Int) fun A15_2 k15_2 => ?_)
      obtain ⟨y15_3, hy15_3, h⟩ := H.call h
      refine xx rfl (e_app 1 hy15_3 (s_own 3) fun A15_3 k15_3 => ?_)
      refine p 1 ?_
      refine rend ?_
      refine frg (fun u => (.slice A0 (List.length a0) k0 :: (jk u 1 1 (.int .i64 a2 :: (jk u 3 5 (.slice A3_2 (List.length v3_2) k3_2 :: .slice A15_3 (List.length y15_3) k15_3 :: .int .i64 n13 :: (jk u 11 53 []))))))) (by kernel_rfl) fun u => ?_
      refine keep 4 (its' := [rowT (eI .i64) w.heap.size 3 (.slice A3_2 (List.length v3_2) k3_2) v3_2, rowT (eI .i64) w.heap.size 3 (.slice A15_3 (List.length y15_3) k15_3) y15_3, rowT (eI .i64) w.heap.size 3 (.slice A9_2 (List.length v9_2) k9_2) v9_2, rowT (eI .i64) w.heap.size 3 (.slice A15_2 (List.length ([n13] : List Int)) k15_2) ([n13] : List Int)]) (by kernel_rfl) ?_
      refine c_inb ?_
      replace h := H.inl h
      exact h (n13, y15_3, A15_3, k15_3) _ _ rfl (by kernel_rfl) (by kernel_rfl)
    replace h := H.f q12 h
    refine cx ?_
    replace h := H.inr h
    exact hj11 (l5, A6, k7) _ _ h (by kernel_rfl) (by kernel_rfl)
  intro x u h
  obtain ⟨l8, A9, k10⟩ := x
  refine c_seq ?_
  refine r_start ?_
  refine p 3 ?_
  refine rend ?_
  replace h := H.done h
  subst h
  exact ret func16 rfl (vs := [.slice A9 (List.length l8) k10, .bool true]) (.tmp (by kernel_rfl) (.tmp (by kernel_rfl) .nil)) rfl (fun W S => ⟨_, _, rfl, S.row 1, S.below⟩)
theorem C.math_bits_Mul32 {a0 : Int} {a1 : Int} {r : (Int × Int)} (w : World) (h : X.math_bits_Mul32 a0 a1 = some r) : Calls prog 165 #[.int .u32 a0, .int .u32 a1] w (Ret w (.tuple #[.int .u32 r.1, .int .u32 r.2])) := by
  refine calls (M := no) (args := [.int .u32 a0, .int .u32 a1]) func165 rfl ?_
  replace h : H (X.math_bits_Mul32 a0 a1) (fun o => o = r) := H.mk h
  unfold X.math_bits_Mul32 at h
  refine c_seq ?_
  refine r_start ?_
  refine p 2 ?_
  refine rend ?_
  refine c_seq ?_
  refine r_start ?_
  refine p 6 ?_
  refine rend ?_
  refine c_seq ?_
  refine r_start ?_
  refine p 7 ?_
  refine rend ?_
  replace h := H.done h
  subst h
  exact ret func165 rfl (vs := [.int .u32 (wk .u32 (Int.fdiv (wk .u64 ((wk .u64 a0) * (wk .u64 a1))) (2 ^ (min 32 (IntKind.bits .u64))))), .int .u32 (wk .u32 (wk .u64 ((wk .u64 a0) * (wk .u64 a1))))]) (.tmp (by kernel_rfl) (.tmp (by kernel_rfl) .nil)) rfl (fun W S => ⟨rfl, S.below⟩)
theorem C.math_bits_Mul64 {a0 : Int} {a1 : Int} {r : (Int × Int)} (w : World) (h : X.math_bits_Mul64 a0 a1 = some r) : Calls prog 166 #[.int .u64 a0, .int .u64 a1] w (Ret w (.tuple #[.int .u64 r.1, .int .u64 r.2])) := by
  refine calls (M := no) (args := [.int .u64 a0, .int .u64 a1]) func166 rfl ?_
  replace h : H (X.math_bits_Mul64 a0 a1) (fun o => o = r) := H.mk h
  unfold X.math_bits_Mul64 at h
  refine c_seq ?_
  refine r_start ?_
  refine p 2 ?_
  refine rend ?_
  refine c_seq ?_
  refine r_start ?_
  refine p 3 ?_
  refine rend ?_
  refine c_seq ?_
  refine r_start ?_
  refine p 3 ?_
  refine rend ?_
  refine c_seq ?_
  refine r_start ?_
  refine p 3 ?_
  refine rend ?_
  refine c_seq ?_
  refine r_start ?_
  refine p 3 ?_
  refine rend ?_
  refine c_seq ?_
  refine r_start ?_
  refine p 4 ?_
  refine rend ?_
  refine c_seq ?_
  refine r_start ?_
  refine p 7 ?_
  refine rend ?_
  refine c_seq ?_
  refine r_start ?_
  refine p 3 ?_
  refine rend ?_
  refine c_seq ?_
  refine r_start ?_
  refine p 3 ?_
  refine rend ?_
  refine c_seq ?_
  refine r_start ?_
  refine p 6 ?_
  refine rend ?_
  refine c_seq ?_
  refine r_start ?_
  refine p 9 ?_
  refine rend ?_
  refine c_seq ?_
  refine r_start ?_
  refine p 4 ?_
  refine rend ?_
  refine frg (fun u => (jk u 0 4 (.int .u64 (wk .u64 ((wk .u64 ((wk .u64 ((Int.fdiv a0 (2 ^ (min 32 (IntKind.bits .u64)))) * (Int.fdiv a1 (2 ^ (min 32 (IntKind.bits .u64)))))) + (Int.fdiv (wk .u64 ((wk .u64 ((Int.fdiv a0 (2 ^ (min 32 (IntKind.bits .u64)))) * (wk .u64 (Int.ofNat (BitVec.ofInt (IntKind.bits .u64) a1 &&& BitVec.ofInt (IntKind.bits .u64) 4294967295).toNat)))) + (Int.fdiv (wk .u64 ((wk .u64 (Int.ofNat (BitVec.ofInt (IntKind.bits .u64) a0 &&& BitVec.ofInt (IntKind.bits .u64) 4294967295).toNat)) * (wk .u64 (Int.ofNat (BitVec.ofInt (IntKind.bits .u64) a1 &&& BitVec.ofInt (IntKind.bits .u64) 4294967295).toNat)))) (2 ^ (min 32 (IntKind.bits .u64)))))) (2 ^ (min 32 (IntKind.bits .u64)))))) + (Int.fdiv (wk .u64 ((wk .u64 (Int.ofNat (BitVec.ofInt (IntKind.bits .u64) (wk .u64 ((wk .u64 ((Int.fdiv a0 (2 ^ (min 32 (IntKind.bits .u64)))) * (wk .u64 (Int.ofNat (BitVec.ofInt (IntKind.bits .u64) a1 &&& BitVec.ofInt (IntKind.bits .u64) 4294967295).toNat)))) + (Int.fdiv (wk .u64 ((wk .u64 (Int.ofNat (BitVec.ofInt (IntKind.bits .u64) a0 &&& BitVec.ofInt (IntKind.bits .u64) 4294967295).toNat)) * (wk .u64 (Int.ofNat (BitVec.ofInt (IntKind.bits .u64) a1 &&& BitVec.ofInt (IntKind.bits .u64) 4294967295).toNat)))) (2 ^ (min 32 (IntKind.bits .u64)))))) &&& BitVec.ofInt (IntKind.bits .u64) 4294967295).toNat)) + (wk .u64 ((wk .u64 (Int.ofNat (BitVec.ofInt (IntKind.bits .u64) a0 &&& BitVec.ofInt (IntKind.bits .u64) 4294967295).toNat)) * (Int.fdiv a1 (2 ^ (min 32 (IntKind.bits .u64)))))))) (2 ^ (min 32 (IntKind.bits .u64)))))) :: .int .u64 (wk .u64 (a0 * a1)) :: (jk u 6 45 [])))) (by kernel_rfl) fun u => ?_
  replace h := H.done h
  subst h
  exact ret func166 rfl (vs := [.int .u64 (wk .u64 ((wk .u64 ((wk .u64 ((Int.fdiv a0 (2 ^ (min 32 (IntKind.bits .u64)))) * (Int.fdiv a1 (2 ^ (min 32 (IntKind.bits .u64)))))) + (Int.fdiv (wk .u64 ((wk .u64 ((Int.fdiv a0 (2 ^ (min 32 (IntKind.bits .u64)))) * (wk .u64 (Int.ofNat (BitVec.ofInt (IntKind.bits .u64) a1 &&& BitVec.ofInt (IntKind.bits .u64) 4294967295).toNat)))) + (Int.fdiv (wk .u64 ((wk .u64 (Int.ofNat (BitVec.ofInt (IntKind.bits .u64) a0 &&& BitVec.ofInt (IntKind.bits .u64) 4294967295).toNat)) * (wk .u64 (Int.ofNat (BitVec.ofInt (IntKind.bits .u64) a1 &&& BitVec.ofInt (IntKind.bits .u64) 4294967295).toNat)))) (2 ^ (min 32 (IntKind.bits .u64)))))) (2 ^ (min 32 (IntKind.bits .u64)))))) + (Int.fdiv (wk .u64 ((wk .u64 (Int.ofNat (BitVec.ofInt (IntKind.bits .u64) (wk .u64 ((wk .u64 ((Int.fdiv a0 (2 ^ (min 32 (IntKind.bits .u64)))) * (wk .u64 (Int.ofNat (BitVec.ofInt (IntKind.bits .u64) a1 &&& BitVec.ofInt (IntKind.bits .u64) 4294967295).toNat)))) + (Int.fdiv (wk .u64 ((wk .u64 (Int.ofNat (BitVec.ofInt (IntKind.bits .u64) a0 &&& BitVec.ofInt (IntKind.bits .u64) 4294967295).toNat)) * (wk .u64 (Int.ofNat (BitVec.ofInt (IntKind.bits .u64) a1 &&& BitVec.ofInt (IntKind.bits .u64) 4294967295).toNat)))) (2 ^ (min 32 (IntKind.bits .u64)))))) &&& BitVec.ofInt (IntKind.bits .u64) 4294967295).toNat)) + (wk .u64 ((wk .u64 (Int.ofNat (BitVec.ofInt (IntKind.bits .u64) a0 &&& BitVec.ofInt (IntKind.bits .u64) 4294967295).toNat)) * (Int.fdiv a1 (2 ^ (min 32 (IntKind.bits .u64)))))))) (2 ^ (min 32 (IntKind.bits .u64)))))), .int .u64 (wk .u64 (a0 * a1))]) (.tmp (by kernel_rfl) (.tmp (by kernel_rfl) .nil)) rfl (fun W S => ⟨rfl, S.below⟩)
theorem C.math_bits_Mul {a0 : Int} {a1 : Int} {r : (Int × Int)} (w : World) (h : X.math_bits_Mul a0 a1 = some r) : Calls prog 100 #[.int .u64 a0, .int .u64 a1] w (Ret w (.tuple #[.int .u64 r.1, .int .u64 r.2])) := by
  refine calls (M := no) (args := [.int .u64 a0, .int .u64 a1]) func100 rfl ?_
  replace h : H (X.math_bits_Mul a0 a1) (fun o => o = r) := H.mk h
  unfold X.math_bits_Mul at h
  refine c_seq ?_
  refine r_start ?_
  refine p 2 ?_
  refine rend ?_
  refine c_seq ?_
  refine c_f (by kernel_rfl) ?_
  refine c_skip ?_
  refine c_seq ?_
  refine r_start ?_
  refine p 2 ?_
  obtain ⟨v3_2, hv3_2, h⟩ := H.call h
  refine xq rfl (y_call [.int .u64 a0, .int .u64 a1] (.tuple #[.int .u64 v3_2.1, .int .u64 v3_2.2]) func166 (fun W S => C.math_bits_Mul64 W hv3_2)) ?_
  refine p 5 ?_
  refine rend ?_
  refine c_seq ?_
  refine r_start ?_
  refine p 4 ?_
  refine rend ?_
  replace h := H.done h
  subst h
  exact ret func100 rfl (vs := [.int .u64 v3_2.1, .int .u64 v3_2.2]) (.tmp (by kernel_rfl) (.tmp (by kernel_rfl) .nil)) rfl (fun W S => ⟨rfl, S.below⟩)
theorem C.slices_Repeat_int_int {fu : Nat} {a0 : (List Int)} {A0 : Option Addr} {k0 : Nat} {a1 : Int} {r : (List Int)} (w : World) (h : X.slices_Repeat_int_int fu a0 a1 = some r) (h0 : RdT (eI .i64) w (.slice A0 (List.length a0) k0) a0) : Calls prog 50 #[.slice A0 (List.length a0) k0, .int .i64 a1] w (RetR (eI .i64) 3 w r (fun v => v)) := by
  refine calls (M := no) (args := [.slice A0 (List.length a0) k0, .int .i64 a1]) func50 rfl ?_
  replace h : H (X.slices_Repeat_int_int fu a0 a1) (fun o => o = r) := H.mk h
  unfold X.slices_Repeat_int_int at h
  refine c_seq ?_
  refine r_start ?_
  refine p 1 ?_
  refine rend ?_
  refine c_seq ?_
  refine c_seq ?_
  refine r_start ?_
  refine p 2 ?_
  refine rend ?_
  refine c_or (decide (a1 < 0)) (fun q1 => ?_) (fun q1 => ?_)
  · replace h := H.t q1 h
    refine r_start ?_
    exact H.none h
  replace h := H.f q1 h
  refine c_skip ?_
  refine c_seq ?_
  refine r_start ?_
  refine p 5 ?_
  obtain ⟨v3_5, hv3_5, h⟩ := H.call h
  refine xq rfl (y_call [.int .u64 (wk .u64 (List.length a0 : Int)), .int .u64 (wk .u64 a1)] (.tuple #[.int .u64 v3_5.1, .int .u64 v3_5.2]) func100 (fun W S => C.math_bits_Mul W hv3_5)) ?_
  refine p 5 ?_
  refine rend ?_
  refine c_seq ?_
  refine c_seq ?_
  refine r_start ?_
  refine p 3 ?_
  refine br (decide (v3_5.1 > 0)) (fun q2 => ?_) (fun q2 => ?_)
  · replace h := H.t q2 h
    refine o_set 23 (congrArg Value.bool q2) ?_
    refine p 3 ?_
    refine rend ?_
    refine c_t (by kernel_rfl) ?_
    refine r_start ?_
    exact H.none h
  replace h := H.f q2 h
  refine o_set 23 (congrArg Value.bool q2) ?_
  refine p 3 ?_
  refine rend ?_
  refine c_or (decide (v3_5.2 > 9223372036854775807)) (fun q3 => ?_) (fun q3 => ?_)
  · replace h := H.t q3 h
    refine r_start ?_
    exact H.none h
  replace h := H.f q3 h
  refine c_skip ?_
  refine c_seq ?_
  refine r_start ?_
  refine p 2 ?_
  obtain ⟨y6_2, hy6_2, h⟩ := H.call h
  refine xx rfl (e_make (el := 3) hy6_2 fun A6_2 k6_2 => ?_)
  refine p 1 ?_
  refine rend ?_
  refine c_seq ?_
  refine r_start ?_
  refine p 2 ?_
  refine xx rfl (e_cp0 (e := (eI .i64)) (l := y6_2) 0 (s_arg h0) fun hl7_2 => ?_)
  refine o_set 7 (sl_len (A := A6_2) (c := k6_2) hl7_2) ?_
  refine p 1 ?_
  refine rend ?_
  refine c_seq ?_
  refine c_block ?_
  refine joinH (X := ((List Int) × Option Addr × Nat)) 0 (H.bnd h) (fun ⟨l8, A9, k10⟩ => l8) (fun ⟨l8, A9, k10⟩ => [rowT (eI .i64) w.heap.size 3 (.slice A9 (List.length l8) k10) l8]) (fun ⟨l8, A9, k10⟩ u => (jk u 0 7 (.slice A9 (List.length l8) k10 :: (jk u 8 40 [])))) (fun h hj11 => ?_) ?_
  · skip
    refine loopR (X := (Int × (List Int) × Option Addr × Nat)) (fun ⟨n4, l5, A6, k7⟩ => (n4, l5)) (fun ⟨n4, l5, A6, k7⟩ => [rowT (eI .i64) w.heap.size 3 (.slice A6 (List.length l5) k7) l5]) (fun ⟨n4, l5, A6, k7⟩ u => (jk u 0 7 (.slice A6 (List.length l5) k7 :: .int .i64 n4 :: (jk u 9 39 [])))) (((min (List.length a0) (List.length y6_2) : Nat) : Int), (cpL y6_2 0 a0), A6_2, k6_2) h (by kernel_rfl) (by kernel_rfl) ?_
    intro x u h
    obtain ⟨n4, l5, A6, k7⟩ := x
    refine c_seq ?_
    refine c_seq ?_
    refine r_start ?_
    refine p 4 ?_
    refine rend ?_
    refine c_or (decide (n4 < (List.length l5 : Int))) (fun q12 => ?_) (fun q12 => ?_)
    · replace h := H.t q12 h
      refine c_skip ?_
      refine c_block ?_
      refine as_start 7 10 ?_
      refine apx 0 3 ?_
      obtain ⟨y9_3, hy9_3, h⟩ := H.call h
      refine aq 3 rfl (y_cutl (e := (eI .i64)) (el := 3) hy9_3 (s_own 0)) ?_
      refine ap 4 2 ?_
      obtain ⟨y9_6, hy9_6, h⟩ := H.call h
      refine aq 6 rfl (y_cutl (e := (eI .i64)) (el := 3) hy9_6 (s_own 0)) ?_
      refine ax 7 rfl (e_cpA (e := (eI .i64)) (l := l5) 0 hy9_3 (s_cut hy9_6 (s_own 0)) fun hl9_7 => ⟨.inl (by kernel_rfl), ?_⟩)
      refine a_set 7 (sl_len (A := A6) (c := k7) hl9_7) ?_
      refine ax 8 rfl (e_y (y_pure (v := .int .i64 (wr (n4 + ((min (List.length y9_6) (List.length l5 - Int.toNat n4) : Nat) : Int)))) (by kernel_rfl)) ⟨.inl (by kernel_rfl), ?_⟩)
      refine ax 9 rfl (e_y (y_pure (v := .int .i64 (wr (n4 + ((min (List.length y9_6) (List.length l5 - Int.toNat n4) : Nat) : Int)))) (by kernel_rfl)) ⟨.inl (by kernel_rfl), ?_⟩)
      refine a_done ?_
      refine c_inb ?_
      replace h := H.inl h
      exact h ((wr (n4 + ((min (List.length y9_6) (List.length l5 - Int.toNat n4) : Nat) : Int))), (cpL l5 (Int.toNat n4) y9_6), A6, k7) _ _ rfl (by kernel_rfl) (by kernel_rfl)
    replace h := H.f q12 h
    refine cx ?_
    replace h := H.inr h
    exact hj11 (l5, A6, k7) _ _ h (by kernel_rfl) (by kernel_rfl)
  intro x u h
  obtain ⟨l8, A9, k10⟩ := x
  refine c_seq ?_
  refine r_start ?_
  refine p 2 ?_
  refine rend ?_
  replace h := H.done h
  subst h
  exact ret func50 rfl (vs := [.slice A9 (List.length l8) k10]) (.tmp (by kernel_rfl) .nil) rfl (fun W S => ⟨_, _, rfl, S.row 0, S.below⟩)
theorem C.i_those_bool {a0 : (List Bool)} {A0 : Option Addr} {k0 : Nat} {a1 : (Bool → Option Bool)} {g1 : Nat} {cp1 : List Value} {r : (List Int)} (w : World) (h : X.i_those_bool a0 a1 = some r) (h0 : RdT eB w (.slice A0 (List.length a0) k0) a0) (hg1 : isFn prog g1 = true) (hF1 : ∀ (x0 : Bool) (r : Bool) (W : World), Up w W → a1 x0 = some r → Calls prog g1 (([.bool x0] : List Value) ++ cp1).toArray W (Ret W (.bool r))) : Calls prog 216 #[.slice A0 (List.length a0) k0, .func (.func g1) #[] cp1.toArray] w (RetR (eI .i64) 3 w r (fun v => v)) := by
  refine calls (M := no) (args := [.slice A0 (List.length a0) k0, .func (.func g1) #[] cp1.toArray]) func216 rfl ?_
  replace h : H (X.i_those_bool a0 a1) (fun o => o = r) := H.mk h
  unfold X.i_those_bool at h
  refine c_seq ?_
  refine r_start ?_
  refine p 1 ?_
  refine rend ?_
  refine c_seq ?_
  refine r_start ?_
  refine p 1 ?_
  refine rend ?_
  refine c_seq ?_
  refine c_seq ?_
  refine r_start ?_
  refine p 3 ?_
  refine rend ?_
  refine c_block ?_
  refine c_nil (eI .i64) 3 ?_
  refine joinH (X := ((List Int) × Option Addr × Nat)) 0 (H.bnd h) (fun ⟨l4, A5, k6⟩ => l4) (fun ⟨l4, A5, k6⟩ => [rowT (eI .i64) w.heap.size 3 (.slice A5 (List.length l4) k6) l4]) (fun ⟨l4, A5, k6⟩ u => (jk u 0 5 (.slice A5 (List.length l4) k6 :: (jk u 6 18 [])))) (fun h hj7 => ?_) ?_
  · skip
    refine rangeR (X := ((List Int) × Option Addr × Nat)) (s_arg h0) (fun ⟨l1, A2, k3⟩ => l1) (fun ⟨l1, A2, k3⟩ => [rowT (eI .i64) w.heap.size 3 (.slice A2 (List.length l1) k3) l1]) (fun (j8 : Nat) ⟨l1, A2, k3⟩ u => (jk u 0 1 (.func (.func g1) #[] cp1.toArray :: (jk u 2 3 (.slice A2 (List.length l1) k3 :: (jk u 6 2 (.slice A0 (List.length a0) k0 :: .int .i64 (List.length a0 : Int) :: .int .i64 (j8 : Int) :: (jk u 11 13 [])))))))) (([] : List Int), none, 0) h (by kernel_rfl) (by kernel_rfl) ?_ ?_
    · intro j8 x u x9 q10 hg11 hw12 h
      obtain ⟨l1, A2, k3⟩ := x
      refine c_seq ?_
      refine r_start ?_
      refine p 1 ?_
      refine rend ?_
      refine c_seq ?_
      refine c_yes q10 ?_
      refine c_skip ?_
      refine c_seq ?_
      refine c_block ?_
      refine c_seq ?_
      refine r_start ?_
      refine p 1 ?_
      refine xq rfl (y_idx (e := eB) (el := 4) hg11 (s_arg h0)) ?_
      refine xq rfl (y_el (e := eB) 0 (.bool x9) hg11 (s_arg h0)) ?_
      refine p 2 ?_
      refine rend ?_
      refine c_seq ?_
      refine r_start ?_
      refine p 2 ?_
      obtain ⟨v5_2, hv5_2, h⟩ := H.call h
      refine xq rfl (y_cf cp1 [.bool x9] (.bool v5_2) hg1 (fun W S => hF1 _ _ W S.below hv5_2)) ?_
      refine rend ?_
      refine c_or v5_2 (fun q13 => ?_) (fun q13 => ?_)
      · replace h := H.t q13 h
        refine r_start ?_
        refine p 2 ?_
        refine xx rfl (e_lit (e := (eI .i64)) (el := 3) [.int .i64 (j8 : Int)] ([(j8 : Int)] : List Int) fun A6_2 k6_2 => ?_)
        obtain ⟨y6_3, hy6_3, h⟩ := H.call h
        refine xx rfl (e_app 0 hy6_3 (s_own 1) fun A6_3 k6_3 => ?_)
        refine p 1 ?_
        refine rend ?_
        refine c_inb ?_
        refine r_start ?_
        refine p 2 ?_
        refine rend ?_
        refine c_set 10 (ci hw12) ?_
        replace h := H.inl h
        exact h (y6_3, A6_3, k6_3) _ _ rfl (by kernel_rfl) (by kernel_rfl)
      replace h := H.f q13 h
      refine c_skip ?_
      refine c_inb ?_
      refine r_start ?_
      refine p 2 ?_
      refine rend ?_
      refine c_set 10 (ci hw12) ?_
      replace h := H.inl h
      exact h (l1, A2, k3) _ _ rfl (by kernel_rfl) (by kernel_rfl)
    · intro x u q10 h
      obtain ⟨l1, A2, k3⟩ := x
      refine c_seq ?_
      refine r_start ?_
      refine p 1 ?_
      refine rend ?_
      refine c_seq ?_
      refine c_no q10 ?_
      refine cx ?_
      replace h := H.done h
      exact hj7 (l1, A2, k3) _ _ h (by kernel_rfl) (by kernel_rfl)
  intro x u h
  obtain ⟨l4, A5, k6⟩ := x
  refine c_seq ?_
  refine r_start ?_
  refine p 2 ?_
  refine rend ?_
  replace h := H.done h
  subst h
  exact ret func216 rfl (vs := [.slice A5 (List.length l4) k6]) (.tmp (by kernel_rfl) .nil) rfl (fun W S => ⟨_, _, rfl, S.row 0, S.below⟩)
theorem C.i_partsApart_1 {a0 : Bool} {r : Bool} (w : World) (h : X.i_partsApart_1 a0 = some r) : Calls prog 217 #[.bool a0] w (Ret w (.bool r)) := by
  refine calls (M := no) (args := [.bool a0]) func217 rfl ?_
  replace h : H (X.i_partsApart_1 a0) (fun o => o = r) := H.mk h
  unfold X.i_partsApart_1 at h
  refine c_seq ?_
  refine r_start ?_
  refine p 1 ?_
  refine rend ?_
  refine c_seq ?_
  refine r_start ?_
  refine p 3 ?_
  refine rend ?_
  replace h := H.done h
  subst h
  exact ret func217 rfl (vs := [.bool (!a0)]) (.tmp (by kernel_rfl) .nil) rfl (fun W S => ⟨rfl, S.below⟩)
theorem C.i_partsApart {fu : Nat} {a0 : Sign} {a1 : Sign} {r : (List Int)} (w : World) (h : X.i_partsApart fu a0 a1 = some r) : Calls prog 167 #[.agg (eSign a0).toArray, .agg (eSign a1).toArray] w (RetR (eI .i64) 3 w r (fun v => v)) := by
  refine calls (M := no) (args := [.agg (eSign a0).toArray, .agg (eSign a1).toArray]) func167 rfl ?_
  replace h : H (X.i_partsApart fu a0 a1) (fun o => o = r) := H.mk h
  unfold X.i_partsApart at h
  refine c_seq ?_
  refine r_start ?_
  refine xx rfl (x_box (eSign a0) fun g0_0 => ?_)
  refine xx rfl (x_box (eSign a1) fun g0_1 => ?_)
  refine p 1 ?_
  refine rend ?_
  refine c_seq ?_
  refine joinT (X := (Sign × Sign × Nat × Nat)) (H.bnd h) (fun ⟨s1, s2, g1_4, g1_5⟩ => (s1, s2)) (fun ⟨s1, s2, g1_4, g1_5⟩ => [box g0_0 47 (eSign a0), box g0_1 47 (eSign a1), box g1_4 47 (eSign s1), box g1_5 47 (eSign s2)]) (fun ⟨s1, s2, g1_4, g1_5⟩ u => (jk u 0 5 (.pointer (some ⟨g1_4, 0, none⟩) :: .pointer (some ⟨g1_5, 0, none⟩) :: (jk u 7 26 [])))) (fun h hj3 => ?_) ?_
  · skip
    refine as_start 8 8 ?_
    refine aq 0 rfl (y_load (.agg (eSign a0).toArray) 0 g0_0 0) ?_
    obtain ⟨v1_1, hv1_1, h⟩ := H.call h
    refine aq 1 rfl (y_call [.agg (eSign a0).toArray] (.agg (eSign v1_1).toArray) func61 (fun W S => C.i_Sign_normal W hv1_1)) ?_
    refine aq 2 rfl (y_load (.agg (eSign a1).toArray) 1 g0_1 0) ?_
    obtain ⟨v1_3, hv1_3, h⟩ := H.call h
    refine aq 3 rfl (y_call [.agg (eSign a1).toArray] (.agg (eSign v1_3).toArray) func61 (fun W S => C.i_Sign_normal W hv1_3)) ?_
    refine a_two 4 5 rfl rfl ?_ ?_
    · skip
      refine (x_new (eSign zSign) fun g1_4 => ⟨.inr (by kernel_rfl), ?_⟩)
      refine ax 5 rfl (x_new (eSign zSign) fun g1_5 => ⟨.inr (by kernel_rfl), ?_⟩)
      refine ax 6 rfl (x_sto 2 g1_4 0 (eSign v1_1) ⟨.inr (by kernel_rfl), ?_⟩)
      refine ax 7 rfl (x_sto 3 g1_5 0 (eSign v1_3) ⟨.inr (by kernel_rfl), ?_⟩)
      refine a_done ?_
      replace h := H.done h
      exact hj3 (v1_1, v1_3, g1_4, g1_5) _ _ h (by kernel_rfl) (by kernel_rfl)
    refine (x_new (eSign zSign) fun g1_5 => ⟨.inr (by kernel_rfl), ?_⟩)
    refine ax 4 rfl (x_new (eSign zSign) fun g1_4 => ⟨.inr (by kernel_rfl), ?_⟩)
    refine ax 6 rfl (x_sto 3 g1_4 0 (eSign v1_1) ⟨.inr (by kernel_rfl), ?_⟩)
    refine ax 7 rfl (x_sto 2 g1_5 0 (eSign v1_3) ⟨.inr (by kernel_rfl), ?_⟩)
    refine a_done ?_
    refine swp [box g0_0 47 (eSign a0), box g0_1 47 (eSign a1)] (box g1_5 47 (eSign v1_3)) (box g1_4 47 (eSign v1_1)) ?_
    replace h := H.done h
    exact hj3 (v1_1, v1_3, g1_4, g1_5) _ _ h (by kernel_rfl) (by kernel_rfl)
  intro x u h
  obtain ⟨s1, s2, g1_4, g1_5⟩ := x
  refine c_seq ?_
  refine as_start 20 20 ?_
  refine ap 0 1 ?_
  refine aq 1 rfl (y_load (.agg (eHand s1.Main).toArray) 2 g1_4 0) ?_
  refine ap 2 1 ?_
  refine aq 3 rfl (y_load (.agg (eHand s2.Main).toArray) 3 g1_5 0) ?_
  refine ap 5 1 ?_
  refine aq 6 rfl (y_load (.bool s1.Two) 2 g1_4 13) ?_
  refine ap 7 1 ?_
  refine aq 8 rfl (y_load (.bool s2.Two) 3 g1_5 13) ?_
  refine ap 9 1 ?_
  obtain ⟨v2_4, hv2_4, h⟩ := H.call h
  refine ax 4 rfl (e_cr [.agg (eHand s1.Main).toArray, .agg (eHand s2.Main).toArray] (fun v => v) func96 (fun W S => C.i_Hand_same W hv2_4) fun A2_4 k2_4 => ⟨.inr (by kernel_rfl), ?_⟩)
  refine ap 10 1 ?_
  refine br (s1.Two == s2.Two) (fun q4 => ?_) (fun q4 => ?_)
  · replace h := H.t q4 h
    refine a_set 22 (congrArg Value.bool q4) ?_
    refine ap 11 1 ?_
    refine aq 12 rfl (y_load (.agg (eHand s1.Other).toArray) 2 g1_4 14) ?_
    refine ap 13 1 ?_
    refine aq 14 rfl (y_load (.agg (eHand s2.Other).toArray) 3 g1_5 14) ?_
    refine ap 15 2 ?_
    refine ax 17 rfl (e_lit (e := eB) (el := 4) [.bool (qHand s1.Other s2.Other)] ([(qHand s1.Other s2.Other)] : List Bool) fun A2_17 k2_17 => ⟨.inr (by kernel_rfl), ?_⟩)
    obtain ⟨y2_18, hy2_18, h⟩ := H.call h
    refine ax 18 rfl (e_app 4 hy2_18 (s_own 5) fun A2_18 k2_18 => ⟨.inr (by kernel_rfl), ?_⟩)
    refine ap 19 1 ?_
    refine a_done ?_
    refine c_seq ?_
    refine r_start ?_
    refine p 1 ?_
    obtain ⟨v3_1, hv3_1, h⟩ := H.call h
    refine xx rfl (e_cr [.slice A2_18 (List.length y2_18) k2_18, .func (.func 217) #[] #[]] (fun v => v) func216 (fun W S => C.i_those_bool W hv3_1 ((s_own 4).out W S) (isFn_of func217) (fun x0_2 r W2 hu2 hx2 => C.i_partsApart_1 W2 hx2)) fun A3_1 k3_1 => ?_)
    refine p 1 ?_
    refine rend ?_
    replace h := H.done h
    subst h
    exact ret func167 rfl (vs := [.slice A3_1 (List.length v3_1) k3_1]) (.tmp (by kernel_rfl) .nil) rfl (fun W S => ⟨_, _, rfl, S.row 6, S.below⟩)
  replace h := H.f q4 h
  refine a_set 22 (congrArg Value.bool q4) ?_
  refine ap 11 6 ?_
  refine ax 17 rfl (e_lit (e := eB) (el := 4) [.bool false] ([false] : List Bool) fun A2_17 k2_17 => ⟨.inr (by kernel_rfl), ?_⟩)
  obtain ⟨y2_18, hy2_18, h⟩ := H.call h
  refine ax 18 rfl (e_app 4 hy2_18 (s_own 5) fun A2_18 k2_18 => ⟨.inr (by kernel_rfl), ?_⟩)
  refine ap 19 1 ?_
  refine a_done ?_
  refine c_seq ?_
  refine r_start ?_
  refine p 1 ?_
  obtain ⟨v3_1, hv3_1, h⟩ := H.call h
  refine xx rfl (e_cr [.slice A2_18 (List.length y2_18) k2_18, .func (.func 217) #[] #[]] (fun v => v) func216 (fun W S => C.i_those_bool W hv3_1 ((s_own 4).out W S) (isFn_of func217) (fun x0_2 r W2 hu2 hx2 => C.i_partsApart_1 W2 hx2)) fun A3_1 k3_1 => ?_)
  refine p 1 ?_
  refine rend ?_
  replace h := H.done h
  subst h
  exact ret func167 rfl (vs := [.slice A3_1 (List.length v3_1) k3_1]) (.tmp (by kernel_rfl) .nil) rfl (fun W S => ⟨_, _, rfl, S.row 6, S.below⟩)
theorem C.i_isPair {fu : Nat} {a0 : Sign} {a1 : Sign} {r : Bool} (w : World) (h : X.i_isPair fu a0 a1 = some r) : Calls prog 103 #[.agg (eSign a0).toArray, .agg (eSign a1).toArray] w (Ret w (.bool r)) := by
  refine calls (M := no) (args := [.agg (eSign a0).toArray, .agg (eSign a1).toArray]) func103 rfl ?_
  replace h : H (X.i_isPair fu a0 a1) (fun o => o = r) := H.mk h
  unfold X.i_isPair at h
  refine c_seq ?_
  refine r_start ?_
  refine xx rfl (x_box (eSign a0) fun g0_0 => ?_)
  refine xx rfl (x_box (eSign a1) fun g0_1 => ?_)
  refine p 1 ?_
  refine rend ?_
  refine c_seq ?_
  refine r_start ?_
  refine xq rfl (y_load (.agg (eSign a0).toArray) 0 g0_0 0) ?_
  refine xq rfl (y_load (.agg (eSign a1).toArray) 1 g0_1 0) ?_
  obtain ⟨v1_2, hv1_2, h⟩ := H.call h
  refine xx rfl (e_cr [.agg (eSign a0).toArray, .agg (eSign a1).toArray] (fun v => v) func167 (fun W S => C.i_partsApart W hv1_2) fun A1_2 k1_2 => ?_)
  refine p 3 ?_
  refine rend ?_
  replace h := H.done h
  subst h
  exact ret func103 rfl (vs := [.bool ((List.length v1_2 : Int) == 1)]) (.tmp (by kernel_rfl) .nil) rfl (fun W S => ⟨rfl, S.below⟩)
theorem C.i_pairsWith_1 {fu : Nat} {a0 : Sign} {a1 : (List Sign)} {A1 : Option Addr} {k1 : Nat} {p1 : Nat} {a2 : Int} {p2 : Nat} {r : Bool} (w : World) (h : X.i_pairsWith_1 fu a1 a2 a0 = some r) (h1 : RdT nSign w (.slice A1 (List.length a1) k1) a1) (hp1 : w.heap[p1]? = some (.cells ([.slice A1 (List.length a1) k1] : List Value).toArray 55 (0, 0))) (hp2 : w.heap[p2]? = some (.cells ([.int .i64 a2] : List Value).toArray 3 (0, 0))) : Calls prog 102 #[.agg (eSign a0).toArray, .pointer (some ⟨p1, 0, none⟩), .pointer (some ⟨p2, 0, none⟩)] w (Ret w (.bool r)) := by
  refine calls (M := no) (args := [.agg (eSign a0).toArray, .pointer (some ⟨p1, 0, none⟩), .pointer (some ⟨p2, 0, none⟩)]) func102 rfl ?_
  replace h : H (X.i_pairsWith_1 fu a1 a2 a0) (fun o => o = r) := H.mk h
  unfold X.i_pairsWith_1 at h
  refine c_seq ?_
  refine r_start ?_
  refine xx rfl (x_box (eSign a0) fun g0_0 => ?_)
  refine p 1 ?_
  refine rend ?_
  refine c_seq ?_
  refine as_start 7 7 ?_
  refine aq 0 rfl (y_ld0 (.slice A1 (List.length a1) k1) p1 0 hp1) ?_
  refine aq 1 rfl (y_ld0 (.int .i64 a2) p2 0 hp2) ?_
  obtain ⟨y1_2, hy1_2, h⟩ := H.call h
  refine aq 2 rfl (y_idx (e := nSign) (el := 47) hy1_2 (s_arg h1)) ?_
  refine aq 3 rfl (y_el (e := nSign) 0 (.agg (eSign y1_2).toArray) hy1_2 (s_arg h1)) ?_
  refine aq 4 rfl (y_load (.agg (eSign a0).toArray) 0 g0_0 0) ?_
  obtain ⟨v1_5, hv1_5, h⟩ := H.call h
  refine aq 5 rfl (y_call [.agg (eSign y1_2).toArray, .agg (eSign a0).toArray] (.bool v1_5) func103 (fun W S => C.i_isPair W hv1_5)) ?_
  refine ap 6 1 ?_
  refine a_done ?_
  replace h := H.done h
  subst h
  exact ret func102 rfl (vs := [.bool v1_5]) (.tmp (by kernel_rfl) .nil) rfl (fun W S => ⟨rfl, S.below⟩)
theorem C.i_pairsWith {fu : Nat} {a0 : (List Sign)} {A0 : Option Addr} {k0 : Nat} {a1 : Int} {r : (List Int)} (w : World) (h : X.i_pairsWith fu a0 a1 = some r) (h0 : RdT nSign w (.slice A0 (List.length a0) k0) a0) : Calls prog 51 #[.slice A0 (List.length a0) k0, .int .i64 a1] w (RetR (eI .i64) 3 w r (fun v => v)) := by
  refine calls (M := no) (args := [.slice A0 (List.length a0) k0, .int .i64 a1]) func51 rfl ?_
  replace h : H (X.i_pairsWith fu a0 a1) (fun o => o = r) := H.mk h
  unfold X.i_pairsWith at h
  refine c_seq ?_
  refine r_start ?_
  refine xx rfl (x_box [.slice A0 (List.length a0) k0] fun g0_0 => ?_)
  refine xx rfl (x_box [.int .i64 a1] fun g0_1 => ?_)
  refine p 1 ?_
  refine rend ?_
  refine c_seq ?_
  refine r_start ?_
  refine xq rfl (y_load (.slice A0 (List.length a0) k0) 0 g0_0 0) ?_
  refine p 1 ?_
  obtain ⟨v1_2, hv1_2, h⟩ := H.call h
  refine xx rfl (e_cr [.slice A0 (List.length a0) k0, .func (.func 102) #[] #[.pointer (some ⟨g0_0, 0, none⟩), .pointer (some ⟨g0_1, 0, none⟩)]] (fun v => v) func101 (fun W S => C.i_those_i_Sign W hv1_2 ((s_arg h0).out W S) (isFn_of func102) (fun x0_2 r W2 hu2 hx2 => C.i_pairsWith_1 W2 hx2 (Rd.up ((s_arg h0).out W S) hu2) (bx_up (S.bx 0) hu2) (bx_up (S.bx 1) hu2))) fun A1_2 k1_2 => ?_)
  refine p 1 ?_
  refine rend ?_
  replace h := H.done h
  subst h
  exact ret func51 rfl (vs := [.slice A1_2 (List.length v1_2) k1_2]) (.tmp (by kernel_rfl) .nil) rfl (fun W S => ⟨_, _, rfl, S.row 2, S.below⟩)
theorem C.i_StepsBetween_1 {a0 : Int} {a1 : (List Int)} {A1 : Option Addr} {k1 : Nat} {p1 : Nat} {a2 : Int} {p2 : Nat} {r : Bool} (w : World) (h : X.i_StepsBetween_1 a1 a2 a0 = some r) (h1 : RdT (eI .i64) w (.slice A1 (List.length a1) k1) a1) (hp1 : w.heap[p1]? = some (.cells ([.slice A1 (List.length a1) k1] : List Value).toArray 52 (0, 0))) (hp2 : w.heap[p2]? = some (.cells ([.int .i64 a2] : List Value).toArray 3 (0, 0))) : Calls prog 53 #[.int .i64 a0, .pointer (some ⟨p1, 0, none⟩), .pointer (some ⟨p2, 0, none⟩)] w (Ret w (.bool r)) := by
  refine calls (M := no) (args := [.int .i64 a0, .pointer (some ⟨p1, 0, none⟩), .pointer (some ⟨p2, 0, none⟩)]) func53 rfl ?_
  replace h : H (X.i_StepsBetween_1 a1 a2 a0) (fun o => o = r) := H.mk h
  unfold X.i_StepsBetween_1 at h
  refine c_seq ?_
  refine r_start ?_
  refine p 1 ?_
  refine rend ?_
  refine c_seq ?_
  refine as_start 11 11 ?_
  refine aq 0 rfl (y_ld0 (.slice A1 (List.length a1) k1) p1 0 hp1) ?_
  refine ap 1 1 ?_
  obtain ⟨y1_2, hy1_2, h⟩ := H.call h
  refine aq 2 rfl (y_idx (e := (eI .i64)) (el := 3) hy1_2 (s_arg h1)) ?_
  refine aq 3 rfl (y_el (e := (eI .i64)) 0 (.int .i64 y1_2) hy1_2 (s_arg h1)) ?_
  refine aq 4 rfl (y_ld0 (.slice A1 (List.length a1) k1) p1 0 hp1) ?_
  refine aq 5 rfl (y_ld0 (.int .i64 a2) p2 0 hp2) ?_
  obtain ⟨y1_6, hy1_6, h⟩ := H.call h
  refine aq 6 rfl (y_idx (e := (eI .i64)) (el := 3) hy1_6 (s_arg h1)) ?_
  refine aq 7 rfl (y_el (e := (eI .i64)) 0 (.int .i64 y1_6) hy1_6 (s_arg h1)) ?_
  refine ap 8 3 ?_
  refine a_done ?_
  replace h := H.done h
  subst h
  exact ret func53 rfl (vs := [.bool (y1_2 == (wr (y1_6 - 1)))]) (.tmp (by kernel_rfl) .nil) rfl (fun W S => ⟨rfl, S.below⟩)
theorem C.i_StepsBetween {fu : Nat} {a0 : (List Sign)} {A0 : Option Addr} {k0 : Nat} {a1 : Int} {a2 : Int} {r : ((List Int) × Bool)} (w : World) (h : X.i_StepsBetween fu a0 a1 a2 = some r) (h0 : RdT nSign w (.slice A0 (List.length a0) k0) a0) : Calls prog 18 #[.slice A0 (List.length a0) k0, .int .i64 a1, .int .i64 a2] w (RetR (eI .i64) 3 w r.1 (fun v => .tuple #[v, .bool r.2])) := by
  refine calls (M := no) (args := [.slice A0 (List.length a0) k0, .int .i64 a1, .int .i64 a2]) func18 rfl ?_
  replace h : H (X.i_StepsBetween fu a0 a1 a2) (fun o => o = r) := H.mk h
  unfold X.i_StepsBetween at h
  refine c_seq ?_
  refine r_start ?_
  refine p 2 ?_
  refine rend ?_
  refine c_seq ?_
  refine c_seq ?_
  refine r_start ?_
  refine p 1 ?_
  obtain ⟨v1_1, hv1_1, h⟩ := H.call h
  refine xq rfl (y_call [.slice A0 (List.length a0) k0, .int .i64 16] (.bool v1_1) func48 (fun W S => C.i_areSigns W hv1_1 ((s_arg h0).out W S))) ?_
  refine p 2 ?_
  refine br (!v1_1) (fun q1 => ?_) (fun q1 => ?_)
  · replace h := H.t q1 h
    refine o_set 18 (congrArg Value.bool q1) ?_
    refine p 15 ?_
    refine rend ?_
    refine c_t (by kernel_rfl) ?_
    refine c_seq ?_
    refine r_start ?_
    refine p 2 ?_
    refine rend ?_
    replace h := H.done h
    subst h
    exact ret func18 rfl (vs := [.slice none 0 0, .bool false]) (.tmp (by kernel_rfl) (.tmp (by kernel_rfl) .nil)) rfl (fun W S => ⟨none, 0, rfl, World.ownsRow_nil _ _ _ _, S.below⟩)
  replace h := H.f q1 h
  refine o_set 18 (congrArg Value.bool q1) ?_
  refine p 4 ?_
  obtain ⟨v1_8, hv1_8, h⟩ := H.call h
  refine xq rfl (y_call [.int .i64 a1, .int .i64 0, .int .i64 (wr ((List.length a0 : Int) - 1))] (.bool v1_8) func49 (fun W S => C.i_within W hv1_8)) ?_
  refine p 3 ?_
  refine br (!v1_8) (fun q2 => ?_) (fun q2 => ?_)
  · replace h := H.t q2 h
    refine o_set 26 (congrArg Value.bool q2) ?_
    refine p 7 ?_
    refine rend ?_
    refine c_t (by kernel_rfl) ?_
    refine c_seq ?_
    refine r_start ?_
    refine p 2 ?_
    refine rend ?_
    replace h := H.done h
    subst h
    exact ret func18 rfl (vs := [.slice none 0 0, .bool false]) (.tmp (by kernel_rfl) (.tmp (by kernel_rfl) .nil)) rfl (fun W S => ⟨none, 0, rfl, World.ownsRow_nil _ _ _ _, S.below⟩)
  replace h := H.f q2 h
  refine o_set 26 (congrArg Value.bool q2) ?_
  refine p 4 ?_
  obtain ⟨v1_16, hv1_16, h⟩ := H.call h
  refine xq rfl (y_call [.int .i64 a2, .int .i64 0, .int .i64 (wr ((List.length a0 : Int) - 1))] (.bool v1_16) func49 (fun W S => C.i_within W hv1_16)) ?_
  refine p 2 ?_
  refine rend ?_
  refine c_or (!v1_16) (fun q3 => ?_) (fun q3 => ?_)
  · replace h := H.t q3 h
    refine c_seq ?_
    refine r_start ?_
    refine p 2 ?_
    refine rend ?_
    replace h := H.done h
    subst h
    exact ret func18 rfl (vs := [.slice none 0 0, .bool false]) (.tmp (by kernel_rfl) (.tmp (by kernel_rfl) .nil)) rfl (fun W S => ⟨none, 0, rfl, World.ownsRow_nil _ _ _ _, S.below⟩)
  replace h := H.f q3 h
  refine c_skip ?_
  refine c_seq ?_
  refine r_start ?_
  refine xx rfl (e_lit (e := (eI .i64)) (el := 3) [.int .i64 (-1)] ([(-1)] : List Int) fun A3_0 k3_0 => ?_)
  refine p 2 ?_
  obtain ⟨v3_3, hv3_3, h⟩ := H.call h
  refine xx rfl (e_cr [.slice A3_0 (List.length ([(-1)] : List Int)) k3_0, .int .i64 (List.length a0 : Int)] (fun v => v) func50 (fun W S => C.slices_Repeat_int_int W hv3_3 ((s_own 0).out W S)) fun A3_3 k3_3 => ?_)
  refine xx rfl (x_new [.slice none 0 0] fun g3_4 => ?_)
  refine xx rfl (x_sto 2 g3_4 0 [.slice A3_3 (List.length v3_3) k3_3] ?_)
  refine rend ?_
  refine c_seq ?_
  refine r_start ?_
  refine xq rfl (y_load (.slice A3_3 (List.length v3_3) k3_3) 2 g3_4 0) ?_
  refine p 1 ?_
  obtain ⟨y4_2, hy4_2, h⟩ := H.call h
  refine xq rfl (y_idx (e := (eI .i64)) (el := 3) hy4_2 (s_own 1)) ?_
  refine xx rfl (e_stel (e := (eI .i64)) (b := 0) 1 0 ([.int .i64 0]) hy4_2 (by kernel_rfl) ?_)
  refine o_bxeq 2 (congrArg (fun v => [v]) (sl_set (A := A3_3) (c := k3_3) (l := v3_3) (n := Int.toNat a2) (b := 0))) ?_
  refine rend ?_
  refine c_seq ?_
  refine c_seq ?_
  refine r_start ?_
  refine p 1 ?_
  refine xx rfl (e_lit (e := (eI .i64)) (el := 3) [.int .i64 a2] ([a2] : List Int) fun A5_1 k5_1 => ?_)
  refine p 1 ?_
  refine rend ?_
  refine c_block ?_
  refine c_toX 3 ?_
  refine joinH (X := ((List Int) × (List Int) × Option Addr × Nat × Option Addr × Nat)) 0 (H.bnd h) (fun ⟨l10, l13, A11, k12, A14, k15⟩ => (l10, l13)) (fun ⟨l10, l13, A11, k12, A14, k15⟩ => [rowT (eI .i64) w.heap.size 3 (.slice A3_0 (List.length ([(-1)] : List Int)) k3_0) ([(-1)] : List Int), rowT (eI .i64) w.heap.size 3 (.slice A11 (List.length l10) k12) l10, box g3_4 52 [.slice A11 (List.length l10) k12], rowX (eI .i64) w.heap.size 3 (.slice A14 (List.length l13) k15) l13]) (fun ⟨l10, l13, A11, k12, A14, k15⟩ u => (.slice A0 (List.length a0) k0 :: .int .i64 a1 :: .int .i64 a2 :: (jk u 3 5 (.pointer (some ⟨g3_4, 0, none⟩) :: (jk u 9 95 []))))) (fun h hj16 => ?_) ?_
  · skip
    refine loopR (X := ((List Int) × (List Int) × Option Addr × Nat × Option Addr × Nat)) (fun ⟨l4, l7, A5, k6, A8, k9⟩ => (l4, l7)) (fun ⟨l4, l7, A5, k6, A8, k9⟩ => [rowT (eI .i64) w.heap.size 3 (.slice A3_0 (List.length ([(-1)] : List Int)) k3_0) ([(-1)] : List Int), rowT (eI .i64) w.heap.size 3 (.slice A5 (List.length l4) k6) l4, box g3_4 52 [.slice A5 (List.length l4) k6], rowX (eI .i64) w.heap.size 3 (.slice A8 (List.length l7) k9) l7]) (fun ⟨l4, l7, A5, k6, A8, k9⟩ u => (.slice A0 (List.length a0) k0 :: .int .i64 a1 :: .int .i64 a2 :: (jk u 3 5 (.pointer (some ⟨g3_4, 0, none⟩) :: .slice A8 (List.length l7) k9 :: (jk u 10 94 []))))) ((List.set v3_3 (Int.toNat a2) 0), ([a2] : List Int), A3_3, k3_3, A5_1, k5_1) h (by kernel_rfl) (by kernel_rfl) ?_
    intro x u h
    obtain ⟨l4, l7, A5, k6, A8, k9⟩ := x
    refine c_seq ?_
    refine c_seq ?_
    refine r_start ?_
    refine p 3 ?_
    refine rend ?_
    refine c_or (decide ((List.length l7 : Int) > 0)) (fun q17 => ?_) (fun q17 => ?_)
    · replace h := H.t q17 h
      refine c_skip ?_
      refine c_seq ?_
      refine c_block ?_
      refine c_seq ?_
      refine r_start ?_
      refine p 2 ?_
      obtain ⟨y8_2, hy8_2, h⟩ := H.call h
      refine xq rfl (y_idx (e := (eI .i64)) (el := 3) hy8_2 (s_ownX 3)) ?_
      refine xq rfl (y_el (e := (eI .i64)) 0 (.int .i64 y8_2) hy8_2 (s_ownX 3)) ?_
      obtain ⟨v8_4, hv8_4, h⟩ := H.call h
      refine xx rfl (e_cr [.slice A0 (List.length a0) k0, .int .i64 y8_2] (fun v => v) func51 (fun W S => C.i_pairsWith W hv8_4 ((s_arg h0).out W S)) fun A8_4 k8_4 => ?_)
      refine p 2 ?_
      refine rend ?_
      refine c_block ?_
      refine joinH (X := ((List Int) × (List Int) × Option Addr × Nat × Option Addr × Nat)) 2 (H.bnd h) (fun ⟨l24, l27, A25, k26, A28, k29⟩ => (l24, l27)) (fun ⟨l24, l27, A25, k26, A28, k29⟩ => [rowT (eI .i64) w.heap.size 3 (.slice A3_0 (List.length ([(-1)] : List Int)) k3_0) ([(-1)] : List Int), rowT (eI .i64) w.heap.size 3 (.slice A25 (List.length l24) k26) l24, box g3_4 52 [.slice A25 (List.length l24) k26], rowX (eI .i64) w.heap.size 3 (.slice A28 (List.length l27) k29) l27, rowT (eI .i64) w.heap.size 3 (.slice A8_4 (List.length v8_4) k8_4) v8_4]) (fun ⟨l24, l27, A25, k26, A28, k29⟩ u => (.slice A0 (List.length a0) k0 :: .int .i64 a1 :: .int .i64 a2 :: (jk u 3 5 (.pointer (some ⟨g3_4, 0, none⟩) :: .slice A28 (List.length l27) k29 :: (jk u 10 94 []))))) (fun h hj30 => ?_) ?_
      · skip
        refine rangeR (X := ((List Int) × (List Int) × Option Addr × Nat × Option Addr × Nat)) (s_own 4) (fun ⟨l18, l21, A19, k20, A22, k23⟩ => (l18, l21)) (fun ⟨l18, l21, A19, k20, A22, k23⟩ => [rowT (eI .i64) w.heap.size 3 (.slice A3_0 (List.length ([(-1)] : List Int)) k3_0) ([(-1)] : List Int), rowT (eI .i64) w.heap.size 3 (.slice A19 (List.length l18) k20) l18, box g3_4 52 [.slice A19 (List.length l18) k20], rowX (eI .i64) w.heap.size 3 (.slice A22 (List.length l21) k23) l21, rowT (eI .i64) w.heap.size 3 (.slice A8_4 (List.length v8_4) k8_4) v8_4]) (fun (j31 : Nat) ⟨l18, l21, A19, k20, A22, k23⟩ u => (.slice A0 (List.length a0) k0 :: .int .i64 a1 :: .int .i64 a2 :: (jk u 3 5 (.pointer (some ⟨g3_4, 0, none⟩) :: .slice A22 (List.length l21) k23 :: (jk u 10 42 (.slice A8_4 (List.length v8_4) k8_4 :: .int .i64 (List.length v8_4 : Int) :: .int .i64 (j31 : Int) :: (jk u 55 49 []))))))) (l4, l7, A5, k6, A8, k9) h (by kernel_rfl) (by kernel_rfl) ?_ ?_
        · intro j31 x u x32 q33 hg34 hw35 h
          obtain ⟨l18, l21, A19, k20, A22, k23⟩ := x
          refine c_seq ?_
          refine r_start ?_
          refine p 1 ?_
          refine rend ?_
          refine c_seq ?_
          refine c_yes q33 ?_
          refine c_skip ?_
          refine c_seq ?_
          refine c_block ?_
          refine c_seq ?_
          refine r_start ?_
          refine xq rfl (y_idx (e := (eI .i64)) (el := 3) hg34 (s_own 4)) ?_
          refine xq rfl (y_el (e := (eI .i64)) 0 (.int .i64 x32) hg34 (s_own 4)) ?_
          refine p 1 ?_
          refine rend ?_
          refine c_seq ?_
          refine r_start ?_
          refine xq rfl (y_load (.slice A19 (List.length l18) k20) 2 g3_4 0) ?_
          refine p 1 ?_
          obtain ⟨y11_2, hy11_2, h⟩ := H.call h
          refine xq rfl (y_idx (e := (eI .i64)) (el := 3) hy11_2 (s_own 1)) ?_
          refine xq rfl (y_el (e := (eI .i64)) 0 (.int .i64 y11_2) hy11_2 (s_own 1)) ?_
          refine p 1 ?_
          refine rend ?_
          refine c_or (decide (y11_2 < 0)) (fun q36 => ?_) (fun q36 => ?_)
          · replace h := H.t q36 h
            refine c_seq ?_
            refine as_start 10 11 ?_
            refine aq 0 rfl (y_load (.slice A19 (List.length l18) k20) 2 g3_4 0) ?_
            refine ap 1 1 ?_
            refine aq 2 rfl (y_load (.slice A19 (List.length l18) k20) 2 g3_4 0) ?_
            refine ap 3 1 ?_
            obtain ⟨y12_4, hy12_4, h⟩ := H.call h
            refine aq 4 rfl (y_idx (e := (eI .i64)) (el := 3) hy12_4 (s_ownX 3)) ?_
            refine aq 5 rfl (y_el (e := (eI .i64)) 0 (.int .i64 y12_4) hy12_4 (s_ownX 3)) ?_
            obtain ⟨y12_6, hy12_6, h⟩ := H.call h
            refine aq 6 rfl (y_idx (e := (eI .i64)) (el := 3) hy12_6 (s_own 1)) ?_
            refine aq 7 rfl (y_el (e := (eI .i64)) 0 (.int .i64 y12_6) hy12_6 (s_own 1)) ?_
            refine ap 8 1 ?_
            refine aq 9 rfl (y_idx (e := (eI .i64)) (el := 3) hy11_2 (s_own 1)) ?_
            refine ax 10 rfl (e_stel (e := (eI .i64)) (b := (wr (y12_6 + 1))) 1 0 ([.int .i64 (wr (y12_6 + 1))]) hy11_2 (by kernel_rfl) ⟨.inl (by kernel_rfl), ?_⟩)
            refine a_bxeq 2 (congrArg (fun v => [v]) (sl_set (A := A19) (c := k20) (l := l18) (n := Int.toNat x32) (b := (wr (y12_6 + 1))))) ?_
            refine a_done ?_
            refine r_start ?_
            refine p 2 ?_
            refine xx rfl (e_lit (e := (eI .i64)) (el := 3) [.int .i64 x32] ([x32] : List Int) fun A13_2 k13_2 => ?_)
            obtain ⟨y13_3, hy13_3, h⟩ := H.call h
            refine xx rfl (e_appX 3 hy13_3 (s_own 5) fun A13_3 k13_3 => ?_)
            refine p 1 ?_
            refine rend ?_
            refine c_inb ?_
            refine r_start ?_
            refine p 2 ?_
            refine rend ?_
            refine c_set 54 (ci hw35) ?_
            replace h := H.inl h
            exact h ((List.set l18 (Int.toNat x32) (wr (y12_6 + 1))), y13_3, A19, k20, A13_3, k13_3) _ _ rfl (by kernel_rfl) (by kernel_rfl)
          replace h := H.f q36 h
          refine c_skip ?_
          refine c_inb ?_
          refine r_start ?_
          refine p 2 ?_
          refine rend ?_
          refine c_set 54 (ci hw35) ?_
          replace h := H.inl h
          exact h (l18, l21, A19, k20, A22, k23) _ _ rfl (by kernel_rfl) (by kernel_rfl)
        · intro x u q33 h
          obtain ⟨l18, l21, A19, k20, A22, k23⟩ := x
          refine c_seq ?_
          refine r_start ?_
          refine p 1 ?_
          refine rend ?_
          refine c_seq ?_
          refine c_no q33 ?_
          refine cx ?_
          replace h := H.done h
          exact hj30 (l18, l21, A19, k20, A22, k23) _ _ h (by kernel_rfl) (by kernel_rfl)
      intro x u h
      obtain ⟨l24, l27, A25, k26, A28, k29⟩ := x
      refine c_inb ?_
      refine r_start ?_
      refine p 1 ?_
      obtain ⟨y7_1, hy7_1, h⟩ := H.call h
      refine xq rfl (y_cutl (e := (eI .i64)) (el := 3) hy7_1 (s_ownX 3)) ?_
      refine o_cutX 3 hy7_1 ?_
      refine p 1 ?_
      refine rend ?_
      replace h := H.inl h
      exact h (l24, y7_1, A25, k26, cutA (eI .i64) A28 k29 (Int.toNat 1), k29 - Int.toNat 1) _ _ rfl (by kernel_rfl) (by kernel_rfl)
    replace h := H.f q17 h
    refine cx ?_
    replace h := H.inr h
    exact hj16 (l4, l7, A5, k6, A8, k9) _ _ h (by kernel_rfl) (by kernel_rfl)
  intro x u h
  obtain ⟨l10, l13, A11, k12, A14, k15⟩ := x
  refine c_seq ?_
  refine c_seq ?_
  refine r_start ?_
  refine xq rfl (y_load (.slice A11 (List.length l10) k12) 2 g3_4 0) ?_
  refine p 1 ?_
  obtain ⟨y15_2, hy15_2, h⟩ := H.call h
  refine xq rfl (y_idx (e := (eI .i64)) (el := 3) hy15_2 (s_own 1)) ?_
  refine xq rfl (y_el (e := (eI .i64)) 0 (.int .i64 y15_2) hy15_2 (s_own 1)) ?_
  refine p 1 ?_
  refine rend ?_
  refine c_or (decide (y15_2 < 0)) (fun q37 => ?_) (fun q37 => ?_)
  · replace h := H.t q37 h
    refine c_seq ?_
    refine r_start ?_
    refine p 2 ?_
    refine rend ?_
    replace h := H.done h
    subst h
    exact ret func18 rfl (vs := [.slice none 0 0, .bool false]) (.tmp (by kernel_rfl) (.tmp (by kernel_rfl) .nil)) rfl (fun W S => ⟨none, 0, rfl, World.ownsRow_nil _ _ _ _, S.below⟩)
  replace h := H.f q37 h
  refine c_skip ?_
  refine c_seq ?_
  refine r_start ?_
  refine p 1 ?_
  refine xx rfl (e_lit (e := (eI .i64)) (el := 3) [.int .i64 a1] ([a1] : List Int) fun A17_1 k17_1 => ?_)
  refine p 1 ?_
  refine rend ?_
  refine c_seq ?_
  refine c_seq ?_
  refine r_start ?_
  refine p 1 ?_
  refine xx rfl (x_new [.int .i64 0] fun g18_1 => ?_)
  refine xx rfl (x_sto 5 g18_1 0 [.int .i64 a1] ?_)
  refine rend ?_
  refine c_block ?_
  refine joinH (X := ((List Int) × Int × Option Addr × Nat × Nat)) 4 (H.bnd h) (fun ⟨l43, s46, A44, k45, g47⟩ => (l43, s46)) (fun ⟨l43, s46, A44, k45, g47⟩ => [rowT (eI .i64) w.heap.size 3 (.slice A3_0 (List.length ([(-1)] : List Int)) k3_0) ([(-1)] : List Int), rowT (eI .i64) w.heap.size 3 (.slice A11 (List.length l10) k12) l10, box g3_4 52 [.slice A11 (List.length l10) k12], rowX (eI .i64) w.heap.size 3 (.slice A14 (List.length l13) k15) l13, rowT (eI .i64) w.heap.size 3 (.slice A44 (List.length l43) k45) l43, box g47 3 [.int .i64 s46]]) (fun ⟨l43, s46, A44, k45, g47⟩ u => (jk u 0 12 (.slice A44 (List.length l43) k45 :: (jk u 13 91 [])))) (fun h hj48 => ?_) ?_
  · skip
    refine loopR (X := ((List Int) × Int × Option Addr × Nat × Nat)) (fun ⟨l38, s41, A39, k40, g42⟩ => (l38, s41)) (fun ⟨l38, s41, A39, k40, g42⟩ => [rowT (eI .i64) w.heap.size 3 (.slice A3_0 (List.length ([(-1)] : List Int)) k3_0) ([(-1)] : List Int), rowT (eI .i64) w.heap.size 3 (.slice A11 (List.length l10) k12) l10, box g3_4 52 [.slice A11 (List.length l10) k12], rowX (eI .i64) w.heap.size 3 (.slice A14 (List.length l13) k15) l13, rowT (eI .i64) w.heap.size 3 (.slice A39 (List.length l38) k40) l38, box g42 3 [.int .i64 s41]]) (fun ⟨l38, s41, A39, k40, g42⟩ u => (.slice A0 (List.length a0) k0 :: (jk u 1 1 (.int .i64 a2 :: (jk u 3 5 (.pointer (some ⟨g3_4, 0, none⟩) :: (jk u 9 3 (.slice A39 (List.length l38) k40 :: .pointer (some ⟨g42, 0, none⟩) :: (jk u 14 90 []))))))))) (([a1] : List Int), a1, A17_1, k17_1, g18_1) h (by kernel_rfl) (by kernel_rfl) ?_
    intro x u h
    obtain ⟨l38, s41, A39, k40, g42⟩ := x
    refine c_seq ?_
    refine c_seq ?_
    refine r_start ?_
    refine xq rfl (y_load (.int .i64 s41) 5 g42 0) ?_
    refine p 2 ?_
    refine rend ?_
    refine c_or (s41 != a2) (fun q49 => ?_) (fun q49 => ?_)
    · replace h := H.t q49 h
      refine c_skip ?_
      refine c_seq ?_
      refine c_block ?_
      refine c_seq ?_
      refine r_start ?_
      refine p 1 ?_
      refine xq rfl (y_load (.int .i64 s41) 5 g42 0) ?_
      obtain ⟨v20_2, hv20_2, h⟩ := H.call h
      refine xx rfl (e_cr [.slice A0 (List.length a0) k0, .int .i64 s41] (fun v => v) func51 (fun W S => C.i_pairsWith W hv20_2 ((s_arg h0).out W S)) fun A20_2 k20_2 => ?_)
      refine p 1 ?_
      refine rend ?_
      refine c_seq ?_
      refine r_start ?_
      refine p 3 ?_
      obtain ⟨v21_3, hv21_3, h⟩ := H.call h
      refine xq rfl (y_call [.slice A20_2 (List.length v20_2) k20_2, .func (.func 53) #[] #[.pointer (some ⟨g3_4, 0, none⟩), .pointer (some ⟨g42, 0, none⟩)]] (.int .i64 v21_3) func52 (fun W S => C.slices_IndexFunc_int_int W hv21_3 ((s_own 6).out W S) (isFn_of func53) (fun x0_2 r W2 hu2 hx2 => C.i_StepsBetween_1 W2 hx2 (Rd.up ((s_own 1).out W S) hu2) (bx_up (S.bx 2) hu2) (bx_up (S.bx 5) hu2)))) ?_
      obtain ⟨y21_4, hy21_4, h⟩ := H.call h
      refine xq rfl (y_idx (e := (eI .i64)) (el := 3) hy21_4 (s_own 6)) ?_
      refine xq rfl (y_el (e := (eI .i64)) 0 (.int .i64 y21_4) hy21_4 (s_own 6)) ?_
      refine xx rfl (x_sto 5 g42 0 [.int .i64 y21_4] ?_)
      refine rend ?_
      refine frg (fun u => (.slice A0 (List.length a0) k0 :: (jk u 1 1 (.int .i64 a2 :: (jk u 3 5 (.pointer (some ⟨g3_4, 0, none⟩) :: (jk u 9 3 (.slice A39 (List.length l38) k40 :: .pointer (some ⟨g42, 0, none⟩) :: (jk u 14 90 []))))))))) (by kernel_rfl) fun u => ?_
      refine keep 7 (its' := [rowT (eI .i64) w.heap.size 3 (.slice A3_0 (List.length ([(-1)] : List Int)) k3_0) ([(-1)] : List Int), rowT (eI .i64) w.heap.size 3 (.slice A11 (List.length l10) k12) l10, box g3_4 52 [.slice A11 (List.length l10) k12], rowX (eI .i64) w.heap.size 3 (.slice A14 (List.length l13) k15) l13, rowT (eI .i64) w.heap.size 3 (.slice A39 (List.length l38) k40) l38, box g42 3 [.int .i64 y21_4], rowT (eI .i64) w.heap.size 3 (.slice A20_2 (List.length v20_2) k20_2) v20_2]) (by kernel_rfl) ?_
      refine r_start ?_
      refine p 1 ?_
      refine xq rfl (y_load (.int .i64 y21_4) 5 g42 0) ?_
      refine xx rfl (e_lit (e := (eI .i64)) (el := 3) [.int .i64 y21_4] ([y21_4] : List Int) fun A22_2 k22_2 => ?_)
      obtain ⟨y22_3, hy22_3, h⟩ := H.call h
      refine xx rfl (e_app 4 hy22_3 (s_own 7) fun A22_3 k22_3 => ?_)
      refine p 1 ?_
      refine rend ?_
      refine c_inb ?_
      refine c_seq ?_
      refine r_start ?_
      refine xq rfl (y_load (.int .i64 y21_4) 5 g42 0) ?_
      refine rend ?_
      refine r_start ?_
      refine xx rfl (x_new [.int .i64 0] fun g24_0 => ?_)
      refine xx rfl (x_sto 8 g24_0 0 [.int .i64 y21_4] ?_)
      refine rend ?_
      refine pick [0, 1, 2, 3, 4, 8] [rowT (eI .i64) w.heap.size 3 (.slice A3_0 (List.length ([(-1)] : List Int)) k3_0) ([(-1)] : List Int), rowT (eI .i64) w.heap.size 3 (.slice A11 (List.length l10) k12) l10, box g3_4 52 [.slice A11 (List.length l10) k12], rowX (eI .i64) w.heap.size 3 (.slice A14 (List.length l13) k15) l13, rowT (eI .i64) w.heap.size 3 (.slice A22_3 (List.length y22_3) k22_3) y22_3, box g24_0 3 [.int .i64 y21_4]] ?_
      replace h := H.inl h
      exact h (y22_3, y21_4, A22_3, k22_3, g24_0) _ _ rfl (by kernel_rfl) (by kernel_rfl)
    replace h := H.f q49 h
    refine cx ?_
    replace h := H.inr h
    exact hj48 (l38, s41, A39, k40, g42) _ _ h (by kernel_rfl) (by kernel_rfl)
  intro x u h
  obtain ⟨l43, s46, A44, k45, g47⟩ := x
  refine c_seq ?_
  refine r_start ?_
  refine p 3 ?_
  refine rend ?_
  replace h := H.done h
  subst h
  exact ret func18 rfl (vs := [.slice A44 (List.length l43) k45, .bool true]) (.tmp (by kernel_rfl) (.tmp (by kernel_rfl) .nil)) rfl (fun W S => ⟨_, _, rfl, S.row 4, S.below⟩)
theorem C.l_FnExactStepsBetween {fu : Nat} {a0 : (List Sign)} {A0 : Option Addr} {k0 : Nat} {a1 : Int} {a2 : Int} {r : Bool} (w : World) (h : X.l_FnExactStepsBetween fu a0 a1 a2 = some r) (h0 : RdT nSign w (.slice A0 (List.length a0) k0) a0) : Calls prog 5 #[.slice A0 (List.length a0) k0, .int .i64 a1, .int .i64 a2] w (Ret w (.bool r)) := by
  refine calls (M := no) (args := [.slice A0 (List.length a0) k0, .int .i64 a1, .int .i64 a2]) func5 rfl ?_
  replace h : H (X.l_FnExactStepsBetween fu a0 a1 a2) (fun o => o = r) := H.mk h
  unfold X.l_FnExactStepsBetween at h
  refine c_seq ?_
  refine r_start ?_
  refine p 1 ?_
  refine rend ?_
  refine c_seq ?_
  refine r_start ?_
  refine p 1 ?_
  refine rend ?_
  refine c_seq ?_
  refine r_start ?_
  refine p 2 ?_
  obtain ⟨v2_2, hv2_2, h⟩ := H.call h
  refine xq rfl (y_call [.slice A0 (List.length a0) k0, .int .i64 1048576] (.int .i64 v2_2) func15 (fun W S => C.l_szSignS W hv2_2 ((s_arg h0).out W S))) ?_
  refine p 1 ?_
  refine rend ?_
  refine c_seq ?_
  refine c_seq ?_
  refine r_start ?_
  refine p 2 ?_
  refine rend ?_
  refine c_or (decide (v2_2 < 0)) (fun q1 => ?_) (fun q1 => ?_)
  · replace h := H.t q1 h
    refine c_seq ?_
    refine r_start ?_
    refine p 1 ?_
    refine rend ?_
    replace h := H.done h
    subst h
    exact ret func5 rfl (vs := [.bool true]) (.tmp (by kernel_rfl) .nil) rfl (fun W S => ⟨rfl, S.below⟩)
  replace h := H.f q1 h
  refine c_skip ?_
  refine c_seq ?_
  refine r_start ?_
  refine p 1 ?_
  obtain ⟨v5_1, hv5_1, h⟩ := H.call h
  refine xx rfl (e_cr [.slice A0 (List.length a0) k0] (fun v => v) func17 (fun W S => C.l_toSignS W hv5_1 ((s_arg h0).out W S)) fun A5_1 k5_1 => ?_)
  refine p 2 ?_
  obtain ⟨v5_4, hv5_4, h⟩ := H.call h
  refine xx rfl (e_cr [.slice A5_1 (List.length v5_1) k5_1, .int .i64 a1, .int .i64 a2] (fun v => .tuple #[v, .bool v5_4.2]) func16 (fun W S => C.s_StepsBetween W hv5_4 ((s_own 0).out W S)) fun A5_4 k5_4 => ?_)
  refine p 5 ?_
  refine rend ?_
  refine c_seq ?_
  refine r_start ?_
  refine p 1 ?_
  obtain ⟨v6_1, hv6_1, h⟩ := H.call h
  refine xx rfl (e_cr [.slice A0 (List.length a0) k0] (fun v => v) func17 (fun W S => C.l_toSignS W hv6_1 ((s_arg h0).out W S)) fun A6_1 k6_1 => ?_)
  refine p 1 ?_
  refine rend ?_
  refine c_seq ?_
  refine r_start ?_
  refine p 3 ?_
  obtain ⟨v7_3, hv7_3, h⟩ := H.call h
  refine xx rfl (e_cr [.slice A6_1 (List.length v6_1) k6_1, .int .i64 a1, .int .i64 a2] (fun v => .tuple #[v, .bool v7_3.2]) func18 (fun W S => C.i_StepsBetween W hv7_3 ((s_own 2).out W S)) fun A7_3 k7_3 => ?_)
  refine p 5 ?_
  refine rend ?_
  refine c_seq ?_
  refine c_seq ?_
  refine r_start ?_
  refine p 2 ?_
  obtain ⟨v8_2, hv8_2, h⟩ := H.call h
  refine xq rfl (y_call [.slice A7_3 (List.length v7_3.1) k7_3, .slice A5_4 (List.length v5_4.1) k5_4] (.bool v8_2) func19 (fun W S => C.l_eqIntS W hv8_2 ((s_own 3).out W S) ((s_own 1).out W S))) ?_
  refine p 2 ?_
  refine br (!v8_2) (fun q2 => ?_) (fun q2 => ?_)
  · replace h := H.t q2 h
    refine o_set 44 (congrArg Value.bool q2) ?_
    refine p 4 ?_
    refine rend ?_
    refine c_t (by kernel_rfl) ?_
    refine c_seq ?_
    refine r_start ?_
    refine p 1 ?_
    refine rend ?_
    replace h := H.done h
    subst h
    exact ret func5 rfl (vs := [.bool false]) (.tmp (by kernel_rfl) .nil) rfl (fun W S => ⟨rfl, S.below⟩)
  replace h := H.f q2 h
  refine o_set 44 (congrArg Value.bool q2) ?_
  refine p 4 ?_
  refine rend ?_
  refine c_or (!(v7_3.2 == v5_4.2)) (fun q3 => ?_) (fun q3 => ?_)
  · replace h := H.t q3 h
    refine c_seq ?_
    refine r_start ?_
    refine p 1 ?_
    refine rend ?_
    replace h := H.done h
    subst h
    exact ret func5 rfl (vs := [.bool false]) (.tmp (by kernel_rfl) .nil) rfl (fun W S => ⟨rfl, S.below⟩)
  replace h := H.f q3 h
  refine c_skip ?_
  refine c_seq ?_
  refine c_seq ?_
  refine r_start ?_
  refine p 2 ?_
  obtain ⟨v10_2, hv10_2, h⟩ := H.call h
  refine xx rfl (e_cr [.slice A0 (List.length a0) k0] (fun v => v) func17 (fun W S => C.l_toSignS W hv10_2 ((s_arg h0).out W S)) fun A10_2 k10_2 => ?_)
  obtain ⟨v10_3, hv10_3, h⟩ := H.call h
  refine xq rfl (y_call [.slice A6_1 (List.length v6_1) k6_1, .slice A10_2 (List.length v10_2) k10_2] (.bool v10_3) func20 (fun W S => C.l_eqSignS W hv10_3 ((s_own 2).out W S) ((s_own 4).out W S))) ?_
  refine p 1 ?_
  refine rend ?_
  refine c_or (!v10_3) (fun q4 => ?_) (fun q4 => ?_)
  · replace h := H.t q4 h
    refine c_seq ?_
    refine r_start ?_
    refine p 1 ?_
    refine rend ?_
    replace h := H.done h
    subst h
    exact ret func5 rfl (vs := [.bool false]) (.tmp (by kernel_rfl) .nil) rfl (fun W S => ⟨rfl, S.below⟩)
  replace h := H.f q4 h
  refine c_skip ?_
  refine c_seq ?_
  refine r_start ?_
  refine p 1 ?_
  refine rend ?_
  refine c_seq ?_
  refine r_start ?_
  refine p 2 ?_
  obtain ⟨v13_2, hv13_2, h⟩ := H.call h
  refine xx rfl (e_cw (e := nSign) (l' := v13_2.2) (v := .int .i64 v13_2.1) 2 [.slice A6_1 (List.length v6_1) k6_1, .int .i64 1] func21 (fun W S => C.l_markSignS W hv13_2 rfl (S.row 2)) fun hl13_2 => ?_)
  refine o_set 10 (sl_len (A := A6_1) (c := k6_1) hl13_2) ?_
  refine p 1 ?_
  refine rend ?_
  refine c_seq ?_
  refine c_seq ?_
  refine r_start ?_
  refine p 3 ?_
  refine br (decide (v13_2.1 < 0)) (fun q5 => ?_) (fun q5 => ?_)
  · replace h := H.t q5 h
    refine o_set 59 (congrArg Value.bool q5) ?_
    refine p 10 ?_
    refine rend ?_
    refine frg (fun u => (.slice A0 (List.length a0) k0 :: .int .i64 a1 :: .int .i64 a2 :: (jk u 3 5 (.slice A5_4 (List.length v5_4.1) k5_4 :: .bool v5_4.2 :: (jk u 10 1 (.slice A7_3 (List.length v7_3.1) k7_3 :: (jk u 12 57 (.bool true :: (jk u 70 36 []))))))))) (by kernel_rfl) fun u => ?_
    refine keep 5 (its' := [rowT nSign w.heap.size 47 (.slice A5_1 (List.length v5_1) k5_1) v5_1, rowT (eI .i64) w.heap.size 3 (.slice A5_4 (List.length v5_4.1) k5_4) v5_4.1, rowT nSign w.heap.size 47 (.slice A6_1 (List.length v13_2.2) k6_1) v13_2.2, rowT (eI .i64) w.heap.size 3 (.slice A7_3 (List.length v7_3.1) k7_3) v7_3.1, rowT nSign w.heap.size 47 (.slice A10_2 (List.length v10_2) k10_2) v10_2]) (by kernel_rfl) ?_
    refine c_t (by kernel_rfl) ?_
    refine c_seq ?_
    refine r_start ?_
    refine p 1 ?_
    refine rend ?_
    replace h := H.done h
    subst h
    exact ret func5 rfl (vs := [.bool false]) (.tmp (by kernel_rfl) .nil) rfl (fun W S => ⟨rfl, S.below⟩)
  replace h := H.f q5 h
  refine o_set 59 (congrArg Value.bool q5) ?_
  refine p 2 ?_
  obtain ⟨v14_5, hv14_5, h⟩ := H.call h
  refine xq rfl (y_call [.slice A7_3 (List.length v7_3.1) k7_3, .slice A5_4 (List.length v5_4.1) k5_4] (.bool v14_5) func19 (fun W S => C.l_eqIntS W hv14_5 ((s_own 3).out W S) ((s_own 1).out W S))) ?_
  refine p 3 ?_
  refine br (!v14_5) (fun q6 => ?_) (fun q6 => ?_)
  · replace h := H.t q6 h
    refine o_set 65 (congrArg Value.bool q6) ?_
    refine p 4 ?_
    refine rend ?_
    refine frg (fun u => (.slice A0 (List.length a0) k0 :: .int .i64 a1 :: .int .i64 a2 :: (jk u 3 5 (.slice A5_4 (List.length v5_4.1) k5_4 :: .bool v5_4.2 :: (jk u 10 1 (.slice A7_3 (List.length v7_3.1) k7_3 :: (jk u 12 57 (.bool true :: (jk u 70 36 []))))))))) (by kernel_rfl) fun u => ?_
    refine keep 5 (its' := [rowT nSign w.heap.size 47 (.slice A5_1 (List.length v5_1) k5_1) v5_1, rowT (eI .i64) w.heap.size 3 (.slice A5_4 (List.length v5_4.1) k5_4) v5_4.1, rowT nSign w.heap.size 47 (.slice A6_1 (List.length v13_2.2) k6_1) v13_2.2, rowT (eI .i64) w.heap.size 3 (.slice A7_3 (List.length v7_3.1) k7_3) v7_3.1, rowT nSign w.heap.size 47 (.slice A10_2 (List.length v10_2) k10_2) v10_2]) (by kernel_rfl) ?_
    refine c_t (by kernel_rfl) ?_
    refine c_seq ?_
    refine r_start ?_
    refine p 1 ?_
    refine rend ?_
    replace h := H.done h
    subst h
    exact ret func5 rfl (vs := [.bool false]) (.tmp (by kernel_rfl) .nil) rfl (fun W S => ⟨rfl, S.below⟩)
  replace h := H.f q6 h
  refine o_set 65 (congrArg Value.bool q6) ?_
  refine p 4 ?_
  refine rend ?_
  refine frg (fun u => (.slice A0 (List.length a0) k0 :: .int .i64 a1 :: .int .i64 a2 :: (jk u 3 5 (.slice A5_4 (List.length v5_4.1) k5_4 :: .bool v5_4.2 :: (jk u 10 1 (.slice A7_3 (List.length v7_3.1) k7_3 :: (jk u 12 57 (.bool (!(v7_3.2 == v5_4.2)) :: (jk u 70 36 []))))))))) (by kernel_rfl) fun u => ?_
  refine keep 5 (its' := [rowT nSign w.heap.size 47 (.slice A5_1 (List.length v5_1) k5_1) v5_1, rowT (eI .i64) w.heap.size 3 (.slice A5_4 (List.length v5_4.1) k5_4) v5_4.1, rowT nSign w.heap.size 47 (.slice A6_1 (List.length v13_2.2) k6_1) v13_2.2, rowT (eI .i64) w.heap.size 3 (.slice A7_3 (List.length v7_3.1) k7_3) v7_3.1, rowT nSign w.heap.size 47 (.slice A10_2 (List.length v10_2) k10_2) v10_2]) (by kernel_rfl) ?_
  refine c_no q3 ?_
  refine c_skip ?_
  refine c_seq ?_
  refine r_start ?_
  refine p 1 ?_
  refine rend ?_
  refine c_seq ?_
  refine r_start ?_
  refine p 2 ?_
  obtain ⟨v17_2, hv17_2, h⟩ := H.call h
  refine xx rfl (e_cw (e := (eI .i64)) (l' := v17_2.2) (v := .int .i64 v17_2.1) 3 [.slice A7_3 (List.length v7_3.1) k7_3, .int .i64 1] func22 (fun W S => C.l_markIntS W hv17_2 rfl (S.row 3)) fun hl17_2 => ?_)
  refine o_set 11 (sl_len (A := A7_3) (c := k7_3) hl17_2) ?_
  refine p 1 ?_
  refine rend ?_
  refine c_seq ?_
  refine r_start ?_
  refine p 1 ?_
  refine rend ?_
  refine c_seq ?_
  refine r_start ?_
  refine p 2 ?_
  obtain ⟨v19_2, hv19_2, h⟩ := H.call h
  refine xq rfl (y_call [.slice A7_3 (List.length v17_2.2) k7_3, .int .i64 1] (.int .i64 v19_2) func23 (fun W S => C.l_heldIntS W hv19_2 ((s_own 3).out W S))) ?_
  refine p 1 ?_
  refine rend ?_
  refine c_seq ?_
  refine c_seq ?_
  refine r_start ?_
  refine p 2 ?_
  refine rend ?_
  refine c_or (decide (v19_2 < 0)) (fun q7 => ?_) (fun q7 => ?_)
  · replace h := H.t q7 h
    refine c_seq ?_
    refine r_start ?_
    refine p 1 ?_
    refine rend ?_
    replace h := H.done h
    subst h
    exact ret func5 rfl (vs := [.bool false]) (.tmp (by kernel_rfl) .nil) rfl (fun W S => ⟨rfl, S.below⟩)
  replace h := H.f q7 h
  refine c_skip ?_
  refine c_seq ?_
  refine c_seq ?_
  refine r_start ?_
  refine p 3 ?_
  refine rend ?_
  refine c_or (v19_2 != v17_2.1) (fun q8 => ?_) (fun q8 => ?_)
  · replace h := H.t q8 h
    refine c_seq ?_
    refine r_start ?_
    refine p 1 ?_
    refine rend ?_
    replace h := H.done h
    subst h
    exact ret func5 rfl (vs := [.bool false]) (.tmp (by kernel_rfl) .nil) rfl (fun W S => ⟨rfl, S.below⟩)
  replace h := H.f q8 h
  refine c_skip ?_
  refine c_seq ?_
  refine r_start ?_
  refine p 1 ?_
  obtain ⟨v24_1, hv24_1, h⟩ := H.call h
  refine xx rfl (e_cr [.slice A0 (List.length a0) k0] (fun v => v) func17 (fun W S => C.l_toSignS W hv24_1 ((s_arg h0).out W S)) fun A24_1 k24_1 => ?_)
  refine p 2 ?_
  obtain ⟨v24_4, hv24_4, h⟩ := H.call h
  refine xx rfl (e_cr [.slice A24_1 (List.length v24_1) k24_1, .int .i64 a1, .int .i64 a2] (fun v => .tuple #[v, .bool v24_4.2]) func18 (fun W S => C.i_StepsBetween W hv24_4 ((s_own 5).out W S)) fun A24_4 k24_4 => ?_)
  refine p 5 ?_
  refine rend ?_
  refine c_seq ?_
  refine c_seq ?_
  refine r_start ?_
  refine p 2 ?_
  obtain ⟨v25_2, hv25_2, h⟩ := H.call h
  refine xq rfl (y_call [.slice A24_4 (List.length v24_4.1) k24_4, .slice A5_4 (List.length v5_4.1) k5_4] (.bool v25_2) func19 (fun W S => C.l_eqIntS W hv25_2 ((s_own 6).out W S) ((s_own 1).out W S))) ?_
  refine p 2 ?_
  refine br (!v25_2) (fun q9 => ?_) (fun q9 => ?_)
  · replace h := H.t q9 h
    refine o_set 93 (congrArg Value.bool q9) ?_
    refine p 4 ?_
    refine rend ?_
    refine c_t (by kernel_rfl) ?_
    refine c_seq ?_
    refine r_start ?_
    refine p 1 ?_
    refine rend ?_
    replace h := H.done h
    subst h
    exact ret func5 rfl (vs := [.bool false]) (.tmp (by kernel_rfl) .nil) rfl (fun W S => ⟨rfl, S.below⟩)
  replace h := H.f q9 h
  refine o_set 93 (congrArg Value.bool q9) ?_
  refine p 4 ?_
  refine rend ?_
  refine c_or (!(v24_4.2 == v5_4.2)) (fun q10 => ?_) (fun q10 => ?_)
  · replace h := H.t q10 h
    refine c_seq ?_
    refine r_start ?_
    refine p 1 ?_
    refine rend ?_
    replace h := H.done h
    subst h
    exact ret func5 rfl (vs := [.bool false]) (.tmp (by kernel_rfl) .nil) rfl (fun W S => ⟨rfl, S.below⟩)
  replace h := H.f q10 h
  refine c_skip ?_
  refine c_seq ?_
  refine r_start ?_
  refine p 1 ?_
  refine rend ?_
  refine c_seq ?_
  refine r_start ?_
  refine p 2 ?_
  obtain ⟨v28_2, hv28_2, h⟩ := H.call h
  refine xq rfl (y_call [.slice A7_3 (List.length v17_2.2) k7_3, .int .i64 1] (.int .i64 v28_2) func23 (fun W S => C.l_heldIntS W hv28_2 ((s_own 3).out W S))) ?_
  refine p 1 ?_
  refine rend ?_
  refine c_seq ?_
  refine c_seq ?_
  refine r_start ?_
  refine p 2 ?_
  refine rend ?_
  refine c_or (decide (v28_2 < 0)) (fun q11 => ?_) (fun q11 => ?_)
  · replace h := H.t q11 h
    refine c_seq ?_
    refine r_start ?_
    refine p 1 ?_
    refine rend ?_
    refine frg (fun u => (jk u 0 6 (.bool false :: (jk u 7 99 [])))) (by kernel_rfl) fun u => ?_
    refine keep 7 (its' := [rowT nSign w.heap.size 47 (.slice A5_1 (List.length v5_1) k5_1) v5_1, rowT (eI .i64) w.heap.size 3 (.slice A5_4 (List.length v5_4.1) k5_4) v5_4.1, rowT nSign w.heap.size 47 (.slice A6_1 (List.length v13_2.2) k6_1) v13_2.2, rowT (eI .i64) w.heap.size 3 (.slice A7_3 (List.length v17_2.2) k7_3) v17_2.2, rowT nSign w.heap.size 47 (.slice A10_2 (List.length v10_2) k10_2) v10_2, rowT nSign w.heap.size 47 (.slice A24_1 (List.length v24_1) k24_1) v24_1, rowT (eI .i64) w.heap.size 3 (.slice A24_4 (List.length v24_4.1) k24_4) v24_4.1]) (by kernel_rfl) ?_
    replace h := H.done h
    subst h
    exact ret func5 rfl (vs := [.bool false]) (.tmp (by kernel_rfl) .nil) rfl (fun W S => ⟨rfl, S.below⟩)
  replace h := H.f q11 h
  refine c_skip ?_
  refine c_seq ?_
  refine c_seq ?_
  refine r_start ?_
  refine p 3 ?_
  refine rend ?_
  refine frg (fun u => (jk u 0 105 [.bool (v28_2 != v17_2.1)])) (by kernel_rfl) fun u => ?_
  refine keep 7 (its' := [rowT nSign w.heap.size 47 (.slice A5_1 (List.length v5_1) k5_1) v5_1, rowT (eI .i64) w.heap.size 3 (.slice A5_4 (List.length v5_4.1) k5_4) v5_4.1, rowT nSign w.heap.size 47 (.slice A6_1 (List.length v13_2.2) k6_1) v13_2.2, rowT (eI .i64) w.heap.size 3 (.slice A7_3 (List.length v17_2.2) k7_3) v17_2.2, rowT nSign w.heap.size 47 (.slice A10_2 (List.length v10_2) k10_2) v10_2, rowT nSign w.heap.size 47 (.slice A24_1 (List.length v24_1) k24_1) v24_1, rowT (eI .i64) w.heap.size 3 (.slice A24_4 (List.length v24_4.1) k24_4) v24_4.1]) (by kernel_rfl) ?_
  refine c_or (v28_2 != v17_2.1) (fun q12 => ?_) (fun q12 => ?_)
  · replace h := H.t q12 h
    refine c_seq ?_
    refine r_start ?_
    refine p 1 ?_
    refine rend ?_
    replace h := H.done h
    subst h
    exact ret func5 rfl (vs := [.bool false]) (.tmp (by kernel_rfl) .nil) rfl (fun W S => ⟨rfl, S.below⟩)
  replace h := H.f q12 h
  refine c_skip ?_
  refine c_seq ?_
  refine r_start ?_
  refine p 1 ?_
  refine rend ?_
  replace h := H.done h
  subst h
  exact ret func5 rfl (vs := [.bool true]) (.tmp (by kernel_rfl) .nil) rfl (fun W S => ⟨rfl, S.below⟩)
end Go.Proofs.XC
