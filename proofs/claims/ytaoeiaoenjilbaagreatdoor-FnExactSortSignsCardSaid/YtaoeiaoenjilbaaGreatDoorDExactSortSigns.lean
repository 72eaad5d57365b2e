/- Contracts: each function, called where its plain function gives an answer, returns just that answer and changes nothing that was there. By AI agents; no person has read it. -/
import Derived.Test.YtaoeiaoenjilbaaGreatDoorC1
import Derived.Test.YtaoeiaoenjilbaaGreatDoorE2
set_option linter.unusedVariables false
set_option linter.unusedSimpArgs false
set_option maxRecDepth 100000
set_option maxHeartbeats 40000000
namespace Go.Proofs.XC
open Go Go.RowKit
open Tryz
theorem C.s_siCompare {fu : Nat} {a0 : Hand} {a1 : Hand} {r : Int} (w : World) (h : X.s_siCompare fu a0 a1 = some r) : Calls prog 133 #[.agg (eHand a0).toArray, .agg (eHand a1).toArray] w (Ret w (.int .i64 r)) := by
  refine calls (M := no) (args := [.agg (eHand a0).toArray, .agg (eHand a1).toArray]) func133 rfl ?_
  replace h : H (X.s_siCompare fu a0 a1) (fun o => o = r) := H.mk h
  unfold X.s_siCompare at h
  refine c_seq ?_
  refine r_start ?_
  refine xx rfl (x_box (eHand a0) fun g0_0 => ?_)
  refine xx rfl (x_box (eHand a1) fun g0_1 => ?_)
  refine p 1 ?_
  refine rend ?_
  refine c_seq ?_
  refine c_seq ?_
  refine as_start 6 6 ?_
  refine aq 0 rfl (y_load (.agg (eHand a0).toArray) 0 g0_0 0) ?_
  obtain ⟨v1_1, hv1_1, h⟩ := H.call h
  refine aq 1 rfl (y_call [.agg (eHand a0).toArray] (.string (bs v1_1)) func125 (fun W S => C.s_siText W hv1_1)) ?_
  refine aq 2 rfl (y_load (.agg (eHand a1).toArray) 1 g0_1 0) ?_
  obtain ⟨v1_3, hv1_3, h⟩ := H.call h
  refine aq 3 rfl (y_call [.agg (eHand a1).toArray] (.string (bs v1_3)) func125 (fun W S => C.s_siText W hv1_3)) ?_
  refine ap 4 2 ?_
  refine a_done ?_
  refine c_block ?_
  refine c_seq ?_
  refine r_start ?_
  refine p 4 ?_
  refine rend ?_
  refine c_or (slt v1_1 v1_3) (fun q1 => ?_) (fun q1 => ?_)
  · replace h := H.t q1 h
    refine c_seq ?_
    refine r_start ?_
    refine p 1 ?_
    refine rend ?_
    replace h := H.done h
    subst h
    exact ret func133 rfl (vs := [.int .i64 (-1)]) (.tmp (by kernel_rfl) .nil) rfl (fun W S => ⟨rfl, S.below⟩)
  replace h := H.f q1 h
  refine c_seq ?_
  refine r_start ?_
  refine p 4 ?_
  refine rend ?_
  refine c_or (!(slt v1_1 v1_3 || seq v1_1 v1_3)) (fun q2 => ?_) (fun q2 => ?_)
  · replace h := H.t q2 h
    refine c_seq ?_
    refine r_start ?_
    refine p 1 ?_
    refine rend ?_
    replace h := H.done h
    subst h
    exact ret func133 rfl (vs := [.int .i64 1]) (.tmp (by kernel_rfl) .nil) rfl (fun W S => ⟨rfl, S.below⟩)
  replace h := H.f q2 h
  refine c_skip ?_
  refine c_inb ?_
  refine c_seq ?_
  refine r_start ?_
  refine p 1 ?_
  refine rend ?_
  replace h := H.done h
  subst h
  exact ret func133 rfl (vs := [.int .i64 0]) (.tmp (by kernel_rfl) .nil) rfl (fun W S => ⟨rfl, S.below⟩)
theorem C.s_noCompare {fu : Nat} {a0 : Sign} {a1 : Sign} {r : Int} (w : World) (h : X.s_noCompare fu a0 a1 = some r) : Calls prog 88 #[.agg (eSign a0).toArray, .agg (eSign a1).toArray] w (Ret w (.int .i64 r)) := by
  refine calls (M := no) (args := [.agg (eSign a0).toArray, .agg (eSign a1).toArray]) func88 rfl ?_
  replace h : H (X.s_noCompare fu a0 a1) (fun o => o = r) := H.mk h
  unfold X.s_noCompare at h
  refine c_seq ?_
  refine r_start ?_
  refine xx rfl (x_box (eSign a0) fun g0_0 => ?_)
  refine xx rfl (x_box (eSign a1) fun g0_1 => ?_)
  refine p 1 ?_
  refine rend ?_
  refine c_seq ?_
  refine joinT (X := (Sign × Sign × Nat × Nat)) (H.bnd h) (fun ⟨s1, s2, g1_4, g1_5⟩ => (s1, s2)) (fun ⟨s1, s2, g1_4, g1_5⟩ => [box g0_0 85 (eSign a0), box g0_1 85 (eSign a1), box g1_4 85 (eSign s1), box g1_5 85 (eSign s2)]) (fun ⟨s1, s2, g1_4, g1_5⟩ u => (jk u 0 5 (.pointer (some ⟨g1_4, 0, none⟩) :: .pointer (some ⟨g1_5, 0, none⟩) :: (jk u 7 35 [])))) (fun h hj3 => ?_) ?_
  · skip
    refine as_start 8 8 ?_
    refine aq 0 rfl (y_load (.agg (eSign a0).toArray) 0 g0_0 0) ?_
    obtain ⟨v1_1, hv1_1, h⟩ := H.call h
    refine aq 1 rfl (y_call [.agg (eSign a0).toArray] (.agg (eSign v1_1).toArray) func76 (fun W S => C.s_noForm W hv1_1)) ?_
    refine aq 2 rfl (y_load (.agg (eSign a1).toArray) 1 g0_1 0) ?_
    obtain ⟨v1_3, hv1_3, h⟩ := H.call h
    refine aq 3 rfl (y_call [.agg (eSign a1).toArray] (.agg (eSign v1_3).toArray) func76 (fun W S => C.s_noForm W hv1_3)) ?_
    refine a_two 4 5 rfl rfl ?_ ?_
    · skip
      refine (x_new (eSign zSign) fun g1_4 => ⟨.inr (by kernel_rfl), ?_⟩)
      refine ax 5 rfl (x_new (eSign zSign) fun g1_5 => ⟨.inr (by kernel_rfl), ?_⟩)
      refine ax 6 rfl (x_sto 2 g1_4 0 (eSign v1_1) ⟨.inr (by kernel_rfl), ?_⟩)
      refine ax 7 rfl (x_sto 3 g1_5 0 (eSign v1_3) ⟨.inr (by kernel_rfl), ?_⟩)
      refine a_done ?_
      replace h := H.done h
      exact hj3 (v1_1, v1_3, g1_4, g1_5) _ _ h (by kernel_rfl) (by kernel_rfl)
    refine (x_new (eSign zSign) fun g1_5 => ⟨.inr (by kernel_rfl), ?_⟩)
    refine ax 4 rfl (x_new (eSign zSign) fun g1_4 => ⟨.inr (by kernel_rfl), ?_⟩)
    refine ax 6 rfl (x_sto 3 g1_4 0 (eSign v1_1) ⟨.inr (by kernel_rfl), ?_⟩)
    refine ax 7 rfl (x_sto 2 g1_5 0 (eSign v1_3) ⟨.inr (by kernel_rfl), ?_⟩)
    refine a_done ?_
    refine swp [box g0_0 85 (eSign a0), box g0_1 85 (eSign a1)] (box g1_5 85 (eSign v1_3)) (box g1_4 85 (eSign v1_1)) ?_
    replace h := H.done h
    exact hj3 (v1_1, v1_3, g1_4, g1_5) _ _ h (by kernel_rfl) (by kernel_rfl)
  intro x u h
  obtain ⟨s1, s2, g1_4, g1_5⟩ := x
  refine c_seq ?_
  refine c_seq ?_
  refine r_start ?_
  refine p 1 ?_
  refine xq rfl (y_load (.agg (eHand s1.Main).toArray) 2 g1_4 0) ?_
  refine p 1 ?_
  refine xq rfl (y_load (.agg (eHand s2.Main).toArray) 3 g1_5 0) ?_
  obtain ⟨v2_4, hv2_4, h⟩ := H.call h
  refine xq rfl (y_call [.agg (eHand s1.Main).toArray, .agg (eHand s2.Main).toArray] (.int .i64 v2_4) func133 (fun W S => C.s_siCompare W hv2_4)) ?_
  refine p 1 ?_
  refine rend ?_
  refine c_seq ?_
  refine r_start ?_
  refine p 2 ?_
  refine rend ?_
  refine c_or (v2_4 != 0) (fun q4 => ?_) (fun q4 => ?_)
  · replace h := H.t q4 h
    refine c_seq ?_
    refine r_start ?_
    refine p 2 ?_
    refine rend ?_
    replace h := H.done h
    subst h
    exact ret func88 rfl (vs := [.int .i64 v2_4]) (.tmp (by kernel_rfl) .nil) rfl (fun W S => ⟨rfl, S.below⟩)
  replace h := H.f q4 h
  refine c_skip ?_
  refine c_seq ?_
  refine c_block ?_
  refine c_seq ?_
  refine r_start ?_
  refine p 1 ?_
  refine xq rfl (y_load (.bool s1.Two) 2 g1_4 13) ?_
  refine p 2 ?_
  refine br (!s1.Two) (fun q5 => ?_) (fun q5 => ?_)
  · replace h := H.t q5 h
    refine o_set 24 (congrArg Value.bool q5) ?_
    refine p 1 ?_
    refine xq rfl (y_load (.bool s2.Two) 3 g1_5 13) ?_
    refine p 3 ?_
    refine rend ?_
    refine c_or (!s2.Two) (fun q6 => ?_) (fun q6 => ?_)
    · replace h := H.t q6 h
      refine c_seq ?_
      refine r_start ?_
      refine p 1 ?_
      refine rend ?_
      replace h := H.done h
      subst h
      exact ret func88 rfl (vs := [.int .i64 0]) (.tmp (by kernel_rfl) .nil) rfl (fun W S => ⟨rfl, S.below⟩)
    replace h := H.f q6 h
    refine c_seq ?_
    refine r_start ?_
    refine p 1 ?_
    refine xq rfl (y_load (.bool s1.Two) 2 g1_4 13) ?_
    refine p 2 ?_
    refine rend ?_
    refine c_yes q5 ?_
    refine c_seq ?_
    refine r_start ?_
    refine p 1 ?_
    refine rend ?_
    replace h := H.done h
    subst h
    exact ret func88 rfl (vs := [.int .i64 (-1)]) (.tmp (by kernel_rfl) .nil) rfl (fun W S => ⟨rfl, S.below⟩)
  replace h := H.f q5 h
  refine o_set 24 (congrArg Value.bool q5) ?_
  refine p 5 ?_
  refine rend ?_
  refine c_f (by kernel_rfl) ?_
  refine c_seq ?_
  refine r_start ?_
  refine p 1 ?_
  refine xq rfl (y_load (.bool s1.Two) 2 g1_4 13) ?_
  refine p 2 ?_
  refine rend ?_
  refine c_no q5 ?_
  refine c_seq ?_
  refine r_start ?_
  refine p 1 ?_
  refine xq rfl (y_load (.bool s2.Two) 3 g1_5 13) ?_
  refine p 2 ?_
  refine rend ?_
  refine c_or (!s2.Two) (fun q7 => ?_) (fun q7 => ?_)
  · replace h := H.t q7 h
    refine c_seq ?_
    refine r_start ?_
    refine p 1 ?_
    refine rend ?_
    replace h := H.done h
    subst h
    exact ret func88 rfl (vs := [.int .i64 1]) (.tmp (by kernel_rfl) .nil) rfl (fun W S => ⟨rfl, S.below⟩)
  replace h := H.f q7 h
  refine c_skip ?_
  refine c_inb ?_
  refine c_seq ?_
  refine r_start ?_
  refine p 1 ?_
  refine xq rfl (y_load (.agg (eHand s1.Other).toArray) 2 g1_4 14) ?_
  refine p 1 ?_
  refine xq rfl (y_load (.agg (eHand s2.Other).toArray) 3 g1_5 14) ?_
  obtain ⟨v11_4, hv11_4, h⟩ := H.call h
  refine xq rfl (y_call [.agg (eHand s1.Other).toArray, .agg (eHand s2.Other).toArray] (.int .i64 v11_4) func133 (fun W S => C.s_siCompare W hv11_4)) ?_
  refine p 1 ?_
  refine rend ?_
  replace h := H.done h
  subst h
  exact ret func88 rfl (vs := [.int .i64 v11_4]) (.tmp (by kernel_rfl) .nil) rfl (fun W S => ⟨rfl, S.below⟩)
theorem C.s_SortSigns {fu : Nat} {a0 : (List Sign)} {A0 : Option Addr} {k0 : Nat} {r : ((List Sign) × Bool)} (w : World) (h : X.s_SortSigns fu a0 = some r) (h0 : RdT nSign w (.slice A0 (List.length a0) k0) a0) : Calls prog 41 #[.slice A0 (List.length a0) k0] w (RetR nSign 85 w r.1 (fun v => .tuple #[v, .bool r.2])) := by
  refine calls (M := no) (args := [.slice A0 (List.length a0) k0]) func41 rfl ?_
  replace h : H (X.s_SortSigns fu a0) (fun o => o = r) := H.mk h
  unfold X.s_SortSigns at h
  refine c_seq ?_
  refine r_start ?_
  refine p 2 ?_
  refine rend ?_
  refine c_seq ?_
  refine c_seq ?_
  refine r_start ?_
  refine p 1 ?_
  obtain ⟨v1_1, hv1_1, h⟩ := H.call h
  refine xq rfl (y_call [.slice A0 (List.length a0) k0] (.bool v1_1) func62 (fun W S => C.s_noList W hv1_1 ((s_arg h0).out W S))) ?_
  refine p 1 ?_
  refine rend ?_
  refine c_or (!v1_1) (fun q1 => ?_) (fun q1 => ?_)
  · replace h := H.t q1 h
    refine c_seq ?_
    refine r_start ?_
    refine p 2 ?_
    refine rend ?_
    replace h := H.done h
    subst h
    exact ret func41 rfl (vs := [.slice none 0 0, .bool false]) (.tmp (by kernel_rfl) (.tmp (by kernel_rfl) .nil)) rfl (fun W S => ⟨none, 0, rfl, World.ownsRow_nil _ _ _ _, S.below⟩)
  replace h := H.f q1 h
  refine c_skip ?_
  refine c_seq ?_
  refine r_start ?_
  refine p 1 ?_
  refine rend ?_
  refine c_seq ?_
  refine c_seq ?_
  refine r_start ?_
  refine p 3 ?_
  refine rend ?_
  refine c_block ?_
  refine c_nil nSign 85 ?_
  refine joinH (X := ((List Sign) × Option Addr × Nat)) 0 (H.bnd h) (fun ⟨l5, A6, k7⟩ => l5) (fun ⟨l5, A6, k7⟩ => [rowT nSign w.heap.size 85 (.slice A6 (List.length l5) k7) l5]) (fun ⟨l5, A6, k7⟩ u => (jk u 0 4 (.slice A6 (List.length l5) k7 :: (jk u 5 42 [])))) (fun h hj8 => ?_) ?_
  · skip
    refine rangeR (X := ((List Sign) × Option Addr × Nat)) (s_arg h0) (fun ⟨l2, A3, k4⟩ => l2) (fun ⟨l2, A3, k4⟩ => [rowT nSign w.heap.size 85 (.slice A3 (List.length l2) k4) l2]) (fun (j9 : Nat) ⟨l2, A3, k4⟩ u => (jk u 0 4 (.slice A3 (List.length l2) k4 :: (jk u 5 6 (.slice A0 (List.length a0) k0 :: .int .i64 (List.length a0 : Int) :: .int .i64 (j9 : Int) :: (jk u 14 33 [])))))) (([] : List Sign), none, 0) h (by kernel_rfl) (by kernel_rfl) ?_ ?_
    · intro j9 x u x10 q11 hg12 hw13 h
      obtain ⟨l2, A3, k4⟩ := x
      refine c_seq ?_
      refine r_start ?_
      refine p 1 ?_
      refine rend ?_
      refine c_seq ?_
      refine c_yes q11 ?_
      refine c_skip ?_
      refine c_seq ?_
      refine c_block ?_
      refine c_seq ?_
      refine r_start ?_
      refine xq rfl (y_idx (e := nSign) (el := 85) hg12 (s_arg h0)) ?_
      refine xq rfl (y_el (e := nSign) 0 (.agg (eSign x10).toArray) hg12 (s_arg h0)) ?_
      refine xx rfl (x_new (eSign zSign) fun g6_2 => ?_)
      refine xx rfl (x_sto 1 g6_2 0 (eSign x10) ?_)
      refine rend ?_
      refine c_seq ?_
      refine r_start ?_
      refine p 3 ?_
      refine rend ?_
      refine c_seq ?_
      refine c_block ?_
      refine joinH (X := Int) 2 (H.bnd h) (fun (x : Int) => x) (fun n15 => [rowT nSign w.heap.size 85 (.slice A3 (List.length l2) k4) l2, box g6_2 85 (eSign x10)]) (fun n15 u => (jk u 0 4 (.slice A3 (List.length l2) k4 :: (jk u 5 1 (.pointer (some ⟨g6_2, 0, none⟩) :: .int .i64 n15 :: (jk u 8 3 (.slice A0 (List.length a0) k0 :: .int .i64 (List.length a0 : Int) :: .int .i64 (j9 : Int) :: (jk u 14 33 [])))))))) (fun h hj16 => ?_) ?_
      · skip
        refine loopR (X := Int) (fun (x : Int) => x) (fun n14 => [rowT nSign w.heap.size 85 (.slice A3 (List.length l2) k4) l2, box g6_2 85 (eSign x10)]) (fun n14 u => (jk u 0 4 (.slice A3 (List.length l2) k4 :: (jk u 5 1 (.pointer (some ⟨g6_2, 0, none⟩) :: .int .i64 n14 :: (jk u 8 3 (.slice A0 (List.length a0) k0 :: .int .i64 (List.length a0 : Int) :: .int .i64 (j9 : Int) :: (jk u 14 33 [])))))))) (List.length l2 : Int) h (by kernel_rfl) (by kernel_rfl) ?_
        intro n14 u h
        refine c_seq ?_
        refine c_seq ?_
        refine as_start 12 12 ?_
        refine ap 0 3 ?_
        refine br (decide (n14 > 0)) (fun q17 => ?_) (fun q17 => ?_)
        · replace h := H.t q17 h
          refine a_set 21 (congrArg Value.bool q17) ?_
          refine ap 3 3 ?_
          obtain ⟨y8_6, hy8_6, h⟩ := H.call h
          refine aq 6 rfl (y_idx (e := nSign) (el := 85) hy8_6 (s_own 0)) ?_
          refine aq 7 rfl (y_el (e := nSign) 0 (.agg (eSign y8_6).toArray) hy8_6 (s_own 0)) ?_
          refine aq 8 rfl (y_load (.agg (eSign x10).toArray) 1 g6_2 0) ?_
          obtain ⟨v8_9, hv8_9, h⟩ := H.call h
          refine aq 9 rfl (y_call [.agg (eSign y8_6).toArray, .agg (eSign x10).toArray] (.int .i64 v8_9) func88 (fun W S => C.s_noCompare W hv8_9)) ?_
          refine ap 10 2 ?_
          refine a_done ?_
          refine c_or (decide (v8_9 > 0)) (fun q18 => ?_) (fun q18 => ?_)
          · replace h := H.t q18 h
            refine c_skip ?_
            refine c_block ?_
            refine r_start ?_
            refine p 3 ?_
            refine rend ?_
            refine c_inb ?_
            replace h := H.inl h
            exact h (wr (n14 - 1)) _ _ rfl (by kernel_rfl) (by kernel_rfl)
          replace h := H.f q18 h
          refine cx ?_
          replace h := H.inr h
          exact hj16 n14 _ _ h (by kernel_rfl) (by kernel_rfl)
        replace h := H.f q17 h
        refine a_set 21 (congrArg Value.bool q17) ?_
        refine ap 3 9 ?_
        refine a_done ?_
        refine c_f (by kernel_rfl) ?_
        refine cx ?_
        replace h := H.inr h
        exact hj16 n14 _ _ h (by kernel_rfl) (by kernel_rfl)
      intro n15 u h
      refine as_start 13 13 ?_
      refine ap 1 2 ?_
      obtain ⟨y10_3, hy10_3, h⟩ := H.call h
      refine aq 3 rfl (y_cutl (e := nSign) (el := 85) hy10_3 (s_own 0)) ?_
      refine aq 5 rfl (y_load (.agg (eSign x10).toArray) 1 g6_2 0) ?_
      refine ap 8 2 ?_
      obtain ⟨y10_10, hy10_10, h⟩ := H.call h
      refine aq 10 rfl (y_cutl (e := nSign) (el := 85) hy10_10 (s_own 0)) ?_
      refine a_two 0 6 rfl rfl ?_ ?_
      · skip
        refine (e_lit (e := nSign) (el := 85) [] ([] : List Sign) fun A10_0 k10_0 => ⟨.inr (by kernel_rfl), ?_⟩)
        refine a_two 4 6 rfl rfl ?_ ?_
        · skip
          obtain ⟨y10_4, hy10_4, h⟩ := H.call h
          refine (e_app 2 hy10_4 (s_cut hy10_3 (s_own 0)) fun A10_4 k10_4 => ⟨.inr (by kernel_rfl), ?_⟩)
          refine ax 6 rfl (e_lit (e := nSign) (el := 85) [.agg (eSign x10).toArray] ([x10] : List Sign) fun A10_6 k10_6 => ⟨.inr (by kernel_rfl), ?_⟩)
          obtain ⟨y10_7, hy10_7, h⟩ := H.call h
          refine ax 7 rfl (e_app 2 hy10_7 (s_own 3) fun A10_7 k10_7 => ⟨.inr (by kernel_rfl), ?_⟩)
          obtain ⟨y10_11, hy10_11, h⟩ := H.call h
          refine ax 11 rfl (e_app 2 hy10_11 (s_cut hy10_10 (s_own 0)) fun A10_11 k10_11 => ⟨.inr (by kernel_rfl), ?_⟩)
          refine ap 12 1 ?_
          refine a_done ?_
          refine c_inb ?_
          refine r_start ?_
          refine p 2 ?_
          refine rend ?_
          refine pick [2] [rowT nSign w.heap.size 85 (.slice A10_11 (List.length y10_11) k10_11) y10_11] ?_
          refine c_set 13 (ci hw13) ?_
          replace h := H.inl h
          exact h (y10_11, A10_11, k10_11) _ _ rfl (by kernel_rfl) (by kernel_rfl)
        refine (e_lit (e := nSign) (el := 85) [.agg (eSign x10).toArray] ([x10] : List Sign) fun A10_6 k10_6 => ⟨.inr (by kernel_rfl), ?_⟩)
        obtain ⟨y10_4, hy10_4, h⟩ := H.call h
        refine ax 4 rfl (e_app 2 hy10_4 (s_cut hy10_3 (s_own 0)) fun A10_4 k10_4 => ⟨.inr (by kernel_rfl), ?_⟩)
        obtain ⟨y10_7, hy10_7, h⟩ := H.call h
        refine ax 7 rfl (e_app 2 hy10_7 (s_own 3) fun A10_7 k10_7 => ⟨.inr (by kernel_rfl), ?_⟩)
        obtain ⟨y10_11, hy10_11, h⟩ := H.call h
        refine ax 11 rfl (e_app 2 hy10_11 (s_cut hy10_10 (s_own 0)) fun A10_11 k10_11 => ⟨.inr (by kernel_rfl), ?_⟩)
        refine ap 12 1 ?_
        refine a_done ?_
        refine c_inb ?_
        refine r_start ?_
        refine p 2 ?_
        refine rend ?_
        refine pick [2] [rowT nSign w.heap.size 85 (.slice A10_11 (List.length y10_11) k10_11) y10_11] ?_
        refine c_set 13 (ci hw13) ?_
        replace h := H.inl h
        exact h (y10_11, A10_11, k10_11) _ _ rfl (by kernel_rfl) (by kernel_rfl)
      refine (e_lit (e := nSign) (el := 85) [.agg (eSign x10).toArray] ([x10] : List Sign) fun A10_6 k10_6 => ⟨.inr (by kernel_rfl), ?_⟩)
      refine ax 0 rfl (e_lit (e := nSign) (el := 85) [] ([] : List Sign) fun A10_0 k10_0 => ⟨.inr (by kernel_rfl), ?_⟩)
      obtain ⟨y10_4, hy10_4, h⟩ := H.call h
      refine ax 4 rfl (e_app 3 hy10_4 (s_cut hy10_3 (s_own 0)) fun A10_4 k10_4 => ⟨.inr (by kernel_rfl), ?_⟩)
      obtain ⟨y10_7, hy10_7, h⟩ := H.call h
      refine ax 7 rfl (e_app 3 hy10_7 (s_own 2) fun A10_7 k10_7 => ⟨.inr (by kernel_rfl), ?_⟩)
      obtain ⟨y10_11, hy10_11, h⟩ := H.call h
      refine ax 11 rfl (e_app 3 hy10_11 (s_cut hy10_10 (s_own 0)) fun A10_11 k10_11 => ⟨.inr (by kernel_rfl), ?_⟩)
      refine ap 12 1 ?_
      refine a_done ?_
      refine swp [rowT nSign w.heap.size 85 (.slice A3 (List.length l2) k4) l2, box g6_2 85 (eSign x10)] (rowT nSign w.heap.size 85 (.slice A10_6 (List.length ([x10] : List Sign)) k10_6) ([x10] : List Sign)) (rowT nSign w.heap.size 85 (.slice A10_11 (List.length y10_11) k10_11) y10_11) ?_
      refine c_inb ?_
      refine r_start ?_
      refine p 2 ?_
      refine rend ?_
      refine pick [2] [rowT nSign w.heap.size 85 (.slice A10_11 (List.length y10_11) k10_11) y10_11] ?_
      refine c_set 13 (ci hw13) ?_
      replace h := H.inl h
      exact h (y10_11, A10_11, k10_11) _ _ rfl (by kernel_rfl) (by kernel_rfl)
    · intro x u q11 h
      obtain ⟨l2, A3, k4⟩ := x
      refine c_seq ?_
      refine r_start ?_
      refine p 1 ?_
      refine rend ?_
      refine c_seq ?_
      refine c_no q11 ?_
      refine cx ?_
      replace h := H.done h
      exact hj8 (l2, A3, k4) _ _ h (by kernel_rfl) (by kernel_rfl)
  intro x u h
  obtain ⟨l5, A6, k7⟩ := x
  refine c_seq ?_
  refine r_start ?_
  refine p 3 ?_
  refine rend ?_
  replace h := H.done h
  subst h
  exact ret func41 rfl (vs := [.slice A6 (List.length l5) k7, .bool true]) (.tmp (by kernel_rfl) (.tmp (by kernel_rfl) .nil)) rfl (fun W S => ⟨_, _, rfl, S.row 0, S.below⟩)
theorem C.slices_Clone_i_Sign_i_Sign {a0 : (List Sign)} {A0 : Option Addr} {k0 : Nat} {r : (List Sign)} (w : World) (h : X.slices_Clone_i_Sign_i_Sign a0 = some r) (h0 : RdT nSign w (.slice A0 (List.length a0) k0) a0) : Calls prog 89 #[.slice A0 (List.length a0) k0] w (RetR nSign 85 w r (fun v => v)) := by
  refine calls (M := no) (args := [.slice A0 (List.length a0) k0]) func89 rfl ?_
  unfold X.slices_Clone_i_Sign_i_Sign at h
  refine c_seq ?_
  refine r_start ?_
  refine p 1 ?_
  refine rend ?_
  refine c_seq ?_
  refine c_seq ?_
  refine r_start ?_
  refine p 1 ?_
  refine xq rfl (y_eqn (A := A0) (n := List.length a0) (c := k0) (el := 85) rfl (by kernel_rfl) (by kernel_rfl) (by kernel_rfl)) ?_
  refine rend ?_
  refine c_or A0.isNone (fun q => ?_) (fun q => ?_)
  · have ha : a0 = [] := by
      obtain ⟨A2, c2, e1, _, _, _, h4⟩ := h0
      injection e1 with e1 _ _
      subst e1
      cases a0 with
      | nil => rfl
      | cons x l =>
        obtain ⟨b, off, hA, _⟩ := h4 (by simp)
        subst hA
        cases q
    subst ha
    have hr : r = [] := by
      unfold appG at h
      split at h
      · exact (Option.some.inj h).symm
      · cases h
    subst hr
    refine c_seq ?_
    refine r_start ?_
    refine p 1 ?_
    refine rend ?_
    exact ret func89 rfl (vs := [.slice none 0 0]) (.tmp (by kernel_rfl) .nil) rfl (fun W S => ⟨none, 0, rfl, World.ownsRow_nil _ _ _ _, S.below⟩)
  refine c_skip ?_
  refine c_seq ?_
  refine r_start ?_
  refine xx rfl (e_lit (e := nSign) (el := 85) [] ([] : List Sign) fun A5 k5 => ?_)
  refine p 1 ?_
  refine xx rfl (e_app 0 h (s_arg h0) fun A7 k7 => ?_)
  refine p 1 ?_
  refine rend ?_
  exact ret func89 rfl (vs := [.slice A7 (List.length r) k7]) (.tmp (by kernel_rfl) .nil) rfl (fun W S => ⟨_, _, rfl, S.row 0, S.below⟩)
theorem C.slices_insertionSortCmpFunc_i_Sign {fu : Nat} {a0 : (List Sign)} {A0 : Option Addr} {k0 B0 n0 : Nat} {a1 : Int} {a2 : Int} {a3 : (Sign → Sign → Option Int)} {g3 : Nat} {cp3 : List Value} {r : (List Sign)} (w : World) (h : X.slices_insertionSortCmpFunc_i_Sign fu a0 a1 a2 a3 = some r) (hn0 : List.length a0 = n0) (h0 : World.ownsRow w B0 85 (Enc.sz nSign) (.slice A0 n0 k0) n0 (Enc.flat nSign a0)) (hg3 : isFn prog g3 = true) (hF3 : ∀ (x0 : Sign) (x1 : Sign) (r : Int) (W : World), World.grownBy w W (Value.slice A0 n0 k0).ownBlock → a3 x0 x1 = some r → Calls prog g3 (([.agg (eSign x0).toArray, .agg (eSign x1).toArray] : List Value) ++ cp3).toArray W (Ret W (.int .i64 r))) : Calls prog 187 #[.slice A0 (n0) k0, .int .i64 a1, .int .i64 a2, .func (.func g3) #[] cp3.toArray] w (RetW nSign B0 85 A0 n0 k0 w r (.tuple #[])) := by
  subst hn0
  refine callsW (args := [.slice A0 (List.length a0) k0, .int .i64 a1, .int .i64 a2, .func (.func g3) #[] cp3.toArray]) rfl h0 func187 rfl ?_
  replace h : H (X.slices_insertionSortCmpFunc_i_Sign fu a0 a1 a2 a3) (fun o => o = r) := H.mk h
  unfold X.slices_insertionSortCmpFunc_i_Sign at h
  refine c_seq ?_
  refine r_start ?_
  refine p 3 ?_
  refine rend ?_
  refine c_block ?_
  refine joinH (X := (List Sign)) 0 (H.bnd h) (fun (x : (List Sign)) => x) (fun l3 => [argW nSign B0 85 A0 (List.length a0) k0 l3]) (fun l3 u => (jk u 0 53 [])) (fun h hj4 => ?_) ?_
  · skip
    refine loopR (X := (Int × (List Sign))) (fun (x : (Int × (List Sign))) => x) (fun ⟨n1, l2⟩ => [argW nSign B0 85 A0 (List.length a0) k0 l2]) (fun ⟨n1, l2⟩ u => (.slice A0 (List.length a0) k0 :: .int .i64 a1 :: .int .i64 a2 :: .func (.func g3) #[] cp3.toArray :: (jk u 4 4 (.int .i64 n1 :: (jk u 9 44 []))))) ((wr (a1 + 1)), a0) h (by kernel_rfl) (by kernel_rfl) ?_
    intro x u h
    obtain ⟨n1, l2⟩ := x
    refine c_seq ?_
    refine c_seq ?_
    refine r_start ?_
    refine p 3 ?_
    refine rend ?_
    refine c_or (decide (n1 < a2)) (fun q5 => ?_) (fun q5 => ?_)
    · replace h := H.t q5 h
      refine c_skip ?_
      refine c_seq ?_
      refine c_block ?_
      refine c_seq ?_
      refine r_start ?_
      refine p 2 ?_
      refine rend ?_
      refine c_block ?_
      refine joinH (X := (List Sign)) 2 (H.bnd h) (fun (x : (List Sign)) => x) (fun l8 => [argW nSign B0 85 A0 (List.length a0) k0 l8]) (fun l8 u => (.slice A0 (List.length a0) k0 :: .int .i64 a1 :: .int .i64 a2 :: .func (.func g3) #[] cp3.toArray :: (jk u 4 4 (.int .i64 n1 :: (jk u 9 44 []))))) (fun h hj9 => ?_) ?_
      · skip
        refine loopR (X := (Int × (List Sign))) (fun (x : (Int × (List Sign))) => x) (fun ⟨n6, l7⟩ => [argW nSign B0 85 A0 (List.length a0) k0 l7]) (fun ⟨n6, l7⟩ u => (.slice A0 (List.length a0) k0 :: .int .i64 a1 :: .int .i64 a2 :: .func (.func g3) #[] cp3.toArray :: (jk u 4 4 (.int .i64 n1 :: .int .i64 n6 :: (jk u 10 43 []))))) (n1, l2) h (by kernel_rfl) (by kernel_rfl) ?_
        intro x u h
        obtain ⟨n6, l7⟩ := x
        refine c_seq ?_
        refine c_seq ?_
        refine as_start 17 17 ?_
        refine ap 0 4 ?_
        refine br (decide (n6 > a1)) (fun q10 => ?_) (fun q10 => ?_)
        · replace h := H.t q10 h
          refine a_set 21 (congrArg Value.bool q10) ?_
          refine ap 4 3 ?_
          obtain ⟨y4_7, hy4_7, h⟩ := H.call h
          refine aq 7 rfl (y_idxW (e := nSign) (el := 85) 0 hy4_7) ?_
          refine aq 8 rfl (y_elW (e := nSign) 0 0 (.agg (eSign y4_7).toArray) hy4_7) ?_
          refine ap 9 3 ?_
          obtain ⟨y4_12, hy4_12, h⟩ := H.call h
          refine aq 12 rfl (y_idxW (e := nSign) (el := 85) 0 hy4_12) ?_
          refine aq 13 rfl (y_elW (e := nSign) 0 0 (.agg (eSign y4_12).toArray) hy4_12) ?_
          obtain ⟨v4_14, hv4_14, h⟩ := H.call h
          refine aq 14 rfl (y_cf cp3 [.agg (eSign y4_7).toArray, .agg (eSign y4_12).toArray] (.int .i64 v4_14) hg3 (fun W S => hF3 _ _ _ W S.grw hv4_14)) ?_
          refine ap 15 2 ?_
          refine a_done ?_
          refine c_or (decide (v4_14 < 0)) (fun q11 => ?_) (fun q11 => ?_)
          · replace h := H.t q11 h
            refine c_skip ?_
            refine c_seq ?_
            refine c_block ?_
            refine as_start 15 18 ?_
            refine apx 0 8 ?_
            refine aq 8 rfl (y_idxW (e := nSign) (el := 85) 0 hy4_12) ?_
            refine aq 9 rfl (y_elW (e := nSign) 0 0 (.agg (eSign y4_12).toArray) hy4_12) ?_
            refine ap 10 2 ?_
            refine aq 12 rfl (y_idxW (e := nSign) (el := 85) 0 hy4_7) ?_
            refine aq 13 rfl (y_elW (e := nSign) 0 0 (.agg (eSign y4_7).toArray) hy4_7) ?_
            refine aq 14 rfl (y_idxW (e := nSign) (el := 85) 0 hy4_7) ?_
            refine ax 15 rfl (e_stW (e := nSign) (b := y4_12) 0 0 (eSign y4_12) hy4_7 (by kernel_rfl) ⟨.inl (by kernel_rfl), ?_⟩)
            obtain ⟨y6_16, hy6_16, h⟩ := H.call h
            refine ax 16 rfl (e_y (y_idxW (e := nSign) (el := 85) 0 hy6_16) ⟨.inl (by kernel_rfl), ?_⟩)
            refine ax 17 rfl (e_stW (e := nSign) (b := y4_7) 0 0 (eSign y4_7) hy6_16 (by kernel_rfl) ⟨.inl (by kernel_rfl), ?_⟩)
            refine a_done ?_
            refine c_inb ?_
            refine r_start ?_
            refine p 3 ?_
            refine rend ?_
            replace h := H.inl h
            exact h ((wr (n6 - 1)), (List.set (List.set l7 (Int.toNat n6) y4_12) (Int.toNat (wr (n6 - 1))) y4_7)) _ _ rfl (by kernel_rfl) (by kernel_rfl)
          replace h := H.f q11 h
          refine cx ?_
          replace h := H.inr h
          exact hj9 l7 _ _ h (by kernel_rfl) (by kernel_rfl)
        replace h := H.f q10 h
        refine a_set 21 (congrArg Value.bool q10) ?_
        refine ap 4 13 ?_
        refine a_done ?_
        refine c_f (by kernel_rfl) ?_
        refine cx ?_
        replace h := H.inr h
        exact hj9 l7 _ _ h (by kernel_rfl) (by kernel_rfl)
      intro l8 u h
      refine c_inb ?_
      refine r_start ?_
      refine p 3 ?_
      refine rend ?_
      replace h := H.inl h
      exact h ((wr (n1 + 1)), l8) _ _ rfl (by kernel_rfl) (by kernel_rfl)
    replace h := H.f q5 h
    refine cx ?_
    replace h := H.inr h
    exact hj4 l2 _ _ h (by kernel_rfl) (by kernel_rfl)
  intro l3 u h
  replace h := H.done h
  subst h
  exact fin func187 rfl (vs := []) .nil rfl (fun W S => S.retW)
theorem C.slices_stableCmpFunc_i_Sign {fu : Nat} {a0 : (List Sign)} {A0 : Option Addr} {k0 B0 n0 : Nat} {a1 : Int} {a2 : (Sign → Sign → Option Int)} {g2 : Nat} {cp2 : List Value} {r : (List Sign)} (w : World) (h : X.slices_stableCmpFunc_i_Sign fu a0 a1 a2 = some r) (hn0 : List.length a0 = n0) (h0 : World.ownsRow w B0 85 (Enc.sz nSign) (.slice A0 n0 k0) n0 (Enc.flat nSign a0)) (hg2 : isFn prog g2 = true) (hF2 : ∀ (x0 : Sign) (x1 : Sign) (r : Int) (W : World), World.grownBy w W (Value.slice A0 n0 k0).ownBlock → a2 x0 x1 = some r → Calls prog g2 (([.agg (eSign x0).toArray, .agg (eSign x1).toArray] : List Value) ++ cp2).toArray W (Ret W (.int .i64 r))) : Calls prog 134 #[.slice A0 (n0) k0, .int .i64 a1, .func (.func g2) #[] cp2.toArray] w (RetW nSign B0 85 A0 n0 k0 w r (.tuple #[])) := by
  subst hn0
  refine callsW (args := [.slice A0 (List.length a0) k0, .int .i64 a1, .func (.func g2) #[] cp2.toArray]) rfl h0 func134 rfl ?_
  replace h : H (X.slices_stableCmpFunc_i_Sign fu a0 a1 a2) (fun o => o = r) := H.mk h
  unfold X.slices_stableCmpFunc_i_Sign at h
  refine c_seq ?_
  refine r_start ?_
  refine p 1 ?_
  refine rend ?_
  refine c_seq ?_
  refine r_start ?_
  refine p 3 ?_
  refine rend ?_
  refine c_seq ?_
  refine c_block ?_
  refine joinH (X := (Int × (List Sign))) 0 (H.bnd h) (fun (x : (Int × (List Sign))) => x) (fun ⟨n4, l5⟩ => [argW nSign B0 85 A0 (List.length a0) k0 l5]) (fun ⟨n4, l5⟩ u => (.slice A0 (List.length a0) k0 :: .int .i64 a1 :: .func (.func g2) #[] cp2.toArray :: (jk u 3 3 (.int .i64 20 :: .int .i64 n4 :: (jk u 8 55 []))))) (fun h hj6 => ?_) ?_
  · skip
    refine loopR (X := (Int × Int × (List Sign))) (fun (x : (Int × Int × (List Sign))) => x) (fun ⟨n1, n2, l3⟩ => [argW nSign B0 85 A0 (List.length a0) k0 l3]) (fun ⟨n1, n2, l3⟩ u => (.slice A0 (List.length a0) k0 :: .int .i64 a1 :: .func (.func g2) #[] cp2.toArray :: (jk u 3 3 (.int .i64 20 :: .int .i64 n1 :: .int .i64 n2 :: (jk u 9 54 []))))) (0, 20, a0) h (by kernel_rfl) (by kernel_rfl) ?_
    intro x u h
    obtain ⟨n1, n2, l3⟩ := x
    refine c_seq ?_
    refine c_seq ?_
    refine r_start ?_
    refine p 3 ?_
    refine rend ?_
    refine c_or (decide (n2 ≤ a1)) (fun q7 => ?_) (fun q7 => ?_)
    · replace h := H.t q7 h
      refine c_skip ?_
      refine c_block ?_
      refine c_seq ?_
      refine r_start ?_
      refine p 4 ?_
      obtain ⟨v3_4, hv3_4, h⟩ := H.call h
      refine xx rfl (e_cwW (e := nSign) (l' := v3_4) (v := .tuple #[]) 0 [.slice A0 (List.length a0) k0, .int .i64 n1, .int .i64 n2, .func (.func g2) #[] cp2.toArray] func187 (fun W S => C.slices_insertionSortCmpFunc_i_Sign W hv3_4 (S.rowW 0).1 (S.rowW 0).2 hg2 (fun x0_2 x1_2 r W2 hu2 hx2 => hF2 x0_2 x1_2 r W2 (grw_tr S.grw hu2) hx2)) ?_)
      refine rend ?_
      refine c_seq ?_
      refine r_start ?_
      refine p 2 ?_
      refine rend ?_
      refine r_start ?_
      refine p 4 ?_
      refine rend ?_
      refine c_inb ?_
      replace h := H.inl h
      exact h (n2, (wr (n2 + 20)), v3_4) _ _ rfl (by kernel_rfl) (by kernel_rfl)
    replace h := H.f q7 h
    refine cx ?_
    replace h := H.inr h
    exact hj6 (n1, l3) _ _ h (by kernel_rfl) (by kernel_rfl)
  intro x u h
  obtain ⟨n4, l5⟩ := x
  refine c_seq ?_
  refine r_start ?_
  refine p 4 ?_
  obtain ⟨v6_4, hv6_4, h⟩ := H.call h
  refine xx rfl (e_cwW (e := nSign) (l' := v6_4) (v := .tuple #[]) 0 [.slice A0 (List.length a0) k0, .int .i64 n4, .int .i64 a1, .func (.func g2) #[] cp2.toArray] func187 (fun W S => C.slices_insertionSortCmpFunc_i_Sign W hv6_4 (S.rowW 0).1 (S.rowW 0).2 hg2 (fun x0_2 x1_2 r W2 hu2 hx2 => hF2 x0_2 x1_2 r W2 (grw_tr S.grw hu2) hx2)) ?_)
  refine rend ?_
  refine c_block ?_
  refine joinH (X := Unit) 2 (H.bnd h) (fun (x : Unit) => x) (fun _ => [argW nSign B0 85 A0 (List.length a0) k0 v6_4]) (fun _ u => (jk u 0 63 [])) (fun h hj9 => ?_) ?_
  · skip
    refine loopR (X := Int) (fun (x : Int) => x) (fun n8 => [argW nSign B0 85 A0 (List.length a0) k0 v6_4]) (fun n8 u => (.slice A0 (List.length a0) k0 :: .int .i64 a1 :: .func (.func g2) #[] cp2.toArray :: (jk u 3 3 (.int .i64 n8 :: (jk u 7 56 []))))) 20 h (by kernel_rfl) (by kernel_rfl) ?_
    intro n8 u h
    refine c_seq ?_
    refine c_seq ?_
    refine r_start ?_
    refine p 3 ?_
    refine rend ?_
    refine c_or (decide (n8 < a1)) (fun q10 => ?_) (fun q10 => ?_)
    · replace h := H.t q10 h
      refine c_skip ?_
      refine c_block ?_
      refine c_seq ?_
      refine r_start ?_
      refine p 4 ?_
      refine rend ?_
      refine c_seq ?_
      refine c_block ?_
      refine joinH (X := Unit) 4 (H.bnd h) (fun (x : Unit) => x) (fun _ => [argW nSign B0 85 A0 (List.length a0) k0 v6_4]) (fun _ u => (.slice A0 (List.length a0) k0 :: .int .i64 a1 :: .func (.func g2) #[] cp2.toArray :: (jk u 3 3 (.int .i64 n8 :: .int .i64 0 :: (jk u 8 55 []))))) (fun h hj11 => ?_) ?_
      · skip
        refine loopR (X := Unit) (fun (x : Unit) => x) (fun _ => [argW nSign B0 85 A0 (List.length a0) k0 v6_4]) (fun _ u => (.slice A0 (List.length a0) k0 :: .int .i64 a1 :: .func (.func g2) #[] cp2.toArray :: (jk u 3 3 (.int .i64 n8 :: .int .i64 0 :: .int .i64 (wr (2 * n8)) :: (jk u 9 54 []))))) () h (by kernel_rfl) (by kernel_rfl) ?_
        intro x u h
        refine c_seq ?_
        refine c_seq ?_
        refine r_start ?_
        refine p 3 ?_
        refine rend ?_
        refine c_or (decide ((wr (2 * n8)) ≤ a1)) (fun q12 => ?_) (fun q12 => ?_)
        · replace h := H.t q12 h
          refine c_skip ?_
          refine c_block ?_
          refine c_seq ?_
          refine r_start ?_
          refine p 7 ?_
          exact H.none h
        replace h := H.f q12 h
        refine cx ?_
        replace h := H.inr h
        exact hj11 () _ _ h (by kernel_rfl) (by kernel_rfl)
      intro x u h
      refine c_seq ?_
      refine c_seq ?_
      refine r_start ?_
      refine p 4 ?_
      refine rend ?_
      refine c_seq ?_
      refine r_start ?_
      refine p 3 ?_
      refine rend ?_
      refine c_or (decide ((wr (0 + n8)) < a1)) (fun q13 => ?_) (fun q13 => ?_)
      · replace h := H.t q13 h
        refine r_start ?_
        refine p 5 ?_
        exact H.none h
      replace h := H.f q13 h
      refine c_skip ?_
      refine r_start ?_
      refine p 3 ?_
      refine rend ?_
      refine c_inb ?_
      replace h := H.inl h
      exact h (wr (n8 * 2)) _ _ rfl (by kernel_rfl) (by kernel_rfl)
    replace h := H.f q10 h
    refine cx ?_
    replace h := H.inr h
    exact hj9 () _ _ h (by kernel_rfl) (by kernel_rfl)
  intro x u h
  replace h := H.done h
  subst h
  exact fin func134 rfl (vs := []) .nil rfl (fun W S => S.retW)
theorem C.slices_SortStableFunc_i_Sign_i_Sign {fu : Nat} {a0 : (List Sign)} {A0 : Option Addr} {k0 B0 n0 : Nat} {a1 : (Sign → Sign → Option Int)} {g1 : Nat} {cp1 : List Value} {r : (List Sign)} (w : World) (h : X.slices_SortStableFunc_i_Sign_i_Sign fu a0 a1 = some r) (hn0 : List.length a0 = n0) (h0 : World.ownsRow w B0 85 (Enc.sz nSign) (.slice A0 n0 k0) n0 (Enc.flat nSign a0)) (hg1 : isFn prog g1 = true) (hF1 : ∀ (x0 : Sign) (x1 : Sign) (r : Int) (W : World), World.grownBy w W (Value.slice A0 n0 k0).ownBlock → a1 x0 x1 = some r → Calls prog g1 (([.agg (eSign x0).toArray, .agg (eSign x1).toArray] : List Value) ++ cp1).toArray W (Ret W (.int .i64 r))) : Calls prog 90 #[.slice A0 (n0) k0, .func (.func g1) #[] cp1.toArray] w (RetW nSign B0 85 A0 n0 k0 w r (.tuple #[])) := by
  subst hn0
  refine callsW (args := [.slice A0 (List.length a0) k0, .func (.func g1) #[] cp1.toArray]) rfl h0 func90 rfl ?_
  replace h : H (X.slices_SortStableFunc_i_Sign_i_Sign fu a0 a1) (fun o => o = r) := H.mk h
  unfold X.slices_SortStableFunc_i_Sign_i_Sign at h
  refine r_start ?_
  refine p 4 ?_
  obtain ⟨v0_4, hv0_4, h⟩ := H.call h
  refine xx rfl (e_cwW (e := nSign) (l' := v0_4) (v := .tuple #[]) 0 [.slice A0 (List.length a0) k0, .int .i64 (List.length a0 : Int), .func (.func g1) #[] cp1.toArray] func134 (fun W S => C.slices_stableCmpFunc_i_Sign W hv0_4 (S.rowW 0).1 (S.rowW 0).2 hg1 (fun x0_2 x1_2 r W2 hu2 hx2 => hF1 x0_2 x1_2 r W2 (grw_tr S.grw hu2) hx2)) ?_)
  refine rend ?_
  replace h := H.done h
  subst h
  exact fin func90 rfl (vs := []) .nil rfl (fun W S => S.retW)
theorem C.i_compareSigns {a0 : Sign} {a1 : Sign} {r : Int} (w : World) (h : X.i_compareSigns a0 a1 = some r) : Calls prog 92 #[.agg (eSign a0).toArray, .agg (eSign a1).toArray] w (Ret w (.int .i64 r)) := by
  refine calls (M := no) (args := [.agg (eSign a0).toArray, .agg (eSign a1).toArray]) func92 rfl ?_
  replace h : H (X.i_compareSigns a0 a1) (fun o => o = r) := H.mk h
  unfold X.i_compareSigns at h
  refine c_seq ?_
  refine r_start ?_
  refine xx rfl (x_box (eSign a0) fun g0_0 => ?_)
  refine xx rfl (x_box (eSign a1) fun g0_1 => ?_)
  refine p 1 ?_
  refine rend ?_
  refine c_seq ?_
  refine c_seq ?_
  refine r_start ?_
  refine p 1 ?_
  refine xq rfl (y_load (.bool a0.Two) 0 g0_0 13) ?_
  refine p 1 ?_
  refine xq rfl (y_load (.bool a1.Two) 1 g0_1 13) ?_
  refine p 2 ?_
  refine br (!(a0.Two == a1.Two)) (fun q1 => ?_) (fun q1 => ?_)
  · replace h := H.t q1 h
    refine o_set 11 (congrArg Value.bool q1) ?_
    refine p 4 ?_
    refine rend ?_
    refine c_t (by kernel_rfl) ?_
    refine c_seq ?_
    refine as_start 8 8 ?_
    refine ap 0 1 ?_
    refine aq 1 rfl (y_load (.agg (eHand a0.Main).toArray) 0 g0_0 0) ?_
    obtain ⟨v2_2, hv2_2, h⟩ := H.call h
    refine aq 2 rfl (y_call [.agg (eHand a0.Main).toArray] (.string (bs v2_2)) func128 (fun W S => C.i_Hand_text W hv2_2)) ?_
    refine ap 3 1 ?_
    refine aq 4 rfl (y_load (.agg (eHand a1.Main).toArray) 1 g0_1 0) ?_
    obtain ⟨v2_5, hv2_5, h⟩ := H.call h
    refine aq 5 rfl (y_call [.agg (eHand a1.Main).toArray] (.string (bs v2_5)) func128 (fun W S => C.i_Hand_text W hv2_5)) ?_
    obtain ⟨v2_6, hv2_6, h⟩ := H.call h
    refine aq 6 rfl (y_call [.string (bs v2_2), .string (bs v2_5)] (.int .i64 v2_6) func135 (fun W S => C.strings_Compare W hv2_6)) ?_
    refine ap 7 1 ?_
    refine a_done ?_
    refine c_seq ?_
    refine c_block ?_
    refine c_seq ?_
    refine r_start ?_
    refine p 3 ?_
    refine br (v2_6 != 0) (fun q2 => ?_) (fun q2 => ?_)
    · replace h := H.t q2 h
      refine o_set 26 (congrArg Value.bool q2) ?_
      refine p 7 ?_
      refine rend ?_
      refine c_t (by kernel_rfl) ?_
      refine c_seq ?_
      refine r_start ?_
      refine p 2 ?_
      refine rend ?_
      replace h := H.done h
      subst h
      exact ret func92 rfl (vs := [.int .i64 v2_6]) (.tmp (by kernel_rfl) .nil) rfl (fun W S => ⟨rfl, S.below⟩)
    replace h := H.f q2 h
    refine o_set 26 (congrArg Value.bool q2) ?_
    refine p 1 ?_
    refine xq rfl (y_load (.bool a0.Two) 0 g0_0 13) ?_
    refine p 1 ?_
    refine xq rfl (y_load (.bool a1.Two) 1 g0_1 13) ?_
    refine p 3 ?_
    refine rend ?_
    refine c_or (a0.Two == a1.Two) (fun q3 => ?_) (fun q3 => ?_)
    · replace h := H.t q3 h
      refine c_seq ?_
      refine r_start ?_
      refine p 2 ?_
      refine rend ?_
      replace h := H.done h
      subst h
      exact ret func92 rfl (vs := [.int .i64 v2_6]) (.tmp (by kernel_rfl) .nil) rfl (fun W S => ⟨rfl, S.below⟩)
    replace h := H.f q3 h
    refine c_seq ?_
    refine r_start ?_
    refine p 1 ?_
    refine xq rfl (y_load (.bool a0.Two) 0 g0_0 13) ?_
    refine p 1 ?_
    refine rend ?_
    refine c_or a0.Two (fun q4 => ?_) (fun q4 => ?_)
    · replace h := H.t q4 h
      refine c_seq ?_
      refine r_start ?_
      refine p 1 ?_
      refine rend ?_
      replace h := H.done h
      subst h
      exact ret func92 rfl (vs := [.int .i64 1]) (.tmp (by kernel_rfl) .nil) rfl (fun W S => ⟨rfl, S.below⟩)
    replace h := H.f q4 h
    refine c_skip ?_
    refine c_inb ?_
    refine c_seq ?_
    refine r_start ?_
    refine p 1 ?_
    refine rend ?_
    replace h := H.done h
    subst h
    exact ret func92 rfl (vs := [.int .i64 (-1)]) (.tmp (by kernel_rfl) .nil) rfl (fun W S => ⟨rfl, S.below⟩)
  replace h := H.f q1 h
  refine o_set 11 (congrArg Value.bool q1) ?_
  refine p 1 ?_
  refine xq rfl (y_load (.bool a0.Two) 0 g0_0 13) ?_
  refine p 2 ?_
  refine rend ?_
  refine c_or (!a0.Two) (fun q5 => ?_) (fun q5 => ?_)
  · replace h := H.t q5 h
    refine c_seq ?_
    refine as_start 8 8 ?_
    refine ap 0 1 ?_
    refine aq 1 rfl (y_load (.agg (eHand a0.Main).toArray) 0 g0_0 0) ?_
    obtain ⟨v2_2, hv2_2, h⟩ := H.call h
    refine aq 2 rfl (y_call [.agg (eHand a0.Main).toArray] (.string (bs v2_2)) func128 (fun W S => C.i_Hand_text W hv2_2)) ?_
    refine ap 3 1 ?_
    refine aq 4 rfl (y_load (.agg (eHand a1.Main).toArray) 1 g0_1 0) ?_
    obtain ⟨v2_5, hv2_5, h⟩ := H.call h
    refine aq 5 rfl (y_call [.agg (eHand a1.Main).toArray] (.string (bs v2_5)) func128 (fun W S => C.i_Hand_text W hv2_5)) ?_
    obtain ⟨v2_6, hv2_6, h⟩ := H.call h
    refine aq 6 rfl (y_call [.string (bs v2_2), .string (bs v2_5)] (.int .i64 v2_6) func135 (fun W S => C.strings_Compare W hv2_6)) ?_
    refine ap 7 1 ?_
    refine a_done ?_
    refine c_seq ?_
    refine c_block ?_
    refine c_seq ?_
    refine r_start ?_
    refine p 3 ?_
    refine br (v2_6 != 0) (fun q6 => ?_) (fun q6 => ?_)
    · replace h := H.t q6 h
      refine o_set 26 (congrArg Value.bool q6) ?_
      refine p 7 ?_
      refine rend ?_
      refine c_t (by kernel_rfl) ?_
      refine c_seq ?_
      refine r_start ?_
      refine p 2 ?_
      refine rend ?_
      replace h := H.done h
      subst h
      exact ret func92 rfl (vs := [.int .i64 v2_6]) (.tmp (by kernel_rfl) .nil) rfl (fun W S => ⟨rfl, S.below⟩)
    replace h := H.f q6 h
    refine o_set 26 (congrArg Value.bool q6) ?_
    refine p 1 ?_
    refine xq rfl (y_load (.bool a0.Two) 0 g0_0 13) ?_
    refine p 1 ?_
    refine xq rfl (y_load (.bool a1.Two) 1 g0_1 13) ?_
    refine p 3 ?_
    refine rend ?_
    refine c_or (a0.Two == a1.Two) (fun q7 => ?_) (fun q7 => ?_)
    · replace h := H.t q7 h
      refine c_seq ?_
      refine r_start ?_
      refine p 2 ?_
      refine rend ?_
      replace h := H.done h
      subst h
      exact ret func92 rfl (vs := [.int .i64 v2_6]) (.tmp (by kernel_rfl) .nil) rfl (fun W S => ⟨rfl, S.below⟩)
    replace h := H.f q7 h
    refine c_seq ?_
    refine r_start ?_
    refine p 1 ?_
    refine xq rfl (y_load (.bool a0.Two) 0 g0_0 13) ?_
    refine p 1 ?_
    refine rend ?_
    refine c_or a0.Two (fun q8 => ?_) (fun q8 => ?_)
    · replace h := H.t q8 h
      refine c_seq ?_
      refine r_start ?_
      refine p 1 ?_
      refine rend ?_
      replace h := H.done h
      subst h
      exact ret func92 rfl (vs := [.int .i64 1]) (.tmp (by kernel_rfl) .nil) rfl (fun W S => ⟨rfl, S.below⟩)
    replace h := H.f q8 h
    refine c_skip ?_
    refine c_inb ?_
    refine c_seq ?_
    refine r_start ?_
    refine p 1 ?_
    refine rend ?_
    replace h := H.done h
    subst h
    exact ret func92 rfl (vs := [.int .i64 (-1)]) (.tmp (by kernel_rfl) .nil) rfl (fun W S => ⟨rfl, S.below⟩)
  replace h := H.f q5 h
  refine c_skip ?_
  refine c_seq ?_
  refine as_start 17 17 ?_
  refine ap 0 1 ?_
  refine aq 1 rfl (y_load (.agg (eHand a0.Main).toArray) 0 g0_0 0) ?_
  obtain ⟨v8_2, hv8_2, h⟩ := H.call h
  refine aq 2 rfl (y_call [.agg (eHand a0.Main).toArray] (.string (bs v8_2)) func128 (fun W S => C.i_Hand_text W hv8_2)) ?_
  refine ap 3 1 ?_
  refine aq 4 rfl (y_load (.agg (eHand a1.Main).toArray) 1 g0_1 0) ?_
  obtain ⟨v8_5, hv8_5, h⟩ := H.call h
  refine aq 5 rfl (y_call [.agg (eHand a1.Main).toArray] (.string (bs v8_5)) func128 (fun W S => C.i_Hand_text W hv8_5)) ?_
  obtain ⟨v8_6, hv8_6, h⟩ := H.call h
  refine aq 6 rfl (y_call [.string (bs v8_2), .string (bs v8_5)] (.int .i64 v8_6) func135 (fun W S => C.strings_Compare W hv8_6)) ?_
  refine ap 7 1 ?_
  refine aq 8 rfl (y_load (.agg (eHand a0.Other).toArray) 0 g0_0 14) ?_
  obtain ⟨v8_9, hv8_9, h⟩ := H.call h
  refine aq 9 rfl (y_call [.agg (eHand a0.Other).toArray] (.string (bs v8_9)) func128 (fun W S => C.i_Hand_text W hv8_9)) ?_
  refine ap 10 1 ?_
  refine aq 11 rfl (y_load (.agg (eHand a1.Other).toArray) 1 g0_1 14) ?_
  obtain ⟨v8_12, hv8_12, h⟩ := H.call h
  refine aq 12 rfl (y_call [.agg (eHand a1.Other).toArray] (.string (bs v8_12)) func128 (fun W S => C.i_Hand_text W hv8_12)) ?_
  obtain ⟨v8_13, hv8_13, h⟩ := H.call h
  refine aq 13 rfl (y_call [.string (bs v8_9), .string (bs v8_12)] (.int .i64 v8_13) func135 (fun W S => C.strings_Compare W hv8_13)) ?_
  refine ax 14 rfl (e_lit (e := (eI .i64)) (el := 3) [.int .i64 v8_6, .int .i64 v8_13] ([v8_6, v8_13] : List Int) fun A8_14 k8_14 => ⟨.inr (by kernel_rfl), ?_⟩)
  obtain ⟨v8_15, hv8_15, h⟩ := H.call h
  refine ax 15 rfl (e_y (y_call [.slice A8_14 (List.length ([v8_6, v8_13] : List Int)) k8_14] (.int .i64 v8_15) func136 (fun W S => C.cmp_Or_int W hv8_15 ((s_own 2).out W S))) ⟨.inr (by kernel_rfl), ?_⟩)
  refine ap 16 1 ?_
  refine a_done ?_
  replace h := H.done h
  subst h
  exact ret func92 rfl (vs := [.int .i64 v8_15]) (.tmp (by kernel_rfl) .nil) rfl (fun W S => ⟨rfl, S.below⟩)
theorem C.i_SortSigns_1 {fu : Nat} {a0 : Sign} {a1 : Sign} {r : Int} (w : World) (h : X.i_SortSigns_1 fu a0 a1 = some r) : Calls prog 91 #[.agg (eSign a0).toArray, .agg (eSign a1).toArray] w (Ret w (.int .i64 r)) := by
  refine calls (M := no) (args := [.agg (eSign a0).toArray, .agg (eSign a1).toArray]) func91 rfl ?_
  replace h : H (X.i_SortSigns_1 fu a0 a1) (fun o => o = r) := H.mk h
  unfold X.i_SortSigns_1 at h
  refine c_seq ?_
  refine r_start ?_
  refine xx rfl (x_box (eSign a0) fun g0_0 => ?_)
  refine xx rfl (x_box (eSign a1) fun g0_1 => ?_)
  refine p 1 ?_
  refine rend ?_
  refine c_seq ?_
  refine as_start 6 6 ?_
  refine aq 0 rfl (y_load (.agg (eSign a0).toArray) 0 g0_0 0) ?_
  obtain ⟨v1_1, hv1_1, h⟩ := H.call h
  refine aq 1 rfl (y_call [.agg (eSign a0).toArray] (.agg (eSign v1_1).toArray) func79 (fun W S => C.i_Sign_normal W hv1_1)) ?_
  refine aq 2 rfl (y_load (.agg (eSign a1).toArray) 1 g0_1 0) ?_
  obtain ⟨v1_3, hv1_3, h⟩ := H.call h
  refine aq 3 rfl (y_call [.agg (eSign a1).toArray] (.agg (eSign v1_3).toArray) func79 (fun W S => C.i_Sign_normal W hv1_3)) ?_
  obtain ⟨v1_4, hv1_4, h⟩ := H.call h
  refine aq 4 rfl (y_call [.agg (eSign v1_1).toArray, .agg (eSign v1_3).toArray] (.int .i64 v1_4) func92 (fun W S => C.i_compareSigns W hv1_4)) ?_
  refine ap 5 1 ?_
  refine a_done ?_
  replace h := H.done h
  subst h
  exact ret func91 rfl (vs := [.int .i64 v1_4]) (.tmp (by kernel_rfl) .nil) rfl (fun W S => ⟨rfl, S.below⟩)
theorem C.i_SortSigns {fu : Nat} {a0 : (List Sign)} {A0 : Option Addr} {k0 : Nat} {r : ((List Sign) × Bool)} (w : World) (h : X.i_SortSigns fu a0 = some r) (h0 : RdT nSign w (.slice A0 (List.length a0) k0) a0) : Calls prog 42 #[.slice A0 (List.length a0) k0] w (RetR nSign 85 w r.1 (fun v => .tuple #[v, .bool r.2])) := by
  refine calls (M := no) (args := [.slice A0 (List.length a0) k0]) func42 rfl ?_
  replace h : H (X.i_SortSigns fu a0) (fun o => o = r) := H.mk h
  unfold X.i_SortSigns at h
  refine c_seq ?_
  refine r_start ?_
  refine p 2 ?_
  refine rend ?_
  refine c_seq ?_
  refine c_seq ?_
  refine r_start ?_
  refine p 1 ?_
  obtain ⟨v1_1, hv1_1, h⟩ := H.call h
  refine xq rfl (y_call [.slice A0 (List.length a0) k0, .int .i64 16] (.bool v1_1) func64 (fun W S => C.i_areSigns W hv1_1 ((s_arg h0).out W S))) ?_
  refine p 1 ?_
  refine rend ?_
  refine c_or (!v1_1) (fun q1 => ?_) (fun q1 => ?_)
  · replace h := H.t q1 h
    refine c_seq ?_
    refine r_start ?_
    refine p 2 ?_
    refine rend ?_
    replace h := H.done h
    subst h
    exact ret func42 rfl (vs := [.slice none 0 0, .bool false]) (.tmp (by kernel_rfl) (.tmp (by kernel_rfl) .nil)) rfl (fun W S => ⟨none, 0, rfl, World.ownsRow_nil _ _ _ _, S.below⟩)
  replace h := H.f q1 h
  refine c_skip ?_
  refine c_seq ?_
  refine r_start ?_
  refine p 1 ?_
  obtain ⟨v3_1, hv3_1, h⟩ := H.call h
  refine xx rfl (e_cr [.slice A0 (List.length a0) k0] (fun v => v) func89 (fun W S => C.slices_Clone_i_Sign_i_Sign W hv3_1 ((s_arg h0).out W S)) fun A3_1 k3_1 => ?_)
  refine p 1 ?_
  refine rend ?_
  refine c_seq ?_
  refine r_start ?_
  refine p 1 ?_
  obtain ⟨v4_1, hv4_1, h⟩ := H.call h
  refine xx rfl (e_cw (e := nSign) (l' := v4_1) (v := .tuple #[]) 0 [.slice A3_1 (List.length v3_1) k3_1, .func (.func 91) #[] #[]] func90 (fun W S => C.slices_SortStableFunc_i_Sign_i_Sign W hv4_1 rfl (S.row 0) (isFn_of func91) (fun x0_2 x1_2 r W2 hu2 hx2 => C.i_SortSigns_1 W2 hx2)) fun hl4_1 => ?_)
  refine o_set 4 (sl_len (A := A3_1) (c := k3_1) hl4_1) ?_
  refine rend ?_
  refine c_seq ?_
  refine r_start ?_
  refine p 3 ?_
  refine rend ?_
  replace h := H.done h
  subst h
  exact ret func42 rfl (vs := [.slice A3_1 (List.length v4_1) k3_1, .bool true]) (.tmp (by kernel_rfl) (.tmp (by kernel_rfl) .nil)) rfl (fun W S => ⟨_, _, rfl, S.row 0, S.below⟩)
theorem C.l_heldSignS {fu : Nat} {a0 : (List Sign)} {A0 : Option Addr} {k0 : Nat} {a1 : Int} {r : Int} (w : World) (h : X.l_heldSignS fu a0 a1 = some r) (h0 : RdT nSign w (.slice A0 (List.length a0) k0) a0) : Calls prog 43 #[.slice A0 (List.length a0) k0, .int .i64 a1] w (Ret w (.int .i64 r)) := by
  refine calls (M := no) (args := [.slice A0 (List.length a0) k0, .int .i64 a1]) func43 rfl ?_
  replace h : H (X.l_heldSignS fu a0 a1) (fun o => o = r) := H.mk h
  unfold X.l_heldSignS at h
  refine c_seq ?_
  refine r_start ?_
  refine p 1 ?_
  refine rend ?_
  refine c_seq ?_
  refine c_seq ?_
  refine r_start ?_
  refine p 1 ?_
  refine rend ?_
  refine c_block ?_
  refine joinE (X := Int) 0 (H.or h) (fun (x : Int) => x) (fun n3 => []) (fun n3 u => (jk u 0 1 (.int .i64 n3 :: (jk u 2 318 [])))) (fun h hj4 => ?_) ?_
  · skip
    refine loopR (X := (Int × Int)) (fun (x : (Int × Int)) => x) (fun ⟨n1, n2⟩ => []) (fun ⟨n1, n2⟩ u => (.slice A0 (List.length a0) k0 :: .int .i64 n1 :: (jk u 2 3 (.int .i64 n2 :: (jk u 6 314 []))))) (a1, 0) h (by kernel_rfl) (by kernel_rfl) ?_
    intro x u h
    obtain ⟨n1, n2⟩ := x
    refine c_seq ?_
    refine c_seq ?_
    refine r_start ?_
    refine p 4 ?_
    refine rend ?_
    refine c_or (decide (n2 < (List.length a0 : Int))) (fun q5 => ?_) (fun q5 => ?_)
    · replace h := H.t q5 h
      refine c_skip ?_
      refine c_seq ?_
      refine c_block ?_
      refine c_seq ?_
      refine c_seq ?_
      refine r_start ?_
      refine p 2 ?_
      obtain ⟨y4_2, hy4_2, h⟩ := H.call h
      refine xq rfl (y_idx (e := nSign) (el := 85) hy4_2 (s_arg h0)) ?_
      refine p 3 ?_
      refine xq rfl (y_el (e := nSign) 0 (.int .i64 y4_2.Main.Shape.Thumb) hy4_2 (s_arg h0)) ?_
      refine p 2 ?_
      refine rend ?_
      refine c_or (y4_2.Main.Shape.Thumb != n1) (fun q6 => ?_) (fun q6 => ?_)
      · replace h := H.t q6 h
        refine c_seq ?_
        refine r_start ?_
        refine p 1 ?_
        refine rend ?_
        replace h := H.inr h
        replace h := H.done h
        subst h
        exact ret func43 rfl (vs := [.int .i64 (-1)]) (.tmp (by kernel_rfl) .nil) rfl (fun W S => ⟨rfl, S.below⟩)
      replace h := H.f q6 h
      refine c_skip ?_
      refine c_seq ?_
      refine r_start ?_
      refine p 3 ?_
      refine rend ?_
      refine c_seq ?_
      refine c_seq ?_
      refine r_start ?_
      refine p 2 ?_
      refine xq rfl (y_idx (e := nSign) (el := 85) hy4_2 (s_arg h0)) ?_
      refine p 3 ?_
      refine xq rfl (y_el (e := nSign) 1 (.int .i64 y4_2.Main.Shape.Index) hy4_2 (s_arg h0)) ?_
      refine p 2 ?_
      refine rend ?_
      refine c_or (y4_2.Main.Shape.Index != (wr (n1 + 1))) (fun q7 => ?_) (fun q7 => ?_)
      · replace h := H.t q7 h
        refine c_seq ?_
        refine r_start ?_
        refine p 1 ?_
        refine rend ?_
        replace h := H.inr h
        replace h := H.done h
        subst h
        exact ret func43 rfl (vs := [.int .i64 (-1)]) (.tmp (by kernel_rfl) .nil) rfl (fun W S => ⟨rfl, S.below⟩)
      replace h := H.f q7 h
      refine c_skip ?_
      refine c_seq ?_
      refine r_start ?_
      refine p 3 ?_
      refine rend ?_
      refine c_seq ?_
      refine c_seq ?_
      refine r_start ?_
      refine p 2 ?_
      refine xq rfl (y_idx (e := nSign) (el := 85) hy4_2 (s_arg h0)) ?_
      refine p 3 ?_
      refine xq rfl (y_el (e := nSign) 2 (.int .i64 y4_2.Main.Shape.Middle) hy4_2 (s_arg h0)) ?_
      refine p 2 ?_
      refine rend ?_
      refine c_or (y4_2.Main.Shape.Middle != (wr ((wr (n1 + 1)) + 1))) (fun q8 => ?_) (fun q8 => ?_)
      · replace h := H.t q8 h
        refine c_seq ?_
        refine r_start ?_
        refine p 1 ?_
        refine rend ?_
        replace h := H.inr h
        replace h := H.done h
        subst h
        exact ret func43 rfl (vs := [.int .i64 (-1)]) (.tmp (by kernel_rfl) .nil) rfl (fun W S => ⟨rfl, S.below⟩)
      replace h := H.f q8 h
      refine c_skip ?_
      refine c_seq ?_
      refine r_start ?_
      refine p 3 ?_
      refine rend ?_
      refine c_seq ?_
      refine c_seq ?_
      refine r_start ?_
      refine p 2 ?_
      refine xq rfl (y_idx (e := nSign) (el := 85) hy4_2 (s_arg h0)) ?_
      refine p 3 ?_
      refine xq rfl (y_el (e := nSign) 3 (.int .i64 y4_2.Main.Shape.Ring) hy4_2 (s_arg h0)) ?_
      refine p 2 ?_
      refine rend ?_
      refine c_or (y4_2.Main.Shape.Ring != (wr ((wr ((wr (n1 + 1)) + 1)) + 1))) (fun q9 => ?_) (fun q9 => ?_)
      · replace h := H.t q9 h
        refine c_seq ?_
        refine r_start ?_
        refine p 1 ?_
        refine rend ?_
        replace h := H.inr h
        replace h := H.done h
        subst h
        exact ret func43 rfl (vs := [.int .i64 (-1)]) (.tmp (by kernel_rfl) .nil) rfl (fun W S => ⟨rfl, S.below⟩)
      replace h := H.f q9 h
      refine c_skip ?_
      refine c_seq ?_
      refine r_start ?_
      refine p 3 ?_
      refine rend ?_
      refine c_seq ?_
      refine c_seq ?_
      refine r_start ?_
      refine p 2 ?_
      refine xq rfl (y_idx (e := nSign) (el := 85) hy4_2 (s_arg h0)) ?_
      refine p 3 ?_
      refine xq rfl (y_el (e := nSign) 4 (.int .i64 y4_2.Main.Shape.Little) hy4_2 (s_arg h0)) ?_
      refine p 2 ?_
      refine rend ?_
      refine frg (fun u => (.slice A0 (List.length a0) k0 :: .int .i64 (wr ((wr ((wr ((wr (n1 + 1)) + 1)) + 1)) + 1)) :: (jk u 2 3 (.int .i64 n2 :: (jk u 6 58 (.bool (y4_2.Main.Shape.Little != (wr ((wr ((wr ((wr (n1 + 1)) + 1)) + 1)) + 1))) :: (jk u 65 255 []))))))) (by kernel_rfl) fun u => ?_
      refine c_or (y4_2.Main.Shape.Little != (wr ((wr ((wr ((wr (n1 + 1)) + 1)) + 1)) + 1))) (fun q10 => ?_) (fun q10 => ?_)
      · replace h := H.t q10 h
        refine c_seq ?_
        refine r_start ?_
        refine p 1 ?_
        refine rend ?_
        replace h := H.inr h
        replace h := H.done h
        subst h
        exact ret func43 rfl (vs := [.int .i64 (-1)]) (.tmp (by kernel_rfl) .nil) rfl (fun W S => ⟨rfl, S.below⟩)
      replace h := H.f q10 h
      refine c_skip ?_
      refine c_seq ?_
      refine r_start ?_
      refine p 3 ?_
      refine rend ?_
      refine c_seq ?_
      refine c_seq ?_
      refine r_start ?_
      refine p 2 ?_
      refine xq rfl (y_idx (e := nSign) (el := 85) hy4_2 (s_arg h0)) ?_
      refine p 3 ?_
      refine xq rfl (y_el (e := nSign) 5 (.bool y4_2.Main.Shape.Spread) hy4_2 (s_arg h0)) ?_
      refine p 4 ?_
      refine rend ?_
      refine c_or (!(y4_2.Main.Shape.Spread == ((Int.tmod (wr ((wr ((wr ((wr ((wr (n1 + 1)) + 1)) + 1)) + 1)) + 1)) 3) == 0))) (fun q11 => ?_) (fun q11 => ?_)
      · replace h := H.t q11 h
        refine c_seq ?_
        refine r_start ?_
        refine p 1 ?_
        refine rend ?_
        replace h := H.inr h
        replace h := H.done h
        subst h
        exact ret func43 rfl (vs := [.int .i64 (-1)]) (.tmp (by kernel_rfl) .nil) rfl (fun W S => ⟨rfl, S.below⟩)
      replace h := H.f q11 h
      refine c_skip ?_
      refine c_seq ?_
      refine r_start ?_
      refine p 3 ?_
      refine rend ?_
      refine c_seq ?_
      refine c_seq ?_
      refine r_start ?_
      refine p 2 ?_
      refine xq rfl (y_idx (e := nSign) (el := 85) hy4_2 (s_arg h0)) ?_
      refine p 3 ?_
      refine xq rfl (y_el (e := nSign) 6 (.int .i64 y4_2.Main.Orient.Palm) hy4_2 (s_arg h0)) ?_
      refine p 2 ?_
      refine rend ?_
      refine c_or (y4_2.Main.Orient.Palm != (wr ((wr ((wr ((wr ((wr ((wr (n1 + 1)) + 1)) + 1)) + 1)) + 1)) + 1))) (fun q12 => ?_) (fun q12 => ?_)
      · replace h := H.t q12 h
        refine c_seq ?_
        refine r_start ?_
        refine p 1 ?_
        refine rend ?_
        replace h := H.inr h
        replace h := H.done h
        subst h
        exact ret func43 rfl (vs := [.int .i64 (-1)]) (.tmp (by kernel_rfl) .nil) rfl (fun W S => ⟨rfl, S.below⟩)
      replace h := H.f q12 h
      refine c_skip ?_
      refine c_seq ?_
      refine r_start ?_
      refine p 3 ?_
      refine rend ?_
      refine c_seq ?_
      refine c_seq ?_
      refine r_start ?_
      refine p 2 ?_
      refine xq rfl (y_idx (e := nSign) (el := 85) hy4_2 (s_arg h0)) ?_
      refine p 3 ?_
      refine xq rfl (y_el (e := nSign) 7 (.int .i64 y4_2.Main.Orient.Fingers) hy4_2 (s_arg h0)) ?_
      refine p 2 ?_
      refine rend ?_
      refine c_or (y4_2.Main.Orient.Fingers != (wr ((wr ((wr ((wr ((wr ((wr ((wr (n1 + 1)) + 1)) + 1)) + 1)) + 1)) + 1)) + 1))) (fun q13 => ?_) (fun q13 => ?_)
      · replace h := H.t q13 h
        refine c_seq ?_
        refine r_start ?_
        refine p 1 ?_
        refine rend ?_
        replace h := H.inr h
        replace h := H.done h
        subst h
        exact ret func43 rfl (vs := [.int .i64 (-1)]) (.tmp (by kernel_rfl) .nil) rfl (fun W S => ⟨rfl, S.below⟩)
      replace h := H.f q13 h
      refine c_skip ?_
      refine c_seq ?_
      refine r_start ?_
      refine p 3 ?_
      refine rend ?_
      refine c_seq ?_
      refine c_seq ?_
      refine r_start ?_
      refine p 2 ?_
      refine xq rfl (y_idx (e := nSign) (el := 85) hy4_2 (s_arg h0)) ?_
      refine p 3 ?_
      refine xq rfl (y_el (e := nSign) 8 (.int .i64 y4_2.Main.Place.Region) hy4_2 (s_arg h0)) ?_
      refine p 2 ?_
      refine rend ?_
      refine c_or (y4_2.Main.Place.Region != (wr ((wr ((wr ((wr ((wr ((wr ((wr ((wr (n1 + 1)) + 1)) + 1)) + 1)) + 1)) + 1)) + 1)) + 1))) (fun q14 => ?_) (fun q14 => ?_)
      · replace h := H.t q14 h
        refine c_seq ?_
        refine r_start ?_
        refine p 1 ?_
        refine rend ?_
        replace h := H.inr h
        replace h := H.done h
        subst h
        exact ret func43 rfl (vs := [.int .i64 (-1)]) (.tmp (by kernel_rfl) .nil) rfl (fun W S => ⟨rfl, S.below⟩)
      replace h := H.f q14 h
      refine c_skip ?_
      refine c_seq ?_
      refine r_start ?_
      refine p 3 ?_
      refine rend ?_
      refine c_seq ?_
      refine c_seq ?_
      refine r_start ?_
      refine p 2 ?_
      refine xq rfl (y_idx (e := nSign) (el := 85) hy4_2 (s_arg h0)) ?_
      refine p 3 ?_
      refine xq rfl (y_el (e := nSign) 9 (.int .i64 y4_2.Main.Place.Side) hy4_2 (s_arg h0)) ?_
      refine p 2 ?_
      refine rend ?_
      refine c_or (y4_2.Main.Place.Side != (wr ((wr ((wr ((wr ((wr ((wr ((wr ((wr ((wr (n1 + 1)) + 1)) + 1)) + 1)) + 1)) + 1)) + 1)) + 1)) + 1))) (fun q15 => ?_) (fun q15 => ?_)
      · replace h := H.t q15 h
        refine c_seq ?_
        refine r_start ?_
        refine p 1 ?_
        refine rend ?_
        replace h := H.inr h
        replace h := H.done h
        subst h
        exact ret func43 rfl (vs := [.int .i64 (-1)]) (.tmp (by kernel_rfl) .nil) rfl (fun W S => ⟨rfl, S.below⟩)
      replace h := H.f q15 h
      refine c_skip ?_
      refine c_seq ?_
      refine r_start ?_
      refine p 3 ?_
      refine rend ?_
      refine c_seq ?_
      refine c_seq ?_
      refine r_start ?_
      refine p 2 ?_
      refine xq rfl (y_idx (e := nSign) (el := 85) hy4_2 (s_arg h0)) ?_
      refine p 3 ?_
      refine xq rfl (y_el (e := nSign) 10 (.bool y4_2.Main.Place.Contact) hy4_2 (s_arg h0)) ?_
      refine p 4 ?_
      refine rend ?_
      refine frg (fun u => (.slice A0 (List.length a0) k0 :: .int .i64 (wr ((wr ((wr ((wr ((wr ((wr ((wr ((wr ((wr ((wr (n1 + 1)) + 1)) + 1)) + 1)) + 1)) + 1)) + 1)) + 1)) + 1)) + 1)) :: (jk u 2 3 (.int .i64 n2 :: (jk u 6 128 (.bool (!(y4_2.Main.Place.Contact == ((Int.tmod (wr ((wr ((wr ((wr ((wr ((wr ((wr ((wr ((wr ((wr (n1 + 1)) + 1)) + 1)) + 1)) + 1)) + 1)) + 1)) + 1)) + 1)) + 1)) 3) == 0))) :: (jk u 135 185 []))))))) (by kernel_rfl) fun u => ?_
      refine c_or (!(y4_2.Main.Place.Contact == ((Int.tmod (wr ((wr ((wr ((wr ((wr ((wr ((wr ((wr ((wr ((wr (n1 + 1)) + 1)) + 1)) + 1)) + 1)) + 1)) + 1)) + 1)) + 1)) + 1)) 3) == 0))) (fun q16 => ?_) (fun q16 => ?_)
      · replace h := H.t q16 h
        refine c_seq ?_
        refine r_start ?_
        refine p 1 ?_
        refine rend ?_
        replace h := H.inr h
        replace h := H.done h
        subst h
        exact ret func43 rfl (vs := [.int .i64 (-1)]) (.tmp (by kernel_rfl) .nil) rfl (fun W S => ⟨rfl, S.below⟩)
      replace h := H.f q16 h
      refine c_skip ?_
      refine c_seq ?_
      refine r_start ?_
      refine p 3 ?_
      refine rend ?_
      refine c_seq ?_
      refine c_seq ?_
      refine as_start 10 10 ?_
      refine ap 0 2 ?_
      refine aq 2 rfl (y_idx (e := nSign) (el := 85) hy4_2 (s_arg h0)) ?_
      refine ap 3 3 ?_
      refine aq 6 rfl (y_el (e := nSign) 11 (.string (bs y4_2.Main.Move.Steps)) hy4_2 (s_arg h0)) ?_
      refine ap 7 1 ?_
      obtain ⟨v37_8, hv37_8, h⟩ := H.call h
      refine aq 8 rfl (y_call [.int .i64 (wr ((wr ((wr ((wr ((wr ((wr ((wr ((wr ((wr ((wr ((wr (n1 + 1)) + 1)) + 1)) + 1)) + 1)) + 1)) + 1)) + 1)) + 1)) + 1)) + 1))] (.string (bs v37_8)) func65 (fun W S => C.l_markText W hv37_8)) ?_
      refine ap 9 1 ?_
      refine a_done ?_
      refine c_or (!seq y4_2.Main.Move.Steps v37_8) (fun q17 => ?_) (fun q17 => ?_)
      · replace h := H.t q17 h
        refine c_seq ?_
        refine r_start ?_
        refine p 1 ?_
        refine rend ?_
        replace h := H.inr h
        replace h := H.done h
        subst h
        exact ret func43 rfl (vs := [.int .i64 (-1)]) (.tmp (by kernel_rfl) .nil) rfl (fun W S => ⟨rfl, S.below⟩)
      replace h := H.f q17 h
      refine c_skip ?_
      refine c_seq ?_
      refine r_start ?_
      refine p 3 ?_
      refine rend ?_
      refine c_seq ?_
      refine c_seq ?_
      refine r_start ?_
      refine p 2 ?_
      refine xq rfl (y_idx (e := nSign) (el := 85) hy4_2 (s_arg h0)) ?_
      refine p 3 ?_
      refine xq rfl (y_el (e := nSign) 12 (.int .i64 y4_2.Main.Move.Repeat) hy4_2 (s_arg h0)) ?_
      refine p 2 ?_
      refine rend ?_
      refine c_or (y4_2.Main.Move.Repeat != (wr ((wr ((wr ((wr ((wr ((wr ((wr ((wr ((wr ((wr ((wr ((wr (n1 + 1)) + 1)) + 1)) + 1)) + 1)) + 1)) + 1)) + 1)) + 1)) + 1)) + 1)) + 1))) (fun q18 => ?_) (fun q18 => ?_)
      · replace h := H.t q18 h
        refine c_seq ?_
        refine r_start ?_
        refine p 1 ?_
        refine rend ?_
        replace h := H.inr h
        replace h := H.done h
        subst h
        exact ret func43 rfl (vs := [.int .i64 (-1)]) (.tmp (by kernel_rfl) .nil) rfl (fun W S => ⟨rfl, S.below⟩)
      replace h := H.f q18 h
      refine c_skip ?_
      refine c_seq ?_
      refine r_start ?_
      refine p 3 ?_
      refine rend ?_
      refine c_seq ?_
      refine c_seq ?_
      refine r_start ?_
      refine p 2 ?_
      refine xq rfl (y_idx (e := nSign) (el := 85) hy4_2 (s_arg h0)) ?_
      refine p 1 ?_
      refine xq rfl (y_el (e := nSign) 13 (.bool y4_2.Two) hy4_2 (s_arg h0)) ?_
      refine p 4 ?_
      refine rend ?_
      refine c_or (!(y4_2.Two == ((Int.tmod (wr ((wr ((wr ((wr ((wr ((wr ((wr ((wr ((wr ((wr ((wr ((wr ((wr (n1 + 1)) + 1)) + 1)) + 1)) + 1)) + 1)) + 1)) + 1)) + 1)) + 1)) + 1)) + 1)) + 1)) 3) == 0))) (fun q19 => ?_) (fun q19 => ?_)
      · replace h := H.t q19 h
        refine c_seq ?_
        refine r_start ?_
        refine p 1 ?_
        refine rend ?_
        replace h := H.inr h
        replace h := H.done h
        subst h
        exact ret func43 rfl (vs := [.int .i64 (-1)]) (.tmp (by kernel_rfl) .nil) rfl (fun W S => ⟨rfl, S.below⟩)
      replace h := H.f q19 h
      refine c_skip ?_
      refine c_seq ?_
      refine r_start ?_
      refine p 3 ?_
      refine rend ?_
      refine c_seq ?_
      refine c_seq ?_
      refine r_start ?_
      refine p 2 ?_
      refine xq rfl (y_idx (e := nSign) (el := 85) hy4_2 (s_arg h0)) ?_
      refine p 3 ?_
      refine xq rfl (y_el (e := nSign) 14 (.int .i64 y4_2.Other.Shape.Thumb) hy4_2 (s_arg h0)) ?_
      refine p 2 ?_
      refine rend ?_
      refine c_or (y4_2.Other.Shape.Thumb != (wr ((wr ((wr ((wr ((wr ((wr ((wr ((wr ((wr ((wr ((wr ((wr ((wr ((wr (n1 + 1)) + 1)) + 1)) + 1)) + 1)) + 1)) + 1)) + 1)) + 1)) + 1)) + 1)) + 1)) + 1)) + 1))) (fun q20 => ?_) (fun q20 => ?_)
      · replace h := H.t q20 h
        refine c_seq ?_
        refine r_start ?_
        refine p 1 ?_
        refine rend ?_
        replace h := H.inr h
        replace h := H.done h
        subst h
        exact ret func43 rfl (vs := [.int .i64 (-1)]) (.tmp (by kernel_rfl) .nil) rfl (fun W S => ⟨rfl, S.below⟩)
      replace h := H.f q20 h
      refine c_skip ?_
      refine c_seq ?_
      refine r_start ?_
      refine p 3 ?_
      refine rend ?_
      refine c_seq ?_
      refine c_seq ?_
      refine r_start ?_
      refine p 2 ?_
      refine xq rfl (y_idx (e := nSign) (el := 85) hy4_2 (s_arg h0)) ?_
      refine p 3 ?_
      refine xq rfl (y_el (e := nSign) 15 (.int .i64 y4_2.Other.Shape.Index) hy4_2 (s_arg h0)) ?_
      refine p 2 ?_
      refine rend ?_
      refine c_or (y4_2.Other.Shape.Index != (wr ((wr ((wr ((wr ((wr ((wr ((wr ((wr ((wr ((wr ((wr ((wr ((wr ((wr ((wr (n1 + 1)) + 1)) + 1)) + 1)) + 1)) + 1)) + 1)) + 1)) + 1)) + 1)) + 1)) + 1)) + 1)) + 1)) + 1))) (fun q21 => ?_) (fun q21 => ?_)
      · replace h := H.t q21 h
        refine c_seq ?_
        refine r_start ?_
        refine p 1 ?_
        refine rend ?_
        replace h := H.inr h
        replace h := H.done h
        subst h
        exact ret func43 rfl (vs := [.int .i64 (-1)]) (.tmp (by kernel_rfl) .nil) rfl (fun W S => ⟨rfl, S.below⟩)
      replace h := H.f q21 h
      refine c_skip ?_
      refine c_seq ?_
      refine r_start ?_
      refine p 3 ?_
      refine rend ?_
      refine c_seq ?_
      refine c_seq ?_
      refine r_start ?_
      refine p 2 ?_
      refine xq rfl (y_idx (e := nSign) (el := 85) hy4_2 (s_arg h0)) ?_
      refine p 3 ?_
      refine xq rfl (y_el (e := nSign) 16 (.int .i64 y4_2.Other.Shape.Middle) hy4_2 (s_arg h0)) ?_
      refine p 2 ?_
      refine rend ?_
      refine c_or (y4_2.Other.Shape.Middle != (wr ((wr ((wr ((wr ((wr ((wr ((wr ((wr ((wr ((wr ((wr ((wr ((wr ((wr ((wr ((wr (n1 + 1)) + 1)) + 1)) + 1)) + 1)) + 1)) + 1)) + 1)) + 1)) + 1)) + 1)) + 1)) + 1)) + 1)) + 1)) + 1))) (fun q22 => ?_) (fun q22 => ?_)
      · replace h := H.t q22 h
        refine c_seq ?_
        refine r_start ?_
        refine p 1 ?_
        refine rend ?_
        refine frg (fun u => (jk u 0 4 (.int .i64 (-1) :: (jk u 5 315 [])))) (by kernel_rfl) fun u => ?_
        replace h := H.inr h
        replace h := H.done h
        subst h
        exact ret func43 rfl (vs := [.int .i64 (-1)]) (.tmp (by kernel_rfl) .nil) rfl (fun W S => ⟨rfl, S.below⟩)
      replace h := H.f q22 h
      refine c_skip ?_
      refine c_seq ?_
      refine r_start ?_
      refine p 3 ?_
      refine rend ?_
      refine frg (fun u => (.slice A0 (List.length a0) k0 :: .int .i64 (wr ((wr ((wr ((wr ((wr ((wr ((wr ((wr ((wr ((wr ((wr ((wr ((wr ((wr ((wr ((wr ((wr (n1 + 1)) + 1)) + 1)) + 1)) + 1)) + 1)) + 1)) + 1)) + 1)) + 1)) + 1)) + 1)) + 1)) + 1)) + 1)) + 1)) + 1)) :: (jk u 2 3 (.int .i64 n2 :: (jk u 6 314 []))))) (by kernel_rfl) fun u => ?_
      refine c_seq ?_
      refine c_seq ?_
      refine r_start ?_
      refine p 2 ?_
      refine xq rfl (y_idx (e := nSign) (el := 85) hy4_2 (s_arg h0)) ?_
      refine p 3 ?_
      refine xq rfl (y_el (e := nSign) 17 (.int .i64 y4_2.Other.Shape.Ring) hy4_2 (s_arg h0)) ?_
      refine p 2 ?_
      refine rend ?_
      refine c_or (y4_2.Other.Shape.Ring != (wr ((wr ((wr ((wr ((wr ((wr ((wr ((wr ((wr ((wr ((wr ((wr ((wr ((wr ((wr ((wr ((wr (n1 + 1)) + 1)) + 1)) + 1)) + 1)) + 1)) + 1)) + 1)) + 1)) + 1)) + 1)) + 1)) + 1)) + 1)) + 1)) + 1)) + 1))) (fun q23 => ?_) (fun q23 => ?_)
      · replace h := H.t q23 h
        refine c_seq ?_
        refine r_start ?_
        refine p 1 ?_
        refine rend ?_
        replace h := H.inr h
        replace h := H.done h
        subst h
        exact ret func43 rfl (vs := [.int .i64 (-1)]) (.tmp (by kernel_rfl) .nil) rfl (fun W S => ⟨rfl, S.below⟩)
      replace h := H.f q23 h
      refine c_skip ?_
      refine c_seq ?_
      refine r_start ?_
      refine p 3 ?_
      refine rend ?_
      refine c_seq ?_
      refine c_seq ?_
      refine r_start ?_
      refine p 2 ?_
      refine xq rfl (y_idx (e := nSign) (el := 85) hy4_2 (s_arg h0)) ?_
      refine p 3 ?_
      refine xq rfl (y_el (e := nSign) 18 (.int .i64 y4_2.Other.Shape.Little) hy4_2 (s_arg h0)) ?_
      refine p 2 ?_
      refine rend ?_
      refine c_or (y4_2.Other.Shape.Little != (wr ((wr ((wr ((wr ((wr ((wr ((wr ((wr ((wr ((wr ((wr ((wr ((wr ((wr ((wr ((wr ((wr ((wr (n1 + 1)) + 1)) + 1)) + 1)) + 1)) + 1)) + 1)) + 1)) + 1)) + 1)) + 1)) + 1)) + 1)) + 1)) + 1)) + 1)) + 1)) + 1))) (fun q24 => ?_) (fun q24 => ?_)
      · replace h := H.t q24 h
        refine c_seq ?_
        refine r_start ?_
        refine p 1 ?_
        refine rend ?_
        replace h := H.inr h
        replace h := H.done h
        subst h
        exact ret func43 rfl (vs := [.int .i64 (-1)]) (.tmp (by kernel_rfl) .nil) rfl (fun W S => ⟨rfl, S.below⟩)
      replace h := H.f q24 h
      refine c_skip ?_
      refine c_seq ?_
      refine r_start ?_
      refine p 3 ?_
      refine rend ?_
      refine c_seq ?_
      refine c_seq ?_
      refine r_start ?_
      refine p 2 ?_
      refine xq rfl (y_idx (e := nSign) (el := 85) hy4_2 (s_arg h0)) ?_
      refine p 3 ?_
      refine xq rfl (y_el (e := nSign) 19 (.bool y4_2.Other.Shape.Spread) hy4_2 (s_arg h0)) ?_
      refine p 4 ?_
      refine rend ?_
      refine c_or (!(y4_2.Other.Shape.Spread == ((Int.tmod (wr ((wr ((wr ((wr ((wr ((wr ((wr ((wr ((wr ((wr ((wr ((wr ((wr ((wr ((wr ((wr ((wr ((wr ((wr (n1 + 1)) + 1)) + 1)) + 1)) + 1)) + 1)) + 1)) + 1)) + 1)) + 1)) + 1)) + 1)) + 1)) + 1)) + 1)) + 1)) + 1)) + 1)) + 1)) 3) == 0))) (fun q25 => ?_) (fun q25 => ?_)
      · replace h := H.t q25 h
        refine c_seq ?_
        refine r_start ?_
        refine p 1 ?_
        refine rend ?_
        replace h := H.inr h
        replace h := H.done h
        subst h
        exact ret func43 rfl (vs := [.int .i64 (-1)]) (.tmp (by kernel_rfl) .nil) rfl (fun W S => ⟨rfl, S.below⟩)
      replace h := H.f q25 h
      refine c_skip ?_
      refine c_seq ?_
      refine r_start ?_
      refine p 3 ?_
      refine rend ?_
      refine c_seq ?_
      refine c_seq ?_
      refine r_start ?_
      refine p 2 ?_
      refine xq rfl (y_idx (e := nSign) (el := 85) hy4_2 (s_arg h0)) ?_
      refine p 3 ?_
      refine xq rfl (y_el (e := nSign) 20 (.int .i64 y4_2.Other.Orient.Palm) hy4_2 (s_arg h0)) ?_
      refine p 2 ?_
      refine rend ?_
      refine c_or (y4_2.Other.Orient.Palm != (wr ((wr ((wr ((wr ((wr ((wr ((wr ((wr ((wr ((wr ((wr ((wr ((wr ((wr ((wr ((wr ((wr ((wr ((wr ((wr (n1 + 1)) + 1)) + 1)) + 1)) + 1)) + 1)) + 1)) + 1)) + 1)) + 1)) + 1)) + 1)) + 1)) + 1)) + 1)) + 1)) + 1)) + 1)) + 1)) + 1))) (fun q26 => ?_) (fun q26 => ?_)
      · replace h := H.t q26 h
        refine c_seq ?_
        refine r_start ?_
        refine p 1 ?_
        refine rend ?_
        replace h := H.inr h
        replace h := H.done h
        subst h
        exact ret func43 rfl (vs := [.int .i64 (-1)]) (.tmp (by kernel_rfl) .nil) rfl (fun W S => ⟨rfl, S.below⟩)
      replace h := H.f q26 h
      refine c_skip ?_
      refine c_seq ?_
      refine r_start ?_
      refine p 3 ?_
      refine rend ?_
      refine c_seq ?_
      refine c_seq ?_
      refine r_start ?_
      refine p 2 ?_
      refine xq rfl (y_idx (e := nSign) (el := 85) hy4_2 (s_arg h0)) ?_
      refine p 3 ?_
      refine xq rfl (y_el (e := nSign) 21 (.int .i64 y4_2.Other.Orient.Fingers) hy4_2 (s_arg h0)) ?_
      refine p 2 ?_
      refine rend ?_
      refine c_or (y4_2.Other.Orient.Fingers != (wr ((wr ((wr ((wr ((wr ((wr ((wr ((wr ((wr ((wr ((wr ((wr ((wr ((wr ((wr ((wr ((wr ((wr ((wr ((wr ((wr (n1 + 1)) + 1)) + 1)) + 1)) + 1)) + 1)) + 1)) + 1)) + 1)) + 1)) + 1)) + 1)) + 1)) + 1)) + 1)) + 1)) + 1)) + 1)) + 1)) + 1)) + 1))) (fun q27 => ?_) (fun q27 => ?_)
      · replace h := H.t q27 h
        refine c_seq ?_
        refine r_start ?_
        refine p 1 ?_
        refine rend ?_
        replace h := H.inr h
        replace h := H.done h
        subst h
        exact ret func43 rfl (vs := [.int .i64 (-1)]) (.tmp (by kernel_rfl) .nil) rfl (fun W S => ⟨rfl, S.below⟩)
      replace h := H.f q27 h
      refine c_skip ?_
      refine c_seq ?_
      refine r_start ?_
      refine p 3 ?_
      refine rend ?_
      refine c_seq ?_
      refine c_seq ?_
      refine r_start ?_
      refine p 2 ?_
      refine xq rfl (y_idx (e := nSign) (el := 85) hy4_2 (s_arg h0)) ?_
      refine p 3 ?_
      refine xq rfl (y_el (e := nSign) 22 (.int .i64 y4_2.Other.Place.Region) hy4_2 (s_arg h0)) ?_
      refine p 2 ?_
      refine rend ?_
      refine c_or (y4_2.Other.Place.Region != (wr ((wr ((wr ((wr ((wr ((wr ((wr ((wr ((wr ((wr ((wr ((wr ((wr ((wr ((wr ((wr ((wr ((wr ((wr ((wr ((wr ((wr (n1 + 1)) + 1)) + 1)) + 1)) + 1)) + 1)) + 1)) + 1)) + 1)) + 1)) + 1)) + 1)) + 1)) + 1)) + 1)) + 1)) + 1)) + 1)) + 1)) + 1)) + 1)) + 1))) (fun q28 => ?_) (fun q28 => ?_)
      · replace h := H.t q28 h
        refine c_seq ?_
        refine r_start ?_
        refine p 1 ?_
        refine rend ?_
        refine frg (fun u => (jk u 0 4 (.int .i64 (-1) :: (jk u 5 315 [])))) (by kernel_rfl) fun u => ?_
        replace h := H.inr h
        replace h := H.done h
        subst h
        exact ret func43 rfl (vs := [.int .i64 (-1)]) (.tmp (by kernel_rfl) .nil) rfl (fun W S => ⟨rfl, S.below⟩)
      replace h := H.f q28 h
      refine c_skip ?_
      refine c_seq ?_
      refine r_start ?_
      refine p 3 ?_
      refine rend ?_
      refine frg (fun u => (.slice A0 (List.length a0) k0 :: .int .i64 (wr ((wr ((wr ((wr ((wr ((wr ((wr ((wr ((wr ((wr ((wr ((wr ((wr ((wr ((wr ((wr ((wr ((wr ((wr ((wr ((wr ((wr ((wr (n1 + 1)) + 1)) + 1)) + 1)) + 1)) + 1)) + 1)) + 1)) + 1)) + 1)) + 1)) + 1)) + 1)) + 1)) + 1)) + 1)) + 1)) + 1)) + 1)) + 1)) + 1)) + 1)) + 1)) :: (jk u 2 3 (.int .i64 n2 :: (jk u 6 314 []))))) (by kernel_rfl) fun u => ?_
      refine c_seq ?_
      refine c_seq ?_
      refine r_start ?_
      refine p 2 ?_
      refine xq rfl (y_idx (e := nSign) (el := 85) hy4_2 (s_arg h0)) ?_
      refine p 3 ?_
      refine xq rfl (y_el (e := nSign) 23 (.int .i64 y4_2.Other.Place.Side) hy4_2 (s_arg h0)) ?_
      refine p 2 ?_
      refine rend ?_
      refine c_or (y4_2.Other.Place.Side != (wr ((wr ((wr ((wr ((wr ((wr ((wr ((wr ((wr ((wr ((wr ((wr ((wr ((wr ((wr ((wr ((wr ((wr ((wr ((wr ((wr ((wr ((wr (n1 + 1)) + 1)) + 1)) + 1)) + 1)) + 1)) + 1)) + 1)) + 1)) + 1)) + 1)) + 1)) + 1)) + 1)) + 1)) + 1)) + 1)) + 1)) + 1)) + 1)) + 1)) + 1)) + 1))) (fun q29 => ?_) (fun q29 => ?_)
      · replace h := H.t q29 h
        refine c_seq ?_
        refine r_start ?_
        refine p 1 ?_
        refine rend ?_
        replace h := H.inr h
        replace h := H.done h
        subst h
        exact ret func43 rfl (vs := [.int .i64 (-1)]) (.tmp (by kernel_rfl) .nil) rfl (fun W S => ⟨rfl, S.below⟩)
      replace h := H.f q29 h
      refine c_skip ?_
      refine c_seq ?_
      refine r_start ?_
      refine p 3 ?_
      refine rend ?_
      refine c_seq ?_
      refine c_seq ?_
      refine r_start ?_
      refine p 2 ?_
      refine xq rfl (y_idx (e := nSign) (el := 85) hy4_2 (s_arg h0)) ?_
      refine p 3 ?_
      refine xq rfl (y_el (e := nSign) 24 (.bool y4_2.Other.Place.Contact) hy4_2 (s_arg h0)) ?_
      refine p 4 ?_
      refine rend ?_
      refine c_or (!(y4_2.Other.Place.Contact == ((Int.tmod (wr ((wr ((wr ((wr ((wr ((wr ((wr ((wr ((wr ((wr ((wr ((wr ((wr ((wr ((wr ((wr ((wr ((wr ((wr ((wr ((wr ((wr ((wr ((wr (n1 + 1)) + 1)) + 1)) + 1)) + 1)) + 1)) + 1)) + 1)) + 1)) + 1)) + 1)) + 1)) + 1)) + 1)) + 1)) + 1)) + 1)) + 1)) + 1)) + 1)) + 1)) + 1)) + 1)) + 1)) 3) == 0))) (fun q30 => ?_) (fun q30 => ?_)
      · replace h := H.t q30 h
        refine c_seq ?_
        refine r_start ?_
        refine p 1 ?_
        refine rend ?_
        replace h := H.inr h
        replace h := H.done h
        subst h
        exact ret func43 rfl (vs := [.int .i64 (-1)]) (.tmp (by kernel_rfl) .nil) rfl (fun W S => ⟨rfl, S.below⟩)
      replace h := H.f q30 h
      refine c_skip ?_
      refine c_seq ?_
      refine r_start ?_
      refine p 3 ?_
      refine rend ?_
      refine c_seq ?_
      refine c_seq ?_
      refine as_start 10 10 ?_
      refine ap 0 2 ?_
      refine aq 2 rfl (y_idx (e := nSign) (el := 85) hy4_2 (s_arg h0)) ?_
      refine ap 3 3 ?_
      refine aq 6 rfl (y_el (e := nSign) 25 (.string (bs y4_2.Other.Move.Steps)) hy4_2 (s_arg h0)) ?_
      refine ap 7 1 ?_
      obtain ⟨v79_8, hv79_8, h⟩ := H.call h
      refine aq 8 rfl (y_call [.int .i64 (wr ((wr ((wr ((wr ((wr ((wr ((wr ((wr ((wr ((wr ((wr ((wr ((wr ((wr ((wr ((wr ((wr ((wr ((wr ((wr ((wr ((wr ((wr ((wr ((wr (n1 + 1)) + 1)) + 1)) + 1)) + 1)) + 1)) + 1)) + 1)) + 1)) + 1)) + 1)) + 1)) + 1)) + 1)) + 1)) + 1)) + 1)) + 1)) + 1)) + 1)) + 1)) + 1)) + 1)) + 1)) + 1))] (.string (bs v79_8)) func65 (fun W S => C.l_markText W hv79_8)) ?_
      refine ap 9 1 ?_
      refine a_done ?_
      refine c_or (!seq y4_2.Other.Move.Steps v79_8) (fun q31 => ?_) (fun q31 => ?_)
      · replace h := H.t q31 h
        refine c_seq ?_
        refine r_start ?_
        refine p 1 ?_
        refine rend ?_
        replace h := H.inr h
        replace h := H.done h
        subst h
        exact ret func43 rfl (vs := [.int .i64 (-1)]) (.tmp (by kernel_rfl) .nil) rfl (fun W S => ⟨rfl, S.below⟩)
      replace h := H.f q31 h
      refine c_skip ?_
      refine c_seq ?_
      refine r_start ?_
      refine p 3 ?_
      refine rend ?_
      refine c_seq ?_
      refine c_seq ?_
      refine r_start ?_
      refine p 2 ?_
      refine xq rfl (y_idx (e := nSign) (el := 85) hy4_2 (s_arg h0)) ?_
      refine p 3 ?_
      refine xq rfl (y_el (e := nSign) 26 (.int .i64 y4_2.Other.Move.Repeat) hy4_2 (s_arg h0)) ?_
      refine p 2 ?_
      refine rend ?_
      refine c_or (y4_2.Other.Move.Repeat != (wr ((wr ((wr ((wr ((wr ((wr ((wr ((wr ((wr ((wr ((wr ((wr ((wr ((wr ((wr ((wr ((wr ((wr ((wr ((wr ((wr ((wr ((wr ((wr ((wr ((wr (n1 + 1)) + 1)) + 1)) + 1)) + 1)) + 1)) + 1)) + 1)) + 1)) + 1)) + 1)) + 1)) + 1)) + 1)) + 1)) + 1)) + 1)) + 1)) + 1)) + 1)) + 1)) + 1)) + 1)) + 1)) + 1)) + 1))) (fun q32 => ?_) (fun q32 => ?_)
      · replace h := H.t q32 h
        refine c_seq ?_
        refine r_start ?_
        refine p 1 ?_
        refine rend ?_
        replace h := H.inr h
        replace h := H.done h
        subst h
        exact ret func43 rfl (vs := [.int .i64 (-1)]) (.tmp (by kernel_rfl) .nil) rfl (fun W S => ⟨rfl, S.below⟩)
      replace h := H.f q32 h
      refine c_skip ?_
      refine r_start ?_
      refine p 3 ?_
      refine rend ?_
      refine c_inb ?_
      refine r_start ?_
      refine p 3 ?_
      refine rend ?_
      replace h := H.inl h
      exact h ((wr ((wr ((wr ((wr ((wr ((wr ((wr ((wr ((wr ((wr ((wr ((wr ((wr ((wr ((wr ((wr ((wr ((wr ((wr ((wr ((wr ((wr ((wr ((wr ((wr ((wr ((wr (n1 + 1)) + 1)) + 1)) + 1)) + 1)) + 1)) + 1)) + 1)) + 1)) + 1)) + 1)) + 1)) + 1)) + 1)) + 1)) + 1)) + 1)) + 1)) + 1)) + 1)) + 1)) + 1)) + 1)) + 1)) + 1)) + 1)) + 1)), (wr (n2 + 1))) _ _ rfl (by kernel_rfl) (by kernel_rfl)
    replace h := H.f q5 h
    refine cx ?_
    replace h := H.inr h
    exact hj4 n1 _ _ h (by kernel_rfl) (by kernel_rfl)
  intro n3 u h
  refine c_seq ?_
  refine r_start ?_
  refine p 2 ?_
  refine rend ?_
  replace h := H.done h
  subst h
  exact ret func43 rfl (vs := [.int .i64 n3]) (.tmp (by kernel_rfl) .nil) rfl (fun W S => ⟨rfl, S.below⟩)
theorem C.l_FnExactSortSigns {fu : Nat} {a0 : (List Sign)} {A0 : Option Addr} {k0 : Nat} {r : Bool} (w : World) (h : X.l_FnExactSortSigns fu a0 = some r) (h0 : RdT nSign w (.slice A0 (List.length a0) k0) a0) : Calls prog 11 #[.slice A0 (List.length a0) k0] w (Ret w (.bool r)) := by
  refine calls (M := no) (args := [.slice A0 (List.length a0) k0]) func11 rfl ?_
  replace h : H (X.l_FnExactSortSigns fu a0) (fun o => o = r) := H.mk h
  unfold X.l_FnExactSortSigns at h
  refine c_seq ?_
  refine r_start ?_
  refine p 1 ?_
  refine rend ?_
  refine c_seq ?_
  refine r_start ?_
  refine p 1 ?_
  refine rend ?_
  refine c_seq ?_
  refine r_start ?_
  refine p 2 ?_
  obtain ⟨v2_2, hv2_2, h⟩ := H.call h
  refine xq rfl (y_call [.slice A0 (List.length a0) k0, .int .i64 1048576] (.int .i64 v2_2) func15 (fun W S => C.l_szSignS W hv2_2 ((s_arg h0).out W S))) ?_
  refine p 1 ?_
  refine rend ?_
  refine c_seq ?_
  refine c_seq ?_
  refine r_start ?_
  refine p 2 ?_
  refine rend ?_
  refine c_or (decide (v2_2 < 0)) (fun q1 => ?_) (fun q1 => ?_)
  · replace h := H.t q1 h
    refine c_seq ?_
    refine r_start ?_
    refine p 1 ?_
    refine rend ?_
    replace h := H.done h
    subst h
    exact ret func11 rfl (vs := [.bool true]) (.tmp (by kernel_rfl) .nil) rfl (fun W S => ⟨rfl, S.below⟩)
  replace h := H.f q1 h
  refine c_skip ?_
  refine c_seq ?_
  refine r_start ?_
  refine p 1 ?_
  obtain ⟨v5_1, hv5_1, h⟩ := H.call h
  refine xx rfl (e_cr [.slice A0 (List.length a0) k0] (fun v => v) func17 (fun W S => C.l_toSignS W hv5_1 ((s_arg h0).out W S)) fun A5_1 k5_1 => ?_)
  obtain ⟨v5_2, hv5_2, h⟩ := H.call h
  refine xx rfl (e_cr [.slice A5_1 (List.length v5_1) k5_1] (fun v => .tuple #[v, .bool v5_2.2]) func41 (fun W S => C.s_SortSigns W hv5_2 ((s_own 0).out W S)) fun A5_2 k5_2 => ?_)
  refine p 5 ?_
  refine rend ?_
  refine c_seq ?_
  refine r_start ?_
  refine p 1 ?_
  obtain ⟨v6_1, hv6_1, h⟩ := H.call h
  refine xx rfl (e_cr [.slice A0 (List.length a0) k0] (fun v => v) func17 (fun W S => C.l_toSignS W hv6_1 ((s_arg h0).out W S)) fun A6_1 k6_1 => ?_)
  refine p 1 ?_
  refine rend ?_
  refine c_seq ?_
  refine r_start ?_
  refine p 1 ?_
  obtain ⟨v7_1, hv7_1, h⟩ := H.call h
  refine xx rfl (e_cr [.slice A6_1 (List.length v6_1) k6_1] (fun v => .tuple #[v, .bool v7_1.2]) func42 (fun W S => C.i_SortSigns W hv7_1 ((s_own 2).out W S)) fun A7_1 k7_1 => ?_)
  refine p 5 ?_
  refine rend ?_
  refine c_seq ?_
  refine c_seq ?_
  refine r_start ?_
  refine p 2 ?_
  obtain ⟨v8_2, hv8_2, h⟩ := H.call h
  refine xq rfl (y_call [.slice A7_1 (List.length v7_1.1) k7_1, .slice A5_2 (List.length v5_2.1) k5_2] (.bool v8_2) func19 (fun W S => C.l_eqSignS W hv8_2 ((s_own 3).out W S) ((s_own 1).out W S))) ?_
  refine p 2 ?_
  refine br (!v8_2) (fun q2 => ?_) (fun q2 => ?_)
  · replace h := H.t q2 h
    refine o_set 36 (congrArg Value.bool q2) ?_
    refine p 4 ?_
    refine rend ?_
    refine c_t (by kernel_rfl) ?_
    refine c_seq ?_
    refine r_start ?_
    refine p 1 ?_
    refine rend ?_
    replace h := H.done h
    subst h
    exact ret func11 rfl (vs := [.bool false]) (.tmp (by kernel_rfl) .nil) rfl (fun W S => ⟨rfl, S.below⟩)
  replace h := H.f q2 h
  refine o_set 36 (congrArg Value.bool q2) ?_
  refine p 4 ?_
  refine rend ?_
  refine c_or (!(v7_1.2 == v5_2.2)) (fun q3 => ?_) (fun q3 => ?_)
  · replace h := H.t q3 h
    refine c_seq ?_
    refine r_start ?_
    refine p 1 ?_
    refine rend ?_
    replace h := H.done h
    subst h
    exact ret func11 rfl (vs := [.bool false]) (.tmp (by kernel_rfl) .nil) rfl (fun W S => ⟨rfl, S.below⟩)
  replace h := H.f q3 h
  refine c_skip ?_
  refine c_seq ?_
  refine c_seq ?_
  refine r_start ?_
  refine p 2 ?_
  obtain ⟨v10_2, hv10_2, h⟩ := H.call h
  refine xx rfl (e_cr [.slice A0 (List.length a0) k0] (fun v => v) func17 (fun W S => C.l_toSignS W hv10_2 ((s_arg h0).out W S)) fun A10_2 k10_2 => ?_)
  obtain ⟨v10_3, hv10_3, h⟩ := H.call h
  refine xq rfl (y_call [.slice A6_1 (List.length v6_1) k6_1, .slice A10_2 (List.length v10_2) k10_2] (.bool v10_3) func19 (fun W S => C.l_eqSignS W hv10_3 ((s_own 2).out W S) ((s_own 4).out W S))) ?_
  refine p 1 ?_
  refine rend ?_
  refine c_or (!v10_3) (fun q4 => ?_) (fun q4 => ?_)
  · replace h := H.t q4 h
    refine c_seq ?_
    refine r_start ?_
    refine p 1 ?_
    refine rend ?_
    replace h := H.done h
    subst h
    exact ret func11 rfl (vs := [.bool false]) (.tmp (by kernel_rfl) .nil) rfl (fun W S => ⟨rfl, S.below⟩)
  replace h := H.f q4 h
  refine c_skip ?_
  refine c_seq ?_
  refine r_start ?_
  refine p 1 ?_
  refine rend ?_
  refine c_seq ?_
  refine r_start ?_
  refine p 2 ?_
  obtain ⟨v13_2, hv13_2, h⟩ := H.call h
  refine xx rfl (e_cw (e := nSign) (l' := v13_2.2) (v := .int .i64 v13_2.1) 2 [.slice A6_1 (List.length v6_1) k6_1, .int .i64 1] func23 (fun W S => C.l_markSignS W hv13_2 rfl (S.row 2)) fun hl13_2 => ?_)
  refine o_set 6 (sl_len (A := A6_1) (c := k6_1) hl13_2) ?_
  refine p 1 ?_
  refine rend ?_
  refine c_seq ?_
  refine c_seq ?_
  refine r_start ?_
  refine p 3 ?_
  refine br (decide (v13_2.1 < 0)) (fun q5 => ?_) (fun q5 => ?_)
  · replace h := H.t q5 h
    refine o_set 51 (congrArg Value.bool q5) ?_
    refine p 10 ?_
    refine rend ?_
    refine frg (fun u => (.slice A0 (List.length a0) k0 :: (jk u 1 3 (.slice A5_2 (List.length v5_2.1) k5_2 :: .bool v5_2.2 :: (jk u 6 1 (.slice A7_1 (List.length v7_1.1) k7_1 :: (jk u 8 53 (.bool true :: (jk u 62 34 []))))))))) (by kernel_rfl) fun u => ?_
    refine keep 5 (its' := [rowT nSign w.heap.size 85 (.slice A5_1 (List.length v5_1) k5_1) v5_1, rowT nSign w.heap.size 85 (.slice A5_2 (List.length v5_2.1) k5_2) v5_2.1, rowT nSign w.heap.size 85 (.slice A6_1 (List.length v13_2.2) k6_1) v13_2.2, rowT nSign w.heap.size 85 (.slice A7_1 (List.length v7_1.1) k7_1) v7_1.1, rowT nSign w.heap.size 85 (.slice A10_2 (List.length v10_2) k10_2) v10_2]) (by kernel_rfl) ?_
    refine c_t (by kernel_rfl) ?_
    refine c_seq ?_
    refine r_start ?_
    refine p 1 ?_
    refine rend ?_
    replace h := H.done h
    subst h
    exact ret func11 rfl (vs := [.bool false]) (.tmp (by kernel_rfl) .nil) rfl (fun W S => ⟨rfl, S.below⟩)
  replace h := H.f q5 h
  refine o_set 51 (congrArg Value.bool q5) ?_
  refine p 2 ?_
  obtain ⟨v14_5, hv14_5, h⟩ := H.call h
  refine xq rfl (y_call [.slice A7_1 (List.length v7_1.1) k7_1, .slice A5_2 (List.length v5_2.1) k5_2] (.bool v14_5) func19 (fun W S => C.l_eqSignS W hv14_5 ((s_own 3).out W S) ((s_own 1).out W S))) ?_
  refine p 3 ?_
  refine br (!v14_5) (fun q6 => ?_) (fun q6 => ?_)
  · replace h := H.t q6 h
    refine o_set 57 (congrArg Value.bool q6) ?_
    refine p 4 ?_
    refine rend ?_
    refine frg (fun u => (.slice A0 (List.length a0) k0 :: (jk u 1 3 (.slice A5_2 (List.length v5_2.1) k5_2 :: .bool v5_2.2 :: (jk u 6 1 (.slice A7_1 (List.length v7_1.1) k7_1 :: (jk u 8 53 (.bool true :: (jk u 62 34 []))))))))) (by kernel_rfl) fun u => ?_
    refine keep 5 (its' := [rowT nSign w.heap.size 85 (.slice A5_1 (List.length v5_1) k5_1) v5_1, rowT nSign w.heap.size 85 (.slice A5_2 (List.length v5_2.1) k5_2) v5_2.1, rowT nSign w.heap.size 85 (.slice A6_1 (List.length v13_2.2) k6_1) v13_2.2, rowT nSign w.heap.size 85 (.slice A7_1 (List.length v7_1.1) k7_1) v7_1.1, rowT nSign w.heap.size 85 (.slice A10_2 (List.length v10_2) k10_2) v10_2]) (by kernel_rfl) ?_
    refine c_t (by kernel_rfl) ?_
    refine c_seq ?_
    refine r_start ?_
    refine p 1 ?_
    refine rend ?_
    replace h := H.done h
    subst h
    exact ret func11 rfl (vs := [.bool false]) (.tmp (by kernel_rfl) .nil) rfl (fun W S => ⟨rfl, S.below⟩)
  replace h := H.f q6 h
  refine o_set 57 (congrArg Value.bool q6) ?_
  refine p 4 ?_
  refine rend ?_
  refine frg (fun u => (.slice A0 (List.length a0) k0 :: (jk u 1 3 (.slice A5_2 (List.length v5_2.1) k5_2 :: .bool v5_2.2 :: (jk u 6 1 (.slice A7_1 (List.length v7_1.1) k7_1 :: (jk u 8 53 (.bool (!(v7_1.2 == v5_2.2)) :: (jk u 62 34 []))))))))) (by kernel_rfl) fun u => ?_
  refine keep 5 (its' := [rowT nSign w.heap.size 85 (.slice A5_1 (List.length v5_1) k5_1) v5_1, rowT nSign w.heap.size 85 (.slice A5_2 (List.length v5_2.1) k5_2) v5_2.1, rowT nSign w.heap.size 85 (.slice A6_1 (List.length v13_2.2) k6_1) v13_2.2, rowT nSign w.heap.size 85 (.slice A7_1 (List.length v7_1.1) k7_1) v7_1.1, rowT nSign w.heap.size 85 (.slice A10_2 (List.length v10_2) k10_2) v10_2]) (by kernel_rfl) ?_
  refine c_no q3 ?_
  refine c_skip ?_
  refine c_seq ?_
  refine r_start ?_
  refine p 1 ?_
  refine rend ?_
  refine c_seq ?_
  refine r_start ?_
  refine p 2 ?_
  obtain ⟨v17_2, hv17_2, h⟩ := H.call h
  refine xx rfl (e_cw (e := nSign) (l' := v17_2.2) (v := .int .i64 v17_2.1) 3 [.slice A7_1 (List.length v7_1.1) k7_1, .int .i64 1] func23 (fun W S => C.l_markSignS W hv17_2 rfl (S.row 3)) fun hl17_2 => ?_)
  refine o_set 7 (sl_len (A := A7_1) (c := k7_1) hl17_2) ?_
  refine p 1 ?_
  refine rend ?_
  refine c_seq ?_
  refine r_start ?_
  refine p 1 ?_
  refine rend ?_
  refine c_seq ?_
  refine r_start ?_
  refine p 2 ?_
  obtain ⟨v19_2, hv19_2, h⟩ := H.call h
  refine xq rfl (y_call [.slice A7_1 (List.length v17_2.2) k7_1, .int .i64 1] (.int .i64 v19_2) func43 (fun W S => C.l_heldSignS W hv19_2 ((s_own 3).out W S))) ?_
  refine p 1 ?_
  refine rend ?_
  refine c_seq ?_
  refine c_seq ?_
  refine r_start ?_
  refine p 2 ?_
  refine rend ?_
  refine c_or (decide (v19_2 < 0)) (fun q7 => ?_) (fun q7 => ?_)
  · replace h := H.t q7 h
    refine c_seq ?_
    refine r_start ?_
    refine p 1 ?_
    refine rend ?_
    replace h := H.done h
    subst h
    exact ret func11 rfl (vs := [.bool false]) (.tmp (by kernel_rfl) .nil) rfl (fun W S => ⟨rfl, S.below⟩)
  replace h := H.f q7 h
  refine c_skip ?_
  refine c_seq ?_
  refine c_seq ?_
  refine r_start ?_
  refine p 3 ?_
  refine rend ?_
  refine c_or (v19_2 != v17_2.1) (fun q8 => ?_) (fun q8 => ?_)
  · replace h := H.t q8 h
    refine c_seq ?_
    refine r_start ?_
    refine p 1 ?_
    refine rend ?_
    replace h := H.done h
    subst h
    exact ret func11 rfl (vs := [.bool false]) (.tmp (by kernel_rfl) .nil) rfl (fun W S => ⟨rfl, S.below⟩)
  replace h := H.f q8 h
  refine c_skip ?_
  refine c_seq ?_
  refine r_start ?_
  refine p 1 ?_
  obtain ⟨v24_1, hv24_1, h⟩ := H.call h
  refine xx rfl (e_cr [.slice A0 (List.length a0) k0] (fun v => v) func17 (fun W S => C.l_toSignS W hv24_1 ((s_arg h0).out W S)) fun A24_1 k24_1 => ?_)
  obtain ⟨v24_2, hv24_2, h⟩ := H.call h
  refine xx rfl (e_cr [.slice A24_1 (List.length v24_1) k24_1] (fun v => .tuple #[v, .bool v24_2.2]) func42 (fun W S => C.i_SortSigns W hv24_2 ((s_own 5).out W S)) fun A24_2 k24_2 => ?_)
  refine p 5 ?_
  refine rend ?_
  refine c_seq ?_
  refine c_seq ?_
  refine r_start ?_
  refine p 2 ?_
  obtain ⟨v25_2, hv25_2, h⟩ := H.call h
  refine xq rfl (y_call [.slice A24_2 (List.length v24_2.1) k24_2, .slice A5_2 (List.length v5_2.1) k5_2] (.bool v25_2) func19 (fun W S => C.l_eqSignS W hv25_2 ((s_own 6).out W S) ((s_own 1).out W S))) ?_
  refine p 2 ?_
  refine br (!v25_2) (fun q9 => ?_) (fun q9 => ?_)
  · replace h := H.t q9 h
    refine o_set 83 (congrArg Value.bool q9) ?_
    refine p 4 ?_
    refine rend ?_
    refine c_t (by kernel_rfl) ?_
    refine c_seq ?_
    refine r_start ?_
    refine p 1 ?_
    refine rend ?_
    replace h := H.done h
    subst h
    exact ret func11 rfl (vs := [.bool false]) (.tmp (by kernel_rfl) .nil) rfl (fun W S => ⟨rfl, S.below⟩)
  replace h := H.f q9 h
  refine o_set 83 (congrArg Value.bool q9) ?_
  refine p 4 ?_
  refine rend ?_
  refine c_or (!(v24_2.2 == v5_2.2)) (fun q10 => ?_) (fun q10 => ?_)
  · replace h := H.t q10 h
    refine c_seq ?_
    refine r_start ?_
    refine p 1 ?_
    refine rend ?_
    replace h := H.done h
    subst h
    exact ret func11 rfl (vs := [.bool false]) (.tmp (by kernel_rfl) .nil) rfl (fun W S => ⟨rfl, S.below⟩)
  replace h := H.f q10 h
  refine c_skip ?_
  refine c_seq ?_
  refine r_start ?_
  refine p 1 ?_
  refine rend ?_
  refine c_seq ?_
  refine r_start ?_
  refine p 2 ?_
  obtain ⟨v28_2, hv28_2, h⟩ := H.call h
  refine xq rfl (y_call [.slice A7_1 (List.length v17_2.2) k7_1, .int .i64 1] (.int .i64 v28_2) func43 (fun W S => C.l_heldSignS W hv28_2 ((s_own 3).out W S))) ?_
  refine p 1 ?_
  refine rend ?_
  refine c_seq ?_
  refine c_seq ?_
  refine r_start ?_
  refine p 2 ?_
  refine rend ?_
  refine c_or (decide (v28_2 < 0)) (fun q11 => ?_) (fun q11 => ?_)
  · replace h := H.t q11 h
    refine c_seq ?_
    refine r_start ?_
    refine p 1 ?_
    refine rend ?_
    refine frg (fun u => (jk u 0 2 (.bool false :: (jk u 3 93 [])))) (by kernel_rfl) fun u => ?_
    refine keep 7 (its' := [rowT nSign w.heap.size 85 (.slice A5_1 (List.length v5_1) k5_1) v5_1, rowT nSign w.heap.size 85 (.slice A5_2 (List.length v5_2.1) k5_2) v5_2.1, rowT nSign w.heap.size 85 (.slice A6_1 (List.length v13_2.2) k6_1) v13_2.2, rowT nSign w.heap.size 85 (.slice A7_1 (List.length v17_2.2) k7_1) v17_2.2, rowT nSign w.heap.size 85 (.slice A10_2 (List.length v10_2) k10_2) v10_2, rowT nSign w.heap.size 85 (.slice A24_1 (List.length v24_1) k24_1) v24_1, rowT nSign w.heap.size 85 (.slice A24_2 (List.length v24_2.1) k24_2) v24_2.1]) (by kernel_rfl) ?_
    replace h := H.done h
    subst h
    exact ret func11 rfl (vs := [.bool false]) (.tmp (by kernel_rfl) .nil) rfl (fun W S => ⟨rfl, S.below⟩)
  replace h := H.f q11 h
  refine c_skip ?_
  refine c_seq ?_
  refine c_seq ?_
  refine r_start ?_
  refine p 3 ?_
  refine rend ?_
  refine frg (fun u => (jk u 0 95 [.bool (v28_2 != v17_2.1)])) (by kernel_rfl) fun u => ?_
  refine keep 7 (its' := [rowT nSign w.heap.size 85 (.slice A5_1 (List.length v5_1) k5_1) v5_1, rowT nSign w.heap.size 85 (.slice A5_2 (List.length v5_2.1) k5_2) v5_2.1, rowT nSign w.heap.size 85 (.slice A6_1 (List.length v13_2.2) k6_1) v13_2.2, rowT nSign w.heap.size 85 (.slice A7_1 (List.length v17_2.2) k7_1) v17_2.2, rowT nSign w.heap.size 85 (.slice A10_2 (List.length v10_2) k10_2) v10_2, rowT nSign w.heap.size 85 (.slice A24_1 (List.length v24_1) k24_1) v24_1, rowT nSign w.heap.size 85 (.slice A24_2 (List.length v24_2.1) k24_2) v24_2.1]) (by kernel_rfl) ?_
  refine c_or (v28_2 != v17_2.1) (fun q12 => ?_) (fun q12 => ?_)
  · replace h := H.t q12 h
    refine c_seq ?_
    refine r_start ?_
    refine p 1 ?_
    refine rend ?_
    replace h := H.done h
    subst h
    exact ret func11 rfl (vs := [.bool false]) (.tmp (by kernel_rfl) .nil) rfl (fun W S => ⟨rfl, S.below⟩)
  replace h := H.f q12 h
  refine c_skip ?_
  refine c_seq ?_
  refine r_start ?_
  refine p 1 ?_
  refine rend ?_
  replace h := H.done h
  subst h
  exact ret func11 rfl (vs := [.bool true]) (.tmp (by kernel_rfl) .nil) rfl (fun W S => ⟨rfl, S.below⟩)
end Go.Proofs.XC
