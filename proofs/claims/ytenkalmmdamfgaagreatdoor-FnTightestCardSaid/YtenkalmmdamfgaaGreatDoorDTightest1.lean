/- Contracts: each function, called where its plain function gives an answer, returns just that answer and changes nothing that was there. By AI agents; no person has read it. -/
import Derived.Test.YtenkalmmdamfgaaGreatDoorDTightest
set_option linter.unusedVariables false
set_option linter.unusedSimpArgs false
set_option maxRecDepth 100000
set_option maxHeartbeats 40000000
namespace Go.Proofs.XC
open Go Go.RowKit
open Tryz
theorem C.l_FnTightest {fu : Nat} {a0 : (List Int)} {A0 : Option Addr} {k0 : Nat} {a1 : (List Int)} {A1 : Option Addr} {k1 : Nat} {r : Bool} (w : World) (h : X.l_FnTightest fu a0 a1 = some r) (h0 : RdT (eI .u8) w (.slice A0 (List.length a0) k0) a0) (h1 : RdT (eI .u8) w (.slice A1 (List.length a1) k1) a1) : Calls prog 4 #[.slice A0 (List.length a0) k0, .slice A1 (List.length a1) k1] w (Ret w (.bool r)) := by
  refine calls (M := no) (args := [.slice A0 (List.length a0) k0, .slice A1 (List.length a1) k1]) func4 rfl ?_
  replace h : H (X.l_FnTightest fu a0 a1) (fun o => o = r) := H.mk h
  unfold X.l_FnTightest at h
  refine c_seq ?_
  refine r_start ?_
  refine p 1 ?_
  refine rend ?_
  refine c_seq ?_
  refine c_seq ?_
  refine r_start ?_
  refine p 6 ?_
  refine rend ?_
  refine c_or (decide ((wr ((List.length a0 : Int) + (List.length a1 : Int))) > 1048576)) (fun q1 => ?_) (fun q1 => ?_)
  · replace h := H.t q1 h
    refine c_seq ?_
    refine r_start ?_
    refine p 1 ?_
    refine rend ?_
    replace h := H.done h
    subst h
    exact ret func4 rfl (vs := [.bool true]) (.tmp (by kernel_rfl) .nil) rfl (fun W S => ⟨rfl, S.below⟩)
  replace h := H.f q1 h
  refine c_skip ?_
  refine c_seq ?_
  refine r_start ?_
  refine p 1 ?_
  obtain ⟨v3_1, hv3_1, h⟩ := H.call h
  refine xx rfl (e_cr [.slice A0 (List.length a0) k0] (fun v => v) func22 (fun W S => C.s_DrawTightestSteps W hv3_1 ((s_arg h0).out W S)) fun A3_1 k3_1 => ?_)
  refine p 1 ?_
  refine rend ?_
  refine c_seq ?_
  refine r_start ?_
  refine p 1 ?_
  obtain ⟨v4_1, hv4_1, h⟩ := H.call h
  refine xq rfl (y_call [.slice A3_1 (List.length v3_1) k3_1] (.tuple #[.int .i64 v4_1.1, .bool v4_1.2]) func23 (fun W S => C.i_TightestSteps W hv4_1 ((s_own 0).out W S))) ?_
  refine p 5 ?_
  refine rend ?_
  refine c_seq ?_
  refine r_start ?_
  refine p 1 ?_
  obtain ⟨v5_1, hv5_1, h⟩ := H.call h
  refine xq rfl (y_call [.slice A3_1 (List.length v3_1) k3_1] (.tuple #[.int .i64 v5_1.1, .bool v5_1.2]) func24 (fun W S => C.s_TightestSteps W hv5_1 ((s_own 0).out W S))) ?_
  refine p 5 ?_
  refine rend ?_
  refine c_seq ?_
  refine r_start ?_
  refine p 1 ?_
  obtain ⟨v6_1, hv6_1, h⟩ := H.call h
  refine xq rfl (y_call [.slice A3_1 (List.length v3_1) k3_1] (.tuple #[.int .i64 v6_1.1, .bool v6_1.2]) func25 (fun W S => C.i_TightestOpen W hv6_1 ((s_own 0).out W S))) ?_
  refine p 5 ?_
  refine rend ?_
  refine c_seq ?_
  refine r_start ?_
  refine p 1 ?_
  obtain ⟨v7_1, hv7_1, h⟩ := H.call h
  refine xq rfl (y_call [.slice A3_1 (List.length v3_1) k3_1] (.tuple #[.int .i64 v7_1.1, .bool v7_1.2]) func26 (fun W S => C.s_TightestOpen W hv7_1 ((s_own 0).out W S))) ?_
  refine p 5 ?_
  refine rend ?_
  refine c_seq ?_
  refine r_start ?_
  refine p 1 ?_
  obtain ⟨v8_1, hv8_1, h⟩ := H.call h
  refine xx rfl (e_cr [.slice A1 (List.length a1) k1] (fun v => v) func27 (fun W S => C.s_DrawNeedlessConstraints W hv8_1 ((s_arg h1).out W S)) fun A8_1 k8_1 => ?_)
  refine p 1 ?_
  refine rend ?_
  refine c_seq ?_
  refine r_start ?_
  refine p 1 ?_
  obtain ⟨v9_1, hv9_1, h⟩ := H.call h
  refine xx rfl (e_cr [.slice A8_1 (List.length v8_1) k8_1] (fun v => .tuple #[v, .bool v9_1.2]) func28 (fun W S => C.i_NeedlessConstraints W hv9_1 ((s_own 1).out W S)) fun A9_1 k9_1 => ?_)
  refine p 5 ?_
  refine rend ?_
  refine c_seq ?_
  refine r_start ?_
  refine p 1 ?_
  obtain ⟨v10_1, hv10_1, h⟩ := H.call h
  refine xx rfl (e_cr [.slice A8_1 (List.length v8_1) k8_1] (fun v => .tuple #[v, .bool v10_1.2]) func29 (fun W S => C.s_NeedlessConstraints W hv10_1 ((s_own 1).out W S)) fun A10_1 k10_1 => ?_)
  refine p 5 ?_
  refine rend ?_
  refine c_seq ?_
  refine r_start ?_
  refine p 1 ?_
  obtain ⟨v11_1, hv11_1, h⟩ := H.call h
  refine xx rfl (e_cr2 [.slice A1 (List.length a1) k1] (fun v u => .tuple #[v, u]) func30 (fun W S => C.s_DrawMostBroken W hv11_1 ((s_arg h1).out W S)) fun A11_1 k11_1 AA11_1 kk11_1 => ?_)
  refine p 5 ?_
  refine rend ?_
  refine c_seq ?_
  refine r_start ?_
  refine p 2 ?_
  obtain ⟨v12_2, hv12_2, h⟩ := H.call h
  refine xq rfl (y_call [.slice A11_1 (List.length v11_1.1) k11_1, .slice AA11_1 (List.length v11_1.2) kk11_1] (.tuple #[.int .i64 v12_2.1, .int .i64 v12_2.2.1, .bool v12_2.2.2]) func31 (fun W S => C.i_MostBroken W hv12_2 ((s_own 4).out W S) ((s_own 5).out W S))) ?_
  refine p 7 ?_
  refine rend ?_
  refine frg (fun u => (jk u 0 5 (.slice A3_1 (List.length v3_1) k3_1 :: .int .i64 v4_1.1 :: .bool v4_1.2 :: .int .i64 v5_1.1 :: .bool v5_1.2 :: .int .i64 v6_1.1 :: .bool v6_1.2 :: .int .i64 v7_1.1 :: .bool v7_1.2 :: .slice A8_1 (List.length v8_1) k8_1 :: .slice A9_1 (List.length v9_1.1) k9_1 :: .bool v9_1.2 :: .slice A10_1 (List.length v10_1.1) k10_1 :: .bool v10_1.2 :: .slice A11_1 (List.length v11_1.1) k11_1 :: .slice AA11_1 (List.length v11_1.2) kk11_1 :: .int .i64 v12_2.1 :: .int .i64 v12_2.2.1 :: .bool v12_2.2.2 :: (jk u 24 270 [])))) (by kernel_rfl) fun u => ?_
  refine keep 6 (its' := [rowT nSign w.heap.size 38 (.slice A3_1 (List.length v3_1) k3_1) v3_1, rowT nConstraint w.heap.size 64 (.slice A8_1 (List.length v8_1) k8_1) v8_1, rowT (eI .i64) w.heap.size 3 (.slice A9_1 (List.length v9_1.1) k9_1) v9_1.1, rowT (eI .i64) w.heap.size 3 (.slice A10_1 (List.length v10_1.1) k10_1) v10_1.1, rowT nSign w.heap.size 38 (.slice A11_1 (List.length v11_1.1) k11_1) v11_1.1, rowT nConstraint w.heap.size 64 (.slice AA11_1 (List.length v11_1.2) kk11_1) v11_1.2]) (by kernel_rfl) ?_
  refine c_seq ?_
  refine r_start ?_
  refine p 2 ?_
  obtain ⟨v13_2, hv13_2, h⟩ := H.call h
  refine xq rfl (y_call [.slice A11_1 (List.length v11_1.1) k11_1, .slice AA11_1 (List.length v11_1.2) kk11_1] (.tuple #[.int .i64 v13_2.1, .int .i64 v13_2.2.1, .bool v13_2.2.2]) func32 (fun W S => C.s_MostBroken W hv13_2 ((s_own 4).out W S) ((s_own 5).out W S))) ?_
  refine p 7 ?_
  refine rend ?_
  refine c_seq ?_
  refine c_seq ?_
  refine joinT (X := Bool) (H.bnd h) (fun (x : Bool) => x) (fun b2 => [rowT nSign w.heap.size 38 (.slice A3_1 (List.length v3_1) k3_1) v3_1, rowT nConstraint w.heap.size 64 (.slice A8_1 (List.length v8_1) k8_1) v8_1, rowT (eI .i64) w.heap.size 3 (.slice A9_1 (List.length v9_1.1) k9_1) v9_1.1, rowT (eI .i64) w.heap.size 3 (.slice A10_1 (List.length v10_1.1) k10_1) v10_1.1, rowT nSign w.heap.size 38 (.slice A11_1 (List.length v11_1.1) k11_1) v11_1.1, rowT nConstraint w.heap.size 64 (.slice AA11_1 (List.length v11_1.2) kk11_1) v11_1.2]) (fun b2 u => (jk u 0 5 (.slice A3_1 (List.length v3_1) k3_1 :: .int .i64 v4_1.1 :: .bool v4_1.2 :: .int .i64 v5_1.1 :: (jk u 9 1 (.int .i64 v6_1.1 :: (jk u 11 1 (.int .i64 v7_1.1 :: (jk u 13 1 (.slice A8_1 (List.length v8_1) k8_1 :: (jk u 15 1 (.bool v9_1.2 :: .slice A10_1 (List.length v10_1.1) k10_1 :: (jk u 18 1 (.slice A11_1 (List.length v11_1.1) k11_1 :: .slice AA11_1 (List.length v11_1.2) kk11_1 :: (jk u 21 2 (.bool v12_2.2.2 :: .int .i64 v13_2.1 :: .int .i64 v13_2.2.1 :: (jk u 26 127 (.bool b2 :: (jk u 154 140 [])))))))))))))))))) (fun h hj3 => ?_) ?_
  · skip
    refine r_start ?_
    refine p 4 ?_
    refine br (!(v4_1.2 == v5_1.2)) (fun q4 => ?_) (fun q4 => ?_)
    · replace h := H.t q4 h
      refine o_set 108 (congrArg Value.bool q4) ?_
      refine p 45 ?_
      refine rend ?_
      replace h := H.done h
      exact hj3 true _ _ h (by kernel_rfl) (by kernel_rfl)
    replace h := H.f q4 h
    refine o_set 108 (congrArg Value.bool q4) ?_
    refine p 5 ?_
    refine br (v4_1.1 != v5_1.1) (fun q5 => ?_) (fun q5 => ?_)
    · replace h := H.t q5 h
      refine o_set 113 (congrArg Value.bool q5) ?_
      refine p 40 ?_
      refine rend ?_
      replace h := H.done h
      exact hj3 true _ _ h (by kernel_rfl) (by kernel_rfl)
    replace h := H.f q5 h
    refine o_set 113 (congrArg Value.bool q5) ?_
    refine p 5 ?_
    refine br (!(v6_1.2 == v7_1.2)) (fun q6 => ?_) (fun q6 => ?_)
    · replace h := H.t q6 h
      refine o_set 118 (congrArg Value.bool q6) ?_
      refine p 35 ?_
      refine rend ?_
      replace h := H.done h
      exact hj3 true _ _ h (by kernel_rfl) (by kernel_rfl)
    replace h := H.f q6 h
    refine o_set 118 (congrArg Value.bool q6) ?_
    refine p 5 ?_
    refine br (v6_1.1 != v7_1.1) (fun q7 => ?_) (fun q7 => ?_)
    · replace h := H.t q7 h
      refine o_set 123 (congrArg Value.bool q7) ?_
      refine p 30 ?_
      refine rend ?_
      replace h := H.done h
      exact hj3 true _ _ h (by kernel_rfl) (by kernel_rfl)
    replace h := H.f q7 h
    refine o_set 123 (congrArg Value.bool q7) ?_
    refine p 5 ?_
    refine br (!(v9_1.2 == v10_1.2)) (fun q8 => ?_) (fun q8 => ?_)
    · replace h := H.t q8 h
      refine o_set 128 (congrArg Value.bool q8) ?_
      refine p 25 ?_
      refine rend ?_
      replace h := H.done h
      exact hj3 true _ _ h (by kernel_rfl) (by kernel_rfl)
    replace h := H.f q8 h
    refine o_set 128 (congrArg Value.bool q8) ?_
    refine p 2 ?_
    obtain ⟨v14_26, hv14_26, h⟩ := H.call h
    refine xq rfl (y_call [.slice A9_1 (List.length v9_1.1) k9_1, .slice A10_1 (List.length v10_1.1) k10_1] (.bool v14_26) func20 (fun W S => C.l_qInts W hv14_26 ((s_own 2).out W S) ((s_own 3).out W S))) ?_
    refine p 3 ?_
    refine br (!v14_26) (fun q9 => ?_) (fun q9 => ?_)
    · replace h := H.t q9 h
      refine o_set 134 (congrArg Value.bool q9) ?_
      refine p 19 ?_
      refine rend ?_
      replace h := H.done h
      exact hj3 true _ _ h (by kernel_rfl) (by kernel_rfl)
    replace h := H.f q9 h
    refine o_set 134 (congrArg Value.bool q9) ?_
    refine p 5 ?_
    refine br (!(v12_2.2.2 == v13_2.2.2)) (fun q10 => ?_) (fun q10 => ?_)
    · replace h := H.t q10 h
      refine o_set 139 (congrArg Value.bool q10) ?_
      refine p 14 ?_
      refine rend ?_
      replace h := H.done h
      exact hj3 true _ _ h (by kernel_rfl) (by kernel_rfl)
    replace h := H.f q10 h
    refine o_set 139 (congrArg Value.bool q10) ?_
    refine p 5 ?_
    refine br (v12_2.1 != v13_2.1) (fun q11 => ?_) (fun q11 => ?_)
    · replace h := H.t q11 h
      refine o_set 144 (congrArg Value.bool q11) ?_
      refine p 9 ?_
      refine rend ?_
      replace h := H.done h
      exact hj3 true _ _ h (by kernel_rfl) (by kernel_rfl)
    replace h := H.f q11 h
    refine o_set 144 (congrArg Value.bool q11) ?_
    refine p 5 ?_
    refine br (v12_2.2.1 != v13_2.2.1) (fun q12 => ?_) (fun q12 => ?_)
    · replace h := H.t q12 h
      refine o_set 149 (congrArg Value.bool q12) ?_
      refine p 4 ?_
      refine rend ?_
      replace h := H.done h
      exact hj3 true _ _ h (by kernel_rfl) (by kernel_rfl)
    replace h := H.f q12 h
    refine o_set 149 (congrArg Value.bool q12) ?_
    refine p 4 ?_
    refine rend ?_
    replace h := H.done h
    exact hj3 (!(v6_1.2 == v4_1.2)) _ _ h (by kernel_rfl) (by kernel_rfl)
  intro b2 u h
  refine c_or b2 (fun q13 => ?_) (fun q13 => ?_)
  · replace h := H.t q13 h
    refine c_seq ?_
    refine r_start ?_
    refine p 1 ?_
    refine rend ?_
    replace h := H.done h
    subst h
    exact ret func4 rfl (vs := [.bool false]) (.tmp (by kernel_rfl) .nil) rfl (fun W S => ⟨rfl, S.below⟩)
  replace h := H.f q13 h
  refine c_skip ?_
  refine c_seq ?_
  refine c_seq ?_
  refine r_start ?_
  refine p 1 ?_
  refine rend ?_
  refine joinTE (X := Unit) (H.or h) (fun (x : Unit) => x) (fun _ => [rowT nSign w.heap.size 38 (.slice A3_1 (List.length v3_1) k3_1) v3_1, rowT nConstraint w.heap.size 64 (.slice A8_1 (List.length v8_1) k8_1) v8_1, rowT (eI .i64) w.heap.size 3 (.slice A9_1 (List.length v9_1.1) k9_1) v9_1.1, rowT (eI .i64) w.heap.size 3 (.slice A10_1 (List.length v10_1.1) k10_1) v10_1.1, rowT nSign w.heap.size 38 (.slice A11_1 (List.length v11_1.1) k11_1) v11_1.1, rowT nConstraint w.heap.size 64 (.slice AA11_1 (List.length v11_1.2) kk11_1) v11_1.2]) (fun _ u => (jk u 0 19 (.slice A11_1 (List.length v11_1.1) k11_1 :: .slice AA11_1 (List.length v11_1.2) kk11_1 :: (jk u 21 2 (.bool v12_2.2.2 :: .int .i64 v13_2.1 :: .int .i64 v13_2.2.1 :: (jk u 26 268 [])))))) (fun h hj14 => ?_) ?_
  · skip
    refine c_or v4_1.2 (fun q15 => ?_) (fun q15 => ?_)
    · replace h := H.t q15 h
      refine c_seq ?_
      refine r_start ?_
      refine p 3 ?_
      obtain ⟨v17_3, hv17_3, h⟩ := H.call h
      refine xx rfl (e_cr [.slice A3_1 (List.length v3_1) k3_1, .agg (eConstraint (⟨0, v4_1.1⟩ : Constraint)).toArray] (fun v => .tuple #[v, .bool v17_3.2]) func33 (fun W S => C.i_BreakersOf W hv17_3 ((s_own 0).out W S)) fun A17_3 k17_3 => ?_)
      refine p 5 ?_
      refine rend ?_
      refine c_seq ?_
      refine r_start ?_
      refine p 3 ?_
      obtain ⟨v18_3, hv18_3, h⟩ := H.call h
      refine xx rfl (e_cr [.slice A3_1 (List.length v3_1) k3_1, .agg (eConstraint (⟨2, v6_1.1⟩ : Constraint)).toArray] (fun v => .tuple #[v, .bool v18_3.2]) func33 (fun W S => C.i_BreakersOf W hv18_3 ((s_own 0).out W S)) fun A18_3 k18_3 => ?_)
      refine p 5 ?_
      refine rend ?_
      refine c_seq ?_
      refine c_seq ?_
      refine joinT (X := Bool) (H.bnd h) (fun (x : Bool) => x) (fun b16 => [rowT nSign w.heap.size 38 (.slice A3_1 (List.length v3_1) k3_1) v3_1, rowT nConstraint w.heap.size 64 (.slice A8_1 (List.length v8_1) k8_1) v8_1, rowT (eI .i64) w.heap.size 3 (.slice A9_1 (List.length v9_1.1) k9_1) v9_1.1, rowT (eI .i64) w.heap.size 3 (.slice A10_1 (List.length v10_1.1) k10_1) v10_1.1, rowT nSign w.heap.size 38 (.slice A11_1 (List.length v11_1.1) k11_1) v11_1.1, rowT nConstraint w.heap.size 64 (.slice AA11_1 (List.length v11_1.2) kk11_1) v11_1.2, rowT (eI .i64) w.heap.size 3 (.slice A17_3 (List.length v17_3.1) k17_3) v17_3.1, rowT (eI .i64) w.heap.size 3 (.slice A18_3 (List.length v18_3.1) k18_3) v18_3.1]) (fun b16 u => (jk u 0 5 (.slice A3_1 (List.length v3_1) k3_1 :: .int .i64 v4_1.1 :: (jk u 7 1 (.int .i64 v5_1.1 :: (jk u 9 1 (.int .i64 v6_1.1 :: (jk u 11 1 (.int .i64 v7_1.1 :: (jk u 13 1 (.slice A8_1 (List.length v8_1) k8_1 :: (jk u 15 1 (.bool v9_1.2 :: .slice A10_1 (List.length v10_1.1) k10_1 :: (jk u 18 1 (.slice A11_1 (List.length v11_1.1) k11_1 :: .slice AA11_1 (List.length v11_1.2) kk11_1 :: (jk u 21 2 (.bool v12_2.2.2 :: .int .i64 v13_2.1 :: .int .i64 v13_2.2.1 :: (jk u 26 158 (.bool b16 :: (jk u 185 109 [])))))))))))))))))))) (fun h hj17 => ?_) ?_
      · skip
        refine r_start ?_
        refine p 3 ?_
        refine br (!v17_3.2) (fun q18 => ?_) (fun q18 => ?_)
        · replace h := H.t q18 h
          refine o_set 171 (congrArg Value.bool q18) ?_
          refine p 13 ?_
          refine rend ?_
          replace h := H.done h
          exact hj17 true _ _ h (by kernel_rfl) (by kernel_rfl)
        replace h := H.f q18 h
        refine o_set 171 (congrArg Value.bool q18) ?_
        refine p 5 ?_
        refine br (decide ((List.length v17_3.1 : Int) > 0)) (fun q19 => ?_) (fun q19 => ?_)
        · replace h := H.t q19 h
          refine o_set 176 (congrArg Value.bool q19) ?_
          refine p 8 ?_
          refine rend ?_
          replace h := H.done h
          exact hj17 true _ _ h (by kernel_rfl) (by kernel_rfl)
        replace h := H.f q19 h
        refine o_set 176 (congrArg Value.bool q19) ?_
        refine p 4 ?_
        refine br (!v18_3.2) (fun q20 => ?_) (fun q20 => ?_)
        · replace h := H.t q20 h
          refine o_set 180 (congrArg Value.bool q20) ?_
          refine p 4 ?_
          refine rend ?_
          replace h := H.done h
          exact hj17 true _ _ h (by kernel_rfl) (by kernel_rfl)
        replace h := H.f q20 h
        refine o_set 180 (congrArg Value.bool q20) ?_
        refine p 4 ?_
        refine rend ?_
        replace h := H.done h
        exact hj17 (decide ((List.length v18_3.1 : Int) > 0)) _ _ h (by kernel_rfl) (by kernel_rfl)
      intro b16 u h
      refine c_or b16 (fun q21 => ?_) (fun q21 => ?_)
      · replace h := H.t q21 h
        refine c_seq ?_
        refine r_start ?_
        refine p 1 ?_
        refine rend ?_
        replace h := H.inl h
        replace h := H.done h
        subst h
        exact ret func4 rfl (vs := [.bool false]) (.tmp (by kernel_rfl) .nil) rfl (fun W S => ⟨rfl, S.below⟩)
      replace h := H.f q21 h
      refine c_skip ?_
      refine c_seq ?_
      refine c_seq ?_
      refine r_start ?_
      refine p 2 ?_
      refine rend ?_
      refine joinTE (X := Unit) (H.or h) (fun (x : Unit) => x) (fun _ => [rowT nSign w.heap.size 38 (.slice A3_1 (List.length v3_1) k3_1) v3_1, rowT nConstraint w.heap.size 64 (.slice A8_1 (List.length v8_1) k8_1) v8_1, rowT (eI .i64) w.heap.size 3 (.slice A9_1 (List.length v9_1.1) k9_1) v9_1.1, rowT (eI .i64) w.heap.size 3 (.slice A10_1 (List.length v10_1.1) k10_1) v10_1.1, rowT nSign w.heap.size 38 (.slice A11_1 (List.length v11_1.1) k11_1) v11_1.1, rowT nConstraint w.heap.size 64 (.slice AA11_1 (List.length v11_1.2) kk11_1) v11_1.2, rowT (eI .i64) w.heap.size 3 (.slice A17_3 (List.length v17_3.1) k17_3) v17_3.1, rowT (eI .i64) w.heap.size 3 (.slice A18_3 (List.length v18_3.1) k18_3) v18_3.1]) (fun _ u => (jk u 0 5 (.slice A3_1 (List.length v3_1) k3_1 :: (jk u 6 4 (.int .i64 v6_1.1 :: (jk u 11 1 (.int .i64 v7_1.1 :: (jk u 13 1 (.slice A8_1 (List.length v8_1) k8_1 :: (jk u 15 1 (.bool v9_1.2 :: .slice A10_1 (List.length v10_1.1) k10_1 :: (jk u 18 1 (.slice A11_1 (List.length v11_1.1) k11_1 :: .slice AA11_1 (List.length v11_1.2) kk11_1 :: (jk u 21 2 (.bool v12_2.2.2 :: .int .i64 v13_2.1 :: .int .i64 v13_2.2.1 :: (jk u 26 268 [])))))))))))))))) (fun h hj22 => ?_) ?_
      · skip
        refine c_or (decide (v5_1.1 > 0)) (fun q23 => ?_) (fun q23 => ?_)
        · replace h := H.t q23 h
          refine c_seq ?_
          refine r_start ?_
          refine p 4 ?_
          obtain ⟨v22_4, hv22_4, h⟩ := H.call h
          refine xx rfl (e_cr [.slice A3_1 (List.length v3_1) k3_1, .agg (eConstraint (⟨0, (wr (v4_1.1 - 1))⟩ : Constraint)).toArray] (fun v => .tuple #[v, .bool v22_4.2]) func33 (fun W S => C.i_BreakersOf W hv22_4 ((s_own 0).out W S)) fun A22_4 k22_4 => ?_)
          refine p 5 ?_
          refine rend ?_
          refine c_seq ?_
          refine joinT (X := Bool) (H.bnd h) (fun (x : Bool) => x) (fun b24 => [rowT nSign w.heap.size 38 (.slice A3_1 (List.length v3_1) k3_1) v3_1, rowT nConstraint w.heap.size 64 (.slice A8_1 (List.length v8_1) k8_1) v8_1, rowT (eI .i64) w.heap.size 3 (.slice A9_1 (List.length v9_1.1) k9_1) v9_1.1, rowT (eI .i64) w.heap.size 3 (.slice A10_1 (List.length v10_1.1) k10_1) v10_1.1, rowT nSign w.heap.size 38 (.slice A11_1 (List.length v11_1.1) k11_1) v11_1.1, rowT nConstraint w.heap.size 64 (.slice AA11_1 (List.length v11_1.2) kk11_1) v11_1.2, rowT (eI .i64) w.heap.size 3 (.slice A17_3 (List.length v17_3.1) k17_3) v17_3.1, rowT (eI .i64) w.heap.size 3 (.slice A18_3 (List.length v18_3.1) k18_3) v18_3.1, rowT (eI .i64) w.heap.size 3 (.slice A22_4 (List.length v22_4.1) k22_4) v22_4.1]) (fun b24 u => (jk u 0 5 (.slice A3_1 (List.length v3_1) k3_1 :: (jk u 6 4 (.int .i64 v6_1.1 :: (jk u 11 1 (.int .i64 v7_1.1 :: (jk u 13 1 (.slice A8_1 (List.length v8_1) k8_1 :: (jk u 15 1 (.bool v9_1.2 :: .slice A10_1 (List.length v10_1.1) k10_1 :: (jk u 18 1 (.slice A11_1 (List.length v11_1.1) k11_1 :: .slice AA11_1 (List.length v11_1.2) kk11_1 :: (jk u 21 2 (.bool v12_2.2.2 :: .int .i64 v13_2.1 :: .int .i64 v13_2.2.1 :: (jk u 26 175 (.bool b24 :: (jk u 202 92 [])))))))))))))))))) (fun h hj25 => ?_) ?_
          · skip
            refine r_start ?_
            refine p 3 ?_
            refine br (!v22_4.2) (fun q26 => ?_) (fun q26 => ?_)
            · replace h := H.t q26 h
              refine o_set 197 (congrArg Value.bool q26) ?_
              refine p 4 ?_
              refine rend ?_
              replace h := H.done h
              exact hj25 true _ _ h (by kernel_rfl) (by kernel_rfl)
            replace h := H.f q26 h
            refine o_set 197 (congrArg Value.bool q26) ?_
            refine p 4 ?_
            refine rend ?_
            replace h := H.done h
            exact hj25 ((List.length v22_4.1 : Int) == 0) _ _ h (by kernel_rfl) (by kernel_rfl)
          intro b24 u h
          refine c_or b24 (fun q27 => ?_) (fun q27 => ?_)
          · replace h := H.t q27 h
            refine c_seq ?_
            refine r_start ?_
            refine p 1 ?_
            refine rend ?_
            replace h := H.inl h
            replace h := H.inl h
            replace h := H.done h
            subst h
            exact ret func4 rfl (vs := [.bool false]) (.tmp (by kernel_rfl) .nil) rfl (fun W S => ⟨rfl, S.below⟩)
          replace h := H.f q27 h
          refine c_skip ?_
          replace h := H.inr h
          exact hj22 () _ _ h (by kernel_rfl) (by kernel_rfl)
        replace h := H.f q23 h
        refine c_skip ?_
        replace h := H.inr h
        exact hj22 () _ _ h (by kernel_rfl) (by kernel_rfl)
      intro x u h
      refine c_seq ?_
      refine c_seq ?_
      refine r_start ?_
      refine p 2 ?_
      refine rend ?_
      refine joinTE (X := Unit) (H.or h) (fun (x : Unit) => x) (fun _ => [rowT nSign w.heap.size 38 (.slice A3_1 (List.length v3_1) k3_1) v3_1, rowT nConstraint w.heap.size 64 (.slice A8_1 (List.length v8_1) k8_1) v8_1, rowT (eI .i64) w.heap.size 3 (.slice A9_1 (List.length v9_1.1) k9_1) v9_1.1, rowT (eI .i64) w.heap.size 3 (.slice A10_1 (List.length v10_1.1) k10_1) v10_1.1, rowT nSign w.heap.size 38 (.slice A11_1 (List.length v11_1.1) k11_1) v11_1.1, rowT nConstraint w.heap.size 64 (.slice AA11_1 (List.length v11_1.2) kk11_1) v11_1.2, rowT (eI .i64) w.heap.size 3 (.slice A17_3 (List.length v17_3.1) k17_3) v17_3.1, rowT (eI .i64) w.heap.size 3 (.slice A18_3 (List.length v18_3.1) k18_3) v18_3.1]) (fun _ u => (jk u 0 5 (.slice A3_1 (List.length v3_1) k3_1 :: (jk u 6 8 (.slice A8_1 (List.length v8_1) k8_1 :: (jk u 15 1 (.bool v9_1.2 :: .slice A10_1 (List.length v10_1.1) k10_1 :: (jk u 18 1 (.slice A11_1 (List.length v11_1.1) k11_1 :: .slice AA11_1 (List.length v11_1.2) kk11_1 :: (jk u 21 2 (.bool v12_2.2.2 :: .int .i64 v13_2.1 :: .int .i64 v13_2.2.1 :: (jk u 26 268 [])))))))))))) (fun h hj28 => ?_) ?_
      · skip
        refine c_or (decide (v7_1.1 < 4)) (fun q29 => ?_) (fun q29 => ?_)
        · replace h := H.t q29 h
          refine c_seq ?_
          refine r_start ?_
          refine p 4 ?_
          obtain ⟨v26_4, hv26_4, h⟩ := H.call h
          refine xx rfl (e_cr [.slice A3_1 (List.length v3_1) k3_1, .agg (eConstraint (⟨2, (wr (v6_1.1 + 1))⟩ : Constraint)).toArray] (fun v => .tuple #[v, .bool v26_4.2]) func33 (fun W S => C.i_BreakersOf W hv26_4 ((s_own 0).out W S)) fun A26_4 k26_4 => ?_)
          refine p 5 ?_
          refine rend ?_
          refine c_seq ?_
          refine joinT (X := Bool) (H.bnd h) (fun (x : Bool) => x) (fun b30 => [rowT nSign w.heap.size 38 (.slice A3_1 (List.length v3_1) k3_1) v3_1, rowT nConstraint w.heap.size 64 (.slice A8_1 (List.length v8_1) k8_1) v8_1, rowT (eI .i64) w.heap.size 3 (.slice A9_1 (List.length v9_1.1) k9_1) v9_1.1, rowT (eI .i64) w.heap.size 3 (.slice A10_1 (List.length v10_1.1) k10_1) v10_1.1, rowT nSign w.heap.size 38 (.slice A11_1 (List.length v11_1.1) k11_1) v11_1.1, rowT nConstraint w.heap.size 64 (.slice AA11_1 (List.length v11_1.2) kk11_1) v11_1.2, rowT (eI .i64) w.heap.size 3 (.slice A17_3 (List.length v17_3.1) k17_3) v17_3.1, rowT (eI .i64) w.heap.size 3 (.slice A18_3 (List.length v18_3.1) k18_3) v18_3.1, rowT (eI .i64) w.heap.size 3 (.slice A26_4 (List.length v26_4.1) k26_4) v26_4.1]) (fun b30 u => (jk u 0 5 (.slice A3_1 (List.length v3_1) k3_1 :: (jk u 6 8 (.slice A8_1 (List.length v8_1) k8_1 :: (jk u 15 1 (.bool v9_1.2 :: .slice A10_1 (List.length v10_1.1) k10_1 :: (jk u 18 1 (.slice A11_1 (List.length v11_1.1) k11_1 :: .slice AA11_1 (List.length v11_1.2) kk11_1 :: (jk u 21 2 (.bool v12_2.2.2 :: .int .i64 v13_2.1 :: .int .i64 v13_2.2.1 :: (jk u 26 192 (.bool b30 :: (jk u 219 75 [])))))))))))))) (fun h hj31 => ?_) ?_
          · skip
            refine r_start ?_
            refine p 3 ?_
            refine br (!v26_4.2) (fun q32 => ?_) (fun q32 => ?_)
            · replace h := H.t q32 h
              refine o_set 214 (congrArg Value.bool q32) ?_
              refine p 4 ?_
              refine rend ?_
              replace h := H.done h
              exact hj31 true _ _ h (by kernel_rfl) (by kernel_rfl)
            replace h := H.f q32 h
            refine o_set 214 (congrArg Value.bool q32) ?_
            refine p 4 ?_
            refine rend ?_
            replace h := H.done h
            exact hj31 ((List.length v26_4.1 : Int) == 0) _ _ h (by kernel_rfl) (by kernel_rfl)
          intro b30 u h
          refine c_or b30 (fun q33 => ?_) (fun q33 => ?_)
          · replace h := H.t q33 h
            refine c_seq ?_
            refine r_start ?_
            refine p 1 ?_
            refine rend ?_
            refine frg (fun u => (jk u 0 4 (.bool false :: (jk u 5 289 [])))) (by kernel_rfl) fun u => ?_
            refine keep 9 (its' := [rowT nSign w.heap.size 38 (.slice A3_1 (List.length v3_1) k3_1) v3_1, rowT nConstraint w.heap.size 64 (.slice A8_1 (List.length v8_1) k8_1) v8_1, rowT (eI .i64) w.heap.size 3 (.slice A9_1 (List.length v9_1.1) k9_1) v9_1.1, rowT (eI .i64) w.heap.size 3 (.slice A10_1 (List.length v10_1.1) k10_1) v10_1.1, rowT nSign w.heap.size 38 (.slice A11_1 (List.length v11_1.1) k11_1) v11_1.1, rowT nConstraint w.heap.size 64 (.slice AA11_1 (List.length v11_1.2) kk11_1) v11_1.2, rowT (eI .i64) w.heap.size 3 (.slice A17_3 (List.length v17_3.1) k17_3) v17_3.1, rowT (eI .i64) w.heap.size 3 (.slice A18_3 (List.length v18_3.1) k18_3) v18_3.1, rowT (eI .i64) w.heap.size 3 (.slice A26_4 (List.length v26_4.1) k26_4) v26_4.1]) (by kernel_rfl) ?_
            replace h := H.inl h
            replace h := H.inl h
            replace h := H.done h
            subst h
            exact ret func4 rfl (vs := [.bool false]) (.tmp (by kernel_rfl) .nil) rfl (fun W S => ⟨rfl, S.below⟩)
          replace h := H.f q33 h
          refine c_skip ?_
          replace h := H.inr h
          exact hj28 () _ _ h (by kernel_rfl) (by kernel_rfl)
        replace h := H.f q29 h
        refine c_skip ?_
        replace h := H.inr h
        exact hj28 () _ _ h (by kernel_rfl) (by kernel_rfl)
      intro x u h
      refine c_seq ?_
      refine r_start ?_
      refine p 1 ?_
      refine rend ?_
      refine frg (fun u => (jk u 0 5 (.slice A3_1 (List.length v3_1) k3_1 :: (jk u 6 8 (.slice A8_1 (List.length v8_1) k8_1 :: (jk u 15 2 (.slice A10_1 (List.length v10_1.1) k10_1 :: (jk u 18 1 (.slice A11_1 (List.length v11_1.1) k11_1 :: .slice AA11_1 (List.length v11_1.2) kk11_1 :: (jk u 21 2 (.bool v12_2.2.2 :: .int .i64 v13_2.1 :: .int .i64 v13_2.2.1 :: (jk u 26 193 (.bool v9_1.2 :: (jk u 220 74 [])))))))))))))) (by kernel_rfl) fun u => ?_
      refine keep 8 (its' := [rowT nSign w.heap.size 38 (.slice A3_1 (List.length v3_1) k3_1) v3_1, rowT nConstraint w.heap.size 64 (.slice A8_1 (List.length v8_1) k8_1) v8_1, rowT (eI .i64) w.heap.size 3 (.slice A9_1 (List.length v9_1.1) k9_1) v9_1.1, rowT (eI .i64) w.heap.size 3 (.slice A10_1 (List.length v10_1.1) k10_1) v10_1.1, rowT nSign w.heap.size 38 (.slice A11_1 (List.length v11_1.1) k11_1) v11_1.1, rowT nConstraint w.heap.size 64 (.slice AA11_1 (List.length v11_1.2) kk11_1) v11_1.2, rowT (eI .i64) w.heap.size 3 (.slice A17_3 (List.length v17_3.1) k17_3) v17_3.1, rowT (eI .i64) w.heap.size 3 (.slice A18_3 (List.length v18_3.1) k18_3) v18_3.1]) (by kernel_rfl) ?_
      refine c_or v9_1.2 (fun q34 => ?_) (fun q34 => ?_)
      · replace h := H.t q34 h
        refine c_seq ?_
        refine r_start ?_
        refine p 1 ?_
        refine rend ?_
        refine c_seq ?_
        refine c_seq ?_
        refine r_start ?_
        refine p 3 ?_
        refine rend ?_
        refine c_block ?_
        refine c_nil nConstraint 64 ?_
        refine joinH (X := ((List Constraint) × Option Addr × Nat)) 0 (H.bnd h) (fun ⟨l38, A39, k40⟩ => l38) (fun ⟨l38, A39, k40⟩ => [rowT nSign w.heap.size 38 (.slice A3_1 (List.length v3_1) k3_1) v3_1, rowT nConstraint w.heap.size 64 (.slice A8_1 (List.length v8_1) k8_1) v8_1, rowT (eI .i64) w.heap.size 3 (.slice A9_1 (List.length v9_1.1) k9_1) v9_1.1, rowT (eI .i64) w.heap.size 3 (.slice A10_1 (List.length v10_1.1) k10_1) v10_1.1, rowT nSign w.heap.size 38 (.slice A11_1 (List.length v11_1.1) k11_1) v11_1.1, rowT nConstraint w.heap.size 64 (.slice AA11_1 (List.length v11_1.2) kk11_1) v11_1.2, rowT (eI .i64) w.heap.size 3 (.slice A17_3 (List.length v17_3.1) k17_3) v17_3.1, rowT (eI .i64) w.heap.size 3 (.slice A18_3 (List.length v18_3.1) k18_3) v18_3.1, rowT nConstraint w.heap.size 64 (.slice A39 (List.length l38) k40) l38]) (fun ⟨l38, A39, k40⟩ u => (jk u 0 5 (.slice A3_1 (List.length v3_1) k3_1 :: (jk u 6 8 (.slice A8_1 (List.length v8_1) k8_1 :: (jk u 15 4 (.slice A11_1 (List.length v11_1.1) k11_1 :: .slice AA11_1 (List.length v11_1.2) kk11_1 :: (jk u 21 2 (.bool v12_2.2.2 :: .int .i64 v13_2.1 :: .int .i64 v13_2.2.1 :: (jk u 26 9 (.slice A39 (List.length l38) k40 :: (jk u 36 258 [])))))))))))) (fun h hj41 => ?_) ?_
        · skip
          refine rangeR (X := ((List Constraint) × Option Addr × Nat)) (s_own 1) (fun ⟨l35, A36, k37⟩ => l35) (fun ⟨l35, A36, k37⟩ => [rowT nSign w.heap.size 38 (.slice A3_1 (List.length v3_1) k3_1) v3_1, rowT nConstraint w.heap.size 64 (.slice A8_1 (List.length v8_1) k8_1) v8_1, rowT (eI .i64) w.heap.size 3 (.slice A9_1 (List.length v9_1.1) k9_1) v9_1.1, rowT (eI .i64) w.heap.size 3 (.slice A10_1 (List.length v10_1.1) k10_1) v10_1.1, rowT nSign w.heap.size 38 (.slice A11_1 (List.length v11_1.1) k11_1) v11_1.1, rowT nConstraint w.heap.size 64 (.slice AA11_1 (List.length v11_1.2) kk11_1) v11_1.2, rowT (eI .i64) w.heap.size 3 (.slice A17_3 (List.length v17_3.1) k17_3) v17_3.1, rowT (eI .i64) w.heap.size 3 (.slice A18_3 (List.length v18_3.1) k18_3) v18_3.1, rowT nConstraint w.heap.size 64 (.slice A36 (List.length l35) k37) l35]) (fun (j42 : Nat) ⟨l35, A36, k37⟩ u => (jk u 0 5 (.slice A3_1 (List.length v3_1) k3_1 :: (jk u 6 8 (.slice A8_1 (List.length v8_1) k8_1 :: (jk u 15 2 (.slice A10_1 (List.length v10_1.1) k10_1 :: (jk u 18 1 (.slice A11_1 (List.length v11_1.1) k11_1 :: .slice AA11_1 (List.length v11_1.2) kk11_1 :: (jk u 21 2 (.bool v12_2.2.2 :: .int .i64 v13_2.1 :: .int .i64 v13_2.2.1 :: (jk u 26 9 (.slice A36 (List.length l35) k37 :: (jk u 36 184 (.slice A8_1 (List.length v8_1) k8_1 :: .int .i64 (List.length v8_1 : Int) :: .int .i64 (j42 : Int) :: (jk u 223 71 [])))))))))))))))) (([] : List Constraint), none, 0) h (by kernel_rfl) (by kernel_rfl) ?_ ?_
          · intro j42 x u x43 q44 hg45 hw46 h
            obtain ⟨l35, A36, k37⟩ := x
            refine c_seq ?_
            refine r_start ?_
            refine p 1 ?_
            refine rend ?_
            refine c_seq ?_
            refine c_yes q44 ?_
            refine c_skip ?_
            refine c_seq ?_
            refine c_block ?_
            refine c_seq ?_
            refine r_start ?_
            refine p 1 ?_
            refine xq rfl (y_idx (e := nConstraint) (el := 64) hg45 (s_own 1)) ?_
            refine xq rfl (y_el (e := nConstraint) 0 (.agg (eConstraint x43).toArray) hg45 (s_own 1)) ?_
            refine xx rfl (x_new (eConstraint zConstraint) fun g33_3 => ?_)
            refine p 1 ?_
            refine xx rfl (x_sto 9 g33_3 0 (eConstraint x43) ?_)
            refine rend ?_
            refine c_seq ?_
            refine r_start ?_
            refine p 2 ?_
            obtain ⟨v34_2, hv34_2, h⟩ := H.call h
            refine xq rfl (y_call [.slice A10_1 (List.length v10_1.1) k10_1, .int .i64 (j42 : Int)] (.bool v34_2) func34 (fun W S => C.l_qHas W hv34_2 ((s_own 3).out W S))) ?_
            refine p 1 ?_
            refine rend ?_
            refine c_or (!v34_2) (fun q47 => ?_) (fun q47 => ?_)
            · replace h := H.t q47 h
              refine r_start ?_
              refine p 1 ?_
              refine xq rfl (y_load (.agg (eConstraint x43).toArray) 9 g33_3 0) ?_
              refine xx rfl (e_lit (e := nConstraint) (el := 64) [.agg (eConstraint x43).toArray] ([x43] : List Constraint) fun A35_2 k35_2 => ?_)
              obtain ⟨y35_3, hy35_3, h⟩ := H.call h
              refine xx rfl (e_app 8 hy35_3 (s_own 10) fun A35_3 k35_3 => ?_)
              refine p 1 ?_
              refine rend ?_
              refine c_inb ?_
              refine r_start ?_
              refine p 2 ?_
              refine rend ?_
              refine c_set 222 (ci hw46) ?_
              replace h := H.inl h
              exact h (y35_3, A35_3, k35_3) _ _ rfl (by kernel_rfl) (by kernel_rfl)
            replace h := H.f q47 h
            refine c_skip ?_
            refine c_inb ?_
            refine r_start ?_
            refine p 2 ?_
            refine rend ?_
            refine c_set 222 (ci hw46) ?_
            replace h := H.inl h
            exact h (l35, A36, k37) _ _ rfl (by kernel_rfl) (by kernel_rfl)
          · intro x u q44 h
            obtain ⟨l35, A36, k37⟩ := x
            refine c_seq ?_
            refine r_start ?_
            refine p 1 ?_
            refine rend ?_
            refine c_seq ?_
            refine c_no q44 ?_
            refine cx ?_
            replace h := H.done h
            exact hj41 (l35, A36, k37) _ _ h (by kernel_rfl) (by kernel_rfl)
        intro x u h
        obtain ⟨l38, A39, k40⟩ := x
        refine c_seq ?_
        refine r_start ?_
        refine p 2 ?_
        obtain ⟨v37_2, hv37_2, h⟩ := H.call h
        refine xx rfl (e_cr [.slice A3_1 (List.length v3_1) k3_1, .slice A8_1 (List.length v8_1) k8_1] (fun v => .tuple #[v, .bool v37_2.2]) func35 (fun W S => C.i_LawfulSigns W hv37_2 ((s_own 0).out W S) ((s_own 1).out W S)) fun A37_2 k37_2 => ?_)
        refine p 5 ?_
        refine rend ?_
        refine c_seq ?_
        refine r_start ?_
        refine p 2 ?_
        obtain ⟨v38_2, hv38_2, h⟩ := H.call h
        refine xx rfl (e_cr [.slice A3_1 (List.length v3_1) k3_1, .slice A39 (List.length l38) k40] (fun v => .tuple #[v, .bool v38_2.2]) func35 (fun W S => C.i_LawfulSigns W hv38_2 ((s_own 0).out W S) ((s_own 8).out W S)) fun A38_2 k38_2 => ?_)
        refine p 5 ?_
        refine rend ?_
        refine c_seq ?_
        refine joinT (X := Bool) (H.bnd h) (fun (x : Bool) => x) (fun b48 => [rowT nSign w.heap.size 38 (.slice A3_1 (List.length v3_1) k3_1) v3_1, rowT nConstraint w.heap.size 64 (.slice A8_1 (List.length v8_1) k8_1) v8_1, rowT (eI .i64) w.heap.size 3 (.slice A9_1 (List.length v9_1.1) k9_1) v9_1.1, rowT (eI .i64) w.heap.size 3 (.slice A10_1 (List.length v10_1.1) k10_1) v10_1.1, rowT nSign w.heap.size 38 (.slice A11_1 (List.length v11_1.1) k11_1) v11_1.1, rowT nConstraint w.heap.size 64 (.slice AA11_1 (List.length v11_1.2) kk11_1) v11_1.2, rowT (eI .i64) w.heap.size 3 (.slice A17_3 (List.length v17_3.1) k17_3) v17_3.1, rowT (eI .i64) w.heap.size 3 (.slice A18_3 (List.length v18_3.1) k18_3) v18_3.1, rowT nConstraint w.heap.size 64 (.slice A39 (List.length l38) k40) l38, rowT (eI .i64) w.heap.size 3 (.slice A37_2 (List.length v37_2.1) k37_2) v37_2.1, rowT (eI .i64) w.heap.size 3 (.slice A38_2 (List.length v38_2.1) k38_2) v38_2.1]) (fun b48 u => (jk u 0 19 (.slice A11_1 (List.length v11_1.1) k11_1 :: .slice AA11_1 (List.length v11_1.2) kk11_1 :: (jk u 21 2 (.bool v12_2.2.2 :: .int .i64 v13_2.1 :: .int .i64 v13_2.2.1 :: (jk u 26 233 (.bool b48 :: (jk u 260 34 [])))))))) (fun h hj49 => ?_) ?_
        · skip
          refine r_start ?_
          refine p 3 ?_
          refine br (!v37_2.2) (fun q50 => ?_) (fun q50 => ?_)
          · replace h := H.t q50 h
            refine o_set 250 (congrArg Value.bool q50) ?_
            refine p 9 ?_
            refine rend ?_
            replace h := H.done h
            exact hj49 true _ _ h (by kernel_rfl) (by kernel_rfl)
          replace h := H.f q50 h
          refine o_set 250 (congrArg Value.bool q50) ?_
          refine p 4 ?_
          refine br (!v38_2.2) (fun q51 => ?_) (fun q51 => ?_)
          · replace h := H.t q51 h
            refine o_set 254 (congrArg Value.bool q51) ?_
            refine p 5 ?_
            refine rend ?_
            replace h := H.done h
            exact hj49 true _ _ h (by kernel_rfl) (by kernel_rfl)
          replace h := H.f q51 h
          refine o_set 254 (congrArg Value.bool q51) ?_
          refine p 2 ?_
          obtain ⟨v39_9, hv39_9, h⟩ := H.call h
          refine xq rfl (y_call [.slice A37_2 (List.length v37_2.1) k37_2, .slice A38_2 (List.length v38_2.1) k38_2] (.bool v39_9) func20 (fun W S => C.l_qInts W hv39_9 ((s_own 9).out W S) ((s_own 10).out W S))) ?_
          refine p 2 ?_
          refine rend ?_
          replace h := H.done h
          exact hj49 (!v39_9) _ _ h (by kernel_rfl) (by kernel_rfl)
        intro b48 u h
        refine c_or b48 (fun q52 => ?_) (fun q52 => ?_)
        · replace h := H.t q52 h
          refine c_seq ?_
          refine r_start ?_
          refine p 1 ?_
          refine rend ?_
          replace h := H.inl h
          replace h := H.done h
          subst h
          exact ret func4 rfl (vs := [.bool false]) (.tmp (by kernel_rfl) .nil) rfl (fun W S => ⟨rfl, S.below⟩)
        replace h := H.f q52 h
        refine c_skip ?_
        replace h := H.inr h
        exact hj14 () _ _ h (by kernel_rfl) (by kernel_rfl)
      replace h := H.f q34 h
      refine c_skip ?_
      replace h := H.inr h
      exact hj14 () _ _ h (by kernel_rfl) (by kernel_rfl)
    replace h := H.f q15 h
    refine c_skip ?_
    replace h := H.inr h
    exact hj14 () _ _ h (by kernel_rfl) (by kernel_rfl)
  intro x u h
  refine c_seq ?_
  refine c_seq ?_
  refine r_start ?_
  refine p 1 ?_
  refine rend ?_
  refine c_or v12_2.2.2 (fun q53 => ?_) (fun q53 => ?_)
  · replace h := H.t q53 h
    refine c_seq ?_
    refine r_start ?_
    refine p 3 ?_
    refine rend ?_
    refine c_block ?_
    refine joinE (X := Unit) 2 (H.or h) (fun (x : Unit) => x) (fun _ => [rowT nSign w.heap.size 38 (.slice A3_1 (List.length v3_1) k3_1) v3_1, rowT nConstraint w.heap.size 64 (.slice A8_1 (List.length v8_1) k8_1) v8_1, rowT (eI .i64) w.heap.size 3 (.slice A9_1 (List.length v9_1.1) k9_1) v9_1.1, rowT (eI .i64) w.heap.size 3 (.slice A10_1 (List.length v10_1.1) k10_1) v10_1.1, rowT nSign w.heap.size 38 (.slice A11_1 (List.length v11_1.1) k11_1) v11_1.1, rowT nConstraint w.heap.size 64 (.slice AA11_1 (List.length v11_1.2) kk11_1) v11_1.2]) (fun _ u => (jk u 0 294 [])) (fun h hj54 => ?_) ?_
    · skip
      refine rangeR (X := Unit) (s_own 5) (fun (x : Unit) => x) (fun _ => [rowT nSign w.heap.size 38 (.slice A3_1 (List.length v3_1) k3_1) v3_1, rowT nConstraint w.heap.size 64 (.slice A8_1 (List.length v8_1) k8_1) v8_1, rowT (eI .i64) w.heap.size 3 (.slice A9_1 (List.length v9_1.1) k9_1) v9_1.1, rowT (eI .i64) w.heap.size 3 (.slice A10_1 (List.length v10_1.1) k10_1) v10_1.1, rowT nSign w.heap.size 38 (.slice A11_1 (List.length v11_1.1) k11_1) v11_1.1, rowT nConstraint w.heap.size 64 (.slice AA11_1 (List.length v11_1.2) kk11_1) v11_1.2]) (fun (j55 : Nat) _ u => (jk u 0 19 (.slice A11_1 (List.length v11_1.1) k11_1 :: (jk u 20 4 (.int .i64 v13_2.1 :: .int .i64 v13_2.2.1 :: (jk u 26 235 (.slice AA11_1 (List.length v11_1.2) kk11_1 :: .int .i64 (List.length v11_1.2 : Int) :: .int .i64 (j55 : Int) :: (jk u 264 30 [])))))))) () h (by kernel_rfl) (by kernel_rfl) ?_ ?_
      · intro j55 x u x56 q57 hg58 hw59 h
        refine c_seq ?_
        refine r_start ?_
        refine p 1 ?_
        refine rend ?_
        refine c_seq ?_
        refine c_yes q57 ?_
        refine c_skip ?_
        refine c_seq ?_
        refine c_block ?_
        refine c_seq ?_
        refine r_start ?_
        refine p 1 ?_
        refine xq rfl (y_idx (e := nConstraint) (el := 64) hg58 (s_own 5)) ?_
        refine xq rfl (y_el (e := nConstraint) 0 (.agg (eConstraint x56).toArray) hg58 (s_own 5)) ?_
        refine xx rfl (x_new (eConstraint zConstraint) fun g44_3 => ?_)
        refine p 1 ?_
        refine xx rfl (x_sto 6 g44_3 0 (eConstraint x56) ?_)
        refine rend ?_
        refine c_seq ?_
        refine r_start ?_
        refine p 1 ?_
        refine xq rfl (y_load (.agg (eConstraint x56).toArray) 6 g44_3 0) ?_
        obtain ⟨v45_2, hv45_2, h⟩ := H.call h
        refine xx rfl (e_cr [.slice A11_1 (List.length v11_1.1) k11_1, .agg (eConstraint x56).toArray] (fun v => .tuple #[v, .bool v45_2.2]) func36 (fun W S => C.s_BreakersOf W hv45_2 ((s_own 4).out W S)) fun A45_2 k45_2 => ?_)
        refine p 5 ?_
        refine rend ?_
        refine c_seq ?_
        refine r_start ?_
        refine p 3 ?_
        refine br (!v45_2.2) (fun q60 => ?_) (fun q60 => ?_)
        · replace h := H.t q60 h
          refine o_set 276 (congrArg Value.bool q60) ?_
          refine p 16 ?_
          refine rend ?_
          refine frg (fun u => (jk u 0 19 (.slice A11_1 (List.length v11_1.1) k11_1 :: (jk u 20 4 (.int .i64 v13_2.1 :: .int .i64 v13_2.2.1 :: (jk u 26 235 (.slice AA11_1 (List.length v11_1.2) kk11_1 :: .int .i64 (List.length v11_1.2 : Int) :: .int .i64 (j55 : Int) :: (jk u 264 28 (.bool true :: (jk u 293 1 [])))))))))) (by kernel_rfl) fun u => ?_
          refine keep 8 (its' := [rowT nSign w.heap.size 38 (.slice A3_1 (List.length v3_1) k3_1) v3_1, rowT nConstraint w.heap.size 64 (.slice A8_1 (List.length v8_1) k8_1) v8_1, rowT (eI .i64) w.heap.size 3 (.slice A9_1 (List.length v9_1.1) k9_1) v9_1.1, rowT (eI .i64) w.heap.size 3 (.slice A10_1 (List.length v10_1.1) k10_1) v10_1.1, rowT nSign w.heap.size 38 (.slice A11_1 (List.length v11_1.1) k11_1) v11_1.1, rowT nConstraint w.heap.size 64 (.slice AA11_1 (List.length v11_1.2) kk11_1) v11_1.2, box g44_3 64 (eConstraint x56), rowT (eI .i64) w.heap.size 3 (.slice A45_2 (List.length v45_2.1) k45_2) v45_2.1]) (by kernel_rfl) ?_
          refine c_t (by kernel_rfl) ?_
          refine c_seq ?_
          refine r_start ?_
          refine p 1 ?_
          refine rend ?_
          replace h := H.inr h
          replace h := H.done h
          subst h
          exact ret func4 rfl (vs := [.bool false]) (.tmp (by kernel_rfl) .nil) rfl (fun W S => ⟨rfl, S.below⟩)
        replace h := H.f q60 h
        refine o_set 276 (congrArg Value.bool q60) ?_
        refine p 6 ?_
        refine br (decide ((List.length v45_2.1 : Int) > v13_2.2.1)) (fun q61 => ?_) (fun q61 => ?_)
        · replace h := H.t q61 h
          refine o_set 282 (congrArg Value.bool q61) ?_
          refine p 10 ?_
          refine rend ?_
          refine frg (fun u => (jk u 0 19 (.slice A11_1 (List.length v11_1.1) k11_1 :: (jk u 20 4 (.int .i64 v13_2.1 :: .int .i64 v13_2.2.1 :: (jk u 26 235 (.slice AA11_1 (List.length v11_1.2) kk11_1 :: .int .i64 (List.length v11_1.2 : Int) :: .int .i64 (j55 : Int) :: (jk u 264 28 (.bool true :: (jk u 293 1 [])))))))))) (by kernel_rfl) fun u => ?_
          refine keep 8 (its' := [rowT nSign w.heap.size 38 (.slice A3_1 (List.length v3_1) k3_1) v3_1, rowT nConstraint w.heap.size 64 (.slice A8_1 (List.length v8_1) k8_1) v8_1, rowT (eI .i64) w.heap.size 3 (.slice A9_1 (List.length v9_1.1) k9_1) v9_1.1, rowT (eI .i64) w.heap.size 3 (.slice A10_1 (List.length v10_1.1) k10_1) v10_1.1, rowT nSign w.heap.size 38 (.slice A11_1 (List.length v11_1.1) k11_1) v11_1.1, rowT nConstraint w.heap.size 64 (.slice AA11_1 (List.length v11_1.2) kk11_1) v11_1.2, box g44_3 64 (eConstraint x56), rowT (eI .i64) w.heap.size 3 (.slice A45_2 (List.length v45_2.1) k45_2) v45_2.1]) (by kernel_rfl) ?_
          refine c_t (by kernel_rfl) ?_
          refine c_seq ?_
          refine r_start ?_
          refine p 1 ?_
          refine rend ?_
          replace h := H.inr h
          replace h := H.done h
          subst h
          exact ret func4 rfl (vs := [.bool false]) (.tmp (by kernel_rfl) .nil) rfl (fun W S => ⟨rfl, S.below⟩)
        replace h := H.f q61 h
        refine o_set 282 (congrArg Value.bool q61) ?_
        refine p 4 ?_
        refine br ((j55 : Int) == v13_2.1) (fun q62 => ?_) (fun q62 => ?_)
        · replace h := H.t q62 h
          refine o_set 286 (congrArg Value.bool q62) ?_
          refine p 6 ?_
          refine rend ?_
          refine frg (fun u => (jk u 0 19 (.slice A11_1 (List.length v11_1.1) k11_1 :: (jk u 20 4 (.int .i64 v13_2.1 :: .int .i64 v13_2.2.1 :: (jk u 26 235 (.slice AA11_1 (List.length v11_1.2) kk11_1 :: .int .i64 (List.length v11_1.2 : Int) :: .int .i64 (j55 : Int) :: (jk u 264 28 (.bool ((List.length v45_2.1 : Int) != v13_2.2.1) :: (jk u 293 1 [])))))))))) (by kernel_rfl) fun u => ?_
          refine keep 8 (its' := [rowT nSign w.heap.size 38 (.slice A3_1 (List.length v3_1) k3_1) v3_1, rowT nConstraint w.heap.size 64 (.slice A8_1 (List.length v8_1) k8_1) v8_1, rowT (eI .i64) w.heap.size 3 (.slice A9_1 (List.length v9_1.1) k9_1) v9_1.1, rowT (eI .i64) w.heap.size 3 (.slice A10_1 (List.length v10_1.1) k10_1) v10_1.1, rowT nSign w.heap.size 38 (.slice A11_1 (List.length v11_1.1) k11_1) v11_1.1, rowT nConstraint w.heap.size 64 (.slice AA11_1 (List.length v11_1.2) kk11_1) v11_1.2, box g44_3 64 (eConstraint x56), rowT (eI .i64) w.heap.size 3 (.slice A45_2 (List.length v45_2.1) k45_2) v45_2.1]) (by kernel_rfl) ?_
          refine c_or ((List.length v45_2.1 : Int) != v13_2.2.1) (fun q63 => ?_) (fun q63 => ?_)
          · replace h := H.t q63 h
            refine c_seq ?_
            refine r_start ?_
            refine p 1 ?_
            refine rend ?_
            replace h := H.inr h
            replace h := H.done h
            subst h
            exact ret func4 rfl (vs := [.bool false]) (.tmp (by kernel_rfl) .nil) rfl (fun W S => ⟨rfl, S.below⟩)
          replace h := H.f q63 h
          refine c_skip ?_
          refine c_inb ?_
          refine r_start ?_
          refine p 2 ?_
          refine rend ?_
          refine c_set 263 (ci hw59) ?_
          replace h := H.inl h
          exact h () _ _ rfl (by kernel_rfl) (by kernel_rfl)
        replace h := H.f q62 h
        refine o_set 286 (congrArg Value.bool q62) ?_
        refine p 6 ?_
        refine rend ?_
        refine frg (fun u => (jk u 0 19 (.slice A11_1 (List.length v11_1.1) k11_1 :: (jk u 20 4 (.int .i64 v13_2.1 :: .int .i64 v13_2.2.1 :: (jk u 26 235 (.slice AA11_1 (List.length v11_1.2) kk11_1 :: .int .i64 (List.length v11_1.2 : Int) :: .int .i64 (j55 : Int) :: (jk u 264 28 (.bool false :: (jk u 293 1 [])))))))))) (by kernel_rfl) fun u => ?_
        refine keep 8 (its' := [rowT nSign w.heap.size 38 (.slice A3_1 (List.length v3_1) k3_1) v3_1, rowT nConstraint w.heap.size 64 (.slice A8_1 (List.length v8_1) k8_1) v8_1, rowT (eI .i64) w.heap.size 3 (.slice A9_1 (List.length v9_1.1) k9_1) v9_1.1, rowT (eI .i64) w.heap.size 3 (.slice A10_1 (List.length v10_1.1) k10_1) v10_1.1, rowT nSign w.heap.size 38 (.slice A11_1 (List.length v11_1.1) k11_1) v11_1.1, rowT nConstraint w.heap.size 64 (.slice AA11_1 (List.length v11_1.2) kk11_1) v11_1.2, box g44_3 64 (eConstraint x56), rowT (eI .i64) w.heap.size 3 (.slice A45_2 (List.length v45_2.1) k45_2) v45_2.1]) (by kernel_rfl) ?_
        refine c_f (by kernel_rfl) ?_
        refine c_skip ?_
        refine c_inb ?_
        refine r_start ?_
        refine p 2 ?_
        refine rend ?_
        refine c_set 263 (ci hw59) ?_
        replace h := H.inl h
        exact h () _ _ rfl (by kernel_rfl) (by kernel_rfl)
      · intro x u q57 h
        refine c_seq ?_
        refine r_start ?_
        refine p 1 ?_
        refine rend ?_
        refine c_seq ?_
        refine c_no q57 ?_
        refine cx ?_
        replace h := H.done h
        exact hj54 () _ _ h (by kernel_rfl) (by kernel_rfl)
    intro x u h
    refine c_seq ?_
    refine r_start ?_
    refine p 1 ?_
    refine rend ?_
    replace h := H.done h
    subst h
    exact ret func4 rfl (vs := [.bool true]) (.tmp (by kernel_rfl) .nil) rfl (fun W S => ⟨rfl, S.below⟩)
  replace h := H.f q53 h
  refine c_skip ?_
  refine c_seq ?_
  refine r_start ?_
  refine p 1 ?_
  refine rend ?_
  replace h := H.done h
  subst h
  exact ret func4 rfl (vs := [.bool true]) (.tmp (by kernel_rfl) .nil) rfl (fun W S => ⟨rfl, S.below⟩)
end Go.Proofs.XC
