/- Contracts: each function, called where its plain function gives an answer, returns just that answer and changes nothing that was there. By AI agents; no person has read it. -/
import Derived.Test.YtldkmmopfhhdgaaGreatDoorDNearSigns
set_option linter.unusedVariables false
set_option linter.unusedSimpArgs false
set_option maxRecDepth 100000
set_option maxHeartbeats 40000000
namespace Go.Proofs.XC
open Go Go.RowKit
open Tryz
theorem C.l_FnNearSigns {fu : Nat} {a0 : (List Int)} {A0 : Option Addr} {k0 : Nat} {a1 : (List Int)} {A1 : Option Addr} {k1 : Nat} {r : Bool} (w : World) (h : X.l_FnNearSigns fu a0 a1 = some r) (h0 : RdT (eI .u8) w (.slice A0 (List.length a0) k0) a0) (h1 : RdT (eI .u8) w (.slice A1 (List.length a1) k1) a1) : Calls prog 7 #[.slice A0 (List.length a0) k0, .slice A1 (List.length a1) k1] w (Ret w (.bool r)) := by
  refine calls (M := no) (args := [.slice A0 (List.length a0) k0, .slice A1 (List.length a1) k1]) func7 rfl ?_
  replace h : H (X.l_FnNearSigns fu a0 a1) (fun o => o = r) := H.mk h
  unfold X.l_FnNearSigns at h
  refine c_seq ?_
  refine r_start ?_
  refine p 1 ?_
  refine rend ?_
  refine c_seq ?_
  refine c_seq ?_
  refine r_start ?_
  refine p 6 ?_
  refine rend ?_
  refine c_or (decide ((wr ((List.length a0 : Int) + (List.length a1 : Int))) > 1048576)) (fun q1 => ?_) (fun q1 => ?_)
  · replace h := H.t q1 h
    refine c_seq ?_
    refine r_start ?_
    refine p 1 ?_
    refine rend ?_
    replace h := H.done h
    subst h
    exact ret func7 rfl (vs := [.bool true]) (.tmp (by kernel_rfl) .nil) rfl (fun W S => ⟨rfl, S.below⟩)
  replace h := H.f q1 h
  refine c_skip ?_
  refine c_seq ?_
  refine r_start ?_
  refine p 1 ?_
  obtain ⟨v3_1, hv3_1, h⟩ := H.call h
  refine xx rfl (e_cr [.slice A0 (List.length a0) k0] (fun v => .tuple #[v, .agg (eSign v3_1.2).toArray]) func72 (fun W S => C.s_DrawNearestSign W hv3_1 ((s_arg h0).out W S)) fun A3_1 k3_1 => ?_)
  refine p 3 ?_
  refine xx rfl (x_new (eSign zSign) fun g3_5 => ?_)
  refine p 1 ?_
  refine xx rfl (x_sto 1 g3_5 0 (eSign v3_1.2) ?_)
  refine rend ?_
  refine c_seq ?_
  refine r_start ?_
  refine p 1 ?_
  refine xq rfl (y_load (.agg (eSign v3_1.2).toArray) 1 g3_5 0) ?_
  obtain ⟨v4_2, hv4_2, h⟩ := H.call h
  refine xq rfl (y_call [.slice A3_1 (List.length v3_1.1) k3_1, .agg (eSign v3_1.2).toArray] (.tuple #[.int .i64 v4_2.1, .int .i64 v4_2.2.1, .bool v4_2.2.2]) func73 (fun W S => C.i_NearestSign W hv4_2 ((s_own 0).out W S))) ?_
  refine p 7 ?_
  refine rend ?_
  refine c_seq ?_
  refine r_start ?_
  refine p 1 ?_
  refine xq rfl (y_load (.agg (eSign v3_1.2).toArray) 1 g3_5 0) ?_
  obtain ⟨v5_2, hv5_2, h⟩ := H.call h
  refine xq rfl (y_call [.slice A3_1 (List.length v3_1.1) k3_1, .agg (eSign v3_1.2).toArray] (.tuple #[.int .i64 v5_2.1, .int .i64 v5_2.2.1, .bool v5_2.2.2]) func74 (fun W S => C.s_NearestSign W hv5_2 ((s_own 0).out W S))) ?_
  refine p 7 ?_
  refine rend ?_
  refine c_seq ?_
  refine r_start ?_
  refine p 1 ?_
  obtain ⟨v6_1, hv6_1, h⟩ := H.call h
  refine xx rfl (e_cr [.slice A1 (List.length a1) k1] (fun v => .tuple #[v, .agg (eSign v6_1.2.1).toArray, .int .i64 v6_1.2.2]) func75 (fun W S => C.s_DrawSignsWithin W hv6_1 ((s_arg h1).out W S)) fun A6_1 k6_1 => ?_)
  refine p 4 ?_
  refine xx rfl (x_new (eSign zSign) fun g6_6 => ?_)
  refine p 1 ?_
  refine xx rfl (x_sto 3 g6_6 0 (eSign v6_1.2.1) ?_)
  refine p 1 ?_
  refine rend ?_
  refine c_seq ?_
  refine r_start ?_
  refine p 1 ?_
  refine xq rfl (y_load (.agg (eSign v6_1.2.1).toArray) 3 g6_6 0) ?_
  refine p 1 ?_
  obtain ⟨v7_3, hv7_3, h⟩ := H.call h
  refine xx rfl (e_cr [.slice A6_1 (List.length v6_1.1) k6_1, .agg (eSign v6_1.2.1).toArray, .int .i64 v6_1.2.2] (fun v => .tuple #[v, .bool v7_3.2]) func76 (fun W S => C.i_SignsWithin W hv7_3 ((s_own 2).out W S)) fun A7_3 k7_3 => ?_)
  refine p 5 ?_
  refine rend ?_
  refine c_seq ?_
  refine r_start ?_
  refine p 1 ?_
  refine xq rfl (y_load (.agg (eSign v6_1.2.1).toArray) 3 g6_6 0) ?_
  refine p 1 ?_
  obtain ⟨v8_3, hv8_3, h⟩ := H.call h
  refine xx rfl (e_cr [.slice A6_1 (List.length v6_1.1) k6_1, .agg (eSign v6_1.2.1).toArray, .int .i64 v6_1.2.2] (fun v => .tuple #[v, .bool v8_3.2]) func77 (fun W S => C.s_SignsWithin W hv8_3 ((s_own 2).out W S)) fun A8_3 k8_3 => ?_)
  refine p 5 ?_
  refine rend ?_
  refine c_seq ?_
  refine r_start ?_
  refine p 1 ?_
  obtain ⟨v9_1, hv9_1, h⟩ := H.call h
  refine xx rfl (e_cr [.slice A1 (List.length a1) k1] (fun v => v) func78 (fun W S => C.s_DrawDistanceTable W hv9_1 ((s_arg h1).out W S)) fun A9_1 k9_1 => ?_)
  refine p 1 ?_
  refine rend ?_
  refine c_seq ?_
  refine r_start ?_
  refine p 1 ?_
  obtain ⟨v10_1, hv10_1, h⟩ := H.call h
  refine xx rfl (e_crd [.slice A9_1 (List.length v9_1) k9_1] (fun v => .tuple #[v, .bool v10_1.2]) func79 (fun W S => C.i_DistanceTable W hv10_1 ((s_own 6).out W S)) fun A10_1 k10_1 u10_1 => ?_)
  refine p 5 ?_
  refine rend ?_
  refine c_seq ?_
  refine r_start ?_
  refine p 1 ?_
  obtain ⟨v11_1, hv11_1, h⟩ := H.call h
  refine xx rfl (e_crd [.slice A9_1 (List.length v9_1) k9_1] (fun v => .tuple #[v, .bool v11_1.2]) func80 (fun W S => C.s_DistanceTable W hv11_1 ((s_own 6).out W S)) fun A11_1 k11_1 u11_1 => ?_)
  refine p 5 ?_
  refine rend ?_
  refine c_seq ?_
  refine r_start ?_
  refine p 1 ?_
  obtain ⟨v12_1, hv12_1, h⟩ := H.call h
  refine xq rfl (y_call [.slice A9_1 (List.length v9_1) k9_1] (.tuple #[.int .i64 v12_1.1, .int .i64 v12_1.2.1, .bool v12_1.2.2]) func81 (fun W S => C.i_MiddleSign W hv12_1 ((s_own 6).out W S))) ?_
  refine p 7 ?_
  refine rend ?_
  refine frg (fun u => (jk u 0 5 (.slice A3_1 (List.length v3_1.1) k3_1 :: .pointer (some ⟨g3_5, 0, none⟩) :: .int .i64 v4_2.1 :: .int .i64 v4_2.2.1 :: .bool v4_2.2.2 :: .int .i64 v5_2.1 :: .int .i64 v5_2.2.1 :: .bool v5_2.2.2 :: .slice A6_1 (List.length v6_1.1) k6_1 :: .pointer (some ⟨g6_6, 0, none⟩) :: .int .i64 v6_1.2.2 :: .slice A7_3 (List.length v7_3.1) k7_3 :: .bool v7_3.2 :: .slice A8_3 (List.length v8_3.1) k8_3 :: .bool v8_3.2 :: .slice A9_1 (List.length v9_1) k9_1 :: .slice A10_1 (List.length u10_1) k10_1 :: .bool v10_1.2 :: .slice A11_1 (List.length u11_1) k11_1 :: .bool v11_1.2 :: .int .i64 v12_1.1 :: .int .i64 v12_1.2.1 :: .bool v12_1.2.2 :: (jk u 28 333 [])))) (by kernel_rfl) fun u => ?_
  refine keep 11 (its' := [rowT nSign w.heap.size 37 (.slice A3_1 (List.length v3_1.1) k3_1) v3_1.1, box g3_5 37 (eSign v3_1.2), rowT nSign w.heap.size 37 (.slice A6_1 (List.length v6_1.1) k6_1) v6_1.1, box g6_6 37 (eSign v6_1.2.1), rowT (eI .i64) w.heap.size 3 (.slice A7_3 (List.length v7_3.1) k7_3) v7_3.1, rowT (eI .i64) w.heap.size 3 (.slice A8_3 (List.length v8_3.1) k8_3) v8_3.1, rowT nSign w.heap.size 37 (.slice A9_1 (List.length v9_1) k9_1) v9_1, rowT eSl w.heap.size 69 (.slice A10_1 (List.length u10_1) k10_1) u10_1, inns (eI .i64) w.heap.size 3 u10_1 v10_1.1, rowT eSl w.heap.size 69 (.slice A11_1 (List.length u11_1) k11_1) u11_1, inns (eI .i64) w.heap.size 3 u11_1 v11_1.1]) (by kernel_rfl) ?_
  refine c_seq ?_
  refine r_start ?_
  refine p 1 ?_
  obtain ⟨v13_1, hv13_1, h⟩ := H.call h
  refine xq rfl (y_call [.slice A9_1 (List.length v9_1) k9_1] (.tuple #[.int .i64 v13_1.1, .int .i64 v13_1.2.1, .bool v13_1.2.2]) func82 (fun W S => C.s_MiddleSign W hv13_1 ((s_own 6).out W S))) ?_
  refine p 7 ?_
  refine rend ?_
  refine c_seq ?_
  refine r_start ?_
  refine p 1 ?_
  obtain ⟨v14_1, hv14_1, h⟩ := H.call h
  refine xq rfl (y_call [.slice A9_1 (List.length v9_1) k9_1] (.tuple #[.int .i64 v14_1.1, .int .i64 v14_1.2.1, .int .i64 v14_1.2.2.1, .bool v14_1.2.2.2]) func83 (fun W S => C.i_FarthestPair W hv14_1 ((s_own 6).out W S))) ?_
  refine p 9 ?_
  refine rend ?_
  refine c_seq ?_
  refine r_start ?_
  refine p 1 ?_
  obtain ⟨v15_1, hv15_1, h⟩ := H.call h
  refine xq rfl (y_call [.slice A9_1 (List.length v9_1) k9_1] (.tuple #[.int .i64 v15_1.1, .int .i64 v15_1.2.1, .int .i64 v15_1.2.2.1, .bool v15_1.2.2.2]) func84 (fun W S => C.s_FarthestPair W hv15_1 ((s_own 6).out W S))) ?_
  refine p 9 ?_
  refine rend ?_
  refine c_seq ?_
  refine c_seq ?_
  refine joinT (X := Bool) (H.bnd h) (fun (x : Bool) => x) (fun b2 => [rowT nSign w.heap.size 37 (.slice A3_1 (List.length v3_1.1) k3_1) v3_1.1, box g3_5 37 (eSign v3_1.2), rowT nSign w.heap.size 37 (.slice A6_1 (List.length v6_1.1) k6_1) v6_1.1, box g6_6 37 (eSign v6_1.2.1), rowT (eI .i64) w.heap.size 3 (.slice A7_3 (List.length v7_3.1) k7_3) v7_3.1, rowT (eI .i64) w.heap.size 3 (.slice A8_3 (List.length v8_3.1) k8_3) v8_3.1, rowT nSign w.heap.size 37 (.slice A9_1 (List.length v9_1) k9_1) v9_1, rowT eSl w.heap.size 69 (.slice A10_1 (List.length u10_1) k10_1) u10_1, inns (eI .i64) w.heap.size 3 u10_1 v10_1.1, rowT eSl w.heap.size 69 (.slice A11_1 (List.length u11_1) k11_1) u11_1, inns (eI .i64) w.heap.size 3 u11_1 v11_1.1]) (fun b2 u => (jk u 0 5 (.slice A3_1 (List.length v3_1.1) k3_1 :: .pointer (some ⟨g3_5, 0, none⟩) :: (jk u 7 2 (.bool v4_2.2.2 :: .int .i64 v5_2.1 :: .int .i64 v5_2.2.1 :: (jk u 12 1 (.slice A6_1 (List.length v6_1.1) k6_1 :: .pointer (some ⟨g6_6, 0, none⟩) :: .int .i64 v6_1.2.2 :: (jk u 16 1 (.bool v7_3.2 :: .slice A8_3 (List.length v8_3.1) k8_3 :: (jk u 19 3 (.bool v10_1.2 :: .slice A11_1 (List.length u11_1) k11_1 :: (jk u 24 4 (.int .i64 v13_1.1 :: .int .i64 v13_1.2.1 :: (jk u 30 4 (.bool v14_1.2.2.2 :: .int .i64 v15_1.1 :: .int .i64 v15_1.2.1 :: .int .i64 v15_1.2.2.1 :: (jk u 38 188 (.bool b2 :: (jk u 227 134 [])))))))))))))))))) (fun h hj3 => ?_) ?_
  · skip
    refine r_start ?_
    refine p 4 ?_
    refine br (!(v4_2.2.2 == v5_2.2.2)) (fun q4 => ?_) (fun q4 => ?_)
    · replace h := H.t q4 h
      refine o_set 140 (congrArg Value.bool q4) ?_
      refine p 86 ?_
      refine rend ?_
      replace h := H.done h
      exact hj3 true _ _ h (by kernel_rfl) (by kernel_rfl)
    replace h := H.f q4 h
    refine o_set 140 (congrArg Value.bool q4) ?_
    refine p 5 ?_
    refine br (v4_2.1 != v5_2.1) (fun q5 => ?_) (fun q5 => ?_)
    · replace h := H.t q5 h
      refine o_set 145 (congrArg Value.bool q5) ?_
      refine p 81 ?_
      refine rend ?_
      replace h := H.done h
      exact hj3 true _ _ h (by kernel_rfl) (by kernel_rfl)
    replace h := H.f q5 h
    refine o_set 145 (congrArg Value.bool q5) ?_
    refine p 5 ?_
    refine br (v4_2.2.1 != v5_2.2.1) (fun q6 => ?_) (fun q6 => ?_)
    · replace h := H.t q6 h
      refine o_set 150 (congrArg Value.bool q6) ?_
      refine p 76 ?_
      refine rend ?_
      replace h := H.done h
      exact hj3 true _ _ h (by kernel_rfl) (by kernel_rfl)
    replace h := H.f q6 h
    refine o_set 150 (congrArg Value.bool q6) ?_
    refine p 5 ?_
    refine br (!(v7_3.2 == v8_3.2)) (fun q7 => ?_) (fun q7 => ?_)
    · replace h := H.t q7 h
      refine o_set 155 (congrArg Value.bool q7) ?_
      refine p 71 ?_
      refine rend ?_
      replace h := H.done h
      exact hj3 true _ _ h (by kernel_rfl) (by kernel_rfl)
    replace h := H.f q7 h
    refine o_set 155 (congrArg Value.bool q7) ?_
    refine p 2 ?_
    obtain ⟨v16_21, hv16_21, h⟩ := H.call h
    refine xq rfl (y_call [.slice A7_3 (List.length v7_3.1) k7_3, .slice A8_3 (List.length v8_3.1) k8_3] (.bool v16_21) func85 (fun W S => C.l_qInts W hv16_21 ((s_own 4).out W S) ((s_own 5).out W S))) ?_
    refine p 3 ?_
    refine br (!v16_21) (fun q8 => ?_) (fun q8 => ?_)
    · replace h := H.t q8 h
      refine o_set 161 (congrArg Value.bool q8) ?_
      refine p 65 ?_
      refine rend ?_
      replace h := H.done h
      exact hj3 true _ _ h (by kernel_rfl) (by kernel_rfl)
    replace h := H.f q8 h
    refine o_set 161 (congrArg Value.bool q8) ?_
    refine p 5 ?_
    refine br (!(v10_1.2 == v11_1.2)) (fun q9 => ?_) (fun q9 => ?_)
    · replace h := H.t q9 h
      refine o_set 166 (congrArg Value.bool q9) ?_
      refine p 60 ?_
      refine rend ?_
      replace h := H.done h
      exact hj3 true _ _ h (by kernel_rfl) (by kernel_rfl)
    replace h := H.f q9 h
    refine o_set 166 (congrArg Value.bool q9) ?_
    refine p 2 ?_
    obtain ⟨v16_32, hv16_32, h⟩ := H.call h
    refine xq rfl (y_call [.slice A10_1 (List.length u10_1) k10_1, .slice A11_1 (List.length u11_1) k11_1] (.bool v16_32) func86 (fun W S => C.l_qLists W hv16_32 ((s_own 7).out W S) ((i_own 8).out W S) ((s_own 9).out W S) ((i_own 10).out W S))) ?_
    refine p 3 ?_
    refine br (!v16_32) (fun q10 => ?_) (fun q10 => ?_)
    · replace h := H.t q10 h
      refine o_set 172 (congrArg Value.bool q10) ?_
      refine p 54 ?_
      refine rend ?_
      replace h := H.done h
      exact hj3 true _ _ h (by kernel_rfl) (by kernel_rfl)
    replace h := H.f q10 h
    refine o_set 172 (congrArg Value.bool q10) ?_
    refine p 5 ?_
    refine br (!(v12_1.2.2 == v13_1.2.2)) (fun q11 => ?_) (fun q11 => ?_)
    · replace h := H.t q11 h
      refine o_set 177 (congrArg Value.bool q11) ?_
      refine p 49 ?_
      refine rend ?_
      replace h := H.done h
      exact hj3 true _ _ h (by kernel_rfl) (by kernel_rfl)
    replace h := H.f q11 h
    refine o_set 177 (congrArg Value.bool q11) ?_
    refine p 5 ?_
    refine br (v12_1.1 != v13_1.1) (fun q12 => ?_) (fun q12 => ?_)
    · replace h := H.t q12 h
      refine o_set 182 (congrArg Value.bool q12) ?_
      refine p 44 ?_
      refine rend ?_
      replace h := H.done h
      exact hj3 true _ _ h (by kernel_rfl) (by kernel_rfl)
    replace h := H.f q12 h
    refine o_set 182 (congrArg Value.bool q12) ?_
    refine p 5 ?_
    refine br (v12_1.2.1 != v13_1.2.1) (fun q13 => ?_) (fun q13 => ?_)
    · replace h := H.t q13 h
      refine o_set 187 (congrArg Value.bool q13) ?_
      refine p 39 ?_
      refine rend ?_
      replace h := H.done h
      exact hj3 true _ _ h (by kernel_rfl) (by kernel_rfl)
    replace h := H.f q13 h
    refine o_set 187 (congrArg Value.bool q13) ?_
    refine p 5 ?_
    refine br (!(v14_1.2.2.2 == v15_1.2.2.2)) (fun q14 => ?_) (fun q14 => ?_)
    · replace h := H.t q14 h
      refine o_set 192 (congrArg Value.bool q14) ?_
      refine p 34 ?_
      refine rend ?_
      replace h := H.done h
      exact hj3 true _ _ h (by kernel_rfl) (by kernel_rfl)
    replace h := H.f q14 h
    refine o_set 192 (congrArg Value.bool q14) ?_
    refine p 5 ?_
    refine br (v14_1.1 != v15_1.1) (fun q15 => ?_) (fun q15 => ?_)
    · replace h := H.t q15 h
      refine o_set 197 (congrArg Value.bool q15) ?_
      refine p 29 ?_
      refine rend ?_
      replace h := H.done h
      exact hj3 true _ _ h (by kernel_rfl) (by kernel_rfl)
    replace h := H.f q15 h
    refine o_set 197 (congrArg Value.bool q15) ?_
    refine p 5 ?_
    refine br (v14_1.2.1 != v15_1.2.1) (fun q16 => ?_) (fun q16 => ?_)
    · replace h := H.t q16 h
      refine o_set 202 (congrArg Value.bool q16) ?_
      refine p 24 ?_
      refine rend ?_
      replace h := H.done h
      exact hj3 true _ _ h (by kernel_rfl) (by kernel_rfl)
    replace h := H.f q16 h
    refine o_set 202 (congrArg Value.bool q16) ?_
    refine p 5 ?_
    refine br (v14_1.2.2.1 != v15_1.2.2.1) (fun q17 => ?_) (fun q17 => ?_)
    · replace h := H.t q17 h
      refine o_set 207 (congrArg Value.bool q17) ?_
      refine p 19 ?_
      refine rend ?_
      replace h := H.done h
      exact hj3 true _ _ h (by kernel_rfl) (by kernel_rfl)
    replace h := H.f q17 h
    refine o_set 207 (congrArg Value.bool q17) ?_
    refine p 3 ?_
    refine br v10_1.2 (fun q18 => ?_) (fun q18 => ?_)
    · replace h := H.t q18 h
      refine o_set 210 (congrArg Value.bool q18) ?_
      refine p 7 ?_
      refine br (!(v12_1.2.2 == (decide ((List.length v9_1 : Int) > 0)))) (fun q19 => ?_) (fun q19 => ?_)
      · replace h := H.t q19 h
        refine o_set 217 (congrArg Value.bool q19) ?_
        refine p 9 ?_
        refine rend ?_
        replace h := H.done h
        exact hj3 true _ _ h (by kernel_rfl) (by kernel_rfl)
      replace h := H.f q19 h
      refine o_set 217 (congrArg Value.bool q19) ?_
      refine p 3 ?_
      refine o_set 220 (congrArg Value.bool q18) ?_
      refine p 6 ?_
      refine rend ?_
      replace h := H.done h
      exact hj3 (!(v14_1.2.2.2 == (decide ((List.length v9_1 : Int) > 1)))) _ _ h (by kernel_rfl) (by kernel_rfl)
    replace h := H.f q18 h
    refine o_set 210 (congrArg Value.bool q18) ?_
    refine p 7 ?_
    refine br (!(v12_1.2.2 == false)) (fun q20 => ?_) (fun q20 => ?_)
    · replace h := H.t q20 h
      refine o_set 217 (congrArg Value.bool q20) ?_
      refine p 9 ?_
      refine rend ?_
      replace h := H.done h
      exact hj3 true _ _ h (by kernel_rfl) (by kernel_rfl)
    replace h := H.f q20 h
    refine o_set 217 (congrArg Value.bool q20) ?_
    refine p 3 ?_
    refine o_set 220 (congrArg Value.bool q18) ?_
    refine p 6 ?_
    refine rend ?_
    replace h := H.done h
    exact hj3 (!(v14_1.2.2.2 == false)) _ _ h (by kernel_rfl) (by kernel_rfl)
  intro b2 u h
  refine c_or b2 (fun q21 => ?_) (fun q21 => ?_)
  · replace h := H.t q21 h
    refine c_seq ?_
    refine r_start ?_
    refine p 1 ?_
    refine rend ?_
    replace h := H.done h
    subst h
    exact ret func7 rfl (vs := [.bool false]) (.tmp (by kernel_rfl) .nil) rfl (fun W S => ⟨rfl, S.below⟩)
  replace h := H.f q21 h
  refine c_skip ?_
  refine c_seq ?_
  refine c_seq ?_
  refine r_start ?_
  refine p 1 ?_
  refine rend ?_
  refine joinTE (X := Unit) (H.or h) (fun (x : Unit) => x) (fun _ => [rowT nSign w.heap.size 37 (.slice A3_1 (List.length v3_1.1) k3_1) v3_1.1, box g3_5 37 (eSign v3_1.2), rowT nSign w.heap.size 37 (.slice A6_1 (List.length v6_1.1) k6_1) v6_1.1, box g6_6 37 (eSign v6_1.2.1), rowT (eI .i64) w.heap.size 3 (.slice A7_3 (List.length v7_3.1) k7_3) v7_3.1, rowT (eI .i64) w.heap.size 3 (.slice A8_3 (List.length v8_3.1) k8_3) v8_3.1, rowT nSign w.heap.size 37 (.slice A9_1 (List.length v9_1) k9_1) v9_1, rowT eSl w.heap.size 69 (.slice A10_1 (List.length u10_1) k10_1) u10_1, inns (eI .i64) w.heap.size 3 u10_1 v10_1.1, rowT eSl w.heap.size 69 (.slice A11_1 (List.length u11_1) k11_1) u11_1, inns (eI .i64) w.heap.size 3 u11_1 v11_1.1]) (fun _ u => (jk u 0 13 (.slice A6_1 (List.length v6_1.1) k6_1 :: .pointer (some ⟨g6_6, 0, none⟩) :: .int .i64 v6_1.2.2 :: (jk u 16 1 (.bool v7_3.2 :: .slice A8_3 (List.length v8_3.1) k8_3 :: (jk u 19 3 (.bool v10_1.2 :: .slice A11_1 (List.length u11_1) k11_1 :: (jk u 24 4 (.int .i64 v13_1.1 :: .int .i64 v13_1.2.1 :: (jk u 30 4 (.bool v14_1.2.2.2 :: .int .i64 v15_1.1 :: .int .i64 v15_1.2.1 :: .int .i64 v15_1.2.2.1 :: (jk u 38 323 [])))))))))))) (fun h hj22 => ?_) ?_
  · skip
    refine c_or v4_2.2.2 (fun q23 => ?_) (fun q23 => ?_)
    · replace h := H.t q23 h
      refine c_seq ?_
      refine as_start 11 11 ?_
      refine ap 0 2 ?_
      obtain ⟨y19_2, hy19_2, h⟩ := H.call h
      refine aq 2 rfl (y_idx (e := nSign) (el := 37) hy19_2 (s_own 0)) ?_
      refine aq 3 rfl (y_el (e := nSign) 0 (.agg (eSign y19_2).toArray) hy19_2 (s_own 0)) ?_
      refine aq 4 rfl (y_load (.agg (eSign v3_1.2).toArray) 1 g3_5 0) ?_
      obtain ⟨v19_5, hv19_5, h⟩ := H.call h
      refine aq 5 rfl (y_call [.agg (eSign y19_2).toArray, .agg (eSign v3_1.2).toArray] (.tuple #[.int .i64 v19_5.1, .bool v19_5.2]) func38 (fun W S => C.i_SignDistance W hv19_5)) ?_
      refine ap 6 5 ?_
      refine a_done ?_
      refine c_seq ?_
      refine c_seq ?_
      refine joinT (X := Bool) (H.bnd h) (fun (x : Bool) => x) (fun b24 => [rowT nSign w.heap.size 37 (.slice A3_1 (List.length v3_1.1) k3_1) v3_1.1, box g3_5 37 (eSign v3_1.2), rowT nSign w.heap.size 37 (.slice A6_1 (List.length v6_1.1) k6_1) v6_1.1, box g6_6 37 (eSign v6_1.2.1), rowT (eI .i64) w.heap.size 3 (.slice A7_3 (List.length v7_3.1) k7_3) v7_3.1, rowT (eI .i64) w.heap.size 3 (.slice A8_3 (List.length v8_3.1) k8_3) v8_3.1, rowT nSign w.heap.size 37 (.slice A9_1 (List.length v9_1) k9_1) v9_1, rowT eSl w.heap.size 69 (.slice A10_1 (List.length u10_1) k10_1) u10_1, inns (eI .i64) w.heap.size 3 u10_1 v10_1.1, rowT eSl w.heap.size 69 (.slice A11_1 (List.length u11_1) k11_1) u11_1, inns (eI .i64) w.heap.size 3 u11_1 v11_1.1]) (fun b24 u => (jk u 0 5 (.slice A3_1 (List.length v3_1.1) k3_1 :: .pointer (some ⟨g3_5, 0, none⟩) :: (jk u 7 4 (.int .i64 v5_2.2.1 :: (jk u 12 1 (.slice A6_1 (List.length v6_1.1) k6_1 :: .pointer (some ⟨g6_6, 0, none⟩) :: .int .i64 v6_1.2.2 :: (jk u 16 1 (.bool v7_3.2 :: .slice A8_3 (List.length v8_3.1) k8_3 :: (jk u 19 3 (.bool v10_1.2 :: .slice A11_1 (List.length u11_1) k11_1 :: (jk u 24 4 (.int .i64 v13_1.1 :: .int .i64 v13_1.2.1 :: (jk u 30 4 (.bool v14_1.2.2.2 :: .int .i64 v15_1.1 :: .int .i64 v15_1.2.1 :: .int .i64 v15_1.2.2.1 :: (jk u 38 205 (.bool b24 :: (jk u 244 117 [])))))))))))))))))) (fun h hj25 => ?_) ?_
      · skip
        refine r_start ?_
        refine p 3 ?_
        refine br (!v19_5.2) (fun q26 => ?_) (fun q26 => ?_)
        · replace h := H.t q26 h
          refine o_set 239 (congrArg Value.bool q26) ?_
          refine p 4 ?_
          refine rend ?_
          replace h := H.done h
          exact hj25 true _ _ h (by kernel_rfl) (by kernel_rfl)
        replace h := H.f q26 h
        refine o_set 239 (congrArg Value.bool q26) ?_
        refine p 4 ?_
        refine rend ?_
        replace h := H.done h
        exact hj25 (v19_5.1 != v5_2.2.1) _ _ h (by kernel_rfl) (by kernel_rfl)
      intro b24 u h
      refine c_or b24 (fun q27 => ?_) (fun q27 => ?_)
      · replace h := H.t q27 h
        refine c_seq ?_
        refine r_start ?_
        refine p 1 ?_
        refine rend ?_
        replace h := H.inl h
        replace h := H.done h
        subst h
        exact ret func7 rfl (vs := [.bool false]) (.tmp (by kernel_rfl) .nil) rfl (fun W S => ⟨rfl, S.below⟩)
      replace h := H.f q27 h
      refine c_skip ?_
      refine c_seq ?_
      refine r_start ?_
      refine p 3 ?_
      refine rend ?_
      refine c_block ?_
      refine joinE (X := Unit) 0 (H.or h) (fun (x : Unit) => x) (fun _ => [rowT nSign w.heap.size 37 (.slice A3_1 (List.length v3_1.1) k3_1) v3_1.1, box g3_5 37 (eSign v3_1.2), rowT nSign w.heap.size 37 (.slice A6_1 (List.length v6_1.1) k6_1) v6_1.1, box g6_6 37 (eSign v6_1.2.1), rowT (eI .i64) w.heap.size 3 (.slice A7_3 (List.length v7_3.1) k7_3) v7_3.1, rowT (eI .i64) w.heap.size 3 (.slice A8_3 (List.length v8_3.1) k8_3) v8_3.1, rowT nSign w.heap.size 37 (.slice A9_1 (List.length v9_1) k9_1) v9_1, rowT eSl w.heap.size 69 (.slice A10_1 (List.length u10_1) k10_1) u10_1, inns (eI .i64) w.heap.size 3 u10_1 v10_1.1, rowT eSl w.heap.size 69 (.slice A11_1 (List.length u11_1) k11_1) u11_1, inns (eI .i64) w.heap.size 3 u11_1 v11_1.1]) (fun _ u => (jk u 0 13 (.slice A6_1 (List.length v6_1.1) k6_1 :: .pointer (some ⟨g6_6, 0, none⟩) :: .int .i64 v6_1.2.2 :: (jk u 16 1 (.bool v7_3.2 :: .slice A8_3 (List.length v8_3.1) k8_3 :: (jk u 19 3 (.bool v10_1.2 :: .slice A11_1 (List.length u11_1) k11_1 :: (jk u 24 4 (.int .i64 v13_1.1 :: .int .i64 v13_1.2.1 :: (jk u 30 4 (.bool v14_1.2.2.2 :: .int .i64 v15_1.1 :: .int .i64 v15_1.2.1 :: .int .i64 v15_1.2.2.1 :: (jk u 38 323 [])))))))))))) (fun h hj28 => ?_) ?_
      · skip
        refine rangeR (X := Unit) (s_own 0) (fun (x : Unit) => x) (fun _ => [rowT nSign w.heap.size 37 (.slice A3_1 (List.length v3_1.1) k3_1) v3_1.1, box g3_5 37 (eSign v3_1.2), rowT nSign w.heap.size 37 (.slice A6_1 (List.length v6_1.1) k6_1) v6_1.1, box g6_6 37 (eSign v6_1.2.1), rowT (eI .i64) w.heap.size 3 (.slice A7_3 (List.length v7_3.1) k7_3) v7_3.1, rowT (eI .i64) w.heap.size 3 (.slice A8_3 (List.length v8_3.1) k8_3) v8_3.1, rowT nSign w.heap.size 37 (.slice A9_1 (List.length v9_1) k9_1) v9_1, rowT eSl w.heap.size 69 (.slice A10_1 (List.length u10_1) k10_1) u10_1, inns (eI .i64) w.heap.size 3 u10_1 v10_1.1, rowT eSl w.heap.size 69 (.slice A11_1 (List.length u11_1) k11_1) u11_1, inns (eI .i64) w.heap.size 3 u11_1 v11_1.1]) (fun (j29 : Nat) _ u => (jk u 0 6 (.pointer (some ⟨g3_5, 0, none⟩) :: (jk u 7 4 (.int .i64 v5_2.2.1 :: (jk u 12 1 (.slice A6_1 (List.length v6_1.1) k6_1 :: .pointer (some ⟨g6_6, 0, none⟩) :: .int .i64 v6_1.2.2 :: (jk u 16 1 (.bool v7_3.2 :: .slice A8_3 (List.length v8_3.1) k8_3 :: (jk u 19 3 (.bool v10_1.2 :: .slice A11_1 (List.length u11_1) k11_1 :: (jk u 24 4 (.int .i64 v13_1.1 :: .int .i64 v13_1.2.1 :: (jk u 30 4 (.bool v14_1.2.2.2 :: .int .i64 v15_1.1 :: .int .i64 v15_1.2.1 :: .int .i64 v15_1.2.2.1 :: (jk u 38 206 (.slice A3_1 (List.length v3_1.1) k3_1 :: .int .i64 (List.length v3_1.1 : Int) :: .int .i64 (j29 : Int) :: (jk u 247 114 [])))))))))))))))))) () h (by kernel_rfl) (by kernel_rfl) ?_ ?_
        · intro j29 x u x30 q31 hg32 hw33 h
          refine c_seq ?_
          refine r_start ?_
          refine p 1 ?_
          refine rend ?_
          refine c_seq ?_
          refine c_yes q31 ?_
          refine c_skip ?_
          refine c_seq ?_
          refine c_block ?_
          refine c_seq ?_
          refine r_start ?_
          refine xq rfl (y_idx (e := nSign) (el := 37) hg32 (s_own 0)) ?_
          refine xq rfl (y_el (e := nSign) 0 (.agg (eSign x30).toArray) hg32 (s_own 0)) ?_
          refine xx rfl (x_new (eSign zSign) fun g24_2 => ?_)
          refine xx rfl (x_sto 11 g24_2 0 (eSign x30) ?_)
          refine rend ?_
          refine c_seq ?_
          refine r_start ?_
          refine xq rfl (y_load (.agg (eSign x30).toArray) 11 g24_2 0) ?_
          refine xq rfl (y_load (.agg (eSign v3_1.2).toArray) 1 g3_5 0) ?_
          obtain ⟨v25_2, hv25_2, h⟩ := H.call h
          refine xq rfl (y_call [.agg (eSign x30).toArray, .agg (eSign v3_1.2).toArray] (.tuple #[.int .i64 v25_2.1, .bool v25_2.2]) func39 (fun W S => C.s_SignDistance W hv25_2)) ?_
          refine p 5 ?_
          refine rend ?_
          refine c_seq ?_
          refine r_start ?_
          refine p 3 ?_
          refine br (!v25_2.2) (fun q34 => ?_) (fun q34 => ?_)
          · replace h := H.t q34 h
            refine o_set 258 (congrArg Value.bool q34) ?_
            refine p 4 ?_
            refine rend ?_
            refine c_t (by kernel_rfl) ?_
            refine c_seq ?_
            refine r_start ?_
            refine p 1 ?_
            refine rend ?_
            refine frg (fun u => (jk u 0 4 (.bool false :: (jk u 5 356 [])))) (by kernel_rfl) fun u => ?_
            refine keep 12 (its' := [rowT nSign w.heap.size 37 (.slice A3_1 (List.length v3_1.1) k3_1) v3_1.1, box g3_5 37 (eSign v3_1.2), rowT nSign w.heap.size 37 (.slice A6_1 (List.length v6_1.1) k6_1) v6_1.1, box g6_6 37 (eSign v6_1.2.1), rowT (eI .i64) w.heap.size 3 (.slice A7_3 (List.length v7_3.1) k7_3) v7_3.1, rowT (eI .i64) w.heap.size 3 (.slice A8_3 (List.length v8_3.1) k8_3) v8_3.1, rowT nSign w.heap.size 37 (.slice A9_1 (List.length v9_1) k9_1) v9_1, rowT eSl w.heap.size 69 (.slice A10_1 (List.length u10_1) k10_1) u10_1, inns (eI .i64) w.heap.size 3 u10_1 v10_1.1, rowT eSl w.heap.size 69 (.slice A11_1 (List.length u11_1) k11_1) u11_1, inns (eI .i64) w.heap.size 3 u11_1 v11_1.1, box g24_2 37 (eSign x30)]) (by kernel_rfl) ?_
            replace h := H.inr h
            replace h := H.inl h
            replace h := H.done h
            subst h
            exact ret func7 rfl (vs := [.bool false]) (.tmp (by kernel_rfl) .nil) rfl (fun W S => ⟨rfl, S.below⟩)
          replace h := H.f q34 h
          refine o_set 258 (congrArg Value.bool q34) ?_
          refine p 4 ?_
          refine rend ?_
          refine c_or (decide (v25_2.1 < v5_2.2.1)) (fun q35 => ?_) (fun q35 => ?_)
          · replace h := H.t q35 h
            refine c_seq ?_
            refine r_start ?_
            refine p 1 ?_
            refine rend ?_
            refine frg (fun u => (jk u 0 4 (.bool false :: (jk u 5 356 [])))) (by kernel_rfl) fun u => ?_
            refine keep 12 (its' := [rowT nSign w.heap.size 37 (.slice A3_1 (List.length v3_1.1) k3_1) v3_1.1, box g3_5 37 (eSign v3_1.2), rowT nSign w.heap.size 37 (.slice A6_1 (List.length v6_1.1) k6_1) v6_1.1, box g6_6 37 (eSign v6_1.2.1), rowT (eI .i64) w.heap.size 3 (.slice A7_3 (List.length v7_3.1) k7_3) v7_3.1, rowT (eI .i64) w.heap.size 3 (.slice A8_3 (List.length v8_3.1) k8_3) v8_3.1, rowT nSign w.heap.size 37 (.slice A9_1 (List.length v9_1) k9_1) v9_1, rowT eSl w.heap.size 69 (.slice A10_1 (List.length u10_1) k10_1) u10_1, inns (eI .i64) w.heap.size 3 u10_1 v10_1.1, rowT eSl w.heap.size 69 (.slice A11_1 (List.length u11_1) k11_1) u11_1, inns (eI .i64) w.heap.size 3 u11_1 v11_1.1, box g24_2 37 (eSign x30)]) (by kernel_rfl) ?_
            replace h := H.inr h
            replace h := H.inl h
            replace h := H.done h
            subst h
            exact ret func7 rfl (vs := [.bool false]) (.tmp (by kernel_rfl) .nil) rfl (fun W S => ⟨rfl, S.below⟩)
          replace h := H.f q35 h
          refine c_skip ?_
          refine c_inb ?_
          refine r_start ?_
          refine p 2 ?_
          refine rend ?_
          refine c_set 246 (ci hw33) ?_
          replace h := H.inl h
          exact h () _ _ rfl (by kernel_rfl) (by kernel_rfl)
        · intro x u q31 h
          refine c_seq ?_
          refine r_start ?_
          refine p 1 ?_
          refine rend ?_
          refine c_seq ?_
          refine c_no q31 ?_
          refine cx ?_
          replace h := H.done h
          exact hj28 () _ _ h (by kernel_rfl) (by kernel_rfl)
      intro x u h
      replace h := H.inr h
      exact hj22 () _ _ h (by kernel_rfl) (by kernel_rfl)
    replace h := H.f q23 h
    refine c_skip ?_
    replace h := H.inr h
    exact hj22 () _ _ h (by kernel_rfl) (by kernel_rfl)
  intro x u h
  refine c_seq ?_
  refine c_seq ?_
  refine r_start ?_
  refine p 1 ?_
  refine rend ?_
  refine joinTE (X := Unit) (H.or h) (fun (x : Unit) => x) (fun _ => [rowT nSign w.heap.size 37 (.slice A3_1 (List.length v3_1.1) k3_1) v3_1.1, box g3_5 37 (eSign v3_1.2), rowT nSign w.heap.size 37 (.slice A6_1 (List.length v6_1.1) k6_1) v6_1.1, box g6_6 37 (eSign v6_1.2.1), rowT (eI .i64) w.heap.size 3 (.slice A7_3 (List.length v7_3.1) k7_3) v7_3.1, rowT (eI .i64) w.heap.size 3 (.slice A8_3 (List.length v8_3.1) k8_3) v8_3.1, rowT nSign w.heap.size 37 (.slice A9_1 (List.length v9_1) k9_1) v9_1, rowT eSl w.heap.size 69 (.slice A10_1 (List.length u10_1) k10_1) u10_1, inns (eI .i64) w.heap.size 3 u10_1 v10_1.1, rowT eSl w.heap.size 69 (.slice A11_1 (List.length u11_1) k11_1) u11_1, inns (eI .i64) w.heap.size 3 u11_1 v11_1.1]) (fun _ u => (jk u 0 22 (.bool v10_1.2 :: .slice A11_1 (List.length u11_1) k11_1 :: (jk u 24 4 (.int .i64 v13_1.1 :: .int .i64 v13_1.2.1 :: (jk u 30 4 (.bool v14_1.2.2.2 :: .int .i64 v15_1.1 :: .int .i64 v15_1.2.1 :: .int .i64 v15_1.2.2.1 :: (jk u 38 323 [])))))))) (fun h hj36 => ?_) ?_
  · skip
    refine c_or v7_3.2 (fun q37 => ?_) (fun q37 => ?_)
    · replace h := H.t q37 h
      refine c_seq ?_
      refine r_start ?_
      refine p 3 ?_
      refine rend ?_
      refine c_block ?_
      refine joinE (X := Unit) 2 (H.or h) (fun (x : Unit) => x) (fun _ => [rowT nSign w.heap.size 37 (.slice A3_1 (List.length v3_1.1) k3_1) v3_1.1, box g3_5 37 (eSign v3_1.2), rowT nSign w.heap.size 37 (.slice A6_1 (List.length v6_1.1) k6_1) v6_1.1, box g6_6 37 (eSign v6_1.2.1), rowT (eI .i64) w.heap.size 3 (.slice A7_3 (List.length v7_3.1) k7_3) v7_3.1, rowT (eI .i64) w.heap.size 3 (.slice A8_3 (List.length v8_3.1) k8_3) v8_3.1, rowT nSign w.heap.size 37 (.slice A9_1 (List.length v9_1) k9_1) v9_1, rowT eSl w.heap.size 69 (.slice A10_1 (List.length u10_1) k10_1) u10_1, inns (eI .i64) w.heap.size 3 u10_1 v10_1.1, rowT eSl w.heap.size 69 (.slice A11_1 (List.length u11_1) k11_1) u11_1, inns (eI .i64) w.heap.size 3 u11_1 v11_1.1]) (fun _ u => (jk u 0 22 (.bool v10_1.2 :: .slice A11_1 (List.length u11_1) k11_1 :: (jk u 24 4 (.int .i64 v13_1.1 :: .int .i64 v13_1.2.1 :: (jk u 30 4 (.bool v14_1.2.2.2 :: .int .i64 v15_1.1 :: .int .i64 v15_1.2.1 :: .int .i64 v15_1.2.2.1 :: (jk u 38 323 [])))))))) (fun h hj38 => ?_) ?_
      · skip
        refine rangeR (X := Unit) (s_own 2) (fun (x : Unit) => x) (fun _ => [rowT nSign w.heap.size 37 (.slice A3_1 (List.length v3_1.1) k3_1) v3_1.1, box g3_5 37 (eSign v3_1.2), rowT nSign w.heap.size 37 (.slice A6_1 (List.length v6_1.1) k6_1) v6_1.1, box g6_6 37 (eSign v6_1.2.1), rowT (eI .i64) w.heap.size 3 (.slice A7_3 (List.length v7_3.1) k7_3) v7_3.1, rowT (eI .i64) w.heap.size 3 (.slice A8_3 (List.length v8_3.1) k8_3) v8_3.1, rowT nSign w.heap.size 37 (.slice A9_1 (List.length v9_1) k9_1) v9_1, rowT eSl w.heap.size 69 (.slice A10_1 (List.length u10_1) k10_1) u10_1, inns (eI .i64) w.heap.size 3 u10_1 v10_1.1, rowT eSl w.heap.size 69 (.slice A11_1 (List.length u11_1) k11_1) u11_1, inns (eI .i64) w.heap.size 3 u11_1 v11_1.1]) (fun (j39 : Nat) _ u => (jk u 0 14 (.pointer (some ⟨g6_6, 0, none⟩) :: .int .i64 v6_1.2.2 :: (jk u 16 2 (.slice A8_3 (List.length v8_3.1) k8_3 :: (jk u 19 3 (.bool v10_1.2 :: .slice A11_1 (List.length u11_1) k11_1 :: (jk u 24 4 (.int .i64 v13_1.1 :: .int .i64 v13_1.2.1 :: (jk u 30 4 (.bool v14_1.2.2.2 :: .int .i64 v15_1.1 :: .int .i64 v15_1.2.1 :: .int .i64 v15_1.2.2.1 :: (jk u 38 227 (.slice A6_1 (List.length v6_1.1) k6_1 :: .int .i64 (List.length v6_1.1 : Int) :: .int .i64 (j39 : Int) :: (jk u 268 93 [])))))))))))))) () h (by kernel_rfl) (by kernel_rfl) ?_ ?_
        · intro j39 x u x40 q41 hg42 hw43 h
          refine c_seq ?_
          refine r_start ?_
          refine p 1 ?_
          refine rend ?_
          refine c_seq ?_
          refine c_yes q41 ?_
          refine c_skip ?_
          refine c_seq ?_
          refine c_block ?_
          refine c_seq ?_
          refine r_start ?_
          refine p 1 ?_
          refine xq rfl (y_idx (e := nSign) (el := 37) hg42 (s_own 2)) ?_
          refine xq rfl (y_el (e := nSign) 0 (.agg (eSign x40).toArray) hg42 (s_own 2)) ?_
          refine xx rfl (x_new (eSign zSign) fun g32_3 => ?_)
          refine p 1 ?_
          refine xx rfl (x_sto 11 g32_3 0 (eSign x40) ?_)
          refine rend ?_
          refine frg (fun u => (jk u 0 14 (.pointer (some ⟨g6_6, 0, none⟩) :: .int .i64 v6_1.2.2 :: (jk u 16 2 (.slice A8_3 (List.length v8_3.1) k8_3 :: (jk u 19 3 (.bool v10_1.2 :: .slice A11_1 (List.length u11_1) k11_1 :: (jk u 24 4 (.int .i64 v13_1.1 :: .int .i64 v13_1.2.1 :: (jk u 30 4 (.bool v14_1.2.2.2 :: .int .i64 v15_1.1 :: .int .i64 v15_1.2.1 :: .int .i64 v15_1.2.2.1 :: (jk u 38 7 (.int .i64 (j39 : Int) :: .pointer (some ⟨g32_3, 0, none⟩) :: (jk u 47 218 (.slice A6_1 (List.length v6_1.1) k6_1 :: .int .i64 (List.length v6_1.1 : Int) :: .int .i64 (j39 : Int) :: (jk u 268 93 [])))))))))))))))) (by kernel_rfl) fun u => ?_
          refine keep 12 (its' := [rowT nSign w.heap.size 37 (.slice A3_1 (List.length v3_1.1) k3_1) v3_1.1, box g3_5 37 (eSign v3_1.2), rowT nSign w.heap.size 37 (.slice A6_1 (List.length v6_1.1) k6_1) v6_1.1, box g6_6 37 (eSign v6_1.2.1), rowT (eI .i64) w.heap.size 3 (.slice A7_3 (List.length v7_3.1) k7_3) v7_3.1, rowT (eI .i64) w.heap.size 3 (.slice A8_3 (List.length v8_3.1) k8_3) v8_3.1, rowT nSign w.heap.size 37 (.slice A9_1 (List.length v9_1) k9_1) v9_1, rowT eSl w.heap.size 69 (.slice A10_1 (List.length u10_1) k10_1) u10_1, inns (eI .i64) w.heap.size 3 u10_1 v10_1.1, rowT eSl w.heap.size 69 (.slice A11_1 (List.length u11_1) k11_1) u11_1, inns (eI .i64) w.heap.size 3 u11_1 v11_1.1, box g32_3 37 (eSign x40)]) (by kernel_rfl) ?_
          refine c_seq ?_
          refine r_start ?_
          refine xq rfl (y_load (.agg (eSign x40).toArray) 11 g32_3 0) ?_
          refine xq rfl (y_load (.agg (eSign v6_1.2.1).toArray) 3 g6_6 0) ?_
          obtain ⟨v33_2, hv33_2, h⟩ := H.call h
          refine xq rfl (y_call [.agg (eSign x40).toArray, .agg (eSign v6_1.2.1).toArray] (.tuple #[.int .i64 v33_2.1, .bool v33_2.2]) func39 (fun W S => C.s_SignDistance W hv33_2)) ?_
          refine p 5 ?_
          refine rend ?_
          refine c_seq ?_
          refine r_start ?_
          refine p 3 ?_
          refine br (!v33_2.2) (fun q44 => ?_) (fun q44 => ?_)
          · replace h := H.t q44 h
            refine o_set 280 (congrArg Value.bool q44) ?_
            refine p 8 ?_
            refine rend ?_
            refine c_t (by kernel_rfl) ?_
            refine c_seq ?_
            refine r_start ?_
            refine p 1 ?_
            refine rend ?_
            replace h := H.inr h
            replace h := H.inl h
            replace h := H.done h
            subst h
            exact ret func7 rfl (vs := [.bool false]) (.tmp (by kernel_rfl) .nil) rfl (fun W S => ⟨rfl, S.below⟩)
          replace h := H.f q44 h
          refine o_set 280 (congrArg Value.bool q44) ?_
          refine p 2 ?_
          obtain ⟨v34_5, hv34_5, h⟩ := H.call h
          refine xq rfl (y_call [.slice A8_3 (List.length v8_3.1) k8_3, .int .i64 (j39 : Int)] (.bool v34_5) func87 (fun W S => C.l_qHas W hv34_5 ((s_own 5).out W S))) ?_
          refine p 5 ?_
          refine rend ?_
          refine c_or (!(v34_5 == (decide (v33_2.1 ≤ v6_1.2.2)))) (fun q45 => ?_) (fun q45 => ?_)
          · replace h := H.t q45 h
            refine c_seq ?_
            refine r_start ?_
            refine p 1 ?_
            refine rend ?_
            replace h := H.inr h
            replace h := H.inl h
            replace h := H.done h
            subst h
            exact ret func7 rfl (vs := [.bool false]) (.tmp (by kernel_rfl) .nil) rfl (fun W S => ⟨rfl, S.below⟩)
          replace h := H.f q45 h
          refine c_skip ?_
          refine c_inb ?_
          refine r_start ?_
          refine p 2 ?_
          refine rend ?_
          refine c_set 267 (ci hw43) ?_
          replace h := H.inl h
          exact h () _ _ rfl (by kernel_rfl) (by kernel_rfl)
        · intro x u q41 h
          refine c_seq ?_
          refine r_start ?_
          refine p 1 ?_
          refine rend ?_
          refine c_seq ?_
          refine c_no q41 ?_
          refine cx ?_
          replace h := H.done h
          exact hj38 () _ _ h (by kernel_rfl) (by kernel_rfl)
      intro x u h
      replace h := H.inr h
      exact hj36 () _ _ h (by kernel_rfl) (by kernel_rfl)
    replace h := H.f q37 h
    refine c_skip ?_
    replace h := H.inr h
    exact hj36 () _ _ h (by kernel_rfl) (by kernel_rfl)
  intro x u h
  refine c_seq ?_
  refine c_seq ?_
  refine r_start ?_
  refine p 1 ?_
  refine rend ?_
  refine frg (fun u => (jk u 0 23 (.slice A11_1 (List.length u11_1) k11_1 :: (jk u 24 4 (.int .i64 v13_1.1 :: .int .i64 v13_1.2.1 :: (jk u 30 4 (.bool v14_1.2.2.2 :: .int .i64 v15_1.1 :: .int .i64 v15_1.2.1 :: .int .i64 v15_1.2.2.1 :: (jk u 38 252 (.bool v10_1.2 :: (jk u 291 70 [])))))))))) (by kernel_rfl) fun u => ?_
  refine keep 11 (its' := [rowT nSign w.heap.size 37 (.slice A3_1 (List.length v3_1.1) k3_1) v3_1.1, box g3_5 37 (eSign v3_1.2), rowT nSign w.heap.size 37 (.slice A6_1 (List.length v6_1.1) k6_1) v6_1.1, box g6_6 37 (eSign v6_1.2.1), rowT (eI .i64) w.heap.size 3 (.slice A7_3 (List.length v7_3.1) k7_3) v7_3.1, rowT (eI .i64) w.heap.size 3 (.slice A8_3 (List.length v8_3.1) k8_3) v8_3.1, rowT nSign w.heap.size 37 (.slice A9_1 (List.length v9_1) k9_1) v9_1, rowT eSl w.heap.size 69 (.slice A10_1 (List.length u10_1) k10_1) u10_1, inns (eI .i64) w.heap.size 3 u10_1 v10_1.1, rowT eSl w.heap.size 69 (.slice A11_1 (List.length u11_1) k11_1) u11_1, inns (eI .i64) w.heap.size 3 u11_1 v11_1.1]) (by kernel_rfl) ?_
  refine c_or v10_1.2 (fun q46 => ?_) (fun q46 => ?_)
  · replace h := H.t q46 h
    refine c_seq ?_
    refine c_seq ?_
    refine r_start ?_
    refine p 1 ?_
    refine p 1 ?_
    refine o_fact (f_len (i_own 10)) fun hl38_1 => ?_
    refine o_set 292 (len_sl hl38_1) ?_
    refine p 1 ?_
    refine rend ?_
    refine c_block ?_
    refine joinE (X := Unit) 4 (H.or h) (fun (x : Unit) => x) (fun _ => [rowT nSign w.heap.size 37 (.slice A3_1 (List.length v3_1.1) k3_1) v3_1.1, box g3_5 37 (eSign v3_1.2), rowT nSign w.heap.size 37 (.slice A6_1 (List.length v6_1.1) k6_1) v6_1.1, box g6_6 37 (eSign v6_1.2.1), rowT (eI .i64) w.heap.size 3 (.slice A7_3 (List.length v7_3.1) k7_3) v7_3.1, rowT (eI .i64) w.heap.size 3 (.slice A8_3 (List.length v8_3.1) k8_3) v8_3.1, rowT nSign w.heap.size 37 (.slice A9_1 (List.length v9_1) k9_1) v9_1, rowT eSl w.heap.size 69 (.slice A10_1 (List.length u10_1) k10_1) u10_1, inns (eI .i64) w.heap.size 3 u10_1 v10_1.1, rowT eSl w.heap.size 69 (.slice A11_1 (List.length u11_1) k11_1) u11_1, inns (eI .i64) w.heap.size 3 u11_1 v11_1.1]) (fun _ u => (jk u 0 23 (.slice A11_1 (List.length u11_1) k11_1 :: (jk u 24 10 (.bool v14_1.2.2.2 :: .int .i64 v15_1.1 :: .int .i64 v15_1.2.1 :: .int .i64 v15_1.2.2.1 :: (jk u 38 323 [])))))) (fun h hj47 => ?_) ?_
    · skip
      refine rangeRD (X := Unit) (s_own 9) (i_own 10) (fun (x : Unit) => x) (fun _ => [rowT nSign w.heap.size 37 (.slice A3_1 (List.length v3_1.1) k3_1) v3_1.1, box g3_5 37 (eSign v3_1.2), rowT nSign w.heap.size 37 (.slice A6_1 (List.length v6_1.1) k6_1) v6_1.1, box g6_6 37 (eSign v6_1.2.1), rowT (eI .i64) w.heap.size 3 (.slice A7_3 (List.length v7_3.1) k7_3) v7_3.1, rowT (eI .i64) w.heap.size 3 (.slice A8_3 (List.length v8_3.1) k8_3) v8_3.1, rowT nSign w.heap.size 37 (.slice A9_1 (List.length v9_1) k9_1) v9_1, rowT eSl w.heap.size 69 (.slice A10_1 (List.length u10_1) k10_1) u10_1, inns (eI .i64) w.heap.size 3 u10_1 v10_1.1, rowT eSl w.heap.size 69 (.slice A11_1 (List.length u11_1) k11_1) u11_1, inns (eI .i64) w.heap.size 3 u11_1 v11_1.1]) (fun (j48 : Nat) _ u => (jk u 0 23 (.slice A11_1 (List.length u11_1) k11_1 :: (jk u 24 4 (.int .i64 v13_1.1 :: .int .i64 v13_1.2.1 :: (jk u 30 4 (.bool v14_1.2.2.2 :: .int .i64 v15_1.1 :: .int .i64 v15_1.2.1 :: .int .i64 v15_1.2.2.1 :: (jk u 38 253 (.slice A11_1 (List.length u11_1) k11_1 :: .int .i64 (List.length v11_1.1 : Int) :: .int .i64 (j48 : Int) :: (jk u 294 67 [])))))))))) () h (by kernel_rfl) (by kernel_rfl) ?_ ?_
      · intro j48 x u x49 q50 hg51 hw52 h
        refine c_seq ?_
        refine r_start ?_
        refine p 1 ?_
        refine rend ?_
        refine c_seq ?_
        refine c_yes q50 ?_
        refine c_skip ?_
        refine c_seq ?_
        refine c_block ?_
        refine c_seq ?_
        refine r_start ?_
        refine p 1 ?_
        refine o_fact (f_len (i_own 10)) fun hl40_1 => ?_
        obtain ⟨s40_1, hs40_1⟩ := getI_both hl40_1 hg51
        refine xq rfl (y_idx (e := eSl) (el := 69) hs40_1 (s_own 9)) ?_
        refine xq rfl (y_el (e := eSl) 0 (.slice s40_1.A s40_1.n s40_1.c) hs40_1 (s_own 9)) ?_
        refine o_fact (f_n (i_own 10) hs40_1 hg51) fun he40_2 => ?_
        refine o_set 297 (sl_n he40_2) ?_
        refine p 2 ?_
        refine rend ?_
        refine c_seq ?_
        refine r_start ?_
        refine p 1 ?_
        refine rend ?_
        refine c_seq ?_
        refine c_seq ?_
        refine r_start ?_
        refine p 3 ?_
        refine rend ?_
        refine c_block ?_
        refine joinE (X := Int) 6 (H.or h) (fun (x : Int) => x) (fun n54 => [rowT nSign w.heap.size 37 (.slice A3_1 (List.length v3_1.1) k3_1) v3_1.1, box g3_5 37 (eSign v3_1.2), rowT nSign w.heap.size 37 (.slice A6_1 (List.length v6_1.1) k6_1) v6_1.1, box g6_6 37 (eSign v6_1.2.1), rowT (eI .i64) w.heap.size 3 (.slice A7_3 (List.length v7_3.1) k7_3) v7_3.1, rowT (eI .i64) w.heap.size 3 (.slice A8_3 (List.length v8_3.1) k8_3) v8_3.1, rowT nSign w.heap.size 37 (.slice A9_1 (List.length v9_1) k9_1) v9_1, rowT eSl w.heap.size 69 (.slice A10_1 (List.length u10_1) k10_1) u10_1, inns (eI .i64) w.heap.size 3 u10_1 v10_1.1, rowT eSl w.heap.size 69 (.slice A11_1 (List.length u11_1) k11_1) u11_1, inns (eI .i64) w.heap.size 3 u11_1 v11_1.1]) (fun n54 u => (jk u 0 23 (.slice A11_1 (List.length u11_1) k11_1 :: (jk u 24 4 (.int .i64 v13_1.1 :: .int .i64 v13_1.2.1 :: (jk u 30 4 (.bool v14_1.2.2.2 :: .int .i64 v15_1.1 :: .int .i64 v15_1.2.1 :: .int .i64 v15_1.2.2.1 :: (jk u 38 11 (.int .i64 (j48 : Int) :: (jk u 50 1 (.int .i64 n54 :: (jk u 52 239 (.slice A11_1 (List.length u11_1) k11_1 :: .int .i64 (List.length v11_1.1 : Int) :: .int .i64 (j48 : Int) :: (jk u 294 67 [])))))))))))))) (fun h hj55 => ?_) ?_
        · skip
          refine rangeR (X := Int) (s_in (i_own 10) hs40_1 hg51) (fun (x : Int) => x) (fun n53 => [rowT nSign w.heap.size 37 (.slice A3_1 (List.length v3_1.1) k3_1) v3_1.1, box g3_5 37 (eSign v3_1.2), rowT nSign w.heap.size 37 (.slice A6_1 (List.length v6_1.1) k6_1) v6_1.1, box g6_6 37 (eSign v6_1.2.1), rowT (eI .i64) w.heap.size 3 (.slice A7_3 (List.length v7_3.1) k7_3) v7_3.1, rowT (eI .i64) w.heap.size 3 (.slice A8_3 (List.length v8_3.1) k8_3) v8_3.1, rowT nSign w.heap.size 37 (.slice A9_1 (List.length v9_1) k9_1) v9_1, rowT eSl w.heap.size 69 (.slice A10_1 (List.length u10_1) k10_1) u10_1, inns (eI .i64) w.heap.size 3 u10_1 v10_1.1, rowT eSl w.heap.size 69 (.slice A11_1 (List.length u11_1) k11_1) u11_1, inns (eI .i64) w.heap.size 3 u11_1 v11_1.1]) (fun (j56 : Nat) n53 u => (jk u 0 23 (.slice A11_1 (List.length u11_1) k11_1 :: (jk u 24 4 (.int .i64 v13_1.1 :: .int .i64 v13_1.2.1 :: (jk u 30 4 (.bool v14_1.2.2.2 :: .int .i64 v15_1.1 :: .int .i64 v15_1.2.1 :: .int .i64 v15_1.2.2.1 :: (jk u 38 11 (.int .i64 (j48 : Int) :: (jk u 50 1 (.int .i64 n53 :: (jk u 52 239 (.slice A11_1 (List.length u11_1) k11_1 :: .int .i64 (List.length v11_1.1 : Int) :: .int .i64 (j48 : Int) :: (jk u 294 4 (.slice s40_1.A (List.length x49) s40_1.c :: .int .i64 (List.length x49 : Int) :: .int .i64 (j56 : Int) :: (jk u 301 60 [])))))))))))))))) 0 h (by kernel_rfl) (by kernel_rfl) ?_ ?_
          · intro j56 n53 u x57 q58 hg59 hw60 h
            refine c_seq ?_
            refine r_start ?_
            refine p 1 ?_
            refine rend ?_
            refine c_seq ?_
            refine c_yes q58 ?_
            refine c_skip ?_
            refine c_seq ?_
            refine c_block ?_
            refine c_seq ?_
            refine r_start ?_
            refine p 1 ?_
            refine xq rfl (y_idx (e := (eI .i64)) (el := 3) hg59 (s_in (i_own 10) hs40_1 hg51)) ?_
            refine xq rfl (y_el (e := (eI .i64)) 0 (.int .i64 x57) hg59 (s_in (i_own 10) hs40_1 hg51)) ?_
            refine p 2 ?_
            refine rend ?_
            refine c_seq ?_
            refine r_start ?_
            refine p 4 ?_
            refine rend ?_
            refine c_seq ?_
            refine r_start ?_
            refine p 3 ?_
            obtain ⟨y46_3, hy46_3, h⟩ := H.call h
            refine o_fact (f_len (i_own 10)) fun hl46_3 => ?_
            obtain ⟨s46_3, hs46_3⟩ := getI_both hl46_3 hy46_3
            refine xq rfl (y_idx (e := eSl) (el := 69) hs46_3 (s_own 9)) ?_
            refine xq rfl (y_el (e := eSl) 0 (.slice s46_3.A s46_3.n s46_3.c) hs46_3 (s_own 9)) ?_
            refine o_fact (f_n (i_own 10) hs46_3 hy46_3) fun he46_4 => ?_
            refine o_set 312 (sl_n he46_4) ?_
            refine p 1 ?_
            obtain ⟨y46_6, hy46_6, h⟩ := H.call h
            refine xq rfl (y_idx (e := (eI .i64)) (el := 3) hy46_6 (s_in (i_own 10) hs46_3 hy46_3)) ?_
            refine xq rfl (y_el (e := (eI .i64)) 0 (.int .i64 y46_6) hy46_6 (s_in (i_own 10) hs46_3 hy46_3)) ?_
            refine p 2 ?_
            refine br (x57 != y46_6) (fun q61 => ?_) (fun q61 => ?_)
            · replace h := H.t q61 h
              refine o_set 317 (congrArg Value.bool q61) ?_
              refine p 16 ?_
              refine rend ?_
              refine c_t (by kernel_rfl) ?_
              refine c_seq ?_
              refine r_start ?_
              refine p 1 ?_
              refine rend ?_
              replace h := H.inr h
              replace h := H.inr h
              replace h := H.done h
              subst h
              exact ret func7 rfl (vs := [.bool false]) (.tmp (by kernel_rfl) .nil) rfl (fun W S => ⟨rfl, S.below⟩)
            replace h := H.f q61 h
            refine o_set 317 (congrArg Value.bool q61) ?_
            refine p 4 ?_
            refine br ((j48 : Int) == (j56 : Int)) (fun q62 => ?_) (fun q62 => ?_)
            · replace h := H.t q62 h
              refine o_set 321 (congrArg Value.bool q62) ?_
              refine p 5 ?_
              refine br (x57 != 0) (fun q63 => ?_) (fun q63 => ?_)
              · replace h := H.t q63 h
                refine o_set 326 (congrArg Value.bool q63) ?_
                refine p 7 ?_
                refine rend ?_
                refine c_t (by kernel_rfl) ?_
                refine c_seq ?_
                refine r_start ?_
                refine p 1 ?_
                refine rend ?_
                replace h := H.inr h
                replace h := H.inr h
                replace h := H.done h
                subst h
                exact ret func7 rfl (vs := [.bool false]) (.tmp (by kernel_rfl) .nil) rfl (fun W S => ⟨rfl, S.below⟩)
              replace h := H.f q63 h
              refine o_set 326 (congrArg Value.bool q63) ?_
              refine p 2 ?_
              refine br v14_1.2.2.2 (fun q64 => ?_) (fun q64 => ?_)
              · replace h := H.t q64 h
                refine o_set 328 (congrArg Value.bool q64) ?_
                refine p 5 ?_
                refine rend ?_
                refine c_or (decide (x57 > v15_1.2.2.1)) (fun q65 => ?_) (fun q65 => ?_)
                · replace h := H.t q65 h
                  refine c_seq ?_
                  refine r_start ?_
                  refine p 1 ?_
                  refine rend ?_
                  replace h := H.inr h
                  replace h := H.inr h
                  replace h := H.done h
                  subst h
                  exact ret func7 rfl (vs := [.bool false]) (.tmp (by kernel_rfl) .nil) rfl (fun W S => ⟨rfl, S.below⟩)
                replace h := H.f q65 h
                refine c_skip ?_
                refine c_inb ?_
                refine r_start ?_
                refine p 2 ?_
                refine rend ?_
                refine c_set 300 (ci hw60) ?_
                replace h := H.inl h
                exact h (wr (n53 + x57)) _ _ rfl (by kernel_rfl) (by kernel_rfl)
              replace h := H.f q64 h
              refine o_set 328 (congrArg Value.bool q64) ?_
              refine p 5 ?_
              refine rend ?_
              refine c_f (by kernel_rfl) ?_
              refine c_skip ?_
              refine c_inb ?_
              refine r_start ?_
              refine p 2 ?_
              refine rend ?_
              refine c_set 300 (ci hw60) ?_
              replace h := H.inl h
              exact h (wr (n53 + x57)) _ _ rfl (by kernel_rfl) (by kernel_rfl)
            replace h := H.f q62 h
            refine o_set 321 (congrArg Value.bool q62) ?_
            refine p 7 ?_
            refine br v14_1.2.2.2 (fun q66 => ?_) (fun q66 => ?_)
            · replace h := H.t q66 h
              refine o_set 328 (congrArg Value.bool q66) ?_
              refine p 5 ?_
              refine rend ?_
              refine c_or (decide (x57 > v15_1.2.2.1)) (fun q67 => ?_) (fun q67 => ?_)
              · replace h := H.t q67 h
                refine c_seq ?_
                refine r_start ?_
                refine p 1 ?_
                refine rend ?_
                replace h := H.inr h
                replace h := H.inr h
                replace h := H.done h
                subst h
                exact ret func7 rfl (vs := [.bool false]) (.tmp (by kernel_rfl) .nil) rfl (fun W S => ⟨rfl, S.below⟩)
              replace h := H.f q67 h
              refine c_skip ?_
              refine c_inb ?_
              refine r_start ?_
              refine p 2 ?_
              refine rend ?_
              refine c_set 300 (ci hw60) ?_
              replace h := H.inl h
              exact h (wr (n53 + x57)) _ _ rfl (by kernel_rfl) (by kernel_rfl)
            replace h := H.f q66 h
            refine o_set 328 (congrArg Value.bool q66) ?_
            refine p 5 ?_
            refine rend ?_
            refine c_f (by kernel_rfl) ?_
            refine c_skip ?_
            refine c_inb ?_
            refine r_start ?_
            refine p 2 ?_
            refine rend ?_
            refine c_set 300 (ci hw60) ?_
            replace h := H.inl h
            exact h (wr (n53 + x57)) _ _ rfl (by kernel_rfl) (by kernel_rfl)
          · intro n53 u q58 h
            refine c_seq ?_
            refine r_start ?_
            refine p 1 ?_
            refine rend ?_
            refine c_seq ?_
            refine c_no q58 ?_
            refine cx ?_
            replace h := H.done h
            exact hj55 n53 _ _ h (by kernel_rfl) (by kernel_rfl)
        intro n54 u h
        refine c_seq ?_
        refine r_start ?_
        refine p 4 ?_
        refine br (decide (n54 < v13_1.2.1)) (fun q68 => ?_) (fun q68 => ?_)
        · replace h := H.t q68 h
          refine o_set 338 (congrArg Value.bool q68) ?_
          refine p 9 ?_
          refine rend ?_
          refine c_t (by kernel_rfl) ?_
          refine c_seq ?_
          refine r_start ?_
          refine p 1 ?_
          refine rend ?_
          replace h := H.inr h
          replace h := H.done h
          subst h
          exact ret func7 rfl (vs := [.bool false]) (.tmp (by kernel_rfl) .nil) rfl (fun W S => ⟨rfl, S.below⟩)
        replace h := H.f q68 h
        refine o_set 338 (congrArg Value.bool q68) ?_
        refine p 4 ?_
        refine br ((j48 : Int) == v13_1.1) (fun q69 => ?_) (fun q69 => ?_)
        · replace h := H.t q69 h
          refine o_set 342 (congrArg Value.bool q69) ?_
          refine p 5 ?_
          refine rend ?_
          refine c_or (n54 != v13_1.2.1) (fun q70 => ?_) (fun q70 => ?_)
          · replace h := H.t q70 h
            refine c_seq ?_
            refine r_start ?_
            refine p 1 ?_
            refine rend ?_
            replace h := H.inr h
            replace h := H.done h
            subst h
            exact ret func7 rfl (vs := [.bool false]) (.tmp (by kernel_rfl) .nil) rfl (fun W S => ⟨rfl, S.below⟩)
          replace h := H.f q70 h
          refine c_skip ?_
          refine c_inb ?_
          refine r_start ?_
          refine p 2 ?_
          refine rend ?_
          refine c_set 293 (ci hw52) ?_
          replace h := H.inl h
          exact h () _ _ rfl (by kernel_rfl) (by kernel_rfl)
        replace h := H.f q69 h
        refine o_set 342 (congrArg Value.bool q69) ?_
        refine p 5 ?_
        refine rend ?_
        refine c_f (by kernel_rfl) ?_
        refine c_skip ?_
        refine c_inb ?_
        refine r_start ?_
        refine p 2 ?_
        refine rend ?_
        refine c_set 293 (ci hw52) ?_
        replace h := H.inl h
        exact h () _ _ rfl (by kernel_rfl) (by kernel_rfl)
      · intro x u q50 h
        refine c_seq ?_
        refine r_start ?_
        refine p 1 ?_
        refine rend ?_
        refine c_seq ?_
        refine c_no q50 ?_
        refine cx ?_
        replace h := H.done h
        exact hj47 () _ _ h (by kernel_rfl) (by kernel_rfl)
    intro x u h
    refine c_seq ?_
    refine r_start ?_
    refine p 2 ?_
    refine br v14_1.2.2.2 (fun q71 => ?_) (fun q71 => ?_)
    · replace h := H.t q71 h
      refine o_set 350 (congrArg Value.bool q71) ?_
      refine p 2 ?_
      obtain ⟨y52_4, hy52_4, h⟩ := H.call h
      refine o_fact (f_len (i_own 10)) fun hl52_4 => ?_
      obtain ⟨s52_4, hs52_4⟩ := getI_both hl52_4 hy52_4
      refine xq rfl (y_idx (e := eSl) (el := 69) hs52_4 (s_own 9)) ?_
      refine xq rfl (y_el (e := eSl) 0 (.slice s52_4.A s52_4.n s52_4.c) hs52_4 (s_own 9)) ?_
      refine o_fact (f_n (i_own 10) hs52_4 hy52_4) fun he52_5 => ?_
      refine o_set 354 (sl_n he52_5) ?_
      refine p 1 ?_
      obtain ⟨y52_7, hy52_7, h⟩ := H.call h
      refine xq rfl (y_idx (e := (eI .i64)) (el := 3) hy52_7 (s_in (i_own 10) hs52_4 hy52_4)) ?_
      refine xq rfl (y_el (e := (eI .i64)) 0 (.int .i64 y52_7) hy52_7 (s_in (i_own 10) hs52_4 hy52_4)) ?_
      refine p 3 ?_
      refine rend ?_
      refine c_or (y52_7 != v15_1.2.2.1) (fun q72 => ?_) (fun q72 => ?_)
      · replace h := H.t q72 h
        refine c_seq ?_
        refine r_start ?_
        refine p 1 ?_
        refine rend ?_
        replace h := H.done h
        subst h
        exact ret func7 rfl (vs := [.bool false]) (.tmp (by kernel_rfl) .nil) rfl (fun W S => ⟨rfl, S.below⟩)
      replace h := H.f q72 h
      refine c_skip ?_
      refine c_seq ?_
      refine r_start ?_
      refine p 1 ?_
      refine rend ?_
      replace h := H.done h
      subst h
      exact ret func7 rfl (vs := [.bool true]) (.tmp (by kernel_rfl) .nil) rfl (fun W S => ⟨rfl, S.below⟩)
    replace h := H.f q71 h
    refine o_set 350 (congrArg Value.bool q71) ?_
    refine p 10 ?_
    refine rend ?_
    refine c_f (by kernel_rfl) ?_
    refine c_skip ?_
    refine c_seq ?_
    refine r_start ?_
    refine p 1 ?_
    refine rend ?_
    replace h := H.done h
    subst h
    exact ret func7 rfl (vs := [.bool true]) (.tmp (by kernel_rfl) .nil) rfl (fun W S => ⟨rfl, S.below⟩)
  replace h := H.f q46 h
  refine c_skip ?_
  refine c_seq ?_
  refine r_start ?_
  refine p 1 ?_
  refine rend ?_
  replace h := H.done h
  subst h
  exact ret func7 rfl (vs := [.bool true]) (.tmp (by kernel_rfl) .nil) rfl (fun W S => ⟨rfl, S.below⟩)
end Go.Proofs.XC
