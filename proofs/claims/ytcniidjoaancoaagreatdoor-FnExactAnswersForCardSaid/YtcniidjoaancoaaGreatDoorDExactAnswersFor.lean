/- Contracts: each function, called where its plain function gives an answer, returns just that answer and changes nothing that was there. By AI agents; no person has read it. -/
import Derived.Test.YtcniidjoaancoaaGreatDoorC1
import Derived.Test.YtcniidjoaancoaaGreatDoorE1
import Derived.Test.YtcniidjoaancoaaGreatDoorE5
set_option linter.unusedVariables false
set_option linter.unusedSimpArgs false
set_option maxRecDepth 100000
set_option maxHeartbeats 40000000
namespace Go.Proofs.XC
open Go Go.RowKit
open Tryz
theorem C.s_AnswersFor {fu : Nat} {a0 : Pattern} {a1 : (List Sign)} {A1 : Option Addr} {k1 : Nat} {r : ((List Int) × Bool)} (w : World) (h : X.s_AnswersFor fu a0 a1 = some r) (h1 : RdT nSign w (.slice A1 (List.length a1) k1) a1) : Calls prog 53 #[.agg (ePattern a0).toArray, .slice A1 (List.length a1) k1] w (RetR (eI .i64) 3 w r.1 (fun v => .tuple #[v, .bool r.2])) := by
  refine calls (M := no) (args := [.agg (ePattern a0).toArray, .slice A1 (List.length a1) k1]) func53 rfl ?_
  replace h : H (X.s_AnswersFor fu a0 a1) (fun o => o = r) := H.mk h
  unfold X.s_AnswersFor at h
  refine c_seq ?_
  refine r_start ?_
  refine xx rfl (x_box (ePattern a0) fun g0_0 => ?_)
  refine p 2 ?_
  refine rend ?_
  refine c_seq ?_
  refine c_seq ?_
  refine r_start ?_
  refine xq rfl (y_load (.agg (ePattern a0).toArray) 0 g0_0 0) ?_
  refine p 1 ?_
  obtain ⟨v1_2, hv1_2, h⟩ := H.call h
  refine xq rfl (y_call [.agg (ePattern a0).toArray, .slice A1 (List.length a1) k1] (.bool v1_2) func104 (fun W S => C.s_seAsked W hv1_2 ((s_arg h1).out W S))) ?_
  refine p 1 ?_
  refine rend ?_
  refine c_or (!v1_2) (fun q1 => ?_) (fun q1 => ?_)
  · replace h := H.t q1 h
    refine c_seq ?_
    refine r_start ?_
    refine p 2 ?_
    refine rend ?_
    replace h := H.done h
    subst h
    exact ret func53 rfl (vs := [.slice none 0 0, .bool false]) (.tmp (by kernel_rfl) (.tmp (by kernel_rfl) .nil)) rfl (fun W S => ⟨none, 0, rfl, World.ownsRow_nil _ _ _ _, S.below⟩)
  replace h := H.f q1 h
  refine c_skip ?_
  refine c_seq ?_
  refine r_start ?_
  refine xq rfl (y_load (.agg (ePattern a0).toArray) 0 g0_0 0) ?_
  refine p 1 ?_
  obtain ⟨v3_2, hv3_2, h⟩ := H.call h
  refine xx rfl (e_cr [.agg (ePattern a0).toArray, .slice A1 (List.length a1) k1, .int .i64 0] (fun v => v) func105 (fun W S => C.s_seWithin W hv3_2 ((s_arg h1).out W S)) fun A3_2 k3_2 => ?_)
  refine p 2 ?_
  refine rend ?_
  replace h := H.done h
  subst h
  exact ret func53 rfl (vs := [.slice A3_2 (List.length v3_2) k3_2, .bool true]) (.tmp (by kernel_rfl) (.tmp (by kernel_rfl) .nil)) rfl (fun W S => ⟨_, _, rfl, S.row 1, S.below⟩)
theorem C.i_AnswersFor {fu : Nat} {a0 : Pattern} {a1 : (List Sign)} {A1 : Option Addr} {k1 : Nat} {r : ((List Int) × Bool)} (w : World) (h : X.i_AnswersFor fu a0 a1 = some r) (h1 : RdT nSign w (.slice A1 (List.length a1) k1) a1) : Calls prog 55 #[.agg (ePattern a0).toArray, .slice A1 (List.length a1) k1] w (RetR (eI .i64) 3 w r.1 (fun v => .tuple #[v, .bool r.2])) := by
  refine calls (M := no) (args := [.agg (ePattern a0).toArray, .slice A1 (List.length a1) k1]) func55 rfl ?_
  replace h : H (X.i_AnswersFor fu a0 a1) (fun o => o = r) := H.mk h
  unfold X.i_AnswersFor at h
  refine c_seq ?_
  refine r_start ?_
  refine xx rfl (x_box (ePattern a0) fun g0_0 => ?_)
  refine p 2 ?_
  refine rend ?_
  refine c_seq ?_
  refine c_seq ?_
  refine r_start ?_
  refine xq rfl (y_load (.agg (ePattern a0).toArray) 0 g0_0 0) ?_
  obtain ⟨v1_1, hv1_1, h⟩ := H.call h
  refine xq rfl (y_call [.agg (ePattern a0).toArray] (.bool v1_1) func106 (fun W S => C.i_IsPattern W hv1_1)) ?_
  refine p 2 ?_
  refine br (!v1_1) (fun q1 => ?_) (fun q1 => ?_)
  · replace h := H.t q1 h
    refine o_set 9 (congrArg Value.bool q1) ?_
    refine p 4 ?_
    refine rend ?_
    refine c_t (by kernel_rfl) ?_
    refine c_seq ?_
    refine r_start ?_
    refine p 2 ?_
    refine rend ?_
    replace h := H.done h
    subst h
    exact ret func55 rfl (vs := [.slice none 0 0, .bool false]) (.tmp (by kernel_rfl) (.tmp (by kernel_rfl) .nil)) rfl (fun W S => ⟨none, 0, rfl, World.ownsRow_nil _ _ _ _, S.below⟩)
  replace h := H.f q1 h
  refine o_set 9 (congrArg Value.bool q1) ?_
  refine p 1 ?_
  obtain ⟨v1_5, hv1_5, h⟩ := H.call h
  refine xq rfl (y_call [.slice A1 (List.length a1) k1, .int .i64 16] (.bool v1_5) func63 (fun W S => C.i_areSigns W hv1_5 ((s_arg h1).out W S))) ?_
  refine p 2 ?_
  refine rend ?_
  refine c_or (!v1_5) (fun q2 => ?_) (fun q2 => ?_)
  · replace h := H.t q2 h
    refine c_seq ?_
    refine r_start ?_
    refine p 2 ?_
    refine rend ?_
    replace h := H.done h
    subst h
    exact ret func55 rfl (vs := [.slice none 0 0, .bool false]) (.tmp (by kernel_rfl) (.tmp (by kernel_rfl) .nil)) rfl (fun W S => ⟨none, 0, rfl, World.ownsRow_nil _ _ _ _, S.below⟩)
  replace h := H.f q2 h
  refine c_skip ?_
  refine c_seq ?_
  refine r_start ?_
  refine xq rfl (y_load (.agg (ePattern a0).toArray) 0 g0_0 0) ?_
  refine p 1 ?_
  obtain ⟨v3_2, hv3_2, h⟩ := H.call h
  refine xx rfl (e_cr [.agg (ePattern a0).toArray, .slice A1 (List.length a1) k1] (fun v => v) func107 (fun W S => C.i_Pattern_answers W hv3_2 ((s_arg h1).out W S)) fun A3_2 k3_2 => ?_)
  refine p 2 ?_
  refine rend ?_
  replace h := H.done h
  subst h
  exact ret func55 rfl (vs := [.slice A3_2 (List.length v3_2) k3_2, .bool true]) (.tmp (by kernel_rfl) (.tmp (by kernel_rfl) .nil)) rfl (fun W S => ⟨_, _, rfl, S.row 1, S.below⟩)
theorem C.l_FnExactAnswersFor {fu : Nat} {a0 : Pattern} {a1 : (List Sign)} {A1 : Option Addr} {k1 : Nat} {r : Bool} (w : World) (h : X.l_FnExactAnswersFor fu a0 a1 = some r) (h1 : RdT nSign w (.slice A1 (List.length a1) k1) a1) : Calls prog 12 #[.agg (ePattern a0).toArray, .slice A1 (List.length a1) k1] w (Ret w (.bool r)) := by
  refine calls (M := no) (args := [.agg (ePattern a0).toArray, .slice A1 (List.length a1) k1]) func12 rfl ?_
  replace h : H (X.l_FnExactAnswersFor fu a0 a1) (fun o => o = r) := H.mk h
  unfold X.l_FnExactAnswersFor at h
  refine c_seq ?_
  refine r_start ?_
  refine xx rfl (x_box (ePattern a0) fun g0_0 => ?_)
  refine p 1 ?_
  refine rend ?_
  refine c_seq ?_
  refine r_start ?_
  refine p 1 ?_
  refine rend ?_
  refine c_seq ?_
  refine r_start ?_
  refine xq rfl (y_load (.agg (ePattern a0).toArray) 0 g0_0 0) ?_
  refine p 1 ?_
  obtain ⟨v2_2, hv2_2, h⟩ := H.call h
  refine xq rfl (y_call [.agg (ePattern a0).toArray, .int .i64 1048576] (.int .i64 v2_2) func52 (fun W S => C.l_szPattern W hv2_2)) ?_
  refine p 1 ?_
  refine rend ?_
  refine c_seq ?_
  refine c_seq ?_
  refine r_start ?_
  refine p 2 ?_
  refine rend ?_
  refine c_or (decide (v2_2 < 0)) (fun q1 => ?_) (fun q1 => ?_)
  · replace h := H.t q1 h
    refine c_seq ?_
    refine r_start ?_
    refine p 1 ?_
    refine rend ?_
    replace h := H.done h
    subst h
    exact ret func12 rfl (vs := [.bool true]) (.tmp (by kernel_rfl) .nil) rfl (fun W S => ⟨rfl, S.below⟩)
  replace h := H.f q1 h
  refine c_skip ?_
  refine c_seq ?_
  refine r_start ?_
  refine p 2 ?_
  obtain ⟨v5_2, hv5_2, h⟩ := H.call h
  refine xq rfl (y_call [.slice A1 (List.length a1) k1, .int .i64 v2_2] (.int .i64 v5_2) func15 (fun W S => C.l_szSignS W hv5_2 ((s_arg h1).out W S))) ?_
  refine p 1 ?_
  refine rend ?_
  refine c_seq ?_
  refine c_seq ?_
  refine r_start ?_
  refine p 2 ?_
  refine rend ?_
  refine c_or (decide (v5_2 < 0)) (fun q2 => ?_) (fun q2 => ?_)
  · replace h := H.t q2 h
    refine c_seq ?_
    refine r_start ?_
    refine p 1 ?_
    refine rend ?_
    replace h := H.done h
    subst h
    exact ret func12 rfl (vs := [.bool true]) (.tmp (by kernel_rfl) .nil) rfl (fun W S => ⟨rfl, S.below⟩)
  replace h := H.f q2 h
  refine c_skip ?_
  refine c_seq ?_
  refine r_start ?_
  refine xq rfl (y_load (.agg (ePattern a0).toArray) 0 g0_0 0) ?_
  obtain ⟨v8_1, hv8_1, h⟩ := H.call h
  refine xq rfl (y_call [.agg (ePattern a0).toArray] (.agg (ePattern v8_1).toArray) func54 (fun W S => C.l_toPattern W hv8_1)) ?_
  refine p 1 ?_
  obtain ⟨v8_3, hv8_3, h⟩ := H.call h
  refine xx rfl (e_cr [.slice A1 (List.length a1) k1] (fun v => v) func17 (fun W S => C.l_toSignS W hv8_3 ((s_arg h1).out W S)) fun A8_3 k8_3 => ?_)
  obtain ⟨v8_4, hv8_4, h⟩ := H.call h
  refine xx rfl (e_cr [.agg (ePattern v8_1).toArray, .slice A8_3 (List.length v8_3) k8_3] (fun v => .tuple #[v, .bool v8_4.2]) func53 (fun W S => C.s_AnswersFor W hv8_4 ((s_own 1).out W S)) fun A8_4 k8_4 => ?_)
  refine p 5 ?_
  refine rend ?_
  refine c_seq ?_
  refine r_start ?_
  refine p 1 ?_
  obtain ⟨v9_1, hv9_1, h⟩ := H.call h
  refine xx rfl (e_cr [.slice A1 (List.length a1) k1] (fun v => v) func17 (fun W S => C.l_toSignS W hv9_1 ((s_arg h1).out W S)) fun A9_1 k9_1 => ?_)
  refine p 1 ?_
  refine rend ?_
  refine c_seq ?_
  refine r_start ?_
  refine xq rfl (y_load (.agg (ePattern a0).toArray) 0 g0_0 0) ?_
  obtain ⟨v10_1, hv10_1, h⟩ := H.call h
  refine xq rfl (y_call [.agg (ePattern a0).toArray] (.agg (ePattern v10_1).toArray) func54 (fun W S => C.l_toPattern W hv10_1)) ?_
  refine p 1 ?_
  obtain ⟨v10_3, hv10_3, h⟩ := H.call h
  refine xx rfl (e_cr [.agg (ePattern v10_1).toArray, .slice A9_1 (List.length v9_1) k9_1] (fun v => .tuple #[v, .bool v10_3.2]) func55 (fun W S => C.i_AnswersFor W hv10_3 ((s_own 3).out W S)) fun A10_3 k10_3 => ?_)
  refine p 5 ?_
  refine rend ?_
  refine c_seq ?_
  refine c_seq ?_
  refine r_start ?_
  refine p 2 ?_
  obtain ⟨v11_2, hv11_2, h⟩ := H.call h
  refine xq rfl (y_call [.slice A10_3 (List.length v10_3.1) k10_3, .slice A8_4 (List.length v8_4.1) k8_4] (.bool v11_2) func24 (fun W S => C.l_eqIntS W hv11_2 ((s_own 4).out W S) ((s_own 2).out W S))) ?_
  refine p 2 ?_
  refine br (!v11_2) (fun q3 => ?_) (fun q3 => ?_)
  · replace h := H.t q3 h
    refine o_set 47 (congrArg Value.bool q3) ?_
    refine p 4 ?_
    refine rend ?_
    refine c_t (by kernel_rfl) ?_
    refine c_seq ?_
    refine r_start ?_
    refine p 1 ?_
    refine rend ?_
    replace h := H.done h
    subst h
    exact ret func12 rfl (vs := [.bool false]) (.tmp (by kernel_rfl) .nil) rfl (fun W S => ⟨rfl, S.below⟩)
  replace h := H.f q3 h
  refine o_set 47 (congrArg Value.bool q3) ?_
  refine p 4 ?_
  refine rend ?_
  refine c_or (!(v10_3.2 == v8_4.2)) (fun q4 => ?_) (fun q4 => ?_)
  · replace h := H.t q4 h
    refine c_seq ?_
    refine r_start ?_
    refine p 1 ?_
    refine rend ?_
    replace h := H.done h
    subst h
    exact ret func12 rfl (vs := [.bool false]) (.tmp (by kernel_rfl) .nil) rfl (fun W S => ⟨rfl, S.below⟩)
  replace h := H.f q4 h
  refine c_skip ?_
  refine c_seq ?_
  refine c_seq ?_
  refine r_start ?_
  refine p 2 ?_
  obtain ⟨v13_2, hv13_2, h⟩ := H.call h
  refine xx rfl (e_cr [.slice A1 (List.length a1) k1] (fun v => v) func17 (fun W S => C.l_toSignS W hv13_2 ((s_arg h1).out W S)) fun A13_2 k13_2 => ?_)
  obtain ⟨v13_3, hv13_3, h⟩ := H.call h
  refine xq rfl (y_call [.slice A9_1 (List.length v9_1) k9_1, .slice A13_2 (List.length v13_2) k13_2] (.bool v13_3) func19 (fun W S => C.l_eqSignS W hv13_3 ((s_own 3).out W S) ((s_own 5).out W S))) ?_
  refine p 1 ?_
  refine rend ?_
  refine c_or (!v13_3) (fun q5 => ?_) (fun q5 => ?_)
  · replace h := H.t q5 h
    refine c_seq ?_
    refine r_start ?_
    refine p 1 ?_
    refine rend ?_
    refine frg (fun u => (jk u 0 4 (.bool false :: (jk u 5 104 [])))) (by kernel_rfl) fun u => ?_
    refine keep 6 (its' := [box g0_0 87 (ePattern a0), rowT nSign w.heap.size 66 (.slice A8_3 (List.length v8_3) k8_3) v8_3, rowT (eI .i64) w.heap.size 3 (.slice A8_4 (List.length v8_4.1) k8_4) v8_4.1, rowT nSign w.heap.size 66 (.slice A9_1 (List.length v9_1) k9_1) v9_1, rowT (eI .i64) w.heap.size 3 (.slice A10_3 (List.length v10_3.1) k10_3) v10_3.1, rowT nSign w.heap.size 66 (.slice A13_2 (List.length v13_2) k13_2) v13_2]) (by kernel_rfl) ?_
    replace h := H.done h
    subst h
    exact ret func12 rfl (vs := [.bool false]) (.tmp (by kernel_rfl) .nil) rfl (fun W S => ⟨rfl, S.below⟩)
  replace h := H.f q5 h
  refine c_skip ?_
  refine c_seq ?_
  refine r_start ?_
  refine p 1 ?_
  refine rend ?_
  refine frg (fun u => (jk u 0 1 (.slice A1 (List.length a1) k1 :: .pointer (some ⟨g0_0, 0, none⟩) :: (jk u 3 3 (.slice A8_4 (List.length v8_4.1) k8_4 :: .bool v8_4.2 :: .slice A9_1 (List.length v9_1) k9_1 :: .slice A10_3 (List.length v10_3.1) k10_3 :: .bool v10_3.2 :: .int .i64 1 :: (jk u 12 97 [])))))) (by kernel_rfl) fun u => ?_
  refine keep 6 (its' := [box g0_0 87 (ePattern a0), rowT nSign w.heap.size 66 (.slice A8_3 (List.length v8_3) k8_3) v8_3, rowT (eI .i64) w.heap.size 3 (.slice A8_4 (List.length v8_4.1) k8_4) v8_4.1, rowT nSign w.heap.size 66 (.slice A9_1 (List.length v9_1) k9_1) v9_1, rowT (eI .i64) w.heap.size 3 (.slice A10_3 (List.length v10_3.1) k10_3) v10_3.1, rowT nSign w.heap.size 66 (.slice A13_2 (List.length v13_2) k13_2) v13_2]) (by kernel_rfl) ?_
  refine c_seq ?_
  refine r_start ?_
  refine p 2 ?_
  obtain ⟨v16_2, hv16_2, h⟩ := H.call h
  refine xx rfl (e_cw (e := nSign) (l' := v16_2.2) (v := .int .i64 v16_2.1) 3 [.slice A9_1 (List.length v9_1) k9_1, .int .i64 1] func26 (fun W S => C.l_markSignS W hv16_2 rfl (S.row 3)) fun hl16_2 => ?_)
  refine o_set 8 (sl_len (A := A9_1) (c := k9_1) hl16_2) ?_
  refine p 1 ?_
  refine rend ?_
  refine c_seq ?_
  refine c_seq ?_
  refine r_start ?_
  refine p 3 ?_
  refine br (decide (v16_2.1 < 0)) (fun q6 => ?_) (fun q6 => ?_)
  · replace h := H.t q6 h
    refine o_set 62 (congrArg Value.bool q6) ?_
    refine p 10 ?_
    refine rend ?_
    refine c_t (by kernel_rfl) ?_
    refine c_seq ?_
    refine r_start ?_
    refine p 1 ?_
    refine rend ?_
    replace h := H.done h
    subst h
    exact ret func12 rfl (vs := [.bool false]) (.tmp (by kernel_rfl) .nil) rfl (fun W S => ⟨rfl, S.below⟩)
  replace h := H.f q6 h
  refine o_set 62 (congrArg Value.bool q6) ?_
  refine p 2 ?_
  obtain ⟨v17_5, hv17_5, h⟩ := H.call h
  refine xq rfl (y_call [.slice A10_3 (List.length v10_3.1) k10_3, .slice A8_4 (List.length v8_4.1) k8_4] (.bool v17_5) func24 (fun W S => C.l_eqIntS W hv17_5 ((s_own 4).out W S) ((s_own 2).out W S))) ?_
  refine p 3 ?_
  refine br (!v17_5) (fun q7 => ?_) (fun q7 => ?_)
  · replace h := H.t q7 h
    refine o_set 68 (congrArg Value.bool q7) ?_
    refine p 4 ?_
    refine rend ?_
    refine c_t (by kernel_rfl) ?_
    refine c_seq ?_
    refine r_start ?_
    refine p 1 ?_
    refine rend ?_
    replace h := H.done h
    subst h
    exact ret func12 rfl (vs := [.bool false]) (.tmp (by kernel_rfl) .nil) rfl (fun W S => ⟨rfl, S.below⟩)
  replace h := H.f q7 h
  refine o_set 68 (congrArg Value.bool q7) ?_
  refine p 4 ?_
  refine rend ?_
  refine c_no q4 ?_
  refine c_skip ?_
  refine c_seq ?_
  refine r_start ?_
  refine p 1 ?_
  refine rend ?_
  refine c_seq ?_
  refine r_start ?_
  refine p 2 ?_
  obtain ⟨v20_2, hv20_2, h⟩ := H.call h
  refine xx rfl (e_cw (e := (eI .i64)) (l' := v20_2.2) (v := .int .i64 v20_2.1) 4 [.slice A10_3 (List.length v10_3.1) k10_3, .int .i64 1] func28 (fun W S => C.l_markIntS W hv20_2 rfl (S.row 4)) fun hl20_2 => ?_)
  refine o_set 9 (sl_len (A := A10_3) (c := k10_3) hl20_2) ?_
  refine p 1 ?_
  refine rend ?_
  refine c_seq ?_
  refine r_start ?_
  refine p 1 ?_
  refine rend ?_
  refine c_seq ?_
  refine r_start ?_
  refine p 2 ?_
  obtain ⟨v22_2, hv22_2, h⟩ := H.call h
  refine xq rfl (y_call [.slice A10_3 (List.length v20_2.2) k10_3, .int .i64 1] (.int .i64 v22_2) func29 (fun W S => C.l_heldIntS W hv22_2 ((s_own 4).out W S))) ?_
  refine p 1 ?_
  refine rend ?_
  refine c_seq ?_
  refine c_seq ?_
  refine r_start ?_
  refine p 2 ?_
  refine rend ?_
  refine c_or (decide (v22_2 < 0)) (fun q8 => ?_) (fun q8 => ?_)
  · replace h := H.t q8 h
    refine c_seq ?_
    refine r_start ?_
    refine p 1 ?_
    refine rend ?_
    replace h := H.done h
    subst h
    exact ret func12 rfl (vs := [.bool false]) (.tmp (by kernel_rfl) .nil) rfl (fun W S => ⟨rfl, S.below⟩)
  replace h := H.f q8 h
  refine c_skip ?_
  refine c_seq ?_
  refine c_seq ?_
  refine r_start ?_
  refine p 3 ?_
  refine rend ?_
  refine c_or (v22_2 != v20_2.1) (fun q9 => ?_) (fun q9 => ?_)
  · replace h := H.t q9 h
    refine c_seq ?_
    refine r_start ?_
    refine p 1 ?_
    refine rend ?_
    replace h := H.done h
    subst h
    exact ret func12 rfl (vs := [.bool false]) (.tmp (by kernel_rfl) .nil) rfl (fun W S => ⟨rfl, S.below⟩)
  replace h := H.f q9 h
  refine c_skip ?_
  refine c_seq ?_
  refine r_start ?_
  refine xq rfl (y_load (.agg (ePattern a0).toArray) 0 g0_0 0) ?_
  obtain ⟨v27_1, hv27_1, h⟩ := H.call h
  refine xq rfl (y_call [.agg (ePattern a0).toArray] (.agg (ePattern v27_1).toArray) func54 (fun W S => C.l_toPattern W hv27_1)) ?_
  refine p 1 ?_
  obtain ⟨v27_3, hv27_3, h⟩ := H.call h
  refine xx rfl (e_cr [.slice A1 (List.length a1) k1] (fun v => v) func17 (fun W S => C.l_toSignS W hv27_3 ((s_arg h1).out W S)) fun A27_3 k27_3 => ?_)
  obtain ⟨v27_4, hv27_4, h⟩ := H.call h
  refine xx rfl (e_cr [.agg (ePattern v27_1).toArray, .slice A27_3 (List.length v27_3) k27_3] (fun v => .tuple #[v, .bool v27_4.2]) func55 (fun W S => C.i_AnswersFor W hv27_4 ((s_own 6).out W S)) fun A27_4 k27_4 => ?_)
  refine p 5 ?_
  refine rend ?_
  refine c_seq ?_
  refine c_seq ?_
  refine r_start ?_
  refine p 2 ?_
  obtain ⟨v28_2, hv28_2, h⟩ := H.call h
  refine xq rfl (y_call [.slice A27_4 (List.length v27_4.1) k27_4, .slice A8_4 (List.length v8_4.1) k8_4] (.bool v28_2) func24 (fun W S => C.l_eqIntS W hv28_2 ((s_own 7).out W S) ((s_own 2).out W S))) ?_
  refine p 2 ?_
  refine br (!v28_2) (fun q10 => ?_) (fun q10 => ?_)
  · replace h := H.t q10 h
    refine o_set 96 (congrArg Value.bool q10) ?_
    refine p 4 ?_
    refine rend ?_
    refine c_t (by kernel_rfl) ?_
    refine c_seq ?_
    refine r_start ?_
    refine p 1 ?_
    refine rend ?_
    replace h := H.done h
    subst h
    exact ret func12 rfl (vs := [.bool false]) (.tmp (by kernel_rfl) .nil) rfl (fun W S => ⟨rfl, S.below⟩)
  replace h := H.f q10 h
  refine o_set 96 (congrArg Value.bool q10) ?_
  refine p 4 ?_
  refine rend ?_
  refine c_or (!(v27_4.2 == v8_4.2)) (fun q11 => ?_) (fun q11 => ?_)
  · replace h := H.t q11 h
    refine c_seq ?_
    refine r_start ?_
    refine p 1 ?_
    refine rend ?_
    replace h := H.done h
    subst h
    exact ret func12 rfl (vs := [.bool false]) (.tmp (by kernel_rfl) .nil) rfl (fun W S => ⟨rfl, S.below⟩)
  replace h := H.f q11 h
  refine c_skip ?_
  refine c_seq ?_
  refine r_start ?_
  refine p 1 ?_
  refine rend ?_
  refine c_seq ?_
  refine r_start ?_
  refine p 2 ?_
  obtain ⟨v31_2, hv31_2, h⟩ := H.call h
  refine xq rfl (y_call [.slice A10_3 (List.length v20_2.2) k10_3, .int .i64 1] (.int .i64 v31_2) func29 (fun W S => C.l_heldIntS W hv31_2 ((s_own 4).out W S))) ?_
  refine p 1 ?_
  refine rend ?_
  refine frg (fun u => (jk u 0 12 (.int .i64 v20_2.1 :: .int .i64 v31_2 :: (jk u 14 95 [])))) (by kernel_rfl) fun u => ?_
  refine keep 8 (its' := [box g0_0 87 (ePattern a0), rowT nSign w.heap.size 66 (.slice A8_3 (List.length v8_3) k8_3) v8_3, rowT (eI .i64) w.heap.size 3 (.slice A8_4 (List.length v8_4.1) k8_4) v8_4.1, rowT nSign w.heap.size 66 (.slice A9_1 (List.length v16_2.2) k9_1) v16_2.2, rowT (eI .i64) w.heap.size 3 (.slice A10_3 (List.length v20_2.2) k10_3) v20_2.2, rowT nSign w.heap.size 66 (.slice A13_2 (List.length v13_2) k13_2) v13_2, rowT nSign w.heap.size 66 (.slice A27_3 (List.length v27_3) k27_3) v27_3, rowT (eI .i64) w.heap.size 3 (.slice A27_4 (List.length v27_4.1) k27_4) v27_4.1]) (by kernel_rfl) ?_
  refine c_seq ?_
  refine c_seq ?_
  refine r_start ?_
  refine p 2 ?_
  refine rend ?_
  refine c_or (decide (v31_2 < 0)) (fun q12 => ?_) (fun q12 => ?_)
  · replace h := H.t q12 h
    refine c_seq ?_
    refine r_start ?_
    refine p 1 ?_
    refine rend ?_
    replace h := H.done h
    subst h
    exact ret func12 rfl (vs := [.bool false]) (.tmp (by kernel_rfl) .nil) rfl (fun W S => ⟨rfl, S.below⟩)
  replace h := H.f q12 h
  refine c_skip ?_
  refine c_seq ?_
  refine c_seq ?_
  refine r_start ?_
  refine p 3 ?_
  refine rend ?_
  refine c_or (v31_2 != v20_2.1) (fun q13 => ?_) (fun q13 => ?_)
  · replace h := H.t q13 h
    refine c_seq ?_
    refine r_start ?_
    refine p 1 ?_
    refine rend ?_
    replace h := H.done h
    subst h
    exact ret func12 rfl (vs := [.bool false]) (.tmp (by kernel_rfl) .nil) rfl (fun W S => ⟨rfl, S.below⟩)
  replace h := H.f q13 h
  refine c_skip ?_
  refine c_seq ?_
  refine r_start ?_
  refine p 1 ?_
  refine rend ?_
  replace h := H.done h
  subst h
  exact ret func12 rfl (vs := [.bool true]) (.tmp (by kernel_rfl) .nil) rfl (fun W S => ⟨rfl, S.below⟩)
end Go.Proofs.XC
