/- Contracts: each function, called where its plain function gives an answer, returns just that answer and changes nothing that was there. By AI agents; no person has read it. -/
import Derived.Test.YthmgaaommjienaaGreatDoorC2
set_option linter.unusedVariables false
set_option linter.unusedSimpArgs false
set_option maxRecDepth 100000
set_option maxHeartbeats 40000000
namespace Go.Proofs.XC
open Go Go.RowKit
open Tryz
theorem C.s_PartsApart {fu : Nat} {a0 : Sign} {a1 : Sign} {r : ((List Int) × Bool)} (w : World) (h : X.s_PartsApart fu a0 a1 = some r) : Calls prog 40 #[.agg (eSign a0).toArray, .agg (eSign a1).toArray] w (RetR (eI .i64) 3 w r.1 (fun v => .tuple #[v, .bool r.2])) := by
  refine calls (M := no) (args := [.agg (eSign a0).toArray, .agg (eSign a1).toArray]) func40 rfl ?_
  replace h : H (X.s_PartsApart fu a0 a1) (fun o => o = r) := H.mk h
  unfold X.s_PartsApart at h
  refine c_seq ?_
  refine r_start ?_
  refine xx rfl (x_box (eSign a0) fun g0_0 => ?_)
  refine xx rfl (x_box (eSign a1) fun g0_1 => ?_)
  refine p 2 ?_
  refine rend ?_
  refine c_seq ?_
  refine c_seq ?_
  refine r_start ?_
  refine xq rfl (y_load (.agg (eSign a0).toArray) 0 g0_0 0) ?_
  obtain ⟨v1_1, hv1_1, h⟩ := H.call h
  refine xq rfl (y_call [.agg (eSign a0).toArray] (.bool v1_1) func72 (fun W S => C.s_siGood W hv1_1)) ?_
  refine p 2 ?_
  refine br (!v1_1) (fun q1 => ?_) (fun q1 => ?_)
  · replace h := H.t q1 h
    refine o_set 9 (congrArg Value.bool q1) ?_
    refine p 4 ?_
    refine rend ?_
    refine c_t (by kernel_rfl) ?_
    refine c_seq ?_
    refine r_start ?_
    refine p 2 ?_
    refine rend ?_
    replace h := H.done h
    subst h
    exact ret func40 rfl (vs := [.slice none 0 0, .bool false]) (.tmp (by kernel_rfl) (.tmp (by kernel_rfl) .nil)) rfl (fun W S => ⟨none, 0, rfl, World.ownsRow_nil _ _ _ _, S.below⟩)
  replace h := H.f q1 h
  refine o_set 9 (congrArg Value.bool q1) ?_
  refine xq rfl (y_load (.agg (eSign a1).toArray) 1 g0_1 0) ?_
  obtain ⟨v1_5, hv1_5, h⟩ := H.call h
  refine xq rfl (y_call [.agg (eSign a1).toArray] (.bool v1_5) func72 (fun W S => C.s_siGood W hv1_5)) ?_
  refine p 2 ?_
  refine rend ?_
  refine c_or (!v1_5) (fun q2 => ?_) (fun q2 => ?_)
  · replace h := H.t q2 h
    refine c_seq ?_
    refine r_start ?_
    refine p 2 ?_
    refine rend ?_
    replace h := H.done h
    subst h
    exact ret func40 rfl (vs := [.slice none 0 0, .bool false]) (.tmp (by kernel_rfl) (.tmp (by kernel_rfl) .nil)) rfl (fun W S => ⟨none, 0, rfl, World.ownsRow_nil _ _ _ _, S.below⟩)
  replace h := H.f q2 h
  refine c_skip ?_
  refine c_seq ?_
  refine r_start ?_
  refine xq rfl (y_load (.agg (eSign a0).toArray) 0 g0_0 0) ?_
  refine xq rfl (y_load (.agg (eSign a1).toArray) 1 g0_1 0) ?_
  obtain ⟨v3_2, hv3_2, h⟩ := H.call h
  refine xx rfl (e_cr [.agg (eSign a0).toArray, .agg (eSign a1).toArray] (fun v => v) func111 (fun W S => C.s_prApart W hv3_2) fun A3_2 k3_2 => ?_)
  refine p 2 ?_
  refine rend ?_
  replace h := H.done h
  subst h
  exact ret func40 rfl (vs := [.slice A3_2 (List.length v3_2) k3_2, .bool true]) (.tmp (by kernel_rfl) (.tmp (by kernel_rfl) .nil)) rfl (fun W S => ⟨_, _, rfl, S.row 2, S.below⟩)
theorem C.i_PartsApart {fu : Nat} {a0 : Sign} {a1 : Sign} {r : ((List Int) × Bool)} (w : World) (h : X.i_PartsApart fu a0 a1 = some r) : Calls prog 41 #[.agg (eSign a0).toArray, .agg (eSign a1).toArray] w (RetR (eI .i64) 3 w r.1 (fun v => .tuple #[v, .bool r.2])) := by
  refine calls (M := no) (args := [.agg (eSign a0).toArray, .agg (eSign a1).toArray]) func41 rfl ?_
  replace h : H (X.i_PartsApart fu a0 a1) (fun o => o = r) := H.mk h
  unfold X.i_PartsApart at h
  refine c_seq ?_
  refine r_start ?_
  refine xx rfl (x_box (eSign a0) fun g0_0 => ?_)
  refine xx rfl (x_box (eSign a1) fun g0_1 => ?_)
  refine p 2 ?_
  refine rend ?_
  refine c_seq ?_
  refine c_seq ?_
  refine r_start ?_
  refine xq rfl (y_load (.agg (eSign a0).toArray) 0 g0_0 0) ?_
  obtain ⟨v1_1, hv1_1, h⟩ := H.call h
  refine xq rfl (y_call [.agg (eSign a0).toArray] (.bool v1_1) func61 (fun W S => C.i_IsSign W hv1_1)) ?_
  refine p 2 ?_
  refine br (!v1_1) (fun q1 => ?_) (fun q1 => ?_)
  · replace h := H.t q1 h
    refine o_set 9 (congrArg Value.bool q1) ?_
    refine p 4 ?_
    refine rend ?_
    refine c_t (by kernel_rfl) ?_
    refine c_seq ?_
    refine r_start ?_
    refine p 2 ?_
    refine rend ?_
    replace h := H.done h
    subst h
    exact ret func41 rfl (vs := [.slice none 0 0, .bool false]) (.tmp (by kernel_rfl) (.tmp (by kernel_rfl) .nil)) rfl (fun W S => ⟨none, 0, rfl, World.ownsRow_nil _ _ _ _, S.below⟩)
  replace h := H.f q1 h
  refine o_set 9 (congrArg Value.bool q1) ?_
  refine xq rfl (y_load (.agg (eSign a1).toArray) 1 g0_1 0) ?_
  obtain ⟨v1_5, hv1_5, h⟩ := H.call h
  refine xq rfl (y_call [.agg (eSign a1).toArray] (.bool v1_5) func61 (fun W S => C.i_IsSign W hv1_5)) ?_
  refine p 2 ?_
  refine rend ?_
  refine c_or (!v1_5) (fun q2 => ?_) (fun q2 => ?_)
  · replace h := H.t q2 h
    refine c_seq ?_
    refine r_start ?_
    refine p 2 ?_
    refine rend ?_
    replace h := H.done h
    subst h
    exact ret func41 rfl (vs := [.slice none 0 0, .bool false]) (.tmp (by kernel_rfl) (.tmp (by kernel_rfl) .nil)) rfl (fun W S => ⟨none, 0, rfl, World.ownsRow_nil _ _ _ _, S.below⟩)
  replace h := H.f q2 h
  refine c_skip ?_
  refine c_seq ?_
  refine r_start ?_
  refine xq rfl (y_load (.agg (eSign a0).toArray) 0 g0_0 0) ?_
  refine xq rfl (y_load (.agg (eSign a1).toArray) 1 g0_1 0) ?_
  obtain ⟨v3_2, hv3_2, h⟩ := H.call h
  refine xx rfl (e_cr [.agg (eSign a0).toArray, .agg (eSign a1).toArray] (fun v => v) func112 (fun W S => C.i_partsApart W hv3_2) fun A3_2 k3_2 => ?_)
  refine p 2 ?_
  refine rend ?_
  replace h := H.done h
  subst h
  exact ret func41 rfl (vs := [.slice A3_2 (List.length v3_2) k3_2, .bool true]) (.tmp (by kernel_rfl) (.tmp (by kernel_rfl) .nil)) rfl (fun W S => ⟨_, _, rfl, S.row 2, S.below⟩)
theorem C.l_FnExactPartsApart {fu : Nat} {a0 : Sign} {a1 : Sign} {r : Bool} (w : World) (h : X.l_FnExactPartsApart fu a0 a1 = some r) : Calls prog 10 #[.agg (eSign a0).toArray, .agg (eSign a1).toArray] w (Ret w (.bool r)) := by
  refine calls (M := no) (args := [.agg (eSign a0).toArray, .agg (eSign a1).toArray]) func10 rfl ?_
  replace h : H (X.l_FnExactPartsApart fu a0 a1) (fun o => o = r) := H.mk h
  unfold X.l_FnExactPartsApart at h
  refine c_seq ?_
  refine r_start ?_
  refine xx rfl (x_box (eSign a0) fun g0_0 => ?_)
  refine xx rfl (x_box (eSign a1) fun g0_1 => ?_)
  refine p 1 ?_
  refine rend ?_
  refine c_seq ?_
  refine r_start ?_
  refine p 1 ?_
  refine rend ?_
  refine c_seq ?_
  refine r_start ?_
  refine xq rfl (y_load (.agg (eSign a0).toArray) 0 g0_0 0) ?_
  refine p 1 ?_
  obtain ⟨v2_2, hv2_2, h⟩ := H.call h
  refine xq rfl (y_call [.agg (eSign a0).toArray, .int .i64 1048576] (.int .i64 v2_2) func15 (fun W S => C.l_szSign W hv2_2)) ?_
  refine p 1 ?_
  refine rend ?_
  refine c_seq ?_
  refine c_seq ?_
  refine r_start ?_
  refine p 2 ?_
  refine rend ?_
  refine c_or (decide (v2_2 < 0)) (fun q1 => ?_) (fun q1 => ?_)
  · replace h := H.t q1 h
    refine c_seq ?_
    refine r_start ?_
    refine p 1 ?_
    refine rend ?_
    replace h := H.done h
    subst h
    exact ret func10 rfl (vs := [.bool true]) (.tmp (by kernel_rfl) .nil) rfl (fun W S => ⟨rfl, S.below⟩)
  replace h := H.f q1 h
  refine c_skip ?_
  refine c_seq ?_
  refine r_start ?_
  refine xq rfl (y_load (.agg (eSign a1).toArray) 1 g0_1 0) ?_
  refine p 1 ?_
  obtain ⟨v5_2, hv5_2, h⟩ := H.call h
  refine xq rfl (y_call [.agg (eSign a1).toArray, .int .i64 v2_2] (.int .i64 v5_2) func15 (fun W S => C.l_szSign W hv5_2)) ?_
  refine p 1 ?_
  refine rend ?_
  refine c_seq ?_
  refine c_seq ?_
  refine r_start ?_
  refine p 2 ?_
  refine rend ?_
  refine c_or (decide (v5_2 < 0)) (fun q2 => ?_) (fun q2 => ?_)
  · replace h := H.t q2 h
    refine c_seq ?_
    refine r_start ?_
    refine p 1 ?_
    refine rend ?_
    replace h := H.done h
    subst h
    exact ret func10 rfl (vs := [.bool true]) (.tmp (by kernel_rfl) .nil) rfl (fun W S => ⟨rfl, S.below⟩)
  replace h := H.f q2 h
  refine c_skip ?_
  refine c_seq ?_
  refine as_start 10 10 ?_
  refine aq 0 rfl (y_load (.agg (eSign a0).toArray) 0 g0_0 0) ?_
  obtain ⟨v8_1, hv8_1, h⟩ := H.call h
  refine aq 1 rfl (y_call [.agg (eSign a0).toArray] (.agg (eSign v8_1).toArray) func17 (fun W S => C.l_toSign W hv8_1)) ?_
  refine aq 2 rfl (y_load (.agg (eSign a1).toArray) 1 g0_1 0) ?_
  obtain ⟨v8_3, hv8_3, h⟩ := H.call h
  refine aq 3 rfl (y_call [.agg (eSign a1).toArray] (.agg (eSign v8_3).toArray) func17 (fun W S => C.l_toSign W hv8_3)) ?_
  obtain ⟨v8_4, hv8_4, h⟩ := H.call h
  refine ax 4 rfl (e_cr [.agg (eSign v8_1).toArray, .agg (eSign v8_3).toArray] (fun v => .tuple #[v, .bool v8_4.2]) func40 (fun W S => C.s_PartsApart W hv8_4) fun A8_4 k8_4 => ⟨.inr (by kernel_rfl), ?_⟩)
  refine ap 5 5 ?_
  refine a_done ?_
  refine c_seq ?_
  refine as_start 10 10 ?_
  refine aq 0 rfl (y_load (.agg (eSign a0).toArray) 0 g0_0 0) ?_
  obtain ⟨v9_1, hv9_1, h⟩ := H.call h
  refine aq 1 rfl (y_call [.agg (eSign a0).toArray] (.agg (eSign v9_1).toArray) func17 (fun W S => C.l_toSign W hv9_1)) ?_
  refine aq 2 rfl (y_load (.agg (eSign a1).toArray) 1 g0_1 0) ?_
  obtain ⟨v9_3, hv9_3, h⟩ := H.call h
  refine aq 3 rfl (y_call [.agg (eSign a1).toArray] (.agg (eSign v9_3).toArray) func17 (fun W S => C.l_toSign W hv9_3)) ?_
  obtain ⟨v9_4, hv9_4, h⟩ := H.call h
  refine ax 4 rfl (e_cr [.agg (eSign v9_1).toArray, .agg (eSign v9_3).toArray] (fun v => .tuple #[v, .bool v9_4.2]) func41 (fun W S => C.i_PartsApart W hv9_4) fun A9_4 k9_4 => ⟨.inr (by kernel_rfl), ?_⟩)
  refine ap 5 5 ?_
  refine a_done ?_
  refine c_seq ?_
  refine c_seq ?_
  refine r_start ?_
  refine p 2 ?_
  obtain ⟨v10_2, hv10_2, h⟩ := H.call h
  refine xq rfl (y_call [.slice A9_4 (List.length v9_4.1) k9_4, .slice A8_4 (List.length v8_4.1) k8_4] (.bool v10_2) func42 (fun W S => C.l_eqIntS W hv10_2 ((s_own 3).out W S) ((s_own 2).out W S))) ?_
  refine p 2 ?_
  refine br (!v10_2) (fun q3 => ?_) (fun q3 => ?_)
  · replace h := H.t q3 h
    refine o_set 44 (congrArg Value.bool q3) ?_
    refine p 4 ?_
    refine rend ?_
    refine c_t (by kernel_rfl) ?_
    refine c_seq ?_
    refine r_start ?_
    refine p 1 ?_
    refine rend ?_
    replace h := H.done h
    subst h
    exact ret func10 rfl (vs := [.bool false]) (.tmp (by kernel_rfl) .nil) rfl (fun W S => ⟨rfl, S.below⟩)
  replace h := H.f q3 h
  refine o_set 44 (congrArg Value.bool q3) ?_
  refine p 4 ?_
  refine rend ?_
  refine c_or (!(v9_4.2 == v8_4.2)) (fun q4 => ?_) (fun q4 => ?_)
  · replace h := H.t q4 h
    refine c_seq ?_
    refine r_start ?_
    refine p 1 ?_
    refine rend ?_
    replace h := H.done h
    subst h
    exact ret func10 rfl (vs := [.bool false]) (.tmp (by kernel_rfl) .nil) rfl (fun W S => ⟨rfl, S.below⟩)
  replace h := H.f q4 h
  refine c_skip ?_
  refine c_seq ?_
  refine r_start ?_
  refine p 1 ?_
  refine rend ?_
  refine c_seq ?_
  refine r_start ?_
  refine p 2 ?_
  obtain ⟨v13_2, hv13_2, h⟩ := H.call h
  refine xx rfl (e_cw (e := (eI .i64)) (l' := v13_2.2) (v := .int .i64 v13_2.1) 3 [.slice A9_4 (List.length v9_4.1) k9_4, .int .i64 1] func43 (fun W S => C.l_markIntS W hv13_2 rfl (S.row 3)) fun hl13_2 => ?_)
  refine o_set 8 (sl_len (A := A9_4) (c := k9_4) hl13_2) ?_
  refine p 1 ?_
  refine rend ?_
  refine c_seq ?_
  refine r_start ?_
  refine p 1 ?_
  refine rend ?_
  refine c_seq ?_
  refine r_start ?_
  refine p 2 ?_
  obtain ⟨v15_2, hv15_2, h⟩ := H.call h
  refine xq rfl (y_call [.slice A9_4 (List.length v13_2.2) k9_4, .int .i64 1] (.int .i64 v15_2) func44 (fun W S => C.l_heldIntS W hv15_2 ((s_own 3).out W S))) ?_
  refine p 1 ?_
  refine rend ?_
  refine c_seq ?_
  refine c_seq ?_
  refine r_start ?_
  refine p 2 ?_
  refine rend ?_
  refine frg (fun u => (jk u 0 2 (.pointer (some ⟨g0_0, 0, none⟩) :: .pointer (some ⟨g0_1, 0, none⟩) :: (jk u 4 2 (.slice A8_4 (List.length v8_4.1) k8_4 :: .bool v8_4.2 :: .slice A9_4 (List.length v13_2.2) k9_4 :: (jk u 9 1 (.int .i64 v13_2.1 :: .int .i64 v15_2 :: (jk u 12 44 (.bool (decide (v15_2 < 0)) :: (jk u 57 28 [])))))))))) (by kernel_rfl) fun u => ?_
  refine keep 4 (its' := [box g0_0 33 (eSign a0), box g0_1 33 (eSign a1), rowT (eI .i64) w.heap.size 3 (.slice A8_4 (List.length v8_4.1) k8_4) v8_4.1, rowT (eI .i64) w.heap.size 3 (.slice A9_4 (List.length v13_2.2) k9_4) v13_2.2]) (by kernel_rfl) ?_
  refine c_or (decide (v15_2 < 0)) (fun q5 => ?_) (fun q5 => ?_)
  · replace h := H.t q5 h
    refine c_seq ?_
    refine r_start ?_
    refine p 1 ?_
    refine rend ?_
    replace h := H.done h
    subst h
    exact ret func10 rfl (vs := [.bool false]) (.tmp (by kernel_rfl) .nil) rfl (fun W S => ⟨rfl, S.below⟩)
  replace h := H.f q5 h
  refine c_skip ?_
  refine c_seq ?_
  refine c_seq ?_
  refine r_start ?_
  refine p 3 ?_
  refine rend ?_
  refine c_or (v15_2 != v13_2.1) (fun q6 => ?_) (fun q6 => ?_)
  · replace h := H.t q6 h
    refine c_seq ?_
    refine r_start ?_
    refine p 1 ?_
    refine rend ?_
    replace h := H.done h
    subst h
    exact ret func10 rfl (vs := [.bool false]) (.tmp (by kernel_rfl) .nil) rfl (fun W S => ⟨rfl, S.below⟩)
  replace h := H.f q6 h
  refine c_skip ?_
  refine c_seq ?_
  refine as_start 10 10 ?_
  refine aq 0 rfl (y_load (.agg (eSign a0).toArray) 0 g0_0 0) ?_
  obtain ⟨v20_1, hv20_1, h⟩ := H.call h
  refine aq 1 rfl (y_call [.agg (eSign a0).toArray] (.agg (eSign v20_1).toArray) func17 (fun W S => C.l_toSign W hv20_1)) ?_
  refine aq 2 rfl (y_load (.agg (eSign a1).toArray) 1 g0_1 0) ?_
  obtain ⟨v20_3, hv20_3, h⟩ := H.call h
  refine aq 3 rfl (y_call [.agg (eSign a1).toArray] (.agg (eSign v20_3).toArray) func17 (fun W S => C.l_toSign W hv20_3)) ?_
  obtain ⟨v20_4, hv20_4, h⟩ := H.call h
  refine ax 4 rfl (e_cr [.agg (eSign v20_1).toArray, .agg (eSign v20_3).toArray] (fun v => .tuple #[v, .bool v20_4.2]) func41 (fun W S => C.i_PartsApart W hv20_4) fun A20_4 k20_4 => ⟨.inr (by kernel_rfl), ?_⟩)
  refine ap 5 5 ?_
  refine a_done ?_
  refine c_seq ?_
  refine c_seq ?_
  refine r_start ?_
  refine p 2 ?_
  obtain ⟨v21_2, hv21_2, h⟩ := H.call h
  refine xq rfl (y_call [.slice A20_4 (List.length v20_4.1) k20_4, .slice A8_4 (List.length v8_4.1) k8_4] (.bool v21_2) func42 (fun W S => C.l_eqIntS W hv21_2 ((s_own 4).out W S) ((s_own 2).out W S))) ?_
  refine p 2 ?_
  refine br (!v21_2) (fun q7 => ?_) (fun q7 => ?_)
  · replace h := H.t q7 h
    refine o_set 72 (congrArg Value.bool q7) ?_
    refine p 4 ?_
    refine rend ?_
    refine c_t (by kernel_rfl) ?_
    refine c_seq ?_
    refine r_start ?_
    refine p 1 ?_
    refine rend ?_
    replace h := H.done h
    subst h
    exact ret func10 rfl (vs := [.bool false]) (.tmp (by kernel_rfl) .nil) rfl (fun W S => ⟨rfl, S.below⟩)
  replace h := H.f q7 h
  refine o_set 72 (congrArg Value.bool q7) ?_
  refine p 4 ?_
  refine rend ?_
  refine c_or (!(v20_4.2 == v8_4.2)) (fun q8 => ?_) (fun q8 => ?_)
  · replace h := H.t q8 h
    refine c_seq ?_
    refine r_start ?_
    refine p 1 ?_
    refine rend ?_
    replace h := H.done h
    subst h
    exact ret func10 rfl (vs := [.bool false]) (.tmp (by kernel_rfl) .nil) rfl (fun W S => ⟨rfl, S.below⟩)
  replace h := H.f q8 h
  refine c_skip ?_
  refine c_seq ?_
  refine r_start ?_
  refine p 1 ?_
  refine rend ?_
  refine c_seq ?_
  refine r_start ?_
  refine p 2 ?_
  obtain ⟨v24_2, hv24_2, h⟩ := H.call h
  refine xq rfl (y_call [.slice A9_4 (List.length v13_2.2) k9_4, .int .i64 1] (.int .i64 v24_2) func44 (fun W S => C.l_heldIntS W hv24_2 ((s_own 3).out W S))) ?_
  refine p 1 ?_
  refine rend ?_
  refine c_seq ?_
  refine c_seq ?_
  refine r_start ?_
  refine p 2 ?_
  refine rend ?_
  refine c_or (decide (v24_2 < 0)) (fun q9 => ?_) (fun q9 => ?_)
  · replace h := H.t q9 h
    refine c_seq ?_
    refine r_start ?_
    refine p 1 ?_
    refine rend ?_
    replace h := H.done h
    subst h
    exact ret func10 rfl (vs := [.bool false]) (.tmp (by kernel_rfl) .nil) rfl (fun W S => ⟨rfl, S.below⟩)
  replace h := H.f q9 h
  refine c_skip ?_
  refine c_seq ?_
  refine c_seq ?_
  refine r_start ?_
  refine p 3 ?_
  refine rend ?_
  refine c_or (v24_2 != v13_2.1) (fun q10 => ?_) (fun q10 => ?_)
  · replace h := H.t q10 h
    refine c_seq ?_
    refine r_start ?_
    refine p 1 ?_
    refine rend ?_
    replace h := H.done h
    subst h
    exact ret func10 rfl (vs := [.bool false]) (.tmp (by kernel_rfl) .nil) rfl (fun W S => ⟨rfl, S.below⟩)
  replace h := H.f q10 h
  refine c_skip ?_
  refine c_seq ?_
  refine r_start ?_
  refine p 1 ?_
  refine rend ?_
  replace h := H.done h
  subst h
  exact ret func10 rfl (vs := [.bool true]) (.tmp (by kernel_rfl) .nil) rfl (fun W S => ⟨rfl, S.below⟩)
end Go.Proofs.XC
