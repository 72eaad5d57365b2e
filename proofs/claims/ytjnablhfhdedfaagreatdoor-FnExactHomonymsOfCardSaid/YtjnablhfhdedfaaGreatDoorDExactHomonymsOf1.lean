/- Contracts: each function, called where its plain function gives an answer, returns just that answer and changes nothing that was there. By AI agents; no person has read it. -/
import Derived.Test.YtjnablhfhdedfaaGreatDoorDExactHomonymsOf
set_option linter.unusedVariables false
set_option linter.unusedSimpArgs false
set_option maxRecDepth 100000
set_option maxHeartbeats 40000000
namespace Go.Proofs.XC
open Go Go.RowKit
open Tryz
theorem C.l_heldStringS {fu : Nat} {a0 : (List Str)} {A0 : Option Addr} {k0 : Nat} {a1 : Int} {r : Int} (w : World) (h : X.l_heldStringS fu a0 a1 = some r) (h0 : RdT eS w (.slice A0 (List.length a0) k0) a0) : Calls prog 33 #[.slice A0 (List.length a0) k0, .int .i64 a1] w (Ret w (.int .i64 r)) := by
  refine calls (M := no) (args := [.slice A0 (List.length a0) k0, .int .i64 a1]) func33 rfl ?_
  replace h : H (X.l_heldStringS fu a0 a1) (fun o => o = r) := H.mk h
  unfold X.l_heldStringS at h
  refine c_seq ?_
  refine r_start ?_
  refine p 1 ?_
  refine rend ?_
  refine c_seq ?_
  refine c_seq ?_
  refine r_start ?_
  refine p 1 ?_
  refine rend ?_
  refine c_block ?_
  refine joinE (X := Int) 0 (H.or h) (fun (x : Int) => x) (fun n3 => []) (fun n3 u => (jk u 0 1 (.int .i64 n3 :: (jk u 2 20 [])))) (fun h hj4 => ?_) ?_
  · skip
    refine loopR (X := (Int × Int)) (fun (x : (Int × Int)) => x) (fun ⟨n1, n2⟩ => []) (fun ⟨n1, n2⟩ u => (.slice A0 (List.length a0) k0 :: .int .i64 n1 :: (jk u 2 3 (.int .i64 n2 :: (jk u 6 16 []))))) (a1, 0) h (by kernel_rfl) (by kernel_rfl) ?_
    intro x u h
    obtain ⟨n1, n2⟩ := x
    refine c_seq ?_
    refine c_seq ?_
    refine r_start ?_
    refine p 4 ?_
    refine rend ?_
    refine c_or (decide (n2 < (List.length a0 : Int))) (fun q5 => ?_) (fun q5 => ?_)
    · replace h := H.t q5 h
      refine c_skip ?_
      refine c_seq ?_
      refine c_block ?_
      refine c_seq ?_
      refine c_seq ?_
      refine as_start 7 7 ?_
      refine ap 0 2 ?_
      obtain ⟨y4_2, hy4_2, h⟩ := H.call h
      refine aq 2 rfl (y_idx (e := eS) (el := 9) hy4_2 (s_arg h0)) ?_
      refine aq 3 rfl (y_el (e := eS) 0 (.string (bs y4_2)) hy4_2 (s_arg h0)) ?_
      refine ap 4 1 ?_
      obtain ⟨v4_5, hv4_5, h⟩ := H.call h
      refine aq 5 rfl (y_call [.int .i64 n1] (.string (bs v4_5)) func94 (fun W S => C.l_markText W hv4_5)) ?_
      refine ap 6 1 ?_
      refine a_done ?_
      refine c_or (!seq y4_2 v4_5) (fun q6 => ?_) (fun q6 => ?_)
      · replace h := H.t q6 h
        refine c_seq ?_
        refine r_start ?_
        refine p 1 ?_
        refine rend ?_
        replace h := H.inr h
        replace h := H.done h
        subst h
        exact ret func33 rfl (vs := [.int .i64 (-1)]) (.tmp (by kernel_rfl) .nil) rfl (fun W S => ⟨rfl, S.below⟩)
      replace h := H.f q6 h
      refine c_skip ?_
      refine r_start ?_
      refine p 3 ?_
      refine rend ?_
      refine c_inb ?_
      refine r_start ?_
      refine p 3 ?_
      refine rend ?_
      replace h := H.inl h
      exact h ((wr (n1 + 1)), (wr (n2 + 1))) _ _ rfl (by kernel_rfl) (by kernel_rfl)
    replace h := H.f q5 h
    refine cx ?_
    replace h := H.inr h
    exact hj4 n1 _ _ h (by kernel_rfl) (by kernel_rfl)
  intro n3 u h
  refine c_seq ?_
  refine r_start ?_
  refine p 2 ?_
  refine rend ?_
  replace h := H.done h
  subst h
  exact ret func33 rfl (vs := [.int .i64 n3]) (.tmp (by kernel_rfl) .nil) rfl (fun W S => ⟨rfl, S.below⟩)
theorem C.l_FnExactHomonymsOf {fu : Nat} {a0 : (List Entry)} {A0 : Option Addr} {k0 : Nat} {a1 : Sign} {r : Bool} (w : World) (h : X.l_FnExactHomonymsOf fu a0 a1 = some r) (h0 : RdT nEntry w (.slice A0 (List.length a0) k0) a0) : Calls prog 4 #[.slice A0 (List.length a0) k0, .agg (eSign a1).toArray] w (Ret w (.bool r)) := by
  refine calls (M := no) (args := [.slice A0 (List.length a0) k0, .agg (eSign a1).toArray]) func4 rfl ?_
  replace h : H (X.l_FnExactHomonymsOf fu a0 a1) (fun o => o = r) := H.mk h
  unfold X.l_FnExactHomonymsOf at h
  refine c_seq ?_
  refine r_start ?_
  refine xx rfl (x_box (eSign a1) fun g0_0 => ?_)
  refine p 1 ?_
  refine rend ?_
  refine c_seq ?_
  refine r_start ?_
  refine p 1 ?_
  refine rend ?_
  refine c_seq ?_
  refine r_start ?_
  refine p 2 ?_
  obtain ⟨v2_2, hv2_2, h⟩ := H.call h
  refine xq rfl (y_call [.slice A0 (List.length a0) k0, .int .i64 1048576] (.int .i64 v2_2) func23 (fun W S => C.l_szEntryS W hv2_2 ((s_arg h0).out W S))) ?_
  refine p 1 ?_
  refine rend ?_
  refine c_seq ?_
  refine c_seq ?_
  refine r_start ?_
  refine p 2 ?_
  refine rend ?_
  refine c_or (decide (v2_2 < 0)) (fun q1 => ?_) (fun q1 => ?_)
  · replace h := H.t q1 h
    refine c_seq ?_
    refine r_start ?_
    refine p 1 ?_
    refine rend ?_
    replace h := H.done h
    subst h
    exact ret func4 rfl (vs := [.bool true]) (.tmp (by kernel_rfl) .nil) rfl (fun W S => ⟨rfl, S.below⟩)
  replace h := H.f q1 h
  refine c_skip ?_
  refine c_seq ?_
  refine r_start ?_
  refine xq rfl (y_load (.agg (eSign a1).toArray) 0 g0_0 0) ?_
  refine p 1 ?_
  obtain ⟨v5_2, hv5_2, h⟩ := H.call h
  refine xq rfl (y_call [.agg (eSign a1).toArray, .int .i64 v2_2] (.int .i64 v5_2) func24 (fun W S => C.l_szSign W hv5_2)) ?_
  refine p 1 ?_
  refine rend ?_
  refine c_seq ?_
  refine c_seq ?_
  refine r_start ?_
  refine p 2 ?_
  refine rend ?_
  refine c_or (decide (v5_2 < 0)) (fun q2 => ?_) (fun q2 => ?_)
  · replace h := H.t q2 h
    refine c_seq ?_
    refine r_start ?_
    refine p 1 ?_
    refine rend ?_
    replace h := H.done h
    subst h
    exact ret func4 rfl (vs := [.bool true]) (.tmp (by kernel_rfl) .nil) rfl (fun W S => ⟨rfl, S.below⟩)
  replace h := H.f q2 h
  refine c_skip ?_
  refine c_seq ?_
  refine as_start 10 10 ?_
  refine ap 0 1 ?_
  refine aq 2 rfl (y_load (.agg (eSign a1).toArray) 0 g0_0 0) ?_
  obtain ⟨v8_1, hv8_1, h⟩ := H.call h
  refine ax 1 rfl (e_cr [.slice A0 (List.length a0) k0] (fun v => v) func26 (fun W S => C.l_toEntryS W hv8_1 ((s_arg h0).out W S)) fun A8_1 k8_1 => ⟨.inr (by kernel_rfl), ?_⟩)
  obtain ⟨v8_3, hv8_3, h⟩ := H.call h
  refine aq 3 rfl (y_call [.agg (eSign a1).toArray] (.agg (eSign v8_3).toArray) func27 (fun W S => C.l_toSign W hv8_3)) ?_
  obtain ⟨v8_4, hv8_4, h⟩ := H.call h
  refine ax 4 rfl (e_cr [.slice A8_1 (List.length v8_1) k8_1, .agg (eSign v8_3).toArray] (fun v => .tuple #[v, .bool v8_4.2]) func25 (fun W S => C.s_HomonymsOf W hv8_4 ((s_own 1).out W S)) fun A8_4 k8_4 => ⟨.inr (by kernel_rfl), ?_⟩)
  refine ap 5 5 ?_
  refine a_done ?_
  refine c_seq ?_
  refine r_start ?_
  refine p 1 ?_
  obtain ⟨v9_1, hv9_1, h⟩ := H.call h
  refine xx rfl (e_cr [.slice A0 (List.length a0) k0] (fun v => v) func26 (fun W S => C.l_toEntryS W hv9_1 ((s_arg h0).out W S)) fun A9_1 k9_1 => ?_)
  refine p 1 ?_
  refine rend ?_
  refine c_seq ?_
  refine r_start ?_
  refine p 1 ?_
  refine xq rfl (y_load (.agg (eSign a1).toArray) 0 g0_0 0) ?_
  obtain ⟨v10_2, hv10_2, h⟩ := H.call h
  refine xq rfl (y_call [.agg (eSign a1).toArray] (.agg (eSign v10_2).toArray) func27 (fun W S => C.l_toSign W hv10_2)) ?_
  obtain ⟨v10_3, hv10_3, h⟩ := H.call h
  refine xx rfl (e_cr [.slice A9_1 (List.length v9_1) k9_1, .agg (eSign v10_2).toArray] (fun v => .tuple #[v, .bool v10_3.2]) func28 (fun W S => C.i_HomonymsOf W hv10_3 ((s_own 3).out W S)) fun A10_3 k10_3 => ?_)
  refine p 5 ?_
  refine rend ?_
  refine c_seq ?_
  refine c_seq ?_
  refine r_start ?_
  refine p 2 ?_
  obtain ⟨v11_2, hv11_2, h⟩ := H.call h
  refine xq rfl (y_call [.slice A10_3 (List.length v10_3.1) k10_3, .slice A8_4 (List.length v8_4.1) k8_4] (.bool v11_2) func29 (fun W S => C.l_eqStringS W hv11_2 ((s_own 4).out W S) ((s_own 2).out W S))) ?_
  refine p 2 ?_
  refine br (!v11_2) (fun q3 => ?_) (fun q3 => ?_)
  · replace h := H.t q3 h
    refine o_set 47 (congrArg Value.bool q3) ?_
    refine p 4 ?_
    refine rend ?_
    refine c_t (by kernel_rfl) ?_
    refine c_seq ?_
    refine r_start ?_
    refine p 1 ?_
    refine rend ?_
    replace h := H.done h
    subst h
    exact ret func4 rfl (vs := [.bool false]) (.tmp (by kernel_rfl) .nil) rfl (fun W S => ⟨rfl, S.below⟩)
  replace h := H.f q3 h
  refine o_set 47 (congrArg Value.bool q3) ?_
  refine p 4 ?_
  refine rend ?_
  refine c_or (!(v10_3.2 == v8_4.2)) (fun q4 => ?_) (fun q4 => ?_)
  · replace h := H.t q4 h
    refine c_seq ?_
    refine r_start ?_
    refine p 1 ?_
    refine rend ?_
    replace h := H.done h
    subst h
    exact ret func4 rfl (vs := [.bool false]) (.tmp (by kernel_rfl) .nil) rfl (fun W S => ⟨rfl, S.below⟩)
  replace h := H.f q4 h
  refine c_skip ?_
  refine c_seq ?_
  refine c_seq ?_
  refine r_start ?_
  refine p 2 ?_
  obtain ⟨v13_2, hv13_2, h⟩ := H.call h
  refine xx rfl (e_cr [.slice A0 (List.length a0) k0] (fun v => v) func26 (fun W S => C.l_toEntryS W hv13_2 ((s_arg h0).out W S)) fun A13_2 k13_2 => ?_)
  obtain ⟨v13_3, hv13_3, h⟩ := H.call h
  refine xq rfl (y_call [.slice A9_1 (List.length v9_1) k9_1, .slice A13_2 (List.length v13_2) k13_2] (.bool v13_3) func30 (fun W S => C.l_eqEntryS W hv13_3 ((s_own 3).out W S) ((s_own 5).out W S))) ?_
  refine p 1 ?_
  refine rend ?_
  refine c_or (!v13_3) (fun q5 => ?_) (fun q5 => ?_)
  · replace h := H.t q5 h
    refine c_seq ?_
    refine r_start ?_
    refine p 1 ?_
    refine rend ?_
    replace h := H.done h
    subst h
    exact ret func4 rfl (vs := [.bool false]) (.tmp (by kernel_rfl) .nil) rfl (fun W S => ⟨rfl, S.below⟩)
  replace h := H.f q5 h
  refine c_skip ?_
  refine c_seq ?_
  refine r_start ?_
  refine p 1 ?_
  refine rend ?_
  refine c_seq ?_
  refine r_start ?_
  refine p 2 ?_
  obtain ⟨v16_2, hv16_2, h⟩ := H.call h
  refine xx rfl (e_cw (e := nEntry) (l' := v16_2.2) (v := .int .i64 v16_2.1) 3 [.slice A9_1 (List.length v9_1) k9_1, .int .i64 1] func31 (fun W S => C.l_markEntryS W hv16_2 rfl (S.row 3)) fun hl16_2 => ?_)
  refine o_set 8 (sl_len (A := A9_1) (c := k9_1) hl16_2) ?_
  refine p 1 ?_
  refine rend ?_
  refine frg (fun u => (.slice A0 (List.length a0) k0 :: (jk u 1 2 (.pointer (some ⟨g0_0, 0, none⟩) :: (jk u 4 2 (.slice A8_4 (List.length v8_4.1) k8_4 :: .bool v8_4.2 :: (jk u 8 1 (.slice A10_3 (List.length v10_3.1) k10_3 :: .bool v10_3.2 :: .int .i64 v16_2.1 :: (jk u 12 97 []))))))))) (by kernel_rfl) fun u => ?_
  refine keep 6 (its' := [box g0_0 47 (eSign a1), rowT nEntry w.heap.size 128 (.slice A8_1 (List.length v8_1) k8_1) v8_1, rowT eS w.heap.size 9 (.slice A8_4 (List.length v8_4.1) k8_4) v8_4.1, rowT nEntry w.heap.size 128 (.slice A9_1 (List.length v16_2.2) k9_1) v16_2.2, rowT eS w.heap.size 9 (.slice A10_3 (List.length v10_3.1) k10_3) v10_3.1, rowT nEntry w.heap.size 128 (.slice A13_2 (List.length v13_2) k13_2) v13_2]) (by kernel_rfl) ?_
  refine c_seq ?_
  refine c_seq ?_
  refine r_start ?_
  refine p 3 ?_
  refine br (decide (v16_2.1 < 0)) (fun q6 => ?_) (fun q6 => ?_)
  · replace h := H.t q6 h
    refine o_set 62 (congrArg Value.bool q6) ?_
    refine p 10 ?_
    refine rend ?_
    refine c_t (by kernel_rfl) ?_
    refine c_seq ?_
    refine r_start ?_
    refine p 1 ?_
    refine rend ?_
    replace h := H.done h
    subst h
    exact ret func4 rfl (vs := [.bool false]) (.tmp (by kernel_rfl) .nil) rfl (fun W S => ⟨rfl, S.below⟩)
  replace h := H.f q6 h
  refine o_set 62 (congrArg Value.bool q6) ?_
  refine p 2 ?_
  obtain ⟨v17_5, hv17_5, h⟩ := H.call h
  refine xq rfl (y_call [.slice A10_3 (List.length v10_3.1) k10_3, .slice A8_4 (List.length v8_4.1) k8_4] (.bool v17_5) func29 (fun W S => C.l_eqStringS W hv17_5 ((s_own 4).out W S) ((s_own 2).out W S))) ?_
  refine p 3 ?_
  refine br (!v17_5) (fun q7 => ?_) (fun q7 => ?_)
  · replace h := H.t q7 h
    refine o_set 68 (congrArg Value.bool q7) ?_
    refine p 4 ?_
    refine rend ?_
    refine c_t (by kernel_rfl) ?_
    refine c_seq ?_
    refine r_start ?_
    refine p 1 ?_
    refine rend ?_
    replace h := H.done h
    subst h
    exact ret func4 rfl (vs := [.bool false]) (.tmp (by kernel_rfl) .nil) rfl (fun W S => ⟨rfl, S.below⟩)
  replace h := H.f q7 h
  refine o_set 68 (congrArg Value.bool q7) ?_
  refine p 4 ?_
  refine rend ?_
  refine c_no q4 ?_
  refine c_skip ?_
  refine c_seq ?_
  refine r_start ?_
  refine p 1 ?_
  refine rend ?_
  refine c_seq ?_
  refine r_start ?_
  refine p 2 ?_
  obtain ⟨v20_2, hv20_2, h⟩ := H.call h
  refine xx rfl (e_cw (e := eS) (l' := v20_2.2) (v := .int .i64 v20_2.1) 4 [.slice A10_3 (List.length v10_3.1) k10_3, .int .i64 1] func32 (fun W S => C.l_markStringS W hv20_2 rfl (S.row 4)) fun hl20_2 => ?_)
  refine o_set 9 (sl_len (A := A10_3) (c := k10_3) hl20_2) ?_
  refine p 1 ?_
  refine rend ?_
  refine c_seq ?_
  refine r_start ?_
  refine p 1 ?_
  refine rend ?_
  refine c_seq ?_
  refine r_start ?_
  refine p 2 ?_
  obtain ⟨v22_2, hv22_2, h⟩ := H.call h
  refine xq rfl (y_call [.slice A10_3 (List.length v20_2.2) k10_3, .int .i64 1] (.int .i64 v22_2) func33 (fun W S => C.l_heldStringS W hv22_2 ((s_own 4).out W S))) ?_
  refine p 1 ?_
  refine rend ?_
  refine c_seq ?_
  refine c_seq ?_
  refine r_start ?_
  refine p 2 ?_
  refine rend ?_
  refine c_or (decide (v22_2 < 0)) (fun q8 => ?_) (fun q8 => ?_)
  · replace h := H.t q8 h
    refine c_seq ?_
    refine r_start ?_
    refine p 1 ?_
    refine rend ?_
    replace h := H.done h
    subst h
    exact ret func4 rfl (vs := [.bool false]) (.tmp (by kernel_rfl) .nil) rfl (fun W S => ⟨rfl, S.below⟩)
  replace h := H.f q8 h
  refine c_skip ?_
  refine c_seq ?_
  refine c_seq ?_
  refine r_start ?_
  refine p 3 ?_
  refine rend ?_
  refine c_or (v22_2 != v20_2.1) (fun q9 => ?_) (fun q9 => ?_)
  · replace h := H.t q9 h
    refine c_seq ?_
    refine r_start ?_
    refine p 1 ?_
    refine rend ?_
    replace h := H.done h
    subst h
    exact ret func4 rfl (vs := [.bool false]) (.tmp (by kernel_rfl) .nil) rfl (fun W S => ⟨rfl, S.below⟩)
  replace h := H.f q9 h
  refine c_skip ?_
  refine c_seq ?_
  refine as_start 10 10 ?_
  refine ap 0 1 ?_
  refine aq 2 rfl (y_load (.agg (eSign a1).toArray) 0 g0_0 0) ?_
  obtain ⟨v27_1, hv27_1, h⟩ := H.call h
  refine ax 1 rfl (e_cr [.slice A0 (List.length a0) k0] (fun v => v) func26 (fun W S => C.l_toEntryS W hv27_1 ((s_arg h0).out W S)) fun A27_1 k27_1 => ⟨.inr (by kernel_rfl), ?_⟩)
  obtain ⟨v27_3, hv27_3, h⟩ := H.call h
  refine aq 3 rfl (y_call [.agg (eSign a1).toArray] (.agg (eSign v27_3).toArray) func27 (fun W S => C.l_toSign W hv27_3)) ?_
  obtain ⟨v27_4, hv27_4, h⟩ := H.call h
  refine ax 4 rfl (e_cr [.slice A27_1 (List.length v27_1) k27_1, .agg (eSign v27_3).toArray] (fun v => .tuple #[v, .bool v27_4.2]) func28 (fun W S => C.i_HomonymsOf W hv27_4 ((s_own 6).out W S)) fun A27_4 k27_4 => ⟨.inr (by kernel_rfl), ?_⟩)
  refine ap 5 5 ?_
  refine a_done ?_
  refine c_seq ?_
  refine c_seq ?_
  refine r_start ?_
  refine p 2 ?_
  obtain ⟨v28_2, hv28_2, h⟩ := H.call h
  refine xq rfl (y_call [.slice A27_4 (List.length v27_4.1) k27_4, .slice A8_4 (List.length v8_4.1) k8_4] (.bool v28_2) func29 (fun W S => C.l_eqStringS W hv28_2 ((s_own 7).out W S) ((s_own 2).out W S))) ?_
  refine p 2 ?_
  refine br (!v28_2) (fun q10 => ?_) (fun q10 => ?_)
  · replace h := H.t q10 h
    refine o_set 96 (congrArg Value.bool q10) ?_
    refine p 4 ?_
    refine rend ?_
    refine c_t (by kernel_rfl) ?_
    refine c_seq ?_
    refine r_start ?_
    refine p 1 ?_
    refine rend ?_
    replace h := H.done h
    subst h
    exact ret func4 rfl (vs := [.bool false]) (.tmp (by kernel_rfl) .nil) rfl (fun W S => ⟨rfl, S.below⟩)
  replace h := H.f q10 h
  refine o_set 96 (congrArg Value.bool q10) ?_
  refine p 4 ?_
  refine rend ?_
  refine c_or (!(v27_4.2 == v8_4.2)) (fun q11 => ?_) (fun q11 => ?_)
  · replace h := H.t q11 h
    refine c_seq ?_
    refine r_start ?_
    refine p 1 ?_
    refine rend ?_
    replace h := H.done h
    subst h
    exact ret func4 rfl (vs := [.bool false]) (.tmp (by kernel_rfl) .nil) rfl (fun W S => ⟨rfl, S.below⟩)
  replace h := H.f q11 h
  refine c_skip ?_
  refine c_seq ?_
  refine r_start ?_
  refine p 1 ?_
  refine rend ?_
  refine c_seq ?_
  refine r_start ?_
  refine p 2 ?_
  obtain ⟨v31_2, hv31_2, h⟩ := H.call h
  refine xq rfl (y_call [.slice A10_3 (List.length v20_2.2) k10_3, .int .i64 1] (.int .i64 v31_2) func33 (fun W S => C.l_heldStringS W hv31_2 ((s_own 4).out W S))) ?_
  refine p 1 ?_
  refine rend ?_
  refine c_seq ?_
  refine c_seq ?_
  refine r_start ?_
  refine p 2 ?_
  refine rend ?_
  refine c_or (decide (v31_2 < 0)) (fun q12 => ?_) (fun q12 => ?_)
  · replace h := H.t q12 h
    refine c_seq ?_
    refine r_start ?_
    refine p 1 ?_
    refine rend ?_
    refine frg (fun u => (jk u 0 4 (.bool false :: (jk u 5 104 [])))) (by kernel_rfl) fun u => ?_
    refine keep 8 (its' := [box g0_0 47 (eSign a1), rowT nEntry w.heap.size 128 (.slice A8_1 (List.length v8_1) k8_1) v8_1, rowT eS w.heap.size 9 (.slice A8_4 (List.length v8_4.1) k8_4) v8_4.1, rowT nEntry w.heap.size 128 (.slice A9_1 (List.length v16_2.2) k9_1) v16_2.2, rowT eS w.heap.size 9 (.slice A10_3 (List.length v20_2.2) k10_3) v20_2.2, rowT nEntry w.heap.size 128 (.slice A13_2 (List.length v13_2) k13_2) v13_2, rowT nEntry w.heap.size 128 (.slice A27_1 (List.length v27_1) k27_1) v27_1, rowT eS w.heap.size 9 (.slice A27_4 (List.length v27_4.1) k27_4) v27_4.1]) (by kernel_rfl) ?_
    replace h := H.done h
    subst h
    exact ret func4 rfl (vs := [.bool false]) (.tmp (by kernel_rfl) .nil) rfl (fun W S => ⟨rfl, S.below⟩)
  replace h := H.f q12 h
  refine c_skip ?_
  refine c_seq ?_
  refine c_seq ?_
  refine r_start ?_
  refine p 3 ?_
  refine rend ?_
  refine frg (fun u => (jk u 0 108 [.bool (v31_2 != v20_2.1)])) (by kernel_rfl) fun u => ?_
  refine keep 8 (its' := [box g0_0 47 (eSign a1), rowT nEntry w.heap.size 128 (.slice A8_1 (List.length v8_1) k8_1) v8_1, rowT eS w.heap.size 9 (.slice A8_4 (List.length v8_4.1) k8_4) v8_4.1, rowT nEntry w.heap.size 128 (.slice A9_1 (List.length v16_2.2) k9_1) v16_2.2, rowT eS w.heap.size 9 (.slice A10_3 (List.length v20_2.2) k10_3) v20_2.2, rowT nEntry w.heap.size 128 (.slice A13_2 (List.length v13_2) k13_2) v13_2, rowT nEntry w.heap.size 128 (.slice A27_1 (List.length v27_1) k27_1) v27_1, rowT eS w.heap.size 9 (.slice A27_4 (List.length v27_4.1) k27_4) v27_4.1]) (by kernel_rfl) ?_
  refine c_or (v31_2 != v20_2.1) (fun q13 => ?_) (fun q13 => ?_)
  · replace h := H.t q13 h
    refine c_seq ?_
    refine r_start ?_
    refine p 1 ?_
    refine rend ?_
    replace h := H.done h
    subst h
    exact ret func4 rfl (vs := [.bool false]) (.tmp (by kernel_rfl) .nil) rfl (fun W S => ⟨rfl, S.below⟩)
  replace h := H.f q13 h
  refine c_skip ?_
  refine c_seq ?_
  refine r_start ?_
  refine p 1 ?_
  refine rend ?_
  replace h := H.done h
  subst h
  exact ret func4 rfl (vs := [.bool true]) (.tmp (by kernel_rfl) .nil) rfl (fun W S => ⟨rfl, S.below⟩)
end Go.Proofs.XC
