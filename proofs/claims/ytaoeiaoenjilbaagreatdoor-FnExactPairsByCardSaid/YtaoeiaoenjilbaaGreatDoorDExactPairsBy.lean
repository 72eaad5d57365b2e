/- Contracts: each function, called where its plain function gives an answer, returns just that answer and changes nothing that was there. By AI agents; no person has read it. -/
import Derived.Test.YtaoeiaoenjilbaaGreatDoorC1
import Derived.Test.YtaoeiaoenjilbaaGreatDoorE1
import Derived.Test.YtaoeiaoenjilbaaGreatDoorE2
set_option linter.unusedVariables false
set_option linter.unusedSimpArgs false
set_option maxRecDepth 100000
set_option maxHeartbeats 40000000
namespace Go.Proofs.XC
open Go Go.RowKit
open Tryz
theorem C.s_prPart {a0 : Int} {r : Bool} (w : World) (h : X.s_prPart a0 = some r) : Calls prog 69 #[.int .i64 a0] w (Ret w (.bool r)) := by
  refine calls (M := no) (args := [.int .i64 a0]) func69 rfl ?_
  replace h : H (X.s_prPart a0) (fun o => o = r) := H.mk h
  unfold X.s_prPart at h
  refine c_seq ?_
  refine r_start ?_
  refine p 1 ?_
  refine rend ?_
  refine c_seq ?_
  refine r_start ?_
  refine p 1 ?_
  obtain ⟨v1_1, hv1_1, h⟩ := H.call h
  refine xq rfl (y_call [.int .i64 a0, .int .i64 0, .int .i64 4] (.bool v1_1) func81 (fun W S => C.s_l1In W hv1_1)) ?_
  refine p 1 ?_
  refine rend ?_
  replace h := H.done h
  subst h
  exact ret func69 rfl (vs := [.bool v1_1]) (.tmp (by kernel_rfl) .nil) rfl (fun W S => ⟨rfl, S.below⟩)
theorem C.s_PairsBy {fu : Nat} {a0 : (List Sign)} {A0 : Option Addr} {k0 : Nat} {a1 : Int} {r : ((List (List Int)) × Bool)} (w : World) (h : X.s_PairsBy fu a0 a1 = some r) (h0 : RdT nSign w (.slice A0 (List.length a0) k0) a0) : Calls prog 33 #[.slice A0 (List.length a0) k0, .int .i64 a1] w (RetD (eI .i64) 30 3 w r.1 (fun v => .tuple #[v, .bool r.2])) := by
  refine calls (M := no) (args := [.slice A0 (List.length a0) k0, .int .i64 a1]) func33 rfl ?_
  replace h : H (X.s_PairsBy fu a0 a1) (fun o => o = r) := H.mk h
  unfold X.s_PairsBy at h
  refine c_seq ?_
  refine r_start ?_
  refine p 2 ?_
  refine rend ?_
  refine c_seq ?_
  refine c_seq ?_
  refine r_start ?_
  refine p 1 ?_
  obtain ⟨v1_1, hv1_1, h⟩ := H.call h
  refine xq rfl (y_call [.slice A0 (List.length a0) k0] (.bool v1_1) func62 (fun W S => C.s_noList W hv1_1 ((s_arg h0).out W S))) ?_
  refine p 2 ?_
  refine br (!v1_1) (fun q1 => ?_) (fun q1 => ?_)
  · replace h := H.t q1 h
    refine o_set 9 (congrArg Value.bool q1) ?_
    refine p 4 ?_
    refine rend ?_
    refine c_t (by kernel_rfl) ?_
    refine c_seq ?_
    refine r_start ?_
    refine p 2 ?_
    refine rend ?_
    replace h := H.done h
    subst h
    exact ret func33 rfl (vs := [.slice none 0 0, .bool false]) (.tmp (by kernel_rfl) (.tmp (by kernel_rfl) .nil)) rfl (fun W S => ⟨none, 0, [], rfl, World.ownsRow_nil _ _ _ _, Inn.nil _ _ _ _, (fun k hk => by cases hk), (fun k ⟨_, hk, _⟩ => by cases hk), S.below⟩)
  replace h := H.f q1 h
  refine o_set 9 (congrArg Value.bool q1) ?_
  refine p 1 ?_
  obtain ⟨v1_5, hv1_5, h⟩ := H.call h
  refine xq rfl (y_call [.int .i64 a1] (.bool v1_5) func69 (fun W S => C.s_prPart W hv1_5)) ?_
  refine p 2 ?_
  refine rend ?_
  refine c_or (!v1_5) (fun q2 => ?_) (fun q2 => ?_)
  · replace h := H.t q2 h
    refine c_seq ?_
    refine r_start ?_
    refine p 2 ?_
    refine rend ?_
    replace h := H.done h
    subst h
    exact ret func33 rfl (vs := [.slice none 0 0, .bool false]) (.tmp (by kernel_rfl) (.tmp (by kernel_rfl) .nil)) rfl (fun W S => ⟨none, 0, [], rfl, World.ownsRow_nil _ _ _ _, Inn.nil _ _ _ _, (fun k hk => by cases hk), (fun k ⟨_, hk, _⟩ => by cases hk), S.below⟩)
  replace h := H.f q2 h
  refine c_skip ?_
  refine c_seq ?_
  refine r_start ?_
  refine p 2 ?_
  obtain ⟨v3_2, hv3_2, h⟩ := H.call h
  refine xx rfl (e_crd [.slice A0 (List.length a0) k0, .int .i64 a1] (fun v => v) func63 (fun W S => C.s_prPairs W hv3_2 ((s_arg h0).out W S)) fun A3_2 k3_2 u3_2 => ?_)
  refine p 2 ?_
  refine rend ?_
  replace h := H.done h
  subst h
  exact ret func33 rfl (vs := [.slice A3_2 (List.length u3_2) k3_2, .bool true]) (.tmp (by kernel_rfl) (.tmp (by kernel_rfl) .nil)) rfl (fun W S => S.retD (res := fun v => .tuple #[v, .bool true]) 0 1 (by decide))
theorem C.l_FnExactPairsBy {fu : Nat} {a0 : (List Sign)} {A0 : Option Addr} {k0 : Nat} {a1 : Int} {r : Bool} (w : World) (h : X.l_FnExactPairsBy fu a0 a1 = some r) (h0 : RdT nSign w (.slice A0 (List.length a0) k0) a0) : Calls prog 7 #[.slice A0 (List.length a0) k0, .int .i64 a1] w (Ret w (.bool r)) := by
  refine calls (M := no) (args := [.slice A0 (List.length a0) k0, .int .i64 a1]) func7 rfl ?_
  replace h : H (X.l_FnExactPairsBy fu a0 a1) (fun o => o = r) := H.mk h
  unfold X.l_FnExactPairsBy at h
  refine c_seq ?_
  refine r_start ?_
  refine p 1 ?_
  refine rend ?_
  refine c_seq ?_
  refine r_start ?_
  refine p 1 ?_
  refine rend ?_
  refine c_seq ?_
  refine r_start ?_
  refine p 2 ?_
  obtain ⟨v2_2, hv2_2, h⟩ := H.call h
  refine xq rfl (y_call [.slice A0 (List.length a0) k0, .int .i64 1048576] (.int .i64 v2_2) func15 (fun W S => C.l_szSignS W hv2_2 ((s_arg h0).out W S))) ?_
  refine p 1 ?_
  refine rend ?_
  refine c_seq ?_
  refine c_seq ?_
  refine r_start ?_
  refine p 2 ?_
  refine rend ?_
  refine c_or (decide (v2_2 < 0)) (fun q1 => ?_) (fun q1 => ?_)
  · replace h := H.t q1 h
    refine c_seq ?_
    refine r_start ?_
    refine p 1 ?_
    refine rend ?_
    replace h := H.done h
    subst h
    exact ret func7 rfl (vs := [.bool true]) (.tmp (by kernel_rfl) .nil) rfl (fun W S => ⟨rfl, S.below⟩)
  replace h := H.f q1 h
  refine c_skip ?_
  refine c_seq ?_
  refine r_start ?_
  refine p 1 ?_
  obtain ⟨v5_1, hv5_1, h⟩ := H.call h
  refine xx rfl (e_cr [.slice A0 (List.length a0) k0] (fun v => v) func17 (fun W S => C.l_toSignS W hv5_1 ((s_arg h0).out W S)) fun A5_1 k5_1 => ?_)
  refine p 1 ?_
  obtain ⟨v5_3, hv5_3, h⟩ := H.call h
  refine xx rfl (e_crd [.slice A5_1 (List.length v5_1) k5_1, .int .i64 a1] (fun v => .tuple #[v, .bool v5_3.2]) func33 (fun W S => C.s_PairsBy W hv5_3 ((s_own 0).out W S)) fun A5_3 k5_3 u5_3 => ?_)
  refine p 5 ?_
  refine rend ?_
  refine c_seq ?_
  refine r_start ?_
  refine p 1 ?_
  obtain ⟨v6_1, hv6_1, h⟩ := H.call h
  refine xx rfl (e_cr [.slice A0 (List.length a0) k0] (fun v => v) func17 (fun W S => C.l_toSignS W hv6_1 ((s_arg h0).out W S)) fun A6_1 k6_1 => ?_)
  refine p 1 ?_
  refine rend ?_
  refine c_seq ?_
  refine r_start ?_
  refine p 2 ?_
  obtain ⟨v7_2, hv7_2, h⟩ := H.call h
  refine xx rfl (e_crd [.slice A6_1 (List.length v6_1) k6_1, .int .i64 a1] (fun v => .tuple #[v, .bool v7_2.2]) func34 (fun W S => C.i_PairsBy W hv7_2 ((s_own 3).out W S)) fun A7_2 k7_2 u7_2 => ?_)
  refine p 5 ?_
  refine rend ?_
  refine c_seq ?_
  refine c_seq ?_
  refine r_start ?_
  refine p 2 ?_
  obtain ⟨v8_2, hv8_2, h⟩ := H.call h
  refine xq rfl (y_call [.slice A7_2 (List.length u7_2) k7_2, .slice A5_3 (List.length u5_3) k5_3] (.bool v8_2) func30 (fun W S => C.l_eqIntSS W hv8_2 ((s_own 4).out W S) ((i_own 5).out W S) ((s_own 1).out W S) ((i_own 2).out W S))) ?_
  refine p 2 ?_
  refine br (!v8_2) (fun q2 => ?_) (fun q2 => ?_)
  · replace h := H.t q2 h
    refine o_set 40 (congrArg Value.bool q2) ?_
    refine p 4 ?_
    refine rend ?_
    refine c_t (by kernel_rfl) ?_
    refine c_seq ?_
    refine r_start ?_
    refine p 1 ?_
    refine rend ?_
    replace h := H.done h
    subst h
    exact ret func7 rfl (vs := [.bool false]) (.tmp (by kernel_rfl) .nil) rfl (fun W S => ⟨rfl, S.below⟩)
  replace h := H.f q2 h
  refine o_set 40 (congrArg Value.bool q2) ?_
  refine p 4 ?_
  refine rend ?_
  refine c_or (!(v7_2.2 == v5_3.2)) (fun q3 => ?_) (fun q3 => ?_)
  · replace h := H.t q3 h
    refine c_seq ?_
    refine r_start ?_
    refine p 1 ?_
    refine rend ?_
    replace h := H.done h
    subst h
    exact ret func7 rfl (vs := [.bool false]) (.tmp (by kernel_rfl) .nil) rfl (fun W S => ⟨rfl, S.below⟩)
  replace h := H.f q3 h
  refine c_skip ?_
  refine c_seq ?_
  refine c_seq ?_
  refine r_start ?_
  refine p 2 ?_
  obtain ⟨v10_2, hv10_2, h⟩ := H.call h
  refine xx rfl (e_cr [.slice A0 (List.length a0) k0] (fun v => v) func17 (fun W S => C.l_toSignS W hv10_2 ((s_arg h0).out W S)) fun A10_2 k10_2 => ?_)
  obtain ⟨v10_3, hv10_3, h⟩ := H.call h
  refine xq rfl (y_call [.slice A6_1 (List.length v6_1) k6_1, .slice A10_2 (List.length v10_2) k10_2] (.bool v10_3) func19 (fun W S => C.l_eqSignS W hv10_3 ((s_own 3).out W S) ((s_own 6).out W S))) ?_
  refine p 1 ?_
  refine rend ?_
  refine c_or (!v10_3) (fun q4 => ?_) (fun q4 => ?_)
  · replace h := H.t q4 h
    refine c_seq ?_
    refine r_start ?_
    refine p 1 ?_
    refine rend ?_
    replace h := H.done h
    subst h
    exact ret func7 rfl (vs := [.bool false]) (.tmp (by kernel_rfl) .nil) rfl (fun W S => ⟨rfl, S.below⟩)
  replace h := H.f q4 h
  refine c_skip ?_
  refine c_seq ?_
  refine r_start ?_
  refine p 1 ?_
  refine rend ?_
  refine c_seq ?_
  refine r_start ?_
  refine p 2 ?_
  obtain ⟨v13_2, hv13_2, h⟩ := H.call h
  refine xx rfl (e_cw (e := nSign) (l' := v13_2.2) (v := .int .i64 v13_2.1) 3 [.slice A6_1 (List.length v6_1) k6_1, .int .i64 1] func23 (fun W S => C.l_markSignS W hv13_2 rfl (S.row 3)) fun hl13_2 => ?_)
  refine o_set 8 (sl_len (A := A6_1) (c := k6_1) hl13_2) ?_
  refine p 1 ?_
  refine rend ?_
  refine c_seq ?_
  refine c_seq ?_
  refine r_start ?_
  refine p 3 ?_
  refine br (decide (v13_2.1 < 0)) (fun q5 => ?_) (fun q5 => ?_)
  · replace h := H.t q5 h
    refine o_set 55 (congrArg Value.bool q5) ?_
    refine p 10 ?_
    refine rend ?_
    refine frg (fun u => (.slice A0 (List.length a0) k0 :: .int .i64 a1 :: (jk u 2 4 (.slice A5_3 (List.length u5_3) k5_3 :: .bool v5_3.2 :: (jk u 8 1 (.slice A7_2 (List.length u7_2) k7_2 :: (jk u 10 55 (.bool true :: (jk u 66 35 []))))))))) (by kernel_rfl) fun u => ?_
    refine keep 7 (its' := [rowT nSign w.heap.size 85 (.slice A5_1 (List.length v5_1) k5_1) v5_1, rowT eSl w.heap.size 30 (.slice A5_3 (List.length u5_3) k5_3) u5_3, inns (eI .i64) w.heap.size 3 u5_3 v5_3.1, rowT nSign w.heap.size 85 (.slice A6_1 (List.length v13_2.2) k6_1) v13_2.2, rowT eSl w.heap.size 30 (.slice A7_2 (List.length u7_2) k7_2) u7_2, inns (eI .i64) w.heap.size 3 u7_2 v7_2.1, rowT nSign w.heap.size 85 (.slice A10_2 (List.length v10_2) k10_2) v10_2]) (by kernel_rfl) ?_
    refine c_t (by kernel_rfl) ?_
    refine c_seq ?_
    refine r_start ?_
    refine p 1 ?_
    refine rend ?_
    replace h := H.done h
    subst h
    exact ret func7 rfl (vs := [.bool false]) (.tmp (by kernel_rfl) .nil) rfl (fun W S => ⟨rfl, S.below⟩)
  replace h := H.f q5 h
  refine o_set 55 (congrArg Value.bool q5) ?_
  refine p 2 ?_
  obtain ⟨v14_5, hv14_5, h⟩ := H.call h
  refine xq rfl (y_call [.slice A7_2 (List.length u7_2) k7_2, .slice A5_3 (List.length u5_3) k5_3] (.bool v14_5) func30 (fun W S => C.l_eqIntSS W hv14_5 ((s_own 4).out W S) ((i_own 5).out W S) ((s_own 1).out W S) ((i_own 2).out W S))) ?_
  refine p 3 ?_
  refine br (!v14_5) (fun q6 => ?_) (fun q6 => ?_)
  · replace h := H.t q6 h
    refine o_set 61 (congrArg Value.bool q6) ?_
    refine p 4 ?_
    refine rend ?_
    refine frg (fun u => (.slice A0 (List.length a0) k0 :: .int .i64 a1 :: (jk u 2 4 (.slice A5_3 (List.length u5_3) k5_3 :: .bool v5_3.2 :: (jk u 8 1 (.slice A7_2 (List.length u7_2) k7_2 :: (jk u 10 55 (.bool true :: (jk u 66 35 []))))))))) (by kernel_rfl) fun u => ?_
    refine keep 7 (its' := [rowT nSign w.heap.size 85 (.slice A5_1 (List.length v5_1) k5_1) v5_1, rowT eSl w.heap.size 30 (.slice A5_3 (List.length u5_3) k5_3) u5_3, inns (eI .i64) w.heap.size 3 u5_3 v5_3.1, rowT nSign w.heap.size 85 (.slice A6_1 (List.length v13_2.2) k6_1) v13_2.2, rowT eSl w.heap.size 30 (.slice A7_2 (List.length u7_2) k7_2) u7_2, inns (eI .i64) w.heap.size 3 u7_2 v7_2.1, rowT nSign w.heap.size 85 (.slice A10_2 (List.length v10_2) k10_2) v10_2]) (by kernel_rfl) ?_
    refine c_t (by kernel_rfl) ?_
    refine c_seq ?_
    refine r_start ?_
    refine p 1 ?_
    refine rend ?_
    replace h := H.done h
    subst h
    exact ret func7 rfl (vs := [.bool false]) (.tmp (by kernel_rfl) .nil) rfl (fun W S => ⟨rfl, S.below⟩)
  replace h := H.f q6 h
  refine o_set 61 (congrArg Value.bool q6) ?_
  refine p 4 ?_
  refine rend ?_
  refine frg (fun u => (.slice A0 (List.length a0) k0 :: .int .i64 a1 :: (jk u 2 4 (.slice A5_3 (List.length u5_3) k5_3 :: .bool v5_3.2 :: (jk u 8 1 (.slice A7_2 (List.length u7_2) k7_2 :: (jk u 10 55 (.bool (!(v7_2.2 == v5_3.2)) :: (jk u 66 35 []))))))))) (by kernel_rfl) fun u => ?_
  refine keep 7 (its' := [rowT nSign w.heap.size 85 (.slice A5_1 (List.length v5_1) k5_1) v5_1, rowT eSl w.heap.size 30 (.slice A5_3 (List.length u5_3) k5_3) u5_3, inns (eI .i64) w.heap.size 3 u5_3 v5_3.1, rowT nSign w.heap.size 85 (.slice A6_1 (List.length v13_2.2) k6_1) v13_2.2, rowT eSl w.heap.size 30 (.slice A7_2 (List.length u7_2) k7_2) u7_2, inns (eI .i64) w.heap.size 3 u7_2 v7_2.1, rowT nSign w.heap.size 85 (.slice A10_2 (List.length v10_2) k10_2) v10_2]) (by kernel_rfl) ?_
  refine c_no q3 ?_
  refine c_skip ?_
  refine c_seq ?_
  refine r_start ?_
  refine p 1 ?_
  refine rend ?_
  refine c_seq ?_
  refine r_start ?_
  refine p 2 ?_
  obtain ⟨v17_2, hv17_2, h⟩ := H.call h
  refine xx rfl (e_cwd (e := (eI .i64)) (ls' := v17_2.2) (v := .int .i64 v17_2.1) 5 [.slice A7_2 (List.length u7_2) k7_2, .int .i64 1] func31 (fun W S => C.l_markIntSS W hv17_2 ((s_own 4).out W S) (S.inn 5) (S.apD 4 5 (by decide))) ?_)
  refine p 1 ?_
  refine rend ?_
  refine c_seq ?_
  refine r_start ?_
  refine p 1 ?_
  refine rend ?_
  refine c_seq ?_
  refine r_start ?_
  refine p 2 ?_
  obtain ⟨v19_2, hv19_2, h⟩ := H.call h
  refine xq rfl (y_call [.slice A7_2 (List.length u7_2) k7_2, .int .i64 1] (.int .i64 v19_2) func32 (fun W S => C.l_heldIntSS W hv19_2 ((s_own 4).out W S) ((i_own 5).out W S))) ?_
  refine p 1 ?_
  refine rend ?_
  refine c_seq ?_
  refine c_seq ?_
  refine r_start ?_
  refine p 2 ?_
  refine rend ?_
  refine c_or (decide (v19_2 < 0)) (fun q7 => ?_) (fun q7 => ?_)
  · replace h := H.t q7 h
    refine c_seq ?_
    refine r_start ?_
    refine p 1 ?_
    refine rend ?_
    replace h := H.done h
    subst h
    exact ret func7 rfl (vs := [.bool false]) (.tmp (by kernel_rfl) .nil) rfl (fun W S => ⟨rfl, S.below⟩)
  replace h := H.f q7 h
  refine c_skip ?_
  refine c_seq ?_
  refine c_seq ?_
  refine r_start ?_
  refine p 3 ?_
  refine rend ?_
  refine c_or (v19_2 != v17_2.1) (fun q8 => ?_) (fun q8 => ?_)
  · replace h := H.t q8 h
    refine c_seq ?_
    refine r_start ?_
    refine p 1 ?_
    refine rend ?_
    replace h := H.done h
    subst h
    exact ret func7 rfl (vs := [.bool false]) (.tmp (by kernel_rfl) .nil) rfl (fun W S => ⟨rfl, S.below⟩)
  replace h := H.f q8 h
  refine c_skip ?_
  refine c_seq ?_
  refine r_start ?_
  refine p 1 ?_
  obtain ⟨v24_1, hv24_1, h⟩ := H.call h
  refine xx rfl (e_cr [.slice A0 (List.length a0) k0] (fun v => v) func17 (fun W S => C.l_toSignS W hv24_1 ((s_arg h0).out W S)) fun A24_1 k24_1 => ?_)
  refine p 1 ?_
  obtain ⟨v24_3, hv24_3, h⟩ := H.call h
  refine xx rfl (e_crd [.slice A24_1 (List.length v24_1) k24_1, .int .i64 a1] (fun v => .tuple #[v, .bool v24_3.2]) func34 (fun W S => C.i_PairsBy W hv24_3 ((s_own 7).out W S)) fun A24_3 k24_3 u24_3 => ?_)
  refine p 5 ?_
  refine rend ?_
  refine c_seq ?_
  refine c_seq ?_
  refine r_start ?_
  refine p 2 ?_
  obtain ⟨v25_2, hv25_2, h⟩ := H.call h
  refine xq rfl (y_call [.slice A24_3 (List.length u24_3) k24_3, .slice A5_3 (List.length u5_3) k5_3] (.bool v25_2) func30 (fun W S => C.l_eqIntSS W hv25_2 ((s_own 8).out W S) ((i_own 9).out W S) ((s_own 1).out W S) ((i_own 2).out W S))) ?_
  refine p 2 ?_
  refine br (!v25_2) (fun q9 => ?_) (fun q9 => ?_)
  · replace h := H.t q9 h
    refine o_set 88 (congrArg Value.bool q9) ?_
    refine p 4 ?_
    refine rend ?_
    refine c_t (by kernel_rfl) ?_
    refine c_seq ?_
    refine r_start ?_
    refine p 1 ?_
    refine rend ?_
    replace h := H.done h
    subst h
    exact ret func7 rfl (vs := [.bool false]) (.tmp (by kernel_rfl) .nil) rfl (fun W S => ⟨rfl, S.below⟩)
  replace h := H.f q9 h
  refine o_set 88 (congrArg Value.bool q9) ?_
  refine p 4 ?_
  refine rend ?_
  refine c_or (!(v24_3.2 == v5_3.2)) (fun q10 => ?_) (fun q10 => ?_)
  · replace h := H.t q10 h
    refine c_seq ?_
    refine r_start ?_
    refine p 1 ?_
    refine rend ?_
    replace h := H.done h
    subst h
    exact ret func7 rfl (vs := [.bool false]) (.tmp (by kernel_rfl) .nil) rfl (fun W S => ⟨rfl, S.below⟩)
  replace h := H.f q10 h
  refine c_skip ?_
  refine c_seq ?_
  refine r_start ?_
  refine p 1 ?_
  refine rend ?_
  refine c_seq ?_
  refine r_start ?_
  refine p 2 ?_
  obtain ⟨v28_2, hv28_2, h⟩ := H.call h
  refine xq rfl (y_call [.slice A7_2 (List.length u7_2) k7_2, .int .i64 1] (.int .i64 v28_2) func32 (fun W S => C.l_heldIntSS W hv28_2 ((s_own 4).out W S) ((i_own 5).out W S))) ?_
  refine p 1 ?_
  refine rend ?_
  refine c_seq ?_
  refine c_seq ?_
  refine r_start ?_
  refine p 2 ?_
  refine rend ?_
  refine c_or (decide (v28_2 < 0)) (fun q11 => ?_) (fun q11 => ?_)
  · replace h := H.t q11 h
    refine c_seq ?_
    refine r_start ?_
    refine p 1 ?_
    refine rend ?_
    refine frg (fun u => (jk u 0 4 (.bool false :: (jk u 5 96 [])))) (by kernel_rfl) fun u => ?_
    refine keep 10 (its' := [rowT nSign w.heap.size 85 (.slice A5_1 (List.length v5_1) k5_1) v5_1, rowT eSl w.heap.size 30 (.slice A5_3 (List.length u5_3) k5_3) u5_3, inns (eI .i64) w.heap.size 3 u5_3 v5_3.1, rowT nSign w.heap.size 85 (.slice A6_1 (List.length v13_2.2) k6_1) v13_2.2, rowT eSl w.heap.size 30 (.slice A7_2 (List.length u7_2) k7_2) u7_2, inns (eI .i64) w.heap.size 3 u7_2 v17_2.2, rowT nSign w.heap.size 85 (.slice A10_2 (List.length v10_2) k10_2) v10_2, rowT nSign w.heap.size 85 (.slice A24_1 (List.length v24_1) k24_1) v24_1, rowT eSl w.heap.size 30 (.slice A24_3 (List.length u24_3) k24_3) u24_3, inns (eI .i64) w.heap.size 3 u24_3 v24_3.1]) (by kernel_rfl) ?_
    replace h := H.done h
    subst h
    exact ret func7 rfl (vs := [.bool false]) (.tmp (by kernel_rfl) .nil) rfl (fun W S => ⟨rfl, S.below⟩)
  replace h := H.f q11 h
  refine c_skip ?_
  refine c_seq ?_
  refine c_seq ?_
  refine r_start ?_
  refine p 3 ?_
  refine rend ?_
  refine frg (fun u => (jk u 0 100 [.bool (v28_2 != v17_2.1)])) (by kernel_rfl) fun u => ?_
  refine keep 10 (its' := [rowT nSign w.heap.size 85 (.slice A5_1 (List.length v5_1) k5_1) v5_1, rowT eSl w.heap.size 30 (.slice A5_3 (List.length u5_3) k5_3) u5_3, inns (eI .i64) w.heap.size 3 u5_3 v5_3.1, rowT nSign w.heap.size 85 (.slice A6_1 (List.length v13_2.2) k6_1) v13_2.2, rowT eSl w.heap.size 30 (.slice A7_2 (List.length u7_2) k7_2) u7_2, inns (eI .i64) w.heap.size 3 u7_2 v17_2.2, rowT nSign w.heap.size 85 (.slice A10_2 (List.length v10_2) k10_2) v10_2, rowT nSign w.heap.size 85 (.slice A24_1 (List.length v24_1) k24_1) v24_1, rowT eSl w.heap.size 30 (.slice A24_3 (List.length u24_3) k24_3) u24_3, inns (eI .i64) w.heap.size 3 u24_3 v24_3.1]) (by kernel_rfl) ?_
  refine c_or (v28_2 != v17_2.1) (fun q12 => ?_) (fun q12 => ?_)
  · replace h := H.t q12 h
    refine c_seq ?_
    refine r_start ?_
    refine p 1 ?_
    refine rend ?_
    replace h := H.done h
    subst h
    exact ret func7 rfl (vs := [.bool false]) (.tmp (by kernel_rfl) .nil) rfl (fun W S => ⟨rfl, S.below⟩)
  replace h := H.f q12 h
  refine c_skip ?_
  refine c_seq ?_
  refine r_start ?_
  refine p 1 ?_
  refine rend ?_
  replace h := H.done h
  subst h
  exact ret func7 rfl (vs := [.bool true]) (.tmp (by kernel_rfl) .nil) rfl (fun W S => ⟨rfl, S.below⟩)
end Go.Proofs.XC
