/- Contracts: each function, called where its plain function gives an answer, returns just that answer and changes nothing that was there. By AI agents; no person has read it. -/
import Derived.Test.YtaoeiaoenjilbaaGreatDoorC1
import Derived.Test.YtaoeiaoenjilbaaGreatDoorE1
import Derived.Test.YtaoeiaoenjilbaaGreatDoorE2
set_option linter.unusedVariables false
set_option linter.unusedSimpArgs false
set_option maxRecDepth 100000
set_option maxHeartbeats 40000000
namespace Go.Proofs.XC
open Go Go.RowKit
open Tryz
theorem C.s_LoadOf {fu : Nat} {a0 : (List Sign)} {A0 : Option Addr} {k0 : Nat} {r : ((List Int) × Bool)} (w : World) (h : X.s_LoadOf fu a0 = some r) (h0 : RdT nSign w (.slice A0 (List.length a0) k0) a0) : Calls prog 20 #[.slice A0 (List.length a0) k0] w (RetR (eI .i64) 3 w r.1 (fun v => .tuple #[v, .bool r.2])) := by
  refine calls (M := no) (args := [.slice A0 (List.length a0) k0]) func20 rfl ?_
  replace h : H (X.s_LoadOf fu a0) (fun o => o = r) := H.mk h
  unfold X.s_LoadOf at h
  refine c_seq ?_
  refine r_start ?_
  refine p 2 ?_
  refine rend ?_
  refine c_seq ?_
  refine c_seq ?_
  refine r_start ?_
  refine p 1 ?_
  obtain ⟨v1_1, hv1_1, h⟩ := H.call h
  refine xq rfl (y_call [.slice A0 (List.length a0) k0] (.bool v1_1) func62 (fun W S => C.s_noList W hv1_1 ((s_arg h0).out W S))) ?_
  refine p 1 ?_
  refine rend ?_
  refine c_or (!v1_1) (fun q1 => ?_) (fun q1 => ?_)
  · replace h := H.t q1 h
    refine c_seq ?_
    refine r_start ?_
    refine p 2 ?_
    refine rend ?_
    replace h := H.done h
    subst h
    exact ret func20 rfl (vs := [.slice none 0 0, .bool false]) (.tmp (by kernel_rfl) (.tmp (by kernel_rfl) .nil)) rfl (fun W S => ⟨none, 0, rfl, World.ownsRow_nil _ _ _ _, S.below⟩)
  replace h := H.f q1 h
  refine c_skip ?_
  refine c_seq ?_
  refine r_start ?_
  refine p 1 ?_
  refine rend ?_
  refine c_seq ?_
  refine c_seq ?_
  refine r_start ?_
  refine p 1 ?_
  refine rend ?_
  refine c_block ?_
  refine c_nil (eI .i64) 3 ?_
  refine joinH (X := ((List Int) × Option Addr × Nat)) 0 (H.bnd h) (fun ⟨l6, A7, k8⟩ => l6) (fun ⟨l6, A7, k8⟩ => [rowT (eI .i64) w.heap.size 3 (.slice A7 (List.length l6) k8) l6]) (fun ⟨l6, A7, k8⟩ u => (jk u 0 4 (.slice A7 (List.length l6) k8 :: (jk u 5 16 [])))) (fun h hj9 => ?_) ?_
  · skip
    refine loopR (X := (Int × (List Int) × Option Addr × Nat)) (fun ⟨n2, l3, A4, k5⟩ => (n2, l3)) (fun ⟨n2, l3, A4, k5⟩ => [rowT (eI .i64) w.heap.size 3 (.slice A4 (List.length l3) k5) l3]) (fun ⟨n2, l3, A4, k5⟩ u => (.slice A0 (List.length a0) k0 :: (jk u 1 3 (.slice A4 (List.length l3) k5 :: .int .i64 n2 :: (jk u 6 15 []))))) (0, ([] : List Int), none, 0) h (by kernel_rfl) (by kernel_rfl) ?_
    intro x u h
    obtain ⟨n2, l3, A4, k5⟩ := x
    refine c_seq ?_
    refine c_seq ?_
    refine r_start ?_
    refine p 2 ?_
    refine rend ?_
    refine c_or (decide (n2 ≤ 4)) (fun q10 => ?_) (fun q10 => ?_)
    · replace h := H.t q10 h
      refine c_skip ?_
      refine c_seq ?_
      refine c_block ?_
      refine r_start ?_
      refine p 3 ?_
      obtain ⟨v7_3, hv7_3, h⟩ := H.call h
      refine xx rfl (e_crd [.slice A0 (List.length a0) k0, .int .i64 n2] (fun v => v) func63 (fun W S => C.s_prPairs W hv7_3 ((s_arg h0).out W S)) fun A7_3 k7_3 u7_3 => ?_)
      refine p 1 ?_
      refine o_fact (f_len (i_own 2)) fun hl7_4 => ?_
      refine o_set 17 (len_sl hl7_4) ?_
      refine xx rfl (e_lit (e := (eI .i64)) (el := 3) [.int .i64 (List.length v7_3 : Int)] ([(List.length v7_3 : Int)] : List Int) fun A7_5 k7_5 => ?_)
      obtain ⟨y7_6, hy7_6, h⟩ := H.call h
      refine xx rfl (e_app 0 hy7_6 (s_own 3) fun A7_6 k7_6 => ?_)
      refine p 1 ?_
      refine rend ?_
      refine c_inb ?_
      refine r_start ?_
      refine p 3 ?_
      refine rend ?_
      replace h := H.inl h
      exact h ((wr (n2 + 1)), y7_6, A7_6, k7_6) _ _ rfl (by kernel_rfl) (by kernel_rfl)
    replace h := H.f q10 h
    refine cx ?_
    replace h := H.inr h
    exact hj9 (l3, A4, k5) _ _ h (by kernel_rfl) (by kernel_rfl)
  intro x u h
  obtain ⟨l6, A7, k8⟩ := x
  refine c_seq ?_
  refine r_start ?_
  refine p 3 ?_
  refine rend ?_
  replace h := H.done h
  subst h
  exact ret func20 rfl (vs := [.slice A7 (List.length l6) k8, .bool true]) (.tmp (by kernel_rfl) (.tmp (by kernel_rfl) .nil)) rfl (fun W S => ⟨_, _, rfl, S.row 0, S.below⟩)
theorem C.i_LoadOf {fu : Nat} {a0 : (List Sign)} {A0 : Option Addr} {k0 : Nat} {r : ((List Int) × Bool)} (w : World) (h : X.i_LoadOf fu a0 = some r) (h0 : RdT nSign w (.slice A0 (List.length a0) k0) a0) : Calls prog 21 #[.slice A0 (List.length a0) k0] w (RetR (eI .i64) 3 w r.1 (fun v => .tuple #[v, .bool r.2])) := by
  refine calls (M := no) (args := [.slice A0 (List.length a0) k0]) func21 rfl ?_
  replace h : H (X.i_LoadOf fu a0) (fun o => o = r) := H.mk h
  unfold X.i_LoadOf at h
  refine c_seq ?_
  refine r_start ?_
  refine p 2 ?_
  refine rend ?_
  refine c_seq ?_
  refine c_seq ?_
  refine r_start ?_
  refine p 1 ?_
  obtain ⟨v1_1, hv1_1, h⟩ := H.call h
  refine xq rfl (y_call [.slice A0 (List.length a0) k0, .int .i64 16] (.bool v1_1) func64 (fun W S => C.i_areSigns W hv1_1 ((s_arg h0).out W S))) ?_
  refine p 1 ?_
  refine rend ?_
  refine c_or (!v1_1) (fun q1 => ?_) (fun q1 => ?_)
  · replace h := H.t q1 h
    refine c_seq ?_
    refine r_start ?_
    refine p 2 ?_
    refine rend ?_
    replace h := H.done h
    subst h
    exact ret func21 rfl (vs := [.slice none 0 0, .bool false]) (.tmp (by kernel_rfl) (.tmp (by kernel_rfl) .nil)) rfl (fun W S => ⟨none, 0, rfl, World.ownsRow_nil _ _ _ _, S.below⟩)
  replace h := H.f q1 h
  refine c_skip ?_
  refine c_seq ?_
  refine r_start ?_
  refine p 1 ?_
  refine rend ?_
  refine c_seq ?_
  refine c_seq ?_
  refine r_start ?_
  refine p 1 ?_
  refine rend ?_
  refine c_block ?_
  refine c_nil (eI .i64) 3 ?_
  refine joinH (X := ((List Int) × Option Addr × Nat)) 0 (H.bnd h) (fun ⟨l6, A7, k8⟩ => l6) (fun ⟨l6, A7, k8⟩ => [rowT (eI .i64) w.heap.size 3 (.slice A7 (List.length l6) k8) l6]) (fun ⟨l6, A7, k8⟩ u => (jk u 0 4 (.slice A7 (List.length l6) k8 :: (jk u 5 22 [])))) (fun h hj9 => ?_) ?_
  · skip
    refine loopR (X := (Int × (List Int) × Option Addr × Nat)) (fun ⟨n2, l3, A4, k5⟩ => (n2, l3)) (fun ⟨n2, l3, A4, k5⟩ => [rowT (eI .i64) w.heap.size 3 (.slice A4 (List.length l3) k5) l3]) (fun ⟨n2, l3, A4, k5⟩ u => (.slice A0 (List.length a0) k0 :: (jk u 1 3 (.slice A4 (List.length l3) k5 :: .int .i64 n2 :: (jk u 6 21 []))))) (0, ([] : List Int), none, 0) h (by kernel_rfl) (by kernel_rfl) ?_
    intro x u h
    obtain ⟨n2, l3, A4, k5⟩ := x
    refine c_seq ?_
    refine c_seq ?_
    refine r_start ?_
    refine p 2 ?_
    refine rend ?_
    refine c_or (decide (n2 ≤ 4)) (fun q10 => ?_) (fun q10 => ?_)
    · replace h := H.t q10 h
      refine c_skip ?_
      refine c_seq ?_
      refine c_block ?_
      refine c_seq ?_
      refine r_start ?_
      refine p 2 ?_
      obtain ⟨v7_2, hv7_2, h⟩ := H.call h
      refine xx rfl (e_crd [.slice A0 (List.length a0) k0, .int .i64 n2] (fun v => .tuple #[v, .bool v7_2.2]) func34 (fun W S => C.i_PairsBy W hv7_2 ((s_arg h0).out W S)) fun A7_2 k7_2 u7_2 => ?_)
      refine p 5 ?_
      refine rend ?_
      refine r_start ?_
      refine p 2 ?_
      refine p 1 ?_
      refine o_fact (f_len (i_own 2)) fun hl8_2 => ?_
      refine o_set 23 (len_sl hl8_2) ?_
      refine xx rfl (e_lit (e := (eI .i64)) (el := 3) [.int .i64 (List.length v7_2.1 : Int)] ([(List.length v7_2.1 : Int)] : List Int) fun A8_3 k8_3 => ?_)
      obtain ⟨y8_4, hy8_4, h⟩ := H.call h
      refine xx rfl (e_app 0 hy8_4 (s_own 3) fun A8_4 k8_4 => ?_)
      refine p 1 ?_
      refine rend ?_
      refine c_inb ?_
      refine r_start ?_
      refine p 3 ?_
      refine rend ?_
      replace h := H.inl h
      exact h ((wr (n2 + 1)), y8_4, A8_4, k8_4) _ _ rfl (by kernel_rfl) (by kernel_rfl)
    replace h := H.f q10 h
    refine cx ?_
    replace h := H.inr h
    exact hj9 (l3, A4, k5) _ _ h (by kernel_rfl) (by kernel_rfl)
  intro x u h
  obtain ⟨l6, A7, k8⟩ := x
  refine c_seq ?_
  refine r_start ?_
  refine p 3 ?_
  refine rend ?_
  replace h := H.done h
  subst h
  exact ret func21 rfl (vs := [.slice A7 (List.length l6) k8, .bool true]) (.tmp (by kernel_rfl) (.tmp (by kernel_rfl) .nil)) rfl (fun W S => ⟨_, _, rfl, S.row 0, S.below⟩)
theorem C.l_FnExactLoadOf {fu : Nat} {a0 : (List Sign)} {A0 : Option Addr} {k0 : Nat} {r : Bool} (w : World) (h : X.l_FnExactLoadOf fu a0 = some r) (h0 : RdT nSign w (.slice A0 (List.length a0) k0) a0) : Calls prog 4 #[.slice A0 (List.length a0) k0] w (Ret w (.bool r)) := by
  refine calls (M := no) (args := [.slice A0 (List.length a0) k0]) func4 rfl ?_
  replace h : H (X.l_FnExactLoadOf fu a0) (fun o => o = r) := H.mk h
  unfold X.l_FnExactLoadOf at h
  refine c_seq ?_
  refine r_start ?_
  refine p 1 ?_
  refine rend ?_
  refine c_seq ?_
  refine r_start ?_
  refine p 1 ?_
  refine rend ?_
  refine c_seq ?_
  refine r_start ?_
  refine p 2 ?_
  obtain ⟨v2_2, hv2_2, h⟩ := H.call h
  refine xq rfl (y_call [.slice A0 (List.length a0) k0, .int .i64 1048576] (.int .i64 v2_2) func15 (fun W S => C.l_szSignS W hv2_2 ((s_arg h0).out W S))) ?_
  refine p 1 ?_
  refine rend ?_
  refine c_seq ?_
  refine c_seq ?_
  refine r_start ?_
  refine p 2 ?_
  refine rend ?_
  refine c_or (decide (v2_2 < 0)) (fun q1 => ?_) (fun q1 => ?_)
  · replace h := H.t q1 h
    refine c_seq ?_
    refine r_start ?_
    refine p 1 ?_
    refine rend ?_
    replace h := H.done h
    subst h
    exact ret func4 rfl (vs := [.bool true]) (.tmp (by kernel_rfl) .nil) rfl (fun W S => ⟨rfl, S.below⟩)
  replace h := H.f q1 h
  refine c_skip ?_
  refine c_seq ?_
  refine r_start ?_
  refine p 1 ?_
  obtain ⟨v5_1, hv5_1, h⟩ := H.call h
  refine xx rfl (e_cr [.slice A0 (List.length a0) k0] (fun v => v) func17 (fun W S => C.l_toSignS W hv5_1 ((s_arg h0).out W S)) fun A5_1 k5_1 => ?_)
  obtain ⟨v5_2, hv5_2, h⟩ := H.call h
  refine xx rfl (e_cr [.slice A5_1 (List.length v5_1) k5_1] (fun v => .tuple #[v, .bool v5_2.2]) func20 (fun W S => C.s_LoadOf W hv5_2 ((s_own 0).out W S)) fun A5_2 k5_2 => ?_)
  refine p 5 ?_
  refine rend ?_
  refine c_seq ?_
  refine r_start ?_
  refine p 1 ?_
  obtain ⟨v6_1, hv6_1, h⟩ := H.call h
  refine xx rfl (e_cr [.slice A0 (List.length a0) k0] (fun v => v) func17 (fun W S => C.l_toSignS W hv6_1 ((s_arg h0).out W S)) fun A6_1 k6_1 => ?_)
  refine p 1 ?_
  refine rend ?_
  refine c_seq ?_
  refine r_start ?_
  refine p 1 ?_
  obtain ⟨v7_1, hv7_1, h⟩ := H.call h
  refine xx rfl (e_cr [.slice A6_1 (List.length v6_1) k6_1] (fun v => .tuple #[v, .bool v7_1.2]) func21 (fun W S => C.i_LoadOf W hv7_1 ((s_own 2).out W S)) fun A7_1 k7_1 => ?_)
  refine p 5 ?_
  refine rend ?_
  refine c_seq ?_
  refine c_seq ?_
  refine r_start ?_
  refine p 2 ?_
  obtain ⟨v8_2, hv8_2, h⟩ := H.call h
  refine xq rfl (y_call [.slice A7_1 (List.length v7_1.1) k7_1, .slice A5_2 (List.length v5_2.1) k5_2] (.bool v8_2) func22 (fun W S => C.l_eqIntS W hv8_2 ((s_own 3).out W S) ((s_own 1).out W S))) ?_
  refine p 2 ?_
  refine br (!v8_2) (fun q2 => ?_) (fun q2 => ?_)
  · replace h := H.t q2 h
    refine o_set 36 (congrArg Value.bool q2) ?_
    refine p 4 ?_
    refine rend ?_
    refine c_t (by kernel_rfl) ?_
    refine c_seq ?_
    refine r_start ?_
    refine p 1 ?_
    refine rend ?_
    replace h := H.done h
    subst h
    exact ret func4 rfl (vs := [.bool false]) (.tmp (by kernel_rfl) .nil) rfl (fun W S => ⟨rfl, S.below⟩)
  replace h := H.f q2 h
  refine o_set 36 (congrArg Value.bool q2) ?_
  refine p 4 ?_
  refine rend ?_
  refine c_or (!(v7_1.2 == v5_2.2)) (fun q3 => ?_) (fun q3 => ?_)
  · replace h := H.t q3 h
    refine c_seq ?_
    refine r_start ?_
    refine p 1 ?_
    refine rend ?_
    replace h := H.done h
    subst h
    exact ret func4 rfl (vs := [.bool false]) (.tmp (by kernel_rfl) .nil) rfl (fun W S => ⟨rfl, S.below⟩)
  replace h := H.f q3 h
  refine c_skip ?_
  refine c_seq ?_
  refine c_seq ?_
  refine r_start ?_
  refine p 2 ?_
  obtain ⟨v10_2, hv10_2, h⟩ := H.call h
  refine xx rfl (e_cr [.slice A0 (List.length a0) k0] (fun v => v) func17 (fun W S => C.l_toSignS W hv10_2 ((s_arg h0).out W S)) fun A10_2 k10_2 => ?_)
  obtain ⟨v10_3, hv10_3, h⟩ := H.call h
  refine xq rfl (y_call [.slice A6_1 (List.length v6_1) k6_1, .slice A10_2 (List.length v10_2) k10_2] (.bool v10_3) func19 (fun W S => C.l_eqSignS W hv10_3 ((s_own 2).out W S) ((s_own 4).out W S))) ?_
  refine p 1 ?_
  refine rend ?_
  refine c_or (!v10_3) (fun q4 => ?_) (fun q4 => ?_)
  · replace h := H.t q4 h
    refine c_seq ?_
    refine r_start ?_
    refine p 1 ?_
    refine rend ?_
    replace h := H.done h
    subst h
    exact ret func4 rfl (vs := [.bool false]) (.tmp (by kernel_rfl) .nil) rfl (fun W S => ⟨rfl, S.below⟩)
  replace h := H.f q4 h
  refine c_skip ?_
  refine c_seq ?_
  refine r_start ?_
  refine p 1 ?_
  refine rend ?_
  refine c_seq ?_
  refine r_start ?_
  refine p 2 ?_
  obtain ⟨v13_2, hv13_2, h⟩ := H.call h
  refine xx rfl (e_cw (e := nSign) (l' := v13_2.2) (v := .int .i64 v13_2.1) 2 [.slice A6_1 (List.length v6_1) k6_1, .int .i64 1] func23 (fun W S => C.l_markSignS W hv13_2 rfl (S.row 2)) fun hl13_2 => ?_)
  refine o_set 6 (sl_len (A := A6_1) (c := k6_1) hl13_2) ?_
  refine p 1 ?_
  refine rend ?_
  refine c_seq ?_
  refine c_seq ?_
  refine r_start ?_
  refine p 3 ?_
  refine br (decide (v13_2.1 < 0)) (fun q5 => ?_) (fun q5 => ?_)
  · replace h := H.t q5 h
    refine o_set 51 (congrArg Value.bool q5) ?_
    refine p 10 ?_
    refine rend ?_
    refine frg (fun u => (.slice A0 (List.length a0) k0 :: (jk u 1 3 (.slice A5_2 (List.length v5_2.1) k5_2 :: .bool v5_2.2 :: (jk u 6 1 (.slice A7_1 (List.length v7_1.1) k7_1 :: (jk u 8 53 (.bool true :: (jk u 62 34 []))))))))) (by kernel_rfl) fun u => ?_
    refine keep 5 (its' := [rowT nSign w.heap.size 85 (.slice A5_1 (List.length v5_1) k5_1) v5_1, rowT (eI .i64) w.heap.size 3 (.slice A5_2 (List.length v5_2.1) k5_2) v5_2.1, rowT nSign w.heap.size 85 (.slice A6_1 (List.length v13_2.2) k6_1) v13_2.2, rowT (eI .i64) w.heap.size 3 (.slice A7_1 (List.length v7_1.1) k7_1) v7_1.1, rowT nSign w.heap.size 85 (.slice A10_2 (List.length v10_2) k10_2) v10_2]) (by kernel_rfl) ?_
    refine c_t (by kernel_rfl) ?_
    refine c_seq ?_
    refine r_start ?_
    refine p 1 ?_
    refine rend ?_
    replace h := H.done h
    subst h
    exact ret func4 rfl (vs := [.bool false]) (.tmp (by kernel_rfl) .nil) rfl (fun W S => ⟨rfl, S.below⟩)
  replace h := H.f q5 h
  refine o_set 51 (congrArg Value.bool q5) ?_
  refine p 2 ?_
  obtain ⟨v14_5, hv14_5, h⟩ := H.call h
  refine xq rfl (y_call [.slice A7_1 (List.length v7_1.1) k7_1, .slice A5_2 (List.length v5_2.1) k5_2] (.bool v14_5) func22 (fun W S => C.l_eqIntS W hv14_5 ((s_own 3).out W S) ((s_own 1).out W S))) ?_
  refine p 3 ?_
  refine br (!v14_5) (fun q6 => ?_) (fun q6 => ?_)
  · replace h := H.t q6 h
    refine o_set 57 (congrArg Value.bool q6) ?_
    refine p 4 ?_
    refine rend ?_
    refine frg (fun u => (.slice A0 (List.length a0) k0 :: (jk u 1 3 (.slice A5_2 (List.length v5_2.1) k5_2 :: .bool v5_2.2 :: (jk u 6 1 (.slice A7_1 (List.length v7_1.1) k7_1 :: (jk u 8 53 (.bool true :: (jk u 62 34 []))))))))) (by kernel_rfl) fun u => ?_
    refine keep 5 (its' := [rowT nSign w.heap.size 85 (.slice A5_1 (List.length v5_1) k5_1) v5_1, rowT (eI .i64) w.heap.size 3 (.slice A5_2 (List.length v5_2.1) k5_2) v5_2.1, rowT nSign w.heap.size 85 (.slice A6_1 (List.length v13_2.2) k6_1) v13_2.2, rowT (eI .i64) w.heap.size 3 (.slice A7_1 (List.length v7_1.1) k7_1) v7_1.1, rowT nSign w.heap.size 85 (.slice A10_2 (List.length v10_2) k10_2) v10_2]) (by kernel_rfl) ?_
    refine c_t (by kernel_rfl) ?_
    refine c_seq ?_
    refine r_start ?_
    refine p 1 ?_
    refine rend ?_
    replace h := H.done h
    subst h
    exact ret func4 rfl (vs := [.bool false]) (.tmp (by kernel_rfl) .nil) rfl (fun W S => ⟨rfl, S.below⟩)
  replace h := H.f q6 h
  refine o_set 57 (congrArg Value.bool q6) ?_
  refine p 4 ?_
  refine rend ?_
  refine frg (fun u => (.slice A0 (List.length a0) k0 :: (jk u 1 3 (.slice A5_2 (List.length v5_2.1) k5_2 :: .bool v5_2.2 :: (jk u 6 1 (.slice A7_1 (List.length v7_1.1) k7_1 :: (jk u 8 53 (.bool (!(v7_1.2 == v5_2.2)) :: (jk u 62 34 []))))))))) (by kernel_rfl) fun u => ?_
  refine keep 5 (its' := [rowT nSign w.heap.size 85 (.slice A5_1 (List.length v5_1) k5_1) v5_1, rowT (eI .i64) w.heap.size 3 (.slice A5_2 (List.length v5_2.1) k5_2) v5_2.1, rowT nSign w.heap.size 85 (.slice A6_1 (List.length v13_2.2) k6_1) v13_2.2, rowT (eI .i64) w.heap.size 3 (.slice A7_1 (List.length v7_1.1) k7_1) v7_1.1, rowT nSign w.heap.size 85 (.slice A10_2 (List.length v10_2) k10_2) v10_2]) (by kernel_rfl) ?_
  refine c_no q3 ?_
  refine c_skip ?_
  refine c_seq ?_
  refine r_start ?_
  refine p 1 ?_
  refine rend ?_
  refine c_seq ?_
  refine r_start ?_
  refine p 2 ?_
  obtain ⟨v17_2, hv17_2, h⟩ := H.call h
  refine xx rfl (e_cw (e := (eI .i64)) (l' := v17_2.2) (v := .int .i64 v17_2.1) 3 [.slice A7_1 (List.length v7_1.1) k7_1, .int .i64 1] func24 (fun W S => C.l_markIntS W hv17_2 rfl (S.row 3)) fun hl17_2 => ?_)
  refine o_set 7 (sl_len (A := A7_1) (c := k7_1) hl17_2) ?_
  refine p 1 ?_
  refine rend ?_
  refine c_seq ?_
  refine r_start ?_
  refine p 1 ?_
  refine rend ?_
  refine c_seq ?_
  refine r_start ?_
  refine p 2 ?_
  obtain ⟨v19_2, hv19_2, h⟩ := H.call h
  refine xq rfl (y_call [.slice A7_1 (List.length v17_2.2) k7_1, .int .i64 1] (.int .i64 v19_2) func25 (fun W S => C.l_heldIntS W hv19_2 ((s_own 3).out W S))) ?_
  refine p 1 ?_
  refine rend ?_
  refine c_seq ?_
  refine c_seq ?_
  refine r_start ?_
  refine p 2 ?_
  refine rend ?_
  refine c_or (decide (v19_2 < 0)) (fun q7 => ?_) (fun q7 => ?_)
  · replace h := H.t q7 h
    refine c_seq ?_
    refine r_start ?_
    refine p 1 ?_
    refine rend ?_
    replace h := H.done h
    subst h
    exact ret func4 rfl (vs := [.bool false]) (.tmp (by kernel_rfl) .nil) rfl (fun W S => ⟨rfl, S.below⟩)
  replace h := H.f q7 h
  refine c_skip ?_
  refine c_seq ?_
  refine c_seq ?_
  refine r_start ?_
  refine p 3 ?_
  refine rend ?_
  refine c_or (v19_2 != v17_2.1) (fun q8 => ?_) (fun q8 => ?_)
  · replace h := H.t q8 h
    refine c_seq ?_
    refine r_start ?_
    refine p 1 ?_
    refine rend ?_
    replace h := H.done h
    subst h
    exact ret func4 rfl (vs := [.bool false]) (.tmp (by kernel_rfl) .nil) rfl (fun W S => ⟨rfl, S.below⟩)
  replace h := H.f q8 h
  refine c_skip ?_
  refine c_seq ?_
  refine r_start ?_
  refine p 1 ?_
  obtain ⟨v24_1, hv24_1, h⟩ := H.call h
  refine xx rfl (e_cr [.slice A0 (List.length a0) k0] (fun v => v) func17 (fun W S => C.l_toSignS W hv24_1 ((s_arg h0).out W S)) fun A24_1 k24_1 => ?_)
  obtain ⟨v24_2, hv24_2, h⟩ := H.call h
  refine xx rfl (e_cr [.slice A24_1 (List.length v24_1) k24_1] (fun v => .tuple #[v, .bool v24_2.2]) func21 (fun W S => C.i_LoadOf W hv24_2 ((s_own 5).out W S)) fun A24_2 k24_2 => ?_)
  refine p 5 ?_
  refine rend ?_
  refine c_seq ?_
  refine c_seq ?_
  refine r_start ?_
  refine p 2 ?_
  obtain ⟨v25_2, hv25_2, h⟩ := H.call h
  refine xq rfl (y_call [.slice A24_2 (List.length v24_2.1) k24_2, .slice A5_2 (List.length v5_2.1) k5_2] (.bool v25_2) func22 (fun W S => C.l_eqIntS W hv25_2 ((s_own 6).out W S) ((s_own 1).out W S))) ?_
  refine p 2 ?_
  refine br (!v25_2) (fun q9 => ?_) (fun q9 => ?_)
  · replace h := H.t q9 h
    refine o_set 83 (congrArg Value.bool q9) ?_
    refine p 4 ?_
    refine rend ?_
    refine c_t (by kernel_rfl) ?_
    refine c_seq ?_
    refine r_start ?_
    refine p 1 ?_
    refine rend ?_
    replace h := H.done h
    subst h
    exact ret func4 rfl (vs := [.bool false]) (.tmp (by kernel_rfl) .nil) rfl (fun W S => ⟨rfl, S.below⟩)
  replace h := H.f q9 h
  refine o_set 83 (congrArg Value.bool q9) ?_
  refine p 4 ?_
  refine rend ?_
  refine c_or (!(v24_2.2 == v5_2.2)) (fun q10 => ?_) (fun q10 => ?_)
  · replace h := H.t q10 h
    refine c_seq ?_
    refine r_start ?_
    refine p 1 ?_
    refine rend ?_
    replace h := H.done h
    subst h
    exact ret func4 rfl (vs := [.bool false]) (.tmp (by kernel_rfl) .nil) rfl (fun W S => ⟨rfl, S.below⟩)
  replace h := H.f q10 h
  refine c_skip ?_
  refine c_seq ?_
  refine r_start ?_
  refine p 1 ?_
  refine rend ?_
  refine c_seq ?_
  refine r_start ?_
  refine p 2 ?_
  obtain ⟨v28_2, hv28_2, h⟩ := H.call h
  refine xq rfl (y_call [.slice A7_1 (List.length v17_2.2) k7_1, .int .i64 1] (.int .i64 v28_2) func25 (fun W S => C.l_heldIntS W hv28_2 ((s_own 3).out W S))) ?_
  refine p 1 ?_
  refine rend ?_
  refine c_seq ?_
  refine c_seq ?_
  refine r_start ?_
  refine p 2 ?_
  refine rend ?_
  refine c_or (decide (v28_2 < 0)) (fun q11 => ?_) (fun q11 => ?_)
  · replace h := H.t q11 h
    refine c_seq ?_
    refine r_start ?_
    refine p 1 ?_
    refine rend ?_
    refine frg (fun u => (jk u 0 2 (.bool false :: (jk u 3 93 [])))) (by kernel_rfl) fun u => ?_
    refine keep 7 (its' := [rowT nSign w.heap.size 85 (.slice A5_1 (List.length v5_1) k5_1) v5_1, rowT (eI .i64) w.heap.size 3 (.slice A5_2 (List.length v5_2.1) k5_2) v5_2.1, rowT nSign w.heap.size 85 (.slice A6_1 (List.length v13_2.2) k6_1) v13_2.2, rowT (eI .i64) w.heap.size 3 (.slice A7_1 (List.length v17_2.2) k7_1) v17_2.2, rowT nSign w.heap.size 85 (.slice A10_2 (List.length v10_2) k10_2) v10_2, rowT nSign w.heap.size 85 (.slice A24_1 (List.length v24_1) k24_1) v24_1, rowT (eI .i64) w.heap.size 3 (.slice A24_2 (List.length v24_2.1) k24_2) v24_2.1]) (by kernel_rfl) ?_
    replace h := H.done h
    subst h
    exact ret func4 rfl (vs := [.bool false]) (.tmp (by kernel_rfl) .nil) rfl (fun W S => ⟨rfl, S.below⟩)
  replace h := H.f q11 h
  refine c_skip ?_
  refine c_seq ?_
  refine c_seq ?_
  refine r_start ?_
  refine p 3 ?_
  refine rend ?_
  refine frg (fun u => (jk u 0 95 [.bool (v28_2 != v17_2.1)])) (by kernel_rfl) fun u => ?_
  refine keep 7 (its' := [rowT nSign w.heap.size 85 (.slice A5_1 (List.length v5_1) k5_1) v5_1, rowT (eI .i64) w.heap.size 3 (.slice A5_2 (List.length v5_2.1) k5_2) v5_2.1, rowT nSign w.heap.size 85 (.slice A6_1 (List.length v13_2.2) k6_1) v13_2.2, rowT (eI .i64) w.heap.size 3 (.slice A7_1 (List.length v17_2.2) k7_1) v17_2.2, rowT nSign w.heap.size 85 (.slice A10_2 (List.length v10_2) k10_2) v10_2, rowT nSign w.heap.size 85 (.slice A24_1 (List.length v24_1) k24_1) v24_1, rowT (eI .i64) w.heap.size 3 (.slice A24_2 (List.length v24_2.1) k24_2) v24_2.1]) (by kernel_rfl) ?_
  refine c_or (v28_2 != v17_2.1) (fun q12 => ?_) (fun q12 => ?_)
  · replace h := H.t q12 h
    refine c_seq ?_
    refine r_start ?_
    refine p 1 ?_
    refine rend ?_
    replace h := H.done h
    subst h
    exact ret func4 rfl (vs := [.bool false]) (.tmp (by kernel_rfl) .nil) rfl (fun W S => ⟨rfl, S.below⟩)
  replace h := H.f q12 h
  refine c_skip ?_
  refine c_seq ?_
  refine r_start ?_
  refine p 1 ?_
  refine rend ?_
  replace h := H.done h
  subst h
  exact ret func4 rfl (vs := [.bool true]) (.tmp (by kernel_rfl) .nil) rfl (fun W S => ⟨rfl, S.below⟩)
end Go.Proofs.XC
