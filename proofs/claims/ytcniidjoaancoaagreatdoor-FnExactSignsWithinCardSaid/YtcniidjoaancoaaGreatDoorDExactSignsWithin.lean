/- Contracts: each function, called where its plain function gives an answer, returns just that answer and changes nothing that was there. By AI agents; no person has read it. -/
import Derived.Test.YtcniidjoaancoaaGreatDoorC1
import Derived.Test.YtcniidjoaancoaaGreatDoorE1
import Derived.Test.YtcniidjoaancoaaGreatDoorE2
set_option linter.unusedVariables false
set_option linter.unusedSimpArgs false
set_option maxRecDepth 100000
set_option maxHeartbeats 40000000
namespace Go.Proofs.XC
open Go Go.RowKit
open Tryz
theorem C.s_SignsWithin {fu : Nat} {a0 : (List Sign)} {A0 : Option Addr} {k0 : Nat} {a1 : Sign} {a2 : Int} {r : ((List Int) × Bool)} (w : World) (h : X.s_SignsWithin fu a0 a1 a2 = some r) (h0 : RdT nSign w (.slice A0 (List.length a0) k0) a0) : Calls prog 50 #[.slice A0 (List.length a0) k0, .agg (eSign a1).toArray, .int .i64 a2] w (RetR (eI .i64) 3 w r.1 (fun v => .tuple #[v, .bool r.2])) := by
  refine calls (M := no) (args := [.slice A0 (List.length a0) k0, .agg (eSign a1).toArray, .int .i64 a2]) func50 rfl ?_
  replace h : H (X.s_SignsWithin fu a0 a1 a2) (fun o => o = r) := H.mk h
  unfold X.s_SignsWithin at h
  refine c_seq ?_
  refine r_start ?_
  refine xx rfl (x_box (eSign a1) fun g0_0 => ?_)
  refine p 2 ?_
  refine rend ?_
  refine c_seq ?_
  refine c_seq ?_
  refine r_start ?_
  refine p 1 ?_
  obtain ⟨v1_1, hv1_1, h⟩ := H.call h
  refine xq rfl (y_call [.slice A0 (List.length a0) k0] (.bool v1_1) func66 (fun W S => C.s_paList W hv1_1 ((s_arg h0).out W S))) ?_
  refine p 2 ?_
  refine br (!v1_1) (fun q1 => ?_) (fun q1 => ?_)
  · replace h := H.t q1 h
    refine o_set 14 (congrArg Value.bool q1) ?_
    refine p 9 ?_
    refine rend ?_
    refine c_t (by kernel_rfl) ?_
    refine c_seq ?_
    refine r_start ?_
    refine p 2 ?_
    refine rend ?_
    replace h := H.done h
    subst h
    exact ret func50 rfl (vs := [.slice none 0 0, .bool false]) (.tmp (by kernel_rfl) (.tmp (by kernel_rfl) .nil)) rfl (fun W S => ⟨none, 0, rfl, World.ownsRow_nil _ _ _ _, S.below⟩)
  replace h := H.f q1 h
  refine o_set 14 (congrArg Value.bool q1) ?_
  refine xq rfl (y_load (.agg (eSign a1).toArray) 0 g0_0 0) ?_
  obtain ⟨v1_5, hv1_5, h⟩ := H.call h
  refine xq rfl (y_call [.agg (eSign a1).toArray] (.bool v1_5) func81 (fun W S => C.s_siGood W hv1_5)) ?_
  refine p 3 ?_
  refine br (!v1_5) (fun q2 => ?_) (fun q2 => ?_)
  · replace h := H.t q2 h
    refine o_set 19 (congrArg Value.bool q2) ?_
    refine p 4 ?_
    refine rend ?_
    refine c_t (by kernel_rfl) ?_
    refine c_seq ?_
    refine r_start ?_
    refine p 2 ?_
    refine rend ?_
    replace h := H.done h
    subst h
    exact ret func50 rfl (vs := [.slice none 0 0, .bool false]) (.tmp (by kernel_rfl) (.tmp (by kernel_rfl) .nil)) rfl (fun W S => ⟨none, 0, rfl, World.ownsRow_nil _ _ _ _, S.below⟩)
  replace h := H.f q2 h
  refine o_set 19 (congrArg Value.bool q2) ?_
  refine p 1 ?_
  obtain ⟨v1_10, hv1_10, h⟩ := H.call h
  refine xq rfl (y_call [.int .i64 a2, .int .i64 0, .int .i64 100] (.bool v1_10) func96 (fun W S => C.s_l1In W hv1_10)) ?_
  refine p 2 ?_
  refine rend ?_
  refine c_or (!v1_10) (fun q3 => ?_) (fun q3 => ?_)
  · replace h := H.t q3 h
    refine c_seq ?_
    refine r_start ?_
    refine p 2 ?_
    refine rend ?_
    replace h := H.done h
    subst h
    exact ret func50 rfl (vs := [.slice none 0 0, .bool false]) (.tmp (by kernel_rfl) (.tmp (by kernel_rfl) .nil)) rfl (fun W S => ⟨none, 0, rfl, World.ownsRow_nil _ _ _ _, S.below⟩)
  replace h := H.f q3 h
  refine c_skip ?_
  refine c_seq ?_
  refine r_start ?_
  refine p 1 ?_
  refine rend ?_
  refine c_seq ?_
  refine c_seq ?_
  refine r_start ?_
  refine p 3 ?_
  refine rend ?_
  refine c_block ?_
  refine c_nil (eI .i64) 3 ?_
  refine joinH (X := ((List Int) × Option Addr × Nat)) 0 (H.bnd h) (fun ⟨l7, A8, k9⟩ => l7) (fun ⟨l7, A8, k9⟩ => [box g0_0 66 (eSign a1), rowT (eI .i64) w.heap.size 3 (.slice A8 (List.length l7) k9) l7]) (fun ⟨l7, A8, k9⟩ u => (jk u 0 8 (.slice A8 (List.length l7) k9 :: (jk u 9 33 [])))) (fun h hj10 => ?_) ?_
  · skip
    refine rangeR (X := ((List Int) × Option Addr × Nat)) (s_arg h0) (fun ⟨l4, A5, k6⟩ => l4) (fun ⟨l4, A5, k6⟩ => [box g0_0 66 (eSign a1), rowT (eI .i64) w.heap.size 3 (.slice A5 (List.length l4) k6) l4]) (fun (j11 : Nat) ⟨l4, A5, k6⟩ u => (jk u 0 2 (.int .i64 a2 :: (jk u 3 1 (.pointer (some ⟨g0_0, 0, none⟩) :: (jk u 5 3 (.slice A5 (List.length l4) k6 :: (jk u 9 15 (.slice A0 (List.length a0) k0 :: .int .i64 (List.length a0 : Int) :: .int .i64 (j11 : Int) :: (jk u 27 15 [])))))))))) (([] : List Int), none, 0) h (by kernel_rfl) (by kernel_rfl) ?_ ?_
    · intro j11 x u x12 q13 hg14 hw15 h
      obtain ⟨l4, A5, k6⟩ := x
      refine c_seq ?_
      refine r_start ?_
      refine p 1 ?_
      refine rend ?_
      refine c_seq ?_
      refine c_yes q13 ?_
      refine c_skip ?_
      refine c_seq ?_
      refine c_block ?_
      refine c_seq ?_
      refine r_start ?_
      refine p 1 ?_
      refine xq rfl (y_idx (e := nSign) (el := 66) hg14 (s_arg h0)) ?_
      refine xq rfl (y_el (e := nSign) 0 (.agg (eSign x12).toArray) hg14 (s_arg h0)) ?_
      refine xx rfl (x_new (eSign zSign) fun g6_3 => ?_)
      refine p 1 ?_
      refine xx rfl (x_sto 2 g6_3 0 (eSign x12) ?_)
      refine rend ?_
      refine c_seq ?_
      refine r_start ?_
      refine xq rfl (y_load (.agg (eSign x12).toArray) 2 g6_3 0) ?_
      refine xq rfl (y_load (.agg (eSign a1).toArray) 0 g0_0 0) ?_
      obtain ⟨v7_2, hv7_2, h⟩ := H.call h
      refine xq rfl (y_call [.agg (eSign x12).toArray, .agg (eSign a1).toArray] (.int .i64 v7_2) func82 (fun W S => C.s_feFar W hv7_2)) ?_
      refine p 2 ?_
      refine rend ?_
      refine c_or (decide (v7_2 ≤ a2)) (fun q16 => ?_) (fun q16 => ?_)
      · replace h := H.t q16 h
        refine r_start ?_
        refine p 2 ?_
        refine xx rfl (e_lit (e := (eI .i64)) (el := 3) [.int .i64 (j11 : Int)] ([(j11 : Int)] : List Int) fun A8_2 k8_2 => ?_)
        obtain ⟨y8_3, hy8_3, h⟩ := H.call h
        refine xx rfl (e_app 1 hy8_3 (s_own 3) fun A8_3 k8_3 => ?_)
        refine p 1 ?_
        refine rend ?_
        refine c_inb ?_
        refine r_start ?_
        refine p 2 ?_
        refine rend ?_
        refine c_set 26 (ci hw15) ?_
        replace h := H.inl h
        exact h (y8_3, A8_3, k8_3) _ _ rfl (by kernel_rfl) (by kernel_rfl)
      replace h := H.f q16 h
      refine c_skip ?_
      refine c_inb ?_
      refine r_start ?_
      refine p 2 ?_
      refine rend ?_
      refine c_set 26 (ci hw15) ?_
      replace h := H.inl h
      exact h (l4, A5, k6) _ _ rfl (by kernel_rfl) (by kernel_rfl)
    · intro x u q13 h
      obtain ⟨l4, A5, k6⟩ := x
      refine c_seq ?_
      refine r_start ?_
      refine p 1 ?_
      refine rend ?_
      refine c_seq ?_
      refine c_no q13 ?_
      refine cx ?_
      replace h := H.done h
      exact hj10 (l4, A5, k6) _ _ h (by kernel_rfl) (by kernel_rfl)
  intro x u h
  obtain ⟨l7, A8, k9⟩ := x
  refine c_seq ?_
  refine r_start ?_
  refine p 3 ?_
  refine rend ?_
  replace h := H.done h
  subst h
  exact ret func50 rfl (vs := [.slice A8 (List.length l7) k9, .bool true]) (.tmp (by kernel_rfl) (.tmp (by kernel_rfl) .nil)) rfl (fun W S => ⟨_, _, rfl, S.row 1, S.below⟩)
theorem C.i_SignsWithin_1 {fu : Nat} {a0 : Sign} {a1 : Sign} {p1 : Nat} {a2 : Int} {p2 : Nat} {r : Bool} (w : World) (h : X.i_SignsWithin_1 fu a1 a2 a0 = some r) (hp1 : w.heap[p1]? = some (.cells (eSign a1 : List Value).toArray 66 (0, 0))) (hp2 : w.heap[p2]? = some (.cells ([.int .i64 a2] : List Value).toArray 3 (0, 0))) : Calls prog 103 #[.agg (eSign a0).toArray, .pointer (some ⟨p1, 0, none⟩), .pointer (some ⟨p2, 0, none⟩)] w (Ret w (.bool r)) := by
  refine calls (M := no) (args := [.agg (eSign a0).toArray, .pointer (some ⟨p1, 0, none⟩), .pointer (some ⟨p2, 0, none⟩)]) func103 rfl ?_
  replace h : H (X.i_SignsWithin_1 fu a1 a2 a0) (fun o => o = r) := H.mk h
  unfold X.i_SignsWithin_1 at h
  refine c_seq ?_
  refine r_start ?_
  refine xx rfl (x_box (eSign a0) fun g0_0 => ?_)
  refine p 1 ?_
  refine rend ?_
  refine c_seq ?_
  refine as_start 6 6 ?_
  refine aq 0 rfl (y_load (.agg (eSign a0).toArray) 0 g0_0 0) ?_
  refine aq 1 rfl (y_ld0 (.agg (eSign a1).toArray) p1 0 hp1) ?_
  obtain ⟨v1_2, hv1_2, h⟩ := H.call h
  refine aq 2 rfl (y_call [.agg (eSign a0).toArray, .agg (eSign a1).toArray] (.int .i64 v1_2) func85 (fun W S => C.i_Sign_distance W hv1_2)) ?_
  refine aq 3 rfl (y_ld0 (.int .i64 a2) p2 0 hp2) ?_
  refine ap 4 2 ?_
  refine a_done ?_
  replace h := H.done h
  subst h
  exact ret func103 rfl (vs := [.bool (decide (v1_2 ≤ a2))]) (.tmp (by kernel_rfl) .nil) rfl (fun W S => ⟨rfl, S.below⟩)
theorem C.i_SignsWithin {fu : Nat} {a0 : (List Sign)} {A0 : Option Addr} {k0 : Nat} {a1 : Sign} {a2 : Int} {r : ((List Int) × Bool)} (w : World) (h : X.i_SignsWithin fu a0 a1 a2 = some r) (h0 : RdT nSign w (.slice A0 (List.length a0) k0) a0) : Calls prog 51 #[.slice A0 (List.length a0) k0, .agg (eSign a1).toArray, .int .i64 a2] w (RetR (eI .i64) 3 w r.1 (fun v => .tuple #[v, .bool r.2])) := by
  refine calls (M := no) (args := [.slice A0 (List.length a0) k0, .agg (eSign a1).toArray, .int .i64 a2]) func51 rfl ?_
  replace h : H (X.i_SignsWithin fu a0 a1 a2) (fun o => o = r) := H.mk h
  unfold X.i_SignsWithin at h
  refine c_seq ?_
  refine r_start ?_
  refine xx rfl (x_box (eSign a1) fun g0_0 => ?_)
  refine xx rfl (x_box [.int .i64 a2] fun g0_1 => ?_)
  refine p 2 ?_
  refine rend ?_
  refine c_seq ?_
  refine c_seq ?_
  refine r_start ?_
  refine p 1 ?_
  obtain ⟨v1_1, hv1_1, h⟩ := H.call h
  refine xq rfl (y_call [.slice A0 (List.length a0) k0, .int .i64 20] (.bool v1_1) func63 (fun W S => C.i_areSigns W hv1_1 ((s_arg h0).out W S))) ?_
  refine p 2 ?_
  refine br (!v1_1) (fun q1 => ?_) (fun q1 => ?_)
  · replace h := H.t q1 h
    refine o_set 11 (congrArg Value.bool q1) ?_
    refine p 9 ?_
    refine rend ?_
    refine c_t (by kernel_rfl) ?_
    refine c_seq ?_
    refine r_start ?_
    refine p 2 ?_
    refine rend ?_
    replace h := H.done h
    subst h
    exact ret func51 rfl (vs := [.slice none 0 0, .bool false]) (.tmp (by kernel_rfl) (.tmp (by kernel_rfl) .nil)) rfl (fun W S => ⟨none, 0, rfl, World.ownsRow_nil _ _ _ _, S.below⟩)
  replace h := H.f q1 h
  refine o_set 11 (congrArg Value.bool q1) ?_
  refine xq rfl (y_load (.agg (eSign a1).toArray) 0 g0_0 0) ?_
  obtain ⟨v1_5, hv1_5, h⟩ := H.call h
  refine xq rfl (y_call [.agg (eSign a1).toArray] (.bool v1_5) func84 (fun W S => C.i_IsSign W hv1_5)) ?_
  refine p 3 ?_
  refine br (!v1_5) (fun q2 => ?_) (fun q2 => ?_)
  · replace h := H.t q2 h
    refine o_set 16 (congrArg Value.bool q2) ?_
    refine p 4 ?_
    refine rend ?_
    refine c_t (by kernel_rfl) ?_
    refine c_seq ?_
    refine r_start ?_
    refine p 2 ?_
    refine rend ?_
    replace h := H.done h
    subst h
    exact ret func51 rfl (vs := [.slice none 0 0, .bool false]) (.tmp (by kernel_rfl) (.tmp (by kernel_rfl) .nil)) rfl (fun W S => ⟨none, 0, rfl, World.ownsRow_nil _ _ _ _, S.below⟩)
  replace h := H.f q2 h
  refine o_set 16 (congrArg Value.bool q2) ?_
  refine xq rfl (y_load (.int .i64 a2) 1 g0_1 0) ?_
  obtain ⟨v1_10, hv1_10, h⟩ := H.call h
  refine xq rfl (y_call [.int .i64 a2, .int .i64 0, .int .i64 100] (.bool v1_10) func79 (fun W S => C.i_within W hv1_10)) ?_
  refine p 2 ?_
  refine rend ?_
  refine c_or (!v1_10) (fun q3 => ?_) (fun q3 => ?_)
  · replace h := H.t q3 h
    refine c_seq ?_
    refine r_start ?_
    refine p 2 ?_
    refine rend ?_
    replace h := H.done h
    subst h
    exact ret func51 rfl (vs := [.slice none 0 0, .bool false]) (.tmp (by kernel_rfl) (.tmp (by kernel_rfl) .nil)) rfl (fun W S => ⟨none, 0, rfl, World.ownsRow_nil _ _ _ _, S.below⟩)
  replace h := H.f q3 h
  refine c_skip ?_
  refine c_seq ?_
  refine r_start ?_
  refine p 2 ?_
  obtain ⟨v3_2, hv3_2, h⟩ := H.call h
  refine xx rfl (e_cr [.slice A0 (List.length a0) k0, .func (.func 103) #[] #[.pointer (some ⟨g0_0, 0, none⟩), .pointer (some ⟨g0_1, 0, none⟩)]] (fun v => v) func71 (fun W S => C.i_those_i_Sign W hv3_2 ((s_arg h0).out W S) (isFn_of func103) (fun x0_2 r W2 hu2 hx2 => C.i_SignsWithin_1 W2 hx2 (bx_up (S.bx 0) hu2) (bx_up (S.bx 1) hu2))) fun A3_2 k3_2 => ?_)
  refine p 2 ?_
  refine rend ?_
  replace h := H.done h
  subst h
  exact ret func51 rfl (vs := [.slice A3_2 (List.length v3_2) k3_2, .bool true]) (.tmp (by kernel_rfl) (.tmp (by kernel_rfl) .nil)) rfl (fun W S => ⟨_, _, rfl, S.row 2, S.below⟩)
theorem C.l_FnExactSignsWithin {fu : Nat} {a0 : (List Sign)} {A0 : Option Addr} {k0 : Nat} {a1 : Sign} {a2 : Int} {r : Bool} (w : World) (h : X.l_FnExactSignsWithin fu a0 a1 a2 = some r) (h0 : RdT nSign w (.slice A0 (List.length a0) k0) a0) : Calls prog 11 #[.slice A0 (List.length a0) k0, .agg (eSign a1).toArray, .int .i64 a2] w (Ret w (.bool r)) := by
  refine calls (M := no) (args := [.slice A0 (List.length a0) k0, .agg (eSign a1).toArray, .int .i64 a2]) func11 rfl ?_
  replace h : H (X.l_FnExactSignsWithin fu a0 a1 a2) (fun o => o = r) := H.mk h
  unfold X.l_FnExactSignsWithin at h
  refine c_seq ?_
  refine r_start ?_
  refine xx rfl (x_box (eSign a1) fun g0_0 => ?_)
  refine p 1 ?_
  refine rend ?_
  refine c_seq ?_
  refine r_start ?_
  refine p 1 ?_
  refine rend ?_
  refine c_seq ?_
  refine r_start ?_
  refine p 2 ?_
  obtain ⟨v2_2, hv2_2, h⟩ := H.call h
  refine xq rfl (y_call [.slice A0 (List.length a0) k0, .int .i64 1048576] (.int .i64 v2_2) func15 (fun W S => C.l_szSignS W hv2_2 ((s_arg h0).out W S))) ?_
  refine p 1 ?_
  refine rend ?_
  refine c_seq ?_
  refine c_seq ?_
  refine r_start ?_
  refine p 2 ?_
  refine rend ?_
  refine c_or (decide (v2_2 < 0)) (fun q1 => ?_) (fun q1 => ?_)
  · replace h := H.t q1 h
    refine c_seq ?_
    refine r_start ?_
    refine p 1 ?_
    refine rend ?_
    replace h := H.done h
    subst h
    exact ret func11 rfl (vs := [.bool true]) (.tmp (by kernel_rfl) .nil) rfl (fun W S => ⟨rfl, S.below⟩)
  replace h := H.f q1 h
  refine c_skip ?_
  refine c_seq ?_
  refine r_start ?_
  refine xq rfl (y_load (.agg (eSign a1).toArray) 0 g0_0 0) ?_
  refine p 1 ?_
  obtain ⟨v5_2, hv5_2, h⟩ := H.call h
  refine xq rfl (y_call [.agg (eSign a1).toArray, .int .i64 v2_2] (.int .i64 v5_2) func32 (fun W S => C.l_szSign W hv5_2)) ?_
  refine p 1 ?_
  refine rend ?_
  refine c_seq ?_
  refine c_seq ?_
  refine r_start ?_
  refine p 2 ?_
  refine rend ?_
  refine c_or (decide (v5_2 < 0)) (fun q2 => ?_) (fun q2 => ?_)
  · replace h := H.t q2 h
    refine c_seq ?_
    refine r_start ?_
    refine p 1 ?_
    refine rend ?_
    replace h := H.done h
    subst h
    exact ret func11 rfl (vs := [.bool true]) (.tmp (by kernel_rfl) .nil) rfl (fun W S => ⟨rfl, S.below⟩)
  replace h := H.f q2 h
  refine c_skip ?_
  refine c_seq ?_
  refine as_start 11 11 ?_
  refine ap 0 1 ?_
  refine aq 2 rfl (y_load (.agg (eSign a1).toArray) 0 g0_0 0) ?_
  refine ap 4 1 ?_
  obtain ⟨v8_1, hv8_1, h⟩ := H.call h
  refine ax 1 rfl (e_cr [.slice A0 (List.length a0) k0] (fun v => v) func17 (fun W S => C.l_toSignS W hv8_1 ((s_arg h0).out W S)) fun A8_1 k8_1 => ⟨.inr (by kernel_rfl), ?_⟩)
  obtain ⟨v8_3, hv8_3, h⟩ := H.call h
  refine aq 3 rfl (y_call [.agg (eSign a1).toArray] (.agg (eSign v8_3).toArray) func34 (fun W S => C.l_toSign W hv8_3)) ?_
  obtain ⟨v8_5, hv8_5, h⟩ := H.call h
  refine ax 5 rfl (e_cr [.slice A8_1 (List.length v8_1) k8_1, .agg (eSign v8_3).toArray, .int .i64 a2] (fun v => .tuple #[v, .bool v8_5.2]) func50 (fun W S => C.s_SignsWithin W hv8_5 ((s_own 1).out W S)) fun A8_5 k8_5 => ⟨.inr (by kernel_rfl), ?_⟩)
  refine ap 6 5 ?_
  refine a_done ?_
  refine c_seq ?_
  refine r_start ?_
  refine p 1 ?_
  obtain ⟨v9_1, hv9_1, h⟩ := H.call h
  refine xx rfl (e_cr [.slice A0 (List.length a0) k0] (fun v => v) func17 (fun W S => C.l_toSignS W hv9_1 ((s_arg h0).out W S)) fun A9_1 k9_1 => ?_)
  refine p 1 ?_
  refine rend ?_
  refine c_seq ?_
  refine r_start ?_
  refine p 1 ?_
  refine xq rfl (y_load (.agg (eSign a1).toArray) 0 g0_0 0) ?_
  obtain ⟨v10_2, hv10_2, h⟩ := H.call h
  refine xq rfl (y_call [.agg (eSign a1).toArray] (.agg (eSign v10_2).toArray) func34 (fun W S => C.l_toSign W hv10_2)) ?_
  refine p 1 ?_
  obtain ⟨v10_4, hv10_4, h⟩ := H.call h
  refine xx rfl (e_cr [.slice A9_1 (List.length v9_1) k9_1, .agg (eSign v10_2).toArray, .int .i64 a2] (fun v => .tuple #[v, .bool v10_4.2]) func51 (fun W S => C.i_SignsWithin W hv10_4 ((s_own 3).out W S)) fun A10_4 k10_4 => ?_)
  refine p 5 ?_
  refine rend ?_
  refine c_seq ?_
  refine c_seq ?_
  refine r_start ?_
  refine p 2 ?_
  obtain ⟨v11_2, hv11_2, h⟩ := H.call h
  refine xq rfl (y_call [.slice A10_4 (List.length v10_4.1) k10_4, .slice A8_5 (List.length v8_5.1) k8_5] (.bool v11_2) func24 (fun W S => C.l_eqIntS W hv11_2 ((s_own 4).out W S) ((s_own 2).out W S))) ?_
  refine p 2 ?_
  refine br (!v11_2) (fun q3 => ?_) (fun q3 => ?_)
  · replace h := H.t q3 h
    refine o_set 51 (congrArg Value.bool q3) ?_
    refine p 4 ?_
    refine rend ?_
    refine c_t (by kernel_rfl) ?_
    refine c_seq ?_
    refine r_start ?_
    refine p 1 ?_
    refine rend ?_
    replace h := H.done h
    subst h
    exact ret func11 rfl (vs := [.bool false]) (.tmp (by kernel_rfl) .nil) rfl (fun W S => ⟨rfl, S.below⟩)
  replace h := H.f q3 h
  refine o_set 51 (congrArg Value.bool q3) ?_
  refine p 4 ?_
  refine rend ?_
  refine c_or (!(v10_4.2 == v8_5.2)) (fun q4 => ?_) (fun q4 => ?_)
  · replace h := H.t q4 h
    refine c_seq ?_
    refine r_start ?_
    refine p 1 ?_
    refine rend ?_
    replace h := H.done h
    subst h
    exact ret func11 rfl (vs := [.bool false]) (.tmp (by kernel_rfl) .nil) rfl (fun W S => ⟨rfl, S.below⟩)
  replace h := H.f q4 h
  refine c_skip ?_
  refine c_seq ?_
  refine c_seq ?_
  refine r_start ?_
  refine p 2 ?_
  obtain ⟨v13_2, hv13_2, h⟩ := H.call h
  refine xx rfl (e_cr [.slice A0 (List.length a0) k0] (fun v => v) func17 (fun W S => C.l_toSignS W hv13_2 ((s_arg h0).out W S)) fun A13_2 k13_2 => ?_)
  obtain ⟨v13_3, hv13_3, h⟩ := H.call h
  refine xq rfl (y_call [.slice A9_1 (List.length v9_1) k9_1, .slice A13_2 (List.length v13_2) k13_2] (.bool v13_3) func19 (fun W S => C.l_eqSignS W hv13_3 ((s_own 3).out W S) ((s_own 5).out W S))) ?_
  refine p 1 ?_
  refine rend ?_
  refine c_or (!v13_3) (fun q5 => ?_) (fun q5 => ?_)
  · replace h := H.t q5 h
    refine c_seq ?_
    refine r_start ?_
    refine p 1 ?_
    refine rend ?_
    replace h := H.done h
    subst h
    exact ret func11 rfl (vs := [.bool false]) (.tmp (by kernel_rfl) .nil) rfl (fun W S => ⟨rfl, S.below⟩)
  replace h := H.f q5 h
  refine c_skip ?_
  refine c_seq ?_
  refine r_start ?_
  refine p 1 ?_
  refine rend ?_
  refine c_seq ?_
  refine r_start ?_
  refine p 2 ?_
  obtain ⟨v16_2, hv16_2, h⟩ := H.call h
  refine xx rfl (e_cw (e := nSign) (l' := v16_2.2) (v := .int .i64 v16_2.1) 3 [.slice A9_1 (List.length v9_1) k9_1, .int .i64 1] func26 (fun W S => C.l_markSignS W hv16_2 rfl (S.row 3)) fun hl16_2 => ?_)
  refine o_set 10 (sl_len (A := A9_1) (c := k9_1) hl16_2) ?_
  refine p 1 ?_
  refine rend ?_
  refine frg (fun u => (.slice A0 (List.length a0) k0 :: (jk u 1 1 (.int .i64 a2 :: (jk u 3 1 (.pointer (some ⟨g0_0, 0, none⟩) :: (jk u 5 3 (.slice A8_5 (List.length v8_5.1) k8_5 :: .bool v8_5.2 :: (jk u 10 1 (.slice A10_4 (List.length v10_4.1) k10_4 :: .bool v10_4.2 :: .int .i64 v16_2.1 :: (jk u 14 100 []))))))))))) (by kernel_rfl) fun u => ?_
  refine keep 6 (its' := [box g0_0 56 (eSign a1), rowT nSign w.heap.size 66 (.slice A8_1 (List.length v8_1) k8_1) v8_1, rowT (eI .i64) w.heap.size 3 (.slice A8_5 (List.length v8_5.1) k8_5) v8_5.1, rowT nSign w.heap.size 66 (.slice A9_1 (List.length v16_2.2) k9_1) v16_2.2, rowT (eI .i64) w.heap.size 3 (.slice A10_4 (List.length v10_4.1) k10_4) v10_4.1, rowT nSign w.heap.size 66 (.slice A13_2 (List.length v13_2) k13_2) v13_2]) (by kernel_rfl) ?_
  refine c_seq ?_
  refine c_seq ?_
  refine r_start ?_
  refine p 3 ?_
  refine br (decide (v16_2.1 < 0)) (fun q6 => ?_) (fun q6 => ?_)
  · replace h := H.t q6 h
    refine o_set 66 (congrArg Value.bool q6) ?_
    refine p 10 ?_
    refine rend ?_
    refine c_t (by kernel_rfl) ?_
    refine c_seq ?_
    refine r_start ?_
    refine p 1 ?_
    refine rend ?_
    replace h := H.done h
    subst h
    exact ret func11 rfl (vs := [.bool false]) (.tmp (by kernel_rfl) .nil) rfl (fun W S => ⟨rfl, S.below⟩)
  replace h := H.f q6 h
  refine o_set 66 (congrArg Value.bool q6) ?_
  refine p 2 ?_
  obtain ⟨v17_5, hv17_5, h⟩ := H.call h
  refine xq rfl (y_call [.slice A10_4 (List.length v10_4.1) k10_4, .slice A8_5 (List.length v8_5.1) k8_5] (.bool v17_5) func24 (fun W S => C.l_eqIntS W hv17_5 ((s_own 4).out W S) ((s_own 2).out W S))) ?_
  refine p 3 ?_
  refine br (!v17_5) (fun q7 => ?_) (fun q7 => ?_)
  · replace h := H.t q7 h
    refine o_set 72 (congrArg Value.bool q7) ?_
    refine p 4 ?_
    refine rend ?_
    refine c_t (by kernel_rfl) ?_
    refine c_seq ?_
    refine r_start ?_
    refine p 1 ?_
    refine rend ?_
    replace h := H.done h
    subst h
    exact ret func11 rfl (vs := [.bool false]) (.tmp (by kernel_rfl) .nil) rfl (fun W S => ⟨rfl, S.below⟩)
  replace h := H.f q7 h
  refine o_set 72 (congrArg Value.bool q7) ?_
  refine p 4 ?_
  refine rend ?_
  refine c_no q4 ?_
  refine c_skip ?_
  refine c_seq ?_
  refine r_start ?_
  refine p 1 ?_
  refine rend ?_
  refine c_seq ?_
  refine r_start ?_
  refine p 2 ?_
  obtain ⟨v20_2, hv20_2, h⟩ := H.call h
  refine xx rfl (e_cw (e := (eI .i64)) (l' := v20_2.2) (v := .int .i64 v20_2.1) 4 [.slice A10_4 (List.length v10_4.1) k10_4, .int .i64 1] func28 (fun W S => C.l_markIntS W hv20_2 rfl (S.row 4)) fun hl20_2 => ?_)
  refine o_set 11 (sl_len (A := A10_4) (c := k10_4) hl20_2) ?_
  refine p 1 ?_
  refine rend ?_
  refine c_seq ?_
  refine r_start ?_
  refine p 1 ?_
  refine rend ?_
  refine c_seq ?_
  refine r_start ?_
  refine p 2 ?_
  obtain ⟨v22_2, hv22_2, h⟩ := H.call h
  refine xq rfl (y_call [.slice A10_4 (List.length v20_2.2) k10_4, .int .i64 1] (.int .i64 v22_2) func29 (fun W S => C.l_heldIntS W hv22_2 ((s_own 4).out W S))) ?_
  refine p 1 ?_
  refine rend ?_
  refine c_seq ?_
  refine c_seq ?_
  refine r_start ?_
  refine p 2 ?_
  refine rend ?_
  refine c_or (decide (v22_2 < 0)) (fun q8 => ?_) (fun q8 => ?_)
  · replace h := H.t q8 h
    refine c_seq ?_
    refine r_start ?_
    refine p 1 ?_
    refine rend ?_
    replace h := H.done h
    subst h
    exact ret func11 rfl (vs := [.bool false]) (.tmp (by kernel_rfl) .nil) rfl (fun W S => ⟨rfl, S.below⟩)
  replace h := H.f q8 h
  refine c_skip ?_
  refine c_seq ?_
  refine c_seq ?_
  refine r_start ?_
  refine p 3 ?_
  refine rend ?_
  refine c_or (v22_2 != v20_2.1) (fun q9 => ?_) (fun q9 => ?_)
  · replace h := H.t q9 h
    refine c_seq ?_
    refine r_start ?_
    refine p 1 ?_
    refine rend ?_
    replace h := H.done h
    subst h
    exact ret func11 rfl (vs := [.bool false]) (.tmp (by kernel_rfl) .nil) rfl (fun W S => ⟨rfl, S.below⟩)
  replace h := H.f q9 h
  refine c_skip ?_
  refine c_seq ?_
  refine as_start 11 11 ?_
  refine ap 0 1 ?_
  refine aq 2 rfl (y_load (.agg (eSign a1).toArray) 0 g0_0 0) ?_
  refine ap 4 1 ?_
  obtain ⟨v27_1, hv27_1, h⟩ := H.call h
  refine ax 1 rfl (e_cr [.slice A0 (List.length a0) k0] (fun v => v) func17 (fun W S => C.l_toSignS W hv27_1 ((s_arg h0).out W S)) fun A27_1 k27_1 => ⟨.inr (by kernel_rfl), ?_⟩)
  obtain ⟨v27_3, hv27_3, h⟩ := H.call h
  refine aq 3 rfl (y_call [.agg (eSign a1).toArray] (.agg (eSign v27_3).toArray) func34 (fun W S => C.l_toSign W hv27_3)) ?_
  obtain ⟨v27_5, hv27_5, h⟩ := H.call h
  refine ax 5 rfl (e_cr [.slice A27_1 (List.length v27_1) k27_1, .agg (eSign v27_3).toArray, .int .i64 a2] (fun v => .tuple #[v, .bool v27_5.2]) func51 (fun W S => C.i_SignsWithin W hv27_5 ((s_own 6).out W S)) fun A27_5 k27_5 => ⟨.inr (by kernel_rfl), ?_⟩)
  refine ap 6 5 ?_
  refine a_done ?_
  refine c_seq ?_
  refine c_seq ?_
  refine r_start ?_
  refine p 2 ?_
  obtain ⟨v28_2, hv28_2, h⟩ := H.call h
  refine xq rfl (y_call [.slice A27_5 (List.length v27_5.1) k27_5, .slice A8_5 (List.length v8_5.1) k8_5] (.bool v28_2) func24 (fun W S => C.l_eqIntS W hv28_2 ((s_own 7).out W S) ((s_own 2).out W S))) ?_
  refine p 2 ?_
  refine br (!v28_2) (fun q10 => ?_) (fun q10 => ?_)
  · replace h := H.t q10 h
    refine o_set 101 (congrArg Value.bool q10) ?_
    refine p 4 ?_
    refine rend ?_
    refine c_t (by kernel_rfl) ?_
    refine c_seq ?_
    refine r_start ?_
    refine p 1 ?_
    refine rend ?_
    replace h := H.done h
    subst h
    exact ret func11 rfl (vs := [.bool false]) (.tmp (by kernel_rfl) .nil) rfl (fun W S => ⟨rfl, S.below⟩)
  replace h := H.f q10 h
  refine o_set 101 (congrArg Value.bool q10) ?_
  refine p 4 ?_
  refine rend ?_
  refine c_or (!(v27_5.2 == v8_5.2)) (fun q11 => ?_) (fun q11 => ?_)
  · replace h := H.t q11 h
    refine c_seq ?_
    refine r_start ?_
    refine p 1 ?_
    refine rend ?_
    replace h := H.done h
    subst h
    exact ret func11 rfl (vs := [.bool false]) (.tmp (by kernel_rfl) .nil) rfl (fun W S => ⟨rfl, S.below⟩)
  replace h := H.f q11 h
  refine c_skip ?_
  refine c_seq ?_
  refine r_start ?_
  refine p 1 ?_
  refine rend ?_
  refine c_seq ?_
  refine r_start ?_
  refine p 2 ?_
  obtain ⟨v31_2, hv31_2, h⟩ := H.call h
  refine xq rfl (y_call [.slice A10_4 (List.length v20_2.2) k10_4, .int .i64 1] (.int .i64 v31_2) func29 (fun W S => C.l_heldIntS W hv31_2 ((s_own 4).out W S))) ?_
  refine p 1 ?_
  refine rend ?_
  refine c_seq ?_
  refine c_seq ?_
  refine r_start ?_
  refine p 2 ?_
  refine rend ?_
  refine c_or (decide (v31_2 < 0)) (fun q12 => ?_) (fun q12 => ?_)
  · replace h := H.t q12 h
    refine c_seq ?_
    refine r_start ?_
    refine p 1 ?_
    refine rend ?_
    refine frg (fun u => (jk u 0 6 (.bool false :: (jk u 7 107 [])))) (by kernel_rfl) fun u => ?_
    refine keep 8 (its' := [box g0_0 56 (eSign a1), rowT nSign w.heap.size 66 (.slice A8_1 (List.length v8_1) k8_1) v8_1, rowT (eI .i64) w.heap.size 3 (.slice A8_5 (List.length v8_5.1) k8_5) v8_5.1, rowT nSign w.heap.size 66 (.slice A9_1 (List.length v16_2.2) k9_1) v16_2.2, rowT (eI .i64) w.heap.size 3 (.slice A10_4 (List.length v20_2.2) k10_4) v20_2.2, rowT nSign w.heap.size 66 (.slice A13_2 (List.length v13_2) k13_2) v13_2, rowT nSign w.heap.size 66 (.slice A27_1 (List.length v27_1) k27_1) v27_1, rowT (eI .i64) w.heap.size 3 (.slice A27_5 (List.length v27_5.1) k27_5) v27_5.1]) (by kernel_rfl) ?_
    replace h := H.done h
    subst h
    exact ret func11 rfl (vs := [.bool false]) (.tmp (by kernel_rfl) .nil) rfl (fun W S => ⟨rfl, S.below⟩)
  replace h := H.f q12 h
  refine c_skip ?_
  refine c_seq ?_
  refine c_seq ?_
  refine r_start ?_
  refine p 3 ?_
  refine rend ?_
  refine frg (fun u => (jk u 0 113 [.bool (v31_2 != v20_2.1)])) (by kernel_rfl) fun u => ?_
  refine keep 8 (its' := [box g0_0 56 (eSign a1), rowT nSign w.heap.size 66 (.slice A8_1 (List.length v8_1) k8_1) v8_1, rowT (eI .i64) w.heap.size 3 (.slice A8_5 (List.length v8_5.1) k8_5) v8_5.1, rowT nSign w.heap.size 66 (.slice A9_1 (List.length v16_2.2) k9_1) v16_2.2, rowT (eI .i64) w.heap.size 3 (.slice A10_4 (List.length v20_2.2) k10_4) v20_2.2, rowT nSign w.heap.size 66 (.slice A13_2 (List.length v13_2) k13_2) v13_2, rowT nSign w.heap.size 66 (.slice A27_1 (List.length v27_1) k27_1) v27_1, rowT (eI .i64) w.heap.size 3 (.slice A27_5 (List.length v27_5.1) k27_5) v27_5.1]) (by kernel_rfl) ?_
  refine c_or (v31_2 != v20_2.1) (fun q13 => ?_) (fun q13 => ?_)
  · replace h := H.t q13 h
    refine c_seq ?_
    refine r_start ?_
    refine p 1 ?_
    refine rend ?_
    replace h := H.done h
    subst h
    exact ret func11 rfl (vs := [.bool false]) (.tmp (by kernel_rfl) .nil) rfl (fun W S => ⟨rfl, S.below⟩)
  replace h := H.f q13 h
  refine c_skip ?_
  refine c_seq ?_
  refine r_start ?_
  refine p 1 ?_
  refine rend ?_
  replace h := H.done h
  subst h
  exact ret func11 rfl (vs := [.bool true]) (.tmp (by kernel_rfl) .nil) rfl (fun W S => ⟨rfl, S.below⟩)
end Go.Proofs.XC
