/- Contracts: each function, called where its plain function gives an answer, returns just that answer and changes nothing that was there. By AI agents; no person has read it. -/
import Derived.Test.YtjnablhfhdedfaaGreatDoorC2
set_option linter.unusedVariables false
set_option linter.unusedSimpArgs false
set_option maxRecDepth 100000
set_option maxHeartbeats 40000000
namespace Go.Proofs.XC
open Go Go.RowKit
open Tryz
theorem C.s_BreakersOf {fu : Nat} {a0 : (List Sign)} {A0 : Option Addr} {k0 : Nat} {a1 : Constraint} {r : ((List Int) × Bool)} (w : World) (h : X.s_BreakersOf fu a0 a1 = some r) (h0 : RdT nSign w (.slice A0 (List.length a0) k0) a0) : Calls prog 55 #[.slice A0 (List.length a0) k0, .agg (eConstraint a1).toArray] w (RetR (eI .i64) 3 w r.1 (fun v => .tuple #[v, .bool r.2])) := by
  refine calls (M := no) (args := [.slice A0 (List.length a0) k0, .agg (eConstraint a1).toArray]) func55 rfl ?_
  replace h : H (X.s_BreakersOf fu a0 a1) (fun o => o = r) := H.mk h
  unfold X.s_BreakersOf at h
  refine c_seq ?_
  refine r_start ?_
  refine xx rfl (x_box (eConstraint a1) fun g0_0 => ?_)
  refine p 2 ?_
  refine rend ?_
  refine c_seq ?_
  refine c_seq ?_
  refine r_start ?_
  refine p 1 ?_
  obtain ⟨v1_1, hv1_1, h⟩ := H.call h
  refine xq rfl (y_call [.slice A0 (List.length a0) k0] (.bool v1_1) func75 (fun W S => C.s_paList W hv1_1 ((s_arg h0).out W S))) ?_
  refine p 2 ?_
  refine br (!v1_1) (fun q1 => ?_) (fun q1 => ?_)
  · replace h := H.t q1 h
    refine o_set 12 (congrArg Value.bool q1) ?_
    refine p 4 ?_
    refine rend ?_
    refine c_t (by kernel_rfl) ?_
    refine c_seq ?_
    refine r_start ?_
    refine p 2 ?_
    refine rend ?_
    replace h := H.done h
    subst h
    exact ret func55 rfl (vs := [.slice none 0 0, .bool false]) (.tmp (by kernel_rfl) (.tmp (by kernel_rfl) .nil)) rfl (fun W S => ⟨none, 0, rfl, World.ownsRow_nil _ _ _ _, S.below⟩)
  replace h := H.f q1 h
  refine o_set 12 (congrArg Value.bool q1) ?_
  refine xq rfl (y_load (.agg (eConstraint a1).toArray) 0 g0_0 0) ?_
  obtain ⟨v1_5, hv1_5, h⟩ := H.call h
  refine xq rfl (y_call [.agg (eConstraint a1).toArray] (.bool v1_5) func122 (fun W S => C.s_ruGood W hv1_5)) ?_
  refine p 2 ?_
  refine rend ?_
  refine c_or (!v1_5) (fun q2 => ?_) (fun q2 => ?_)
  · replace h := H.t q2 h
    refine c_seq ?_
    refine r_start ?_
    refine p 2 ?_
    refine rend ?_
    replace h := H.done h
    subst h
    exact ret func55 rfl (vs := [.slice none 0 0, .bool false]) (.tmp (by kernel_rfl) (.tmp (by kernel_rfl) .nil)) rfl (fun W S => ⟨none, 0, rfl, World.ownsRow_nil _ _ _ _, S.below⟩)
  replace h := H.f q2 h
  refine c_skip ?_
  refine c_seq ?_
  refine r_start ?_
  refine p 1 ?_
  refine rend ?_
  refine c_seq ?_
  refine c_seq ?_
  refine r_start ?_
  refine p 3 ?_
  refine rend ?_
  refine c_block ?_
  refine c_nil (eI .i64) 3 ?_
  refine joinH (X := ((List Int) × Option Addr × Nat)) 0 (H.bnd h) (fun ⟨l6, A7, k8⟩ => l6) (fun ⟨l6, A7, k8⟩ => [box g0_0 94 (eConstraint a1), rowT (eI .i64) w.heap.size 3 (.slice A7 (List.length l6) k8) l6]) (fun ⟨l6, A7, k8⟩ u => (jk u 0 6 (.slice A7 (List.length l6) k8 :: (jk u 7 27 [])))) (fun h hj9 => ?_) ?_
  · skip
    refine rangeR (X := ((List Int) × Option Addr × Nat)) (s_arg h0) (fun ⟨l3, A4, k5⟩ => l3) (fun ⟨l3, A4, k5⟩ => [box g0_0 94 (eConstraint a1), rowT (eI .i64) w.heap.size 3 (.slice A4 (List.length l3) k5) l3]) (fun (j10 : Nat) ⟨l3, A4, k5⟩ u => (jk u 0 3 (.pointer (some ⟨g0_0, 0, none⟩) :: (jk u 4 2 (.slice A4 (List.length l3) k5 :: (jk u 7 10 (.slice A0 (List.length a0) k0 :: .int .i64 (List.length a0 : Int) :: .int .i64 (j10 : Int) :: (jk u 20 14 [])))))))) (([] : List Int), none, 0) h (by kernel_rfl) (by kernel_rfl) ?_ ?_
    · intro j10 x u x11 q12 hg13 hw14 h
      obtain ⟨l3, A4, k5⟩ := x
      refine c_seq ?_
      refine r_start ?_
      refine p 1 ?_
      refine rend ?_
      refine c_seq ?_
      refine c_yes q12 ?_
      refine c_skip ?_
      refine c_seq ?_
      refine c_block ?_
      refine c_seq ?_
      refine r_start ?_
      refine p 1 ?_
      refine xq rfl (y_idx (e := nSign) (el := 62) hg13 (s_arg h0)) ?_
      refine xq rfl (y_el (e := nSign) 0 (.agg (eSign x11).toArray) hg13 (s_arg h0)) ?_
      refine xx rfl (x_new (eSign zSign) fun g6_3 => ?_)
      refine p 1 ?_
      refine xx rfl (x_sto 2 g6_3 0 (eSign x11) ?_)
      refine rend ?_
      refine c_seq ?_
      refine r_start ?_
      refine xq rfl (y_load (.agg (eSign x11).toArray) 2 g6_3 0) ?_
      refine xq rfl (y_load (.agg (eConstraint a1).toArray) 0 g0_0 0) ?_
      obtain ⟨v7_2, hv7_2, h⟩ := H.call h
      refine xq rfl (y_call [.agg (eSign x11).toArray, .agg (eConstraint a1).toArray] (.bool v7_2) func77 (fun W S => C.s_ruKeeps W hv7_2)) ?_
      refine p 1 ?_
      refine rend ?_
      refine c_or (!v7_2) (fun q15 => ?_) (fun q15 => ?_)
      · replace h := H.t q15 h
        refine r_start ?_
        refine p 2 ?_
        refine xx rfl (e_lit (e := (eI .i64)) (el := 3) [.int .i64 (j10 : Int)] ([(j10 : Int)] : List Int) fun A8_2 k8_2 => ?_)
        obtain ⟨y8_3, hy8_3, h⟩ := H.call h
        refine xx rfl (e_app 1 hy8_3 (s_own 3) fun A8_3 k8_3 => ?_)
        refine p 1 ?_
        refine rend ?_
        refine c_inb ?_
        refine r_start ?_
        refine p 2 ?_
        refine rend ?_
        refine c_set 19 (ci hw14) ?_
        replace h := H.inl h
        exact h (y8_3, A8_3, k8_3) _ _ rfl (by kernel_rfl) (by kernel_rfl)
      replace h := H.f q15 h
      refine c_skip ?_
      refine c_inb ?_
      refine r_start ?_
      refine p 2 ?_
      refine rend ?_
      refine c_set 19 (ci hw14) ?_
      replace h := H.inl h
      exact h (l3, A4, k5) _ _ rfl (by kernel_rfl) (by kernel_rfl)
    · intro x u q12 h
      obtain ⟨l3, A4, k5⟩ := x
      refine c_seq ?_
      refine r_start ?_
      refine p 1 ?_
      refine rend ?_
      refine c_seq ?_
      refine c_no q12 ?_
      refine cx ?_
      replace h := H.done h
      exact hj9 (l3, A4, k5) _ _ h (by kernel_rfl) (by kernel_rfl)
  intro x u h
  obtain ⟨l6, A7, k8⟩ := x
  refine c_seq ?_
  refine r_start ?_
  refine p 3 ?_
  refine rend ?_
  replace h := H.done h
  subst h
  exact ret func55 rfl (vs := [.slice A7 (List.length l6) k8, .bool true]) (.tmp (by kernel_rfl) (.tmp (by kernel_rfl) .nil)) rfl (fun W S => ⟨_, _, rfl, S.row 1, S.below⟩)
theorem C.l_FnExactBreakersOf {fu : Nat} {a0 : (List Sign)} {A0 : Option Addr} {k0 : Nat} {a1 : Constraint} {r : Bool} (w : World) (h : X.l_FnExactBreakersOf fu a0 a1 = some r) (h0 : RdT nSign w (.slice A0 (List.length a0) k0) a0) : Calls prog 8 #[.slice A0 (List.length a0) k0, .agg (eConstraint a1).toArray] w (Ret w (.bool r)) := by
  refine calls (M := no) (args := [.slice A0 (List.length a0) k0, .agg (eConstraint a1).toArray]) func8 rfl ?_
  replace h : H (X.l_FnExactBreakersOf fu a0 a1) (fun o => o = r) := H.mk h
  unfold X.l_FnExactBreakersOf at h
  refine c_seq ?_
  refine r_start ?_
  refine xx rfl (x_box (eConstraint a1) fun g0_0 => ?_)
  refine p 1 ?_
  refine rend ?_
  refine c_seq ?_
  refine r_start ?_
  refine p 1 ?_
  refine rend ?_
  refine c_seq ?_
  refine r_start ?_
  refine p 2 ?_
  obtain ⟨v2_2, hv2_2, h⟩ := H.call h
  refine xq rfl (y_call [.slice A0 (List.length a0) k0, .int .i64 1048576] (.int .i64 v2_2) func15 (fun W S => C.l_szSignS W hv2_2 ((s_arg h0).out W S))) ?_
  refine p 1 ?_
  refine rend ?_
  refine c_seq ?_
  refine c_seq ?_
  refine r_start ?_
  refine p 2 ?_
  refine rend ?_
  refine c_or (decide (v2_2 < 0)) (fun q1 => ?_) (fun q1 => ?_)
  · replace h := H.t q1 h
    refine c_seq ?_
    refine r_start ?_
    refine p 1 ?_
    refine rend ?_
    replace h := H.done h
    subst h
    exact ret func8 rfl (vs := [.bool true]) (.tmp (by kernel_rfl) .nil) rfl (fun W S => ⟨rfl, S.below⟩)
  replace h := H.f q1 h
  refine c_skip ?_
  refine c_seq ?_
  refine as_start 10 10 ?_
  refine ap 0 1 ?_
  refine aq 2 rfl (y_load (.agg (eConstraint a1).toArray) 0 g0_0 0) ?_
  obtain ⟨v5_1, hv5_1, h⟩ := H.call h
  refine ax 1 rfl (e_cr [.slice A0 (List.length a0) k0] (fun v => v) func18 (fun W S => C.l_toSignS W hv5_1 ((s_arg h0).out W S)) fun A5_1 k5_1 => ⟨.inr (by kernel_rfl), ?_⟩)
  obtain ⟨v5_3, hv5_3, h⟩ := H.call h
  refine aq 3 rfl (y_call [.agg (eConstraint a1).toArray] (.agg (eConstraint v5_3).toArray) func56 (fun W S => C.l_toConstraint W hv5_3)) ?_
  obtain ⟨v5_4, hv5_4, h⟩ := H.call h
  refine ax 4 rfl (e_cr [.slice A5_1 (List.length v5_1) k5_1, .agg (eConstraint v5_3).toArray] (fun v => .tuple #[v, .bool v5_4.2]) func55 (fun W S => C.s_BreakersOf W hv5_4 ((s_own 1).out W S)) fun A5_4 k5_4 => ⟨.inr (by kernel_rfl), ?_⟩)
  refine ap 5 5 ?_
  refine a_done ?_
  refine c_seq ?_
  refine r_start ?_
  refine p 1 ?_
  obtain ⟨v6_1, hv6_1, h⟩ := H.call h
  refine xx rfl (e_cr [.slice A0 (List.length a0) k0] (fun v => v) func18 (fun W S => C.l_toSignS W hv6_1 ((s_arg h0).out W S)) fun A6_1 k6_1 => ?_)
  refine p 1 ?_
  refine rend ?_
  refine c_seq ?_
  refine r_start ?_
  refine p 1 ?_
  refine xq rfl (y_load (.agg (eConstraint a1).toArray) 0 g0_0 0) ?_
  obtain ⟨v7_2, hv7_2, h⟩ := H.call h
  refine xq rfl (y_call [.agg (eConstraint a1).toArray] (.agg (eConstraint v7_2).toArray) func56 (fun W S => C.l_toConstraint W hv7_2)) ?_
  obtain ⟨v7_3, hv7_3, h⟩ := H.call h
  refine xx rfl (e_cr [.slice A6_1 (List.length v6_1) k6_1, .agg (eConstraint v7_2).toArray] (fun v => .tuple #[v, .bool v7_3.2]) func57 (fun W S => C.i_BreakersOf W hv7_3 ((s_own 3).out W S)) fun A7_3 k7_3 => ?_)
  refine p 5 ?_
  refine rend ?_
  refine c_seq ?_
  refine c_seq ?_
  refine r_start ?_
  refine p 2 ?_
  obtain ⟨v8_2, hv8_2, h⟩ := H.call h
  refine xq rfl (y_call [.slice A7_3 (List.length v7_3.1) k7_3, .slice A5_4 (List.length v5_4.1) k5_4] (.bool v8_2) func58 (fun W S => C.l_eqIntS W hv8_2 ((s_own 4).out W S) ((s_own 2).out W S))) ?_
  refine p 2 ?_
  refine br (!v8_2) (fun q2 => ?_) (fun q2 => ?_)
  · replace h := H.t q2 h
    refine o_set 42 (congrArg Value.bool q2) ?_
    refine p 4 ?_
    refine rend ?_
    refine c_t (by kernel_rfl) ?_
    refine c_seq ?_
    refine r_start ?_
    refine p 1 ?_
    refine rend ?_
    replace h := H.done h
    subst h
    exact ret func8 rfl (vs := [.bool false]) (.tmp (by kernel_rfl) .nil) rfl (fun W S => ⟨rfl, S.below⟩)
  replace h := H.f q2 h
  refine o_set 42 (congrArg Value.bool q2) ?_
  refine p 4 ?_
  refine rend ?_
  refine c_or (!(v7_3.2 == v5_4.2)) (fun q3 => ?_) (fun q3 => ?_)
  · replace h := H.t q3 h
    refine c_seq ?_
    refine r_start ?_
    refine p 1 ?_
    refine rend ?_
    replace h := H.done h
    subst h
    exact ret func8 rfl (vs := [.bool false]) (.tmp (by kernel_rfl) .nil) rfl (fun W S => ⟨rfl, S.below⟩)
  replace h := H.f q3 h
  refine c_skip ?_
  refine c_seq ?_
  refine c_seq ?_
  refine r_start ?_
  refine p 2 ?_
  obtain ⟨v10_2, hv10_2, h⟩ := H.call h
  refine xx rfl (e_cr [.slice A0 (List.length a0) k0] (fun v => v) func18 (fun W S => C.l_toSignS W hv10_2 ((s_arg h0).out W S)) fun A10_2 k10_2 => ?_)
  obtain ⟨v10_3, hv10_3, h⟩ := H.call h
  refine xq rfl (y_call [.slice A6_1 (List.length v6_1) k6_1, .slice A10_2 (List.length v10_2) k10_2] (.bool v10_3) func21 (fun W S => C.l_eqSignS W hv10_3 ((s_own 3).out W S) ((s_own 5).out W S))) ?_
  refine p 1 ?_
  refine rend ?_
  refine c_or (!v10_3) (fun q4 => ?_) (fun q4 => ?_)
  · replace h := H.t q4 h
    refine c_seq ?_
    refine r_start ?_
    refine p 1 ?_
    refine rend ?_
    replace h := H.done h
    subst h
    exact ret func8 rfl (vs := [.bool false]) (.tmp (by kernel_rfl) .nil) rfl (fun W S => ⟨rfl, S.below⟩)
  replace h := H.f q4 h
  refine c_skip ?_
  refine c_seq ?_
  refine r_start ?_
  refine p 1 ?_
  refine rend ?_
  refine c_seq ?_
  refine r_start ?_
  refine p 2 ?_
  obtain ⟨v13_2, hv13_2, h⟩ := H.call h
  refine xx rfl (e_cw (e := nSign) (l' := v13_2.2) (v := .int .i64 v13_2.1) 3 [.slice A6_1 (List.length v6_1) k6_1, .int .i64 1] func54 (fun W S => C.l_markSignS W hv13_2 rfl (S.row 3)) fun hl13_2 => ?_)
  refine o_set 8 (sl_len (A := A6_1) (c := k6_1) hl13_2) ?_
  refine p 1 ?_
  refine rend ?_
  refine c_seq ?_
  refine c_seq ?_
  refine r_start ?_
  refine p 3 ?_
  refine br (decide (v13_2.1 < 0)) (fun q5 => ?_) (fun q5 => ?_)
  · replace h := H.t q5 h
    refine o_set 57 (congrArg Value.bool q5) ?_
    refine p 10 ?_
    refine rend ?_
    refine c_t (by kernel_rfl) ?_
    refine c_seq ?_
    refine r_start ?_
    refine p 1 ?_
    refine rend ?_
    refine frg (fun u => (jk u 0 4 (.bool false :: (jk u 5 99 [])))) (by kernel_rfl) fun u => ?_
    refine keep 6 (its' := [box g0_0 90 (eConstraint a1), rowT nSign w.heap.size 62 (.slice A5_1 (List.length v5_1) k5_1) v5_1, rowT (eI .i64) w.heap.size 3 (.slice A5_4 (List.length v5_4.1) k5_4) v5_4.1, rowT nSign w.heap.size 62 (.slice A6_1 (List.length v13_2.2) k6_1) v13_2.2, rowT (eI .i64) w.heap.size 3 (.slice A7_3 (List.length v7_3.1) k7_3) v7_3.1, rowT nSign w.heap.size 62 (.slice A10_2 (List.length v10_2) k10_2) v10_2]) (by kernel_rfl) ?_
    replace h := H.done h
    subst h
    exact ret func8 rfl (vs := [.bool false]) (.tmp (by kernel_rfl) .nil) rfl (fun W S => ⟨rfl, S.below⟩)
  replace h := H.f q5 h
  refine o_set 57 (congrArg Value.bool q5) ?_
  refine p 2 ?_
  obtain ⟨v14_5, hv14_5, h⟩ := H.call h
  refine xq rfl (y_call [.slice A7_3 (List.length v7_3.1) k7_3, .slice A5_4 (List.length v5_4.1) k5_4] (.bool v14_5) func58 (fun W S => C.l_eqIntS W hv14_5 ((s_own 4).out W S) ((s_own 2).out W S))) ?_
  refine p 3 ?_
  refine br (!v14_5) (fun q6 => ?_) (fun q6 => ?_)
  · replace h := H.t q6 h
    refine o_set 63 (congrArg Value.bool q6) ?_
    refine p 4 ?_
    refine rend ?_
    refine c_t (by kernel_rfl) ?_
    refine c_seq ?_
    refine r_start ?_
    refine p 1 ?_
    refine rend ?_
    refine frg (fun u => (jk u 0 4 (.bool false :: (jk u 5 99 [])))) (by kernel_rfl) fun u => ?_
    refine keep 6 (its' := [box g0_0 90 (eConstraint a1), rowT nSign w.heap.size 62 (.slice A5_1 (List.length v5_1) k5_1) v5_1, rowT (eI .i64) w.heap.size 3 (.slice A5_4 (List.length v5_4.1) k5_4) v5_4.1, rowT nSign w.heap.size 62 (.slice A6_1 (List.length v13_2.2) k6_1) v13_2.2, rowT (eI .i64) w.heap.size 3 (.slice A7_3 (List.length v7_3.1) k7_3) v7_3.1, rowT nSign w.heap.size 62 (.slice A10_2 (List.length v10_2) k10_2) v10_2]) (by kernel_rfl) ?_
    replace h := H.done h
    subst h
    exact ret func8 rfl (vs := [.bool false]) (.tmp (by kernel_rfl) .nil) rfl (fun W S => ⟨rfl, S.below⟩)
  replace h := H.f q6 h
  refine o_set 63 (congrArg Value.bool q6) ?_
  refine p 4 ?_
  refine rend ?_
  refine c_no q3 ?_
  refine c_skip ?_
  refine c_seq ?_
  refine r_start ?_
  refine p 1 ?_
  refine rend ?_
  refine frg (fun u => (.slice A0 (List.length a0) k0 :: (jk u 1 2 (.pointer (some ⟨g0_0, 0, none⟩) :: (jk u 4 2 (.slice A5_4 (List.length v5_4.1) k5_4 :: .bool v5_4.2 :: (jk u 8 1 (.slice A7_3 (List.length v7_3.1) k7_3 :: (jk u 10 2 (.int .i64 1 :: (jk u 13 91 []))))))))))) (by kernel_rfl) fun u => ?_
  refine keep 6 (its' := [box g0_0 90 (eConstraint a1), rowT nSign w.heap.size 62 (.slice A5_1 (List.length v5_1) k5_1) v5_1, rowT (eI .i64) w.heap.size 3 (.slice A5_4 (List.length v5_4.1) k5_4) v5_4.1, rowT nSign w.heap.size 62 (.slice A6_1 (List.length v13_2.2) k6_1) v13_2.2, rowT (eI .i64) w.heap.size 3 (.slice A7_3 (List.length v7_3.1) k7_3) v7_3.1, rowT nSign w.heap.size 62 (.slice A10_2 (List.length v10_2) k10_2) v10_2]) (by kernel_rfl) ?_
  refine c_seq ?_
  refine r_start ?_
  refine p 2 ?_
  obtain ⟨v17_2, hv17_2, h⟩ := H.call h
  refine xx rfl (e_cw (e := (eI .i64)) (l' := v17_2.2) (v := .int .i64 v17_2.1) 4 [.slice A7_3 (List.length v7_3.1) k7_3, .int .i64 1] func59 (fun W S => C.l_markIntS W hv17_2 rfl (S.row 4)) fun hl17_2 => ?_)
  refine o_set 9 (sl_len (A := A7_3) (c := k7_3) hl17_2) ?_
  refine p 1 ?_
  refine rend ?_
  refine c_seq ?_
  refine r_start ?_
  refine p 1 ?_
  refine rend ?_
  refine c_seq ?_
  refine r_start ?_
  refine p 2 ?_
  obtain ⟨v19_2, hv19_2, h⟩ := H.call h
  refine xq rfl (y_call [.slice A7_3 (List.length v17_2.2) k7_3, .int .i64 1] (.int .i64 v19_2) func60 (fun W S => C.l_heldIntS W hv19_2 ((s_own 4).out W S))) ?_
  refine p 1 ?_
  refine rend ?_
  refine c_seq ?_
  refine c_seq ?_
  refine r_start ?_
  refine p 2 ?_
  refine rend ?_
  refine c_or (decide (v19_2 < 0)) (fun q7 => ?_) (fun q7 => ?_)
  · replace h := H.t q7 h
    refine c_seq ?_
    refine r_start ?_
    refine p 1 ?_
    refine rend ?_
    replace h := H.done h
    subst h
    exact ret func8 rfl (vs := [.bool false]) (.tmp (by kernel_rfl) .nil) rfl (fun W S => ⟨rfl, S.below⟩)
  replace h := H.f q7 h
  refine c_skip ?_
  refine c_seq ?_
  refine c_seq ?_
  refine r_start ?_
  refine p 3 ?_
  refine rend ?_
  refine c_or (v19_2 != v17_2.1) (fun q8 => ?_) (fun q8 => ?_)
  · replace h := H.t q8 h
    refine c_seq ?_
    refine r_start ?_
    refine p 1 ?_
    refine rend ?_
    replace h := H.done h
    subst h
    exact ret func8 rfl (vs := [.bool false]) (.tmp (by kernel_rfl) .nil) rfl (fun W S => ⟨rfl, S.below⟩)
  replace h := H.f q8 h
  refine c_skip ?_
  refine c_seq ?_
  refine as_start 10 10 ?_
  refine ap 0 1 ?_
  refine aq 2 rfl (y_load (.agg (eConstraint a1).toArray) 0 g0_0 0) ?_
  obtain ⟨v24_1, hv24_1, h⟩ := H.call h
  refine ax 1 rfl (e_cr [.slice A0 (List.length a0) k0] (fun v => v) func18 (fun W S => C.l_toSignS W hv24_1 ((s_arg h0).out W S)) fun A24_1 k24_1 => ⟨.inr (by kernel_rfl), ?_⟩)
  obtain ⟨v24_3, hv24_3, h⟩ := H.call h
  refine aq 3 rfl (y_call [.agg (eConstraint a1).toArray] (.agg (eConstraint v24_3).toArray) func56 (fun W S => C.l_toConstraint W hv24_3)) ?_
  obtain ⟨v24_4, hv24_4, h⟩ := H.call h
  refine ax 4 rfl (e_cr [.slice A24_1 (List.length v24_1) k24_1, .agg (eConstraint v24_3).toArray] (fun v => .tuple #[v, .bool v24_4.2]) func57 (fun W S => C.i_BreakersOf W hv24_4 ((s_own 6).out W S)) fun A24_4 k24_4 => ⟨.inr (by kernel_rfl), ?_⟩)
  refine ap 5 5 ?_
  refine a_done ?_
  refine c_seq ?_
  refine c_seq ?_
  refine r_start ?_
  refine p 2 ?_
  obtain ⟨v25_2, hv25_2, h⟩ := H.call h
  refine xq rfl (y_call [.slice A24_4 (List.length v24_4.1) k24_4, .slice A5_4 (List.length v5_4.1) k5_4] (.bool v25_2) func58 (fun W S => C.l_eqIntS W hv25_2 ((s_own 7).out W S) ((s_own 2).out W S))) ?_
  refine p 2 ?_
  refine br (!v25_2) (fun q9 => ?_) (fun q9 => ?_)
  · replace h := H.t q9 h
    refine o_set 91 (congrArg Value.bool q9) ?_
    refine p 4 ?_
    refine rend ?_
    refine c_t (by kernel_rfl) ?_
    refine c_seq ?_
    refine r_start ?_
    refine p 1 ?_
    refine rend ?_
    replace h := H.done h
    subst h
    exact ret func8 rfl (vs := [.bool false]) (.tmp (by kernel_rfl) .nil) rfl (fun W S => ⟨rfl, S.below⟩)
  replace h := H.f q9 h
  refine o_set 91 (congrArg Value.bool q9) ?_
  refine p 4 ?_
  refine rend ?_
  refine c_or (!(v24_4.2 == v5_4.2)) (fun q10 => ?_) (fun q10 => ?_)
  · replace h := H.t q10 h
    refine c_seq ?_
    refine r_start ?_
    refine p 1 ?_
    refine rend ?_
    replace h := H.done h
    subst h
    exact ret func8 rfl (vs := [.bool false]) (.tmp (by kernel_rfl) .nil) rfl (fun W S => ⟨rfl, S.below⟩)
  replace h := H.f q10 h
  refine c_skip ?_
  refine c_seq ?_
  refine r_start ?_
  refine p 1 ?_
  refine rend ?_
  refine c_seq ?_
  refine r_start ?_
  refine p 2 ?_
  obtain ⟨v28_2, hv28_2, h⟩ := H.call h
  refine xq rfl (y_call [.slice A7_3 (List.length v17_2.2) k7_3, .int .i64 1] (.int .i64 v28_2) func60 (fun W S => C.l_heldIntS W hv28_2 ((s_own 4).out W S))) ?_
  refine p 1 ?_
  refine rend ?_
  refine c_seq ?_
  refine c_seq ?_
  refine r_start ?_
  refine p 2 ?_
  refine rend ?_
  refine c_or (decide (v28_2 < 0)) (fun q11 => ?_) (fun q11 => ?_)
  · replace h := H.t q11 h
    refine c_seq ?_
    refine r_start ?_
    refine p 1 ?_
    refine rend ?_
    replace h := H.done h
    subst h
    exact ret func8 rfl (vs := [.bool false]) (.tmp (by kernel_rfl) .nil) rfl (fun W S => ⟨rfl, S.below⟩)
  replace h := H.f q11 h
  refine c_skip ?_
  refine c_seq ?_
  refine c_seq ?_
  refine r_start ?_
  refine p 3 ?_
  refine rend ?_
  refine c_or (v28_2 != v17_2.1) (fun q12 => ?_) (fun q12 => ?_)
  · replace h := H.t q12 h
    refine c_seq ?_
    refine r_start ?_
    refine p 1 ?_
    refine rend ?_
    replace h := H.done h
    subst h
    exact ret func8 rfl (vs := [.bool false]) (.tmp (by kernel_rfl) .nil) rfl (fun W S => ⟨rfl, S.below⟩)
  replace h := H.f q12 h
  refine c_skip ?_
  refine c_seq ?_
  refine r_start ?_
  refine p 1 ?_
  refine rend ?_
  replace h := H.done h
  subst h
  exact ret func8 rfl (vs := [.bool true]) (.tmp (by kernel_rfl) .nil) rfl (fun W S => ⟨rfl, S.below⟩)
end Go.Proofs.XC
