/- Contracts: each function, called where its plain function gives an answer, returns just that answer and changes nothing that was there. By AI agents; no person has read it. -/
import Derived.Test.YtcniidjoaancoaaGreatDoorC1
import Derived.Test.YtcniidjoaancoaaGreatDoorE1
set_option linter.unusedVariables false
set_option linter.unusedSimpArgs false
set_option maxRecDepth 100000
set_option maxHeartbeats 40000000
namespace Go.Proofs.XC
open Go Go.RowKit
open Tryz
theorem C.l_szConstraintS {a0 : (List Constraint)} {A0 : Option Addr} {k0 : Nat} {a1 : Int} {r : Int} (w : World) (h : X.l_szConstraintS a0 a1 = some r) (h0 : RdT nConstraint w (.slice A0 (List.length a0) k0) a0) : Calls prog 20 #[.slice A0 (List.length a0) k0, .int .i64 a1] w (Ret w (.int .i64 r)) := by
  refine calls (M := no) (args := [.slice A0 (List.length a0) k0, .int .i64 a1]) func20 rfl ?_
  replace h : H (X.l_szConstraintS a0 a1) (fun o => o = r) := H.mk h
  unfold X.l_szConstraintS at h
  refine c_seq ?_
  refine r_start ?_
  refine p 1 ?_
  refine rend ?_
  refine c_seq ?_
  refine r_start ?_
  refine p 5 ?_
  refine rend ?_
  refine c_seq ?_
  refine c_seq ?_
  refine r_start ?_
  refine p 2 ?_
  refine rend ?_
  refine c_or (decide ((wr (a1 - (List.length a0 : Int))) < 0)) (fun q1 => ?_) (fun q1 => ?_)
  · replace h := H.t q1 h
    refine c_seq ?_
    refine r_start ?_
    refine p 1 ?_
    refine rend ?_
    replace h := H.done h
    subst h
    exact ret func20 rfl (vs := [.int .i64 (-1)]) (.tmp (by kernel_rfl) .nil) rfl (fun W S => ⟨rfl, S.below⟩)
  replace h := H.f q1 h
  refine c_skip ?_
  refine c_seq ?_
  refine r_start ?_
  refine p 2 ?_
  refine rend ?_
  replace h := H.done h
  subst h
  exact ret func20 rfl (vs := [.int .i64 (wr (a1 - (List.length a0 : Int)))]) (.tmp (by kernel_rfl) .nil) rfl (fun W S => ⟨rfl, S.below⟩)
theorem C.s_ruMost {a0 : Int} {r : Int} (w : World) (h : X.s_ruMost a0 = some r) : Calls prog 161 #[.int .i64 a0] w (Ret w (.int .i64 r)) := by
  refine calls (M := no) (args := [.int .i64 a0]) func161 rfl ?_
  replace h : H (X.s_ruMost a0) (fun o => o = r) := H.mk h
  unfold X.s_ruMost at h
  refine c_seq ?_
  refine r_start ?_
  refine p 1 ?_
  refine rend ?_
  refine c_seq ?_
  refine r_start ?_
  refine xx rfl (e_lit (e := (eI .i64)) (el := 3) [.int .i64 18, .int .i64 9, .int .i64 4, .int .i64 3, .int .i64 9] ([18, 9, 4, 3, 9] : List Int) fun A1_0 k1_0 => ?_)
  refine p 1 ?_
  obtain ⟨y1_2, hy1_2, h⟩ := H.call h
  refine xq rfl (y_idx (e := (eI .i64)) (el := 3) hy1_2 (s_own 0)) ?_
  refine xq rfl (y_el (e := (eI .i64)) 0 (.int .i64 y1_2) hy1_2 (s_own 0)) ?_
  refine p 1 ?_
  refine rend ?_
  replace h := H.done h
  subst h
  exact ret func161 rfl (vs := [.int .i64 y1_2]) (.tmp (by kernel_rfl) .nil) rfl (fun W S => ⟨rfl, S.below⟩)
theorem C.s_ruGood {a0 : Constraint} {r : Bool} (w : World) (h : X.s_ruGood a0 = some r) : Calls prog 115 #[.agg (eConstraint a0).toArray] w (Ret w (.bool r)) := by
  refine calls (M := no) (args := [.agg (eConstraint a0).toArray]) func115 rfl ?_
  replace h : H (X.s_ruGood a0) (fun o => o = r) := H.mk h
  unfold X.s_ruGood at h
  refine c_seq ?_
  refine r_start ?_
  refine xx rfl (x_box (eConstraint a0) fun g0_0 => ?_)
  refine p 1 ?_
  refine rend ?_
  refine c_seq ?_
  refine as_start 22 22 ?_
  refine ap 0 1 ?_
  refine aq 1 rfl (y_load (.int .i64 a0.Kind) 0 g0_0 0) ?_
  obtain ⟨v1_2, hv1_2, h⟩ := H.call h
  refine aq 2 rfl (y_call [.int .i64 a0.Kind, .int .i64 0, .int .i64 4] (.bool v1_2) func96 (fun W S => C.s_l1In W hv1_2)) ?_
  refine ap 3 1 ?_
  refine br v1_2 (fun q1 => ?_) (fun q1 => ?_)
  · replace h := H.t q1 h
    refine a_set 6 (congrArg Value.bool q1) ?_
    refine ap 4 1 ?_
    refine aq 5 rfl (y_load (.int .i64 a0.Value) 0 g0_0 1) ?_
    refine ap 6 1 ?_
    refine aq 7 rfl (y_load (.int .i64 a0.Kind) 0 g0_0 0) ?_
    obtain ⟨v1_8, hv1_8, h⟩ := H.call h
    refine aq 8 rfl (y_call [.int .i64 a0.Kind] (.int .i64 v1_8) func161 (fun W S => C.s_ruMost W hv1_8)) ?_
    obtain ⟨v1_9, hv1_9, h⟩ := H.call h
    refine aq 9 rfl (y_call [.int .i64 a0.Value, .int .i64 0, .int .i64 v1_8] (.bool v1_9) func96 (fun W S => C.s_l1In W hv1_9)) ?_
    refine ap 10 2 ?_
    refine br v1_9 (fun q2 => ?_) (fun q2 => ?_)
    · replace h := H.t q2 h
      refine a_set 14 (congrArg Value.bool q2) ?_
      refine ap 12 1 ?_
      refine aq 13 rfl (y_load (.int .i64 a0.Kind) 0 g0_0 0) ?_
      refine ap 14 2 ?_
      refine br (a0.Kind != 3) (fun q3 => ?_) (fun q3 => ?_)
      · replace h := H.t q3 h
        refine a_set 18 (congrArg Value.bool q3) ?_
        refine ap 16 6 ?_
        refine a_done ?_
        replace h := H.done h
        subst h
        exact ret func115 rfl (vs := [.bool true]) (.tmp (by kernel_rfl) .nil) rfl (fun W S => ⟨rfl, S.below⟩)
      replace h := H.f q3 h
      refine a_set 18 (congrArg Value.bool q3) ?_
      refine ap 16 1 ?_
      refine aq 17 rfl (y_load (.int .i64 a0.Value) 0 g0_0 1) ?_
      obtain ⟨v1_18, hv1_18, h⟩ := H.call h
      refine aq 18 rfl (y_call [.int .i64 a0.Value, .int .i64 0, .int .i64 3] (.bool v1_18) func96 (fun W S => C.s_l1In W hv1_18)) ?_
      refine ap 19 3 ?_
      refine a_done ?_
      replace h := H.done h
      subst h
      exact ret func115 rfl (vs := [.bool v1_18]) (.tmp (by kernel_rfl) .nil) rfl (fun W S => ⟨rfl, S.below⟩)
    replace h := H.f q2 h
    refine a_set 14 (congrArg Value.bool q2) ?_
    refine ap 12 10 ?_
    refine a_done ?_
    replace h := H.done h
    subst h
    exact ret func115 rfl (vs := [.bool false]) (.tmp (by kernel_rfl) .nil) rfl (fun W S => ⟨rfl, S.below⟩)
  replace h := H.f q1 h
  refine a_set 6 (congrArg Value.bool q1) ?_
  refine ap 4 18 ?_
  refine a_done ?_
  replace h := H.done h
  subst h
  exact ret func115 rfl (vs := [.bool false]) (.tmp (by kernel_rfl) .nil) rfl (fun W S => ⟨rfl, S.below⟩)
theorem C.s_ruAll {a0 : (List Constraint)} {A0 : Option Addr} {k0 : Nat} {r : Bool} (w : World) (h : X.s_ruAll a0 = some r) (h0 : RdT nConstraint w (.slice A0 (List.length a0) k0) a0) : Calls prog 67 #[.slice A0 (List.length a0) k0] w (Ret w (.bool r)) := by
  refine calls (M := no) (args := [.slice A0 (List.length a0) k0]) func67 rfl ?_
  replace h : H (X.s_ruAll a0) (fun o => o = r) := H.mk h
  unfold X.s_ruAll at h
  refine c_seq ?_
  refine r_start ?_
  refine p 1 ?_
  refine rend ?_
  refine c_seq ?_
  refine c_seq ?_
  refine r_start ?_
  refine p 3 ?_
  refine rend ?_
  refine c_block ?_
  refine joinE (X := Unit) 0 (H.or h) (fun (x : Unit) => x) (fun _ => []) (fun _ u => (.slice A0 (List.length a0) k0 :: (jk u 1 17 []))) (fun h hj1 => ?_) ?_
  · skip
    refine rangeR (X := Unit) (s_arg h0) (fun (x : Unit) => x) (fun _ => []) (fun (j2 : Nat) _ u => (.slice A0 (List.length a0) k0 :: (jk u 1 4 (.slice A0 (List.length a0) k0 :: .int .i64 (List.length a0 : Int) :: .int .i64 (j2 : Int) :: (jk u 8 10 []))))) () h (by kernel_rfl) (by kernel_rfl) ?_ ?_
    · intro j2 x u x3 q4 hg5 hw6 h
      refine c_seq ?_
      refine r_start ?_
      refine p 1 ?_
      refine rend ?_
      refine c_seq ?_
      refine c_yes q4 ?_
      refine c_skip ?_
      refine c_seq ?_
      refine c_block ?_
      refine c_seq ?_
      refine r_start ?_
      refine xq rfl (y_idx (e := nConstraint) (el := 103) hg5 (s_arg h0)) ?_
      refine xq rfl (y_el (e := nConstraint) 0 (.agg (eConstraint x3).toArray) hg5 (s_arg h0)) ?_
      refine xx rfl (x_new (eConstraint zConstraint) fun g3_2 => ?_)
      refine xx rfl (x_sto 0 g3_2 0 (eConstraint x3) ?_)
      refine rend ?_
      refine c_seq ?_
      refine r_start ?_
      refine xq rfl (y_load (.agg (eConstraint x3).toArray) 0 g3_2 0) ?_
      obtain ⟨v4_1, hv4_1, h⟩ := H.call h
      refine xq rfl (y_call [.agg (eConstraint x3).toArray] (.bool v4_1) func115 (fun W S => C.s_ruGood W hv4_1)) ?_
      refine p 1 ?_
      refine rend ?_
      refine c_or (!v4_1) (fun q7 => ?_) (fun q7 => ?_)
      · replace h := H.t q7 h
        refine c_seq ?_
        refine r_start ?_
        refine p 1 ?_
        refine rend ?_
        replace h := H.inr h
        replace h := H.done h
        subst h
        exact ret func67 rfl (vs := [.bool false]) (.tmp (by kernel_rfl) .nil) rfl (fun W S => ⟨rfl, S.below⟩)
      replace h := H.f q7 h
      refine c_skip ?_
      refine c_inb ?_
      refine r_start ?_
      refine p 2 ?_
      refine rend ?_
      refine c_set 7 (ci hw6) ?_
      replace h := H.inl h
      exact h () _ _ rfl (by kernel_rfl) (by kernel_rfl)
    · intro x u q4 h
      refine c_seq ?_
      refine r_start ?_
      refine p 1 ?_
      refine rend ?_
      refine c_seq ?_
      refine c_no q4 ?_
      refine cx ?_
      replace h := H.done h
      exact hj1 () _ _ h (by kernel_rfl) (by kernel_rfl)
  intro x u h
  refine c_seq ?_
  refine r_start ?_
  refine p 4 ?_
  refine rend ?_
  replace h := H.done h
  subst h
  exact ret func67 rfl (vs := [.bool (decide ((List.length a0 : Int) ≤ 10))]) (.tmp (by kernel_rfl) .nil) rfl (fun W S => ⟨rfl, S.below⟩)
theorem C.s_ruSteps {fu : Nat} {a0 : Sign} {r : Int} (w : World) (h : X.s_ruSteps fu a0 = some r) : Calls prog 162 #[.agg (eSign a0).toArray] w (Ret w (.int .i64 r)) := by
  refine calls (M := no) (args := [.agg (eSign a0).toArray]) func162 rfl ?_
  replace h : H (X.s_ruSteps fu a0) (fun o => o = r) := H.mk h
  unfold X.s_ruSteps at h
  refine c_seq ?_
  refine r_start ?_
  refine xx rfl (x_box (eSign a0) fun g0_0 => ?_)
  refine p 1 ?_
  refine rend ?_
  refine c_seq ?_
  refine as_start 12 12 ?_
  refine ap 0 2 ?_
  refine aq 2 rfl (y_load (.agg (eMove a0.Main.Move).toArray) 0 g0_0 11) ?_
  obtain ⟨v1_3, hv1_3, h⟩ := H.call h
  refine aq 3 rfl (y_call [.agg (eMove a0.Main.Move).toArray] (.string (bs v1_3)) func176 (fun W S => C.s_mvAll W hv1_3)) ?_
  refine ap 4 3 ?_
  refine aq 7 rfl (y_load (.agg (eMove a0.Other.Move).toArray) 0 g0_0 25) ?_
  obtain ⟨v1_8, hv1_8, h⟩ := H.call h
  refine aq 8 rfl (y_call [.agg (eMove a0.Other.Move).toArray] (.string (bs v1_8)) func176 (fun W S => C.s_mvAll W hv1_8)) ?_
  refine ap 9 1 ?_
  obtain ⟨v1_10, hv1_10, h⟩ := H.call h
  refine aq 10 rfl (y_call [.int .i64 (List.length v1_3 : Int), .int .i64 (List.length v1_8 : Int)] (.int .i64 v1_10) func224 (fun W S => C.s_l1Most W hv1_10)) ?_
  refine ap 11 1 ?_
  refine a_done ?_
  replace h := H.done h
  subst h
  exact ret func162 rfl (vs := [.int .i64 v1_10]) (.tmp (by kernel_rfl) .nil) rfl (fun W S => ⟨rfl, S.below⟩)
theorem C.s_ruOpen {a0 : Sign} {r : Int} (w : World) (h : X.s_ruOpen a0 = some r) : Calls prog 163 #[.agg (eSign a0).toArray] w (Ret w (.int .i64 r)) := by
  refine calls (M := no) (args := [.agg (eSign a0).toArray]) func163 rfl ?_
  replace h : H (X.s_ruOpen a0) (fun o => o = r) := H.mk h
  unfold X.s_ruOpen at h
  refine c_seq ?_
  refine r_start ?_
  refine xx rfl (x_box (eSign a0) fun g0_0 => ?_)
  refine p 1 ?_
  refine rend ?_
  refine c_seq ?_
  refine r_start ?_
  refine p 1 ?_
  refine rend ?_
  refine c_seq ?_
  refine c_seq ?_
  refine r_start ?_
  refine p 2 ?_
  refine xq rfl (y_load (.agg (eShape a0.Main.Shape).toArray) 0 g0_0 0) ?_
  obtain ⟨v2_3, hv2_3, h⟩ := H.call h
  refine xx rfl (e_cr [.agg (eShape a0.Main.Shape).toArray] (fun v => v) func225 (fun W S => C.s_shFingers W hv2_3) fun A2_3 k2_3 => ?_)
  refine p 2 ?_
  refine rend ?_
  refine c_block ?_
  refine joinH (X := Int) 0 (H.bnd h) (fun (x : Int) => x) (fun n2 => [box g0_0 66 (eSign a0), rowT (eI .i64) w.heap.size 3 (.slice A2_3 (List.length v2_3) k2_3) v2_3]) (fun n2 u => (jk u 0 3 (.int .i64 n2 :: (jk u 4 17 [])))) (fun h hj3 => ?_) ?_
  · skip
    refine rangeR (X := Int) (s_own 1) (fun (x : Int) => x) (fun n1 => [box g0_0 66 (eSign a0), rowT (eI .i64) w.heap.size 3 (.slice A2_3 (List.length v2_3) k2_3) v2_3]) (fun (j4 : Nat) n1 u => (jk u 0 3 (.int .i64 n1 :: (jk u 4 5 (.slice A2_3 (List.length v2_3) k2_3 :: .int .i64 (List.length v2_3 : Int) :: .int .i64 (j4 : Int) :: (jk u 12 9 [])))))) 0 h (by kernel_rfl) (by kernel_rfl) ?_ ?_
    · intro j4 n1 u x5 q6 hg7 hw8 h
      refine c_seq ?_
      refine r_start ?_
      refine p 1 ?_
      refine rend ?_
      refine c_seq ?_
      refine c_yes q6 ?_
      refine c_skip ?_
      refine c_seq ?_
      refine c_block ?_
      refine c_seq ?_
      refine r_start ?_
      refine xq rfl (y_idx (e := (eI .i64)) (el := 3) hg7 (s_own 1)) ?_
      refine xq rfl (y_el (e := (eI .i64)) 0 (.int .i64 x5) hg7 (s_own 1)) ?_
      refine p 1 ?_
      refine rend ?_
      refine c_seq ?_
      refine r_start ?_
      refine p 2 ?_
      refine rend ?_
      refine c_or (x5 == 0) (fun q9 => ?_) (fun q9 => ?_)
      · replace h := H.t q9 h
        refine r_start ?_
        refine p 3 ?_
        refine rend ?_
        refine c_inb ?_
        refine r_start ?_
        refine p 2 ?_
        refine rend ?_
        refine c_set 11 (ci hw8) ?_
        replace h := H.inl h
        exact h (wr (n1 + 1)) _ _ rfl (by kernel_rfl) (by kernel_rfl)
      replace h := H.f q9 h
      refine c_skip ?_
      refine c_inb ?_
      refine r_start ?_
      refine p 2 ?_
      refine rend ?_
      refine c_set 11 (ci hw8) ?_
      replace h := H.inl h
      exact h n1 _ _ rfl (by kernel_rfl) (by kernel_rfl)
    · intro n1 u q6 h
      refine c_seq ?_
      refine r_start ?_
      refine p 1 ?_
      refine rend ?_
      refine c_seq ?_
      refine c_no q6 ?_
      refine cx ?_
      replace h := H.done h
      exact hj3 n1 _ _ h (by kernel_rfl) (by kernel_rfl)
  intro n2 u h
  refine c_seq ?_
  refine r_start ?_
  refine p 2 ?_
  refine rend ?_
  replace h := H.done h
  subst h
  exact ret func163 rfl (vs := [.int .i64 n2]) (.tmp (by kernel_rfl) .nil) rfl (fun W S => ⟨rfl, S.below⟩)
theorem C.s_ruKeeps {fu : Nat} {a0 : Sign} {a1 : Constraint} {r : Bool} (w : World) (h : X.s_ruKeeps fu a0 a1 = some r) : Calls prog 116 #[.agg (eSign a0).toArray, .agg (eConstraint a1).toArray] w (Ret w (.bool r)) := by
  refine calls (M := no) (args := [.agg (eSign a0).toArray, .agg (eConstraint a1).toArray]) func116 rfl ?_
  replace h : H (X.s_ruKeeps fu a0 a1) (fun o => o = r) := H.mk h
  unfold X.s_ruKeeps at h
  refine c_seq ?_
  refine r_start ?_
  refine xx rfl (x_box (eSign a0) fun g0_0 => ?_)
  refine xx rfl (x_box (eConstraint a1) fun g0_1 => ?_)
  refine p 1 ?_
  refine rend ?_
  refine c_seq ?_
  refine c_seq ?_
  refine r_start ?_
  refine p 1 ?_
  refine xq rfl (y_load (.int .i64 a1.Kind) 1 g0_1 0) ?_
  refine rend ?_
  refine c_block ?_
  refine c_seq ?_
  refine r_start ?_
  refine p 2 ?_
  refine rend ?_
  refine c_or (a1.Kind == 0) (fun q1 => ?_) (fun q1 => ?_)
  · replace h := H.t q1 h
    refine c_seq ?_
    refine as_start 6 6 ?_
    refine aq 0 rfl (y_load (.agg (eSign a0).toArray) 0 g0_0 0) ?_
    obtain ⟨v3_1, hv3_1, h⟩ := H.call h
    refine aq 1 rfl (y_call [.agg (eSign a0).toArray] (.int .i64 v3_1) func162 (fun W S => C.s_ruSteps W hv3_1)) ?_
    refine ap 2 1 ?_
    refine aq 3 rfl (y_load (.int .i64 a1.Value) 1 g0_1 1) ?_
    refine ap 4 2 ?_
    refine a_done ?_
    replace h := H.done h
    subst h
    exact ret func116 rfl (vs := [.bool (decide (v3_1 ≤ a1.Value))]) (.tmp (by kernel_rfl) .nil) rfl (fun W S => ⟨rfl, S.below⟩)
  replace h := H.f q1 h
  refine c_seq ?_
  refine r_start ?_
  refine p 2 ?_
  refine rend ?_
  refine c_or (a1.Kind == 1) (fun q2 => ?_) (fun q2 => ?_)
  · replace h := H.t q2 h
    refine c_seq ?_
    refine r_start ?_
    refine p 3 ?_
    refine xq rfl (y_load (.int .i64 a0.Main.Place.Region) 0 g0_0 8) ?_
    refine p 1 ?_
    refine xq rfl (y_load (.int .i64 a1.Value) 1 g0_1 1) ?_
    refine p 2 ?_
    refine br (a0.Main.Place.Region != a1.Value) (fun q3 => ?_) (fun q3 => ?_)
    · replace h := H.t q3 h
      refine o_set 23 (congrArg Value.bool q3) ?_
      refine p 1 ?_
      refine xq rfl (y_load (.bool a0.Two) 0 g0_0 13) ?_
      refine p 2 ?_
      refine br (!a0.Two) (fun q4 => ?_) (fun q4 => ?_)
      · replace h := H.t q4 h
        refine o_set 27 (congrArg Value.bool q4) ?_
        refine p 10 ?_
        refine rend ?_
        replace h := H.done h
        subst h
        exact ret func116 rfl (vs := [.bool true]) (.tmp (by kernel_rfl) .nil) rfl (fun W S => ⟨rfl, S.below⟩)
      replace h := H.f q4 h
      refine o_set 27 (congrArg Value.bool q4) ?_
      refine p 3 ?_
      refine xq rfl (y_load (.int .i64 a0.Other.Place.Region) 0 g0_0 22) ?_
      refine p 1 ?_
      refine xq rfl (y_load (.int .i64 a1.Value) 1 g0_1 1) ?_
      refine p 4 ?_
      refine rend ?_
      replace h := H.done h
      subst h
      exact ret func116 rfl (vs := [.bool (a0.Other.Place.Region != a1.Value)]) (.tmp (by kernel_rfl) .nil) rfl (fun W S => ⟨rfl, S.below⟩)
    replace h := H.f q3 h
    refine o_set 23 (congrArg Value.bool q3) ?_
    refine p 14 ?_
    refine rend ?_
    replace h := H.done h
    subst h
    exact ret func116 rfl (vs := [.bool false]) (.tmp (by kernel_rfl) .nil) rfl (fun W S => ⟨rfl, S.below⟩)
  replace h := H.f q2 h
  refine c_seq ?_
  refine r_start ?_
  refine p 2 ?_
  refine rend ?_
  refine c_or (a1.Kind == 2) (fun q5 => ?_) (fun q5 => ?_)
  · replace h := H.t q5 h
    refine c_seq ?_
    refine as_start 6 6 ?_
    refine aq 0 rfl (y_load (.agg (eSign a0).toArray) 0 g0_0 0) ?_
    obtain ⟨v7_1, hv7_1, h⟩ := H.call h
    refine aq 1 rfl (y_call [.agg (eSign a0).toArray] (.int .i64 v7_1) func163 (fun W S => C.s_ruOpen W hv7_1)) ?_
    refine ap 2 1 ?_
    refine aq 3 rfl (y_load (.int .i64 a1.Value) 1 g0_1 1) ?_
    refine ap 4 2 ?_
    refine a_done ?_
    replace h := H.done h
    subst h
    exact ret func116 rfl (vs := [.bool (decide (v7_1 ≥ a1.Value))]) (.tmp (by kernel_rfl) .nil) rfl (fun W S => ⟨rfl, S.below⟩)
  replace h := H.f q5 h
  refine c_seq ?_
  refine r_start ?_
  refine p 2 ?_
  refine rend ?_
  refine c_or (a1.Kind == 3) (fun q6 => ?_) (fun q6 => ?_)
  · replace h := H.t q6 h
    refine c_seq ?_
    refine as_start 6 6 ?_
    refine aq 0 rfl (y_load (.agg (eSign a0).toArray) 0 g0_0 0) ?_
    obtain ⟨v9_1, hv9_1, h⟩ := H.call h
    refine aq 1 rfl (y_call [.agg (eSign a0).toArray] (.int .i64 v9_1) func138 (fun W S => C.s_siKind W hv9_1)) ?_
    refine ap 2 1 ?_
    refine aq 3 rfl (y_load (.int .i64 a1.Value) 1 g0_1 1) ?_
    refine ap 4 2 ?_
    refine a_done ?_
    replace h := H.done h
    subst h
    exact ret func116 rfl (vs := [.bool (v9_1 != a1.Value)]) (.tmp (by kernel_rfl) .nil) rfl (fun W S => ⟨rfl, S.below⟩)
  replace h := H.f q6 h
  refine c_skip ?_
  refine c_inb ?_
  refine c_seq ?_
  refine r_start ?_
  refine p 3 ?_
  refine xq rfl (y_load (.int .i64 a0.Main.Place.Region) 0 g0_0 8) ?_
  refine p 1 ?_
  refine xq rfl (y_load (.int .i64 a1.Value) 1 g0_1 1) ?_
  refine p 2 ?_
  refine rend ?_
  replace h := H.done h
  subst h
  exact ret func116 rfl (vs := [.bool (decide (a0.Main.Place.Region ≤ a1.Value))]) (.tmp (by kernel_rfl) .nil) rfl (fun W S => ⟨rfl, S.below⟩)
theorem C.s_ruBroken {fu : Nat} {a0 : Sign} {a1 : (List Constraint)} {A1 : Option Addr} {k1 : Nat} {r : (List Int)} (w : World) (h : X.s_ruBroken fu a0 a1 = some r) (h1 : RdT nConstraint w (.slice A1 (List.length a1) k1) a1) : Calls prog 68 #[.agg (eSign a0).toArray, .slice A1 (List.length a1) k1] w (RetR (eI .i64) 3 w r (fun v => v)) := by
  refine calls (M := no) (args := [.agg (eSign a0).toArray, .slice A1 (List.length a1) k1]) func68 rfl ?_
  replace h : H (X.s_ruBroken fu a0 a1) (fun o => o = r) := H.mk h
  unfold X.s_ruBroken at h
  refine c_seq ?_
  refine r_start ?_
  refine xx rfl (x_box (eSign a0) fun g0_0 => ?_)
  refine p 1 ?_
  refine rend ?_
  refine c_seq ?_
  refine r_start ?_
  refine p 1 ?_
  refine rend ?_
  refine c_seq ?_
  refine c_seq ?_
  refine r_start ?_
  refine p 3 ?_
  refine rend ?_
  refine c_block ?_
  refine c_nil (eI .i64) 3 ?_
  refine joinH (X := ((List Int) × Option Addr × Nat)) 0 (H.bnd h) (fun ⟨l4, A5, k6⟩ => l4) (fun ⟨l4, A5, k6⟩ => [box g0_0 66 (eSign a0), rowT (eI .i64) w.heap.size 3 (.slice A5 (List.length l4) k6) l4]) (fun ⟨l4, A5, k6⟩ u => (jk u 0 5 (.slice A5 (List.length l4) k6 :: (jk u 6 19 [])))) (fun h hj7 => ?_) ?_
  · skip
    refine rangeR (X := ((List Int) × Option Addr × Nat)) (s_arg h1) (fun ⟨l1, A2, k3⟩ => l1) (fun ⟨l1, A2, k3⟩ => [box g0_0 66 (eSign a0), rowT (eI .i64) w.heap.size 3 (.slice A2 (List.length l1) k3) l1]) (fun (j8 : Nat) ⟨l1, A2, k3⟩ u => (jk u 0 2 (.pointer (some ⟨g0_0, 0, none⟩) :: (jk u 3 2 (.slice A2 (List.length l1) k3 :: (jk u 6 2 (.slice A1 (List.length a1) k1 :: .int .i64 (List.length a1 : Int) :: .int .i64 (j8 : Int) :: (jk u 11 14 [])))))))) (([] : List Int), none, 0) h (by kernel_rfl) (by kernel_rfl) ?_ ?_
    · intro j8 x u x9 q10 hg11 hw12 h
      obtain ⟨l1, A2, k3⟩ := x
      refine c_seq ?_
      refine r_start ?_
      refine p 1 ?_
      refine rend ?_
      refine c_seq ?_
      refine c_yes q10 ?_
      refine c_skip ?_
      refine c_seq ?_
      refine c_block ?_
      refine c_seq ?_
      refine r_start ?_
      refine p 1 ?_
      refine xq rfl (y_idx (e := nConstraint) (el := 103) hg11 (s_arg h1)) ?_
      refine xq rfl (y_el (e := nConstraint) 0 (.agg (eConstraint x9).toArray) hg11 (s_arg h1)) ?_
      refine xx rfl (x_new (eConstraint zConstraint) fun g4_3 => ?_)
      refine p 1 ?_
      refine xx rfl (x_sto 2 g4_3 0 (eConstraint x9) ?_)
      refine rend ?_
      refine c_seq ?_
      refine r_start ?_
      refine xq rfl (y_load (.agg (eSign a0).toArray) 0 g0_0 0) ?_
      refine xq rfl (y_load (.agg (eConstraint x9).toArray) 2 g4_3 0) ?_
      obtain ⟨v5_2, hv5_2, h⟩ := H.call h
      refine xq rfl (y_call [.agg (eSign a0).toArray, .agg (eConstraint x9).toArray] (.bool v5_2) func116 (fun W S => C.s_ruKeeps W hv5_2)) ?_
      refine p 1 ?_
      refine rend ?_
      refine c_or (!v5_2) (fun q13 => ?_) (fun q13 => ?_)
      · replace h := H.t q13 h
        refine r_start ?_
        refine p 2 ?_
        refine xx rfl (e_lit (e := (eI .i64)) (el := 3) [.int .i64 (j8 : Int)] ([(j8 : Int)] : List Int) fun A6_2 k6_2 => ?_)
        obtain ⟨y6_3, hy6_3, h⟩ := H.call h
        refine xx rfl (e_app 1 hy6_3 (s_own 3) fun A6_3 k6_3 => ?_)
        refine p 1 ?_
        refine rend ?_
        refine c_inb ?_
        refine r_start ?_
        refine p 2 ?_
        refine rend ?_
        refine c_set 10 (ci hw12) ?_
        replace h := H.inl h
        exact h (y6_3, A6_3, k6_3) _ _ rfl (by kernel_rfl) (by kernel_rfl)
      replace h := H.f q13 h
      refine c_skip ?_
      refine c_inb ?_
      refine r_start ?_
      refine p 2 ?_
      refine rend ?_
      refine c_set 10 (ci hw12) ?_
      replace h := H.inl h
      exact h (l1, A2, k3) _ _ rfl (by kernel_rfl) (by kernel_rfl)
    · intro x u q10 h
      obtain ⟨l1, A2, k3⟩ := x
      refine c_seq ?_
      refine r_start ?_
      refine p 1 ?_
      refine rend ?_
      refine c_seq ?_
      refine c_no q10 ?_
      refine cx ?_
      replace h := H.done h
      exact hj7 (l1, A2, k3) _ _ h (by kernel_rfl) (by kernel_rfl)
  intro x u h
  obtain ⟨l4, A5, k6⟩ := x
  refine c_seq ?_
  refine r_start ?_
  refine p 2 ?_
  refine rend ?_
  replace h := H.done h
  subst h
  exact ret func68 rfl (vs := [.slice A5 (List.length l4) k6]) (.tmp (by kernel_rfl) .nil) rfl (fun W S => ⟨_, _, rfl, S.row 1, S.below⟩)
theorem C.s_LawfulSigns {fu : Nat} {a0 : (List Sign)} {A0 : Option Addr} {k0 : Nat} {a1 : (List Constraint)} {A1 : Option Addr} {k1 : Nat} {r : ((List Int) × Bool)} (w : World) (h : X.s_LawfulSigns fu a0 a1 = some r) (h0 : RdT nSign w (.slice A0 (List.length a0) k0) a0) (h1 : RdT nConstraint w (.slice A1 (List.length a1) k1) a1) : Calls prog 21 #[.slice A0 (List.length a0) k0, .slice A1 (List.length a1) k1] w (RetR (eI .i64) 3 w r.1 (fun v => .tuple #[v, .bool r.2])) := by
  refine calls (M := no) (args := [.slice A0 (List.length a0) k0, .slice A1 (List.length a1) k1]) func21 rfl ?_
  replace h : H (X.s_LawfulSigns fu a0 a1) (fun o => o = r) := H.mk h
  unfold X.s_LawfulSigns at h
  refine c_seq ?_
  refine r_start ?_
  refine p 2 ?_
  refine rend ?_
  refine c_seq ?_
  refine c_seq ?_
  refine r_start ?_
  refine p 1 ?_
  obtain ⟨v1_1, hv1_1, h⟩ := H.call h
  refine xq rfl (y_call [.slice A0 (List.length a0) k0] (.bool v1_1) func66 (fun W S => C.s_paList W hv1_1 ((s_arg h0).out W S))) ?_
  refine p 2 ?_
  refine br (!v1_1) (fun q1 => ?_) (fun q1 => ?_)
  · replace h := H.t q1 h
    refine o_set 12 (congrArg Value.bool q1) ?_
    refine p 4 ?_
    refine rend ?_
    refine c_t (by kernel_rfl) ?_
    refine c_seq ?_
    refine r_start ?_
    refine p 2 ?_
    refine rend ?_
    replace h := H.done h
    subst h
    exact ret func21 rfl (vs := [.slice none 0 0, .bool false]) (.tmp (by kernel_rfl) (.tmp (by kernel_rfl) .nil)) rfl (fun W S => ⟨none, 0, rfl, World.ownsRow_nil _ _ _ _, S.below⟩)
  replace h := H.f q1 h
  refine o_set 12 (congrArg Value.bool q1) ?_
  refine p 1 ?_
  obtain ⟨v1_5, hv1_5, h⟩ := H.call h
  refine xq rfl (y_call [.slice A1 (List.length a1) k1] (.bool v1_5) func67 (fun W S => C.s_ruAll W hv1_5 ((s_arg h1).out W S))) ?_
  refine p 2 ?_
  refine rend ?_
  refine c_or (!v1_5) (fun q2 => ?_) (fun q2 => ?_)
  · replace h := H.t q2 h
    refine c_seq ?_
    refine r_start ?_
    refine p 2 ?_
    refine rend ?_
    replace h := H.done h
    subst h
    exact ret func21 rfl (vs := [.slice none 0 0, .bool false]) (.tmp (by kernel_rfl) (.tmp (by kernel_rfl) .nil)) rfl (fun W S => ⟨none, 0, rfl, World.ownsRow_nil _ _ _ _, S.below⟩)
  replace h := H.f q2 h
  refine c_skip ?_
  refine c_seq ?_
  refine r_start ?_
  refine p 1 ?_
  refine rend ?_
  refine c_seq ?_
  refine c_seq ?_
  refine r_start ?_
  refine p 3 ?_
  refine rend ?_
  refine c_block ?_
  refine c_nil (eI .i64) 3 ?_
  refine joinH (X := ((List Int) × Option Addr × Nat)) 0 (H.bnd h) (fun ⟨l6, A7, k8⟩ => l6) (fun ⟨l6, A7, k8⟩ => [rowT (eI .i64) w.heap.size 3 (.slice A7 (List.length l6) k8) l6]) (fun ⟨l6, A7, k8⟩ u => (jk u 0 6 (.slice A7 (List.length l6) k8 :: (jk u 7 28 [])))) (fun h hj9 => ?_) ?_
  · skip
    refine rangeR (X := ((List Int) × Option Addr × Nat)) (s_arg h0) (fun ⟨l3, A4, k5⟩ => l3) (fun ⟨l3, A4, k5⟩ => [rowT (eI .i64) w.heap.size 3 (.slice A4 (List.length l3) k5) l3]) (fun (j10 : Nat) ⟨l3, A4, k5⟩ u => (jk u 0 1 (.slice A1 (List.length a1) k1 :: (jk u 2 4 (.slice A4 (List.length l3) k5 :: (jk u 7 10 (.slice A0 (List.length a0) k0 :: .int .i64 (List.length a0 : Int) :: .int .i64 (j10 : Int) :: (jk u 20 15 [])))))))) (([] : List Int), none, 0) h (by kernel_rfl) (by kernel_rfl) ?_ ?_
    · intro j10 x u x11 q12 hg13 hw14 h
      obtain ⟨l3, A4, k5⟩ := x
      refine c_seq ?_
      refine r_start ?_
      refine p 1 ?_
      refine rend ?_
      refine c_seq ?_
      refine c_yes q12 ?_
      refine c_skip ?_
      refine c_seq ?_
      refine c_block ?_
      refine c_seq ?_
      refine r_start ?_
      refine p 1 ?_
      refine xq rfl (y_idx (e := nSign) (el := 66) hg13 (s_arg h0)) ?_
      refine xq rfl (y_el (e := nSign) 0 (.agg (eSign x11).toArray) hg13 (s_arg h0)) ?_
      refine xx rfl (x_new (eSign zSign) fun g6_3 => ?_)
      refine p 1 ?_
      refine xx rfl (x_sto 1 g6_3 0 (eSign x11) ?_)
      refine rend ?_
      refine c_seq ?_
      refine r_start ?_
      refine xq rfl (y_load (.agg (eSign x11).toArray) 1 g6_3 0) ?_
      refine p 1 ?_
      obtain ⟨v7_2, hv7_2, h⟩ := H.call h
      refine xx rfl (e_cr [.agg (eSign x11).toArray, .slice A1 (List.length a1) k1] (fun v => v) func68 (fun W S => C.s_ruBroken W hv7_2 ((s_arg h1).out W S)) fun A7_2 k7_2 => ?_)
      refine p 2 ?_
      refine rend ?_
      refine c_or ((List.length v7_2 : Int) == 0) (fun q15 => ?_) (fun q15 => ?_)
      · replace h := H.t q15 h
        refine r_start ?_
        refine p 2 ?_
        refine xx rfl (e_lit (e := (eI .i64)) (el := 3) [.int .i64 (j10 : Int)] ([(j10 : Int)] : List Int) fun A8_2 k8_2 => ?_)
        obtain ⟨y8_3, hy8_3, h⟩ := H.call h
        refine xx rfl (e_app 0 hy8_3 (s_own 3) fun A8_3 k8_3 => ?_)
        refine p 1 ?_
        refine rend ?_
        refine c_inb ?_
        refine r_start ?_
        refine p 2 ?_
        refine rend ?_
        refine c_set 19 (ci hw14) ?_
        replace h := H.inl h
        exact h (y8_3, A8_3, k8_3) _ _ rfl (by kernel_rfl) (by kernel_rfl)
      replace h := H.f q15 h
      refine c_skip ?_
      refine c_inb ?_
      refine r_start ?_
      refine p 2 ?_
      refine rend ?_
      refine c_set 19 (ci hw14) ?_
      replace h := H.inl h
      exact h (l3, A4, k5) _ _ rfl (by kernel_rfl) (by kernel_rfl)
    · intro x u q12 h
      obtain ⟨l3, A4, k5⟩ := x
      refine c_seq ?_
      refine r_start ?_
      refine p 1 ?_
      refine rend ?_
      refine c_seq ?_
      refine c_no q12 ?_
      refine cx ?_
      replace h := H.done h
      exact hj9 (l3, A4, k5) _ _ h (by kernel_rfl) (by kernel_rfl)
  intro x u h
  obtain ⟨l6, A7, k8⟩ := x
  refine c_seq ?_
  refine r_start ?_
  refine p 3 ?_
  refine rend ?_
  replace h := H.done h
  subst h
  exact ret func21 rfl (vs := [.slice A7 (List.length l6) k8, .bool true]) (.tmp (by kernel_rfl) (.tmp (by kernel_rfl) .nil)) rfl (fun W S => ⟨_, _, rfl, S.row 0, S.below⟩)
theorem C.l_toConstraint {a0 : Constraint} {r : Constraint} (w : World) (h : X.l_toConstraint a0 = some r) : Calls prog 69 #[.agg (eConstraint a0).toArray] w (Ret w (.agg (eConstraint r).toArray)) := by
  refine calls (M := no) (args := [.agg (eConstraint a0).toArray]) func69 rfl ?_
  replace h : H (X.l_toConstraint a0) (fun o => o = r) := H.mk h
  unfold X.l_toConstraint at h
  refine c_seq ?_
  refine r_start ?_
  refine xx rfl (x_box (eConstraint a0) fun g0_0 => ?_)
  refine xx rfl (x_new (eConstraint zConstraint) fun g0_1 => ?_)
  refine rend ?_
  refine c_seq ?_
  refine r_start ?_
  refine xx rfl (x_new (eConstraint zConstraint) fun g1_0 => ?_)
  refine rend ?_
  refine c_seq ?_
  refine r_start ?_
  refine p 1 ?_
  refine xq rfl (y_load (.int .i64 a0.Kind) 0 g0_0 0) ?_
  refine p 1 ?_
  refine xx rfl (x_sto 2 g1_0 0 (eConstraint ({ a0 with Value := zConstraint.Value })) ?_)
  refine rend ?_
  refine c_seq ?_
  refine r_start ?_
  refine p 1 ?_
  refine xq rfl (y_load (.int .i64 a0.Value) 0 g0_0 1) ?_
  refine p 1 ?_
  refine xx rfl (x_sto 2 g1_0 1 (eConstraint a0) ?_)
  refine rend ?_
  refine c_seq ?_
  refine r_start ?_
  refine xq rfl (y_load (.agg (eConstraint a0).toArray) 2 g1_0 0) ?_
  refine xx rfl (x_sto 1 g0_1 0 (eConstraint a0) ?_)
  refine rend ?_
  replace h := H.done h
  subst h
  exact ret func69 rfl (vs := [.agg (eConstraint a0).toArray]) (.cell 1 g0_1 rfl (by kernel_rfl) (by kernel_rfl) .nil) rfl (fun W S => ⟨rfl, S.below⟩)
theorem C.l_toConstraintS {fu : Nat} {a0 : (List Constraint)} {A0 : Option Addr} {k0 : Nat} {r : (List Constraint)} (w : World) (h : X.l_toConstraintS fu a0 = some r) (h0 : RdT nConstraint w (.slice A0 (List.length a0) k0) a0) : Calls prog 22 #[.slice A0 (List.length a0) k0] w (RetR nConstraint 103 w r (fun v => v)) := by
  refine calls (M := no) (args := [.slice A0 (List.length a0) k0]) func22 rfl ?_
  replace h : H (X.l_toConstraintS fu a0) (fun o => o = r) := H.mk h
  unfold X.l_toConstraintS at h
  refine c_seq ?_
  refine r_start ?_
  refine p 1 ?_
  refine rend ?_
  refine c_seq ?_
  refine r_start ?_
  refine p 2 ?_
  obtain ⟨y1_2, hy1_2, h⟩ := H.call h
  refine xx rfl (e_make (el := 103) hy1_2 fun A1_2 k1_2 => ?_)
  refine p 1 ?_
  refine rend ?_
  refine c_seq ?_
  refine c_seq ?_
  refine r_start ?_
  refine p 1 ?_
  refine rend ?_
  refine c_block ?_
  refine joinH (X := ((List Constraint) × Option Addr × Nat)) 0 (H.bnd h) (fun ⟨l5, A6, k7⟩ => l5) (fun ⟨l5, A6, k7⟩ => [rowT nConstraint w.heap.size 103 (.slice A6 (List.length l5) k7) l5]) (fun ⟨l5, A6, k7⟩ u => (jk u 0 3 (.slice A6 (List.length l5) k7 :: (jk u 4 19 [])))) (fun h hj8 => ?_) ?_
  · skip
    refine loopR (X := (Int × (List Constraint) × Option Addr × Nat)) (fun ⟨n1, l2, A3, k4⟩ => (n1, l2)) (fun ⟨n1, l2, A3, k4⟩ => [rowT nConstraint w.heap.size 103 (.slice A3 (List.length l2) k4) l2]) (fun ⟨n1, l2, A3, k4⟩ u => (.slice A0 (List.length a0) k0 :: (jk u 1 2 (.slice A3 (List.length l2) k4 :: .int .i64 n1 :: (jk u 5 18 []))))) (0, y1_2, A1_2, k1_2) h (by kernel_rfl) (by kernel_rfl) ?_
    intro x u h
    obtain ⟨n1, l2, A3, k4⟩ := x
    refine c_seq ?_
    refine c_seq ?_
    refine r_start ?_
    refine p 4 ?_
    refine rend ?_
    refine c_or (decide (n1 < (List.length a0 : Int))) (fun q9 => ?_) (fun q9 => ?_)
    · replace h := H.t q9 h
      refine c_skip ?_
      refine c_seq ?_
      refine c_block ?_
      refine r_start ?_
      refine p 4 ?_
      obtain ⟨y5_4, hy5_4, h⟩ := H.call h
      refine xq rfl (y_idx (e := nConstraint) (el := 105) hy5_4 (s_arg h0)) ?_
      refine xq rfl (y_el (e := nConstraint) 0 (.agg (eConstraint y5_4).toArray) hy5_4 (s_arg h0)) ?_
      obtain ⟨v5_6, hv5_6, h⟩ := H.call h
      refine xq rfl (y_call [.agg (eConstraint y5_4).toArray] (.agg (eConstraint v5_6).toArray) func69 (fun W S => C.l_toConstraint W hv5_6)) ?_
      obtain ⟨y5_7, hy5_7, h⟩ := H.call h
      refine xq rfl (y_idx (e := nConstraint) (el := 103) hy5_7 (s_own 0)) ?_
      refine xx rfl (e_stel (e := nConstraint) (b := v5_6) 0 0 (eConstraint v5_6) hy5_7 (by kernel_rfl) ?_)
      refine o_set 3 (sl_set (A := A3) (c := k4) (l := l2) (n := Int.toNat n1) (b := v5_6)) ?_
      refine rend ?_
      refine c_inb ?_
      refine r_start ?_
      refine p 3 ?_
      refine rend ?_
      replace h := H.inl h
      exact h ((wr (n1 + 1)), (List.set l2 (Int.toNat n1) v5_6), A3, k4) _ _ rfl (by kernel_rfl) (by kernel_rfl)
    replace h := H.f q9 h
    refine cx ?_
    replace h := H.inr h
    exact hj8 (l2, A3, k4) _ _ h (by kernel_rfl) (by kernel_rfl)
  intro x u h
  obtain ⟨l5, A6, k7⟩ := x
  refine c_seq ?_
  refine r_start ?_
  refine p 2 ?_
  refine rend ?_
  replace h := H.done h
  subst h
  exact ret func22 rfl (vs := [.slice A6 (List.length l5) k7]) (.tmp (by kernel_rfl) .nil) rfl (fun W S => ⟨_, _, rfl, S.row 0, S.below⟩)
theorem C.slices_IndexFunc_i_Constraint_i_Constraint {a0 : (List Constraint)} {A0 : Option Addr} {k0 : Nat} {a1 : (Constraint → Option Bool)} {g1 : Nat} {cp1 : List Value} {r : Int} (w : World) (h : X.slices_IndexFunc_i_Constraint_i_Constraint a0 a1 = some r) (h0 : RdT nConstraint w (.slice A0 (List.length a0) k0) a0) (hg1 : isFn prog g1 = true) (hF1 : ∀ (x0 : Constraint) (r : Bool) (W : World), Up w W → a1 x0 = some r → Calls prog g1 (([.agg (eConstraint x0).toArray] : List Value) ++ cp1).toArray W (Ret W (.bool r))) : Calls prog 164 #[.slice A0 (List.length a0) k0, .func (.func g1) #[] cp1.toArray] w (Ret w (.int .i64 r)) := by
  refine calls (M := no) (args := [.slice A0 (List.length a0) k0, .func (.func g1) #[] cp1.toArray]) func164 rfl ?_
  replace h : H (X.slices_IndexFunc_i_Constraint_i_Constraint a0 a1) (fun o => o = r) := H.mk h
  unfold X.slices_IndexFunc_i_Constraint_i_Constraint at h
  refine c_seq ?_
  refine r_start ?_
  refine p 1 ?_
  refine rend ?_
  refine c_seq ?_
  refine c_seq ?_
  refine r_start ?_
  refine p 3 ?_
  refine rend ?_
  refine c_block ?_
  refine joinE (X := Unit) 0 (H.or h) (fun (x : Unit) => x) (fun _ => []) (fun _ u => (jk u 0 19 [])) (fun h hj1 => ?_) ?_
  · skip
    refine rangeR (X := Unit) (s_arg h0) (fun (x : Unit) => x) (fun _ => []) (fun (j2 : Nat) _ u => (.slice A0 (List.length a0) k0 :: .func (.func g1) #[] cp1.toArray :: (jk u 2 5 (.int .i64 (List.length a0 : Int) :: .int .i64 (j2 : Int) :: (jk u 9 10 []))))) () h (by kernel_rfl) (by kernel_rfl) ?_ ?_
    · intro j2 x u x3 q4 hg5 hw6 h
      refine c_seq ?_
      refine r_start ?_
      refine p 1 ?_
      refine rend ?_
      refine c_seq ?_
      refine c_yes q4 ?_
      refine c_skip ?_
      refine c_seq ?_
      refine c_block ?_
      refine c_seq ?_
      refine r_start ?_
      refine p 2 ?_
      refine rend ?_
      refine c_seq ?_
      refine r_start ?_
      refine p 3 ?_
      refine xq rfl (y_idx (e := nConstraint) (el := 103) hg5 (s_arg h0)) ?_
      refine xq rfl (y_el (e := nConstraint) 0 (.agg (eConstraint x3).toArray) hg5 (s_arg h0)) ?_
      obtain ⟨v4_5, hv4_5, h⟩ := H.call h
      refine xq rfl (y_cf cp1 [.agg (eConstraint x3).toArray] (.bool v4_5) hg1 (fun W S => hF1 _ _ W S.below hv4_5)) ?_
      refine rend ?_
      refine c_or v4_5 (fun q7 => ?_) (fun q7 => ?_)
      · replace h := H.t q7 h
        refine c_seq ?_
        refine r_start ?_
        refine p 2 ?_
        refine rend ?_
        replace h := H.inr h
        replace h := H.done h
        subst h
        exact ret func164 rfl (vs := [.int .i64 (j2 : Int)]) (.tmp (by kernel_rfl) .nil) rfl (fun W S => ⟨rfl, S.below⟩)
      replace h := H.f q7 h
      refine c_skip ?_
      refine c_inb ?_
      refine r_start ?_
      refine p 2 ?_
      refine rend ?_
      refine c_set 8 (ci hw6) ?_
      replace h := H.inl h
      exact h () _ _ rfl (by kernel_rfl) (by kernel_rfl)
    · intro x u q4 h
      refine c_seq ?_
      refine r_start ?_
      refine p 1 ?_
      refine rend ?_
      refine c_seq ?_
      refine c_no q4 ?_
      refine cx ?_
      replace h := H.done h
      exact hj1 () _ _ h (by kernel_rfl) (by kernel_rfl)
  intro x u h
  refine c_seq ?_
  refine r_start ?_
  refine p 1 ?_
  refine rend ?_
  replace h := H.done h
  subst h
  exact ret func164 rfl (vs := [.int .i64 (-1)]) (.tmp (by kernel_rfl) .nil) rfl (fun W S => ⟨rfl, S.below⟩)
theorem C.slices_ContainsFunc_i_Constraint_i_Constraint {a0 : (List Constraint)} {A0 : Option Addr} {k0 : Nat} {a1 : (Constraint → Option Bool)} {g1 : Nat} {cp1 : List Value} {r : Bool} (w : World) (h : X.slices_ContainsFunc_i_Constraint_i_Constraint a0 a1 = some r) (h0 : RdT nConstraint w (.slice A0 (List.length a0) k0) a0) (hg1 : isFn prog g1 = true) (hF1 : ∀ (x0 : Constraint) (r : Bool) (W : World), Up w W → a1 x0 = some r → Calls prog g1 (([.agg (eConstraint x0).toArray] : List Value) ++ cp1).toArray W (Ret W (.bool r))) : Calls prog 118 #[.slice A0 (List.length a0) k0, .func (.func g1) #[] cp1.toArray] w (Ret w (.bool r)) := by
  refine calls (M := no) (args := [.slice A0 (List.length a0) k0, .func (.func g1) #[] cp1.toArray]) func118 rfl ?_
  replace h : H (X.slices_ContainsFunc_i_Constraint_i_Constraint a0 a1) (fun o => o = r) := H.mk h
  unfold X.slices_ContainsFunc_i_Constraint_i_Constraint at h
  refine c_seq ?_
  refine r_start ?_
  refine p 1 ?_
  refine rend ?_
  refine c_seq ?_
  refine r_start ?_
  refine p 2 ?_
  obtain ⟨v1_2, hv1_2, h⟩ := H.call h
  refine xq rfl (y_call [.slice A0 (List.length a0) k0, .func (.func g1) #[] cp1.toArray] (.int .i64 v1_2) func164 (fun W S => C.slices_IndexFunc_i_Constraint_i_Constraint W hv1_2 ((s_arg h0).out W S) hg1 (fun x0_2 r W2 hu2 hx2 => hF1 x0_2 r W2 (Up.trans S.below hu2) hx2))) ?_
  refine p 2 ?_
  refine rend ?_
  replace h := H.done h
  subst h
  exact ret func118 rfl (vs := [.bool (decide (v1_2 ≥ 0))]) (.tmp (by kernel_rfl) .nil) rfl (fun W S => ⟨rfl, S.below⟩)
theorem C.i_allOf_i_Constraint_1 {a0 : Constraint} {a1 : (Constraint → Option Bool)} {g1 : Nat} {cp1 : List Value} {p1 : Nat} {r : Bool} (w : World) (h : X.i_allOf_i_Constraint_1 a1 a0 = some r) (hg1 : isFn prog g1 = true) (hF1 : ∀ (x0 : Constraint) (r : Bool) (W : World), Up w W → a1 x0 = some r → Calls prog g1 (([.agg (eConstraint x0).toArray] : List Value) ++ cp1).toArray W (Ret W (.bool r))) (hp1 : w.heap[p1]? = some (.cells ([.func (.func g1) #[] cp1.toArray] : List Value).toArray 109 (0, 0))) : Calls prog 119 #[.agg (eConstraint a0).toArray, .pointer (some ⟨p1, 0, none⟩)] w (Ret w (.bool r)) := by
  refine calls (M := no) (args := [.agg (eConstraint a0).toArray, .pointer (some ⟨p1, 0, none⟩)]) func119 rfl ?_
  replace h : H (X.i_allOf_i_Constraint_1 a1 a0) (fun o => o = r) := H.mk h
  unfold X.i_allOf_i_Constraint_1 at h
  refine c_seq ?_
  refine r_start ?_
  refine xx rfl (x_box (eConstraint a0) fun g0_0 => ?_)
  refine p 1 ?_
  refine rend ?_
  refine c_seq ?_
  refine r_start ?_
  refine xq rfl (y_ld0 (.func (.func g1) #[] cp1.toArray) p1 0 hp1) ?_
  refine xq rfl (y_load (.agg (eConstraint a0).toArray) 0 g0_0 0) ?_
  obtain ⟨v1_2, hv1_2, h⟩ := H.call h
  refine xq rfl (y_cf cp1 [.agg (eConstraint a0).toArray] (.bool v1_2) hg1 (fun W S => hF1 _ _ W S.below hv1_2)) ?_
  refine p 2 ?_
  refine rend ?_
  replace h := H.done h
  subst h
  exact ret func119 rfl (vs := [.bool (!v1_2)]) (.tmp (by kernel_rfl) .nil) rfl (fun W S => ⟨rfl, S.below⟩)
theorem C.i_allOf_i_Constraint {a0 : (List Constraint)} {A0 : Option Addr} {k0 : Nat} {a1 : (Constraint → Option Bool)} {g1 : Nat} {cp1 : List Value} {r : Bool} (w : World) (h : X.i_allOf_i_Constraint a0 a1 = some r) (h0 : RdT nConstraint w (.slice A0 (List.length a0) k0) a0) (hg1 : isFn prog g1 = true) (hF1 : ∀ (x0 : Constraint) (r : Bool) (W : World), Up w W → a1 x0 = some r → Calls prog g1 (([.agg (eConstraint x0).toArray] : List Value) ++ cp1).toArray W (Ret W (.bool r))) : Calls prog 73 #[.slice A0 (List.length a0) k0, .func (.func g1) #[] cp1.toArray] w (Ret w (.bool r)) := by
  refine calls (M := no) (args := [.slice A0 (List.length a0) k0, .func (.func g1) #[] cp1.toArray]) func73 rfl ?_
  replace h : H (X.i_allOf_i_Constraint a0 a1) (fun o => o = r) := H.mk h
  unfold X.i_allOf_i_Constraint at h
  refine c_seq ?_
  refine r_start ?_
  refine xx rfl (x_box [.func (.func g1) #[] cp1.toArray] fun g0_0 => ?_)
  refine p 1 ?_
  refine rend ?_
  refine c_seq ?_
  refine r_start ?_
  refine p 2 ?_
  obtain ⟨v1_2, hv1_2, h⟩ := H.call h
  refine xq rfl (y_call [.slice A0 (List.length a0) k0, .func (.func 119) #[] #[.pointer (some ⟨g0_0, 0, none⟩)]] (.bool v1_2) func118 (fun W S => C.slices_ContainsFunc_i_Constraint_i_Constraint W hv1_2 ((s_arg h0).out W S) (isFn_of func119) (fun x0_2 r W2 hu2 hx2 => C.i_allOf_i_Constraint_1 W2 hx2 hg1 (fun x0_3 r W3 hu3 hx3 => hF1 x0_3 r W3 (Up.trans (Up.trans S.below hu2) hu3) hx3) (bx_up (S.bx 0) hu2)))) ?_
  refine p 2 ?_
  refine rend ?_
  replace h := H.done h
  subst h
  exact ret func73 rfl (vs := [.bool (!v1_2)]) (.tmp (by kernel_rfl) .nil) rfl (fun W S => ⟨rfl, S.below⟩)
theorem C.i_IsConstraint {a0 : Constraint} {r : Bool} (w : World) (h : X.i_IsConstraint a0 = some r) : Calls prog 117 #[.agg (eConstraint a0).toArray] w (Ret w (.bool r)) := by
  refine calls (M := no) (args := [.agg (eConstraint a0).toArray]) func117 rfl ?_
  replace h : H (X.i_IsConstraint a0) (fun o => o = r) := H.mk h
  unfold X.i_IsConstraint at h
  refine c_seq ?_
  refine r_start ?_
  refine xx rfl (x_box (eConstraint a0) fun g0_0 => ?_)
  refine p 1 ?_
  refine rend ?_
  refine c_seq ?_
  refine r_start ?_
  refine p 1 ?_
  refine xx rfl (x_new (Enc.flat (eI .i64) ([0, 0, 0, 0, 0] : List Int)) fun g1_1 => ?_)
  refine xx rfl (x_sto 1 g1_1 0 (Enc.flat (eI .i64) ([18, 9, 4, 3, 9] : List Int)) ?_)
  refine rend ?_
  refine c_seq ?_
  refine as_start 13 13 ?_
  refine ap 0 1 ?_
  refine aq 1 rfl (y_load (.int .i64 a0.Kind) 0 g0_0 0) ?_
  obtain ⟨v2_2, hv2_2, h⟩ := H.call h
  refine aq 2 rfl (y_call [.int .i64 a0.Kind, .int .i64 0, .int .i64 4] (.bool v2_2) func79 (fun W S => C.i_within W hv2_2)) ?_
  refine ap 3 1 ?_
  refine br v2_2 (fun q1 => ?_) (fun q1 => ?_)
  · replace h := H.t q1 h
    refine a_set 8 (congrArg Value.bool q1) ?_
    refine ap 4 1 ?_
    refine aq 5 rfl (y_load (.int .i64 a0.Value) 0 g0_0 1) ?_
    refine ap 6 1 ?_
    refine aq 7 rfl (y_load (.int .i64 a0.Kind) 0 g0_0 0) ?_
    obtain ⟨y2_8, hy2_8, h⟩ := H.call h
    refine aq 8 rfl (y_arp (e := (eI .i64)) (el := 3) (g := g1_1) hy2_8) ?_
    refine aq 9 rfl (y_arl (e := (eI .i64)) 1 (.int .i64 y2_8) hy2_8) ?_
    obtain ⟨v2_10, hv2_10, h⟩ := H.call h
    refine aq 10 rfl (y_call [.int .i64 a0.Value, .int .i64 0, .int .i64 y2_8] (.bool v2_10) func79 (fun W S => C.i_within W hv2_10)) ?_
    refine ap 11 2 ?_
    refine a_done ?_
    replace h := H.done h
    subst h
    exact ret func117 rfl (vs := [.bool v2_10]) (.tmp (by kernel_rfl) .nil) rfl (fun W S => ⟨rfl, S.below⟩)
  replace h := H.f q1 h
  refine a_set 8 (congrArg Value.bool q1) ?_
  refine ap 4 9 ?_
  refine a_done ?_
  replace h := H.done h
  subst h
  exact ret func117 rfl (vs := [.bool false]) (.tmp (by kernel_rfl) .nil) rfl (fun W S => ⟨rfl, S.below⟩)
theorem C.i_areConstraints {a0 : (List Constraint)} {A0 : Option Addr} {k0 : Nat} {r : Bool} (w : World) (h : X.i_areConstraints a0 = some r) (h0 : RdT nConstraint w (.slice A0 (List.length a0) k0) a0) : Calls prog 70 #[.slice A0 (List.length a0) k0] w (Ret w (.bool r)) := by
  refine calls (M := no) (args := [.slice A0 (List.length a0) k0]) func70 rfl ?_
  replace h : H (X.i_areConstraints a0) (fun o => o = r) := H.mk h
  unfold X.i_areConstraints at h
  refine c_seq ?_
  refine r_start ?_
  refine p 1 ?_
  refine rend ?_
  refine c_seq ?_
  refine r_start ?_
  refine p 4 ?_
  refine br (decide ((List.length a0 : Int) ≤ 10)) (fun q1 => ?_) (fun q1 => ?_)
  · replace h := H.t q1 h
    refine o_set 6 (congrArg Value.bool q1) ?_
    refine p 1 ?_
    obtain ⟨v1_5, hv1_5, h⟩ := H.call h
    refine xq rfl (y_call [.slice A0 (List.length a0) k0, .func (.func 117) #[] #[]] (.bool v1_5) func73 (fun W S => C.i_allOf_i_Constraint W hv1_5 ((s_arg h0).out W S) (isFn_of func117) (fun x0_2 r W2 hu2 hx2 => C.i_IsConstraint W2 hx2))) ?_
    refine p 2 ?_
    refine rend ?_
    replace h := H.done h
    subst h
    exact ret func70 rfl (vs := [.bool v1_5]) (.tmp (by kernel_rfl) .nil) rfl (fun W S => ⟨rfl, S.below⟩)
  replace h := H.f q1 h
  refine o_set 6 (congrArg Value.bool q1) ?_
  refine p 4 ?_
  refine rend ?_
  replace h := H.done h
  subst h
  exact ret func70 rfl (vs := [.bool false]) (.tmp (by kernel_rfl) .nil) rfl (fun W S => ⟨rfl, S.below⟩)
theorem C.i_Sign_steps {a0 : Sign} {r : Int} (w : World) (h : X.i_Sign_steps a0 = some r) : Calls prog 120 #[.agg (eSign a0).toArray] w (Ret w (.int .i64 r)) := by
  refine calls (M := no) (args := [.agg (eSign a0).toArray]) func120 rfl ?_
  replace h : H (X.i_Sign_steps a0) (fun o => o = r) := H.mk h
  unfold X.i_Sign_steps at h
  refine c_seq ?_
  refine r_start ?_
  refine xx rfl (x_box (eSign a0) fun g0_0 => ?_)
  refine p 1 ?_
  refine rend ?_
  refine c_seq ?_
  refine as_start 12 12 ?_
  refine ap 0 2 ?_
  refine aq 2 rfl (y_load (.agg (eMove a0.Main.Move).toArray) 0 g0_0 11) ?_
  obtain ⟨v1_3, hv1_3, h⟩ := H.call h
  refine aq 3 rfl (y_call [.agg (eMove a0.Main.Move).toArray] (.string (bs v1_3)) func165 (fun W S => C.i_Move_all W hv1_3)) ?_
  refine ap 4 3 ?_
  refine aq 7 rfl (y_load (.agg (eMove a0.Other.Move).toArray) 0 g0_0 25) ?_
  obtain ⟨v1_8, hv1_8, h⟩ := H.call h
  refine aq 8 rfl (y_call [.agg (eMove a0.Other.Move).toArray] (.string (bs v1_8)) func165 (fun W S => C.i_Move_all W hv1_8)) ?_
  refine ap 9 3 ?_
  refine a_done ?_
  replace h := H.done h
  subst h
  exact ret func120 rfl (vs := [.int .i64 (if (List.length v1_8 : Int) > (List.length v1_3 : Int) then (List.length v1_8 : Int) else (List.length v1_3 : Int))]) (.tmp (by kernel_rfl) .nil) rfl (fun W S => ⟨rfl, S.below⟩)
theorem C.i_those_int {a0 : (List Int)} {A0 : Option Addr} {k0 : Nat} {a1 : (Int → Option Bool)} {g1 : Nat} {cp1 : List Value} {r : (List Int)} (w : World) (h : X.i_those_int a0 a1 = some r) (h0 : RdT (eI .i64) w (.slice A0 (List.length a0) k0) a0) (hg1 : isFn prog g1 = true) (hF1 : ∀ (x0 : Int) (r : Bool) (W : World), Up w W → a1 x0 = some r → Calls prog g1 (([.int .i64 x0] : List Value) ++ cp1).toArray W (Ret W (.bool r))) : Calls prog 166 #[.slice A0 (List.length a0) k0, .func (.func g1) #[] cp1.toArray] w (RetR (eI .i64) 3 w r (fun v => v)) := by
  refine calls (M := no) (args := [.slice A0 (List.length a0) k0, .func (.func g1) #[] cp1.toArray]) func166 rfl ?_
  replace h : H (X.i_those_int a0 a1) (fun o => o = r) := H.mk h
  unfold X.i_those_int at h
  refine c_seq ?_
  refine r_start ?_
  refine p 1 ?_
  refine rend ?_
  refine c_seq ?_
  refine r_start ?_
  refine p 1 ?_
  refine rend ?_
  refine c_seq ?_
  refine c_seq ?_
  refine r_start ?_
  refine p 3 ?_
  refine rend ?_
  refine c_block ?_
  refine c_nil (eI .i64) 3 ?_
  refine joinH (X := ((List Int) × Option Addr × Nat)) 0 (H.bnd h) (fun ⟨l4, A5, k6⟩ => l4) (fun ⟨l4, A5, k6⟩ => [rowT (eI .i64) w.heap.size 3 (.slice A5 (List.length l4) k6) l4]) (fun ⟨l4, A5, k6⟩ u => (jk u 0 5 (.slice A5 (List.length l4) k6 :: (jk u 6 18 [])))) (fun h hj7 => ?_) ?_
  · skip
    refine rangeR (X := ((List Int) × Option Addr × Nat)) (s_arg h0) (fun ⟨l1, A2, k3⟩ => l1) (fun ⟨l1, A2, k3⟩ => [rowT (eI .i64) w.heap.size 3 (.slice A2 (List.length l1) k3) l1]) (fun (j8 : Nat) ⟨l1, A2, k3⟩ u => (jk u 0 1 (.func (.func g1) #[] cp1.toArray :: (jk u 2 3 (.slice A2 (List.length l1) k3 :: (jk u 6 2 (.slice A0 (List.length a0) k0 :: .int .i64 (List.length a0 : Int) :: .int .i64 (j8 : Int) :: (jk u 11 13 [])))))))) (([] : List Int), none, 0) h (by kernel_rfl) (by kernel_rfl) ?_ ?_
    · intro j8 x u x9 q10 hg11 hw12 h
      obtain ⟨l1, A2, k3⟩ := x
      refine c_seq ?_
      refine r_start ?_
      refine p 1 ?_
      refine rend ?_
      refine c_seq ?_
      refine c_yes q10 ?_
      refine c_skip ?_
      refine c_seq ?_
      refine c_block ?_
      refine c_seq ?_
      refine r_start ?_
      refine p 1 ?_
      refine xq rfl (y_idx (e := (eI .i64)) (el := 3) hg11 (s_arg h0)) ?_
      refine xq rfl (y_el (e := (eI .i64)) 0 (.int .i64 x9) hg11 (s_arg h0)) ?_
      refine p 2 ?_
      refine rend ?_
      refine c_seq ?_
      refine r_start ?_
      refine p 2 ?_
      obtain ⟨v5_2, hv5_2, h⟩ := H.call h
      refine xq rfl (y_cf cp1 [.int .i64 x9] (.bool v5_2) hg1 (fun W S => hF1 _ _ W S.below hv5_2)) ?_
      refine rend ?_
      refine c_or v5_2 (fun q13 => ?_) (fun q13 => ?_)
      · replace h := H.t q13 h
        refine r_start ?_
        refine p 2 ?_
        refine xx rfl (e_lit (e := (eI .i64)) (el := 3) [.int .i64 (j8 : Int)] ([(j8 : Int)] : List Int) fun A6_2 k6_2 => ?_)
        obtain ⟨y6_3, hy6_3, h⟩ := H.call h
        refine xx rfl (e_app 0 hy6_3 (s_own 1) fun A6_3 k6_3 => ?_)
        refine p 1 ?_
        refine rend ?_
        refine c_inb ?_
        refine r_start ?_
        refine p 2 ?_
        refine rend ?_
        refine c_set 10 (ci hw12) ?_
        replace h := H.inl h
        exact h (y6_3, A6_3, k6_3) _ _ rfl (by kernel_rfl) (by kernel_rfl)
      replace h := H.f q13 h
      refine c_skip ?_
      refine c_inb ?_
      refine r_start ?_
      refine p 2 ?_
      refine rend ?_
      refine c_set 10 (ci hw12) ?_
      replace h := H.inl h
      exact h (l1, A2, k3) _ _ rfl (by kernel_rfl) (by kernel_rfl)
    · intro x u q10 h
      obtain ⟨l1, A2, k3⟩ := x
      refine c_seq ?_
      refine r_start ?_
      refine p 1 ?_
      refine rend ?_
      refine c_seq ?_
      refine c_no q10 ?_
      refine cx ?_
      replace h := H.done h
      exact hj7 (l1, A2, k3) _ _ h (by kernel_rfl) (by kernel_rfl)
  intro x u h
  obtain ⟨l4, A5, k6⟩ := x
  refine c_seq ?_
  refine r_start ?_
  refine p 2 ?_
  refine rend ?_
  replace h := H.done h
  subst h
  exact ret func166 rfl (vs := [.slice A5 (List.length l4) k6]) (.tmp (by kernel_rfl) .nil) rfl (fun W S => ⟨_, _, rfl, S.row 0, S.below⟩)
theorem C.i_Shape_open_1 {a0 : Int} {r : Bool} (w : World) (h : X.i_Shape_open_1 a0 = some r) : Calls prog 168 #[.int .i64 a0] w (Ret w (.bool r)) := by
  refine calls (M := no) (args := [.int .i64 a0]) func168 rfl ?_
  replace h : H (X.i_Shape_open_1 a0) (fun o => o = r) := H.mk h
  unfold X.i_Shape_open_1 at h
  refine c_seq ?_
  refine r_start ?_
  refine p 1 ?_
  refine rend ?_
  refine c_seq ?_
  refine r_start ?_
  refine p 3 ?_
  refine rend ?_
  replace h := H.done h
  subst h
  exact ret func168 rfl (vs := [.bool (a0 == 0)]) (.tmp (by kernel_rfl) .nil) rfl (fun W S => ⟨rfl, S.below⟩)
theorem C.i_Shape_open {a0 : Shape} {r : Int} (w : World) (h : X.i_Shape_open a0 = some r) : Calls prog 121 #[.agg (eShape a0).toArray] w (Ret w (.int .i64 r)) := by
  refine calls (M := no) (args := [.agg (eShape a0).toArray]) func121 rfl ?_
  replace h : H (X.i_Shape_open a0) (fun o => o = r) := H.mk h
  unfold X.i_Shape_open at h
  refine c_seq ?_
  refine r_start ?_
  refine xx rfl (x_box (eShape a0) fun g0_0 => ?_)
  refine p 1 ?_
  refine rend ?_
  refine c_seq ?_
  refine r_start ?_
  refine xq rfl (y_load (.agg (eShape a0).toArray) 0 g0_0 0) ?_
  obtain ⟨v1_1, hv1_1, h⟩ := H.call h
  refine xx rfl (e_cr [.agg (eShape a0).toArray] (fun v => v) func167 (fun W S => C.i_Shape_bends W hv1_1) fun A1_1 k1_1 => ?_)
  obtain ⟨v1_2, hv1_2, h⟩ := H.call h
  refine xx rfl (e_cr [.slice A1_1 (List.length v1_1) k1_1, .func (.func 168) #[] #[]] (fun v => v) func166 (fun W S => C.i_those_int W hv1_2 ((s_own 1).out W S) (isFn_of func168) (fun x0_2 r W2 hu2 hx2 => C.i_Shape_open_1 W2 hx2)) fun A1_2 k1_2 => ?_)
  refine p 2 ?_
  refine rend ?_
  replace h := H.done h
  subst h
  exact ret func121 rfl (vs := [.int .i64 (List.length v1_2 : Int)]) (.tmp (by kernel_rfl) .nil) rfl (fun W S => ⟨rfl, S.below⟩)
theorem C.i_Constraint_keptBy {a0 : Constraint} {a1 : Sign} {r : Bool} (w : World) (h : X.i_Constraint_keptBy a0 a1 = some r) : Calls prog 75 #[.agg (eConstraint a0).toArray, .agg (eSign a1).toArray] w (Ret w (.bool r)) := by
  refine calls (M := no) (args := [.agg (eConstraint a0).toArray, .agg (eSign a1).toArray]) func75 rfl ?_
  replace h : H (X.i_Constraint_keptBy a0 a1) (fun o => o = r) := H.mk h
  unfold X.i_Constraint_keptBy at h
  refine c_seq ?_
  refine r_start ?_
  refine xx rfl (x_box (eConstraint a0) fun g0_0 => ?_)
  refine xx rfl (x_box (eSign a1) fun g0_1 => ?_)
  refine p 1 ?_
  refine rend ?_
  refine c_seq ?_
  refine c_seq ?_
  refine r_start ?_
  refine p 1 ?_
  refine xq rfl (y_load (.int .i64 a0.Kind) 0 g0_0 0) ?_
  refine rend ?_
  refine c_block ?_
  refine c_seq ?_
  refine r_start ?_
  refine p 2 ?_
  refine rend ?_
  refine c_or (a0.Kind == 0) (fun q1 => ?_) (fun q1 => ?_)
  · replace h := H.t q1 h
    refine c_seq ?_
    refine as_start 6 6 ?_
    refine aq 0 rfl (y_load (.agg (eSign a1).toArray) 1 g0_1 0) ?_
    obtain ⟨v3_1, hv3_1, h⟩ := H.call h
    refine aq 1 rfl (y_call [.agg (eSign a1).toArray] (.int .i64 v3_1) func120 (fun W S => C.i_Sign_steps W hv3_1)) ?_
    refine ap 2 1 ?_
    refine aq 3 rfl (y_load (.int .i64 a0.Value) 0 g0_0 1) ?_
    refine ap 4 2 ?_
    refine a_done ?_
    replace h := H.done h
    subst h
    exact ret func75 rfl (vs := [.bool (decide (v3_1 ≤ a0.Value))]) (.tmp (by kernel_rfl) .nil) rfl (fun W S => ⟨rfl, S.below⟩)
  replace h := H.f q1 h
  refine c_seq ?_
  refine r_start ?_
  refine p 2 ?_
  refine rend ?_
  refine c_or (a0.Kind == 1) (fun q2 => ?_) (fun q2 => ?_)
  · replace h := H.t q2 h
    refine c_seq ?_
    refine r_start ?_
    refine p 3 ?_
    refine xq rfl (y_load (.int .i64 a1.Main.Place.Region) 1 g0_1 8) ?_
    refine p 1 ?_
    refine xq rfl (y_load (.int .i64 a0.Value) 0 g0_0 1) ?_
    refine p 2 ?_
    refine br (a1.Main.Place.Region != a0.Value) (fun q3 => ?_) (fun q3 => ?_)
    · replace h := H.t q3 h
      refine o_set 23 (congrArg Value.bool q3) ?_
      refine p 1 ?_
      refine xq rfl (y_load (.bool a1.Two) 1 g0_1 13) ?_
      refine p 1 ?_
      refine br a1.Two (fun q4 => ?_) (fun q4 => ?_)
      · replace h := H.t q4 h
        refine o_set 26 (congrArg Value.bool q4) ?_
        refine p 3 ?_
        refine xq rfl (y_load (.int .i64 a1.Other.Place.Region) 1 g0_1 22) ?_
        refine p 1 ?_
        refine xq rfl (y_load (.int .i64 a0.Value) 0 g0_0 1) ?_
        refine p 5 ?_
        refine rend ?_
        replace h := H.done h
        subst h
        exact ret func75 rfl (vs := [.bool (!(a1.Other.Place.Region == a0.Value))]) (.tmp (by kernel_rfl) .nil) rfl (fun W S => ⟨rfl, S.below⟩)
      replace h := H.f q4 h
      refine o_set 26 (congrArg Value.bool q4) ?_
      refine p 11 ?_
      refine rend ?_
      replace h := H.done h
      subst h
      exact ret func75 rfl (vs := [.bool true]) (.tmp (by kernel_rfl) .nil) rfl (fun W S => ⟨rfl, S.below⟩)
    replace h := H.f q3 h
    refine o_set 23 (congrArg Value.bool q3) ?_
    refine p 14 ?_
    refine rend ?_
    replace h := H.done h
    subst h
    exact ret func75 rfl (vs := [.bool false]) (.tmp (by kernel_rfl) .nil) rfl (fun W S => ⟨rfl, S.below⟩)
  replace h := H.f q2 h
  refine c_seq ?_
  refine r_start ?_
  refine p 2 ?_
  refine rend ?_
  refine c_or (a0.Kind == 2) (fun q5 => ?_) (fun q5 => ?_)
  · replace h := H.t q5 h
    refine c_seq ?_
    refine as_start 8 8 ?_
    refine ap 0 2 ?_
    refine aq 2 rfl (y_load (.agg (eShape a1.Main.Shape).toArray) 1 g0_1 0) ?_
    obtain ⟨v7_3, hv7_3, h⟩ := H.call h
    refine aq 3 rfl (y_call [.agg (eShape a1.Main.Shape).toArray] (.int .i64 v7_3) func121 (fun W S => C.i_Shape_open W hv7_3)) ?_
    refine ap 4 1 ?_
    refine aq 5 rfl (y_load (.int .i64 a0.Value) 0 g0_0 1) ?_
    refine ap 6 2 ?_
    refine a_done ?_
    replace h := H.done h
    subst h
    exact ret func75 rfl (vs := [.bool (decide (v7_3 ≥ a0.Value))]) (.tmp (by kernel_rfl) .nil) rfl (fun W S => ⟨rfl, S.below⟩)
  replace h := H.f q5 h
  refine c_seq ?_
  refine r_start ?_
  refine p 2 ?_
  refine rend ?_
  refine c_or (a0.Kind == 3) (fun q6 => ?_) (fun q6 => ?_)
  · replace h := H.t q6 h
    refine c_seq ?_
    refine as_start 6 6 ?_
    refine aq 0 rfl (y_load (.agg (eSign a1).toArray) 1 g0_1 0) ?_
    obtain ⟨v9_1, hv9_1, h⟩ := H.call h
    refine aq 1 rfl (y_call [.agg (eSign a1).toArray] (.int .i64 v9_1) func122 (fun W S => C.i_Sign_kind W hv9_1)) ?_
    refine ap 2 1 ?_
    refine aq 3 rfl (y_load (.int .i64 a0.Value) 0 g0_0 1) ?_
    refine ap 4 2 ?_
    refine a_done ?_
    replace h := H.done h
    subst h
    exact ret func75 rfl (vs := [.bool (v9_1 != a0.Value)]) (.tmp (by kernel_rfl) .nil) rfl (fun W S => ⟨rfl, S.below⟩)
  replace h := H.f q6 h
  refine c_skip ?_
  refine c_inb ?_
  refine c_seq ?_
  refine r_start ?_
  refine p 3 ?_
  refine xq rfl (y_load (.int .i64 a1.Main.Place.Region) 1 g0_1 8) ?_
  refine p 1 ?_
  refine xq rfl (y_load (.int .i64 a0.Value) 0 g0_0 1) ?_
  refine p 2 ?_
  refine rend ?_
  replace h := H.done h
  subst h
  exact ret func75 rfl (vs := [.bool (decide (a1.Main.Place.Region ≤ a0.Value))]) (.tmp (by kernel_rfl) .nil) rfl (fun W S => ⟨rfl, S.below⟩)
theorem C.i_LawfulSigns_1_1 {a0 : Constraint} {a1 : Sign} {p1 : Nat} {r : Bool} (w : World) (h : X.i_LawfulSigns_1_1 a1 a0 = some r) (hp1 : w.heap[p1]? = some (.cells (eSign a1 : List Value).toArray 66 (0, 0))) : Calls prog 74 #[.agg (eConstraint a0).toArray, .pointer (some ⟨p1, 0, none⟩)] w (Ret w (.bool r)) := by
  refine calls (M := no) (args := [.agg (eConstraint a0).toArray, .pointer (some ⟨p1, 0, none⟩)]) func74 rfl ?_
  replace h : H (X.i_LawfulSigns_1_1 a1 a0) (fun o => o = r) := H.mk h
  unfold X.i_LawfulSigns_1_1 at h
  refine c_seq ?_
  refine r_start ?_
  refine xx rfl (x_box (eConstraint a0) fun g0_0 => ?_)
  refine p 1 ?_
  refine rend ?_
  refine c_seq ?_
  refine r_start ?_
  refine xq rfl (y_load (.agg (eConstraint a0).toArray) 0 g0_0 0) ?_
  refine xq rfl (y_ld0 (.agg (eSign a1).toArray) p1 0 hp1) ?_
  obtain ⟨v1_2, hv1_2, h⟩ := H.call h
  refine xq rfl (y_call [.agg (eConstraint a0).toArray, .agg (eSign a1).toArray] (.bool v1_2) func75 (fun W S => C.i_Constraint_keptBy W hv1_2)) ?_
  refine p 1 ?_
  refine rend ?_
  replace h := H.done h
  subst h
  exact ret func74 rfl (vs := [.bool v1_2]) (.tmp (by kernel_rfl) .nil) rfl (fun W S => ⟨rfl, S.below⟩)
theorem C.i_LawfulSigns_1 {a0 : Sign} {a1 : (List Constraint)} {A1 : Option Addr} {k1 : Nat} {p1 : Nat} {r : Bool} (w : World) (h : X.i_LawfulSigns_1 a1 a0 = some r) (h1 : RdT nConstraint w (.slice A1 (List.length a1) k1) a1) (hp1 : w.heap[p1]? = some (.cells ([.slice A1 (List.length a1) k1] : List Value).toArray 35 (0, 0))) : Calls prog 72 #[.agg (eSign a0).toArray, .pointer (some ⟨p1, 0, none⟩)] w (Ret w (.bool r)) := by
  refine calls (M := no) (args := [.agg (eSign a0).toArray, .pointer (some ⟨p1, 0, none⟩)]) func72 rfl ?_
  replace h : H (X.i_LawfulSigns_1 a1 a0) (fun o => o = r) := H.mk h
  unfold X.i_LawfulSigns_1 at h
  refine c_seq ?_
  refine r_start ?_
  refine xx rfl (x_box (eSign a0) fun g0_0 => ?_)
  refine p 1 ?_
  refine rend ?_
  refine c_seq ?_
  refine r_start ?_
  refine xq rfl (y_ld0 (.slice A1 (List.length a1) k1) p1 0 hp1) ?_
  refine p 1 ?_
  obtain ⟨v1_2, hv1_2, h⟩ := H.call h
  refine xq rfl (y_call [.slice A1 (List.length a1) k1, .func (.func 74) #[] #[.pointer (some ⟨g0_0, 0, none⟩)]] (.bool v1_2) func73 (fun W S => C.i_allOf_i_Constraint W hv1_2 ((s_arg h1).out W S) (isFn_of func74) (fun x0_2 r W2 hu2 hx2 => C.i_LawfulSigns_1_1 W2 hx2 (bx_up (S.bx 0) hu2)))) ?_
  refine p 1 ?_
  refine rend ?_
  replace h := H.done h
  subst h
  exact ret func72 rfl (vs := [.bool v1_2]) (.tmp (by kernel_rfl) .nil) rfl (fun W S => ⟨rfl, S.below⟩)
theorem C.i_LawfulSigns {fu : Nat} {a0 : (List Sign)} {A0 : Option Addr} {k0 : Nat} {a1 : (List Constraint)} {A1 : Option Addr} {k1 : Nat} {r : ((List Int) × Bool)} (w : World) (h : X.i_LawfulSigns fu a0 a1 = some r) (h0 : RdT nSign w (.slice A0 (List.length a0) k0) a0) (h1 : RdT nConstraint w (.slice A1 (List.length a1) k1) a1) : Calls prog 23 #[.slice A0 (List.length a0) k0, .slice A1 (List.length a1) k1] w (RetR (eI .i64) 3 w r.1 (fun v => .tuple #[v, .bool r.2])) := by
  refine calls (M := no) (args := [.slice A0 (List.length a0) k0, .slice A1 (List.length a1) k1]) func23 rfl ?_
  replace h : H (X.i_LawfulSigns fu a0 a1) (fun o => o = r) := H.mk h
  unfold X.i_LawfulSigns at h
  refine c_seq ?_
  refine r_start ?_
  refine xx rfl (x_box [.slice A1 (List.length a1) k1] fun g0_0 => ?_)
  refine p 2 ?_
  refine rend ?_
  refine c_seq ?_
  refine c_seq ?_
  refine r_start ?_
  refine p 1 ?_
  obtain ⟨v1_1, hv1_1, h⟩ := H.call h
  refine xq rfl (y_call [.slice A0 (List.length a0) k0, .int .i64 20] (.bool v1_1) func63 (fun W S => C.i_areSigns W hv1_1 ((s_arg h0).out W S))) ?_
  refine p 2 ?_
  refine br (!v1_1) (fun q1 => ?_) (fun q1 => ?_)
  · replace h := H.t q1 h
    refine o_set 9 (congrArg Value.bool q1) ?_
    refine p 4 ?_
    refine rend ?_
    refine c_t (by kernel_rfl) ?_
    refine c_seq ?_
    refine r_start ?_
    refine p 2 ?_
    refine rend ?_
    replace h := H.done h
    subst h
    exact ret func23 rfl (vs := [.slice none 0 0, .bool false]) (.tmp (by kernel_rfl) (.tmp (by kernel_rfl) .nil)) rfl (fun W S => ⟨none, 0, rfl, World.ownsRow_nil _ _ _ _, S.below⟩)
  replace h := H.f q1 h
  refine o_set 9 (congrArg Value.bool q1) ?_
  refine xq rfl (y_load (.slice A1 (List.length a1) k1) 0 g0_0 0) ?_
  obtain ⟨v1_5, hv1_5, h⟩ := H.call h
  refine xq rfl (y_call [.slice A1 (List.length a1) k1] (.bool v1_5) func70 (fun W S => C.i_areConstraints W hv1_5 ((s_arg h1).out W S))) ?_
  refine p 2 ?_
  refine rend ?_
  refine c_or (!v1_5) (fun q2 => ?_) (fun q2 => ?_)
  · replace h := H.t q2 h
    refine c_seq ?_
    refine r_start ?_
    refine p 2 ?_
    refine rend ?_
    replace h := H.done h
    subst h
    exact ret func23 rfl (vs := [.slice none 0 0, .bool false]) (.tmp (by kernel_rfl) (.tmp (by kernel_rfl) .nil)) rfl (fun W S => ⟨none, 0, rfl, World.ownsRow_nil _ _ _ _, S.below⟩)
  replace h := H.f q2 h
  refine c_skip ?_
  refine c_seq ?_
  refine r_start ?_
  refine p 2 ?_
  obtain ⟨v3_2, hv3_2, h⟩ := H.call h
  refine xx rfl (e_cr [.slice A0 (List.length a0) k0, .func (.func 72) #[] #[.pointer (some ⟨g0_0, 0, none⟩)]] (fun v => v) func71 (fun W S => C.i_those_i_Sign W hv3_2 ((s_arg h0).out W S) (isFn_of func72) (fun x0_2 r W2 hu2 hx2 => C.i_LawfulSigns_1 W2 hx2 (Rd.up ((s_arg h1).out W S) hu2) (bx_up (S.bx 0) hu2))) fun A3_2 k3_2 => ?_)
  refine p 2 ?_
  refine rend ?_
  replace h := H.done h
  subst h
  exact ret func23 rfl (vs := [.slice A3_2 (List.length v3_2) k3_2, .bool true]) (.tmp (by kernel_rfl) (.tmp (by kernel_rfl) .nil)) rfl (fun W S => ⟨_, _, rfl, S.row 1, S.below⟩)
theorem C.l_eqConstraint {a0 : Constraint} {a1 : Constraint} {r : Bool} (w : World) (h : X.l_eqConstraint a0 a1 = some r) : Calls prog 76 #[.agg (eConstraint a0).toArray, .agg (eConstraint a1).toArray] w (Ret w (.bool r)) := by
  refine calls (M := no) (args := [.agg (eConstraint a0).toArray, .agg (eConstraint a1).toArray]) func76 rfl ?_
  replace h : H (X.l_eqConstraint a0 a1) (fun o => o = r) := H.mk h
  unfold X.l_eqConstraint at h
  refine c_seq ?_
  refine r_start ?_
  refine xx rfl (x_box (eConstraint a0) fun g0_0 => ?_)
  refine xx rfl (x_box (eConstraint a1) fun g0_1 => ?_)
  refine p 1 ?_
  refine rend ?_
  refine c_seq ?_
  refine c_seq ?_
  refine r_start ?_
  refine p 1 ?_
  refine xq rfl (y_load (.int .i64 a0.Kind) 0 g0_0 0) ?_
  refine p 1 ?_
  refine xq rfl (y_load (.int .i64 a1.Kind) 1 g0_1 0) ?_
  refine p 1 ?_
  refine rend ?_
  refine c_or (a0.Kind != a1.Kind) (fun q1 => ?_) (fun q1 => ?_)
  · replace h := H.t q1 h
    refine c_seq ?_
    refine r_start ?_
    refine p 1 ?_
    refine rend ?_
    replace h := H.done h
    subst h
    exact ret func76 rfl (vs := [.bool false]) (.tmp (by kernel_rfl) .nil) rfl (fun W S => ⟨rfl, S.below⟩)
  replace h := H.f q1 h
  refine c_skip ?_
  refine c_seq ?_
  refine c_seq ?_
  refine r_start ?_
  refine p 1 ?_
  refine xq rfl (y_load (.int .i64 a0.Value) 0 g0_0 1) ?_
  refine p 1 ?_
  refine xq rfl (y_load (.int .i64 a1.Value) 1 g0_1 1) ?_
  refine p 1 ?_
  refine rend ?_
  refine c_or (a0.Value != a1.Value) (fun q2 => ?_) (fun q2 => ?_)
  · replace h := H.t q2 h
    refine c_seq ?_
    refine r_start ?_
    refine p 1 ?_
    refine rend ?_
    replace h := H.done h
    subst h
    exact ret func76 rfl (vs := [.bool false]) (.tmp (by kernel_rfl) .nil) rfl (fun W S => ⟨rfl, S.below⟩)
  replace h := H.f q2 h
  refine c_skip ?_
  refine c_seq ?_
  refine r_start ?_
  refine p 1 ?_
  refine rend ?_
  replace h := H.done h
  subst h
  exact ret func76 rfl (vs := [.bool true]) (.tmp (by kernel_rfl) .nil) rfl (fun W S => ⟨rfl, S.below⟩)
theorem C.l_eqConstraintS {fu : Nat} {a0 : (List Constraint)} {A0 : Option Addr} {k0 : Nat} {a1 : (List Constraint)} {A1 : Option Addr} {k1 : Nat} {r : Bool} (w : World) (h : X.l_eqConstraintS fu a0 a1 = some r) (h0 : RdT nConstraint w (.slice A0 (List.length a0) k0) a0) (h1 : RdT nConstraint w (.slice A1 (List.length a1) k1) a1) : Calls prog 25 #[.slice A0 (List.length a0) k0, .slice A1 (List.length a1) k1] w (Ret w (.bool r)) := by
  refine calls (M := no) (args := [.slice A0 (List.length a0) k0, .slice A1 (List.length a1) k1]) func25 rfl ?_
  replace h : H (X.l_eqConstraintS fu a0 a1) (fun o => o = r) := H.mk h
  unfold X.l_eqConstraintS at h
  refine c_seq ?_
  refine r_start ?_
  refine p 1 ?_
  refine rend ?_
  refine c_seq ?_
  refine c_seq ?_
  refine r_start ?_
  refine p 5 ?_
  refine rend ?_
  refine c_or ((List.length a0 : Int) != (List.length a1 : Int)) (fun q1 => ?_) (fun q1 => ?_)
  · replace h := H.t q1 h
    refine c_seq ?_
    refine r_start ?_
    refine p 1 ?_
    refine rend ?_
    replace h := H.done h
    subst h
    exact ret func25 rfl (vs := [.bool false]) (.tmp (by kernel_rfl) .nil) rfl (fun W S => ⟨rfl, S.below⟩)
  replace h := H.f q1 h
  refine c_skip ?_
  refine c_seq ?_
  refine c_seq ?_
  refine r_start ?_
  refine p 1 ?_
  refine rend ?_
  refine c_block ?_
  refine joinE (X := Unit) 0 (H.or h) (fun (x : Unit) => x) (fun _ => []) (fun _ u => (jk u 0 27 [])) (fun h hj3 => ?_) ?_
  · skip
    refine loopR (X := Int) (fun (x : Int) => x) (fun n2 => []) (fun n2 u => (.slice A0 (List.length a0) k0 :: .slice A1 (List.length a1) k1 :: (jk u 2 3 (.int .i64 n2 :: (jk u 6 21 []))))) 0 h (by kernel_rfl) (by kernel_rfl) ?_
    intro n2 u h
    refine c_seq ?_
    refine c_seq ?_
    refine r_start ?_
    refine p 4 ?_
    refine rend ?_
    refine c_or (decide (n2 < (List.length a0 : Int))) (fun q4 => ?_) (fun q4 => ?_)
    · replace h := H.t q4 h
      refine c_skip ?_
      refine c_seq ?_
      refine c_block ?_
      refine c_seq ?_
      refine as_start 10 10 ?_
      refine ap 0 2 ?_
      obtain ⟨y6_2, hy6_2, h⟩ := H.call h
      refine aq 2 rfl (y_idx (e := nConstraint) (el := 103) hy6_2 (s_arg h0)) ?_
      refine aq 3 rfl (y_el (e := nConstraint) 0 (.agg (eConstraint y6_2).toArray) hy6_2 (s_arg h0)) ?_
      refine ap 4 2 ?_
      obtain ⟨y6_6, hy6_6, h⟩ := H.call h
      refine aq 6 rfl (y_idx (e := nConstraint) (el := 103) hy6_6 (s_arg h1)) ?_
      refine aq 7 rfl (y_el (e := nConstraint) 0 (.agg (eConstraint y6_6).toArray) hy6_6 (s_arg h1)) ?_
      obtain ⟨v6_8, hv6_8, h⟩ := H.call h
      refine aq 8 rfl (y_call [.agg (eConstraint y6_2).toArray, .agg (eConstraint y6_6).toArray] (.bool v6_8) func76 (fun W S => C.l_eqConstraint W hv6_8)) ?_
      refine ap 9 1 ?_
      refine a_done ?_
      refine c_or (!v6_8) (fun q5 => ?_) (fun q5 => ?_)
      · replace h := H.t q5 h
        refine c_seq ?_
        refine r_start ?_
        refine p 1 ?_
        refine rend ?_
        replace h := H.inr h
        replace h := H.done h
        subst h
        exact ret func25 rfl (vs := [.bool false]) (.tmp (by kernel_rfl) .nil) rfl (fun W S => ⟨rfl, S.below⟩)
      replace h := H.f q5 h
      refine c_skip ?_
      refine c_inb ?_
      refine r_start ?_
      refine p 3 ?_
      refine rend ?_
      replace h := H.inl h
      exact h (wr (n2 + 1)) _ _ rfl (by kernel_rfl) (by kernel_rfl)
    replace h := H.f q4 h
    refine cx ?_
    replace h := H.inr h
    exact hj3 () _ _ h (by kernel_rfl) (by kernel_rfl)
  intro x u h
  refine c_seq ?_
  refine r_start ?_
  refine p 1 ?_
  refine rend ?_
  replace h := H.done h
  subst h
  exact ret func25 rfl (vs := [.bool true]) (.tmp (by kernel_rfl) .nil) rfl (fun W S => ⟨rfl, S.below⟩)
theorem C.l_markConstraintS {fu : Nat} {a0 : (List Constraint)} {A0 : Option Addr} {k0 B0 n0 : Nat} {a1 : Int} {r : (Int × (List Constraint))} (w : World) (h : X.l_markConstraintS fu a0 a1 = some r) (hn0 : List.length a0 = n0) (h0 : World.ownsRow w B0 103 (Enc.sz nConstraint) (.slice A0 n0 k0) n0 (Enc.flat nConstraint a0)) : Calls prog 27 #[.slice A0 (n0) k0, .int .i64 a1] w (RetW nConstraint B0 103 A0 n0 k0 w r.2 (.int .i64 r.1)) := by
  subst hn0
  refine callsW (args := [.slice A0 (List.length a0) k0, .int .i64 a1]) rfl h0 func27 rfl ?_
  replace h : H (X.l_markConstraintS fu a0 a1) (fun o => o = r) := H.mk h
  unfold X.l_markConstraintS at h
  refine c_seq ?_
  refine r_start ?_
  refine p 1 ?_
  refine rend ?_
  refine c_seq ?_
  refine c_seq ?_
  refine r_start ?_
  refine p 1 ?_
  refine rend ?_
  refine c_block ?_
  refine joinH (X := (Int × (List Constraint))) 0 (H.bnd h) (fun (x : (Int × (List Constraint))) => x) (fun ⟨n4, l5⟩ => [argW nConstraint B0 103 A0 (List.length a0) k0 l5]) (fun ⟨n4, l5⟩ u => (jk u 0 1 (.int .i64 n4 :: (jk u 2 25 [])))) (fun h hj6 => ?_) ?_
  · skip
    refine loopR (X := (Int × Int × (List Constraint))) (fun (x : (Int × Int × (List Constraint))) => x) (fun ⟨n1, n2, l3⟩ => [argW nConstraint B0 103 A0 (List.length a0) k0 l3]) (fun ⟨n1, n2, l3⟩ u => (.slice A0 (List.length a0) k0 :: .int .i64 n1 :: (jk u 2 3 (.int .i64 n2 :: (jk u 6 21 []))))) (a1, 0, a0) h (by kernel_rfl) (by kernel_rfl) ?_
    intro x u h
    obtain ⟨n1, n2, l3⟩ := x
    refine c_seq ?_
    refine c_seq ?_
    refine r_start ?_
    refine p 4 ?_
    refine rend ?_
    refine c_or (decide (n2 < (List.length a0 : Int))) (fun q7 => ?_) (fun q7 => ?_)
    · replace h := H.t q7 h
      refine c_skip ?_
      refine c_seq ?_
      refine c_block ?_
      refine c_seq ?_
      refine r_start ?_
      refine p 3 ?_
      obtain ⟨y4_3, hy4_3, h⟩ := H.call h
      refine xq rfl (y_idxW (e := nConstraint) (el := 103) 0 hy4_3) ?_
      refine p 1 ?_
      refine xx rfl (e_stW (e := nConstraint) (b := { y4_3 with Kind := n1 }) 0 0 ([.int .i64 n1]) hy4_3 (by kernel_rfl) ?_)
      refine rend ?_
      refine c_seq ?_
      refine r_start ?_
      refine p 3 ?_
      refine rend ?_
      refine c_seq ?_
      refine r_start ?_
      refine p 3 ?_
      refine xq rfl (y_idxW (e := nConstraint) (el := 103) 0 (getI_set hy4_3)) ?_
      refine p 1 ?_
      refine xx rfl (e_stW2 (e := nConstraint) (a := { y4_3 with Kind := n1 }) (b := (⟨n1, (wr (n1 + 1))⟩ : Constraint)) 0 1 ([.int .i64 (wr (n1 + 1))]) hy4_3 (by kernel_rfl) ?_)
      refine rend ?_
      refine r_start ?_
      refine p 3 ?_
      refine rend ?_
      refine c_inb ?_
      refine r_start ?_
      refine p 3 ?_
      refine rend ?_
      replace h := H.inl h
      exact h ((wr ((wr (n1 + 1)) + 1)), (wr (n2 + 1)), (List.set l3 (Int.toNat n2) (⟨n1, (wr (n1 + 1))⟩ : Constraint))) _ _ rfl (by kernel_rfl) (by kernel_rfl)
    replace h := H.f q7 h
    refine cx ?_
    replace h := H.inr h
    exact hj6 (n1, l3) _ _ h (by kernel_rfl) (by kernel_rfl)
  intro x u h
  obtain ⟨n4, l5⟩ := x
  refine c_seq ?_
  refine r_start ?_
  refine p 2 ?_
  refine rend ?_
  replace h := H.done h
  subst h
  exact ret func27 rfl (vs := [.int .i64 n4]) (.tmp (by kernel_rfl) .nil) rfl (fun W S => S.retW)
theorem C.l_FnExactLawfulSigns {fu : Nat} {a0 : (List Sign)} {A0 : Option Addr} {k0 : Nat} {a1 : (List Constraint)} {A1 : Option Addr} {k1 : Nat} {r : Bool} (w : World) (h : X.l_FnExactLawfulSigns fu a0 a1 = some r) (h0 : RdT nSign w (.slice A0 (List.length a0) k0) a0) (h1 : RdT nConstraint w (.slice A1 (List.length a1) k1) a1) : Calls prog 4 #[.slice A0 (List.length a0) k0, .slice A1 (List.length a1) k1] w (Ret w (.bool r)) := by
  refine calls (M := no) (args := [.slice A0 (List.length a0) k0, .slice A1 (List.length a1) k1]) func4 rfl ?_
  replace h : H (X.l_FnExactLawfulSigns fu a0 a1) (fun o => o = r) := H.mk h
  unfold X.l_FnExactLawfulSigns at h
  refine c_seq ?_
  refine r_start ?_
  refine p 1 ?_
  refine rend ?_
  refine c_seq ?_
  refine r_start ?_
  refine p 1 ?_
  refine rend ?_
  refine c_seq ?_
  refine r_start ?_
  refine p 2 ?_
  obtain ⟨v2_2, hv2_2, h⟩ := H.call h
  refine xq rfl (y_call [.slice A0 (List.length a0) k0, .int .i64 1048576] (.int .i64 v2_2) func15 (fun W S => C.l_szSignS W hv2_2 ((s_arg h0).out W S))) ?_
  refine p 1 ?_
  refine rend ?_
  refine c_seq ?_
  refine c_seq ?_
  refine r_start ?_
  refine p 2 ?_
  refine rend ?_
  refine c_or (decide (v2_2 < 0)) (fun q1 => ?_) (fun q1 => ?_)
  · replace h := H.t q1 h
    refine c_seq ?_
    refine r_start ?_
    refine p 1 ?_
    refine rend ?_
    replace h := H.done h
    subst h
    exact ret func4 rfl (vs := [.bool true]) (.tmp (by kernel_rfl) .nil) rfl (fun W S => ⟨rfl, S.below⟩)
  replace h := H.f q1 h
  refine c_skip ?_
  refine c_seq ?_
  refine r_start ?_
  refine p 2 ?_
  obtain ⟨v5_2, hv5_2, h⟩ := H.call h
  refine xq rfl (y_call [.slice A1 (List.length a1) k1, .int .i64 v2_2] (.int .i64 v5_2) func20 (fun W S => C.l_szConstraintS W hv5_2 ((s_arg h1).out W S))) ?_
  refine p 1 ?_
  refine rend ?_
  refine c_seq ?_
  refine c_seq ?_
  refine r_start ?_
  refine p 2 ?_
  refine rend ?_
  refine c_or (decide (v5_2 < 0)) (fun q2 => ?_) (fun q2 => ?_)
  · replace h := H.t q2 h
    refine c_seq ?_
    refine r_start ?_
    refine p 1 ?_
    refine rend ?_
    replace h := H.done h
    subst h
    exact ret func4 rfl (vs := [.bool true]) (.tmp (by kernel_rfl) .nil) rfl (fun W S => ⟨rfl, S.below⟩)
  replace h := H.f q2 h
  refine c_skip ?_
  refine c_seq ?_
  refine r_start ?_
  refine p 1 ?_
  obtain ⟨v8_1, hv8_1, h⟩ := H.call h
  refine xx rfl (e_cr [.slice A0 (List.length a0) k0] (fun v => v) func17 (fun W S => C.l_toSignS W hv8_1 ((s_arg h0).out W S)) fun A8_1 k8_1 => ?_)
  refine p 1 ?_
  obtain ⟨v8_3, hv8_3, h⟩ := H.call h
  refine xx rfl (e_cr [.slice A1 (List.length a1) k1] (fun v => v) func22 (fun W S => C.l_toConstraintS W hv8_3 ((s_arg h1).out W S)) fun A8_3 k8_3 => ?_)
  obtain ⟨v8_4, hv8_4, h⟩ := H.call h
  refine xx rfl (e_cr [.slice A8_1 (List.length v8_1) k8_1, .slice A8_3 (List.length v8_3) k8_3] (fun v => .tuple #[v, .bool v8_4.2]) func21 (fun W S => C.s_LawfulSigns W hv8_4 ((s_own 0).out W S) ((s_own 1).out W S)) fun A8_4 k8_4 => ?_)
  refine p 5 ?_
  refine rend ?_
  refine c_seq ?_
  refine r_start ?_
  refine p 1 ?_
  obtain ⟨v9_1, hv9_1, h⟩ := H.call h
  refine xx rfl (e_cr [.slice A0 (List.length a0) k0] (fun v => v) func17 (fun W S => C.l_toSignS W hv9_1 ((s_arg h0).out W S)) fun A9_1 k9_1 => ?_)
  refine p 1 ?_
  refine rend ?_
  refine c_seq ?_
  refine r_start ?_
  refine p 1 ?_
  obtain ⟨v10_1, hv10_1, h⟩ := H.call h
  refine xx rfl (e_cr [.slice A1 (List.length a1) k1] (fun v => v) func22 (fun W S => C.l_toConstraintS W hv10_1 ((s_arg h1).out W S)) fun A10_1 k10_1 => ?_)
  refine p 1 ?_
  refine rend ?_
  refine c_seq ?_
  refine r_start ?_
  refine p 2 ?_
  obtain ⟨v11_2, hv11_2, h⟩ := H.call h
  refine xx rfl (e_cr [.slice A9_1 (List.length v9_1) k9_1, .slice A10_1 (List.length v10_1) k10_1] (fun v => .tuple #[v, .bool v11_2.2]) func23 (fun W S => C.i_LawfulSigns W hv11_2 ((s_own 3).out W S) ((s_own 4).out W S)) fun A11_2 k11_2 => ?_)
  refine p 5 ?_
  refine rend ?_
  refine c_seq ?_
  refine c_seq ?_
  refine r_start ?_
  refine p 2 ?_
  obtain ⟨v12_2, hv12_2, h⟩ := H.call h
  refine xq rfl (y_call [.slice A11_2 (List.length v11_2.1) k11_2, .slice A8_4 (List.length v8_4.1) k8_4] (.bool v12_2) func24 (fun W S => C.l_eqIntS W hv12_2 ((s_own 5).out W S) ((s_own 2).out W S))) ?_
  refine p 2 ?_
  refine br (!v12_2) (fun q3 => ?_) (fun q3 => ?_)
  · replace h := H.t q3 h
    refine o_set 49 (congrArg Value.bool q3) ?_
    refine p 4 ?_
    refine rend ?_
    refine c_t (by kernel_rfl) ?_
    refine c_seq ?_
    refine r_start ?_
    refine p 1 ?_
    refine rend ?_
    refine frg (fun u => (jk u 0 4 (.bool false :: (jk u 5 114 [])))) (by kernel_rfl) fun u => ?_
    refine keep 6 (its' := [rowT nSign w.heap.size 66 (.slice A8_1 (List.length v8_1) k8_1) v8_1, rowT nConstraint w.heap.size 103 (.slice A8_3 (List.length v8_3) k8_3) v8_3, rowT (eI .i64) w.heap.size 3 (.slice A8_4 (List.length v8_4.1) k8_4) v8_4.1, rowT nSign w.heap.size 66 (.slice A9_1 (List.length v9_1) k9_1) v9_1, rowT nConstraint w.heap.size 103 (.slice A10_1 (List.length v10_1) k10_1) v10_1, rowT (eI .i64) w.heap.size 3 (.slice A11_2 (List.length v11_2.1) k11_2) v11_2.1]) (by kernel_rfl) ?_
    replace h := H.done h
    subst h
    exact ret func4 rfl (vs := [.bool false]) (.tmp (by kernel_rfl) .nil) rfl (fun W S => ⟨rfl, S.below⟩)
  replace h := H.f q3 h
  refine o_set 49 (congrArg Value.bool q3) ?_
  refine p 4 ?_
  refine rend ?_
  refine c_or (!(v11_2.2 == v8_4.2)) (fun q4 => ?_) (fun q4 => ?_)
  · replace h := H.t q4 h
    refine c_seq ?_
    refine r_start ?_
    refine p 1 ?_
    refine rend ?_
    refine frg (fun u => (jk u 0 4 (.bool false :: (jk u 5 114 [])))) (by kernel_rfl) fun u => ?_
    refine keep 6 (its' := [rowT nSign w.heap.size 66 (.slice A8_1 (List.length v8_1) k8_1) v8_1, rowT nConstraint w.heap.size 103 (.slice A8_3 (List.length v8_3) k8_3) v8_3, rowT (eI .i64) w.heap.size 3 (.slice A8_4 (List.length v8_4.1) k8_4) v8_4.1, rowT nSign w.heap.size 66 (.slice A9_1 (List.length v9_1) k9_1) v9_1, rowT nConstraint w.heap.size 103 (.slice A10_1 (List.length v10_1) k10_1) v10_1, rowT (eI .i64) w.heap.size 3 (.slice A11_2 (List.length v11_2.1) k11_2) v11_2.1]) (by kernel_rfl) ?_
    replace h := H.done h
    subst h
    exact ret func4 rfl (vs := [.bool false]) (.tmp (by kernel_rfl) .nil) rfl (fun W S => ⟨rfl, S.below⟩)
  replace h := H.f q4 h
  refine c_skip ?_
  refine c_seq ?_
  refine c_seq ?_
  refine r_start ?_
  refine p 2 ?_
  obtain ⟨v14_2, hv14_2, h⟩ := H.call h
  refine xx rfl (e_cr [.slice A0 (List.length a0) k0] (fun v => v) func17 (fun W S => C.l_toSignS W hv14_2 ((s_arg h0).out W S)) fun A14_2 k14_2 => ?_)
  obtain ⟨v14_3, hv14_3, h⟩ := H.call h
  refine xq rfl (y_call [.slice A9_1 (List.length v9_1) k9_1, .slice A14_2 (List.length v14_2) k14_2] (.bool v14_3) func19 (fun W S => C.l_eqSignS W hv14_3 ((s_own 3).out W S) ((s_own 6).out W S))) ?_
  refine p 1 ?_
  refine rend ?_
  refine frg (fun u => (.slice A0 (List.length a0) k0 :: .slice A1 (List.length a1) k1 :: (jk u 2 4 (.slice A8_4 (List.length v8_4.1) k8_4 :: .bool v8_4.2 :: .slice A9_1 (List.length v9_1) k9_1 :: .slice A10_1 (List.length v10_1) k10_1 :: .slice A11_2 (List.length v11_2.1) k11_2 :: .bool v11_2.2 :: (jk u 12 46 (.bool (!v14_3) :: (jk u 59 60 []))))))) (by kernel_rfl) fun u => ?_
  refine keep 7 (its' := [rowT nSign w.heap.size 66 (.slice A8_1 (List.length v8_1) k8_1) v8_1, rowT nConstraint w.heap.size 103 (.slice A8_3 (List.length v8_3) k8_3) v8_3, rowT (eI .i64) w.heap.size 3 (.slice A8_4 (List.length v8_4.1) k8_4) v8_4.1, rowT nSign w.heap.size 66 (.slice A9_1 (List.length v9_1) k9_1) v9_1, rowT nConstraint w.heap.size 103 (.slice A10_1 (List.length v10_1) k10_1) v10_1, rowT (eI .i64) w.heap.size 3 (.slice A11_2 (List.length v11_2.1) k11_2) v11_2.1, rowT nSign w.heap.size 66 (.slice A14_2 (List.length v14_2) k14_2) v14_2]) (by kernel_rfl) ?_
  refine c_or (!v14_3) (fun q5 => ?_) (fun q5 => ?_)
  · replace h := H.t q5 h
    refine c_seq ?_
    refine r_start ?_
    refine p 1 ?_
    refine rend ?_
    replace h := H.done h
    subst h
    exact ret func4 rfl (vs := [.bool false]) (.tmp (by kernel_rfl) .nil) rfl (fun W S => ⟨rfl, S.below⟩)
  replace h := H.f q5 h
  refine c_skip ?_
  refine c_seq ?_
  refine c_seq ?_
  refine r_start ?_
  refine p 2 ?_
  obtain ⟨v16_2, hv16_2, h⟩ := H.call h
  refine xx rfl (e_cr [.slice A1 (List.length a1) k1] (fun v => v) func22 (fun W S => C.l_toConstraintS W hv16_2 ((s_arg h1).out W S)) fun A16_2 k16_2 => ?_)
  obtain ⟨v16_3, hv16_3, h⟩ := H.call h
  refine xq rfl (y_call [.slice A10_1 (List.length v10_1) k10_1, .slice A16_2 (List.length v16_2) k16_2] (.bool v16_3) func25 (fun W S => C.l_eqConstraintS W hv16_3 ((s_own 4).out W S) ((s_own 7).out W S))) ?_
  refine p 1 ?_
  refine rend ?_
  refine c_or (!v16_3) (fun q6 => ?_) (fun q6 => ?_)
  · replace h := H.t q6 h
    refine c_seq ?_
    refine r_start ?_
    refine p 1 ?_
    refine rend ?_
    replace h := H.done h
    subst h
    exact ret func4 rfl (vs := [.bool false]) (.tmp (by kernel_rfl) .nil) rfl (fun W S => ⟨rfl, S.below⟩)
  replace h := H.f q6 h
  refine c_skip ?_
  refine c_seq ?_
  refine r_start ?_
  refine p 1 ?_
  refine rend ?_
  refine c_seq ?_
  refine r_start ?_
  refine p 2 ?_
  obtain ⟨v19_2, hv19_2, h⟩ := H.call h
  refine xx rfl (e_cw (e := nSign) (l' := v19_2.2) (v := .int .i64 v19_2.1) 3 [.slice A9_1 (List.length v9_1) k9_1, .int .i64 1] func26 (fun W S => C.l_markSignS W hv19_2 rfl (S.row 3)) fun hl19_2 => ?_)
  refine o_set 8 (sl_len (A := A9_1) (c := k9_1) hl19_2) ?_
  refine p 1 ?_
  refine rend ?_
  refine c_seq ?_
  refine r_start ?_
  refine p 2 ?_
  obtain ⟨v20_2, hv20_2, h⟩ := H.call h
  refine xx rfl (e_cw (e := nConstraint) (l' := v20_2.2) (v := .int .i64 v20_2.1) 4 [.slice A10_1 (List.length v10_1) k10_1, .int .i64 v19_2.1] func27 (fun W S => C.l_markConstraintS W hv20_2 rfl (S.row 4)) fun hl20_2 => ?_)
  refine o_set 9 (sl_len (A := A10_1) (c := k10_1) hl20_2) ?_
  refine p 1 ?_
  refine rend ?_
  refine c_seq ?_
  refine c_seq ?_
  refine r_start ?_
  refine p 3 ?_
  refine br (decide (v20_2.1 < 0)) (fun q7 => ?_) (fun q7 => ?_)
  · replace h := H.t q7 h
    refine o_set 72 (congrArg Value.bool q7) ?_
    refine p 10 ?_
    refine rend ?_
    refine c_t (by kernel_rfl) ?_
    refine c_seq ?_
    refine r_start ?_
    refine p 1 ?_
    refine rend ?_
    replace h := H.done h
    subst h
    exact ret func4 rfl (vs := [.bool false]) (.tmp (by kernel_rfl) .nil) rfl (fun W S => ⟨rfl, S.below⟩)
  replace h := H.f q7 h
  refine o_set 72 (congrArg Value.bool q7) ?_
  refine p 2 ?_
  obtain ⟨v21_5, hv21_5, h⟩ := H.call h
  refine xq rfl (y_call [.slice A11_2 (List.length v11_2.1) k11_2, .slice A8_4 (List.length v8_4.1) k8_4] (.bool v21_5) func24 (fun W S => C.l_eqIntS W hv21_5 ((s_own 5).out W S) ((s_own 2).out W S))) ?_
  refine p 3 ?_
  refine br (!v21_5) (fun q8 => ?_) (fun q8 => ?_)
  · replace h := H.t q8 h
    refine o_set 78 (congrArg Value.bool q8) ?_
    refine p 4 ?_
    refine rend ?_
    refine c_t (by kernel_rfl) ?_
    refine c_seq ?_
    refine r_start ?_
    refine p 1 ?_
    refine rend ?_
    replace h := H.done h
    subst h
    exact ret func4 rfl (vs := [.bool false]) (.tmp (by kernel_rfl) .nil) rfl (fun W S => ⟨rfl, S.below⟩)
  replace h := H.f q8 h
  refine o_set 78 (congrArg Value.bool q8) ?_
  refine p 4 ?_
  refine rend ?_
  refine c_no q4 ?_
  refine c_skip ?_
  refine c_seq ?_
  refine r_start ?_
  refine p 1 ?_
  refine rend ?_
  refine c_seq ?_
  refine r_start ?_
  refine p 2 ?_
  obtain ⟨v24_2, hv24_2, h⟩ := H.call h
  refine xx rfl (e_cw (e := (eI .i64)) (l' := v24_2.2) (v := .int .i64 v24_2.1) 5 [.slice A11_2 (List.length v11_2.1) k11_2, .int .i64 1] func28 (fun W S => C.l_markIntS W hv24_2 rfl (S.row 5)) fun hl24_2 => ?_)
  refine o_set 10 (sl_len (A := A11_2) (c := k11_2) hl24_2) ?_
  refine p 1 ?_
  refine rend ?_
  refine c_seq ?_
  refine r_start ?_
  refine p 1 ?_
  refine rend ?_
  refine c_seq ?_
  refine r_start ?_
  refine p 2 ?_
  obtain ⟨v26_2, hv26_2, h⟩ := H.call h
  refine xq rfl (y_call [.slice A11_2 (List.length v24_2.2) k11_2, .int .i64 1] (.int .i64 v26_2) func29 (fun W S => C.l_heldIntS W hv26_2 ((s_own 5).out W S))) ?_
  refine p 1 ?_
  refine rend ?_
  refine c_seq ?_
  refine c_seq ?_
  refine r_start ?_
  refine p 2 ?_
  refine rend ?_
  refine c_or (decide (v26_2 < 0)) (fun q9 => ?_) (fun q9 => ?_)
  · replace h := H.t q9 h
    refine c_seq ?_
    refine r_start ?_
    refine p 1 ?_
    refine rend ?_
    replace h := H.done h
    subst h
    exact ret func4 rfl (vs := [.bool false]) (.tmp (by kernel_rfl) .nil) rfl (fun W S => ⟨rfl, S.below⟩)
  replace h := H.f q9 h
  refine c_skip ?_
  refine c_seq ?_
  refine c_seq ?_
  refine r_start ?_
  refine p 3 ?_
  refine rend ?_
  refine c_or (v26_2 != v24_2.1) (fun q10 => ?_) (fun q10 => ?_)
  · replace h := H.t q10 h
    refine c_seq ?_
    refine r_start ?_
    refine p 1 ?_
    refine rend ?_
    refine frg (fun u => (jk u 0 4 (.bool false :: (jk u 5 114 [])))) (by kernel_rfl) fun u => ?_
    refine keep 8 (its' := [rowT nSign w.heap.size 66 (.slice A8_1 (List.length v8_1) k8_1) v8_1, rowT nConstraint w.heap.size 103 (.slice A8_3 (List.length v8_3) k8_3) v8_3, rowT (eI .i64) w.heap.size 3 (.slice A8_4 (List.length v8_4.1) k8_4) v8_4.1, rowT nSign w.heap.size 66 (.slice A9_1 (List.length v19_2.2) k9_1) v19_2.2, rowT nConstraint w.heap.size 103 (.slice A10_1 (List.length v20_2.2) k10_1) v20_2.2, rowT (eI .i64) w.heap.size 3 (.slice A11_2 (List.length v24_2.2) k11_2) v24_2.2, rowT nSign w.heap.size 66 (.slice A14_2 (List.length v14_2) k14_2) v14_2, rowT nConstraint w.heap.size 103 (.slice A16_2 (List.length v16_2) k16_2) v16_2]) (by kernel_rfl) ?_
    replace h := H.done h
    subst h
    exact ret func4 rfl (vs := [.bool false]) (.tmp (by kernel_rfl) .nil) rfl (fun W S => ⟨rfl, S.below⟩)
  replace h := H.f q10 h
  refine c_skip ?_
  refine c_seq ?_
  refine r_start ?_
  refine p 1 ?_
  obtain ⟨v31_1, hv31_1, h⟩ := H.call h
  refine xx rfl (e_cr [.slice A0 (List.length a0) k0] (fun v => v) func17 (fun W S => C.l_toSignS W hv31_1 ((s_arg h0).out W S)) fun A31_1 k31_1 => ?_)
  refine p 1 ?_
  obtain ⟨v31_3, hv31_3, h⟩ := H.call h
  refine xx rfl (e_cr [.slice A1 (List.length a1) k1] (fun v => v) func22 (fun W S => C.l_toConstraintS W hv31_3 ((s_arg h1).out W S)) fun A31_3 k31_3 => ?_)
  obtain ⟨v31_4, hv31_4, h⟩ := H.call h
  refine xx rfl (e_cr [.slice A31_1 (List.length v31_1) k31_1, .slice A31_3 (List.length v31_3) k31_3] (fun v => .tuple #[v, .bool v31_4.2]) func23 (fun W S => C.i_LawfulSigns W hv31_4 ((s_own 8).out W S) ((s_own 9).out W S)) fun A31_4 k31_4 => ?_)
  refine p 5 ?_
  refine rend ?_
  refine frg (fun u => (jk u 0 6 (.slice A8_4 (List.length v8_4.1) k8_4 :: .bool v8_4.2 :: (jk u 8 2 (.slice A11_2 (List.length v24_2.2) k11_2 :: (jk u 11 2 (.int .i64 v24_2.1 :: (jk u 14 1 (.slice A31_4 (List.length v31_4.1) k31_4 :: .bool v31_4.2 :: (jk u 17 102 [])))))))))) (by kernel_rfl) fun u => ?_
  refine keep 11 (its' := [rowT nSign w.heap.size 66 (.slice A8_1 (List.length v8_1) k8_1) v8_1, rowT nConstraint w.heap.size 103 (.slice A8_3 (List.length v8_3) k8_3) v8_3, rowT (eI .i64) w.heap.size 3 (.slice A8_4 (List.length v8_4.1) k8_4) v8_4.1, rowT nSign w.heap.size 66 (.slice A9_1 (List.length v19_2.2) k9_1) v19_2.2, rowT nConstraint w.heap.size 103 (.slice A10_1 (List.length v20_2.2) k10_1) v20_2.2, rowT (eI .i64) w.heap.size 3 (.slice A11_2 (List.length v24_2.2) k11_2) v24_2.2, rowT nSign w.heap.size 66 (.slice A14_2 (List.length v14_2) k14_2) v14_2, rowT nConstraint w.heap.size 103 (.slice A16_2 (List.length v16_2) k16_2) v16_2, rowT nSign w.heap.size 66 (.slice A31_1 (List.length v31_1) k31_1) v31_1, rowT nConstraint w.heap.size 103 (.slice A31_3 (List.length v31_3) k31_3) v31_3, rowT (eI .i64) w.heap.size 3 (.slice A31_4 (List.length v31_4.1) k31_4) v31_4.1]) (by kernel_rfl) ?_
  refine c_seq ?_
  refine c_seq ?_
  refine r_start ?_
  refine p 2 ?_
  obtain ⟨v32_2, hv32_2, h⟩ := H.call h
  refine xq rfl (y_call [.slice A31_4 (List.length v31_4.1) k31_4, .slice A8_4 (List.length v8_4.1) k8_4] (.bool v32_2) func24 (fun W S => C.l_eqIntS W hv32_2 ((s_own 10).out W S) ((s_own 2).out W S))) ?_
  refine p 2 ?_
  refine br (!v32_2) (fun q11 => ?_) (fun q11 => ?_)
  · replace h := H.t q11 h
    refine o_set 106 (congrArg Value.bool q11) ?_
    refine p 4 ?_
    refine rend ?_
    refine c_t (by kernel_rfl) ?_
    refine c_seq ?_
    refine r_start ?_
    refine p 1 ?_
    refine rend ?_
    replace h := H.done h
    subst h
    exact ret func4 rfl (vs := [.bool false]) (.tmp (by kernel_rfl) .nil) rfl (fun W S => ⟨rfl, S.below⟩)
  replace h := H.f q11 h
  refine o_set 106 (congrArg Value.bool q11) ?_
  refine p 4 ?_
  refine rend ?_
  refine c_or (!(v31_4.2 == v8_4.2)) (fun q12 => ?_) (fun q12 => ?_)
  · replace h := H.t q12 h
    refine c_seq ?_
    refine r_start ?_
    refine p 1 ?_
    refine rend ?_
    replace h := H.done h
    subst h
    exact ret func4 rfl (vs := [.bool false]) (.tmp (by kernel_rfl) .nil) rfl (fun W S => ⟨rfl, S.below⟩)
  replace h := H.f q12 h
  refine c_skip ?_
  refine c_seq ?_
  refine r_start ?_
  refine p 1 ?_
  refine rend ?_
  refine c_seq ?_
  refine r_start ?_
  refine p 2 ?_
  obtain ⟨v35_2, hv35_2, h⟩ := H.call h
  refine xq rfl (y_call [.slice A11_2 (List.length v24_2.2) k11_2, .int .i64 1] (.int .i64 v35_2) func29 (fun W S => C.l_heldIntS W hv35_2 ((s_own 5).out W S))) ?_
  refine p 1 ?_
  refine rend ?_
  refine c_seq ?_
  refine c_seq ?_
  refine r_start ?_
  refine p 2 ?_
  refine rend ?_
  refine c_or (decide (v35_2 < 0)) (fun q13 => ?_) (fun q13 => ?_)
  · replace h := H.t q13 h
    refine c_seq ?_
    refine r_start ?_
    refine p 1 ?_
    refine rend ?_
    replace h := H.done h
    subst h
    exact ret func4 rfl (vs := [.bool false]) (.tmp (by kernel_rfl) .nil) rfl (fun W S => ⟨rfl, S.below⟩)
  replace h := H.f q13 h
  refine c_skip ?_
  refine c_seq ?_
  refine c_seq ?_
  refine r_start ?_
  refine p 3 ?_
  refine rend ?_
  refine c_or (v35_2 != v24_2.1) (fun q14 => ?_) (fun q14 => ?_)
  · replace h := H.t q14 h
    refine c_seq ?_
    refine r_start ?_
    refine p 1 ?_
    refine rend ?_
    replace h := H.done h
    subst h
    exact ret func4 rfl (vs := [.bool false]) (.tmp (by kernel_rfl) .nil) rfl (fun W S => ⟨rfl, S.below⟩)
  replace h := H.f q14 h
  refine c_skip ?_
  refine c_seq ?_
  refine r_start ?_
  refine p 1 ?_
  refine rend ?_
  replace h := H.done h
  subst h
  exact ret func4 rfl (vs := [.bool true]) (.tmp (by kernel_rfl) .nil) rfl (fun W S => ⟨rfl, S.below⟩)
end Go.Proofs.XC
