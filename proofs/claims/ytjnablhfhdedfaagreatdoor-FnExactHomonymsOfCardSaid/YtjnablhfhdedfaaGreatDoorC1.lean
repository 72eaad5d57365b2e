/- Contracts: each function of the given program, called where its plain function gives an answer, returns just that answer and changes nothing that was there. By AI agents; no person has read it. -/
import Derived.Test.YtjnablhfhdedfaaGreatDoorC0
set_option linter.unusedVariables false
set_option linter.unusedSimpArgs false
set_option maxRecDepth 100000
set_option maxHeartbeats 40000000
namespace Go.Proofs.XC
open Go Go.RowKit
open Tryz
theorem C.l_szSignS {fu : Nat} {a0 : (List Sign)} {A0 : Option Addr} {k0 : Nat} {a1 : Int} {r : Int} (w : World) (h : X.l_szSignS fu a0 a1 = some r) (h0 : RdT nSign w (.slice A0 (List.length a0) k0) a0) : Calls prog 15 #[.slice A0 (List.length a0) k0, .int .i64 a1] w (Ret w (.int .i64 r)) := by
  refine calls (M := no) (args := [.slice A0 (List.length a0) k0, .int .i64 a1]) func15 rfl ?_
  replace h : H (X.l_szSignS fu a0 a1) (fun o => o = r) := H.mk h
  unfold X.l_szSignS at h
  refine c_seq ?_
  refine r_start ?_
  refine p 1 ?_
  refine rend ?_
  refine c_seq ?_
  refine r_start ?_
  refine p 5 ?_
  refine rend ?_
  refine c_seq ?_
  refine c_seq ?_
  refine r_start ?_
  refine p 2 ?_
  refine rend ?_
  refine c_or (decide ((wr (a1 - (List.length a0 : Int))) < 0)) (fun q1 => ?_) (fun q1 => ?_)
  · replace h := H.t q1 h
    refine c_seq ?_
    refine r_start ?_
    refine p 1 ?_
    refine rend ?_
    replace h := H.done h
    subst h
    exact ret func15 rfl (vs := [.int .i64 (-1)]) (.tmp (by kernel_rfl) .nil) rfl (fun W S => ⟨rfl, S.below⟩)
  replace h := H.f q1 h
  refine c_skip ?_
  refine c_seq ?_
  refine c_seq ?_
  refine r_start ?_
  refine p 1 ?_
  refine rend ?_
  refine c_block ?_
  refine joinE (X := Int) 0 (H.or h) (fun (x : Int) => x) (fun n4 => []) (fun n4 u => (jk u 0 1 (.int .i64 n4 :: (jk u 2 25 [])))) (fun h hj5 => ?_) ?_
  · skip
    refine loopR (X := (Int × Int)) (fun (x : (Int × Int)) => x) (fun ⟨n2, n3⟩ => []) (fun ⟨n2, n3⟩ u => (.slice A0 (List.length a0) k0 :: .int .i64 n2 :: (jk u 2 3 (.int .i64 n3 :: (jk u 6 21 []))))) ((wr (a1 - (List.length a0 : Int))), 0) h (by kernel_rfl) (by kernel_rfl) ?_
    intro x u h
    obtain ⟨n2, n3⟩ := x
    refine c_seq ?_
    refine c_seq ?_
    refine r_start ?_
    refine p 4 ?_
    refine rend ?_
    refine c_or (decide (n3 < (List.length a0 : Int))) (fun q6 => ?_) (fun q6 => ?_)
    · replace h := H.t q6 h
      refine c_skip ?_
      refine c_seq ?_
      refine c_block ?_
      refine c_seq ?_
      refine r_start ?_
      refine p 2 ?_
      obtain ⟨y7_2, hy7_2, h⟩ := H.call h
      refine xq rfl (y_idx (e := nSign) (el := 47) hy7_2 (s_arg h0)) ?_
      refine xq rfl (y_el (e := nSign) 0 (.agg (eSign y7_2).toArray) hy7_2 (s_arg h0)) ?_
      refine p 1 ?_
      obtain ⟨v7_5, hv7_5, h⟩ := H.call h
      refine xq rfl (y_call [.agg (eSign y7_2).toArray, .int .i64 n2] (.int .i64 v7_5) func24 (fun W S => C.l_szSign W hv7_5)) ?_
      refine p 1 ?_
      refine rend ?_
      refine c_seq ?_
      refine r_start ?_
      refine p 2 ?_
      refine rend ?_
      refine c_or (decide (v7_5 < 0)) (fun q7 => ?_) (fun q7 => ?_)
      · replace h := H.t q7 h
        refine c_seq ?_
        refine r_start ?_
        refine p 1 ?_
        refine rend ?_
        replace h := H.inr h
        replace h := H.done h
        subst h
        exact ret func15 rfl (vs := [.int .i64 (-1)]) (.tmp (by kernel_rfl) .nil) rfl (fun W S => ⟨rfl, S.below⟩)
      replace h := H.f q7 h
      refine c_skip ?_
      refine c_inb ?_
      refine r_start ?_
      refine p 3 ?_
      refine rend ?_
      replace h := H.inl h
      exact h (v7_5, (wr (n3 + 1))) _ _ rfl (by kernel_rfl) (by kernel_rfl)
    replace h := H.f q6 h
    refine cx ?_
    replace h := H.inr h
    exact hj5 n2 _ _ h (by kernel_rfl) (by kernel_rfl)
  intro n4 u h
  refine c_seq ?_
  refine r_start ?_
  refine p 2 ?_
  refine rend ?_
  replace h := H.done h
  subst h
  exact ret func15 rfl (vs := [.int .i64 n4]) (.tmp (by kernel_rfl) .nil) rfl (fun W S => ⟨rfl, S.below⟩)
theorem C.s_paList {fu : Nat} {a0 : (List Sign)} {A0 : Option Addr} {k0 : Nat} {r : Bool} (w : World) (h : X.s_paList fu a0 = some r) (h0 : RdT nSign w (.slice A0 (List.length a0) k0) a0) : Calls prog 75 #[.slice A0 (List.length a0) k0] w (Ret w (.bool r)) := by
  refine calls (M := no) (args := [.slice A0 (List.length a0) k0]) func75 rfl ?_
  replace h : H (X.s_paList fu a0) (fun o => o = r) := H.mk h
  unfold X.s_paList at h
  refine c_seq ?_
  refine r_start ?_
  refine p 1 ?_
  refine rend ?_
  refine c_seq ?_
  refine c_seq ?_
  refine r_start ?_
  refine p 3 ?_
  refine rend ?_
  refine c_block ?_
  refine joinE (X := Unit) 0 (H.or h) (fun (x : Unit) => x) (fun _ => []) (fun _ u => (.slice A0 (List.length a0) k0 :: (jk u 1 17 []))) (fun h hj1 => ?_) ?_
  · skip
    refine rangeR (X := Unit) (s_arg h0) (fun (x : Unit) => x) (fun _ => []) (fun (j2 : Nat) _ u => (.slice A0 (List.length a0) k0 :: (jk u 1 4 (.slice A0 (List.length a0) k0 :: .int .i64 (List.length a0 : Int) :: .int .i64 (j2 : Int) :: (jk u 8 10 []))))) () h (by kernel_rfl) (by kernel_rfl) ?_ ?_
    · intro j2 x u x3 q4 hg5 hw6 h
      refine c_seq ?_
      refine r_start ?_
      refine p 1 ?_
      refine rend ?_
      refine c_seq ?_
      refine c_yes q4 ?_
      refine c_skip ?_
      refine c_seq ?_
      refine c_block ?_
      refine c_seq ?_
      refine r_start ?_
      refine xq rfl (y_idx (e := nSign) (el := 62) hg5 (s_arg h0)) ?_
      refine xq rfl (y_el (e := nSign) 0 (.agg (eSign x3).toArray) hg5 (s_arg h0)) ?_
      refine xx rfl (x_new (eSign zSign) fun g3_2 => ?_)
      refine xx rfl (x_sto 0 g3_2 0 (eSign x3) ?_)
      refine rend ?_
      refine c_seq ?_
      refine r_start ?_
      refine xq rfl (y_load (.agg (eSign x3).toArray) 0 g3_2 0) ?_
      obtain ⟨v4_1, hv4_1, h⟩ := H.call h
      refine xq rfl (y_call [.agg (eSign x3).toArray] (.bool v4_1) func84 (fun W S => C.s_siGood W hv4_1)) ?_
      refine p 1 ?_
      refine rend ?_
      refine c_or (!v4_1) (fun q7 => ?_) (fun q7 => ?_)
      · replace h := H.t q7 h
        refine c_seq ?_
        refine r_start ?_
        refine p 1 ?_
        refine rend ?_
        replace h := H.inr h
        replace h := H.done h
        subst h
        exact ret func75 rfl (vs := [.bool false]) (.tmp (by kernel_rfl) .nil) rfl (fun W S => ⟨rfl, S.below⟩)
      replace h := H.f q7 h
      refine c_skip ?_
      refine c_inb ?_
      refine r_start ?_
      refine p 2 ?_
      refine rend ?_
      refine c_set 7 (ci hw6) ?_
      replace h := H.inl h
      exact h () _ _ rfl (by kernel_rfl) (by kernel_rfl)
    · intro x u q4 h
      refine c_seq ?_
      refine r_start ?_
      refine p 1 ?_
      refine rend ?_
      refine c_seq ?_
      refine c_no q4 ?_
      refine cx ?_
      replace h := H.done h
      exact hj1 () _ _ h (by kernel_rfl) (by kernel_rfl)
  intro x u h
  refine c_seq ?_
  refine r_start ?_
  refine p 4 ?_
  refine rend ?_
  replace h := H.done h
  subst h
  exact ret func75 rfl (vs := [.bool (decide ((List.length a0 : Int) ≤ 20))]) (.tmp (by kernel_rfl) .nil) rfl (fun W S => ⟨rfl, S.below⟩)
theorem C.s_ruMost {a0 : Int} {r : Int} (w : World) (h : X.s_ruMost a0 = some r) : Calls prog 213 #[.int .i64 a0] w (Ret w (.int .i64 r)) := by
  refine calls (M := no) (args := [.int .i64 a0]) func213 rfl ?_
  replace h : H (X.s_ruMost a0) (fun o => o = r) := H.mk h
  unfold X.s_ruMost at h
  refine c_seq ?_
  refine r_start ?_
  refine p 1 ?_
  refine rend ?_
  refine c_seq ?_
  refine r_start ?_
  refine xx rfl (e_lit (e := (eI .i64)) (el := 3) [.int .i64 18, .int .i64 9, .int .i64 4, .int .i64 3, .int .i64 9] ([18, 9, 4, 3, 9] : List Int) fun A1_0 k1_0 => ?_)
  refine p 1 ?_
  obtain ⟨y1_2, hy1_2, h⟩ := H.call h
  refine xq rfl (y_idx (e := (eI .i64)) (el := 3) hy1_2 (s_own 0)) ?_
  refine xq rfl (y_el (e := (eI .i64)) 0 (.int .i64 y1_2) hy1_2 (s_own 0)) ?_
  refine p 1 ?_
  refine rend ?_
  replace h := H.done h
  subst h
  exact ret func213 rfl (vs := [.int .i64 y1_2]) (.tmp (by kernel_rfl) .nil) rfl (fun W S => ⟨rfl, S.below⟩)
theorem C.s_ruGood {a0 : Constraint} {r : Bool} (w : World) (h : X.s_ruGood a0 = some r) : Calls prog 122 #[.agg (eConstraint a0).toArray] w (Ret w (.bool r)) := by
  refine calls (M := no) (args := [.agg (eConstraint a0).toArray]) func122 rfl ?_
  replace h : H (X.s_ruGood a0) (fun o => o = r) := H.mk h
  unfold X.s_ruGood at h
  refine c_seq ?_
  refine r_start ?_
  refine xx rfl (x_box (eConstraint a0) fun g0_0 => ?_)
  refine p 1 ?_
  refine rend ?_
  refine c_seq ?_
  refine as_start 22 22 ?_
  refine ap 0 1 ?_
  refine aq 1 rfl (y_load (.int .i64 a0.Kind) 0 g0_0 0) ?_
  obtain ⟨v1_2, hv1_2, h⟩ := H.call h
  refine aq 2 rfl (y_call [.int .i64 a0.Kind, .int .i64 0, .int .i64 4] (.bool v1_2) func140 (fun W S => C.s_l1In W hv1_2)) ?_
  refine ap 3 1 ?_
  refine br v1_2 (fun q1 => ?_) (fun q1 => ?_)
  · replace h := H.t q1 h
    refine a_set 6 (congrArg Value.bool q1) ?_
    refine ap 4 1 ?_
    refine aq 5 rfl (y_load (.int .i64 a0.Value) 0 g0_0 1) ?_
    refine ap 6 1 ?_
    refine aq 7 rfl (y_load (.int .i64 a0.Kind) 0 g0_0 0) ?_
    obtain ⟨v1_8, hv1_8, h⟩ := H.call h
    refine aq 8 rfl (y_call [.int .i64 a0.Kind] (.int .i64 v1_8) func213 (fun W S => C.s_ruMost W hv1_8)) ?_
    obtain ⟨v1_9, hv1_9, h⟩ := H.call h
    refine aq 9 rfl (y_call [.int .i64 a0.Value, .int .i64 0, .int .i64 v1_8] (.bool v1_9) func140 (fun W S => C.s_l1In W hv1_9)) ?_
    refine ap 10 2 ?_
    refine br v1_9 (fun q2 => ?_) (fun q2 => ?_)
    · replace h := H.t q2 h
      refine a_set 14 (congrArg Value.bool q2) ?_
      refine ap 12 1 ?_
      refine aq 13 rfl (y_load (.int .i64 a0.Kind) 0 g0_0 0) ?_
      refine ap 14 2 ?_
      refine br (a0.Kind != 3) (fun q3 => ?_) (fun q3 => ?_)
      · replace h := H.t q3 h
        refine a_set 18 (congrArg Value.bool q3) ?_
        refine ap 16 6 ?_
        refine a_done ?_
        replace h := H.done h
        subst h
        exact ret func122 rfl (vs := [.bool true]) (.tmp (by kernel_rfl) .nil) rfl (fun W S => ⟨rfl, S.below⟩)
      replace h := H.f q3 h
      refine a_set 18 (congrArg Value.bool q3) ?_
      refine ap 16 1 ?_
      refine aq 17 rfl (y_load (.int .i64 a0.Value) 0 g0_0 1) ?_
      obtain ⟨v1_18, hv1_18, h⟩ := H.call h
      refine aq 18 rfl (y_call [.int .i64 a0.Value, .int .i64 0, .int .i64 3] (.bool v1_18) func140 (fun W S => C.s_l1In W hv1_18)) ?_
      refine ap 19 3 ?_
      refine a_done ?_
      replace h := H.done h
      subst h
      exact ret func122 rfl (vs := [.bool v1_18]) (.tmp (by kernel_rfl) .nil) rfl (fun W S => ⟨rfl, S.below⟩)
    replace h := H.f q2 h
    refine a_set 14 (congrArg Value.bool q2) ?_
    refine ap 12 10 ?_
    refine a_done ?_
    replace h := H.done h
    subst h
    exact ret func122 rfl (vs := [.bool false]) (.tmp (by kernel_rfl) .nil) rfl (fun W S => ⟨rfl, S.below⟩)
  replace h := H.f q1 h
  refine a_set 6 (congrArg Value.bool q1) ?_
  refine ap 4 18 ?_
  refine a_done ?_
  replace h := H.done h
  subst h
  exact ret func122 rfl (vs := [.bool false]) (.tmp (by kernel_rfl) .nil) rfl (fun W S => ⟨rfl, S.below⟩)
theorem C.s_l1Most {a0 : Int} {a1 : Int} {r : Int} (w : World) (h : X.s_l1Most a0 a1 = some r) : Calls prog 235 #[.int .i64 a0, .int .i64 a1] w (Ret w (.int .i64 r)) := by
  refine calls (M := no) (args := [.int .i64 a0, .int .i64 a1]) func235 rfl ?_
  replace h : H (X.s_l1Most a0 a1) (fun o => o = r) := H.mk h
  unfold X.s_l1Most at h
  refine c_seq ?_
  refine r_start ?_
  refine p 1 ?_
  refine rend ?_
  refine c_seq ?_
  refine c_seq ?_
  refine r_start ?_
  refine p 3 ?_
  refine rend ?_
  refine c_or (decide (a0 > a1)) (fun q1 => ?_) (fun q1 => ?_)
  · replace h := H.t q1 h
    refine c_seq ?_
    refine r_start ?_
    refine p 2 ?_
    refine rend ?_
    replace h := H.done h
    subst h
    exact ret func235 rfl (vs := [.int .i64 a0]) (.tmp (by kernel_rfl) .nil) rfl (fun W S => ⟨rfl, S.below⟩)
  replace h := H.f q1 h
  refine c_skip ?_
  refine c_seq ?_
  refine r_start ?_
  refine p 2 ?_
  refine rend ?_
  replace h := H.done h
  subst h
  exact ret func235 rfl (vs := [.int .i64 a1]) (.tmp (by kernel_rfl) .nil) rfl (fun W S => ⟨rfl, S.below⟩)
theorem C.s_ruSteps {fu : Nat} {a0 : Sign} {r : Int} (w : World) (h : X.s_ruSteps fu a0 = some r) : Calls prog 153 #[.agg (eSign a0).toArray] w (Ret w (.int .i64 r)) := by
  refine calls (M := no) (args := [.agg (eSign a0).toArray]) func153 rfl ?_
  replace h : H (X.s_ruSteps fu a0) (fun o => o = r) := H.mk h
  unfold X.s_ruSteps at h
  refine c_seq ?_
  refine r_start ?_
  refine xx rfl (x_box (eSign a0) fun g0_0 => ?_)
  refine p 1 ?_
  refine rend ?_
  refine c_seq ?_
  refine as_start 12 12 ?_
  refine ap 0 2 ?_
  refine aq 2 rfl (y_load (.agg (eMove a0.Main.Move).toArray) 0 g0_0 11) ?_
  obtain ⟨v1_3, hv1_3, h⟩ := H.call h
  refine aq 3 rfl (y_call [.agg (eMove a0.Main.Move).toArray] (.string (bs v1_3)) func204 (fun W S => C.s_mvAll W hv1_3)) ?_
  refine ap 4 3 ?_
  refine aq 7 rfl (y_load (.agg (eMove a0.Other.Move).toArray) 0 g0_0 25) ?_
  obtain ⟨v1_8, hv1_8, h⟩ := H.call h
  refine aq 8 rfl (y_call [.agg (eMove a0.Other.Move).toArray] (.string (bs v1_8)) func204 (fun W S => C.s_mvAll W hv1_8)) ?_
  refine ap 9 1 ?_
  obtain ⟨v1_10, hv1_10, h⟩ := H.call h
  refine aq 10 rfl (y_call [.int .i64 (List.length v1_3 : Int), .int .i64 (List.length v1_8 : Int)] (.int .i64 v1_10) func235 (fun W S => C.s_l1Most W hv1_10)) ?_
  refine ap 11 1 ?_
  refine a_done ?_
  replace h := H.done h
  subst h
  exact ret func153 rfl (vs := [.int .i64 v1_10]) (.tmp (by kernel_rfl) .nil) rfl (fun W S => ⟨rfl, S.below⟩)
theorem C.s_ruOpen {a0 : Sign} {r : Int} (w : World) (h : X.s_ruOpen a0 = some r) : Calls prog 154 #[.agg (eSign a0).toArray] w (Ret w (.int .i64 r)) := by
  refine calls (M := no) (args := [.agg (eSign a0).toArray]) func154 rfl ?_
  replace h : H (X.s_ruOpen a0) (fun o => o = r) := H.mk h
  unfold X.s_ruOpen at h
  refine c_seq ?_
  refine r_start ?_
  refine xx rfl (x_box (eSign a0) fun g0_0 => ?_)
  refine p 1 ?_
  refine rend ?_
  refine c_seq ?_
  refine r_start ?_
  refine p 1 ?_
  refine rend ?_
  refine c_seq ?_
  refine c_seq ?_
  refine r_start ?_
  refine p 2 ?_
  refine xq rfl (y_load (.agg (eShape a0.Main.Shape).toArray) 0 g0_0 0) ?_
  obtain ⟨v2_3, hv2_3, h⟩ := H.call h
  refine xx rfl (e_cr [.agg (eShape a0.Main.Shape).toArray] (fun v => v) func236 (fun W S => C.s_shFingers W hv2_3) fun A2_3 k2_3 => ?_)
  refine p 2 ?_
  refine rend ?_
  refine c_block ?_
  refine joinH (X := Int) 0 (H.bnd h) (fun (x : Int) => x) (fun n2 => [box g0_0 62 (eSign a0), rowT (eI .i64) w.heap.size 3 (.slice A2_3 (List.length v2_3) k2_3) v2_3]) (fun n2 u => (jk u 0 3 (.int .i64 n2 :: (jk u 4 17 [])))) (fun h hj3 => ?_) ?_
  · skip
    refine rangeR (X := Int) (s_own 1) (fun (x : Int) => x) (fun n1 => [box g0_0 62 (eSign a0), rowT (eI .i64) w.heap.size 3 (.slice A2_3 (List.length v2_3) k2_3) v2_3]) (fun (j4 : Nat) n1 u => (jk u 0 3 (.int .i64 n1 :: (jk u 4 5 (.slice A2_3 (List.length v2_3) k2_3 :: .int .i64 (List.length v2_3 : Int) :: .int .i64 (j4 : Int) :: (jk u 12 9 [])))))) 0 h (by kernel_rfl) (by kernel_rfl) ?_ ?_
    · intro j4 n1 u x5 q6 hg7 hw8 h
      refine c_seq ?_
      refine r_start ?_
      refine p 1 ?_
      refine rend ?_
      refine c_seq ?_
      refine c_yes q6 ?_
      refine c_skip ?_
      refine c_seq ?_
      refine c_block ?_
      refine c_seq ?_
      refine r_start ?_
      refine xq rfl (y_idx (e := (eI .i64)) (el := 3) hg7 (s_own 1)) ?_
      refine xq rfl (y_el (e := (eI .i64)) 0 (.int .i64 x5) hg7 (s_own 1)) ?_
      refine p 1 ?_
      refine rend ?_
      refine c_seq ?_
      refine r_start ?_
      refine p 2 ?_
      refine rend ?_
      refine c_or (x5 == 0) (fun q9 => ?_) (fun q9 => ?_)
      · replace h := H.t q9 h
        refine r_start ?_
        refine p 3 ?_
        refine rend ?_
        refine c_inb ?_
        refine r_start ?_
        refine p 2 ?_
        refine rend ?_
        refine c_set 11 (ci hw8) ?_
        replace h := H.inl h
        exact h (wr (n1 + 1)) _ _ rfl (by kernel_rfl) (by kernel_rfl)
      replace h := H.f q9 h
      refine c_skip ?_
      refine c_inb ?_
      refine r_start ?_
      refine p 2 ?_
      refine rend ?_
      refine c_set 11 (ci hw8) ?_
      replace h := H.inl h
      exact h n1 _ _ rfl (by kernel_rfl) (by kernel_rfl)
    · intro n1 u q6 h
      refine c_seq ?_
      refine r_start ?_
      refine p 1 ?_
      refine rend ?_
      refine c_seq ?_
      refine c_no q6 ?_
      refine cx ?_
      replace h := H.done h
      exact hj3 n1 _ _ h (by kernel_rfl) (by kernel_rfl)
  intro n2 u h
  refine c_seq ?_
  refine r_start ?_
  refine p 2 ?_
  refine rend ?_
  replace h := H.done h
  subst h
  exact ret func154 rfl (vs := [.int .i64 n2]) (.tmp (by kernel_rfl) .nil) rfl (fun W S => ⟨rfl, S.below⟩)
theorem C.s_ruKeeps {fu : Nat} {a0 : Sign} {a1 : Constraint} {r : Bool} (w : World) (h : X.s_ruKeeps fu a0 a1 = some r) : Calls prog 77 #[.agg (eSign a0).toArray, .agg (eConstraint a1).toArray] w (Ret w (.bool r)) := by
  refine calls (M := no) (args := [.agg (eSign a0).toArray, .agg (eConstraint a1).toArray]) func77 rfl ?_
  replace h : H (X.s_ruKeeps fu a0 a1) (fun o => o = r) := H.mk h
  unfold X.s_ruKeeps at h
  refine c_seq ?_
  refine r_start ?_
  refine xx rfl (x_box (eSign a0) fun g0_0 => ?_)
  refine xx rfl (x_box (eConstraint a1) fun g0_1 => ?_)
  refine p 1 ?_
  refine rend ?_
  refine c_seq ?_
  refine c_seq ?_
  refine r_start ?_
  refine p 1 ?_
  refine xq rfl (y_load (.int .i64 a1.Kind) 1 g0_1 0) ?_
  refine rend ?_
  refine c_block ?_
  refine c_seq ?_
  refine r_start ?_
  refine p 2 ?_
  refine rend ?_
  refine c_or (a1.Kind == 0) (fun q1 => ?_) (fun q1 => ?_)
  · replace h := H.t q1 h
    refine c_seq ?_
    refine as_start 6 6 ?_
    refine aq 0 rfl (y_load (.agg (eSign a0).toArray) 0 g0_0 0) ?_
    obtain ⟨v3_1, hv3_1, h⟩ := H.call h
    refine aq 1 rfl (y_call [.agg (eSign a0).toArray] (.int .i64 v3_1) func153 (fun W S => C.s_ruSteps W hv3_1)) ?_
    refine ap 2 1 ?_
    refine aq 3 rfl (y_load (.int .i64 a1.Value) 1 g0_1 1) ?_
    refine ap 4 2 ?_
    refine a_done ?_
    replace h := H.done h
    subst h
    exact ret func77 rfl (vs := [.bool (decide (v3_1 ≤ a1.Value))]) (.tmp (by kernel_rfl) .nil) rfl (fun W S => ⟨rfl, S.below⟩)
  replace h := H.f q1 h
  refine c_seq ?_
  refine r_start ?_
  refine p 2 ?_
  refine rend ?_
  refine c_or (a1.Kind == 1) (fun q2 => ?_) (fun q2 => ?_)
  · replace h := H.t q2 h
    refine c_seq ?_
    refine r_start ?_
    refine p 3 ?_
    refine xq rfl (y_load (.int .i64 a0.Main.Place.Region) 0 g0_0 8) ?_
    refine p 1 ?_
    refine xq rfl (y_load (.int .i64 a1.Value) 1 g0_1 1) ?_
    refine p 2 ?_
    refine br (a0.Main.Place.Region != a1.Value) (fun q3 => ?_) (fun q3 => ?_)
    · replace h := H.t q3 h
      refine o_set 23 (congrArg Value.bool q3) ?_
      refine p 1 ?_
      refine xq rfl (y_load (.bool a0.Two) 0 g0_0 13) ?_
      refine p 2 ?_
      refine br (!a0.Two) (fun q4 => ?_) (fun q4 => ?_)
      · replace h := H.t q4 h
        refine o_set 27 (congrArg Value.bool q4) ?_
        refine p 10 ?_
        refine rend ?_
        replace h := H.done h
        subst h
        exact ret func77 rfl (vs := [.bool true]) (.tmp (by kernel_rfl) .nil) rfl (fun W S => ⟨rfl, S.below⟩)
      replace h := H.f q4 h
      refine o_set 27 (congrArg Value.bool q4) ?_
      refine p 3 ?_
      refine xq rfl (y_load (.int .i64 a0.Other.Place.Region) 0 g0_0 22) ?_
      refine p 1 ?_
      refine xq rfl (y_load (.int .i64 a1.Value) 1 g0_1 1) ?_
      refine p 4 ?_
      refine rend ?_
      replace h := H.done h
      subst h
      exact ret func77 rfl (vs := [.bool (a0.Other.Place.Region != a1.Value)]) (.tmp (by kernel_rfl) .nil) rfl (fun W S => ⟨rfl, S.below⟩)
    replace h := H.f q3 h
    refine o_set 23 (congrArg Value.bool q3) ?_
    refine p 14 ?_
    refine rend ?_
    replace h := H.done h
    subst h
    exact ret func77 rfl (vs := [.bool false]) (.tmp (by kernel_rfl) .nil) rfl (fun W S => ⟨rfl, S.below⟩)
  replace h := H.f q2 h
  refine c_seq ?_
  refine r_start ?_
  refine p 2 ?_
  refine rend ?_
  refine c_or (a1.Kind == 2) (fun q5 => ?_) (fun q5 => ?_)
  · replace h := H.t q5 h
    refine c_seq ?_
    refine as_start 6 6 ?_
    refine aq 0 rfl (y_load (.agg (eSign a0).toArray) 0 g0_0 0) ?_
    obtain ⟨v7_1, hv7_1, h⟩ := H.call h
    refine aq 1 rfl (y_call [.agg (eSign a0).toArray] (.int .i64 v7_1) func154 (fun W S => C.s_ruOpen W hv7_1)) ?_
    refine ap 2 1 ?_
    refine aq 3 rfl (y_load (.int .i64 a1.Value) 1 g0_1 1) ?_
    refine ap 4 2 ?_
    refine a_done ?_
    replace h := H.done h
    subst h
    exact ret func77 rfl (vs := [.bool (decide (v7_1 ≥ a1.Value))]) (.tmp (by kernel_rfl) .nil) rfl (fun W S => ⟨rfl, S.below⟩)
  replace h := H.f q5 h
  refine c_seq ?_
  refine r_start ?_
  refine p 2 ?_
  refine rend ?_
  refine c_or (a1.Kind == 3) (fun q6 => ?_) (fun q6 => ?_)
  · replace h := H.t q6 h
    refine c_seq ?_
    refine as_start 6 6 ?_
    refine aq 0 rfl (y_load (.agg (eSign a0).toArray) 0 g0_0 0) ?_
    obtain ⟨v9_1, hv9_1, h⟩ := H.call h
    refine aq 1 rfl (y_call [.agg (eSign a0).toArray] (.int .i64 v9_1) func155 (fun W S => C.s_siKind W hv9_1)) ?_
    refine ap 2 1 ?_
    refine aq 3 rfl (y_load (.int .i64 a1.Value) 1 g0_1 1) ?_
    refine ap 4 2 ?_
    refine a_done ?_
    replace h := H.done h
    subst h
    exact ret func77 rfl (vs := [.bool (v9_1 != a1.Value)]) (.tmp (by kernel_rfl) .nil) rfl (fun W S => ⟨rfl, S.below⟩)
  replace h := H.f q6 h
  refine c_skip ?_
  refine c_inb ?_
  refine c_seq ?_
  refine r_start ?_
  refine p 3 ?_
  refine xq rfl (y_load (.int .i64 a0.Main.Place.Region) 0 g0_0 8) ?_
  refine p 1 ?_
  refine xq rfl (y_load (.int .i64 a1.Value) 1 g0_1 1) ?_
  refine p 2 ?_
  refine rend ?_
  replace h := H.done h
  subst h
  exact ret func77 rfl (vs := [.bool (decide (a0.Main.Place.Region ≤ a1.Value))]) (.tmp (by kernel_rfl) .nil) rfl (fun W S => ⟨rfl, S.below⟩)
theorem C.l_toSignS {fu : Nat} {a0 : (List Sign)} {A0 : Option Addr} {k0 : Nat} {r : (List Sign)} (w : World) (h : X.l_toSignS fu a0 = some r) (h0 : RdT nSign w (.slice A0 (List.length a0) k0) a0) : Calls prog 18 #[.slice A0 (List.length a0) k0] w (RetR nSign 62 w r (fun v => v)) := by
  refine calls (M := no) (args := [.slice A0 (List.length a0) k0]) func18 rfl ?_
  replace h : H (X.l_toSignS fu a0) (fun o => o = r) := H.mk h
  unfold X.l_toSignS at h
  refine c_seq ?_
  refine r_start ?_
  refine p 1 ?_
  refine rend ?_
  refine c_seq ?_
  refine r_start ?_
  refine p 2 ?_
  obtain ⟨y1_2, hy1_2, h⟩ := H.call h
  refine xx rfl (e_make (el := 62) hy1_2 fun A1_2 k1_2 => ?_)
  refine p 1 ?_
  refine rend ?_
  refine c_seq ?_
  refine c_seq ?_
  refine r_start ?_
  refine p 1 ?_
  refine rend ?_
  refine c_block ?_
  refine joinH (X := ((List Sign) × Option Addr × Nat)) 0 (H.bnd h) (fun ⟨l5, A6, k7⟩ => l5) (fun ⟨l5, A6, k7⟩ => [rowT nSign w.heap.size 62 (.slice A6 (List.length l5) k7) l5]) (fun ⟨l5, A6, k7⟩ u => (jk u 0 3 (.slice A6 (List.length l5) k7 :: (jk u 4 19 [])))) (fun h hj8 => ?_) ?_
  · skip
    refine loopR (X := (Int × (List Sign) × Option Addr × Nat)) (fun ⟨n1, l2, A3, k4⟩ => (n1, l2)) (fun ⟨n1, l2, A3, k4⟩ => [rowT nSign w.heap.size 62 (.slice A3 (List.length l2) k4) l2]) (fun ⟨n1, l2, A3, k4⟩ u => (.slice A0 (List.length a0) k0 :: (jk u 1 2 (.slice A3 (List.length l2) k4 :: .int .i64 n1 :: (jk u 5 18 []))))) (0, y1_2, A1_2, k1_2) h (by kernel_rfl) (by kernel_rfl) ?_
    intro x u h
    obtain ⟨n1, l2, A3, k4⟩ := x
    refine c_seq ?_
    refine c_seq ?_
    refine r_start ?_
    refine p 4 ?_
    refine rend ?_
    refine c_or (decide (n1 < (List.length a0 : Int))) (fun q9 => ?_) (fun q9 => ?_)
    · replace h := H.t q9 h
      refine c_skip ?_
      refine c_seq ?_
      refine c_block ?_
      refine r_start ?_
      refine p 4 ?_
      obtain ⟨y5_4, hy5_4, h⟩ := H.call h
      refine xq rfl (y_idx (e := nSign) (el := 47) hy5_4 (s_arg h0)) ?_
      refine xq rfl (y_el (e := nSign) 0 (.agg (eSign y5_4).toArray) hy5_4 (s_arg h0)) ?_
      obtain ⟨v5_6, hv5_6, h⟩ := H.call h
      refine xq rfl (y_call [.agg (eSign y5_4).toArray] (.agg (eSign v5_6).toArray) func27 (fun W S => C.l_toSign W hv5_6)) ?_
      obtain ⟨y5_7, hy5_7, h⟩ := H.call h
      refine xq rfl (y_idx (e := nSign) (el := 62) hy5_7 (s_own 0)) ?_
      refine xx rfl (e_stel (e := nSign) (b := v5_6) 0 0 (eSign v5_6) hy5_7 (by kernel_rfl) ?_)
      refine o_set 3 (sl_set (A := A3) (c := k4) (l := l2) (n := Int.toNat n1) (b := v5_6)) ?_
      refine rend ?_
      refine c_inb ?_
      refine r_start ?_
      refine p 3 ?_
      refine rend ?_
      replace h := H.inl h
      exact h ((wr (n1 + 1)), (List.set l2 (Int.toNat n1) v5_6), A3, k4) _ _ rfl (by kernel_rfl) (by kernel_rfl)
    replace h := H.f q9 h
    refine cx ?_
    replace h := H.inr h
    exact hj8 (l2, A3, k4) _ _ h (by kernel_rfl) (by kernel_rfl)
  intro x u h
  obtain ⟨l5, A6, k7⟩ := x
  refine c_seq ?_
  refine r_start ?_
  refine p 2 ?_
  refine rend ?_
  replace h := H.done h
  subst h
  exact ret func18 rfl (vs := [.slice A6 (List.length l5) k7]) (.tmp (by kernel_rfl) .nil) rfl (fun W S => ⟨_, _, rfl, S.row 0, S.below⟩)
theorem C.l_toConstraint {a0 : Constraint} {r : Constraint} (w : World) (h : X.l_toConstraint a0 = some r) : Calls prog 56 #[.agg (eConstraint a0).toArray] w (Ret w (.agg (eConstraint r).toArray)) := by
  refine calls (M := no) (args := [.agg (eConstraint a0).toArray]) func56 rfl ?_
  replace h : H (X.l_toConstraint a0) (fun o => o = r) := H.mk h
  unfold X.l_toConstraint at h
  refine c_seq ?_
  refine r_start ?_
  refine xx rfl (x_box (eConstraint a0) fun g0_0 => ?_)
  refine xx rfl (x_new (eConstraint zConstraint) fun g0_1 => ?_)
  refine rend ?_
  refine c_seq ?_
  refine r_start ?_
  refine xx rfl (x_new (eConstraint zConstraint) fun g1_0 => ?_)
  refine rend ?_
  refine c_seq ?_
  refine r_start ?_
  refine p 1 ?_
  refine xq rfl (y_load (.int .i64 a0.Kind) 0 g0_0 0) ?_
  refine p 1 ?_
  refine xx rfl (x_sto 2 g1_0 0 (eConstraint ({ a0 with Value := zConstraint.Value })) ?_)
  refine rend ?_
  refine c_seq ?_
  refine r_start ?_
  refine p 1 ?_
  refine xq rfl (y_load (.int .i64 a0.Value) 0 g0_0 1) ?_
  refine p 1 ?_
  refine xx rfl (x_sto 2 g1_0 1 (eConstraint a0) ?_)
  refine rend ?_
  refine c_seq ?_
  refine r_start ?_
  refine xq rfl (y_load (.agg (eConstraint a0).toArray) 2 g1_0 0) ?_
  refine xx rfl (x_sto 1 g0_1 0 (eConstraint a0) ?_)
  refine rend ?_
  replace h := H.done h
  subst h
  exact ret func56 rfl (vs := [.agg (eConstraint a0).toArray]) (.cell 1 g0_1 rfl (by kernel_rfl) (by kernel_rfl) .nil) rfl (fun W S => ⟨rfl, S.below⟩)
theorem C.slices_IndexFunc_i_Sign_i_Sign {a0 : (List Sign)} {A0 : Option Addr} {k0 : Nat} {a1 : (Sign → Option Bool)} {g1 : Nat} {cp1 : List Value} {r : Int} (w : World) (h : X.slices_IndexFunc_i_Sign_i_Sign a0 a1 = some r) (h0 : RdT nSign w (.slice A0 (List.length a0) k0) a0) (hg1 : isFn prog g1 = true) (hF1 : ∀ (x0 : Sign) (r : Bool) (W : World), Up w W → a1 x0 = some r → Calls prog g1 (([.agg (eSign x0).toArray] : List Value) ++ cp1).toArray W (Ret W (.bool r))) : Calls prog 284 #[.slice A0 (List.length a0) k0, .func (.func g1) #[] cp1.toArray] w (Ret w (.int .i64 r)) := by
  refine calls (M := no) (args := [.slice A0 (List.length a0) k0, .func (.func g1) #[] cp1.toArray]) func284 rfl ?_
  replace h : H (X.slices_IndexFunc_i_Sign_i_Sign a0 a1) (fun o => o = r) := H.mk h
  unfold X.slices_IndexFunc_i_Sign_i_Sign at h
  refine c_seq ?_
  refine r_start ?_
  refine p 1 ?_
  refine rend ?_
  refine c_seq ?_
  refine c_seq ?_
  refine r_start ?_
  refine p 3 ?_
  refine rend ?_
  refine c_block ?_
  refine joinE (X := Unit) 0 (H.or h) (fun (x : Unit) => x) (fun _ => []) (fun _ u => (jk u 0 19 [])) (fun h hj1 => ?_) ?_
  · skip
    refine rangeR (X := Unit) (s_arg h0) (fun (x : Unit) => x) (fun _ => []) (fun (j2 : Nat) _ u => (.slice A0 (List.length a0) k0 :: .func (.func g1) #[] cp1.toArray :: (jk u 2 5 (.int .i64 (List.length a0 : Int) :: .int .i64 (j2 : Int) :: (jk u 9 10 []))))) () h (by kernel_rfl) (by kernel_rfl) ?_ ?_
    · intro j2 x u x3 q4 hg5 hw6 h
      refine c_seq ?_
      refine r_start ?_
      refine p 1 ?_
      refine rend ?_
      refine c_seq ?_
      refine c_yes q4 ?_
      refine c_skip ?_
      refine c_seq ?_
      refine c_block ?_
      refine c_seq ?_
      refine r_start ?_
      refine p 2 ?_
      refine rend ?_
      refine c_seq ?_
      refine r_start ?_
      refine p 3 ?_
      refine xq rfl (y_idx (e := nSign) (el := 62) hg5 (s_arg h0)) ?_
      refine xq rfl (y_el (e := nSign) 0 (.agg (eSign x3).toArray) hg5 (s_arg h0)) ?_
      obtain ⟨v4_5, hv4_5, h⟩ := H.call h
      refine xq rfl (y_cf cp1 [.agg (eSign x3).toArray] (.bool v4_5) hg1 (fun W S => hF1 _ _ W S.below hv4_5)) ?_
      refine rend ?_
      refine c_or v4_5 (fun q7 => ?_) (fun q7 => ?_)
      · replace h := H.t q7 h
        refine c_seq ?_
        refine r_start ?_
        refine p 2 ?_
        refine rend ?_
        replace h := H.inr h
        replace h := H.done h
        subst h
        exact ret func284 rfl (vs := [.int .i64 (j2 : Int)]) (.tmp (by kernel_rfl) .nil) rfl (fun W S => ⟨rfl, S.below⟩)
      replace h := H.f q7 h
      refine c_skip ?_
      refine c_inb ?_
      refine r_start ?_
      refine p 2 ?_
      refine rend ?_
      refine c_set 8 (ci hw6) ?_
      replace h := H.inl h
      exact h () _ _ rfl (by kernel_rfl) (by kernel_rfl)
    · intro x u q4 h
      refine c_seq ?_
      refine r_start ?_
      refine p 1 ?_
      refine rend ?_
      refine c_seq ?_
      refine c_no q4 ?_
      refine cx ?_
      replace h := H.done h
      exact hj1 () _ _ h (by kernel_rfl) (by kernel_rfl)
  intro x u h
  refine c_seq ?_
  refine r_start ?_
  refine p 1 ?_
  refine rend ?_
  replace h := H.done h
  subst h
  exact ret func284 rfl (vs := [.int .i64 (-1)]) (.tmp (by kernel_rfl) .nil) rfl (fun W S => ⟨rfl, S.below⟩)
theorem C.slices_ContainsFunc_i_Sign_i_Sign {a0 : (List Sign)} {A0 : Option Addr} {k0 : Nat} {a1 : (Sign → Option Bool)} {g1 : Nat} {cp1 : List Value} {r : Bool} (w : World) (h : X.slices_ContainsFunc_i_Sign_i_Sign a0 a1 = some r) (h0 : RdT nSign w (.slice A0 (List.length a0) k0) a0) (hg1 : isFn prog g1 = true) (hF1 : ∀ (x0 : Sign) (r : Bool) (W : World), Up w W → a1 x0 = some r → Calls prog g1 (([.agg (eSign x0).toArray] : List Value) ++ cp1).toArray W (Ret W (.bool r))) : Calls prog 237 #[.slice A0 (List.length a0) k0, .func (.func g1) #[] cp1.toArray] w (Ret w (.bool r)) := by
  refine calls (M := no) (args := [.slice A0 (List.length a0) k0, .func (.func g1) #[] cp1.toArray]) func237 rfl ?_
  replace h : H (X.slices_ContainsFunc_i_Sign_i_Sign a0 a1) (fun o => o = r) := H.mk h
  unfold X.slices_ContainsFunc_i_Sign_i_Sign at h
  refine c_seq ?_
  refine r_start ?_
  refine p 1 ?_
  refine rend ?_
  refine c_seq ?_
  refine r_start ?_
  refine p 2 ?_
  obtain ⟨v1_2, hv1_2, h⟩ := H.call h
  refine xq rfl (y_call [.slice A0 (List.length a0) k0, .func (.func g1) #[] cp1.toArray] (.int .i64 v1_2) func284 (fun W S => C.slices_IndexFunc_i_Sign_i_Sign W hv1_2 ((s_arg h0).out W S) hg1 (fun x0_2 r W2 hu2 hx2 => hF1 x0_2 r W2 (Up.trans S.below hu2) hx2))) ?_
  refine p 2 ?_
  refine rend ?_
  replace h := H.done h
  subst h
  exact ret func237 rfl (vs := [.bool (decide (v1_2 ≥ 0))]) (.tmp (by kernel_rfl) .nil) rfl (fun W S => ⟨rfl, S.below⟩)
theorem C.i_allOf_i_Sign_1 {a0 : Sign} {a1 : (Sign → Option Bool)} {g1 : Nat} {cp1 : List Value} {p1 : Nat} {r : Bool} (w : World) (h : X.i_allOf_i_Sign_1 a1 a0 = some r) (hg1 : isFn prog g1 = true) (hF1 : ∀ (x0 : Sign) (r : Bool) (W : World), Up w W → a1 x0 = some r → Calls prog g1 (([.agg (eSign x0).toArray] : List Value) ++ cp1).toArray W (Ret W (.bool r))) (hp1 : w.heap[p1]? = some (.cells ([.func (.func g1) #[] cp1.toArray] : List Value).toArray 126 (0, 0))) : Calls prog 238 #[.agg (eSign a0).toArray, .pointer (some ⟨p1, 0, none⟩)] w (Ret w (.bool r)) := by
  refine calls (M := no) (args := [.agg (eSign a0).toArray, .pointer (some ⟨p1, 0, none⟩)]) func238 rfl ?_
  replace h : H (X.i_allOf_i_Sign_1 a1 a0) (fun o => o = r) := H.mk h
  unfold X.i_allOf_i_Sign_1 at h
  refine c_seq ?_
  refine r_start ?_
  refine xx rfl (x_box (eSign a0) fun g0_0 => ?_)
  refine p 1 ?_
  refine rend ?_
  refine c_seq ?_
  refine r_start ?_
  refine xq rfl (y_ld0 (.func (.func g1) #[] cp1.toArray) p1 0 hp1) ?_
  refine xq rfl (y_load (.agg (eSign a0).toArray) 0 g0_0 0) ?_
  obtain ⟨v1_2, hv1_2, h⟩ := H.call h
  refine xq rfl (y_cf cp1 [.agg (eSign a0).toArray] (.bool v1_2) hg1 (fun W S => hF1 _ _ W S.below hv1_2)) ?_
  refine p 2 ?_
  refine rend ?_
  replace h := H.done h
  subst h
  exact ret func238 rfl (vs := [.bool (!v1_2)]) (.tmp (by kernel_rfl) .nil) rfl (fun W S => ⟨rfl, S.below⟩)
theorem C.i_allOf_i_Sign {a0 : (List Sign)} {A0 : Option Addr} {k0 : Nat} {a1 : (Sign → Option Bool)} {g1 : Nat} {cp1 : List Value} {r : Bool} (w : World) (h : X.i_allOf_i_Sign a0 a1 = some r) (h0 : RdT nSign w (.slice A0 (List.length a0) k0) a0) (hg1 : isFn prog g1 = true) (hF1 : ∀ (x0 : Sign) (r : Bool) (W : World), Up w W → a1 x0 = some r → Calls prog g1 (([.agg (eSign x0).toArray] : List Value) ++ cp1).toArray W (Ret W (.bool r))) : Calls prog 156 #[.slice A0 (List.length a0) k0, .func (.func g1) #[] cp1.toArray] w (Ret w (.bool r)) := by
  refine calls (M := no) (args := [.slice A0 (List.length a0) k0, .func (.func g1) #[] cp1.toArray]) func156 rfl ?_
  replace h : H (X.i_allOf_i_Sign a0 a1) (fun o => o = r) := H.mk h
  unfold X.i_allOf_i_Sign at h
  refine c_seq ?_
  refine r_start ?_
  refine xx rfl (x_box [.func (.func g1) #[] cp1.toArray] fun g0_0 => ?_)
  refine p 1 ?_
  refine rend ?_
  refine c_seq ?_
  refine r_start ?_
  refine p 2 ?_
  obtain ⟨v1_2, hv1_2, h⟩ := H.call h
  refine xq rfl (y_call [.slice A0 (List.length a0) k0, .func (.func 238) #[] #[.pointer (some ⟨g0_0, 0, none⟩)]] (.bool v1_2) func237 (fun W S => C.slices_ContainsFunc_i_Sign_i_Sign W hv1_2 ((s_arg h0).out W S) (isFn_of func238) (fun x0_2 r W2 hu2 hx2 => C.i_allOf_i_Sign_1 W2 hx2 hg1 (fun x0_3 r W3 hu3 hx3 => hF1 x0_3 r W3 (Up.trans (Up.trans S.below hu2) hu3) hx3) (bx_up (S.bx 0) hu2)))) ?_
  refine p 2 ?_
  refine rend ?_
  replace h := H.done h
  subst h
  exact ret func156 rfl (vs := [.bool (!v1_2)]) (.tmp (by kernel_rfl) .nil) rfl (fun W S => ⟨rfl, S.below⟩)
theorem C.i_areSigns {fu : Nat} {a0 : (List Sign)} {A0 : Option Addr} {k0 : Nat} {a1 : Int} {r : Bool} (w : World) (h : X.i_areSigns fu a0 a1 = some r) (h0 : RdT nSign w (.slice A0 (List.length a0) k0) a0) : Calls prog 78 #[.slice A0 (List.length a0) k0, .int .i64 a1] w (Ret w (.bool r)) := by
  refine calls (M := no) (args := [.slice A0 (List.length a0) k0, .int .i64 a1]) func78 rfl ?_
  replace h : H (X.i_areSigns fu a0 a1) (fun o => o = r) := H.mk h
  unfold X.i_areSigns at h
  refine c_seq ?_
  refine r_start ?_
  refine p 1 ?_
  refine rend ?_
  refine c_seq ?_
  refine r_start ?_
  refine p 5 ?_
  refine br (decide ((List.length a0 : Int) ≤ a1)) (fun q1 => ?_) (fun q1 => ?_)
  · replace h := H.t q1 h
    refine o_set 9 (congrArg Value.bool q1) ?_
    refine p 1 ?_
    obtain ⟨v1_6, hv1_6, h⟩ := H.call h
    refine xq rfl (y_call [.slice A0 (List.length a0) k0, .func (.func 89) #[] #[]] (.bool v1_6) func156 (fun W S => C.i_allOf_i_Sign W hv1_6 ((s_arg h0).out W S) (isFn_of func89) (fun x0_2 r W2 hu2 hx2 => C.i_IsSign W2 hx2))) ?_
    refine p 2 ?_
    refine rend ?_
    replace h := H.done h
    subst h
    exact ret func78 rfl (vs := [.bool v1_6]) (.tmp (by kernel_rfl) .nil) rfl (fun W S => ⟨rfl, S.below⟩)
  replace h := H.f q1 h
  refine o_set 9 (congrArg Value.bool q1) ?_
  refine p 4 ?_
  refine rend ?_
  replace h := H.done h
  subst h
  exact ret func78 rfl (vs := [.bool false]) (.tmp (by kernel_rfl) .nil) rfl (fun W S => ⟨rfl, S.below⟩)
theorem C.i_IsConstraint {a0 : Constraint} {r : Bool} (w : World) (h : X.i_IsConstraint a0 = some r) : Calls prog 123 #[.agg (eConstraint a0).toArray] w (Ret w (.bool r)) := by
  refine calls (M := no) (args := [.agg (eConstraint a0).toArray]) func123 rfl ?_
  replace h : H (X.i_IsConstraint a0) (fun o => o = r) := H.mk h
  unfold X.i_IsConstraint at h
  refine c_seq ?_
  refine r_start ?_
  refine xx rfl (x_box (eConstraint a0) fun g0_0 => ?_)
  refine p 1 ?_
  refine rend ?_
  refine c_seq ?_
  refine r_start ?_
  refine p 1 ?_
  refine xx rfl (x_new (Enc.flat (eI .i64) ([0, 0, 0, 0, 0] : List Int)) fun g1_1 => ?_)
  refine xx rfl (x_sto 1 g1_1 0 (Enc.flat (eI .i64) ([18, 9, 4, 3, 9] : List Int)) ?_)
  refine rend ?_
  refine c_seq ?_
  refine as_start 13 13 ?_
  refine ap 0 1 ?_
  refine aq 1 rfl (y_load (.int .i64 a0.Kind) 0 g0_0 0) ?_
  obtain ⟨v2_2, hv2_2, h⟩ := H.call h
  refine aq 2 rfl (y_call [.int .i64 a0.Kind, .int .i64 0, .int .i64 4] (.bool v2_2) func117 (fun W S => C.i_within W hv2_2)) ?_
  refine ap 3 1 ?_
  refine br v2_2 (fun q1 => ?_) (fun q1 => ?_)
  · replace h := H.t q1 h
    refine a_set 8 (congrArg Value.bool q1) ?_
    refine ap 4 1 ?_
    refine aq 5 rfl (y_load (.int .i64 a0.Value) 0 g0_0 1) ?_
    refine ap 6 1 ?_
    refine aq 7 rfl (y_load (.int .i64 a0.Kind) 0 g0_0 0) ?_
    obtain ⟨y2_8, hy2_8, h⟩ := H.call h
    refine aq 8 rfl (y_arp (e := (eI .i64)) (el := 3) (g := g1_1) hy2_8) ?_
    refine aq 9 rfl (y_arl (e := (eI .i64)) 1 (.int .i64 y2_8) hy2_8) ?_
    obtain ⟨v2_10, hv2_10, h⟩ := H.call h
    refine aq 10 rfl (y_call [.int .i64 a0.Value, .int .i64 0, .int .i64 y2_8] (.bool v2_10) func117 (fun W S => C.i_within W hv2_10)) ?_
    refine ap 11 2 ?_
    refine a_done ?_
    replace h := H.done h
    subst h
    exact ret func123 rfl (vs := [.bool v2_10]) (.tmp (by kernel_rfl) .nil) rfl (fun W S => ⟨rfl, S.below⟩)
  replace h := H.f q1 h
  refine a_set 8 (congrArg Value.bool q1) ?_
  refine ap 4 9 ?_
  refine a_done ?_
  replace h := H.done h
  subst h
  exact ret func123 rfl (vs := [.bool false]) (.tmp (by kernel_rfl) .nil) rfl (fun W S => ⟨rfl, S.below⟩)
theorem C.i_those_i_Sign {a0 : (List Sign)} {A0 : Option Addr} {k0 : Nat} {a1 : (Sign → Option Bool)} {g1 : Nat} {cp1 : List Value} {r : (List Int)} (w : World) (h : X.i_those_i_Sign a0 a1 = some r) (h0 : RdT nSign w (.slice A0 (List.length a0) k0) a0) (hg1 : isFn prog g1 = true) (hF1 : ∀ (x0 : Sign) (r : Bool) (W : World), Up w W → a1 x0 = some r → Calls prog g1 (([.agg (eSign x0).toArray] : List Value) ++ cp1).toArray W (Ret W (.bool r))) : Calls prog 124 #[.slice A0 (List.length a0) k0, .func (.func g1) #[] cp1.toArray] w (RetR (eI .i64) 3 w r (fun v => v)) := by
  refine calls (M := no) (args := [.slice A0 (List.length a0) k0, .func (.func g1) #[] cp1.toArray]) func124 rfl ?_
  replace h : H (X.i_those_i_Sign a0 a1) (fun o => o = r) := H.mk h
  unfold X.i_those_i_Sign at h
  refine c_seq ?_
  refine r_start ?_
  refine p 1 ?_
  refine rend ?_
  refine c_seq ?_
  refine r_start ?_
  refine p 1 ?_
  refine rend ?_
  refine c_seq ?_
  refine c_seq ?_
  refine r_start ?_
  refine p 3 ?_
  refine rend ?_
  refine c_block ?_
  refine c_nil (eI .i64) 3 ?_
  refine joinH (X := ((List Int) × Option Addr × Nat)) 0 (H.bnd h) (fun ⟨l4, A5, k6⟩ => l4) (fun ⟨l4, A5, k6⟩ => [rowT (eI .i64) w.heap.size 3 (.slice A5 (List.length l4) k6) l4]) (fun ⟨l4, A5, k6⟩ u => (jk u 0 5 (.slice A5 (List.length l4) k6 :: (jk u 6 18 [])))) (fun h hj7 => ?_) ?_
  · skip
    refine rangeR (X := ((List Int) × Option Addr × Nat)) (s_arg h0) (fun ⟨l1, A2, k3⟩ => l1) (fun ⟨l1, A2, k3⟩ => [rowT (eI .i64) w.heap.size 3 (.slice A2 (List.length l1) k3) l1]) (fun (j8 : Nat) ⟨l1, A2, k3⟩ u => (jk u 0 1 (.func (.func g1) #[] cp1.toArray :: (jk u 2 3 (.slice A2 (List.length l1) k3 :: (jk u 6 2 (.slice A0 (List.length a0) k0 :: .int .i64 (List.length a0 : Int) :: .int .i64 (j8 : Int) :: (jk u 11 13 [])))))))) (([] : List Int), none, 0) h (by kernel_rfl) (by kernel_rfl) ?_ ?_
    · intro j8 x u x9 q10 hg11 hw12 h
      obtain ⟨l1, A2, k3⟩ := x
      refine c_seq ?_
      refine r_start ?_
      refine p 1 ?_
      refine rend ?_
      refine c_seq ?_
      refine c_yes q10 ?_
      refine c_skip ?_
      refine c_seq ?_
      refine c_block ?_
      refine c_seq ?_
      refine r_start ?_
      refine p 1 ?_
      refine xq rfl (y_idx (e := nSign) (el := 62) hg11 (s_arg h0)) ?_
      refine xq rfl (y_el (e := nSign) 0 (.agg (eSign x9).toArray) hg11 (s_arg h0)) ?_
      refine xx rfl (x_new (eSign zSign) fun g4_3 => ?_)
      refine p 1 ?_
      refine xx rfl (x_sto 1 g4_3 0 (eSign x9) ?_)
      refine rend ?_
      refine c_seq ?_
      refine r_start ?_
      refine p 1 ?_
      refine xq rfl (y_load (.agg (eSign x9).toArray) 1 g4_3 0) ?_
      obtain ⟨v5_2, hv5_2, h⟩ := H.call h
      refine xq rfl (y_cf cp1 [.agg (eSign x9).toArray] (.bool v5_2) hg1 (fun W S => hF1 _ _ W S.below hv5_2)) ?_
      refine rend ?_
      refine c_or v5_2 (fun q13 => ?_) (fun q13 => ?_)
      · replace h := H.t q13 h
        refine r_start ?_
        refine p 2 ?_
        refine xx rfl (e_lit (e := (eI .i64)) (el := 3) [.int .i64 (j8 : Int)] ([(j8 : Int)] : List Int) fun A6_2 k6_2 => ?_)
        obtain ⟨y6_3, hy6_3, h⟩ := H.call h
        refine xx rfl (e_app 0 hy6_3 (s_own 2) fun A6_3 k6_3 => ?_)
        refine p 1 ?_
        refine rend ?_
        refine c_inb ?_
        refine r_start ?_
        refine p 2 ?_
        refine rend ?_
        refine c_set 10 (ci hw12) ?_
        replace h := H.inl h
        exact h (y6_3, A6_3, k6_3) _ _ rfl (by kernel_rfl) (by kernel_rfl)
      replace h := H.f q13 h
      refine c_skip ?_
      refine c_inb ?_
      refine r_start ?_
      refine p 2 ?_
      refine rend ?_
      refine c_set 10 (ci hw12) ?_
      replace h := H.inl h
      exact h (l1, A2, k3) _ _ rfl (by kernel_rfl) (by kernel_rfl)
    · intro x u q10 h
      obtain ⟨l1, A2, k3⟩ := x
      refine c_seq ?_
      refine r_start ?_
      refine p 1 ?_
      refine rend ?_
      refine c_seq ?_
      refine c_no q10 ?_
      refine cx ?_
      replace h := H.done h
      exact hj7 (l1, A2, k3) _ _ h (by kernel_rfl) (by kernel_rfl)
  intro x u h
  obtain ⟨l4, A5, k6⟩ := x
  refine c_seq ?_
  refine r_start ?_
  refine p 2 ?_
  refine rend ?_
  replace h := H.done h
  subst h
  exact ret func124 rfl (vs := [.slice A5 (List.length l4) k6]) (.tmp (by kernel_rfl) .nil) rfl (fun W S => ⟨_, _, rfl, S.row 0, S.below⟩)
theorem C.i_Sign_steps {a0 : Sign} {r : Int} (w : World) (h : X.i_Sign_steps a0 = some r) : Calls prog 214 #[.agg (eSign a0).toArray] w (Ret w (.int .i64 r)) := by
  refine calls (M := no) (args := [.agg (eSign a0).toArray]) func214 rfl ?_
  replace h : H (X.i_Sign_steps a0) (fun o => o = r) := H.mk h
  unfold X.i_Sign_steps at h
  refine c_seq ?_
  refine r_start ?_
  refine xx rfl (x_box (eSign a0) fun g0_0 => ?_)
  refine p 1 ?_
  refine rend ?_
  refine c_seq ?_
  refine as_start 12 12 ?_
  refine ap 0 2 ?_
  refine aq 2 rfl (y_load (.agg (eMove a0.Main.Move).toArray) 0 g0_0 11) ?_
  obtain ⟨v1_3, hv1_3, h⟩ := H.call h
  refine aq 3 rfl (y_call [.agg (eMove a0.Main.Move).toArray] (.string (bs v1_3)) func199 (fun W S => C.i_Move_all W hv1_3)) ?_
  refine ap 4 3 ?_
  refine aq 7 rfl (y_load (.agg (eMove a0.Other.Move).toArray) 0 g0_0 25) ?_
  obtain ⟨v1_8, hv1_8, h⟩ := H.call h
  refine aq 8 rfl (y_call [.agg (eMove a0.Other.Move).toArray] (.string (bs v1_8)) func199 (fun W S => C.i_Move_all W hv1_8)) ?_
  refine ap 9 3 ?_
  refine a_done ?_
  replace h := H.done h
  subst h
  exact ret func214 rfl (vs := [.int .i64 (if (List.length v1_8 : Int) > (List.length v1_3 : Int) then (List.length v1_8 : Int) else (List.length v1_3 : Int))]) (.tmp (by kernel_rfl) .nil) rfl (fun W S => ⟨rfl, S.below⟩)
theorem C.i_those_int {a0 : (List Int)} {A0 : Option Addr} {k0 : Nat} {a1 : (Int → Option Bool)} {g1 : Nat} {cp1 : List Value} {r : (List Int)} (w : World) (h : X.i_those_int a0 a1 = some r) (h0 : RdT (eI .i64) w (.slice A0 (List.length a0) k0) a0) (hg1 : isFn prog g1 = true) (hF1 : ∀ (x0 : Int) (r : Bool) (W : World), Up w W → a1 x0 = some r → Calls prog g1 (([.int .i64 x0] : List Value) ++ cp1).toArray W (Ret W (.bool r))) : Calls prog 274 #[.slice A0 (List.length a0) k0, .func (.func g1) #[] cp1.toArray] w (RetR (eI .i64) 3 w r (fun v => v)) := by
  refine calls (M := no) (args := [.slice A0 (List.length a0) k0, .func (.func g1) #[] cp1.toArray]) func274 rfl ?_
  replace h : H (X.i_those_int a0 a1) (fun o => o = r) := H.mk h
  unfold X.i_those_int at h
  refine c_seq ?_
  refine r_start ?_
  refine p 1 ?_
  refine rend ?_
  refine c_seq ?_
  refine r_start ?_
  refine p 1 ?_
  refine rend ?_
  refine c_seq ?_
  refine c_seq ?_
  refine r_start ?_
  refine p 3 ?_
  refine rend ?_
  refine c_block ?_
  refine c_nil (eI .i64) 3 ?_
  refine joinH (X := ((List Int) × Option Addr × Nat)) 0 (H.bnd h) (fun ⟨l4, A5, k6⟩ => l4) (fun ⟨l4, A5, k6⟩ => [rowT (eI .i64) w.heap.size 3 (.slice A5 (List.length l4) k6) l4]) (fun ⟨l4, A5, k6⟩ u => (jk u 0 5 (.slice A5 (List.length l4) k6 :: (jk u 6 18 [])))) (fun h hj7 => ?_) ?_
  · skip
    refine rangeR (X := ((List Int) × Option Addr × Nat)) (s_arg h0) (fun ⟨l1, A2, k3⟩ => l1) (fun ⟨l1, A2, k3⟩ => [rowT (eI .i64) w.heap.size 3 (.slice A2 (List.length l1) k3) l1]) (fun (j8 : Nat) ⟨l1, A2, k3⟩ u => (jk u 0 1 (.func (.func g1) #[] cp1.toArray :: (jk u 2 3 (.slice A2 (List.length l1) k3 :: (jk u 6 2 (.slice A0 (List.length a0) k0 :: .int .i64 (List.length a0 : Int) :: .int .i64 (j8 : Int) :: (jk u 11 13 [])))))))) (([] : List Int), none, 0) h (by kernel_rfl) (by kernel_rfl) ?_ ?_
    · intro j8 x u x9 q10 hg11 hw12 h
      obtain ⟨l1, A2, k3⟩ := x
      refine c_seq ?_
      refine r_start ?_
      refine p 1 ?_
      refine rend ?_
      refine c_seq ?_
      refine c_yes q10 ?_
      refine c_skip ?_
      refine c_seq ?_
      refine c_block ?_
      refine c_seq ?_
      refine r_start ?_
      refine p 1 ?_
      refine xq rfl (y_idx (e := (eI .i64)) (el := 3) hg11 (s_arg h0)) ?_
      refine xq rfl (y_el (e := (eI .i64)) 0 (.int .i64 x9) hg11 (s_arg h0)) ?_
      refine p 2 ?_
      refine rend ?_
      refine c_seq ?_
      refine r_start ?_
      refine p 2 ?_
      obtain ⟨v5_2, hv5_2, h⟩ := H.call h
      refine xq rfl (y_cf cp1 [.int .i64 x9] (.bool v5_2) hg1 (fun W S => hF1 _ _ W S.below hv5_2)) ?_
      refine rend ?_
      refine c_or v5_2 (fun q13 => ?_) (fun q13 => ?_)
      · replace h := H.t q13 h
        refine r_start ?_
        refine p 2 ?_
        refine xx rfl (e_lit (e := (eI .i64)) (el := 3) [.int .i64 (j8 : Int)] ([(j8 : Int)] : List Int) fun A6_2 k6_2 => ?_)
        obtain ⟨y6_3, hy6_3, h⟩ := H.call h
        refine xx rfl (e_app 0 hy6_3 (s_own 1) fun A6_3 k6_3 => ?_)
        refine p 1 ?_
        refine rend ?_
        refine c_inb ?_
        refine r_start ?_
        refine p 2 ?_
        refine rend ?_
        refine c_set 10 (ci hw12) ?_
        replace h := H.inl h
        exact h (y6_3, A6_3, k6_3) _ _ rfl (by kernel_rfl) (by kernel_rfl)
      replace h := H.f q13 h
      refine c_skip ?_
      refine c_inb ?_
      refine r_start ?_
      refine p 2 ?_
      refine rend ?_
      refine c_set 10 (ci hw12) ?_
      replace h := H.inl h
      exact h (l1, A2, k3) _ _ rfl (by kernel_rfl) (by kernel_rfl)
    · intro x u q10 h
      obtain ⟨l1, A2, k3⟩ := x
      refine c_seq ?_
      refine r_start ?_
      refine p 1 ?_
      refine rend ?_
      refine c_seq ?_
      refine c_no q10 ?_
      refine cx ?_
      replace h := H.done h
      exact hj7 (l1, A2, k3) _ _ h (by kernel_rfl) (by kernel_rfl)
  intro x u h
  obtain ⟨l4, A5, k6⟩ := x
  refine c_seq ?_
  refine r_start ?_
  refine p 2 ?_
  refine rend ?_
  replace h := H.done h
  subst h
  exact ret func274 rfl (vs := [.slice A5 (List.length l4) k6]) (.tmp (by kernel_rfl) .nil) rfl (fun W S => ⟨_, _, rfl, S.row 0, S.below⟩)
theorem C.i_Shape_open_1 {a0 : Int} {r : Bool} (w : World) (h : X.i_Shape_open_1 a0 = some r) : Calls prog 275 #[.int .i64 a0] w (Ret w (.bool r)) := by
  refine calls (M := no) (args := [.int .i64 a0]) func275 rfl ?_
  replace h : H (X.i_Shape_open_1 a0) (fun o => o = r) := H.mk h
  unfold X.i_Shape_open_1 at h
  refine c_seq ?_
  refine r_start ?_
  refine p 1 ?_
  refine rend ?_
  refine c_seq ?_
  refine r_start ?_
  refine p 3 ?_
  refine rend ?_
  replace h := H.done h
  subst h
  exact ret func275 rfl (vs := [.bool (a0 == 0)]) (.tmp (by kernel_rfl) .nil) rfl (fun W S => ⟨rfl, S.below⟩)
theorem C.i_Shape_open {a0 : Shape} {r : Int} (w : World) (h : X.i_Shape_open a0 = some r) : Calls prog 215 #[.agg (eShape a0).toArray] w (Ret w (.int .i64 r)) := by
  refine calls (M := no) (args := [.agg (eShape a0).toArray]) func215 rfl ?_
  replace h : H (X.i_Shape_open a0) (fun o => o = r) := H.mk h
  unfold X.i_Shape_open at h
  refine c_seq ?_
  refine r_start ?_
  refine xx rfl (x_box (eShape a0) fun g0_0 => ?_)
  refine p 1 ?_
  refine rend ?_
  refine c_seq ?_
  refine r_start ?_
  refine xq rfl (y_load (.agg (eShape a0).toArray) 0 g0_0 0) ?_
  obtain ⟨v1_1, hv1_1, h⟩ := H.call h
  refine xx rfl (e_cr [.agg (eShape a0).toArray] (fun v => v) func195 (fun W S => C.i_Shape_bends W hv1_1) fun A1_1 k1_1 => ?_)
  obtain ⟨v1_2, hv1_2, h⟩ := H.call h
  refine xx rfl (e_cr [.slice A1_1 (List.length v1_1) k1_1, .func (.func 275) #[] #[]] (fun v => v) func274 (fun W S => C.i_those_int W hv1_2 ((s_own 1).out W S) (isFn_of func275) (fun x0_2 r W2 hu2 hx2 => C.i_Shape_open_1 W2 hx2)) fun A1_2 k1_2 => ?_)
  refine p 2 ?_
  refine rend ?_
  replace h := H.done h
  subst h
  exact ret func215 rfl (vs := [.int .i64 (List.length v1_2 : Int)]) (.tmp (by kernel_rfl) .nil) rfl (fun W S => ⟨rfl, S.below⟩)
theorem C.i_Constraint_keptBy {a0 : Constraint} {a1 : Sign} {r : Bool} (w : World) (h : X.i_Constraint_keptBy a0 a1 = some r) : Calls prog 126 #[.agg (eConstraint a0).toArray, .agg (eSign a1).toArray] w (Ret w (.bool r)) := by
  refine calls (M := no) (args := [.agg (eConstraint a0).toArray, .agg (eSign a1).toArray]) func126 rfl ?_
  replace h : H (X.i_Constraint_keptBy a0 a1) (fun o => o = r) := H.mk h
  unfold X.i_Constraint_keptBy at h
  refine c_seq ?_
  refine r_start ?_
  refine xx rfl (x_box (eConstraint a0) fun g0_0 => ?_)
  refine xx rfl (x_box (eSign a1) fun g0_1 => ?_)
  refine p 1 ?_
  refine rend ?_
  refine c_seq ?_
  refine c_seq ?_
  refine r_start ?_
  refine p 1 ?_
  refine xq rfl (y_load (.int .i64 a0.Kind) 0 g0_0 0) ?_
  refine rend ?_
  refine c_block ?_
  refine c_seq ?_
  refine r_start ?_
  refine p 2 ?_
  refine rend ?_
  refine c_or (a0.Kind == 0) (fun q1 => ?_) (fun q1 => ?_)
  · replace h := H.t q1 h
    refine c_seq ?_
    refine as_start 6 6 ?_
    refine aq 0 rfl (y_load (.agg (eSign a1).toArray) 1 g0_1 0) ?_
    obtain ⟨v3_1, hv3_1, h⟩ := H.call h
    refine aq 1 rfl (y_call [.agg (eSign a1).toArray] (.int .i64 v3_1) func214 (fun W S => C.i_Sign_steps W hv3_1)) ?_
    refine ap 2 1 ?_
    refine aq 3 rfl (y_load (.int .i64 a0.Value) 0 g0_0 1) ?_
    refine ap 4 2 ?_
    refine a_done ?_
    replace h := H.done h
    subst h
    exact ret func126 rfl (vs := [.bool (decide (v3_1 ≤ a0.Value))]) (.tmp (by kernel_rfl) .nil) rfl (fun W S => ⟨rfl, S.below⟩)
  replace h := H.f q1 h
  refine c_seq ?_
  refine r_start ?_
  refine p 2 ?_
  refine rend ?_
  refine c_or (a0.Kind == 1) (fun q2 => ?_) (fun q2 => ?_)
  · replace h := H.t q2 h
    refine c_seq ?_
    refine r_start ?_
    refine p 3 ?_
    refine xq rfl (y_load (.int .i64 a1.Main.Place.Region) 1 g0_1 8) ?_
    refine p 1 ?_
    refine xq rfl (y_load (.int .i64 a0.Value) 0 g0_0 1) ?_
    refine p 2 ?_
    refine br (a1.Main.Place.Region != a0.Value) (fun q3 => ?_) (fun q3 => ?_)
    · replace h := H.t q3 h
      refine o_set 23 (congrArg Value.bool q3) ?_
      refine p 1 ?_
      refine xq rfl (y_load (.bool a1.Two) 1 g0_1 13) ?_
      refine p 1 ?_
      refine br a1.Two (fun q4 => ?_) (fun q4 => ?_)
      · replace h := H.t q4 h
        refine o_set 26 (congrArg Value.bool q4) ?_
        refine p 3 ?_
        refine xq rfl (y_load (.int .i64 a1.Other.Place.Region) 1 g0_1 22) ?_
        refine p 1 ?_
        refine xq rfl (y_load (.int .i64 a0.Value) 0 g0_0 1) ?_
        refine p 5 ?_
        refine rend ?_
        replace h := H.done h
        subst h
        exact ret func126 rfl (vs := [.bool (!(a1.Other.Place.Region == a0.Value))]) (.tmp (by kernel_rfl) .nil) rfl (fun W S => ⟨rfl, S.below⟩)
      replace h := H.f q4 h
      refine o_set 26 (congrArg Value.bool q4) ?_
      refine p 11 ?_
      refine rend ?_
      replace h := H.done h
      subst h
      exact ret func126 rfl (vs := [.bool true]) (.tmp (by kernel_rfl) .nil) rfl (fun W S => ⟨rfl, S.below⟩)
    replace h := H.f q3 h
    refine o_set 23 (congrArg Value.bool q3) ?_
    refine p 14 ?_
    refine rend ?_
    replace h := H.done h
    subst h
    exact ret func126 rfl (vs := [.bool false]) (.tmp (by kernel_rfl) .nil) rfl (fun W S => ⟨rfl, S.below⟩)
  replace h := H.f q2 h
  refine c_seq ?_
  refine r_start ?_
  refine p 2 ?_
  refine rend ?_
  refine c_or (a0.Kind == 2) (fun q5 => ?_) (fun q5 => ?_)
  · replace h := H.t q5 h
    refine c_seq ?_
    refine as_start 8 8 ?_
    refine ap 0 2 ?_
    refine aq 2 rfl (y_load (.agg (eShape a1.Main.Shape).toArray) 1 g0_1 0) ?_
    obtain ⟨v7_3, hv7_3, h⟩ := H.call h
    refine aq 3 rfl (y_call [.agg (eShape a1.Main.Shape).toArray] (.int .i64 v7_3) func215 (fun W S => C.i_Shape_open W hv7_3)) ?_
    refine ap 4 1 ?_
    refine aq 5 rfl (y_load (.int .i64 a0.Value) 0 g0_0 1) ?_
    refine ap 6 2 ?_
    refine a_done ?_
    replace h := H.done h
    subst h
    exact ret func126 rfl (vs := [.bool (decide (v7_3 ≥ a0.Value))]) (.tmp (by kernel_rfl) .nil) rfl (fun W S => ⟨rfl, S.below⟩)
  replace h := H.f q5 h
  refine c_seq ?_
  refine r_start ?_
  refine p 2 ?_
  refine rend ?_
  refine c_or (a0.Kind == 3) (fun q6 => ?_) (fun q6 => ?_)
  · replace h := H.t q6 h
    refine c_seq ?_
    refine as_start 6 6 ?_
    refine aq 0 rfl (y_load (.agg (eSign a1).toArray) 1 g0_1 0) ?_
    obtain ⟨v9_1, hv9_1, h⟩ := H.call h
    refine aq 1 rfl (y_call [.agg (eSign a1).toArray] (.int .i64 v9_1) func208 (fun W S => C.i_Sign_kind W hv9_1)) ?_
    refine ap 2 1 ?_
    refine aq 3 rfl (y_load (.int .i64 a0.Value) 0 g0_0 1) ?_
    refine ap 4 2 ?_
    refine a_done ?_
    replace h := H.done h
    subst h
    exact ret func126 rfl (vs := [.bool (v9_1 != a0.Value)]) (.tmp (by kernel_rfl) .nil) rfl (fun W S => ⟨rfl, S.below⟩)
  replace h := H.f q6 h
  refine c_skip ?_
  refine c_inb ?_
  refine c_seq ?_
  refine r_start ?_
  refine p 3 ?_
  refine xq rfl (y_load (.int .i64 a1.Main.Place.Region) 1 g0_1 8) ?_
  refine p 1 ?_
  refine xq rfl (y_load (.int .i64 a0.Value) 0 g0_0 1) ?_
  refine p 2 ?_
  refine rend ?_
  replace h := H.done h
  subst h
  exact ret func126 rfl (vs := [.bool (decide (a1.Main.Place.Region ≤ a0.Value))]) (.tmp (by kernel_rfl) .nil) rfl (fun W S => ⟨rfl, S.below⟩)
theorem C.i_BreakersOf_1 {a0 : Sign} {a1 : Constraint} {p1 : Nat} {r : Bool} (w : World) (h : X.i_BreakersOf_1 a1 a0 = some r) (hp1 : w.heap[p1]? = some (.cells (eConstraint a1 : List Value).toArray 94 (0, 0))) : Calls prog 125 #[.agg (eSign a0).toArray, .pointer (some ⟨p1, 0, none⟩)] w (Ret w (.bool r)) := by
  refine calls (M := no) (args := [.agg (eSign a0).toArray, .pointer (some ⟨p1, 0, none⟩)]) func125 rfl ?_
  replace h : H (X.i_BreakersOf_1 a1 a0) (fun o => o = r) := H.mk h
  unfold X.i_BreakersOf_1 at h
  refine c_seq ?_
  refine r_start ?_
  refine xx rfl (x_box (eSign a0) fun g0_0 => ?_)
  refine p 1 ?_
  refine rend ?_
  refine c_seq ?_
  refine r_start ?_
  refine xq rfl (y_ld0 (.agg (eConstraint a1).toArray) p1 0 hp1) ?_
  refine xq rfl (y_load (.agg (eSign a0).toArray) 0 g0_0 0) ?_
  obtain ⟨v1_2, hv1_2, h⟩ := H.call h
  refine xq rfl (y_call [.agg (eConstraint a1).toArray, .agg (eSign a0).toArray] (.bool v1_2) func126 (fun W S => C.i_Constraint_keptBy W hv1_2)) ?_
  refine p 2 ?_
  refine rend ?_
  replace h := H.done h
  subst h
  exact ret func125 rfl (vs := [.bool (!v1_2)]) (.tmp (by kernel_rfl) .nil) rfl (fun W S => ⟨rfl, S.below⟩)
theorem C.i_BreakersOf {fu : Nat} {a0 : (List Sign)} {A0 : Option Addr} {k0 : Nat} {a1 : Constraint} {r : ((List Int) × Bool)} (w : World) (h : X.i_BreakersOf fu a0 a1 = some r) (h0 : RdT nSign w (.slice A0 (List.length a0) k0) a0) : Calls prog 57 #[.slice A0 (List.length a0) k0, .agg (eConstraint a1).toArray] w (RetR (eI .i64) 3 w r.1 (fun v => .tuple #[v, .bool r.2])) := by
  refine calls (M := no) (args := [.slice A0 (List.length a0) k0, .agg (eConstraint a1).toArray]) func57 rfl ?_
  replace h : H (X.i_BreakersOf fu a0 a1) (fun o => o = r) := H.mk h
  unfold X.i_BreakersOf at h
  refine c_seq ?_
  refine r_start ?_
  refine xx rfl (x_box (eConstraint a1) fun g0_0 => ?_)
  refine p 2 ?_
  refine rend ?_
  refine c_seq ?_
  refine c_seq ?_
  refine r_start ?_
  refine p 1 ?_
  obtain ⟨v1_1, hv1_1, h⟩ := H.call h
  refine xq rfl (y_call [.slice A0 (List.length a0) k0, .int .i64 20] (.bool v1_1) func78 (fun W S => C.i_areSigns W hv1_1 ((s_arg h0).out W S))) ?_
  refine p 2 ?_
  refine br (!v1_1) (fun q1 => ?_) (fun q1 => ?_)
  · replace h := H.t q1 h
    refine o_set 9 (congrArg Value.bool q1) ?_
    refine p 4 ?_
    refine rend ?_
    refine c_t (by kernel_rfl) ?_
    refine c_seq ?_
    refine r_start ?_
    refine p 2 ?_
    refine rend ?_
    replace h := H.done h
    subst h
    exact ret func57 rfl (vs := [.slice none 0 0, .bool false]) (.tmp (by kernel_rfl) (.tmp (by kernel_rfl) .nil)) rfl (fun W S => ⟨none, 0, rfl, World.ownsRow_nil _ _ _ _, S.below⟩)
  replace h := H.f q1 h
  refine o_set 9 (congrArg Value.bool q1) ?_
  refine xq rfl (y_load (.agg (eConstraint a1).toArray) 0 g0_0 0) ?_
  obtain ⟨v1_5, hv1_5, h⟩ := H.call h
  refine xq rfl (y_call [.agg (eConstraint a1).toArray] (.bool v1_5) func123 (fun W S => C.i_IsConstraint W hv1_5)) ?_
  refine p 2 ?_
  refine rend ?_
  refine c_or (!v1_5) (fun q2 => ?_) (fun q2 => ?_)
  · replace h := H.t q2 h
    refine c_seq ?_
    refine r_start ?_
    refine p 2 ?_
    refine rend ?_
    replace h := H.done h
    subst h
    exact ret func57 rfl (vs := [.slice none 0 0, .bool false]) (.tmp (by kernel_rfl) (.tmp (by kernel_rfl) .nil)) rfl (fun W S => ⟨none, 0, rfl, World.ownsRow_nil _ _ _ _, S.below⟩)
  replace h := H.f q2 h
  refine c_skip ?_
  refine c_seq ?_
  refine r_start ?_
  refine p 2 ?_
  obtain ⟨v3_2, hv3_2, h⟩ := H.call h
  refine xx rfl (e_cr [.slice A0 (List.length a0) k0, .func (.func 125) #[] #[.pointer (some ⟨g0_0, 0, none⟩)]] (fun v => v) func124 (fun W S => C.i_those_i_Sign W hv3_2 ((s_arg h0).out W S) (isFn_of func125) (fun x0_2 r W2 hu2 hx2 => C.i_BreakersOf_1 W2 hx2 (bx_up (S.bx 0) hu2))) fun A3_2 k3_2 => ?_)
  refine p 2 ?_
  refine rend ?_
  replace h := H.done h
  subst h
  exact ret func57 rfl (vs := [.slice A3_2 (List.length v3_2) k3_2, .bool true]) (.tmp (by kernel_rfl) (.tmp (by kernel_rfl) .nil)) rfl (fun W S => ⟨_, _, rfl, S.row 1, S.below⟩)
theorem C.l_eqShape {a0 : Shape} {a1 : Shape} {r : Bool} (w : World) (h : X.l_eqShape a0 a1 = some r) : Calls prog 209 #[.agg (eShape a0).toArray, .agg (eShape a1).toArray] w (Ret w (.bool r)) := by
  refine calls (M := no) (args := [.agg (eShape a0).toArray, .agg (eShape a1).toArray]) func209 rfl ?_
  replace h : H (X.l_eqShape a0 a1) (fun o => o = r) := H.mk h
  unfold X.l_eqShape at h
  refine c_seq ?_
  refine r_start ?_
  refine xx rfl (x_box (eShape a0) fun g0_0 => ?_)
  refine xx rfl (x_box (eShape a1) fun g0_1 => ?_)
  refine p 1 ?_
  refine rend ?_
  refine c_seq ?_
  refine c_seq ?_
  refine r_start ?_
  refine p 1 ?_
  refine xq rfl (y_load (.int .i64 a0.Thumb) 0 g0_0 0) ?_
  refine p 1 ?_
  refine xq rfl (y_load (.int .i64 a1.Thumb) 1 g0_1 0) ?_
  refine p 1 ?_
  refine rend ?_
  refine c_or (a0.Thumb != a1.Thumb) (fun q1 => ?_) (fun q1 => ?_)
  · replace h := H.t q1 h
    refine c_seq ?_
    refine r_start ?_
    refine p 1 ?_
    refine rend ?_
    replace h := H.done h
    subst h
    exact ret func209 rfl (vs := [.bool false]) (.tmp (by kernel_rfl) .nil) rfl (fun W S => ⟨rfl, S.below⟩)
  replace h := H.f q1 h
  refine c_skip ?_
  refine c_seq ?_
  refine c_seq ?_
  refine r_start ?_
  refine p 1 ?_
  refine xq rfl (y_load (.int .i64 a0.Index) 0 g0_0 1) ?_
  refine p 1 ?_
  refine xq rfl (y_load (.int .i64 a1.Index) 1 g0_1 1) ?_
  refine p 1 ?_
  refine rend ?_
  refine c_or (a0.Index != a1.Index) (fun q2 => ?_) (fun q2 => ?_)
  · replace h := H.t q2 h
    refine c_seq ?_
    refine r_start ?_
    refine p 1 ?_
    refine rend ?_
    replace h := H.done h
    subst h
    exact ret func209 rfl (vs := [.bool false]) (.tmp (by kernel_rfl) .nil) rfl (fun W S => ⟨rfl, S.below⟩)
  replace h := H.f q2 h
  refine c_skip ?_
  refine c_seq ?_
  refine c_seq ?_
  refine r_start ?_
  refine p 1 ?_
  refine xq rfl (y_load (.int .i64 a0.Middle) 0 g0_0 2) ?_
  refine p 1 ?_
  refine xq rfl (y_load (.int .i64 a1.Middle) 1 g0_1 2) ?_
  refine p 1 ?_
  refine rend ?_
  refine c_or (a0.Middle != a1.Middle) (fun q3 => ?_) (fun q3 => ?_)
  · replace h := H.t q3 h
    refine c_seq ?_
    refine r_start ?_
    refine p 1 ?_
    refine rend ?_
    replace h := H.done h
    subst h
    exact ret func209 rfl (vs := [.bool false]) (.tmp (by kernel_rfl) .nil) rfl (fun W S => ⟨rfl, S.below⟩)
  replace h := H.f q3 h
  refine c_skip ?_
  refine c_seq ?_
  refine c_seq ?_
  refine r_start ?_
  refine p 1 ?_
  refine xq rfl (y_load (.int .i64 a0.Ring) 0 g0_0 3) ?_
  refine p 1 ?_
  refine xq rfl (y_load (.int .i64 a1.Ring) 1 g0_1 3) ?_
  refine p 1 ?_
  refine rend ?_
  refine c_or (a0.Ring != a1.Ring) (fun q4 => ?_) (fun q4 => ?_)
  · replace h := H.t q4 h
    refine c_seq ?_
    refine r_start ?_
    refine p 1 ?_
    refine rend ?_
    replace h := H.done h
    subst h
    exact ret func209 rfl (vs := [.bool false]) (.tmp (by kernel_rfl) .nil) rfl (fun W S => ⟨rfl, S.below⟩)
  replace h := H.f q4 h
  refine c_skip ?_
  refine c_seq ?_
  refine c_seq ?_
  refine r_start ?_
  refine p 1 ?_
  refine xq rfl (y_load (.int .i64 a0.Little) 0 g0_0 4) ?_
  refine p 1 ?_
  refine xq rfl (y_load (.int .i64 a1.Little) 1 g0_1 4) ?_
  refine p 1 ?_
  refine rend ?_
  refine c_or (a0.Little != a1.Little) (fun q5 => ?_) (fun q5 => ?_)
  · replace h := H.t q5 h
    refine c_seq ?_
    refine r_start ?_
    refine p 1 ?_
    refine rend ?_
    replace h := H.done h
    subst h
    exact ret func209 rfl (vs := [.bool false]) (.tmp (by kernel_rfl) .nil) rfl (fun W S => ⟨rfl, S.below⟩)
  replace h := H.f q5 h
  refine c_skip ?_
  refine c_seq ?_
  refine c_seq ?_
  refine r_start ?_
  refine p 1 ?_
  refine xq rfl (y_load (.bool a0.Spread) 0 g0_0 5) ?_
  refine p 1 ?_
  refine xq rfl (y_load (.bool a1.Spread) 1 g0_1 5) ?_
  refine p 1 ?_
  refine rend ?_
  refine c_or (!(a0.Spread == a1.Spread)) (fun q6 => ?_) (fun q6 => ?_)
  · replace h := H.t q6 h
    refine c_seq ?_
    refine r_start ?_
    refine p 1 ?_
    refine rend ?_
    replace h := H.done h
    subst h
    exact ret func209 rfl (vs := [.bool false]) (.tmp (by kernel_rfl) .nil) rfl (fun W S => ⟨rfl, S.below⟩)
  replace h := H.f q6 h
  refine c_skip ?_
  refine c_seq ?_
  refine r_start ?_
  refine p 1 ?_
  refine rend ?_
  replace h := H.done h
  subst h
  exact ret func209 rfl (vs := [.bool true]) (.tmp (by kernel_rfl) .nil) rfl (fun W S => ⟨rfl, S.below⟩)
theorem C.l_eqOrient {a0 : Orient} {a1 : Orient} {r : Bool} (w : World) (h : X.l_eqOrient a0 a1 = some r) : Calls prog 210 #[.agg (eOrient a0).toArray, .agg (eOrient a1).toArray] w (Ret w (.bool r)) := by
  refine calls (M := no) (args := [.agg (eOrient a0).toArray, .agg (eOrient a1).toArray]) func210 rfl ?_
  replace h : H (X.l_eqOrient a0 a1) (fun o => o = r) := H.mk h
  unfold X.l_eqOrient at h
  refine c_seq ?_
  refine r_start ?_
  refine xx rfl (x_box (eOrient a0) fun g0_0 => ?_)
  refine xx rfl (x_box (eOrient a1) fun g0_1 => ?_)
  refine p 1 ?_
  refine rend ?_
  refine c_seq ?_
  refine c_seq ?_
  refine r_start ?_
  refine p 1 ?_
  refine xq rfl (y_load (.int .i64 a0.Palm) 0 g0_0 0) ?_
  refine p 1 ?_
  refine xq rfl (y_load (.int .i64 a1.Palm) 1 g0_1 0) ?_
  refine p 1 ?_
  refine rend ?_
  refine c_or (a0.Palm != a1.Palm) (fun q1 => ?_) (fun q1 => ?_)
  · replace h := H.t q1 h
    refine c_seq ?_
    refine r_start ?_
    refine p 1 ?_
    refine rend ?_
    replace h := H.done h
    subst h
    exact ret func210 rfl (vs := [.bool false]) (.tmp (by kernel_rfl) .nil) rfl (fun W S => ⟨rfl, S.below⟩)
  replace h := H.f q1 h
  refine c_skip ?_
  refine c_seq ?_
  refine c_seq ?_
  refine r_start ?_
  refine p 1 ?_
  refine xq rfl (y_load (.int .i64 a0.Fingers) 0 g0_0 1) ?_
  refine p 1 ?_
  refine xq rfl (y_load (.int .i64 a1.Fingers) 1 g0_1 1) ?_
  refine p 1 ?_
  refine rend ?_
  refine c_or (a0.Fingers != a1.Fingers) (fun q2 => ?_) (fun q2 => ?_)
  · replace h := H.t q2 h
    refine c_seq ?_
    refine r_start ?_
    refine p 1 ?_
    refine rend ?_
    replace h := H.done h
    subst h
    exact ret func210 rfl (vs := [.bool false]) (.tmp (by kernel_rfl) .nil) rfl (fun W S => ⟨rfl, S.below⟩)
  replace h := H.f q2 h
  refine c_skip ?_
  refine c_seq ?_
  refine r_start ?_
  refine p 1 ?_
  refine rend ?_
  replace h := H.done h
  subst h
  exact ret func210 rfl (vs := [.bool true]) (.tmp (by kernel_rfl) .nil) rfl (fun W S => ⟨rfl, S.below⟩)
theorem C.l_eqPlace {a0 : Place} {a1 : Place} {r : Bool} (w : World) (h : X.l_eqPlace a0 a1 = some r) : Calls prog 211 #[.agg (ePlace a0).toArray, .agg (ePlace a1).toArray] w (Ret w (.bool r)) := by
  refine calls (M := no) (args := [.agg (ePlace a0).toArray, .agg (ePlace a1).toArray]) func211 rfl ?_
  replace h : H (X.l_eqPlace a0 a1) (fun o => o = r) := H.mk h
  unfold X.l_eqPlace at h
  refine c_seq ?_
  refine r_start ?_
  refine xx rfl (x_box (ePlace a0) fun g0_0 => ?_)
  refine xx rfl (x_box (ePlace a1) fun g0_1 => ?_)
  refine p 1 ?_
  refine rend ?_
  refine c_seq ?_
  refine c_seq ?_
  refine r_start ?_
  refine p 1 ?_
  refine xq rfl (y_load (.int .i64 a0.Region) 0 g0_0 0) ?_
  refine p 1 ?_
  refine xq rfl (y_load (.int .i64 a1.Region) 1 g0_1 0) ?_
  refine p 1 ?_
  refine rend ?_
  refine c_or (a0.Region != a1.Region) (fun q1 => ?_) (fun q1 => ?_)
  · replace h := H.t q1 h
    refine c_seq ?_
    refine r_start ?_
    refine p 1 ?_
    refine rend ?_
    replace h := H.done h
    subst h
    exact ret func211 rfl (vs := [.bool false]) (.tmp (by kernel_rfl) .nil) rfl (fun W S => ⟨rfl, S.below⟩)
  replace h := H.f q1 h
  refine c_skip ?_
  refine c_seq ?_
  refine c_seq ?_
  refine r_start ?_
  refine p 1 ?_
  refine xq rfl (y_load (.int .i64 a0.Side) 0 g0_0 1) ?_
  refine p 1 ?_
  refine xq rfl (y_load (.int .i64 a1.Side) 1 g0_1 1) ?_
  refine p 1 ?_
  refine rend ?_
  refine c_or (a0.Side != a1.Side) (fun q2 => ?_) (fun q2 => ?_)
  · replace h := H.t q2 h
    refine c_seq ?_
    refine r_start ?_
    refine p 1 ?_
    refine rend ?_
    replace h := H.done h
    subst h
    exact ret func211 rfl (vs := [.bool false]) (.tmp (by kernel_rfl) .nil) rfl (fun W S => ⟨rfl, S.below⟩)
  replace h := H.f q2 h
  refine c_skip ?_
  refine c_seq ?_
  refine c_seq ?_
  refine r_start ?_
  refine p 1 ?_
  refine xq rfl (y_load (.bool a0.Contact) 0 g0_0 2) ?_
  refine p 1 ?_
  refine xq rfl (y_load (.bool a1.Contact) 1 g0_1 2) ?_
  refine p 1 ?_
  refine rend ?_
  refine c_or (!(a0.Contact == a1.Contact)) (fun q3 => ?_) (fun q3 => ?_)
  · replace h := H.t q3 h
    refine c_seq ?_
    refine r_start ?_
    refine p 1 ?_
    refine rend ?_
    replace h := H.done h
    subst h
    exact ret func211 rfl (vs := [.bool false]) (.tmp (by kernel_rfl) .nil) rfl (fun W S => ⟨rfl, S.below⟩)
  replace h := H.f q3 h
  refine c_skip ?_
  refine c_seq ?_
  refine r_start ?_
  refine p 1 ?_
  refine rend ?_
  replace h := H.done h
  subst h
  exact ret func211 rfl (vs := [.bool true]) (.tmp (by kernel_rfl) .nil) rfl (fun W S => ⟨rfl, S.below⟩)
theorem C.l_eqMove {a0 : Move} {a1 : Move} {r : Bool} (w : World) (h : X.l_eqMove a0 a1 = some r) : Calls prog 212 #[.agg (eMove a0).toArray, .agg (eMove a1).toArray] w (Ret w (.bool r)) := by
  refine calls (M := no) (args := [.agg (eMove a0).toArray, .agg (eMove a1).toArray]) func212 rfl ?_
  replace h : H (X.l_eqMove a0 a1) (fun o => o = r) := H.mk h
  unfold X.l_eqMove at h
  refine c_seq ?_
  refine r_start ?_
  refine xx rfl (x_box (eMove a0) fun g0_0 => ?_)
  refine xx rfl (x_box (eMove a1) fun g0_1 => ?_)
  refine p 1 ?_
  refine rend ?_
  refine c_seq ?_
  refine c_seq ?_
  refine r_start ?_
  refine p 1 ?_
  refine xq rfl (y_load (.string (bs a0.Steps)) 0 g0_0 0) ?_
  refine p 1 ?_
  refine xq rfl (y_load (.string (bs a1.Steps)) 1 g0_1 0) ?_
  refine p 1 ?_
  refine rend ?_
  refine c_or (!seq a0.Steps a1.Steps) (fun q1 => ?_) (fun q1 => ?_)
  · replace h := H.t q1 h
    refine c_seq ?_
    refine r_start ?_
    refine p 1 ?_
    refine rend ?_
    replace h := H.done h
    subst h
    exact ret func212 rfl (vs := [.bool false]) (.tmp (by kernel_rfl) .nil) rfl (fun W S => ⟨rfl, S.below⟩)
  replace h := H.f q1 h
  refine c_skip ?_
  refine c_seq ?_
  refine c_seq ?_
  refine r_start ?_
  refine p 1 ?_
  refine xq rfl (y_load (.int .i64 a0.Repeat) 0 g0_0 1) ?_
  refine p 1 ?_
  refine xq rfl (y_load (.int .i64 a1.Repeat) 1 g0_1 1) ?_
  refine p 1 ?_
  refine rend ?_
  refine c_or (a0.Repeat != a1.Repeat) (fun q2 => ?_) (fun q2 => ?_)
  · replace h := H.t q2 h
    refine c_seq ?_
    refine r_start ?_
    refine p 1 ?_
    refine rend ?_
    replace h := H.done h
    subst h
    exact ret func212 rfl (vs := [.bool false]) (.tmp (by kernel_rfl) .nil) rfl (fun W S => ⟨rfl, S.below⟩)
  replace h := H.f q2 h
  refine c_skip ?_
  refine c_seq ?_
  refine r_start ?_
  refine p 1 ?_
  refine rend ?_
  replace h := H.done h
  subst h
  exact ret func212 rfl (vs := [.bool true]) (.tmp (by kernel_rfl) .nil) rfl (fun W S => ⟨rfl, S.below⟩)
theorem C.l_eqHand {a0 : Hand} {a1 : Hand} {r : Bool} (w : World) (h : X.l_eqHand a0 a1 = some r) : Calls prog 119 #[.agg (eHand a0).toArray, .agg (eHand a1).toArray] w (Ret w (.bool r)) := by
  refine calls (M := no) (args := [.agg (eHand a0).toArray, .agg (eHand a1).toArray]) func119 rfl ?_
  replace h : H (X.l_eqHand a0 a1) (fun o => o = r) := H.mk h
  unfold X.l_eqHand at h
  refine c_seq ?_
  refine r_start ?_
  refine xx rfl (x_box (eHand a0) fun g0_0 => ?_)
  refine xx rfl (x_box (eHand a1) fun g0_1 => ?_)
  refine p 1 ?_
  refine rend ?_
  refine c_seq ?_
  refine c_seq ?_
  refine r_start ?_
  refine p 1 ?_
  refine xq rfl (y_load (.agg (eShape a0.Shape).toArray) 0 g0_0 0) ?_
  refine p 1 ?_
  refine xq rfl (y_load (.agg (eShape a1.Shape).toArray) 1 g0_1 0) ?_
  obtain ⟨v1_4, hv1_4, h⟩ := H.call h
  refine xq rfl (y_call [.agg (eShape a0.Shape).toArray, .agg (eShape a1.Shape).toArray] (.bool v1_4) func209 (fun W S => C.l_eqShape W hv1_4)) ?_
  refine p 1 ?_
  refine rend ?_
  refine c_or (!v1_4) (fun q1 => ?_) (fun q1 => ?_)
  · replace h := H.t q1 h
    refine c_seq ?_
    refine r_start ?_
    refine p 1 ?_
    refine rend ?_
    replace h := H.done h
    subst h
    exact ret func119 rfl (vs := [.bool false]) (.tmp (by kernel_rfl) .nil) rfl (fun W S => ⟨rfl, S.below⟩)
  replace h := H.f q1 h
  refine c_skip ?_
  refine c_seq ?_
  refine c_seq ?_
  refine r_start ?_
  refine p 1 ?_
  refine xq rfl (y_load (.agg (eOrient a0.Orient).toArray) 0 g0_0 6) ?_
  refine p 1 ?_
  refine xq rfl (y_load (.agg (eOrient a1.Orient).toArray) 1 g0_1 6) ?_
  obtain ⟨v3_4, hv3_4, h⟩ := H.call h
  refine xq rfl (y_call [.agg (eOrient a0.Orient).toArray, .agg (eOrient a1.Orient).toArray] (.bool v3_4) func210 (fun W S => C.l_eqOrient W hv3_4)) ?_
  refine p 1 ?_
  refine rend ?_
  refine c_or (!v3_4) (fun q2 => ?_) (fun q2 => ?_)
  · replace h := H.t q2 h
    refine c_seq ?_
    refine r_start ?_
    refine p 1 ?_
    refine rend ?_
    replace h := H.done h
    subst h
    exact ret func119 rfl (vs := [.bool false]) (.tmp (by kernel_rfl) .nil) rfl (fun W S => ⟨rfl, S.below⟩)
  replace h := H.f q2 h
  refine c_skip ?_
  refine c_seq ?_
  refine c_seq ?_
  refine r_start ?_
  refine p 1 ?_
  refine xq rfl (y_load (.agg (ePlace a0.Place).toArray) 0 g0_0 8) ?_
  refine p 1 ?_
  refine xq rfl (y_load (.agg (ePlace a1.Place).toArray) 1 g0_1 8) ?_
  obtain ⟨v5_4, hv5_4, h⟩ := H.call h
  refine xq rfl (y_call [.agg (ePlace a0.Place).toArray, .agg (ePlace a1.Place).toArray] (.bool v5_4) func211 (fun W S => C.l_eqPlace W hv5_4)) ?_
  refine p 1 ?_
  refine rend ?_
  refine c_or (!v5_4) (fun q3 => ?_) (fun q3 => ?_)
  · replace h := H.t q3 h
    refine c_seq ?_
    refine r_start ?_
    refine p 1 ?_
    refine rend ?_
    replace h := H.done h
    subst h
    exact ret func119 rfl (vs := [.bool false]) (.tmp (by kernel_rfl) .nil) rfl (fun W S => ⟨rfl, S.below⟩)
  replace h := H.f q3 h
  refine c_skip ?_
  refine c_seq ?_
  refine c_seq ?_
  refine r_start ?_
  refine p 1 ?_
  refine xq rfl (y_load (.agg (eMove a0.Move).toArray) 0 g0_0 11) ?_
  refine p 1 ?_
  refine xq rfl (y_load (.agg (eMove a1.Move).toArray) 1 g0_1 11) ?_
  obtain ⟨v7_4, hv7_4, h⟩ := H.call h
  refine xq rfl (y_call [.agg (eMove a0.Move).toArray, .agg (eMove a1.Move).toArray] (.bool v7_4) func212 (fun W S => C.l_eqMove W hv7_4)) ?_
  refine p 1 ?_
  refine rend ?_
  refine c_or (!v7_4) (fun q4 => ?_) (fun q4 => ?_)
  · replace h := H.t q4 h
    refine c_seq ?_
    refine r_start ?_
    refine p 1 ?_
    refine rend ?_
    replace h := H.done h
    subst h
    exact ret func119 rfl (vs := [.bool false]) (.tmp (by kernel_rfl) .nil) rfl (fun W S => ⟨rfl, S.below⟩)
  replace h := H.f q4 h
  refine c_skip ?_
  refine c_seq ?_
  refine r_start ?_
  refine p 1 ?_
  refine rend ?_
  replace h := H.done h
  subst h
  exact ret func119 rfl (vs := [.bool true]) (.tmp (by kernel_rfl) .nil) rfl (fun W S => ⟨rfl, S.below⟩)
theorem C.l_eqSign {a0 : Sign} {a1 : Sign} {r : Bool} (w : World) (h : X.l_eqSign a0 a1 = some r) : Calls prog 51 #[.agg (eSign a0).toArray, .agg (eSign a1).toArray] w (Ret w (.bool r)) := by
  refine calls (M := no) (args := [.agg (eSign a0).toArray, .agg (eSign a1).toArray]) func51 rfl ?_
  replace h : H (X.l_eqSign a0 a1) (fun o => o = r) := H.mk h
  unfold X.l_eqSign at h
  refine c_seq ?_
  refine r_start ?_
  refine xx rfl (x_box (eSign a0) fun g0_0 => ?_)
  refine xx rfl (x_box (eSign a1) fun g0_1 => ?_)
  refine p 1 ?_
  refine rend ?_
  refine c_seq ?_
  refine c_seq ?_
  refine r_start ?_
  refine p 1 ?_
  refine xq rfl (y_load (.agg (eHand a0.Main).toArray) 0 g0_0 0) ?_
  refine p 1 ?_
  refine xq rfl (y_load (.agg (eHand a1.Main).toArray) 1 g0_1 0) ?_
  obtain ⟨v1_4, hv1_4, h⟩ := H.call h
  refine xq rfl (y_call [.agg (eHand a0.Main).toArray, .agg (eHand a1.Main).toArray] (.bool v1_4) func119 (fun W S => C.l_eqHand W hv1_4)) ?_
  refine p 1 ?_
  refine rend ?_
  refine c_or (!v1_4) (fun q1 => ?_) (fun q1 => ?_)
  · replace h := H.t q1 h
    refine c_seq ?_
    refine r_start ?_
    refine p 1 ?_
    refine rend ?_
    replace h := H.done h
    subst h
    exact ret func51 rfl (vs := [.bool false]) (.tmp (by kernel_rfl) .nil) rfl (fun W S => ⟨rfl, S.below⟩)
  replace h := H.f q1 h
  refine c_skip ?_
  refine c_seq ?_
  refine c_seq ?_
  refine r_start ?_
  refine p 1 ?_
  refine xq rfl (y_load (.bool a0.Two) 0 g0_0 13) ?_
  refine p 1 ?_
  refine xq rfl (y_load (.bool a1.Two) 1 g0_1 13) ?_
  refine p 1 ?_
  refine rend ?_
  refine c_or (!(a0.Two == a1.Two)) (fun q2 => ?_) (fun q2 => ?_)
  · replace h := H.t q2 h
    refine c_seq ?_
    refine r_start ?_
    refine p 1 ?_
    refine rend ?_
    replace h := H.done h
    subst h
    exact ret func51 rfl (vs := [.bool false]) (.tmp (by kernel_rfl) .nil) rfl (fun W S => ⟨rfl, S.below⟩)
  replace h := H.f q2 h
  refine c_skip ?_
  refine c_seq ?_
  refine c_seq ?_
  refine r_start ?_
  refine p 1 ?_
  refine xq rfl (y_load (.agg (eHand a0.Other).toArray) 0 g0_0 14) ?_
  refine p 1 ?_
  refine xq rfl (y_load (.agg (eHand a1.Other).toArray) 1 g0_1 14) ?_
  obtain ⟨v5_4, hv5_4, h⟩ := H.call h
  refine xq rfl (y_call [.agg (eHand a0.Other).toArray, .agg (eHand a1.Other).toArray] (.bool v5_4) func119 (fun W S => C.l_eqHand W hv5_4)) ?_
  refine p 1 ?_
  refine rend ?_
  refine c_or (!v5_4) (fun q3 => ?_) (fun q3 => ?_)
  · replace h := H.t q3 h
    refine c_seq ?_
    refine r_start ?_
    refine p 1 ?_
    refine rend ?_
    replace h := H.done h
    subst h
    exact ret func51 rfl (vs := [.bool false]) (.tmp (by kernel_rfl) .nil) rfl (fun W S => ⟨rfl, S.below⟩)
  replace h := H.f q3 h
  refine c_skip ?_
  refine c_seq ?_
  refine r_start ?_
  refine p 1 ?_
  refine rend ?_
  replace h := H.done h
  subst h
  exact ret func51 rfl (vs := [.bool true]) (.tmp (by kernel_rfl) .nil) rfl (fun W S => ⟨rfl, S.below⟩)
theorem C.l_eqSignS {fu : Nat} {a0 : (List Sign)} {A0 : Option Addr} {k0 : Nat} {a1 : (List Sign)} {A1 : Option Addr} {k1 : Nat} {r : Bool} (w : World) (h : X.l_eqSignS fu a0 a1 = some r) (h0 : RdT nSign w (.slice A0 (List.length a0) k0) a0) (h1 : RdT nSign w (.slice A1 (List.length a1) k1) a1) : Calls prog 21 #[.slice A0 (List.length a0) k0, .slice A1 (List.length a1) k1] w (Ret w (.bool r)) := by
  refine calls (M := no) (args := [.slice A0 (List.length a0) k0, .slice A1 (List.length a1) k1]) func21 rfl ?_
  replace h : H (X.l_eqSignS fu a0 a1) (fun o => o = r) := H.mk h
  unfold X.l_eqSignS at h
  refine c_seq ?_
  refine r_start ?_
  refine p 1 ?_
  refine rend ?_
  refine c_seq ?_
  refine c_seq ?_
  refine r_start ?_
  refine p 5 ?_
  refine rend ?_
  refine c_or ((List.length a0 : Int) != (List.length a1 : Int)) (fun q1 => ?_) (fun q1 => ?_)
  · replace h := H.t q1 h
    refine c_seq ?_
    refine r_start ?_
    refine p 1 ?_
    refine rend ?_
    replace h := H.done h
    subst h
    exact ret func21 rfl (vs := [.bool false]) (.tmp (by kernel_rfl) .nil) rfl (fun W S => ⟨rfl, S.below⟩)
  replace h := H.f q1 h
  refine c_skip ?_
  refine c_seq ?_
  refine c_seq ?_
  refine r_start ?_
  refine p 1 ?_
  refine rend ?_
  refine c_block ?_
  refine joinE (X := Unit) 0 (H.or h) (fun (x : Unit) => x) (fun _ => []) (fun _ u => (jk u 0 27 [])) (fun h hj3 => ?_) ?_
  · skip
    refine loopR (X := Int) (fun (x : Int) => x) (fun n2 => []) (fun n2 u => (.slice A0 (List.length a0) k0 :: .slice A1 (List.length a1) k1 :: (jk u 2 3 (.int .i64 n2 :: (jk u 6 21 []))))) 0 h (by kernel_rfl) (by kernel_rfl) ?_
    intro n2 u h
    refine c_seq ?_
    refine c_seq ?_
    refine r_start ?_
    refine p 4 ?_
    refine rend ?_
    refine c_or (decide (n2 < (List.length a0 : Int))) (fun q4 => ?_) (fun q4 => ?_)
    · replace h := H.t q4 h
      refine c_skip ?_
      refine c_seq ?_
      refine c_block ?_
      refine c_seq ?_
      refine as_start 10 10 ?_
      refine ap 0 2 ?_
      obtain ⟨y6_2, hy6_2, h⟩ := H.call h
      refine aq 2 rfl (y_idx (e := nSign) (el := 62) hy6_2 (s_arg h0)) ?_
      refine aq 3 rfl (y_el (e := nSign) 0 (.agg (eSign y6_2).toArray) hy6_2 (s_arg h0)) ?_
      refine ap 4 2 ?_
      obtain ⟨y6_6, hy6_6, h⟩ := H.call h
      refine aq 6 rfl (y_idx (e := nSign) (el := 62) hy6_6 (s_arg h1)) ?_
      refine aq 7 rfl (y_el (e := nSign) 0 (.agg (eSign y6_6).toArray) hy6_6 (s_arg h1)) ?_
      obtain ⟨v6_8, hv6_8, h⟩ := H.call h
      refine aq 8 rfl (y_call [.agg (eSign y6_2).toArray, .agg (eSign y6_6).toArray] (.bool v6_8) func51 (fun W S => C.l_eqSign W hv6_8)) ?_
      refine ap 9 1 ?_
      refine a_done ?_
      refine c_or (!v6_8) (fun q5 => ?_) (fun q5 => ?_)
      · replace h := H.t q5 h
        refine c_seq ?_
        refine r_start ?_
        refine p 1 ?_
        refine rend ?_
        replace h := H.inr h
        replace h := H.done h
        subst h
        exact ret func21 rfl (vs := [.bool false]) (.tmp (by kernel_rfl) .nil) rfl (fun W S => ⟨rfl, S.below⟩)
      replace h := H.f q5 h
      refine c_skip ?_
      refine c_inb ?_
      refine r_start ?_
      refine p 3 ?_
      refine rend ?_
      replace h := H.inl h
      exact h (wr (n2 + 1)) _ _ rfl (by kernel_rfl) (by kernel_rfl)
    replace h := H.f q4 h
    refine cx ?_
    replace h := H.inr h
    exact hj3 () _ _ h (by kernel_rfl) (by kernel_rfl)
  intro x u h
  refine c_seq ?_
  refine r_start ?_
  refine p 1 ?_
  refine rend ?_
  replace h := H.done h
  subst h
  exact ret func21 rfl (vs := [.bool true]) (.tmp (by kernel_rfl) .nil) rfl (fun W S => ⟨rfl, S.below⟩)
theorem C.s_l1Num {fu : Nat} {a0 : Int} {r : Str} (w : World) (h : X.s_l1Num fu a0 = some r) : Calls prog 260 #[.int .i64 a0] w (Ret w (.string (bs r))) := by
  induction fu generalizing a0 r w with
  | zero => cases h
  | succ fu ih =>
  refine calls (M := no) (args := [.int .i64 a0]) func260 rfl ?_
  replace h : H (X.s_l1Num (fu + 1) a0) (fun o => o = r) := H.mk h
  rw [X.s_l1Num] at h
  refine c_seq ?_
  refine r_start ?_
  refine p 1 ?_
  refine rend ?_
  refine c_seq ?_
  refine c_seq ?_
  refine r_start ?_
  refine p 2 ?_
  refine rend ?_
  refine c_or (decide (a0 < 10)) (fun q1 => ?_) (fun q1 => ?_)
  · replace h := H.t q1 h
    refine c_seq ?_
    refine r_start ?_
    refine p 3 ?_
    refine xx rfl (e_lit (e := (eI .u8)) (el := 5) [.int .u8 (wk .u8 (wr (48 + a0)))] ([(wk .u8 (wr (48 + a0)))] : List Int) fun A2_3 k2_3 => ?_)
    refine xq rfl (y_conv (el := 5) (s_own 0)) ?_
    refine p 1 ?_
    refine rend ?_
    replace h := H.done h
    subst h
    exact ret func260 rfl (vs := [.string (bs (strOf ([(wk .u8 (wr (48 + a0)))] : List Int)))]) (.tmp (by kernel_rfl) .nil) rfl (fun W S => ⟨rfl, S.below⟩)
  replace h := H.f q1 h
  refine c_skip ?_
  refine c_seq ?_
  refine as_start 11 11 ?_
  refine ap 0 2 ?_
  obtain ⟨v3_2, hv3_2, h⟩ := H.call h
  refine aq 2 rfl (y_call [.int .i64 (wr (Int.tdiv a0 10))] (.string (bs v3_2)) func260 (fun W S => ih W hv3_2)) ?_
  refine ap 3 4 ?_
  refine ax 7 rfl (e_lit (e := (eI .u8)) (el := 5) [.int .u8 (wk .u8 (wr (48 + (Int.tmod a0 10))))] ([(wk .u8 (wr (48 + (Int.tmod a0 10))))] : List Int) fun A3_7 k3_7 => ⟨.inr (by kernel_rfl), ?_⟩)
  refine ax 8 rfl (e_y (y_conv (el := 5) (s_own 0)) ⟨.inr (by kernel_rfl), ?_⟩)
  obtain ⟨y3_9, hy3_9, h⟩ := H.call h
  refine aq 9 rfl (y_cat hy3_9) ?_
  refine ap 10 1 ?_
  refine a_done ?_
  replace h := H.done h
  subst h
  exact ret func260 rfl (vs := [.string (bs y3_9)]) (.tmp (by kernel_rfl) .nil) rfl (fun W S => ⟨rfl, S.below⟩)
theorem C.s_shText {fu : Nat} {a0 : Shape} {r : Str} (w : World) (h : X.s_shText fu a0 = some r) : Calls prog 188 #[.agg (eShape a0).toArray] w (Ret w (.string (bs r))) := by
  refine calls (M := no) (args := [.agg (eShape a0).toArray]) func188 rfl ?_
  replace h : H (X.s_shText fu a0) (fun o => o = r) := H.mk h
  unfold X.s_shText at h
  refine c_seq ?_
  refine r_start ?_
  refine xx rfl (x_box (eShape a0) fun g0_0 => ?_)
  refine p 1 ?_
  refine rend ?_
  refine c_seq ?_
  refine r_start ?_
  refine p 1 ?_
  refine xq rfl (y_load (.int .i64 a0.Thumb) 0 g0_0 0) ?_
  obtain ⟨v1_2, hv1_2, h⟩ := H.call h
  refine xq rfl (y_call [.int .i64 a0.Thumb] (.string (bs v1_2)) func260 (fun W S => C.s_l1Num W hv1_2)) ?_
  refine p 1 ?_
  refine rend ?_
  refine c_seq ?_
  refine c_seq ?_
  refine r_start ?_
  refine xq rfl (y_load (.agg (eShape a0).toArray) 0 g0_0 0) ?_
  obtain ⟨v2_1, hv2_1, h⟩ := H.call h
  refine xx rfl (e_cr [.agg (eShape a0).toArray] (fun v => v) func236 (fun W S => C.s_shFingers W hv2_1) fun A2_1 k2_1 => ?_)
  refine p 2 ?_
  refine rend ?_
  refine c_block ?_
  refine joinH (X := Str) 0 (H.bnd h) (fun (x : Str) => x) (fun t2 => [box g0_0 55 (eShape a0), rowT (eI .i64) w.heap.size 3 (.slice A2_1 (List.length v2_1) k2_1) v2_1]) (fun t2 u => (jk u 0 1 (.pointer (some ⟨g0_0, 0, none⟩) :: (jk u 2 1 (.string (bs t2) :: (jk u 4 22 [])))))) (fun h hj3 => ?_) ?_
  · skip
    refine rangeR (X := Str) (s_own 1) (fun (x : Str) => x) (fun t1 => [box g0_0 55 (eShape a0), rowT (eI .i64) w.heap.size 3 (.slice A2_1 (List.length v2_1) k2_1) v2_1]) (fun (j4 : Nat) t1 u => (jk u 0 1 (.pointer (some ⟨g0_0, 0, none⟩) :: (jk u 2 1 (.string (bs t1) :: (jk u 4 6 (.slice A2_1 (List.length v2_1) k2_1 :: .int .i64 (List.length v2_1 : Int) :: .int .i64 (j4 : Int) :: (jk u 13 13 [])))))))) v1_2 h (by kernel_rfl) (by kernel_rfl) ?_ ?_
    · intro j4 t1 u x5 q6 hg7 hw8 h
      refine c_seq ?_
      refine r_start ?_
      refine p 1 ?_
      refine rend ?_
      refine c_seq ?_
      refine c_yes q6 ?_
      refine c_skip ?_
      refine c_seq ?_
      refine c_block ?_
      refine c_seq ?_
      refine r_start ?_
      refine xq rfl (y_idx (e := (eI .i64)) (el := 3) hg7 (s_own 1)) ?_
      refine xq rfl (y_el (e := (eI .i64)) 0 (.int .i64 x5) hg7 (s_own 1)) ?_
      refine p 1 ?_
      refine rend ?_
      refine r_start ?_
      refine p 2 ?_
      obtain ⟨v5_2, hv5_2, h⟩ := H.call h
      refine xq rfl (y_call [.int .i64 x5] (.string (bs v5_2)) func260 (fun W S => C.s_l1Num W hv5_2)) ?_
      obtain ⟨y5_3, hy5_3, h⟩ := H.call h
      refine xq rfl (y_cat hy5_3) ?_
      refine p 1 ?_
      refine rend ?_
      refine c_inb ?_
      refine r_start ?_
      refine p 2 ?_
      refine rend ?_
      refine c_set 12 (ci hw8) ?_
      replace h := H.inl h
      exact h y5_3 _ _ rfl (by kernel_rfl) (by kernel_rfl)
    · intro t1 u q6 h
      refine c_seq ?_
      refine r_start ?_
      refine p 1 ?_
      refine rend ?_
      refine c_seq ?_
      refine c_no q6 ?_
      refine cx ?_
      replace h := H.done h
      exact hj3 t1 _ _ h (by kernel_rfl) (by kernel_rfl)
  intro t2 u h
  refine c_seq ?_
  refine c_seq ?_
  refine r_start ?_
  refine p 1 ?_
  refine xq rfl (y_load (.bool a0.Spread) 0 g0_0 5) ?_
  refine rend ?_
  refine c_or a0.Spread (fun q9 => ?_) (fun q9 => ?_)
  · replace h := H.t q9 h
    refine r_start ?_
    refine p 1 ?_
    obtain ⟨y8_1, hy8_1, h⟩ := H.call h
    refine xq rfl (y_cat hy8_1) ?_
    refine p 1 ?_
    refine rend ?_
    refine c_seq ?_
    refine r_start ?_
    refine p 2 ?_
    refine rend ?_
    replace h := H.done h
    subst h
    exact ret func188 rfl (vs := [.string (bs y8_1)]) (.tmp (by kernel_rfl) .nil) rfl (fun W S => ⟨rfl, S.below⟩)
  replace h := H.f q9 h
  refine c_skip ?_
  refine c_seq ?_
  refine r_start ?_
  refine p 2 ?_
  refine rend ?_
  replace h := H.done h
  subst h
  exact ret func188 rfl (vs := [.string (bs t2)]) (.tmp (by kernel_rfl) .nil) rfl (fun W S => ⟨rfl, S.below⟩)
theorem C.s_orText {a0 : Orient} {r : Str} (w : World) (h : X.s_orText a0 = some r) : Calls prog 189 #[.agg (eOrient a0).toArray] w (Ret w (.string (bs r))) := by
  refine calls (M := no) (args := [.agg (eOrient a0).toArray]) func189 rfl ?_
  replace h : H (X.s_orText a0) (fun o => o = r) := H.mk h
  unfold X.s_orText at h
  refine c_seq ?_
  refine r_start ?_
  refine xx rfl (x_box (eOrient a0) fun g0_0 => ?_)
  refine p 1 ?_
  refine rend ?_
  refine c_seq ?_
  refine as_start 14 14 ?_
  refine ap 0 1 ?_
  refine aq 1 rfl (y_load (.int .i64 a0.Palm) 0 g0_0 0) ?_
  refine ap 2 1 ?_
  refine aq 3 rfl (y_load (.int .i64 a0.Palm) 0 g0_0 0) ?_
  refine ap 4 1 ?_
  obtain ⟨y1_5, hy1_5, h⟩ := H.call h
  refine aq 5 rfl (y_cut hy1_5) ?_
  refine ap 6 1 ?_
  refine aq 7 rfl (y_load (.int .i64 a0.Fingers) 0 g0_0 1) ?_
  refine ap 8 1 ?_
  refine aq 9 rfl (y_load (.int .i64 a0.Fingers) 0 g0_0 1) ?_
  refine ap 10 1 ?_
  obtain ⟨y1_11, hy1_11, h⟩ := H.call h
  refine aq 11 rfl (y_cut hy1_11) ?_
  obtain ⟨y1_12, hy1_12, h⟩ := H.call h
  refine aq 12 rfl (y_cat hy1_12) ?_
  refine ap 13 1 ?_
  refine a_done ?_
  replace h := H.done h
  subst h
  exact ret func189 rfl (vs := [.string (bs y1_12)]) (.tmp (by kernel_rfl) .nil) rfl (fun W S => ⟨rfl, S.below⟩)
theorem C.s_plNames {r : (List Str)} (w : World) (h : X.s_plNames = some r) : Calls prog 261 #[] w (RetR eS 9 w r (fun v => v)) := by
  refine calls (M := no) (args := []) func261 rfl ?_
  replace h : H (X.s_plNames) (fun o => o = r) := H.mk h
  unfold X.s_plNames at h
  refine c_seq ?_
  refine r_start ?_
  refine p 1 ?_
  refine rend ?_
  refine c_seq ?_
  refine r_start ?_
  refine xx rfl (e_lit (e := eS) (el := 9) [.string (bs ([115, 112, 97, 99, 101] : Str)), .string (bs ([104, 101, 97, 100] : Str)), .string (bs ([101, 121, 101] : Str)), .string (bs ([99, 104, 101, 101, 107] : Str)), .string (bs ([109, 111, 117, 116, 104] : Str)), .string (bs ([99, 104, 105, 110] : Str)), .string (bs ([110, 101, 99, 107] : Str)), .string (bs ([99, 104, 101, 115, 116] : Str)), .string (bs ([119, 97, 105, 115, 116] : Str)), .string (bs ([104, 105, 112] : Str))] ([([115, 112, 97, 99, 101] : Str), ([104, 101, 97, 100] : Str), ([101, 121, 101] : Str), ([99, 104, 101, 101, 107] : Str), ([109, 111, 117, 116, 104] : Str), ([99, 104, 105, 110] : Str), ([110, 101, 99, 107] : Str), ([99, 104, 101, 115, 116] : Str), ([119, 97, 105, 115, 116] : Str), ([104, 105, 112] : Str)] : List Str) fun A1_0 k1_0 => ?_)
  refine p 1 ?_
  refine rend ?_
  replace h := H.done h
  subst h
  exact ret func261 rfl (vs := [.slice A1_0 (List.length ([([115, 112, 97, 99, 101] : Str), ([104, 101, 97, 100] : Str), ([101, 121, 101] : Str), ([99, 104, 101, 101, 107] : Str), ([109, 111, 117, 116, 104] : Str), ([99, 104, 105, 110] : Str), ([110, 101, 99, 107] : Str), ([99, 104, 101, 115, 116] : Str), ([119, 97, 105, 115, 116] : Str), ([104, 105, 112] : Str)] : List Str)) k1_0]) (.tmp (by kernel_rfl) .nil) rfl (fun W S => ⟨_, _, rfl, S.row 0, S.below⟩)
theorem C.s_plText {a0 : Place} {r : Str} (w : World) (h : X.s_plText a0 = some r) : Calls prog 190 #[.agg (ePlace a0).toArray] w (Ret w (.string (bs r))) := by
  refine calls (M := no) (args := [.agg (ePlace a0).toArray]) func190 rfl ?_
  replace h : H (X.s_plText a0) (fun o => o = r) := H.mk h
  unfold X.s_plText at h
  refine c_seq ?_
  refine r_start ?_
  refine xx rfl (x_box (ePlace a0) fun g0_0 => ?_)
  refine p 1 ?_
  refine rend ?_
  refine c_seq ?_
  refine as_start 6 6 ?_
  refine ap 1 1 ?_
  refine aq 2 rfl (y_load (.int .i64 a0.Region) 0 g0_0 0) ?_
  obtain ⟨v1_0, hv1_0, h⟩ := H.call h
  refine ax 0 rfl (e_cr [] (fun v => v) func261 (fun W S => C.s_plNames W hv1_0) fun A1_0 k1_0 => ⟨.inr (by kernel_rfl), ?_⟩)
  obtain ⟨y1_3, hy1_3, h⟩ := H.call h
  refine ax 3 rfl (e_y (y_idx (e := eS) (el := 9) hy1_3 (s_own 1)) ⟨.inr (by kernel_rfl), ?_⟩)
  refine ax 4 rfl (e_y (y_el (e := eS) 0 (.string (bs y1_3)) hy1_3 (s_own 1)) ⟨.inr (by kernel_rfl), ?_⟩)
  refine ap 5 1 ?_
  refine a_done ?_
  refine c_seq ?_
  refine c_seq ?_
  refine r_start ?_
  refine p 1 ?_
  refine xq rfl (y_load (.int .i64 a0.Side) 0 g0_0 1) ?_
  refine rend ?_
  refine c_block ?_
  refine c_seq ?_
  refine r_start ?_
  refine p 2 ?_
  refine rend ?_
  refine c_or (a0.Side == (-1)) (fun q1 => ?_) (fun q1 => ?_)
  · replace h := H.t q1 h
    refine r_start ?_
    refine p 1 ?_
    obtain ⟨y4_1, hy4_1, h⟩ := H.call h
    refine xq rfl (y_cat hy4_1) ?_
    refine p 1 ?_
    refine rend ?_
    refine c_inb ?_
    refine c_seq ?_
    refine c_seq ?_
    refine r_start ?_
    refine p 1 ?_
    refine xq rfl (y_load (.bool a0.Contact) 0 g0_0 2) ?_
    refine rend ?_
    refine c_or a0.Contact (fun q2 => ?_) (fun q2 => ?_)
    · replace h := H.t q2 h
      refine r_start ?_
      refine p 1 ?_
      obtain ⟨y8_1, hy8_1, h⟩ := H.call h
      refine xq rfl (y_cat hy8_1) ?_
      refine p 1 ?_
      refine rend ?_
      refine c_seq ?_
      refine r_start ?_
      refine p 2 ?_
      refine rend ?_
      replace h := H.done h
      subst h
      exact ret func190 rfl (vs := [.string (bs y8_1)]) (.tmp (by kernel_rfl) .nil) rfl (fun W S => ⟨rfl, S.below⟩)
    replace h := H.f q2 h
    refine c_skip ?_
    refine c_seq ?_
    refine r_start ?_
    refine p 2 ?_
    refine rend ?_
    replace h := H.done h
    subst h
    exact ret func190 rfl (vs := [.string (bs y4_1)]) (.tmp (by kernel_rfl) .nil) rfl (fun W S => ⟨rfl, S.below⟩)
  replace h := H.f q1 h
  refine c_seq ?_
  refine r_start ?_
  refine p 2 ?_
  refine rend ?_
  refine c_or (a0.Side == 1) (fun q3 => ?_) (fun q3 => ?_)
  · replace h := H.t q3 h
    refine r_start ?_
    refine p 1 ?_
    obtain ⟨y6_1, hy6_1, h⟩ := H.call h
    refine xq rfl (y_cat hy6_1) ?_
    refine p 1 ?_
    refine rend ?_
    refine c_inb ?_
    refine c_seq ?_
    refine c_seq ?_
    refine r_start ?_
    refine p 1 ?_
    refine xq rfl (y_load (.bool a0.Contact) 0 g0_0 2) ?_
    refine rend ?_
    refine c_or a0.Contact (fun q4 => ?_) (fun q4 => ?_)
    · replace h := H.t q4 h
      refine r_start ?_
      refine p 1 ?_
      obtain ⟨y8_1, hy8_1, h⟩ := H.call h
      refine xq rfl (y_cat hy8_1) ?_
      refine p 1 ?_
      refine rend ?_
      refine c_seq ?_
      refine r_start ?_
      refine p 2 ?_
      refine rend ?_
      replace h := H.done h
      subst h
      exact ret func190 rfl (vs := [.string (bs y8_1)]) (.tmp (by kernel_rfl) .nil) rfl (fun W S => ⟨rfl, S.below⟩)
    replace h := H.f q4 h
    refine c_skip ?_
    refine c_seq ?_
    refine r_start ?_
    refine p 2 ?_
    refine rend ?_
    replace h := H.done h
    subst h
    exact ret func190 rfl (vs := [.string (bs y6_1)]) (.tmp (by kernel_rfl) .nil) rfl (fun W S => ⟨rfl, S.below⟩)
  replace h := H.f q3 h
  refine c_skip ?_
  refine c_inb ?_
  refine c_seq ?_
  refine c_seq ?_
  refine r_start ?_
  refine p 1 ?_
  refine xq rfl (y_load (.bool a0.Contact) 0 g0_0 2) ?_
  refine rend ?_
  refine c_or a0.Contact (fun q5 => ?_) (fun q5 => ?_)
  · replace h := H.t q5 h
    refine r_start ?_
    refine p 1 ?_
    obtain ⟨y8_1, hy8_1, h⟩ := H.call h
    refine xq rfl (y_cat hy8_1) ?_
    refine p 1 ?_
    refine rend ?_
    refine c_seq ?_
    refine r_start ?_
    refine p 2 ?_
    refine rend ?_
    replace h := H.done h
    subst h
    exact ret func190 rfl (vs := [.string (bs y8_1)]) (.tmp (by kernel_rfl) .nil) rfl (fun W S => ⟨rfl, S.below⟩)
  replace h := H.f q5 h
  refine c_skip ?_
  refine c_seq ?_
  refine r_start ?_
  refine p 2 ?_
  refine rend ?_
  replace h := H.done h
  subst h
  exact ret func190 rfl (vs := [.string (bs y1_3)]) (.tmp (by kernel_rfl) .nil) rfl (fun W S => ⟨rfl, S.below⟩)
theorem C.s_mvText {fu : Nat} {a0 : Move} {r : Str} (w : World) (h : X.s_mvText fu a0 = some r) : Calls prog 191 #[.agg (eMove a0).toArray] w (Ret w (.string (bs r))) := by
  refine calls (M := no) (args := [.agg (eMove a0).toArray]) func191 rfl ?_
  replace h : H (X.s_mvText fu a0) (fun o => o = r) := H.mk h
  unfold X.s_mvText at h
  refine c_seq ?_
  refine r_start ?_
  refine xx rfl (x_box (eMove a0) fun g0_0 => ?_)
  refine p 1 ?_
  refine rend ?_
  refine c_seq ?_
  refine c_block ?_
  refine c_seq ?_
  refine r_start ?_
  refine p 1 ?_
  refine xq rfl (y_load (.string (bs a0.Steps)) 0 g0_0 0) ?_
  refine p 2 ?_
  refine rend ?_
  refine c_or (seq a0.Steps ([] : Str)) (fun q1 => ?_) (fun q1 => ?_)
  · replace h := H.t q1 h
    refine c_seq ?_
    refine r_start ?_
    refine p 1 ?_
    refine rend ?_
    replace h := H.done h
    subst h
    exact ret func191 rfl (vs := [.string (bs ([45] : Str))]) (.tmp (by kernel_rfl) .nil) rfl (fun W S => ⟨rfl, S.below⟩)
  replace h := H.f q1 h
  refine c_seq ?_
  refine r_start ?_
  refine p 1 ?_
  refine xq rfl (y_load (.int .i64 a0.Repeat) 0 g0_0 1) ?_
  refine p 2 ?_
  refine rend ?_
  refine c_or (decide (a0.Repeat > 1)) (fun q2 => ?_) (fun q2 => ?_)
  · replace h := H.t q2 h
    refine c_seq ?_
    refine as_start 8 8 ?_
    refine ap 0 1 ?_
    refine aq 1 rfl (y_load (.string (bs a0.Steps)) 0 g0_0 0) ?_
    obtain ⟨y4_2, hy4_2, h⟩ := H.call h
    refine aq 2 rfl (y_cat hy4_2) ?_
    refine ap 3 1 ?_
    refine aq 4 rfl (y_load (.int .i64 a0.Repeat) 0 g0_0 1) ?_
    obtain ⟨v4_5, hv4_5, h⟩ := H.call h
    refine aq 5 rfl (y_call [.int .i64 a0.Repeat] (.string (bs v4_5)) func260 (fun W S => C.s_l1Num W hv4_5)) ?_
    obtain ⟨y4_6, hy4_6, h⟩ := H.call h
    refine aq 6 rfl (y_cat hy4_6) ?_
    refine ap 7 1 ?_
    refine a_done ?_
    replace h := H.done h
    subst h
    exact ret func191 rfl (vs := [.string (bs y4_6)]) (.tmp (by kernel_rfl) .nil) rfl (fun W S => ⟨rfl, S.below⟩)
  replace h := H.f q2 h
  refine c_skip ?_
  refine c_inb ?_
  refine c_seq ?_
  refine r_start ?_
  refine p 1 ?_
  refine xq rfl (y_load (.string (bs a0.Steps)) 0 g0_0 0) ?_
  refine p 1 ?_
  refine rend ?_
  replace h := H.done h
  subst h
  exact ret func191 rfl (vs := [.string (bs a0.Steps)]) (.tmp (by kernel_rfl) .nil) rfl (fun W S => ⟨rfl, S.below⟩)
theorem C.s_siText {fu : Nat} {a0 : Hand} {r : Str} (w : World) (h : X.s_siText fu a0 = some r) : Calls prog 102 #[.agg (eHand a0).toArray] w (Ret w (.string (bs r))) := by
  refine calls (M := no) (args := [.agg (eHand a0).toArray]) func102 rfl ?_
  replace h : H (X.s_siText fu a0) (fun o => o = r) := H.mk h
  unfold X.s_siText at h
  refine c_seq ?_
  refine r_start ?_
  refine xx rfl (x_box (eHand a0) fun g0_0 => ?_)
  refine p 1 ?_
  refine rend ?_
  refine c_seq ?_
  refine as_start 19 19 ?_
  refine ap 0 1 ?_
  refine aq 1 rfl (y_load (.agg (eShape a0.Shape).toArray) 0 g0_0 0) ?_
  obtain ⟨v1_2, hv1_2, h⟩ := H.call h
  refine aq 2 rfl (y_call [.agg (eShape a0.Shape).toArray] (.string (bs v1_2)) func188 (fun W S => C.s_shText W hv1_2)) ?_
  obtain ⟨y1_3, hy1_3, h⟩ := H.call h
  refine aq 3 rfl (y_cat hy1_3) ?_
  refine ap 4 1 ?_
  refine aq 5 rfl (y_load (.agg (eOrient a0.Orient).toArray) 0 g0_0 6) ?_
  obtain ⟨v1_6, hv1_6, h⟩ := H.call h
  refine aq 6 rfl (y_call [.agg (eOrient a0.Orient).toArray] (.string (bs v1_6)) func189 (fun W S => C.s_orText W hv1_6)) ?_
  obtain ⟨y1_7, hy1_7, h⟩ := H.call h
  refine aq 7 rfl (y_cat hy1_7) ?_
  obtain ⟨y1_8, hy1_8, h⟩ := H.call h
  refine aq 8 rfl (y_cat hy1_8) ?_
  refine ap 9 1 ?_
  refine aq 10 rfl (y_load (.agg (ePlace a0.Place).toArray) 0 g0_0 8) ?_
  obtain ⟨v1_11, hv1_11, h⟩ := H.call h
  refine aq 11 rfl (y_call [.agg (ePlace a0.Place).toArray] (.string (bs v1_11)) func190 (fun W S => C.s_plText W hv1_11)) ?_
  obtain ⟨y1_12, hy1_12, h⟩ := H.call h
  refine aq 12 rfl (y_cat hy1_12) ?_
  obtain ⟨y1_13, hy1_13, h⟩ := H.call h
  refine aq 13 rfl (y_cat hy1_13) ?_
  refine ap 14 1 ?_
  refine aq 15 rfl (y_load (.agg (eMove a0.Move).toArray) 0 g0_0 11) ?_
  obtain ⟨v1_16, hv1_16, h⟩ := H.call h
  refine aq 16 rfl (y_call [.agg (eMove a0.Move).toArray] (.string (bs v1_16)) func191 (fun W S => C.s_mvText W hv1_16)) ?_
  obtain ⟨y1_17, hy1_17, h⟩ := H.call h
  refine aq 17 rfl (y_cat hy1_17) ?_
  refine ap 18 1 ?_
  refine a_done ?_
  replace h := H.done h
  subst h
  exact ret func102 rfl (vs := [.string (bs y1_17)]) (.tmp (by kernel_rfl) .nil) rfl (fun W S => ⟨rfl, S.below⟩)
theorem C.s_mvOf {fu : Nat} {a0 : Str} {r : (Move × Bool)} (w : World) (h : X.s_mvOf fu a0 = some r) : Calls prog 312 #[.string (bs a0)] w (Ret w (.tuple #[.agg (eMove r.1).toArray, .bool r.2])) := by
  refine calls (M := no) (args := [.string (bs a0)]) func312 rfl ?_
  replace h : H (X.s_mvOf fu a0) (fun o => o = r) := H.mk h
  unfold X.s_mvOf at h
  refine c_seq ?_
  refine r_start ?_
  refine xx rfl (x_new (eMove zMove) fun g0_0 => ?_)
  refine p 1 ?_
  refine rend ?_
  refine c_seq ?_
  refine c_seq ?_
  refine r_start ?_
  refine p 2 ?_
  refine rend ?_
  refine c_or (seq a0 ([] : Str)) (fun q1 => ?_) (fun q1 => ?_)
  · replace h := H.t q1 h
    refine c_seq ?_
    refine r_start ?_
    refine p 1 ?_
    refine xx rfl (x_sto 0 g0_0 0 (eMove ({ zMove with Repeat := 1 })) ?_)
    refine p 1 ?_
    refine rend ?_
    replace h := H.done h
    subst h
    exact ret func312 rfl (vs := [.agg (eMove ({ zMove with Repeat := 1 })).toArray, .bool true]) (.cell 0 g0_0 rfl (by kernel_rfl) (by kernel_rfl) (.tmp (by kernel_rfl) .nil)) rfl (fun W S => ⟨rfl, S.below⟩)
  replace h := H.f q1 h
  refine c_skip ?_
  refine c_seq ?_
  refine c_seq ?_
  refine r_start ?_
  refine p 1 ?_
  refine rend ?_
  refine c_block ?_
  refine joinE (X := Unit) 0 (H.or h) (fun (x : Unit) => x) (fun _ => [box g0_0 58 (eMove zMove)]) (fun _ u => (jk u 0 2 (.pointer (some ⟨g0_0, 0, none⟩) :: (jk u 3 33 [])))) (fun h hj3 => ?_) ?_
  · skip
    refine loopR (X := Int) (fun (x : Int) => x) (fun n2 => [box g0_0 58 (eMove zMove)]) (fun n2 u => (.string (bs a0) :: (jk u 1 1 (.pointer (some ⟨g0_0, 0, none⟩) :: (jk u 3 1 (.int .i64 n2 :: (jk u 5 31 []))))))) 1 h (by kernel_rfl) (by kernel_rfl) ?_
    intro n2 u h
    refine c_seq ?_
    refine c_seq ?_
    refine r_start ?_
    refine p 3 ?_
    refine br (decide (n2 ≤ 6)) (fun q4 => ?_) (fun q4 => ?_)
    · replace h := H.t q4 h
      refine o_set 11 (congrArg Value.bool q4) ?_
      refine p 5 ?_
      refine rend ?_
      refine c_or (decide (n2 ≤ (List.length a0 : Int))) (fun q5 => ?_) (fun q5 => ?_)
      · replace h := H.t q5 h
        refine c_skip ?_
        refine c_seq ?_
        refine c_block ?_
        refine c_seq ?_
        refine r_start ?_
        refine p 1 ?_
        refine rend ?_
        refine c_block ?_
        refine joinE (X := Unit) 2 (H.or h) (fun (x : Unit) => x) (fun _ => [box g0_0 58 (eMove zMove)]) (fun _ u => (.string (bs a0) :: (jk u 1 1 (.pointer (some ⟨g0_0, 0, none⟩) :: (jk u 3 1 (.int .i64 n2 :: (jk u 5 31 []))))))) (fun h hj7 => ?_) ?_
        · skip
          refine loopR (X := Int) (fun (x : Int) => x) (fun n6 => [box g0_0 58 (eMove zMove)]) (fun n6 u => (.string (bs a0) :: (jk u 1 1 (.pointer (some ⟨g0_0, 0, none⟩) :: (jk u 3 1 (.int .i64 n2 :: .int .i64 n6 :: (jk u 6 30 []))))))) 1 h (by kernel_rfl) (by kernel_rfl) ?_
          intro n6 u h
          refine c_seq ?_
          refine c_seq ?_
          refine r_start ?_
          refine p 2 ?_
          refine rend ?_
          refine c_or (decide (n6 ≤ 3)) (fun q8 => ?_) (fun q8 => ?_)
          · replace h := H.t q8 h
            refine c_skip ?_
            refine c_seq ?_
            refine c_block ?_
            refine c_seq ?_
            refine r_start ?_
            refine p 2 ?_
            obtain ⟨y9_2, hy9_2, h⟩ := H.call h
            refine xq rfl (y_cut hy9_2) ?_
            refine p 1 ?_
            obtain ⟨v9_4, hv9_4, h⟩ := H.call h
            refine xq rfl (y_call [.string (bs y9_2), .int .i64 n6] (.string (bs v9_4)) func272 (fun W S => C.s_mvTimes W hv9_4)) ?_
            refine p 2 ?_
            refine rend ?_
            refine c_or (seq v9_4 a0) (fun q9 => ?_) (fun q9 => ?_)
            · replace h := H.t q9 h
              refine c_seq ?_
              refine r_start ?_
              refine p 2 ?_
              obtain ⟨y10_2, hy10_2, h⟩ := H.call h
              refine xq rfl (y_cut hy10_2) ?_
              refine p 2 ?_
              refine xx rfl (x_sto 0 g0_0 0 (eMove (⟨y10_2, n6⟩ : Move)) ?_)
              refine p 1 ?_
              refine rend ?_
              replace h := H.inr h
              replace h := H.inr h
              replace h := H.done h
              subst h
              exact ret func312 rfl (vs := [.agg (eMove (⟨y10_2, n6⟩ : Move)).toArray, .bool true]) (.cell 0 g0_0 rfl (by kernel_rfl) (by kernel_rfl) (.tmp (by kernel_rfl) .nil)) rfl (fun W S => ⟨rfl, S.below⟩)
            replace h := H.f q9 h
            refine c_skip ?_
            refine c_inb ?_
            refine r_start ?_
            refine p 3 ?_
            refine rend ?_
            replace h := H.inl h
            exact h (wr (n6 + 1)) _ _ rfl (by kernel_rfl) (by kernel_rfl)
          replace h := H.f q8 h
          refine cx ?_
          replace h := H.inr h
          exact hj7 () _ _ h (by kernel_rfl) (by kernel_rfl)
        intro x u h
        refine c_inb ?_
        refine r_start ?_
        refine p 3 ?_
        refine rend ?_
        replace h := H.inl h
        exact h (wr (n2 + 1)) _ _ rfl (by kernel_rfl) (by kernel_rfl)
      replace h := H.f q5 h
      refine cx ?_
      replace h := H.inr h
      exact hj3 () _ _ h (by kernel_rfl) (by kernel_rfl)
    replace h := H.f q4 h
    refine o_set 11 (congrArg Value.bool q4) ?_
    refine p 5 ?_
    refine rend ?_
    refine c_f (by kernel_rfl) ?_
    refine cx ?_
    replace h := H.inr h
    exact hj3 () _ _ h (by kernel_rfl) (by kernel_rfl)
  intro x u h
  refine c_seq ?_
  refine r_start ?_
  refine p 1 ?_
  refine xx rfl (x_sto 0 g0_0 0 (eMove zMove) ?_)
  refine p 1 ?_
  refine rend ?_
  replace h := H.done h
  subst h
  exact ret func312 rfl (vs := [.agg (eMove zMove).toArray, .bool false]) (.cell 0 g0_0 rfl (by kernel_rfl) (by kernel_rfl) (.tmp (by kernel_rfl) .nil)) rfl (fun W S => ⟨rfl, S.below⟩)
theorem C.s_mvNormal {fu : Nat} {a0 : Move} {r : Move} (w : World) (h : X.s_mvNormal fu a0 = some r) : Calls prog 270 #[.agg (eMove a0).toArray] w (Ret w (.agg (eMove r).toArray)) := by
  refine calls (M := no) (args := [.agg (eMove a0).toArray]) func270 rfl ?_
  replace h : H (X.s_mvNormal fu a0) (fun o => o = r) := H.mk h
  unfold X.s_mvNormal at h
  refine c_seq ?_
  refine r_start ?_
  refine xx rfl (x_box (eMove a0) fun g0_0 => ?_)
  refine xx rfl (x_new (eMove zMove) fun g0_1 => ?_)
  refine rend ?_
  refine c_seq ?_
  refine r_start ?_
  refine xq rfl (y_load (.agg (eMove a0).toArray) 0 g0_0 0) ?_
  obtain ⟨v1_1, hv1_1, h⟩ := H.call h
  refine xq rfl (y_call [.agg (eMove a0).toArray] (.string (bs v1_1)) func204 (fun W S => C.s_mvAll W hv1_1)) ?_
  obtain ⟨v1_2, hv1_2, h⟩ := H.call h
  refine xq rfl (y_call [.string (bs v1_1)] (.tuple #[.agg (eMove v1_2.1).toArray, .bool v1_2.2]) func312 (fun W S => C.s_mvOf W hv1_2)) ?_
  refine p 3 ?_
  refine xx rfl (x_new (eMove zMove) fun g1_6 => ?_)
  refine xx rfl (x_sto 2 g1_6 0 (eMove v1_2.1) ?_)
  refine p 1 ?_
  refine rend ?_
  refine c_seq ?_
  refine r_start ?_
  refine xq rfl (y_load (.agg (eMove v1_2.1).toArray) 2 g1_6 0) ?_
  refine xx rfl (x_sto 1 g0_1 0 (eMove v1_2.1) ?_)
  refine rend ?_
  replace h := H.done h
  subst h
  exact ret func270 rfl (vs := [.agg (eMove v1_2.1).toArray]) (.cell 1 g0_1 rfl (by kernel_rfl) (by kernel_rfl) .nil) rfl (fun W S => ⟨rfl, S.below⟩)
theorem C.s_noHand {fu : Nat} {a0 : Hand} {r : Hand} (w : World) (h : X.s_noHand fu a0 = some r) : Calls prog 206 #[.agg (eHand a0).toArray] w (Ret w (.agg (eHand r).toArray)) := by
  refine calls (M := no) (args := [.agg (eHand a0).toArray]) func206 rfl ?_
  replace h : H (X.s_noHand fu a0) (fun o => o = r) := H.mk h
  unfold X.s_noHand at h
  refine c_seq ?_
  refine r_start ?_
  refine xx rfl (x_box (eHand a0) fun g0_0 => ?_)
  refine xx rfl (x_new (eHand zHand) fun g0_1 => ?_)
  refine rend ?_
  refine c_seq ?_
  refine r_start ?_
  refine p 1 ?_
  refine xq rfl (y_load (.agg (eMove a0.Move).toArray) 0 g0_0 11) ?_
  obtain ⟨v1_2, hv1_2, h⟩ := H.call h
  refine xq rfl (y_call [.agg (eMove a0.Move).toArray] (.agg (eMove v1_2).toArray) func270 (fun W S => C.s_mvNormal W hv1_2)) ?_
  refine p 1 ?_
  refine xx rfl (x_sto 0 g0_0 11 (eHand ({ a0 with Move := v1_2 })) ?_)
  refine rend ?_
  refine c_seq ?_
  refine r_start ?_
  refine xq rfl (y_load (.agg (eHand ({ a0 with Move := v1_2 })).toArray) 0 g0_0 0) ?_
  refine xx rfl (x_sto 1 g0_1 0 (eHand ({ a0 with Move := v1_2 })) ?_)
  refine rend ?_
  replace h := H.done h
  subst h
  exact ret func206 rfl (vs := [.agg (eHand ({ a0 with Move := v1_2 })).toArray]) (.cell 1 g0_1 rfl (by kernel_rfl) (by kernel_rfl) .nil) rfl (fun W S => ⟨rfl, S.below⟩)
theorem C.s_noForm {fu : Nat} {a0 : Sign} {r : Sign} (w : World) (h : X.s_noForm fu a0 = some r) : Calls prog 116 #[.agg (eSign a0).toArray] w (Ret w (.agg (eSign r).toArray)) := by
  refine calls (M := no) (args := [.agg (eSign a0).toArray]) func116 rfl ?_
  replace h : H (X.s_noForm fu a0) (fun o => o = r) := H.mk h
  unfold X.s_noForm at h
  refine c_seq ?_
  refine r_start ?_
  refine xx rfl (x_box (eSign a0) fun g0_0 => ?_)
  refine xx rfl (x_new (eSign zSign) fun g0_1 => ?_)
  refine rend ?_
  refine c_seq ?_
  refine r_start ?_
  refine p 1 ?_
  refine xq rfl (y_load (.agg (eHand a0.Main).toArray) 0 g0_0 0) ?_
  obtain ⟨v1_2, hv1_2, h⟩ := H.call h
  refine xq rfl (y_call [.agg (eHand a0.Main).toArray] (.agg (eHand v1_2).toArray) func206 (fun W S => C.s_noHand W hv1_2)) ?_
  refine p 1 ?_
  refine xx rfl (x_new (eSign zSign) fun g1_4 => ?_)
  refine xx rfl (x_sto 2 g1_4 0 (eSign ({ zSign with Main := v1_2 })) ?_)
  refine rend ?_
  refine c_seq ?_
  refine c_seq ?_
  refine r_start ?_
  refine p 1 ?_
  refine xq rfl (y_load (.bool a0.Two) 0 g0_0 13) ?_
  refine p 1 ?_
  refine rend ?_
  refine c_or (!a0.Two) (fun q1 => ?_) (fun q1 => ?_)
  · replace h := H.t q1 h
    refine c_seq ?_
    refine r_start ?_
    refine xq rfl (y_load (.agg (eSign ({ zSign with Main := v1_2 })).toArray) 2 g1_4 0) ?_
    refine xx rfl (x_sto 1 g0_1 0 (eSign ({ zSign with Main := v1_2 })) ?_)
    refine rend ?_
    replace h := H.done h
    subst h
    exact ret func116 rfl (vs := [.agg (eSign ({ zSign with Main := v1_2 })).toArray]) (.cell 1 g0_1 rfl (by kernel_rfl) (by kernel_rfl) .nil) rfl (fun W S => ⟨rfl, S.below⟩)
  replace h := H.f q1 h
  refine c_skip ?_
  refine c_seq ?_
  refine r_start ?_
  refine p 1 ?_
  refine xx rfl (x_sto 2 g1_4 13 (eSign (⟨v1_2, true, zSign.Other⟩ : Sign)) ?_)
  refine rend ?_
  refine c_seq ?_
  refine r_start ?_
  refine p 1 ?_
  refine xq rfl (y_load (.agg (eHand a0.Other).toArray) 0 g0_0 14) ?_
  obtain ⟨v5_2, hv5_2, h⟩ := H.call h
  refine xq rfl (y_call [.agg (eHand a0.Other).toArray] (.agg (eHand v5_2).toArray) func206 (fun W S => C.s_noHand W hv5_2)) ?_
  refine p 1 ?_
  refine xx rfl (x_sto 2 g1_4 14 (eSign (⟨v1_2, true, v5_2⟩ : Sign)) ?_)
  refine rend ?_
  refine c_seq ?_
  refine c_seq ?_
  refine as_start 12 12 ?_
  refine aq 0 rfl (y_load (.agg (eSign (⟨v1_2, true, v5_2⟩ : Sign)).toArray) 2 g1_4 0) ?_
  obtain ⟨v6_1, hv6_1, h⟩ := H.call h
  refine aq 1 rfl (y_call [.agg (eSign (⟨v1_2, true, v5_2⟩ : Sign)).toArray] (.int .i64 v6_1) func155 (fun W S => C.s_siKind W hv6_1)) ?_
  refine ap 2 2 ?_
  refine br (v6_1 == 1) (fun q2 => ?_) (fun q2 => ?_)
  · replace h := H.t q2 h
    refine a_set 21 (congrArg Value.bool q2) ?_
    refine ap 4 1 ?_
    refine aq 5 rfl (y_load (.agg (eHand v5_2).toArray) 2 g1_4 14) ?_
    obtain ⟨v6_6, hv6_6, h⟩ := H.call h
    refine aq 6 rfl (y_call [.agg (eHand v5_2).toArray] (.string (bs v6_6)) func102 (fun W S => C.s_siText W hv6_6)) ?_
    refine ap 7 1 ?_
    refine aq 8 rfl (y_load (.agg (eHand v1_2).toArray) 2 g1_4 0) ?_
    obtain ⟨v6_9, hv6_9, h⟩ := H.call h
    refine aq 9 rfl (y_call [.agg (eHand v1_2).toArray] (.string (bs v6_9)) func102 (fun W S => C.s_siText W hv6_9)) ?_
    refine ap 10 2 ?_
    refine a_done ?_
    refine c_or (slt v6_6 v6_9) (fun q3 => ?_) (fun q3 => ?_)
    · replace h := H.t q3 h
      refine c_seq ?_
      refine r_start ?_
      refine p 1 ?_
      refine xq rfl (y_load (.agg (eHand v1_2).toArray) 2 g1_4 0) ?_
      refine xx rfl (x_new (eHand zHand) fun g7_2 => ?_)
      refine xx rfl (x_sto 3 g7_2 0 (eHand v1_2) ?_)
      refine rend ?_
      refine c_seq ?_
      refine r_start ?_
      refine p 1 ?_
      refine xq rfl (y_load (.agg (eHand v5_2).toArray) 2 g1_4 14) ?_
      refine p 1 ?_
      refine xx rfl (x_sto 2 g1_4 0 (eSign (⟨v5_2, true, v5_2⟩ : Sign)) ?_)
      refine rend ?_
      refine r_start ?_
      refine xq rfl (y_load (.agg (eHand v1_2).toArray) 3 g7_2 0) ?_
      refine p 1 ?_
      refine xx rfl (x_sto 2 g1_4 14 (eSign (⟨v5_2, true, v1_2⟩ : Sign)) ?_)
      refine rend ?_
      refine c_seq ?_
      refine r_start ?_
      refine xq rfl (y_load (.agg (eSign (⟨v5_2, true, v1_2⟩ : Sign)).toArray) 2 g1_4 0) ?_
      refine xx rfl (x_sto 1 g0_1 0 (eSign (⟨v5_2, true, v1_2⟩ : Sign)) ?_)
      refine rend ?_
      replace h := H.done h
      subst h
      exact ret func116 rfl (vs := [.agg (eSign (⟨v5_2, true, v1_2⟩ : Sign)).toArray]) (.cell 1 g0_1 rfl (by kernel_rfl) (by kernel_rfl) .nil) rfl (fun W S => ⟨rfl, S.below⟩)
    replace h := H.f q3 h
    refine c_skip ?_
    refine c_seq ?_
    refine r_start ?_
    refine xq rfl (y_load (.agg (eSign (⟨v1_2, true, v5_2⟩ : Sign)).toArray) 2 g1_4 0) ?_
    refine xx rfl (x_sto 1 g0_1 0 (eSign (⟨v1_2, true, v5_2⟩ : Sign)) ?_)
    refine rend ?_
    replace h := H.done h
    subst h
    exact ret func116 rfl (vs := [.agg (eSign (⟨v1_2, true, v5_2⟩ : Sign)).toArray]) (.cell 1 g0_1 rfl (by kernel_rfl) (by kernel_rfl) .nil) rfl (fun W S => ⟨rfl, S.below⟩)
  replace h := H.f q2 h
  refine a_set 21 (congrArg Value.bool q2) ?_
  refine ap 4 8 ?_
  refine a_done ?_
  refine c_f (by kernel_rfl) ?_
  refine c_skip ?_
  refine c_seq ?_
  refine r_start ?_
  refine xq rfl (y_load (.agg (eSign (⟨v1_2, true, v5_2⟩ : Sign)).toArray) 2 g1_4 0) ?_
  refine xx rfl (x_sto 1 g0_1 0 (eSign (⟨v1_2, true, v5_2⟩ : Sign)) ?_)
  refine rend ?_
  replace h := H.done h
  subst h
  exact ret func116 rfl (vs := [.agg (eSign (⟨v1_2, true, v5_2⟩ : Sign)).toArray]) (.cell 1 g0_1 rfl (by kernel_rfl) (by kernel_rfl) .nil) rfl (fun W S => ⟨rfl, S.below⟩)
theorem C.strings_Join {a0 : List Str} {A0 : Option Addr} {k0 : Nat} {a1 r : Str} (w : World) (h : X.strings_Join a0 a1 = some r) (h0 : RdT eS w (.slice A0 (List.length a0) k0) a0) : Calls prog 179 #[.slice A0 (List.length a0) k0, .string (bs a1)] w (Ret w (.string (bs r))) := by
  unfold X.strings_Join at h
  split at h
  · rename_i hc
    obtain ⟨h1, h2⟩ := hc
    obtain rfl := Option.some.inj h
    by_cases hn : a0.length = 0
    · have ha : a0 = [] := List.eq_nil_of_length_eq_zero hn
      subst ha
      refine (Tryz.strings_Join_none A0 k0 (bs a1) w).mono ?_
      rintro e w' ⟨rfl, rfl⟩
      exact ⟨rfl, Below.refl _ _⟩
    · obtain ⟨A2, c2, e1, _, _, hcp, h4⟩ := h0
      injection e1 with e1 _ e3
      subst e1
      subst e3
      obtain ⟨b, off, rfl, hb, hcl⟩ := h4 (by omega)
      have hm : (a0.map bs).map (fun x => x.data.toList) = a0 := by
        rw [List.map_map]
        exact List.map_id _
      have := Tryz.strings_Join b off k0 (a0.map bs) (bs a1) w (fun j x hj => by
        rw [List.getElem?_map] at hj
        obtain ⟨y, hy, rfl⟩ := Option.map_eq_some_iff.1 hj
        have := hcl _ _ (eS.flat_get (j := 0) hy rfl)
        simpa [eS] using this) hb (by simpa using h2) (by simpa using hcp) (by rw [hm]; exact h1)
      rw [hm, List.length_map] at this
      exact this
  · cases h
theorem C.i_Orient_text {a0 : Orient} {r : Str} (w : World) (h : X.i_Orient_text a0 = some r) : Calls prog 181 #[.agg (eOrient a0).toArray] w (Ret w (.string (bs r))) := by
  refine calls (M := no) (args := [.agg (eOrient a0).toArray]) func181 rfl ?_
  replace h : H (X.i_Orient_text a0) (fun o => o = r) := H.mk h
  unfold X.i_Orient_text at h
  refine c_seq ?_
  refine r_start ?_
  refine xx rfl (x_box (eOrient a0) fun g0_0 => ?_)
  refine p 1 ?_
  refine rend ?_
  refine c_seq ?_
  refine as_start 14 14 ?_
  refine ap 0 1 ?_
  refine aq 1 rfl (y_load (.int .i64 a0.Palm) 0 g0_0 0) ?_
  refine ap 2 1 ?_
  refine aq 3 rfl (y_load (.int .i64 a0.Palm) 0 g0_0 0) ?_
  refine ap 4 1 ?_
  obtain ⟨y1_5, hy1_5, h⟩ := H.call h
  refine aq 5 rfl (y_cut hy1_5) ?_
  refine ap 6 1 ?_
  refine aq 7 rfl (y_load (.int .i64 a0.Fingers) 0 g0_0 1) ?_
  refine ap 8 1 ?_
  refine aq 9 rfl (y_load (.int .i64 a0.Fingers) 0 g0_0 1) ?_
  refine ap 10 1 ?_
  obtain ⟨y1_11, hy1_11, h⟩ := H.call h
  refine aq 11 rfl (y_cut hy1_11) ?_
  obtain ⟨y1_12, hy1_12, h⟩ := H.call h
  refine aq 12 rfl (y_cat hy1_12) ?_
  refine ap 13 1 ?_
  refine a_done ?_
  replace h := H.done h
  subst h
  exact ret func181 rfl (vs := [.string (bs y1_12)]) (.tmp (by kernel_rfl) .nil) rfl (fun W S => ⟨rfl, S.below⟩)
theorem C.i_Place_text {a0 : Place} {r : Str} (w : World) (h : X.i_Place_text a0 = some r) : Calls prog 182 #[.agg (ePlace a0).toArray] w (Ret w (.string (bs r))) := by
  refine calls (M := no) (args := [.agg (ePlace a0).toArray]) func182 rfl ?_
  replace h : H (X.i_Place_text a0) (fun o => o = r) := H.mk h
  unfold X.i_Place_text at h
  refine c_seq ?_
  refine r_start ?_
  refine xx rfl (x_box (ePlace a0) fun g0_0 => ?_)
  refine p 1 ?_
  refine rend ?_
  refine c_seq ?_
  refine r_start ?_
  refine p 1 ?_
  refine xx rfl (x_new (Enc.flat eS ([([] : Str), ([] : Str), ([] : Str), ([] : Str), ([] : Str), ([] : Str), ([] : Str), ([] : Str), ([] : Str), ([] : Str)] : List Str)) fun g1_1 => ?_)
  refine xx rfl (x_sto 1 g1_1 0 (Enc.flat eS ([([115, 112, 97, 99, 101] : Str), ([104, 101, 97, 100] : Str), ([101, 121, 101] : Str), ([99, 104, 101, 101, 107] : Str), ([109, 111, 117, 116, 104] : Str), ([99, 104, 105, 110] : Str), ([110, 101, 99, 107] : Str), ([99, 104, 101, 115, 116] : Str), ([119, 97, 105, 115, 116] : Str), ([104, 105, 112] : Str)] : List Str)) ?_)
  refine rend ?_
  refine c_seq ?_
  refine as_start 11 11 ?_
  refine ap 0 1 ?_
  refine aq 1 rfl (y_load (.int .i64 a0.Region) 0 g0_0 0) ?_
  obtain ⟨y2_2, hy2_2, h⟩ := H.call h
  refine aq 2 rfl (y_arp (e := eS) (el := 9) (g := g1_1) hy2_2) ?_
  refine aq 3 rfl (y_arl (e := eS) 1 (.string (bs y2_2)) hy2_2) ?_
  refine ap 4 2 ?_
  refine aq 6 rfl (y_load (.int .i64 a0.Side) 0 g0_0 1) ?_
  refine ap 7 1 ?_
  obtain ⟨y2_8, hy2_8, h⟩ := H.call h
  refine aq 8 rfl (y_arr (e := eS) (el := 9) (.string (bs y2_8)) hy2_8) ?_
  obtain ⟨y2_9, hy2_9, h⟩ := H.call h
  refine aq 9 rfl (y_cat hy2_9) ?_
  refine ap 10 1 ?_
  refine a_done ?_
  refine c_seq ?_
  refine c_seq ?_
  refine r_start ?_
  refine p 1 ?_
  refine xq rfl (y_load (.bool a0.Contact) 0 g0_0 2) ?_
  refine rend ?_
  refine c_or a0.Contact (fun q1 => ?_) (fun q1 => ?_)
  · replace h := H.t q1 h
    refine r_start ?_
    refine p 1 ?_
    obtain ⟨y4_1, hy4_1, h⟩ := H.call h
    refine xq rfl (y_cat hy4_1) ?_
    refine p 1 ?_
    refine rend ?_
    refine c_seq ?_
    refine r_start ?_
    refine p 2 ?_
    refine rend ?_
    replace h := H.done h
    subst h
    exact ret func182 rfl (vs := [.string (bs y4_1)]) (.tmp (by kernel_rfl) .nil) rfl (fun W S => ⟨rfl, S.below⟩)
  replace h := H.f q1 h
  refine c_skip ?_
  refine c_seq ?_
  refine r_start ?_
  refine p 2 ?_
  refine rend ?_
  replace h := H.done h
  subst h
  exact ret func182 rfl (vs := [.string (bs y2_9)]) (.tmp (by kernel_rfl) .nil) rfl (fun W S => ⟨rfl, S.below⟩)
theorem C.i_Move_text {a0 : Move} {r : Str} (w : World) (h : X.i_Move_text a0 = some r) : Calls prog 183 #[.agg (eMove a0).toArray] w (Ret w (.string (bs r))) := by
  refine calls (M := no) (args := [.agg (eMove a0).toArray]) func183 rfl ?_
  replace h : H (X.i_Move_text a0) (fun o => o = r) := H.mk h
  unfold X.i_Move_text at h
  refine c_seq ?_
  refine r_start ?_
  refine xx rfl (x_box (eMove a0) fun g0_0 => ?_)
  refine p 1 ?_
  refine rend ?_
  refine c_seq ?_
  refine c_block ?_
  refine c_seq ?_
  refine r_start ?_
  refine p 1 ?_
  refine xq rfl (y_load (.string (bs a0.Steps)) 0 g0_0 0) ?_
  refine p 2 ?_
  refine rend ?_
  refine c_or (seq a0.Steps ([] : Str)) (fun q1 => ?_) (fun q1 => ?_)
  · replace h := H.t q1 h
    refine c_seq ?_
    refine r_start ?_
    refine p 1 ?_
    refine rend ?_
    replace h := H.done h
    subst h
    exact ret func183 rfl (vs := [.string (bs ([45] : Str))]) (.tmp (by kernel_rfl) .nil) rfl (fun W S => ⟨rfl, S.below⟩)
  replace h := H.f q1 h
  refine c_seq ?_
  refine r_start ?_
  refine p 1 ?_
  refine xq rfl (y_load (.int .i64 a0.Repeat) 0 g0_0 1) ?_
  refine p 2 ?_
  refine rend ?_
  refine c_or (a0.Repeat == 1) (fun q2 => ?_) (fun q2 => ?_)
  · replace h := H.t q2 h
    refine c_seq ?_
    refine r_start ?_
    refine p 1 ?_
    refine xq rfl (y_load (.string (bs a0.Steps)) 0 g0_0 0) ?_
    refine p 1 ?_
    refine rend ?_
    replace h := H.done h
    subst h
    exact ret func183 rfl (vs := [.string (bs a0.Steps)]) (.tmp (by kernel_rfl) .nil) rfl (fun W S => ⟨rfl, S.below⟩)
  replace h := H.f q2 h
  refine c_skip ?_
  refine c_inb ?_
  refine c_seq ?_
  refine as_start 8 8 ?_
  refine ap 0 1 ?_
  refine aq 1 rfl (y_load (.string (bs a0.Steps)) 0 g0_0 0) ?_
  obtain ⟨y5_2, hy5_2, h⟩ := H.call h
  refine aq 2 rfl (y_cat hy5_2) ?_
  refine ap 3 1 ?_
  refine aq 4 rfl (y_load (.int .i64 a0.Repeat) 0 g0_0 1) ?_
  obtain ⟨v5_5, hv5_5, h⟩ := H.call h
  refine aq 5 rfl (y_call [.int .i64 a0.Repeat] (.string (bs v5_5)) func254 (fun W S => C.strconv_Itoa W hv5_5)) ?_
  obtain ⟨y5_6, hy5_6, h⟩ := H.call h
  refine aq 6 rfl (y_cat hy5_6) ?_
  refine ap 7 1 ?_
  refine a_done ?_
  replace h := H.done h
  subst h
  exact ret func183 rfl (vs := [.string (bs y5_6)]) (.tmp (by kernel_rfl) .nil) rfl (fun W S => ⟨rfl, S.below⟩)
theorem C.i_Hand_text {a0 : Hand} {r : Str} (w : World) (h : X.i_Hand_text a0 = some r) : Calls prog 99 #[.agg (eHand a0).toArray] w (Ret w (.string (bs r))) := by
  refine calls (M := no) (args := [.agg (eHand a0).toArray]) func99 rfl ?_
  replace h : H (X.i_Hand_text a0) (fun o => o = r) := H.mk h
  unfold X.i_Hand_text at h
  refine c_seq ?_
  refine r_start ?_
  refine xx rfl (x_box (eHand a0) fun g0_0 => ?_)
  refine p 1 ?_
  refine rend ?_
  refine c_seq ?_
  refine as_start 15 15 ?_
  refine ap 0 1 ?_
  refine aq 1 rfl (y_load (.agg (eShape a0.Shape).toArray) 0 g0_0 0) ?_
  obtain ⟨v1_2, hv1_2, h⟩ := H.call h
  refine aq 2 rfl (y_call [.agg (eShape a0.Shape).toArray] (.string (bs v1_2)) func180 (fun W S => C.i_Shape_text W hv1_2)) ?_
  refine ap 3 1 ?_
  refine aq 4 rfl (y_load (.agg (eOrient a0.Orient).toArray) 0 g0_0 6) ?_
  obtain ⟨v1_5, hv1_5, h⟩ := H.call h
  refine aq 5 rfl (y_call [.agg (eOrient a0.Orient).toArray] (.string (bs v1_5)) func181 (fun W S => C.i_Orient_text W hv1_5)) ?_
  refine ap 6 1 ?_
  refine aq 7 rfl (y_load (.agg (ePlace a0.Place).toArray) 0 g0_0 8) ?_
  obtain ⟨v1_8, hv1_8, h⟩ := H.call h
  refine aq 8 rfl (y_call [.agg (ePlace a0.Place).toArray] (.string (bs v1_8)) func182 (fun W S => C.i_Place_text W hv1_8)) ?_
  refine ap 9 1 ?_
  refine aq 10 rfl (y_load (.agg (eMove a0.Move).toArray) 0 g0_0 11) ?_
  obtain ⟨v1_11, hv1_11, h⟩ := H.call h
  refine aq 11 rfl (y_call [.agg (eMove a0.Move).toArray] (.string (bs v1_11)) func183 (fun W S => C.i_Move_text W hv1_11)) ?_
  refine ax 12 rfl (e_lit (e := eS) (el := 9) [.string (bs v1_2), .string (bs v1_5), .string (bs v1_8), .string (bs v1_11)] ([v1_2, v1_5, v1_8, v1_11] : List Str) fun A1_12 k1_12 => ⟨.inr (by kernel_rfl), ?_⟩)
  obtain ⟨v1_13, hv1_13, h⟩ := H.call h
  refine ax 13 rfl (e_y (y_call [.slice A1_12 (List.length ([v1_2, v1_5, v1_8, v1_11] : List Str)) k1_12, .string (bs ([47] : Str))] (.string (bs v1_13)) func179 (fun W S => C.strings_Join W hv1_13 ((s_own 1).out W S))) ⟨.inr (by kernel_rfl), ?_⟩)
  refine ap 14 1 ?_
  refine a_done ?_
  replace h := H.done h
  subst h
  exact ret func99 rfl (vs := [.string (bs v1_13)]) (.tmp (by kernel_rfl) .nil) rfl (fun W S => ⟨rfl, S.below⟩)
theorem C.i_moveOf {fu : Nat} {a0 : Str} {r : (Move × Bool)} (w : World) (h : X.i_moveOf fu a0 = some r) : Calls prog 313 #[.string (bs a0)] w (Ret w (.tuple #[.agg (eMove r.1).toArray, .bool r.2])) := by
  refine calls (M := no) (args := [.string (bs a0)]) func313 rfl ?_
  replace h : H (X.i_moveOf fu a0) (fun o => o = r) := H.mk h
  unfold X.i_moveOf at h
  refine c_seq ?_
  refine r_start ?_
  refine xx rfl (x_new (eMove zMove) fun g0_0 => ?_)
  refine p 1 ?_
  refine rend ?_
  refine c_seq ?_
  refine c_seq ?_
  refine r_start ?_
  refine p 2 ?_
  refine rend ?_
  refine c_or (seq a0 ([] : Str)) (fun q1 => ?_) (fun q1 => ?_)
  · replace h := H.t q1 h
    refine c_seq ?_
    refine r_start ?_
    refine p 1 ?_
    refine xx rfl (x_sto 0 g0_0 0 (eMove ({ zMove with Repeat := 1 })) ?_)
    refine p 1 ?_
    refine rend ?_
    replace h := H.done h
    subst h
    exact ret func313 rfl (vs := [.agg (eMove ({ zMove with Repeat := 1 })).toArray, .bool true]) (.cell 0 g0_0 rfl (by kernel_rfl) (by kernel_rfl) (.tmp (by kernel_rfl) .nil)) rfl (fun W S => ⟨rfl, S.below⟩)
  replace h := H.f q1 h
  refine c_skip ?_
  refine c_seq ?_
  refine c_seq ?_
  refine r_start ?_
  refine p 1 ?_
  refine rend ?_
  refine c_block ?_
  refine joinE (X := Unit) 0 (H.or h) (fun (x : Unit) => x) (fun _ => [box g0_0 58 (eMove zMove)]) (fun _ u => (jk u 0 2 (.pointer (some ⟨g0_0, 0, none⟩) :: (jk u 3 30 [])))) (fun h hj3 => ?_) ?_
  · skip
    refine loopR (X := Int) (fun (x : Int) => x) (fun n2 => [box g0_0 58 (eMove zMove)]) (fun n2 u => (.string (bs a0) :: (jk u 1 1 (.pointer (some ⟨g0_0, 0, none⟩) :: (jk u 3 1 (.int .i64 n2 :: (jk u 5 28 []))))))) 3 h (by kernel_rfl) (by kernel_rfl) ?_
    intro n2 u h
    refine c_seq ?_
    refine c_seq ?_
    refine r_start ?_
    refine p 2 ?_
    refine rend ?_
    refine c_or (decide (n2 ≥ 1)) (fun q4 => ?_) (fun q4 => ?_)
    · replace h := H.t q4 h
      refine c_skip ?_
      refine c_seq ?_
      refine c_block ?_
      refine c_seq ?_
      refine r_start ?_
      refine p 4 ?_
      obtain ⟨y6_4, hy6_4, h⟩ := H.call h
      refine xq rfl (y_div hy6_4) ?_
      obtain ⟨y6_5, hy6_5, h⟩ := H.call h
      refine xq rfl (y_cut hy6_5) ?_
      refine p 1 ?_
      refine rend ?_
      refine c_seq ?_
      refine r_start ?_
      refine p 4 ?_
      refine br (decide ((List.length y6_5 : Int) ≤ 6)) (fun q5 => ?_) (fun q5 => ?_)
      · replace h := H.t q5 h
        refine o_set 22 (congrArg Value.bool q5) ?_
        refine p 2 ?_
        obtain ⟨v7_6, hv7_6, h⟩ := H.call h
        refine xq rfl (y_call [.string (bs y6_5), .int .i64 n2] (.string (bs v7_6)) func266 (fun W S => C.strings_Repeat W hv7_6)) ?_
        refine p 3 ?_
        refine rend ?_
        refine c_or (seq v7_6 a0) (fun q6 => ?_) (fun q6 => ?_)
        · replace h := H.t q6 h
          refine c_seq ?_
          refine r_start ?_
          refine p 3 ?_
          refine xx rfl (x_sto 0 g0_0 0 (eMove (⟨y6_5, n2⟩ : Move)) ?_)
          refine p 1 ?_
          refine rend ?_
          replace h := H.inr h
          replace h := H.done h
          subst h
          exact ret func313 rfl (vs := [.agg (eMove (⟨y6_5, n2⟩ : Move)).toArray, .bool true]) (.cell 0 g0_0 rfl (by kernel_rfl) (by kernel_rfl) (.tmp (by kernel_rfl) .nil)) rfl (fun W S => ⟨rfl, S.below⟩)
        replace h := H.f q6 h
        refine c_skip ?_
        refine c_inb ?_
        refine r_start ?_
        refine p 3 ?_
        refine rend ?_
        replace h := H.inl h
        exact h (wr (n2 - 1)) _ _ rfl (by kernel_rfl) (by kernel_rfl)
      replace h := H.f q5 h
      refine o_set 22 (congrArg Value.bool q5) ?_
      refine p 6 ?_
      refine rend ?_
      refine c_f (by kernel_rfl) ?_
      refine c_skip ?_
      refine c_inb ?_
      refine r_start ?_
      refine p 3 ?_
      refine rend ?_
      replace h := H.inl h
      exact h (wr (n2 - 1)) _ _ rfl (by kernel_rfl) (by kernel_rfl)
    replace h := H.f q4 h
    refine cx ?_
    replace h := H.inr h
    exact hj3 () _ _ h (by kernel_rfl) (by kernel_rfl)
  intro x u h
  refine c_seq ?_
  refine r_start ?_
  refine p 1 ?_
  refine xx rfl (x_sto 0 g0_0 0 (eMove zMove) ?_)
  refine p 1 ?_
  refine rend ?_
  replace h := H.done h
  subst h
  exact ret func313 rfl (vs := [.agg (eMove zMove).toArray, .bool false]) (.cell 0 g0_0 rfl (by kernel_rfl) (by kernel_rfl) (.tmp (by kernel_rfl) .nil)) rfl (fun W S => ⟨rfl, S.below⟩)
theorem C.i_Move_normal {fu : Nat} {a0 : Move} {r : Move} (w : World) (h : X.i_Move_normal fu a0 = some r) : Calls prog 273 #[.agg (eMove a0).toArray] w (Ret w (.agg (eMove r).toArray)) := by
  refine calls (M := no) (args := [.agg (eMove a0).toArray]) func273 rfl ?_
  replace h : H (X.i_Move_normal fu a0) (fun o => o = r) := H.mk h
  unfold X.i_Move_normal at h
  refine c_seq ?_
  refine r_start ?_
  refine xx rfl (x_box (eMove a0) fun g0_0 => ?_)
  refine xx rfl (x_new (eMove zMove) fun g0_1 => ?_)
  refine rend ?_
  refine c_seq ?_
  refine r_start ?_
  refine xq rfl (y_load (.agg (eMove a0).toArray) 0 g0_0 0) ?_
  obtain ⟨v1_1, hv1_1, h⟩ := H.call h
  refine xq rfl (y_call [.agg (eMove a0).toArray] (.string (bs v1_1)) func199 (fun W S => C.i_Move_all W hv1_1)) ?_
  obtain ⟨v1_2, hv1_2, h⟩ := H.call h
  refine xq rfl (y_call [.string (bs v1_1)] (.tuple #[.agg (eMove v1_2.1).toArray, .bool v1_2.2]) func313 (fun W S => C.i_moveOf W hv1_2)) ?_
  refine p 3 ?_
  refine xx rfl (x_new (eMove zMove) fun g1_6 => ?_)
  refine xx rfl (x_sto 2 g1_6 0 (eMove v1_2.1) ?_)
  refine p 1 ?_
  refine rend ?_
  refine c_seq ?_
  refine r_start ?_
  refine xq rfl (y_load (.agg (eMove v1_2.1).toArray) 2 g1_6 0) ?_
  refine xx rfl (x_sto 1 g0_1 0 (eMove v1_2.1) ?_)
  refine rend ?_
  replace h := H.done h
  subst h
  exact ret func273 rfl (vs := [.agg (eMove v1_2.1).toArray]) (.cell 1 g0_1 rfl (by kernel_rfl) (by kernel_rfl) .nil) rfl (fun W S => ⟨rfl, S.below⟩)
theorem C.i_Hand_normal {fu : Nat} {a0 : Hand} {r : Hand} (w : World) (h : X.i_Hand_normal fu a0 = some r) : Calls prog 207 #[.agg (eHand a0).toArray] w (Ret w (.agg (eHand r).toArray)) := by
  refine calls (M := no) (args := [.agg (eHand a0).toArray]) func207 rfl ?_
  replace h : H (X.i_Hand_normal fu a0) (fun o => o = r) := H.mk h
  unfold X.i_Hand_normal at h
  refine c_seq ?_
  refine r_start ?_
  refine xx rfl (x_box (eHand a0) fun g0_0 => ?_)
  refine xx rfl (x_new (eHand zHand) fun g0_1 => ?_)
  refine rend ?_
  refine c_seq ?_
  refine r_start ?_
  refine p 1 ?_
  refine xq rfl (y_load (.agg (eMove a0.Move).toArray) 0 g0_0 11) ?_
  obtain ⟨v1_2, hv1_2, h⟩ := H.call h
  refine xq rfl (y_call [.agg (eMove a0.Move).toArray] (.agg (eMove v1_2).toArray) func273 (fun W S => C.i_Move_normal W hv1_2)) ?_
  refine p 1 ?_
  refine xx rfl (x_sto 0 g0_0 11 (eHand ({ a0 with Move := v1_2 })) ?_)
  refine rend ?_
  refine c_seq ?_
  refine r_start ?_
  refine xq rfl (y_load (.agg (eHand ({ a0 with Move := v1_2 })).toArray) 0 g0_0 0) ?_
  refine xx rfl (x_sto 1 g0_1 0 (eHand ({ a0 with Move := v1_2 })) ?_)
  refine rend ?_
  replace h := H.done h
  subst h
  exact ret func207 rfl (vs := [.agg (eHand ({ a0 with Move := v1_2 })).toArray]) (.cell 1 g0_1 rfl (by kernel_rfl) (by kernel_rfl) .nil) rfl (fun W S => ⟨rfl, S.below⟩)
theorem C.i_Sign_normal {fu : Nat} {a0 : Sign} {r : Sign} (w : World) (h : X.i_Sign_normal fu a0 = some r) : Calls prog 118 #[.agg (eSign a0).toArray] w (Ret w (.agg (eSign r).toArray)) := by
  refine calls (M := no) (args := [.agg (eSign a0).toArray]) func118 rfl ?_
  replace h : H (X.i_Sign_normal fu a0) (fun o => o = r) := H.mk h
  unfold X.i_Sign_normal at h
  refine c_seq ?_
  refine r_start ?_
  refine xx rfl (x_box (eSign a0) fun g0_0 => ?_)
  refine xx rfl (x_new (eSign zSign) fun g0_1 => ?_)
  refine rend ?_
  refine c_seq ?_
  refine r_start ?_
  refine p 1 ?_
  refine xq rfl (y_load (.agg (eHand a0.Main).toArray) 0 g0_0 0) ?_
  obtain ⟨v1_2, hv1_2, h⟩ := H.call h
  refine xq rfl (y_call [.agg (eHand a0.Main).toArray] (.agg (eHand v1_2).toArray) func207 (fun W S => C.i_Hand_normal W hv1_2)) ?_
  refine p 1 ?_
  refine xx rfl (x_sto 0 g0_0 0 (eSign ({ a0 with Main := v1_2 })) ?_)
  refine rend ?_
  refine c_seq ?_
  refine c_seq ?_
  refine r_start ?_
  refine p 1 ?_
  refine xq rfl (y_load (.bool a0.Two) 0 g0_0 13) ?_
  refine p 1 ?_
  refine rend ?_
  refine c_or (!a0.Two) (fun q1 => ?_) (fun q1 => ?_)
  · replace h := H.t q1 h
    refine c_seq ?_
    refine r_start ?_
    refine xq rfl (y_load (.agg (eSign ({ a0 with Main := v1_2 })).toArray) 0 g0_0 0) ?_
    refine xx rfl (x_sto 1 g0_1 0 (eSign ({ a0 with Main := v1_2 })) ?_)
    refine rend ?_
    replace h := H.done h
    subst h
    exact ret func118 rfl (vs := [.agg (eSign ({ a0 with Main := v1_2 })).toArray]) (.cell 1 g0_1 rfl (by kernel_rfl) (by kernel_rfl) .nil) rfl (fun W S => ⟨rfl, S.below⟩)
  replace h := H.f q1 h
  refine c_skip ?_
  refine c_seq ?_
  refine r_start ?_
  refine p 1 ?_
  refine xq rfl (y_load (.agg (eHand a0.Other).toArray) 0 g0_0 14) ?_
  obtain ⟨v4_2, hv4_2, h⟩ := H.call h
  refine xq rfl (y_call [.agg (eHand a0.Other).toArray] (.agg (eHand v4_2).toArray) func207 (fun W S => C.i_Hand_normal W hv4_2)) ?_
  refine p 1 ?_
  refine xx rfl (x_sto 0 g0_0 14 (eSign (⟨v1_2, a0.Two, v4_2⟩ : Sign)) ?_)
  refine rend ?_
  refine c_seq ?_
  refine c_seq ?_
  refine as_start 12 12 ?_
  refine aq 0 rfl (y_load (.agg (eSign (⟨v1_2, a0.Two, v4_2⟩ : Sign)).toArray) 0 g0_0 0) ?_
  obtain ⟨v5_1, hv5_1, h⟩ := H.call h
  refine aq 1 rfl (y_call [.agg (eSign (⟨v1_2, a0.Two, v4_2⟩ : Sign)).toArray] (.int .i64 v5_1) func208 (fun W S => C.i_Sign_kind W hv5_1)) ?_
  refine ap 2 2 ?_
  refine br (v5_1 == 1) (fun q2 => ?_) (fun q2 => ?_)
  · replace h := H.t q2 h
    refine a_set 18 (congrArg Value.bool q2) ?_
    refine ap 4 1 ?_
    refine aq 5 rfl (y_load (.agg (eHand v4_2).toArray) 0 g0_0 14) ?_
    obtain ⟨v5_6, hv5_6, h⟩ := H.call h
    refine aq 6 rfl (y_call [.agg (eHand v4_2).toArray] (.string (bs v5_6)) func99 (fun W S => C.i_Hand_text W hv5_6)) ?_
    refine ap 7 1 ?_
    refine aq 8 rfl (y_load (.agg (eHand v1_2).toArray) 0 g0_0 0) ?_
    obtain ⟨v5_9, hv5_9, h⟩ := H.call h
    refine aq 9 rfl (y_call [.agg (eHand v1_2).toArray] (.string (bs v5_9)) func99 (fun W S => C.i_Hand_text W hv5_9)) ?_
    refine ap 10 2 ?_
    refine a_done ?_
    refine c_or (slt v5_6 v5_9) (fun q3 => ?_) (fun q3 => ?_)
    · replace h := H.t q3 h
      refine r_start ?_
      refine p 1 ?_
      refine xq rfl (y_load (.agg (eHand v4_2).toArray) 0 g0_0 14) ?_
      refine p 1 ?_
      refine xq rfl (y_load (.agg (eHand v1_2).toArray) 0 g0_0 0) ?_
      refine p 1 ?_
      refine xx rfl (x_sto 0 g0_0 0 (eSign (⟨v4_2, a0.Two, v4_2⟩ : Sign)) ?_)
      refine p 1 ?_
      refine xx rfl (x_sto 0 g0_0 14 (eSign (⟨v4_2, a0.Two, v1_2⟩ : Sign)) ?_)
      refine rend ?_
      refine c_seq ?_
      refine r_start ?_
      refine xq rfl (y_load (.agg (eSign (⟨v4_2, a0.Two, v1_2⟩ : Sign)).toArray) 0 g0_0 0) ?_
      refine xx rfl (x_sto 1 g0_1 0 (eSign (⟨v4_2, a0.Two, v1_2⟩ : Sign)) ?_)
      refine rend ?_
      replace h := H.done h
      subst h
      exact ret func118 rfl (vs := [.agg (eSign (⟨v4_2, a0.Two, v1_2⟩ : Sign)).toArray]) (.cell 1 g0_1 rfl (by kernel_rfl) (by kernel_rfl) .nil) rfl (fun W S => ⟨rfl, S.below⟩)
    replace h := H.f q3 h
    refine c_skip ?_
    refine c_seq ?_
    refine r_start ?_
    refine xq rfl (y_load (.agg (eSign (⟨v1_2, a0.Two, v4_2⟩ : Sign)).toArray) 0 g0_0 0) ?_
    refine xx rfl (x_sto 1 g0_1 0 (eSign (⟨v1_2, a0.Two, v4_2⟩ : Sign)) ?_)
    refine rend ?_
    replace h := H.done h
    subst h
    exact ret func118 rfl (vs := [.agg (eSign (⟨v1_2, a0.Two, v4_2⟩ : Sign)).toArray]) (.cell 1 g0_1 rfl (by kernel_rfl) (by kernel_rfl) .nil) rfl (fun W S => ⟨rfl, S.below⟩)
  replace h := H.f q2 h
  refine a_set 18 (congrArg Value.bool q2) ?_
  refine ap 4 8 ?_
  refine a_done ?_
  refine c_f (by kernel_rfl) ?_
  refine c_skip ?_
  refine c_seq ?_
  refine r_start ?_
  refine xq rfl (y_load (.agg (eSign (⟨v1_2, a0.Two, v4_2⟩ : Sign)).toArray) 0 g0_0 0) ?_
  refine xx rfl (x_sto 1 g0_1 0 (eSign (⟨v1_2, a0.Two, v4_2⟩ : Sign)) ?_)
  refine rend ?_
  replace h := H.done h
  subst h
  exact ret func118 rfl (vs := [.agg (eSign (⟨v1_2, a0.Two, v4_2⟩ : Sign)).toArray]) (.cell 1 g0_1 rfl (by kernel_rfl) (by kernel_rfl) .nil) rfl (fun W S => ⟨rfl, S.below⟩)
theorem C.l_markText {fu : Nat} {a0 : Int} {r : Str} (w : World) (h : X.l_markText fu a0 = some r) : Calls prog 94 #[.int .i64 a0] w (Ret w (.string (bs r))) := by
  refine calls (M := no) (args := [.int .i64 a0]) func94 rfl ?_
  replace h : H (X.l_markText fu a0) (fun o => o = r) := H.mk h
  unfold X.l_markText at h
  refine c_seq ?_
  refine r_start ?_
  refine p 1 ?_
  refine rend ?_
  refine c_seq ?_
  refine c_seq ?_
  refine r_start ?_
  refine p 2 ?_
  refine rend ?_
  refine c_or (decide (a0 ≤ 0)) (fun q1 => ?_) (fun q1 => ?_)
  · replace h := H.t q1 h
    refine c_seq ?_
    refine r_start ?_
    refine p 1 ?_
    refine rend ?_
    replace h := H.done h
    subst h
    exact ret func94 rfl (vs := [.string (bs ([109, 48] : Str))]) (.tmp (by kernel_rfl) .nil) rfl (fun W S => ⟨rfl, S.below⟩)
  replace h := H.f q1 h
  refine c_skip ?_
  refine c_seq ?_
  refine r_start ?_
  refine p 1 ?_
  refine rend ?_
  refine c_seq ?_
  refine c_block ?_
  refine joinH (X := Str) 0 (H.bnd h) (fun (x : Str) => x) (fun t4 => []) (fun t4 u => (jk u 0 3 (.string (bs t4) :: (jk u 4 16 [])))) (fun h hj5 => ?_) ?_
  · skip
    refine loopR (X := (Int × Str)) (fun (x : (Int × Str)) => x) (fun ⟨n2, t3⟩ => []) (fun ⟨n2, t3⟩ u => (.int .i64 n2 :: (jk u 1 2 (.string (bs t3) :: (jk u 4 16 []))))) (a0, ([] : Str)) h (by kernel_rfl) (by kernel_rfl) ?_
    intro x u h
    obtain ⟨n2, t3⟩ := x
    refine c_seq ?_
    refine c_seq ?_
    refine r_start ?_
    refine p 2 ?_
    refine rend ?_
    refine c_or (decide (n2 > 0)) (fun q6 => ?_) (fun q6 => ?_)
    · replace h := H.t q6 h
      refine c_skip ?_
      refine c_block ?_
      refine c_seq ?_
      refine r_start ?_
      refine p 4 ?_
      refine xx rfl (e_lit (e := (eI .u8)) (el := 5) [.int .u8 (wk .u8 (wr (48 + (Int.tmod n2 10))))] ([(wk .u8 (wr (48 + (Int.tmod n2 10))))] : List Int) fun A5_4 k5_4 => ?_)
      refine xq rfl (y_conv (el := 5) (s_own 0)) ?_
      refine p 1 ?_
      obtain ⟨y5_7, hy5_7, h⟩ := H.call h
      refine xq rfl (y_cat hy5_7) ?_
      refine p 1 ?_
      refine rend ?_
      refine r_start ?_
      refine p 3 ?_
      refine rend ?_
      refine c_inb ?_
      replace h := H.inl h
      exact h ((wr (Int.tdiv n2 10)), y5_7) _ _ rfl (by kernel_rfl) (by kernel_rfl)
    replace h := H.f q6 h
    refine cx ?_
    replace h := H.inr h
    exact hj5 t3 _ _ h (by kernel_rfl) (by kernel_rfl)
  intro t4 u h
  refine c_seq ?_
  refine r_start ?_
  refine p 1 ?_
  obtain ⟨y7_1, hy7_1, h⟩ := H.call h
  refine xq rfl (y_cat hy7_1) ?_
  refine p 1 ?_
  refine rend ?_
  replace h := H.done h
  subst h
  exact ret func94 rfl (vs := [.string (bs y7_1)]) (.tmp (by kernel_rfl) .nil) rfl (fun W S => ⟨rfl, S.below⟩)
end Go.Proofs.XC
