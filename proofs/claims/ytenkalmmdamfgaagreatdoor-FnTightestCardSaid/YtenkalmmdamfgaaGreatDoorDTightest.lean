/- Contracts: each function, called where its plain function gives an answer, returns just that answer and changes nothing that was there. By AI agents; no person has read it. -/
import Derived.Test.YtenkalmmdamfgaaGreatDoorC1
set_option linter.unusedVariables false
set_option linter.unusedSimpArgs false
set_option maxRecDepth 100000
set_option maxHeartbeats 40000000
namespace Go.Proofs.XC
open Go Go.RowKit
open Tryz
theorem C.s_DrawSignsText {fu : Nat} {a0 : (List Int)} {A0 : Option Addr} {k0 : Nat} {r : (List Sign)} (w : World) (h : X.s_DrawSignsText fu a0 = some r) (h0 : RdT (eI .u8) w (.slice A0 (List.length a0) k0) a0) : Calls prog 88 #[.slice A0 (List.length a0) k0] w (RetR nSign 38 w r (fun v => v)) := by
  refine calls (M := no) (args := [.slice A0 (List.length a0) k0]) func88 rfl ?_
  replace h : H (X.s_DrawSignsText fu a0) (fun o => o = r) := H.mk h
  unfold X.s_DrawSignsText at h
  refine c_seq ?_
  refine r_start ?_
  refine p 1 ?_
  refine rend ?_
  refine c_seq ?_
  refine r_start ?_
  refine p 2 ?_
  refine xx rfl (x_box [.slice A0 (List.length a0) k0, .int .i64 0, .int .u64 0] fun g1_2 => ?_)
  refine p 1 ?_
  refine rend ?_
  refine c_seq ?_
  refine r_start ?_
  refine p 1 ?_
  obtain ⟨v2_1, hv2_1, h⟩ := H.call h
  refine xx rfl (e_cqR (cs' := [.slice A0 (List.length a0) k0, .int .i64 v2_1.2.1, .int .u64 v2_1.2.2]) 0 [.pointer (some ⟨g1_2, 0, none⟩)] (fun v => v) func77 (fun W S => C.s_l1Cur_signList W hv2_1 (S.bx 0) ((s_arg h0).out W S) (ap_arg h0 S 0)) fun A2_1 k2_1 => ?_)
  refine p 1 ?_
  refine rend ?_
  replace h := H.done h
  subst h
  exact ret func88 rfl (vs := [.slice A2_1 (List.length v2_1.1) k2_1]) (.tmp (by kernel_rfl) .nil) rfl (fun W S => ⟨_, _, rfl, S.row 1, S.below⟩)
theorem C.s_DrawTightestSteps {fu : Nat} {a0 : (List Int)} {A0 : Option Addr} {k0 : Nat} {r : (List Sign)} (w : World) (h : X.s_DrawTightestSteps fu a0 = some r) (h0 : RdT (eI .u8) w (.slice A0 (List.length a0) k0) a0) : Calls prog 22 #[.slice A0 (List.length a0) k0] w (RetR nSign 38 w r (fun v => v)) := by
  refine calls (M := no) (args := [.slice A0 (List.length a0) k0]) func22 rfl ?_
  replace h : H (X.s_DrawTightestSteps fu a0) (fun o => o = r) := H.mk h
  unfold X.s_DrawTightestSteps at h
  refine c_seq ?_
  refine r_start ?_
  refine p 1 ?_
  refine rend ?_
  refine c_seq ?_
  refine r_start ?_
  refine p 1 ?_
  obtain ⟨v1_1, hv1_1, h⟩ := H.call h
  refine xx rfl (e_cr [.slice A0 (List.length a0) k0] (fun v => v) func88 (fun W S => C.s_DrawSignsText W hv1_1 ((s_arg h0).out W S)) fun A1_1 k1_1 => ?_)
  refine p 1 ?_
  refine rend ?_
  replace h := H.done h
  subst h
  exact ret func22 rfl (vs := [.slice A1_1 (List.length v1_1) k1_1]) (.tmp (by kernel_rfl) .nil) rfl (fun W S => ⟨_, _, rfl, S.row 0, S.below⟩)
theorem C.i_Sign_steps {a0 : Sign} {r : Int} (w : World) (h : X.i_Sign_steps a0 = some r) : Calls prog 89 #[.agg (eSign a0).toArray] w (Ret w (.int .i64 r)) := by
  refine calls (M := no) (args := [.agg (eSign a0).toArray]) func89 rfl ?_
  replace h : H (X.i_Sign_steps a0) (fun o => o = r) := H.mk h
  unfold X.i_Sign_steps at h
  refine c_seq ?_
  refine r_start ?_
  refine xx rfl (x_box (eSign a0) fun g0_0 => ?_)
  refine p 1 ?_
  refine rend ?_
  refine c_seq ?_
  refine as_start 12 12 ?_
  refine ap 0 2 ?_
  refine aq 2 rfl (y_load (.agg (eMove a0.Main.Move).toArray) 0 g0_0 11) ?_
  obtain ⟨v1_3, hv1_3, h⟩ := H.call h
  refine aq 3 rfl (y_call [.agg (eMove a0.Main.Move).toArray] (.string (bs v1_3)) func161 (fun W S => C.i_Move_all W hv1_3)) ?_
  refine ap 4 3 ?_
  refine aq 7 rfl (y_load (.agg (eMove a0.Other.Move).toArray) 0 g0_0 25) ?_
  obtain ⟨v1_8, hv1_8, h⟩ := H.call h
  refine aq 8 rfl (y_call [.agg (eMove a0.Other.Move).toArray] (.string (bs v1_8)) func161 (fun W S => C.i_Move_all W hv1_8)) ?_
  refine ap 9 3 ?_
  refine a_done ?_
  replace h := H.done h
  subst h
  exact ret func89 rfl (vs := [.int .i64 (if (List.length v1_8 : Int) > (List.length v1_3 : Int) then (List.length v1_8 : Int) else (List.length v1_3 : Int))]) (.tmp (by kernel_rfl) .nil) rfl (fun W S => ⟨rfl, S.below⟩)
theorem C.i_TightestSteps {fu : Nat} {a0 : (List Sign)} {A0 : Option Addr} {k0 : Nat} {r : (Int × Bool)} (w : World) (h : X.i_TightestSteps fu a0 = some r) (h0 : RdT nSign w (.slice A0 (List.length a0) k0) a0) : Calls prog 23 #[.slice A0 (List.length a0) k0] w (Ret w (.tuple #[.int .i64 r.1, .bool r.2])) := by
  refine calls (M := no) (args := [.slice A0 (List.length a0) k0]) func23 rfl ?_
  replace h : H (X.i_TightestSteps fu a0) (fun o => o = r) := H.mk h
  unfold X.i_TightestSteps at h
  refine c_seq ?_
  refine r_start ?_
  refine p 2 ?_
  refine rend ?_
  refine c_seq ?_
  refine c_seq ?_
  refine r_start ?_
  refine p 1 ?_
  obtain ⟨v1_1, hv1_1, h⟩ := H.call h
  refine xq rfl (y_call [.slice A0 (List.length a0) k0, .int .i64 20] (.bool v1_1) func80 (fun W S => C.i_areSigns W hv1_1 ((s_arg h0).out W S))) ?_
  refine p 1 ?_
  refine rend ?_
  refine c_or (!v1_1) (fun q1 => ?_) (fun q1 => ?_)
  · replace h := H.t q1 h
    refine c_seq ?_
    refine r_start ?_
    refine p 2 ?_
    refine rend ?_
    replace h := H.done h
    subst h
    exact ret func23 rfl (vs := [.int .i64 0, .bool false]) (.tmp (by kernel_rfl) (.tmp (by kernel_rfl) .nil)) rfl (fun W S => ⟨rfl, S.below⟩)
  replace h := H.f q1 h
  refine c_skip ?_
  refine c_seq ?_
  refine r_start ?_
  refine p 1 ?_
  refine rend ?_
  refine c_seq ?_
  refine c_seq ?_
  refine r_start ?_
  refine p 3 ?_
  refine rend ?_
  refine c_block ?_
  refine joinH (X := Int) 0 (H.bnd h) (fun (x : Int) => x) (fun n3 => []) (fun n3 u => (jk u 0 4 (.int .i64 n3 :: (jk u 5 17 [])))) (fun h hj4 => ?_) ?_
  · skip
    refine rangeR (X := Int) (s_arg h0) (fun (x : Int) => x) (fun n2 => []) (fun (j5 : Nat) n2 u => (jk u 0 4 (.int .i64 n2 :: (jk u 5 5 (.slice A0 (List.length a0) k0 :: .int .i64 (List.length a0 : Int) :: .int .i64 (j5 : Int) :: (jk u 13 9 [])))))) 0 h (by kernel_rfl) (by kernel_rfl) ?_ ?_
    · intro j5 n2 u x6 q7 hg8 hw9 h
      refine c_seq ?_
      refine r_start ?_
      refine p 1 ?_
      refine rend ?_
      refine c_seq ?_
      refine c_yes q7 ?_
      refine c_skip ?_
      refine c_seq ?_
      refine c_block ?_
      refine c_seq ?_
      refine r_start ?_
      refine xq rfl (y_idx (e := nSign) (el := 38) hg8 (s_arg h0)) ?_
      refine xq rfl (y_el (e := nSign) 0 (.agg (eSign x6).toArray) hg8 (s_arg h0)) ?_
      refine xx rfl (x_new (eSign zSign) fun g6_2 => ?_)
      refine xx rfl (x_sto 0 g6_2 0 (eSign x6) ?_)
      refine rend ?_
      refine r_start ?_
      refine p 1 ?_
      refine xq rfl (y_load (.agg (eSign x6).toArray) 0 g6_2 0) ?_
      obtain ⟨v7_2, hv7_2, h⟩ := H.call h
      refine xq rfl (y_call [.agg (eSign x6).toArray] (.int .i64 v7_2) func89 (fun W S => C.i_Sign_steps W hv7_2)) ?_
      refine p 2 ?_
      refine rend ?_
      refine c_inb ?_
      refine r_start ?_
      refine p 2 ?_
      refine rend ?_
      refine c_set 12 (ci hw9) ?_
      replace h := H.inl h
      exact h (if v7_2 > n2 then v7_2 else n2) _ _ rfl (by kernel_rfl) (by kernel_rfl)
    · intro n2 u q7 h
      refine c_seq ?_
      refine r_start ?_
      refine p 1 ?_
      refine rend ?_
      refine c_seq ?_
      refine c_no q7 ?_
      refine cx ?_
      replace h := H.done h
      exact hj4 n2 _ _ h (by kernel_rfl) (by kernel_rfl)
  intro n3 u h
  refine c_seq ?_
  refine r_start ?_
  refine p 3 ?_
  refine rend ?_
  replace h := H.done h
  subst h
  exact ret func23 rfl (vs := [.int .i64 n3, .bool true]) (.tmp (by kernel_rfl) (.tmp (by kernel_rfl) .nil)) rfl (fun W S => ⟨rfl, S.below⟩)
theorem C.s_l1Most {a0 : Int} {a1 : Int} {r : Int} (w : World) (h : X.s_l1Most a0 a1 = some r) : Calls prog 90 #[.int .i64 a0, .int .i64 a1] w (Ret w (.int .i64 r)) := by
  refine calls (M := no) (args := [.int .i64 a0, .int .i64 a1]) func90 rfl ?_
  replace h : H (X.s_l1Most a0 a1) (fun o => o = r) := H.mk h
  unfold X.s_l1Most at h
  refine c_seq ?_
  refine r_start ?_
  refine p 1 ?_
  refine rend ?_
  refine c_seq ?_
  refine c_seq ?_
  refine r_start ?_
  refine p 3 ?_
  refine rend ?_
  refine c_or (decide (a0 > a1)) (fun q1 => ?_) (fun q1 => ?_)
  · replace h := H.t q1 h
    refine c_seq ?_
    refine r_start ?_
    refine p 2 ?_
    refine rend ?_
    replace h := H.done h
    subst h
    exact ret func90 rfl (vs := [.int .i64 a0]) (.tmp (by kernel_rfl) .nil) rfl (fun W S => ⟨rfl, S.below⟩)
  replace h := H.f q1 h
  refine c_skip ?_
  refine c_seq ?_
  refine r_start ?_
  refine p 2 ?_
  refine rend ?_
  replace h := H.done h
  subst h
  exact ret func90 rfl (vs := [.int .i64 a1]) (.tmp (by kernel_rfl) .nil) rfl (fun W S => ⟨rfl, S.below⟩)
theorem C.s_ruSteps {fu : Nat} {a0 : Sign} {r : Int} (w : World) (h : X.s_ruSteps fu a0 = some r) : Calls prog 91 #[.agg (eSign a0).toArray] w (Ret w (.int .i64 r)) := by
  refine calls (M := no) (args := [.agg (eSign a0).toArray]) func91 rfl ?_
  replace h : H (X.s_ruSteps fu a0) (fun o => o = r) := H.mk h
  unfold X.s_ruSteps at h
  refine c_seq ?_
  refine r_start ?_
  refine xx rfl (x_box (eSign a0) fun g0_0 => ?_)
  refine p 1 ?_
  refine rend ?_
  refine c_seq ?_
  refine as_start 12 12 ?_
  refine ap 0 2 ?_
  refine aq 2 rfl (y_load (.agg (eMove a0.Main.Move).toArray) 0 g0_0 11) ?_
  obtain ⟨v1_3, hv1_3, h⟩ := H.call h
  refine aq 3 rfl (y_call [.agg (eMove a0.Main.Move).toArray] (.string (bs v1_3)) func135 (fun W S => C.s_mvAll W hv1_3)) ?_
  refine ap 4 3 ?_
  refine aq 7 rfl (y_load (.agg (eMove a0.Other.Move).toArray) 0 g0_0 25) ?_
  obtain ⟨v1_8, hv1_8, h⟩ := H.call h
  refine aq 8 rfl (y_call [.agg (eMove a0.Other.Move).toArray] (.string (bs v1_8)) func135 (fun W S => C.s_mvAll W hv1_8)) ?_
  refine ap 9 1 ?_
  obtain ⟨v1_10, hv1_10, h⟩ := H.call h
  refine aq 10 rfl (y_call [.int .i64 (List.length v1_3 : Int), .int .i64 (List.length v1_8 : Int)] (.int .i64 v1_10) func90 (fun W S => C.s_l1Most W hv1_10)) ?_
  refine ap 11 1 ?_
  refine a_done ?_
  replace h := H.done h
  subst h
  exact ret func91 rfl (vs := [.int .i64 v1_10]) (.tmp (by kernel_rfl) .nil) rfl (fun W S => ⟨rfl, S.below⟩)
theorem C.s_TightestSteps {fu : Nat} {a0 : (List Sign)} {A0 : Option Addr} {k0 : Nat} {r : (Int × Bool)} (w : World) (h : X.s_TightestSteps fu a0 = some r) (h0 : RdT nSign w (.slice A0 (List.length a0) k0) a0) : Calls prog 24 #[.slice A0 (List.length a0) k0] w (Ret w (.tuple #[.int .i64 r.1, .bool r.2])) := by
  refine calls (M := no) (args := [.slice A0 (List.length a0) k0]) func24 rfl ?_
  replace h : H (X.s_TightestSteps fu a0) (fun o => o = r) := H.mk h
  unfold X.s_TightestSteps at h
  refine c_seq ?_
  refine r_start ?_
  refine p 2 ?_
  refine rend ?_
  refine c_seq ?_
  refine c_seq ?_
  refine r_start ?_
  refine p 1 ?_
  obtain ⟨v1_1, hv1_1, h⟩ := H.call h
  refine xq rfl (y_call [.slice A0 (List.length a0) k0] (.bool v1_1) func83 (fun W S => C.s_paList W hv1_1 ((s_arg h0).out W S))) ?_
  refine p 1 ?_
  refine rend ?_
  refine c_or (!v1_1) (fun q1 => ?_) (fun q1 => ?_)
  · replace h := H.t q1 h
    refine c_seq ?_
    refine r_start ?_
    refine p 2 ?_
    refine rend ?_
    replace h := H.done h
    subst h
    exact ret func24 rfl (vs := [.int .i64 0, .bool false]) (.tmp (by kernel_rfl) (.tmp (by kernel_rfl) .nil)) rfl (fun W S => ⟨rfl, S.below⟩)
  replace h := H.f q1 h
  refine c_skip ?_
  refine c_seq ?_
  refine r_start ?_
  refine p 1 ?_
  refine rend ?_
  refine c_seq ?_
  refine c_seq ?_
  refine r_start ?_
  refine p 3 ?_
  refine rend ?_
  refine c_block ?_
  refine joinH (X := Int) 0 (H.bnd h) (fun (x : Int) => x) (fun n3 => []) (fun n3 u => (jk u 0 4 (.int .i64 n3 :: (jk u 5 17 [])))) (fun h hj4 => ?_) ?_
  · skip
    refine rangeR (X := Int) (s_arg h0) (fun (x : Int) => x) (fun n2 => []) (fun (j5 : Nat) n2 u => (jk u 0 4 (.int .i64 n2 :: (jk u 5 5 (.slice A0 (List.length a0) k0 :: .int .i64 (List.length a0 : Int) :: .int .i64 (j5 : Int) :: (jk u 13 9 [])))))) 0 h (by kernel_rfl) (by kernel_rfl) ?_ ?_
    · intro j5 n2 u x6 q7 hg8 hw9 h
      refine c_seq ?_
      refine r_start ?_
      refine p 1 ?_
      refine rend ?_
      refine c_seq ?_
      refine c_yes q7 ?_
      refine c_skip ?_
      refine c_seq ?_
      refine c_block ?_
      refine c_seq ?_
      refine r_start ?_
      refine xq rfl (y_idx (e := nSign) (el := 38) hg8 (s_arg h0)) ?_
      refine xq rfl (y_el (e := nSign) 0 (.agg (eSign x6).toArray) hg8 (s_arg h0)) ?_
      refine xx rfl (x_new (eSign zSign) fun g6_2 => ?_)
      refine xx rfl (x_sto 0 g6_2 0 (eSign x6) ?_)
      refine rend ?_
      refine r_start ?_
      refine p 1 ?_
      refine xq rfl (y_load (.agg (eSign x6).toArray) 0 g6_2 0) ?_
      obtain ⟨v7_2, hv7_2, h⟩ := H.call h
      refine xq rfl (y_call [.agg (eSign x6).toArray] (.int .i64 v7_2) func91 (fun W S => C.s_ruSteps W hv7_2)) ?_
      obtain ⟨v7_3, hv7_3, h⟩ := H.call h
      refine xq rfl (y_call [.int .i64 n2, .int .i64 v7_2] (.int .i64 v7_3) func90 (fun W S => C.s_l1Most W hv7_3)) ?_
      refine p 1 ?_
      refine rend ?_
      refine c_inb ?_
      refine r_start ?_
      refine p 2 ?_
      refine rend ?_
      refine c_set 12 (ci hw9) ?_
      replace h := H.inl h
      exact h v7_3 _ _ rfl (by kernel_rfl) (by kernel_rfl)
    · intro n2 u q7 h
      refine c_seq ?_
      refine r_start ?_
      refine p 1 ?_
      refine rend ?_
      refine c_seq ?_
      refine c_no q7 ?_
      refine cx ?_
      replace h := H.done h
      exact hj4 n2 _ _ h (by kernel_rfl) (by kernel_rfl)
  intro n3 u h
  refine c_seq ?_
  refine r_start ?_
  refine p 3 ?_
  refine rend ?_
  replace h := H.done h
  subst h
  exact ret func24 rfl (vs := [.int .i64 n3, .bool true]) (.tmp (by kernel_rfl) (.tmp (by kernel_rfl) .nil)) rfl (fun W S => ⟨rfl, S.below⟩)
theorem C.i_those_int {a0 : (List Int)} {A0 : Option Addr} {k0 : Nat} {a1 : (Int → Option Bool)} {g1 : Nat} {cp1 : List Value} {r : (List Int)} (w : World) (h : X.i_those_int a0 a1 = some r) (h0 : RdT (eI .i64) w (.slice A0 (List.length a0) k0) a0) (hg1 : isFn prog g1 = true) (hF1 : ∀ (x0 : Int) (r : Bool) (W : World), Up w W → a1 x0 = some r → Calls prog g1 (([.int .i64 x0] : List Value) ++ cp1).toArray W (Ret W (.bool r))) : Calls prog 163 #[.slice A0 (List.length a0) k0, .func (.func g1) #[] cp1.toArray] w (RetR (eI .i64) 3 w r (fun v => v)) := by
  refine calls (M := no) (args := [.slice A0 (List.length a0) k0, .func (.func g1) #[] cp1.toArray]) func163 rfl ?_
  replace h : H (X.i_those_int a0 a1) (fun o => o = r) := H.mk h
  unfold X.i_those_int at h
  refine c_seq ?_
  refine r_start ?_
  refine p 1 ?_
  refine rend ?_
  refine c_seq ?_
  refine r_start ?_
  refine p 1 ?_
  refine rend ?_
  refine c_seq ?_
  refine c_seq ?_
  refine r_start ?_
  refine p 3 ?_
  refine rend ?_
  refine c_block ?_
  refine c_nil (eI .i64) 3 ?_
  refine joinH (X := ((List Int) × Option Addr × Nat)) 0 (H.bnd h) (fun ⟨l4, A5, k6⟩ => l4) (fun ⟨l4, A5, k6⟩ => [rowT (eI .i64) w.heap.size 3 (.slice A5 (List.length l4) k6) l4]) (fun ⟨l4, A5, k6⟩ u => (jk u 0 5 (.slice A5 (List.length l4) k6 :: (jk u 6 18 [])))) (fun h hj7 => ?_) ?_
  · skip
    refine rangeR (X := ((List Int) × Option Addr × Nat)) (s_arg h0) (fun ⟨l1, A2, k3⟩ => l1) (fun ⟨l1, A2, k3⟩ => [rowT (eI .i64) w.heap.size 3 (.slice A2 (List.length l1) k3) l1]) (fun (j8 : Nat) ⟨l1, A2, k3⟩ u => (jk u 0 1 (.func (.func g1) #[] cp1.toArray :: (jk u 2 3 (.slice A2 (List.length l1) k3 :: (jk u 6 2 (.slice A0 (List.length a0) k0 :: .int .i64 (List.length a0 : Int) :: .int .i64 (j8 : Int) :: (jk u 11 13 [])))))))) (([] : List Int), none, 0) h (by kernel_rfl) (by kernel_rfl) ?_ ?_
    · intro j8 x u x9 q10 hg11 hw12 h
      obtain ⟨l1, A2, k3⟩ := x
      refine c_seq ?_
      refine r_start ?_
      refine p 1 ?_
      refine rend ?_
      refine c_seq ?_
      refine c_yes q10 ?_
      refine c_skip ?_
      refine c_seq ?_
      refine c_block ?_
      refine c_seq ?_
      refine r_start ?_
      refine p 1 ?_
      refine xq rfl (y_idx (e := (eI .i64)) (el := 3) hg11 (s_arg h0)) ?_
      refine xq rfl (y_el (e := (eI .i64)) 0 (.int .i64 x9) hg11 (s_arg h0)) ?_
      refine p 2 ?_
      refine rend ?_
      refine c_seq ?_
      refine r_start ?_
      refine p 2 ?_
      obtain ⟨v5_2, hv5_2, h⟩ := H.call h
      refine xq rfl (y_cf cp1 [.int .i64 x9] (.bool v5_2) hg1 (fun W S => hF1 _ _ W S.below hv5_2)) ?_
      refine rend ?_
      refine c_or v5_2 (fun q13 => ?_) (fun q13 => ?_)
      · replace h := H.t q13 h
        refine r_start ?_
        refine p 2 ?_
        refine xx rfl (e_lit (e := (eI .i64)) (el := 3) [.int .i64 (j8 : Int)] ([(j8 : Int)] : List Int) fun A6_2 k6_2 => ?_)
        obtain ⟨y6_3, hy6_3, h⟩ := H.call h
        refine xx rfl (e_app 0 hy6_3 (s_own 1) fun A6_3 k6_3 => ?_)
        refine p 1 ?_
        refine rend ?_
        refine c_inb ?_
        refine r_start ?_
        refine p 2 ?_
        refine rend ?_
        refine c_set 10 (ci hw12) ?_
        replace h := H.inl h
        exact h (y6_3, A6_3, k6_3) _ _ rfl (by kernel_rfl) (by kernel_rfl)
      replace h := H.f q13 h
      refine c_skip ?_
      refine c_inb ?_
      refine r_start ?_
      refine p 2 ?_
      refine rend ?_
      refine c_set 10 (ci hw12) ?_
      replace h := H.inl h
      exact h (l1, A2, k3) _ _ rfl (by kernel_rfl) (by kernel_rfl)
    · intro x u q10 h
      obtain ⟨l1, A2, k3⟩ := x
      refine c_seq ?_
      refine r_start ?_
      refine p 1 ?_
      refine rend ?_
      refine c_seq ?_
      refine c_no q10 ?_
      refine cx ?_
      replace h := H.done h
      exact hj7 (l1, A2, k3) _ _ h (by kernel_rfl) (by kernel_rfl)
  intro x u h
  obtain ⟨l4, A5, k6⟩ := x
  refine c_seq ?_
  refine r_start ?_
  refine p 2 ?_
  refine rend ?_
  replace h := H.done h
  subst h
  exact ret func163 rfl (vs := [.slice A5 (List.length l4) k6]) (.tmp (by kernel_rfl) .nil) rfl (fun W S => ⟨_, _, rfl, S.row 0, S.below⟩)
theorem C.i_Shape_open_1 {a0 : Int} {r : Bool} (w : World) (h : X.i_Shape_open_1 a0 = some r) : Calls prog 165 #[.int .i64 a0] w (Ret w (.bool r)) := by
  refine calls (M := no) (args := [.int .i64 a0]) func165 rfl ?_
  replace h : H (X.i_Shape_open_1 a0) (fun o => o = r) := H.mk h
  unfold X.i_Shape_open_1 at h
  refine c_seq ?_
  refine r_start ?_
  refine p 1 ?_
  refine rend ?_
  refine c_seq ?_
  refine r_start ?_
  refine p 3 ?_
  refine rend ?_
  replace h := H.done h
  subst h
  exact ret func165 rfl (vs := [.bool (a0 == 0)]) (.tmp (by kernel_rfl) .nil) rfl (fun W S => ⟨rfl, S.below⟩)
theorem C.i_Shape_open {a0 : Shape} {r : Int} (w : World) (h : X.i_Shape_open a0 = some r) : Calls prog 92 #[.agg (eShape a0).toArray] w (Ret w (.int .i64 r)) := by
  refine calls (M := no) (args := [.agg (eShape a0).toArray]) func92 rfl ?_
  replace h : H (X.i_Shape_open a0) (fun o => o = r) := H.mk h
  unfold X.i_Shape_open at h
  refine c_seq ?_
  refine r_start ?_
  refine xx rfl (x_box (eShape a0) fun g0_0 => ?_)
  refine p 1 ?_
  refine rend ?_
  refine c_seq ?_
  refine r_start ?_
  refine xq rfl (y_load (.agg (eShape a0).toArray) 0 g0_0 0) ?_
  obtain ⟨v1_1, hv1_1, h⟩ := H.call h
  refine xx rfl (e_cr [.agg (eShape a0).toArray] (fun v => v) func164 (fun W S => C.i_Shape_bends W hv1_1) fun A1_1 k1_1 => ?_)
  obtain ⟨v1_2, hv1_2, h⟩ := H.call h
  refine xx rfl (e_cr [.slice A1_1 (List.length v1_1) k1_1, .func (.func 165) #[] #[]] (fun v => v) func163 (fun W S => C.i_those_int W hv1_2 ((s_own 1).out W S) (isFn_of func165) (fun x0_2 r W2 hu2 hx2 => C.i_Shape_open_1 W2 hx2)) fun A1_2 k1_2 => ?_)
  refine p 2 ?_
  refine rend ?_
  replace h := H.done h
  subst h
  exact ret func92 rfl (vs := [.int .i64 (List.length v1_2 : Int)]) (.tmp (by kernel_rfl) .nil) rfl (fun W S => ⟨rfl, S.below⟩)
theorem C.i_TightestOpen {fu : Nat} {a0 : (List Sign)} {A0 : Option Addr} {k0 : Nat} {r : (Int × Bool)} (w : World) (h : X.i_TightestOpen fu a0 = some r) (h0 : RdT nSign w (.slice A0 (List.length a0) k0) a0) : Calls prog 25 #[.slice A0 (List.length a0) k0] w (Ret w (.tuple #[.int .i64 r.1, .bool r.2])) := by
  refine calls (M := no) (args := [.slice A0 (List.length a0) k0]) func25 rfl ?_
  replace h : H (X.i_TightestOpen fu a0) (fun o => o = r) := H.mk h
  unfold X.i_TightestOpen at h
  refine c_seq ?_
  refine r_start ?_
  refine p 2 ?_
  refine rend ?_
  refine c_seq ?_
  refine c_seq ?_
  refine r_start ?_
  refine p 1 ?_
  obtain ⟨v1_1, hv1_1, h⟩ := H.call h
  refine xq rfl (y_call [.slice A0 (List.length a0) k0, .int .i64 20] (.bool v1_1) func80 (fun W S => C.i_areSigns W hv1_1 ((s_arg h0).out W S))) ?_
  refine p 1 ?_
  refine rend ?_
  refine c_or (!v1_1) (fun q1 => ?_) (fun q1 => ?_)
  · replace h := H.t q1 h
    refine c_seq ?_
    refine r_start ?_
    refine p 2 ?_
    refine rend ?_
    replace h := H.done h
    subst h
    exact ret func25 rfl (vs := [.int .i64 0, .bool false]) (.tmp (by kernel_rfl) (.tmp (by kernel_rfl) .nil)) rfl (fun W S => ⟨rfl, S.below⟩)
  replace h := H.f q1 h
  refine c_skip ?_
  refine c_seq ?_
  refine r_start ?_
  refine p 1 ?_
  refine rend ?_
  refine c_seq ?_
  refine c_seq ?_
  refine r_start ?_
  refine p 3 ?_
  refine rend ?_
  refine c_block ?_
  refine joinH (X := Int) 0 (H.bnd h) (fun (x : Int) => x) (fun n3 => []) (fun n3 u => (jk u 0 4 (.int .i64 n3 :: (jk u 5 19 [])))) (fun h hj4 => ?_) ?_
  · skip
    refine rangeR (X := Int) (s_arg h0) (fun (x : Int) => x) (fun n2 => []) (fun (j5 : Nat) n2 u => (jk u 0 4 (.int .i64 n2 :: (jk u 5 5 (.slice A0 (List.length a0) k0 :: .int .i64 (List.length a0 : Int) :: .int .i64 (j5 : Int) :: (jk u 13 11 [])))))) 4 h (by kernel_rfl) (by kernel_rfl) ?_ ?_
    · intro j5 n2 u x6 q7 hg8 hw9 h
      refine c_seq ?_
      refine r_start ?_
      refine p 1 ?_
      refine rend ?_
      refine c_seq ?_
      refine c_yes q7 ?_
      refine c_skip ?_
      refine c_seq ?_
      refine c_block ?_
      refine c_seq ?_
      refine r_start ?_
      refine xq rfl (y_idx (e := nSign) (el := 38) hg8 (s_arg h0)) ?_
      refine xq rfl (y_el (e := nSign) 0 (.agg (eSign x6).toArray) hg8 (s_arg h0)) ?_
      refine xx rfl (x_new (eSign zSign) fun g6_2 => ?_)
      refine xx rfl (x_sto 0 g6_2 0 (eSign x6) ?_)
      refine rend ?_
      refine r_start ?_
      refine p 3 ?_
      refine xq rfl (y_load (.agg (eShape x6.Main.Shape).toArray) 0 g6_2 0) ?_
      obtain ⟨v7_4, hv7_4, h⟩ := H.call h
      refine xq rfl (y_call [.agg (eShape x6.Main.Shape).toArray] (.int .i64 v7_4) func92 (fun W S => C.i_Shape_open W hv7_4)) ?_
      refine p 2 ?_
      refine rend ?_
      refine c_inb ?_
      refine r_start ?_
      refine p 2 ?_
      refine rend ?_
      refine c_set 12 (ci hw9) ?_
      replace h := H.inl h
      exact h (if v7_4 < n2 then v7_4 else n2) _ _ rfl (by kernel_rfl) (by kernel_rfl)
    · intro n2 u q7 h
      refine c_seq ?_
      refine r_start ?_
      refine p 1 ?_
      refine rend ?_
      refine c_seq ?_
      refine c_no q7 ?_
      refine cx ?_
      replace h := H.done h
      exact hj4 n2 _ _ h (by kernel_rfl) (by kernel_rfl)
  intro n3 u h
  refine c_seq ?_
  refine r_start ?_
  refine p 3 ?_
  refine rend ?_
  replace h := H.done h
  subst h
  exact ret func25 rfl (vs := [.int .i64 n3, .bool true]) (.tmp (by kernel_rfl) (.tmp (by kernel_rfl) .nil)) rfl (fun W S => ⟨rfl, S.below⟩)
theorem C.s_l1Least {a0 : Int} {a1 : Int} {r : Int} (w : World) (h : X.s_l1Least a0 a1 = some r) : Calls prog 93 #[.int .i64 a0, .int .i64 a1] w (Ret w (.int .i64 r)) := by
  refine calls (M := no) (args := [.int .i64 a0, .int .i64 a1]) func93 rfl ?_
  replace h : H (X.s_l1Least a0 a1) (fun o => o = r) := H.mk h
  unfold X.s_l1Least at h
  refine c_seq ?_
  refine r_start ?_
  refine p 1 ?_
  refine rend ?_
  refine c_seq ?_
  refine c_seq ?_
  refine r_start ?_
  refine p 3 ?_
  refine rend ?_
  refine c_or (decide (a0 < a1)) (fun q1 => ?_) (fun q1 => ?_)
  · replace h := H.t q1 h
    refine c_seq ?_
    refine r_start ?_
    refine p 2 ?_
    refine rend ?_
    replace h := H.done h
    subst h
    exact ret func93 rfl (vs := [.int .i64 a0]) (.tmp (by kernel_rfl) .nil) rfl (fun W S => ⟨rfl, S.below⟩)
  replace h := H.f q1 h
  refine c_skip ?_
  refine c_seq ?_
  refine r_start ?_
  refine p 2 ?_
  refine rend ?_
  replace h := H.done h
  subst h
  exact ret func93 rfl (vs := [.int .i64 a1]) (.tmp (by kernel_rfl) .nil) rfl (fun W S => ⟨rfl, S.below⟩)
theorem C.s_ruOpen {a0 : Sign} {r : Int} (w : World) (h : X.s_ruOpen a0 = some r) : Calls prog 94 #[.agg (eSign a0).toArray] w (Ret w (.int .i64 r)) := by
  refine calls (M := no) (args := [.agg (eSign a0).toArray]) func94 rfl ?_
  replace h : H (X.s_ruOpen a0) (fun o => o = r) := H.mk h
  unfold X.s_ruOpen at h
  refine c_seq ?_
  refine r_start ?_
  refine xx rfl (x_box (eSign a0) fun g0_0 => ?_)
  refine p 1 ?_
  refine rend ?_
  refine c_seq ?_
  refine r_start ?_
  refine p 1 ?_
  refine rend ?_
  refine c_seq ?_
  refine c_seq ?_
  refine r_start ?_
  refine p 2 ?_
  refine xq rfl (y_load (.agg (eShape a0.Main.Shape).toArray) 0 g0_0 0) ?_
  obtain ⟨v2_3, hv2_3, h⟩ := H.call h
  refine xx rfl (e_cr [.agg (eShape a0.Main.Shape).toArray] (fun v => v) func166 (fun W S => C.s_shFingers W hv2_3) fun A2_3 k2_3 => ?_)
  refine p 2 ?_
  refine rend ?_
  refine c_block ?_
  refine joinH (X := Int) 0 (H.bnd h) (fun (x : Int) => x) (fun n2 => [box g0_0 38 (eSign a0), rowT (eI .i64) w.heap.size 3 (.slice A2_3 (List.length v2_3) k2_3) v2_3]) (fun n2 u => (jk u 0 3 (.int .i64 n2 :: (jk u 4 17 [])))) (fun h hj3 => ?_) ?_
  · skip
    refine rangeR (X := Int) (s_own 1) (fun (x : Int) => x) (fun n1 => [box g0_0 38 (eSign a0), rowT (eI .i64) w.heap.size 3 (.slice A2_3 (List.length v2_3) k2_3) v2_3]) (fun (j4 : Nat) n1 u => (jk u 0 3 (.int .i64 n1 :: (jk u 4 5 (.slice A2_3 (List.length v2_3) k2_3 :: .int .i64 (List.length v2_3 : Int) :: .int .i64 (j4 : Int) :: (jk u 12 9 [])))))) 0 h (by kernel_rfl) (by kernel_rfl) ?_ ?_
    · intro j4 n1 u x5 q6 hg7 hw8 h
      refine c_seq ?_
      refine r_start ?_
      refine p 1 ?_
      refine rend ?_
      refine c_seq ?_
      refine c_yes q6 ?_
      refine c_skip ?_
      refine c_seq ?_
      refine c_block ?_
      refine c_seq ?_
      refine r_start ?_
      refine xq rfl (y_idx (e := (eI .i64)) (el := 3) hg7 (s_own 1)) ?_
      refine xq rfl (y_el (e := (eI .i64)) 0 (.int .i64 x5) hg7 (s_own 1)) ?_
      refine p 1 ?_
      refine rend ?_
      refine c_seq ?_
      refine r_start ?_
      refine p 2 ?_
      refine rend ?_
      refine c_or (x5 == 0) (fun q9 => ?_) (fun q9 => ?_)
      · replace h := H.t q9 h
        refine r_start ?_
        refine p 3 ?_
        refine rend ?_
        refine c_inb ?_
        refine r_start ?_
        refine p 2 ?_
        refine rend ?_
        refine c_set 11 (ci hw8) ?_
        replace h := H.inl h
        exact h (wr (n1 + 1)) _ _ rfl (by kernel_rfl) (by kernel_rfl)
      replace h := H.f q9 h
      refine c_skip ?_
      refine c_inb ?_
      refine r_start ?_
      refine p 2 ?_
      refine rend ?_
      refine c_set 11 (ci hw8) ?_
      replace h := H.inl h
      exact h n1 _ _ rfl (by kernel_rfl) (by kernel_rfl)
    · intro n1 u q6 h
      refine c_seq ?_
      refine r_start ?_
      refine p 1 ?_
      refine rend ?_
      refine c_seq ?_
      refine c_no q6 ?_
      refine cx ?_
      replace h := H.done h
      exact hj3 n1 _ _ h (by kernel_rfl) (by kernel_rfl)
  intro n2 u h
  refine c_seq ?_
  refine r_start ?_
  refine p 2 ?_
  refine rend ?_
  replace h := H.done h
  subst h
  exact ret func94 rfl (vs := [.int .i64 n2]) (.tmp (by kernel_rfl) .nil) rfl (fun W S => ⟨rfl, S.below⟩)
theorem C.s_TightestOpen {fu : Nat} {a0 : (List Sign)} {A0 : Option Addr} {k0 : Nat} {r : (Int × Bool)} (w : World) (h : X.s_TightestOpen fu a0 = some r) (h0 : RdT nSign w (.slice A0 (List.length a0) k0) a0) : Calls prog 26 #[.slice A0 (List.length a0) k0] w (Ret w (.tuple #[.int .i64 r.1, .bool r.2])) := by
  refine calls (M := no) (args := [.slice A0 (List.length a0) k0]) func26 rfl ?_
  replace h : H (X.s_TightestOpen fu a0) (fun o => o = r) := H.mk h
  unfold X.s_TightestOpen at h
  refine c_seq ?_
  refine r_start ?_
  refine p 2 ?_
  refine rend ?_
  refine c_seq ?_
  refine c_seq ?_
  refine r_start ?_
  refine p 1 ?_
  obtain ⟨v1_1, hv1_1, h⟩ := H.call h
  refine xq rfl (y_call [.slice A0 (List.length a0) k0] (.bool v1_1) func83 (fun W S => C.s_paList W hv1_1 ((s_arg h0).out W S))) ?_
  refine p 1 ?_
  refine rend ?_
  refine c_or (!v1_1) (fun q1 => ?_) (fun q1 => ?_)
  · replace h := H.t q1 h
    refine c_seq ?_
    refine r_start ?_
    refine p 2 ?_
    refine rend ?_
    replace h := H.done h
    subst h
    exact ret func26 rfl (vs := [.int .i64 0, .bool false]) (.tmp (by kernel_rfl) (.tmp (by kernel_rfl) .nil)) rfl (fun W S => ⟨rfl, S.below⟩)
  replace h := H.f q1 h
  refine c_skip ?_
  refine c_seq ?_
  refine r_start ?_
  refine p 1 ?_
  refine rend ?_
  refine c_seq ?_
  refine c_seq ?_
  refine r_start ?_
  refine p 3 ?_
  refine rend ?_
  refine c_block ?_
  refine joinH (X := Int) 0 (H.bnd h) (fun (x : Int) => x) (fun n3 => []) (fun n3 u => (jk u 0 4 (.int .i64 n3 :: (jk u 5 17 [])))) (fun h hj4 => ?_) ?_
  · skip
    refine rangeR (X := Int) (s_arg h0) (fun (x : Int) => x) (fun n2 => []) (fun (j5 : Nat) n2 u => (jk u 0 4 (.int .i64 n2 :: (jk u 5 5 (.slice A0 (List.length a0) k0 :: .int .i64 (List.length a0 : Int) :: .int .i64 (j5 : Int) :: (jk u 13 9 [])))))) 4 h (by kernel_rfl) (by kernel_rfl) ?_ ?_
    · intro j5 n2 u x6 q7 hg8 hw9 h
      refine c_seq ?_
      refine r_start ?_
      refine p 1 ?_
      refine rend ?_
      refine c_seq ?_
      refine c_yes q7 ?_
      refine c_skip ?_
      refine c_seq ?_
      refine c_block ?_
      refine c_seq ?_
      refine r_start ?_
      refine xq rfl (y_idx (e := nSign) (el := 38) hg8 (s_arg h0)) ?_
      refine xq rfl (y_el (e := nSign) 0 (.agg (eSign x6).toArray) hg8 (s_arg h0)) ?_
      refine xx rfl (x_new (eSign zSign) fun g6_2 => ?_)
      refine xx rfl (x_sto 0 g6_2 0 (eSign x6) ?_)
      refine rend ?_
      refine r_start ?_
      refine p 1 ?_
      refine xq rfl (y_load (.agg (eSign x6).toArray) 0 g6_2 0) ?_
      obtain ⟨v7_2, hv7_2, h⟩ := H.call h
      refine xq rfl (y_call [.agg (eSign x6).toArray] (.int .i64 v7_2) func94 (fun W S => C.s_ruOpen W hv7_2)) ?_
      obtain ⟨v7_3, hv7_3, h⟩ := H.call h
      refine xq rfl (y_call [.int .i64 n2, .int .i64 v7_2] (.int .i64 v7_3) func93 (fun W S => C.s_l1Least W hv7_3)) ?_
      refine p 1 ?_
      refine rend ?_
      refine c_inb ?_
      refine r_start ?_
      refine p 2 ?_
      refine rend ?_
      refine c_set 12 (ci hw9) ?_
      replace h := H.inl h
      exact h v7_3 _ _ rfl (by kernel_rfl) (by kernel_rfl)
    · intro n2 u q7 h
      refine c_seq ?_
      refine r_start ?_
      refine p 1 ?_
      refine rend ?_
      refine c_seq ?_
      refine c_no q7 ?_
      refine cx ?_
      replace h := H.done h
      exact hj4 n2 _ _ h (by kernel_rfl) (by kernel_rfl)
  intro n3 u h
  refine c_seq ?_
  refine r_start ?_
  refine p 3 ?_
  refine rend ?_
  replace h := H.done h
  subst h
  exact ret func26 rfl (vs := [.int .i64 n3, .bool true]) (.tmp (by kernel_rfl) (.tmp (by kernel_rfl) .nil)) rfl (fun W S => ⟨rfl, S.below⟩)
theorem C.s_ruMost {a0 : Int} {r : Int} (w : World) (h : X.s_ruMost a0 = some r) : Calls prog 172 #[.int .i64 a0] w (Ret w (.int .i64 r)) := by
  refine calls (M := no) (args := [.int .i64 a0]) func172 rfl ?_
  replace h : H (X.s_ruMost a0) (fun o => o = r) := H.mk h
  unfold X.s_ruMost at h
  refine c_seq ?_
  refine r_start ?_
  refine p 1 ?_
  refine rend ?_
  refine c_seq ?_
  refine r_start ?_
  refine xx rfl (e_lit (e := (eI .i64)) (el := 3) [.int .i64 18, .int .i64 9, .int .i64 4, .int .i64 3, .int .i64 9] ([18, 9, 4, 3, 9] : List Int) fun A1_0 k1_0 => ?_)
  refine p 1 ?_
  obtain ⟨y1_2, hy1_2, h⟩ := H.call h
  refine xq rfl (y_idx (e := (eI .i64)) (el := 3) hy1_2 (s_own 0)) ?_
  refine xq rfl (y_el (e := (eI .i64)) 0 (.int .i64 y1_2) hy1_2 (s_own 0)) ?_
  refine p 1 ?_
  refine rend ?_
  replace h := H.done h
  subst h
  exact ret func172 rfl (vs := [.int .i64 y1_2]) (.tmp (by kernel_rfl) .nil) rfl (fun W S => ⟨rfl, S.below⟩)
theorem C.s_l1Cur_constraint {a0 : List Int} {A0 : Option Addr} {k0 g0 : Nat} {t0 s0 : Int} {r : (Constraint × Int × Int)} (w : World) (h : X.s_l1Cur_constraint a0 t0 s0 = some r) (m0 : w.heap[g0]? = some (.cells ([.slice A0 (List.length a0) k0, .int .i64 t0, .int .u64 s0] : List Value).toArray 94 (0, 0))) (h0 : RdT (eI .u8) w (.slice A0 (List.length a0) k0) a0) (q0 : 0 < List.length a0 → ∀ k, (Value.slice A0 (List.length a0) k0).ownBlock = some k → ¬ k = g0) : Calls prog 111 #[.pointer (some ⟨g0, 0, none⟩)] w (RetQ g0 94 [.slice A0 (List.length a0) k0, .int .i64 r.2.1, .int .u64 r.2.2] w (.agg (eConstraint r.1).toArray)) := by
  refine callsQ (args := [.pointer (some ⟨g0, 0, none⟩)]) m0 func111 rfl ?_
  replace h : H (X.s_l1Cur_constraint a0 t0 s0) (fun o => o = r) := H.mk h
  unfold X.s_l1Cur_constraint at h
  refine c_seq ?_
  refine r_start ?_
  refine xx rfl (x_new (eConstraint zConstraint) fun g0_0 => ?_)
  refine rend ?_
  refine c_seq ?_
  refine r_start ?_
  refine p 1 ?_
  obtain ⟨v1_1, hv1_1, h⟩ := H.call h
  refine xx rfl (e_cq (cs' := [.slice A0 (List.length a0) k0, .int .i64 v1_1.2.1, .int .u64 v1_1.2.2]) (v := .int .i64 v1_1.1) 0 [.pointer (some ⟨g0, 0, none⟩), .int .i64 5] func79 (fun W S => C.s_l1Cur_pick W hv1_1 (S.bx 0) ((s_argN h0 q0).out W S) q0) ?_)
  refine p 1 ?_
  refine rend ?_
  refine c_seq ?_
  refine r_start ?_
  refine p 3 ?_
  obtain ⟨v2_3, hv2_3, h⟩ := H.call h
  refine xq rfl (y_call [.int .i64 v1_1.1] (.int .i64 v2_3) func172 (fun W S => C.s_ruMost W hv2_3)) ?_
  refine p 1 ?_
  obtain ⟨v2_5, hv2_5, h⟩ := H.call h
  refine xx rfl (e_cq (cs' := [.slice A0 (List.length a0) k0, .int .i64 v2_5.2.1, .int .u64 v2_5.2.2]) (v := .int .i64 v2_5.1) 0 [.pointer (some ⟨g0, 0, none⟩), .int .i64 (wr (v2_3 + 1))] func79 (fun W S => C.s_l1Cur_pick W hv2_5 (S.bx 0) ((s_argN h0 q0).out W S) q0) ?_)
  refine p 1 ?_
  refine xx rfl (x_new (eConstraint zConstraint) fun g2_7 => ?_)
  refine xx rfl (x_sto 2 g2_7 0 (eConstraint (⟨v1_1.1, v2_5.1⟩ : Constraint)) ?_)
  refine rend ?_
  refine c_seq ?_
  refine c_seq ?_
  refine r_start ?_
  refine p 3 ?_
  refine br (v1_1.1 == 3) (fun q1 => ?_) (fun q1 => ?_)
  · replace h := H.t q1 h
    refine o_set 16 (congrArg Value.bool q1) ?_
    refine p 1 ?_
    refine xq rfl (y_load (.int .i64 v2_5.1) 2 g2_7 1) ?_
    refine p 2 ?_
    refine rend ?_
    refine c_or (decide (v2_5.1 < 0)) (fun q2 => ?_) (fun q2 => ?_)
    · replace h := H.t q2 h
      refine r_start ?_
      refine p 1 ?_
      refine xx rfl (x_sto 2 g2_7 1 (eConstraint (⟨v1_1.1, 0⟩ : Constraint)) ?_)
      refine rend ?_
      refine c_seq ?_
      refine c_seq ?_
      refine r_start ?_
      refine p 3 ?_
      refine br (v1_1.1 == 0) (fun q3 => ?_) (fun q3 => ?_)
      · replace h := H.t q3 h
        refine o_set 24 (congrArg Value.bool q3) ?_
        refine p 1 ?_
        obtain ⟨v5_4, hv5_4, h⟩ := H.call h
        refine xx rfl (e_cq (cs' := [.slice A0 (List.length a0) k0, .int .i64 v5_4.2.1, .int .u64 v5_4.2.2]) (v := .bool v5_4.1) 0 [.pointer (some ⟨g0, 0, none⟩), .int .i64 2] func78 (fun W S => C.s_l1Cur_one W hv5_4 (S.bx 0) ((s_argN h0 q0).out W S) q0) ?_)
        refine p 1 ?_
        refine rend ?_
        refine c_or v5_4.1 (fun q4 => ?_) (fun q4 => ?_)
        · replace h := H.t q4 h
          refine r_start ?_
          refine p 1 ?_
          obtain ⟨v6_1, hv6_1, h⟩ := H.call h
          refine xx rfl (e_cq (cs' := [.slice A0 (List.length a0) k0, .int .i64 v6_1.2.1, .int .u64 v6_1.2.2]) (v := .int .i64 v6_1.1) 0 [.pointer (some ⟨g0, 0, none⟩), .int .i64 5] func79 (fun W S => C.s_l1Cur_pick W hv6_1 (S.bx 0) ((s_argN h0 q0).out W S) q0) ?_)
          refine p 1 ?_
          refine xx rfl (x_sto 2 g2_7 1 (eConstraint (⟨v1_1.1, v6_1.1⟩ : Constraint)) ?_)
          refine rend ?_
          refine c_seq ?_
          refine c_seq ?_
          refine r_start ?_
          refine p 1 ?_
          obtain ⟨v7_1, hv7_1, h⟩ := H.call h
          refine xx rfl (e_cq (cs' := [.slice A0 (List.length a0) k0, .int .i64 v7_1.2.1, .int .u64 v7_1.2.2]) (v := .int .i64 v7_1.1) 0 [.pointer (some ⟨g0, 0, none⟩), .int .i64 40] func79 (fun W S => C.s_l1Cur_pick W hv7_1 (S.bx 0) ((s_argN h0 q0).out W S) q0) ?_)
          refine rend ?_
          refine c_block ?_
          refine c_seq ?_
          refine r_start ?_
          refine p 2 ?_
          refine rend ?_
          refine c_or (v7_1.1 == 0) (fun q5 => ?_) (fun q5 => ?_)
          · replace h := H.t q5 h
            refine r_start ?_
            refine p 1 ?_
            refine xx rfl (e_lit (e := (eI .i64)) (el := 3) [.int .i64 (-1), .int .i64 5] ([(-1), 5] : List Int) fun A9_1 k9_1 => ?_)
            obtain ⟨v9_2, hv9_2, h⟩ := H.call h
            refine xx rfl (e_cq (cs' := [.slice A0 (List.length a0) k0, .int .i64 v9_2.2.1, .int .u64 v9_2.2.2]) (v := .int .i64 v9_2.1) 0 [.pointer (some ⟨g0, 0, none⟩), .slice A9_1 (List.length ([(-1), 5] : List Int)) k9_1] func143 (fun W S => C.s_l1Cur_among W hv9_2 (S.bx 0) ((s_argN h0 q0).out W S) q0 ((s_own 3).out W S) (ap_row S 3 0 (by decide))) ?_)
            refine p 1 ?_
            refine xx rfl (x_sto 2 g2_7 0 (eConstraint (⟨v9_2.1, v6_1.1⟩ : Constraint)) ?_)
            refine rend ?_
            refine c_inb ?_
            refine c_seq ?_
            refine r_start ?_
            refine xq rfl (y_load (.agg (eConstraint (⟨v9_2.1, v6_1.1⟩ : Constraint)).toArray) 2 g2_7 0) ?_
            refine xx rfl (x_sto 1 g0_0 0 (eConstraint (⟨v9_2.1, v6_1.1⟩ : Constraint)) ?_)
            refine rend ?_
            replace h := H.done h
            subst h
            exact ret func111 rfl (vs := [.agg (eConstraint (⟨v9_2.1, v6_1.1⟩ : Constraint)).toArray]) (.cell 1 g0_0 rfl (by kernel_rfl) (by kernel_rfl) .nil) rfl (fun W S => S.retQ)
          replace h := H.f q5 h
          refine c_seq ?_
          refine r_start ?_
          refine p 2 ?_
          refine rend ?_
          refine c_or (v7_1.1 == 1) (fun q6 => ?_) (fun q6 => ?_)
          · replace h := H.t q6 h
            refine r_start ?_
            refine p 2 ?_
            obtain ⟨v11_2, hv11_2, h⟩ := H.call h
            refine xq rfl (y_call [.int .i64 v1_1.1] (.int .i64 v11_2) func172 (fun W S => C.s_ruMost W hv11_2)) ?_
            refine p 1 ?_
            refine xx rfl (e_lit (e := (eI .i64)) (el := 3) [.int .i64 (-1), .int .i64 (wr (v11_2 + 1)), .int .i64 (-9223372036854775808)] ([(-1), (wr (v11_2 + 1)), (-9223372036854775808)] : List Int) fun A11_4 k11_4 => ?_)
            obtain ⟨v11_5, hv11_5, h⟩ := H.call h
            refine xx rfl (e_cq (cs' := [.slice A0 (List.length a0) k0, .int .i64 v11_5.2.1, .int .u64 v11_5.2.2]) (v := .int .i64 v11_5.1) 0 [.pointer (some ⟨g0, 0, none⟩), .slice A11_4 (List.length ([(-1), (wr (v11_2 + 1)), (-9223372036854775808)] : List Int)) k11_4] func143 (fun W S => C.s_l1Cur_among W hv11_5 (S.bx 0) ((s_argN h0 q0).out W S) q0 ((s_own 3).out W S) (ap_row S 3 0 (by decide))) ?_)
            refine p 1 ?_
            refine xx rfl (x_sto 2 g2_7 1 (eConstraint (⟨v1_1.1, v11_5.1⟩ : Constraint)) ?_)
            refine rend ?_
            refine c_inb ?_
            refine c_seq ?_
            refine r_start ?_
            refine xq rfl (y_load (.agg (eConstraint (⟨v1_1.1, v11_5.1⟩ : Constraint)).toArray) 2 g2_7 0) ?_
            refine xx rfl (x_sto 1 g0_0 0 (eConstraint (⟨v1_1.1, v11_5.1⟩ : Constraint)) ?_)
            refine rend ?_
            refine frg (fun u => (jk u 0 2 (.pointer (some ⟨g0_0, 0, none⟩) :: (jk u 3 46 [])))) (by kernel_rfl) fun u => ?_
            refine keep 4 (its' := [box g0 94 [.slice A0 (List.length a0) k0, .int .i64 v11_5.2.1, .int .u64 v11_5.2.2], box g0_0 64 (eConstraint (⟨v1_1.1, v11_5.1⟩ : Constraint)), box g2_7 64 (eConstraint (⟨v1_1.1, v11_5.1⟩ : Constraint)), rowT (eI .i64) w.heap.size 3 (.slice A11_4 (List.length ([(-1), (wr (v11_2 + 1)), (-9223372036854775808)] : List Int)) k11_4) ([(-1), (wr (v11_2 + 1)), (-9223372036854775808)] : List Int)]) (by kernel_rfl) ?_
            replace h := H.done h
            subst h
            exact ret func111 rfl (vs := [.agg (eConstraint (⟨v1_1.1, v11_5.1⟩ : Constraint)).toArray]) (.cell 1 g0_0 rfl (by kernel_rfl) (by kernel_rfl) .nil) rfl (fun W S => S.retQ)
          replace h := H.f q6 h
          refine c_skip ?_
          refine c_inb ?_
          refine c_seq ?_
          refine r_start ?_
          refine xq rfl (y_load (.agg (eConstraint (⟨v1_1.1, v6_1.1⟩ : Constraint)).toArray) 2 g2_7 0) ?_
          refine xx rfl (x_sto 1 g0_0 0 (eConstraint (⟨v1_1.1, v6_1.1⟩ : Constraint)) ?_)
          refine rend ?_
          replace h := H.done h
          subst h
          exact ret func111 rfl (vs := [.agg (eConstraint (⟨v1_1.1, v6_1.1⟩ : Constraint)).toArray]) (.cell 1 g0_0 rfl (by kernel_rfl) (by kernel_rfl) .nil) rfl (fun W S => S.retQ)
        replace h := H.f q4 h
        refine c_skip ?_
        refine c_seq ?_
        refine c_seq ?_
        refine r_start ?_
        refine p 1 ?_
        obtain ⟨v7_1, hv7_1, h⟩ := H.call h
        refine xx rfl (e_cq (cs' := [.slice A0 (List.length a0) k0, .int .i64 v7_1.2.1, .int .u64 v7_1.2.2]) (v := .int .i64 v7_1.1) 0 [.pointer (some ⟨g0, 0, none⟩), .int .i64 40] func79 (fun W S => C.s_l1Cur_pick W hv7_1 (S.bx 0) ((s_argN h0 q0).out W S) q0) ?_)
        refine rend ?_
        refine c_block ?_
        refine c_seq ?_
        refine r_start ?_
        refine p 2 ?_
        refine rend ?_
        refine c_or (v7_1.1 == 0) (fun q7 => ?_) (fun q7 => ?_)
        · replace h := H.t q7 h
          refine r_start ?_
          refine p 1 ?_
          refine xx rfl (e_lit (e := (eI .i64)) (el := 3) [.int .i64 (-1), .int .i64 5] ([(-1), 5] : List Int) fun A9_1 k9_1 => ?_)
          obtain ⟨v9_2, hv9_2, h⟩ := H.call h
          refine xx rfl (e_cq (cs' := [.slice A0 (List.length a0) k0, .int .i64 v9_2.2.1, .int .u64 v9_2.2.2]) (v := .int .i64 v9_2.1) 0 [.pointer (some ⟨g0, 0, none⟩), .slice A9_1 (List.length ([(-1), 5] : List Int)) k9_1] func143 (fun W S => C.s_l1Cur_among W hv9_2 (S.bx 0) ((s_argN h0 q0).out W S) q0 ((s_own 3).out W S) (ap_row S 3 0 (by decide))) ?_)
          refine p 1 ?_
          refine xx rfl (x_sto 2 g2_7 0 (eConstraint (⟨v9_2.1, 0⟩ : Constraint)) ?_)
          refine rend ?_
          refine c_inb ?_
          refine c_seq ?_
          refine r_start ?_
          refine xq rfl (y_load (.agg (eConstraint (⟨v9_2.1, 0⟩ : Constraint)).toArray) 2 g2_7 0) ?_
          refine xx rfl (x_sto 1 g0_0 0 (eConstraint (⟨v9_2.1, 0⟩ : Constraint)) ?_)
          refine rend ?_
          replace h := H.done h
          subst h
          exact ret func111 rfl (vs := [.agg (eConstraint (⟨v9_2.1, 0⟩ : Constraint)).toArray]) (.cell 1 g0_0 rfl (by kernel_rfl) (by kernel_rfl) .nil) rfl (fun W S => S.retQ)
        replace h := H.f q7 h
        refine c_seq ?_
        refine r_start ?_
        refine p 2 ?_
        refine rend ?_
        refine c_or (v7_1.1 == 1) (fun q8 => ?_) (fun q8 => ?_)
        · replace h := H.t q8 h
          refine r_start ?_
          refine p 2 ?_
          obtain ⟨v11_2, hv11_2, h⟩ := H.call h
          refine xq rfl (y_call [.int .i64 v1_1.1] (.int .i64 v11_2) func172 (fun W S => C.s_ruMost W hv11_2)) ?_
          refine p 1 ?_
          refine xx rfl (e_lit (e := (eI .i64)) (el := 3) [.int .i64 (-1), .int .i64 (wr (v11_2 + 1)), .int .i64 (-9223372036854775808)] ([(-1), (wr (v11_2 + 1)), (-9223372036854775808)] : List Int) fun A11_4 k11_4 => ?_)
          obtain ⟨v11_5, hv11_5, h⟩ := H.call h
          refine xx rfl (e_cq (cs' := [.slice A0 (List.length a0) k0, .int .i64 v11_5.2.1, .int .u64 v11_5.2.2]) (v := .int .i64 v11_5.1) 0 [.pointer (some ⟨g0, 0, none⟩), .slice A11_4 (List.length ([(-1), (wr (v11_2 + 1)), (-9223372036854775808)] : List Int)) k11_4] func143 (fun W S => C.s_l1Cur_among W hv11_5 (S.bx 0) ((s_argN h0 q0).out W S) q0 ((s_own 3).out W S) (ap_row S 3 0 (by decide))) ?_)
          refine p 1 ?_
          refine xx rfl (x_sto 2 g2_7 1 (eConstraint (⟨v1_1.1, v11_5.1⟩ : Constraint)) ?_)
          refine rend ?_
          refine c_inb ?_
          refine c_seq ?_
          refine r_start ?_
          refine xq rfl (y_load (.agg (eConstraint (⟨v1_1.1, v11_5.1⟩ : Constraint)).toArray) 2 g2_7 0) ?_
          refine xx rfl (x_sto 1 g0_0 0 (eConstraint (⟨v1_1.1, v11_5.1⟩ : Constraint)) ?_)
          refine rend ?_
          replace h := H.done h
          subst h
          exact ret func111 rfl (vs := [.agg (eConstraint (⟨v1_1.1, v11_5.1⟩ : Constraint)).toArray]) (.cell 1 g0_0 rfl (by kernel_rfl) (by kernel_rfl) .nil) rfl (fun W S => S.retQ)
        replace h := H.f q8 h
        refine c_skip ?_
        refine c_inb ?_
        refine c_seq ?_
        refine r_start ?_
        refine xq rfl (y_load (.agg (eConstraint (⟨v1_1.1, 0⟩ : Constraint)).toArray) 2 g2_7 0) ?_
        refine xx rfl (x_sto 1 g0_0 0 (eConstraint (⟨v1_1.1, 0⟩ : Constraint)) ?_)
        refine rend ?_
        replace h := H.done h
        subst h
        exact ret func111 rfl (vs := [.agg (eConstraint (⟨v1_1.1, 0⟩ : Constraint)).toArray]) (.cell 1 g0_0 rfl (by kernel_rfl) (by kernel_rfl) .nil) rfl (fun W S => S.retQ)
      replace h := H.f q3 h
      refine o_set 24 (congrArg Value.bool q3) ?_
      refine p 3 ?_
      refine rend ?_
      refine c_f (by kernel_rfl) ?_
      refine c_skip ?_
      refine c_seq ?_
      refine c_seq ?_
      refine r_start ?_
      refine p 1 ?_
      obtain ⟨v7_1, hv7_1, h⟩ := H.call h
      refine xx rfl (e_cq (cs' := [.slice A0 (List.length a0) k0, .int .i64 v7_1.2.1, .int .u64 v7_1.2.2]) (v := .int .i64 v7_1.1) 0 [.pointer (some ⟨g0, 0, none⟩), .int .i64 40] func79 (fun W S => C.s_l1Cur_pick W hv7_1 (S.bx 0) ((s_argN h0 q0).out W S) q0) ?_)
      refine rend ?_
      refine c_block ?_
      refine c_seq ?_
      refine r_start ?_
      refine p 2 ?_
      refine rend ?_
      refine c_or (v7_1.1 == 0) (fun q9 => ?_) (fun q9 => ?_)
      · replace h := H.t q9 h
        refine r_start ?_
        refine p 1 ?_
        refine xx rfl (e_lit (e := (eI .i64)) (el := 3) [.int .i64 (-1), .int .i64 5] ([(-1), 5] : List Int) fun A9_1 k9_1 => ?_)
        obtain ⟨v9_2, hv9_2, h⟩ := H.call h
        refine xx rfl (e_cq (cs' := [.slice A0 (List.length a0) k0, .int .i64 v9_2.2.1, .int .u64 v9_2.2.2]) (v := .int .i64 v9_2.1) 0 [.pointer (some ⟨g0, 0, none⟩), .slice A9_1 (List.length ([(-1), 5] : List Int)) k9_1] func143 (fun W S => C.s_l1Cur_among W hv9_2 (S.bx 0) ((s_argN h0 q0).out W S) q0 ((s_own 3).out W S) (ap_row S 3 0 (by decide))) ?_)
        refine p 1 ?_
        refine xx rfl (x_sto 2 g2_7 0 (eConstraint (⟨v9_2.1, 0⟩ : Constraint)) ?_)
        refine rend ?_
        refine c_inb ?_
        refine c_seq ?_
        refine r_start ?_
        refine xq rfl (y_load (.agg (eConstraint (⟨v9_2.1, 0⟩ : Constraint)).toArray) 2 g2_7 0) ?_
        refine xx rfl (x_sto 1 g0_0 0 (eConstraint (⟨v9_2.1, 0⟩ : Constraint)) ?_)
        refine rend ?_
        replace h := H.done h
        subst h
        exact ret func111 rfl (vs := [.agg (eConstraint (⟨v9_2.1, 0⟩ : Constraint)).toArray]) (.cell 1 g0_0 rfl (by kernel_rfl) (by kernel_rfl) .nil) rfl (fun W S => S.retQ)
      replace h := H.f q9 h
      refine c_seq ?_
      refine r_start ?_
      refine p 2 ?_
      refine rend ?_
      refine c_or (v7_1.1 == 1) (fun q10 => ?_) (fun q10 => ?_)
      · replace h := H.t q10 h
        refine r_start ?_
        refine p 2 ?_
        obtain ⟨v11_2, hv11_2, h⟩ := H.call h
        refine xq rfl (y_call [.int .i64 v1_1.1] (.int .i64 v11_2) func172 (fun W S => C.s_ruMost W hv11_2)) ?_
        refine p 1 ?_
        refine xx rfl (e_lit (e := (eI .i64)) (el := 3) [.int .i64 (-1), .int .i64 (wr (v11_2 + 1)), .int .i64 (-9223372036854775808)] ([(-1), (wr (v11_2 + 1)), (-9223372036854775808)] : List Int) fun A11_4 k11_4 => ?_)
        obtain ⟨v11_5, hv11_5, h⟩ := H.call h
        refine xx rfl (e_cq (cs' := [.slice A0 (List.length a0) k0, .int .i64 v11_5.2.1, .int .u64 v11_5.2.2]) (v := .int .i64 v11_5.1) 0 [.pointer (some ⟨g0, 0, none⟩), .slice A11_4 (List.length ([(-1), (wr (v11_2 + 1)), (-9223372036854775808)] : List Int)) k11_4] func143 (fun W S => C.s_l1Cur_among W hv11_5 (S.bx 0) ((s_argN h0 q0).out W S) q0 ((s_own 3).out W S) (ap_row S 3 0 (by decide))) ?_)
        refine p 1 ?_
        refine xx rfl (x_sto 2 g2_7 1 (eConstraint (⟨v1_1.1, v11_5.1⟩ : Constraint)) ?_)
        refine rend ?_
        refine c_inb ?_
        refine c_seq ?_
        refine r_start ?_
        refine xq rfl (y_load (.agg (eConstraint (⟨v1_1.1, v11_5.1⟩ : Constraint)).toArray) 2 g2_7 0) ?_
        refine xx rfl (x_sto 1 g0_0 0 (eConstraint (⟨v1_1.1, v11_5.1⟩ : Constraint)) ?_)
        refine rend ?_
        replace h := H.done h
        subst h
        exact ret func111 rfl (vs := [.agg (eConstraint (⟨v1_1.1, v11_5.1⟩ : Constraint)).toArray]) (.cell 1 g0_0 rfl (by kernel_rfl) (by kernel_rfl) .nil) rfl (fun W S => S.retQ)
      replace h := H.f q10 h
      refine c_skip ?_
      refine c_inb ?_
      refine c_seq ?_
      refine r_start ?_
      refine xq rfl (y_load (.agg (eConstraint (⟨v1_1.1, 0⟩ : Constraint)).toArray) 2 g2_7 0) ?_
      refine xx rfl (x_sto 1 g0_0 0 (eConstraint (⟨v1_1.1, 0⟩ : Constraint)) ?_)
      refine rend ?_
      replace h := H.done h
      subst h
      exact ret func111 rfl (vs := [.agg (eConstraint (⟨v1_1.1, 0⟩ : Constraint)).toArray]) (.cell 1 g0_0 rfl (by kernel_rfl) (by kernel_rfl) .nil) rfl (fun W S => S.retQ)
    replace h := H.f q2 h
    refine c_skip ?_
    refine c_seq ?_
    refine c_seq ?_
    refine r_start ?_
    refine p 3 ?_
    refine br (v1_1.1 == 0) (fun q11 => ?_) (fun q11 => ?_)
    · replace h := H.t q11 h
      refine o_set 24 (congrArg Value.bool q11) ?_
      refine p 1 ?_
      obtain ⟨v5_4, hv5_4, h⟩ := H.call h
      refine xx rfl (e_cq (cs' := [.slice A0 (List.length a0) k0, .int .i64 v5_4.2.1, .int .u64 v5_4.2.2]) (v := .bool v5_4.1) 0 [.pointer (some ⟨g0, 0, none⟩), .int .i64 2] func78 (fun W S => C.s_l1Cur_one W hv5_4 (S.bx 0) ((s_argN h0 q0).out W S) q0) ?_)
      refine p 1 ?_
      refine rend ?_
      refine c_or v5_4.1 (fun q12 => ?_) (fun q12 => ?_)
      · replace h := H.t q12 h
        refine r_start ?_
        refine p 1 ?_
        obtain ⟨v6_1, hv6_1, h⟩ := H.call h
        refine xx rfl (e_cq (cs' := [.slice A0 (List.length a0) k0, .int .i64 v6_1.2.1, .int .u64 v6_1.2.2]) (v := .int .i64 v6_1.1) 0 [.pointer (some ⟨g0, 0, none⟩), .int .i64 5] func79 (fun W S => C.s_l1Cur_pick W hv6_1 (S.bx 0) ((s_argN h0 q0).out W S) q0) ?_)
        refine p 1 ?_
        refine xx rfl (x_sto 2 g2_7 1 (eConstraint (⟨v1_1.1, v6_1.1⟩ : Constraint)) ?_)
        refine rend ?_
        refine c_seq ?_
        refine c_seq ?_
        refine r_start ?_
        refine p 1 ?_
        obtain ⟨v7_1, hv7_1, h⟩ := H.call h
        refine xx rfl (e_cq (cs' := [.slice A0 (List.length a0) k0, .int .i64 v7_1.2.1, .int .u64 v7_1.2.2]) (v := .int .i64 v7_1.1) 0 [.pointer (some ⟨g0, 0, none⟩), .int .i64 40] func79 (fun W S => C.s_l1Cur_pick W hv7_1 (S.bx 0) ((s_argN h0 q0).out W S) q0) ?_)
        refine rend ?_
        refine c_block ?_
        refine c_seq ?_
        refine r_start ?_
        refine p 2 ?_
        refine rend ?_
        refine c_or (v7_1.1 == 0) (fun q13 => ?_) (fun q13 => ?_)
        · replace h := H.t q13 h
          refine r_start ?_
          refine p 1 ?_
          refine xx rfl (e_lit (e := (eI .i64)) (el := 3) [.int .i64 (-1), .int .i64 5] ([(-1), 5] : List Int) fun A9_1 k9_1 => ?_)
          obtain ⟨v9_2, hv9_2, h⟩ := H.call h
          refine xx rfl (e_cq (cs' := [.slice A0 (List.length a0) k0, .int .i64 v9_2.2.1, .int .u64 v9_2.2.2]) (v := .int .i64 v9_2.1) 0 [.pointer (some ⟨g0, 0, none⟩), .slice A9_1 (List.length ([(-1), 5] : List Int)) k9_1] func143 (fun W S => C.s_l1Cur_among W hv9_2 (S.bx 0) ((s_argN h0 q0).out W S) q0 ((s_own 3).out W S) (ap_row S 3 0 (by decide))) ?_)
          refine p 1 ?_
          refine xx rfl (x_sto 2 g2_7 0 (eConstraint (⟨v9_2.1, v6_1.1⟩ : Constraint)) ?_)
          refine rend ?_
          refine c_inb ?_
          refine c_seq ?_
          refine r_start ?_
          refine xq rfl (y_load (.agg (eConstraint (⟨v9_2.1, v6_1.1⟩ : Constraint)).toArray) 2 g2_7 0) ?_
          refine xx rfl (x_sto 1 g0_0 0 (eConstraint (⟨v9_2.1, v6_1.1⟩ : Constraint)) ?_)
          refine rend ?_
          replace h := H.done h
          subst h
          exact ret func111 rfl (vs := [.agg (eConstraint (⟨v9_2.1, v6_1.1⟩ : Constraint)).toArray]) (.cell 1 g0_0 rfl (by kernel_rfl) (by kernel_rfl) .nil) rfl (fun W S => S.retQ)
        replace h := H.f q13 h
        refine c_seq ?_
        refine r_start ?_
        refine p 2 ?_
        refine rend ?_
        refine c_or (v7_1.1 == 1) (fun q14 => ?_) (fun q14 => ?_)
        · replace h := H.t q14 h
          refine r_start ?_
          refine p 2 ?_
          obtain ⟨v11_2, hv11_2, h⟩ := H.call h
          refine xq rfl (y_call [.int .i64 v1_1.1] (.int .i64 v11_2) func172 (fun W S => C.s_ruMost W hv11_2)) ?_
          refine p 1 ?_
          refine xx rfl (e_lit (e := (eI .i64)) (el := 3) [.int .i64 (-1), .int .i64 (wr (v11_2 + 1)), .int .i64 (-9223372036854775808)] ([(-1), (wr (v11_2 + 1)), (-9223372036854775808)] : List Int) fun A11_4 k11_4 => ?_)
          obtain ⟨v11_5, hv11_5, h⟩ := H.call h
          refine xx rfl (e_cq (cs' := [.slice A0 (List.length a0) k0, .int .i64 v11_5.2.1, .int .u64 v11_5.2.2]) (v := .int .i64 v11_5.1) 0 [.pointer (some ⟨g0, 0, none⟩), .slice A11_4 (List.length ([(-1), (wr (v11_2 + 1)), (-9223372036854775808)] : List Int)) k11_4] func143 (fun W S => C.s_l1Cur_among W hv11_5 (S.bx 0) ((s_argN h0 q0).out W S) q0 ((s_own 3).out W S) (ap_row S 3 0 (by decide))) ?_)
          refine p 1 ?_
          refine xx rfl (x_sto 2 g2_7 1 (eConstraint (⟨v1_1.1, v11_5.1⟩ : Constraint)) ?_)
          refine rend ?_
          refine c_inb ?_
          refine c_seq ?_
          refine r_start ?_
          refine xq rfl (y_load (.agg (eConstraint (⟨v1_1.1, v11_5.1⟩ : Constraint)).toArray) 2 g2_7 0) ?_
          refine xx rfl (x_sto 1 g0_0 0 (eConstraint (⟨v1_1.1, v11_5.1⟩ : Constraint)) ?_)
          refine rend ?_
          replace h := H.done h
          subst h
          exact ret func111 rfl (vs := [.agg (eConstraint (⟨v1_1.1, v11_5.1⟩ : Constraint)).toArray]) (.cell 1 g0_0 rfl (by kernel_rfl) (by kernel_rfl) .nil) rfl (fun W S => S.retQ)
        replace h := H.f q14 h
        refine c_skip ?_
        refine c_inb ?_
        refine c_seq ?_
        refine r_start ?_
        refine xq rfl (y_load (.agg (eConstraint (⟨v1_1.1, v6_1.1⟩ : Constraint)).toArray) 2 g2_7 0) ?_
        refine xx rfl (x_sto 1 g0_0 0 (eConstraint (⟨v1_1.1, v6_1.1⟩ : Constraint)) ?_)
        refine rend ?_
        replace h := H.done h
        subst h
        exact ret func111 rfl (vs := [.agg (eConstraint (⟨v1_1.1, v6_1.1⟩ : Constraint)).toArray]) (.cell 1 g0_0 rfl (by kernel_rfl) (by kernel_rfl) .nil) rfl (fun W S => S.retQ)
      replace h := H.f q12 h
      refine c_skip ?_
      refine c_seq ?_
      refine c_seq ?_
      refine r_start ?_
      refine p 1 ?_
      obtain ⟨v7_1, hv7_1, h⟩ := H.call h
      refine xx rfl (e_cq (cs' := [.slice A0 (List.length a0) k0, .int .i64 v7_1.2.1, .int .u64 v7_1.2.2]) (v := .int .i64 v7_1.1) 0 [.pointer (some ⟨g0, 0, none⟩), .int .i64 40] func79 (fun W S => C.s_l1Cur_pick W hv7_1 (S.bx 0) ((s_argN h0 q0).out W S) q0) ?_)
      refine rend ?_
      refine c_block ?_
      refine c_seq ?_
      refine r_start ?_
      refine p 2 ?_
      refine rend ?_
      refine c_or (v7_1.1 == 0) (fun q15 => ?_) (fun q15 => ?_)
      · replace h := H.t q15 h
        refine r_start ?_
        refine p 1 ?_
        refine xx rfl (e_lit (e := (eI .i64)) (el := 3) [.int .i64 (-1), .int .i64 5] ([(-1), 5] : List Int) fun A9_1 k9_1 => ?_)
        obtain ⟨v9_2, hv9_2, h⟩ := H.call h
        refine xx rfl (e_cq (cs' := [.slice A0 (List.length a0) k0, .int .i64 v9_2.2.1, .int .u64 v9_2.2.2]) (v := .int .i64 v9_2.1) 0 [.pointer (some ⟨g0, 0, none⟩), .slice A9_1 (List.length ([(-1), 5] : List Int)) k9_1] func143 (fun W S => C.s_l1Cur_among W hv9_2 (S.bx 0) ((s_argN h0 q0).out W S) q0 ((s_own 3).out W S) (ap_row S 3 0 (by decide))) ?_)
        refine p 1 ?_
        refine xx rfl (x_sto 2 g2_7 0 (eConstraint (⟨v9_2.1, v2_5.1⟩ : Constraint)) ?_)
        refine rend ?_
        refine c_inb ?_
        refine c_seq ?_
        refine r_start ?_
        refine xq rfl (y_load (.agg (eConstraint (⟨v9_2.1, v2_5.1⟩ : Constraint)).toArray) 2 g2_7 0) ?_
        refine xx rfl (x_sto 1 g0_0 0 (eConstraint (⟨v9_2.1, v2_5.1⟩ : Constraint)) ?_)
        refine rend ?_
        replace h := H.done h
        subst h
        exact ret func111 rfl (vs := [.agg (eConstraint (⟨v9_2.1, v2_5.1⟩ : Constraint)).toArray]) (.cell 1 g0_0 rfl (by kernel_rfl) (by kernel_rfl) .nil) rfl (fun W S => S.retQ)
      replace h := H.f q15 h
      refine c_seq ?_
      refine r_start ?_
      refine p 2 ?_
      refine rend ?_
      refine c_or (v7_1.1 == 1) (fun q16 => ?_) (fun q16 => ?_)
      · replace h := H.t q16 h
        refine r_start ?_
        refine p 2 ?_
        obtain ⟨v11_2, hv11_2, h⟩ := H.call h
        refine xq rfl (y_call [.int .i64 v1_1.1] (.int .i64 v11_2) func172 (fun W S => C.s_ruMost W hv11_2)) ?_
        refine p 1 ?_
        refine xx rfl (e_lit (e := (eI .i64)) (el := 3) [.int .i64 (-1), .int .i64 (wr (v11_2 + 1)), .int .i64 (-9223372036854775808)] ([(-1), (wr (v11_2 + 1)), (-9223372036854775808)] : List Int) fun A11_4 k11_4 => ?_)
        obtain ⟨v11_5, hv11_5, h⟩ := H.call h
        refine xx rfl (e_cq (cs' := [.slice A0 (List.length a0) k0, .int .i64 v11_5.2.1, .int .u64 v11_5.2.2]) (v := .int .i64 v11_5.1) 0 [.pointer (some ⟨g0, 0, none⟩), .slice A11_4 (List.length ([(-1), (wr (v11_2 + 1)), (-9223372036854775808)] : List Int)) k11_4] func143 (fun W S => C.s_l1Cur_among W hv11_5 (S.bx 0) ((s_argN h0 q0).out W S) q0 ((s_own 3).out W S) (ap_row S 3 0 (by decide))) ?_)
        refine p 1 ?_
        refine xx rfl (x_sto 2 g2_7 1 (eConstraint (⟨v1_1.1, v11_5.1⟩ : Constraint)) ?_)
        refine rend ?_
        refine c_inb ?_
        refine c_seq ?_
        refine r_start ?_
        refine xq rfl (y_load (.agg (eConstraint (⟨v1_1.1, v11_5.1⟩ : Constraint)).toArray) 2 g2_7 0) ?_
        refine xx rfl (x_sto 1 g0_0 0 (eConstraint (⟨v1_1.1, v11_5.1⟩ : Constraint)) ?_)
        refine rend ?_
        replace h := H.done h
        subst h
        exact ret func111 rfl (vs := [.agg (eConstraint (⟨v1_1.1, v11_5.1⟩ : Constraint)).toArray]) (.cell 1 g0_0 rfl (by kernel_rfl) (by kernel_rfl) .nil) rfl (fun W S => S.retQ)
      replace h := H.f q16 h
      refine c_skip ?_
      refine c_inb ?_
      refine c_seq ?_
      refine r_start ?_
      refine xq rfl (y_load (.agg (eConstraint (⟨v1_1.1, v2_5.1⟩ : Constraint)).toArray) 2 g2_7 0) ?_
      refine xx rfl (x_sto 1 g0_0 0 (eConstraint (⟨v1_1.1, v2_5.1⟩ : Constraint)) ?_)
      refine rend ?_
      replace h := H.done h
      subst h
      exact ret func111 rfl (vs := [.agg (eConstraint (⟨v1_1.1, v2_5.1⟩ : Constraint)).toArray]) (.cell 1 g0_0 rfl (by kernel_rfl) (by kernel_rfl) .nil) rfl (fun W S => S.retQ)
    replace h := H.f q11 h
    refine o_set 24 (congrArg Value.bool q11) ?_
    refine p 3 ?_
    refine rend ?_
    refine c_f (by kernel_rfl) ?_
    refine c_skip ?_
    refine c_seq ?_
    refine c_seq ?_
    refine r_start ?_
    refine p 1 ?_
    obtain ⟨v7_1, hv7_1, h⟩ := H.call h
    refine xx rfl (e_cq (cs' := [.slice A0 (List.length a0) k0, .int .i64 v7_1.2.1, .int .u64 v7_1.2.2]) (v := .int .i64 v7_1.1) 0 [.pointer (some ⟨g0, 0, none⟩), .int .i64 40] func79 (fun W S => C.s_l1Cur_pick W hv7_1 (S.bx 0) ((s_argN h0 q0).out W S) q0) ?_)
    refine rend ?_
    refine c_block ?_
    refine c_seq ?_
    refine r_start ?_
    refine p 2 ?_
    refine rend ?_
    refine c_or (v7_1.1 == 0) (fun q17 => ?_) (fun q17 => ?_)
    · replace h := H.t q17 h
      refine r_start ?_
      refine p 1 ?_
      refine xx rfl (e_lit (e := (eI .i64)) (el := 3) [.int .i64 (-1), .int .i64 5] ([(-1), 5] : List Int) fun A9_1 k9_1 => ?_)
      obtain ⟨v9_2, hv9_2, h⟩ := H.call h
      refine xx rfl (e_cq (cs' := [.slice A0 (List.length a0) k0, .int .i64 v9_2.2.1, .int .u64 v9_2.2.2]) (v := .int .i64 v9_2.1) 0 [.pointer (some ⟨g0, 0, none⟩), .slice A9_1 (List.length ([(-1), 5] : List Int)) k9_1] func143 (fun W S => C.s_l1Cur_among W hv9_2 (S.bx 0) ((s_argN h0 q0).out W S) q0 ((s_own 3).out W S) (ap_row S 3 0 (by decide))) ?_)
      refine p 1 ?_
      refine xx rfl (x_sto 2 g2_7 0 (eConstraint (⟨v9_2.1, v2_5.1⟩ : Constraint)) ?_)
      refine rend ?_
      refine c_inb ?_
      refine c_seq ?_
      refine r_start ?_
      refine xq rfl (y_load (.agg (eConstraint (⟨v9_2.1, v2_5.1⟩ : Constraint)).toArray) 2 g2_7 0) ?_
      refine xx rfl (x_sto 1 g0_0 0 (eConstraint (⟨v9_2.1, v2_5.1⟩ : Constraint)) ?_)
      refine rend ?_
      replace h := H.done h
      subst h
      exact ret func111 rfl (vs := [.agg (eConstraint (⟨v9_2.1, v2_5.1⟩ : Constraint)).toArray]) (.cell 1 g0_0 rfl (by kernel_rfl) (by kernel_rfl) .nil) rfl (fun W S => S.retQ)
    replace h := H.f q17 h
    refine c_seq ?_
    refine r_start ?_
    refine p 2 ?_
    refine rend ?_
    refine c_or (v7_1.1 == 1) (fun q18 => ?_) (fun q18 => ?_)
    · replace h := H.t q18 h
      refine r_start ?_
      refine p 2 ?_
      obtain ⟨v11_2, hv11_2, h⟩ := H.call h
      refine xq rfl (y_call [.int .i64 v1_1.1] (.int .i64 v11_2) func172 (fun W S => C.s_ruMost W hv11_2)) ?_
      refine p 1 ?_
      refine xx rfl (e_lit (e := (eI .i64)) (el := 3) [.int .i64 (-1), .int .i64 (wr (v11_2 + 1)), .int .i64 (-9223372036854775808)] ([(-1), (wr (v11_2 + 1)), (-9223372036854775808)] : List Int) fun A11_4 k11_4 => ?_)
      obtain ⟨v11_5, hv11_5, h⟩ := H.call h
      refine xx rfl (e_cq (cs' := [.slice A0 (List.length a0) k0, .int .i64 v11_5.2.1, .int .u64 v11_5.2.2]) (v := .int .i64 v11_5.1) 0 [.pointer (some ⟨g0, 0, none⟩), .slice A11_4 (List.length ([(-1), (wr (v11_2 + 1)), (-9223372036854775808)] : List Int)) k11_4] func143 (fun W S => C.s_l1Cur_among W hv11_5 (S.bx 0) ((s_argN h0 q0).out W S) q0 ((s_own 3).out W S) (ap_row S 3 0 (by decide))) ?_)
      refine p 1 ?_
      refine xx rfl (x_sto 2 g2_7 1 (eConstraint (⟨v1_1.1, v11_5.1⟩ : Constraint)) ?_)
      refine rend ?_
      refine c_inb ?_
      refine c_seq ?_
      refine r_start ?_
      refine xq rfl (y_load (.agg (eConstraint (⟨v1_1.1, v11_5.1⟩ : Constraint)).toArray) 2 g2_7 0) ?_
      refine xx rfl (x_sto 1 g0_0 0 (eConstraint (⟨v1_1.1, v11_5.1⟩ : Constraint)) ?_)
      refine rend ?_
      replace h := H.done h
      subst h
      exact ret func111 rfl (vs := [.agg (eConstraint (⟨v1_1.1, v11_5.1⟩ : Constraint)).toArray]) (.cell 1 g0_0 rfl (by kernel_rfl) (by kernel_rfl) .nil) rfl (fun W S => S.retQ)
    replace h := H.f q18 h
    refine c_skip ?_
    refine c_inb ?_
    refine c_seq ?_
    refine r_start ?_
    refine xq rfl (y_load (.agg (eConstraint (⟨v1_1.1, v2_5.1⟩ : Constraint)).toArray) 2 g2_7 0) ?_
    refine xx rfl (x_sto 1 g0_0 0 (eConstraint (⟨v1_1.1, v2_5.1⟩ : Constraint)) ?_)
    refine rend ?_
    replace h := H.done h
    subst h
    exact ret func111 rfl (vs := [.agg (eConstraint (⟨v1_1.1, v2_5.1⟩ : Constraint)).toArray]) (.cell 1 g0_0 rfl (by kernel_rfl) (by kernel_rfl) .nil) rfl (fun W S => S.retQ)
  replace h := H.f q1 h
  refine o_set 16 (congrArg Value.bool q1) ?_
  refine p 4 ?_
  refine rend ?_
  refine c_f (by kernel_rfl) ?_
  refine c_skip ?_
  refine c_seq ?_
  refine c_seq ?_
  refine r_start ?_
  refine p 3 ?_
  refine br (v1_1.1 == 0) (fun q19 => ?_) (fun q19 => ?_)
  · replace h := H.t q19 h
    refine o_set 24 (congrArg Value.bool q19) ?_
    refine p 1 ?_
    obtain ⟨v5_4, hv5_4, h⟩ := H.call h
    refine xx rfl (e_cq (cs' := [.slice A0 (List.length a0) k0, .int .i64 v5_4.2.1, .int .u64 v5_4.2.2]) (v := .bool v5_4.1) 0 [.pointer (some ⟨g0, 0, none⟩), .int .i64 2] func78 (fun W S => C.s_l1Cur_one W hv5_4 (S.bx 0) ((s_argN h0 q0).out W S) q0) ?_)
    refine p 1 ?_
    refine rend ?_
    refine c_or v5_4.1 (fun q20 => ?_) (fun q20 => ?_)
    · replace h := H.t q20 h
      refine r_start ?_
      refine p 1 ?_
      obtain ⟨v6_1, hv6_1, h⟩ := H.call h
      refine xx rfl (e_cq (cs' := [.slice A0 (List.length a0) k0, .int .i64 v6_1.2.1, .int .u64 v6_1.2.2]) (v := .int .i64 v6_1.1) 0 [.pointer (some ⟨g0, 0, none⟩), .int .i64 5] func79 (fun W S => C.s_l1Cur_pick W hv6_1 (S.bx 0) ((s_argN h0 q0).out W S) q0) ?_)
      refine p 1 ?_
      refine xx rfl (x_sto 2 g2_7 1 (eConstraint (⟨v1_1.1, v6_1.1⟩ : Constraint)) ?_)
      refine rend ?_
      refine c_seq ?_
      refine c_seq ?_
      refine r_start ?_
      refine p 1 ?_
      obtain ⟨v7_1, hv7_1, h⟩ := H.call h
      refine xx rfl (e_cq (cs' := [.slice A0 (List.length a0) k0, .int .i64 v7_1.2.1, .int .u64 v7_1.2.2]) (v := .int .i64 v7_1.1) 0 [.pointer (some ⟨g0, 0, none⟩), .int .i64 40] func79 (fun W S => C.s_l1Cur_pick W hv7_1 (S.bx 0) ((s_argN h0 q0).out W S) q0) ?_)
      refine rend ?_
      refine c_block ?_
      refine c_seq ?_
      refine r_start ?_
      refine p 2 ?_
      refine rend ?_
      refine c_or (v7_1.1 == 0) (fun q21 => ?_) (fun q21 => ?_)
      · replace h := H.t q21 h
        refine r_start ?_
        refine p 1 ?_
        refine xx rfl (e_lit (e := (eI .i64)) (el := 3) [.int .i64 (-1), .int .i64 5] ([(-1), 5] : List Int) fun A9_1 k9_1 => ?_)
        obtain ⟨v9_2, hv9_2, h⟩ := H.call h
        refine xx rfl (e_cq (cs' := [.slice A0 (List.length a0) k0, .int .i64 v9_2.2.1, .int .u64 v9_2.2.2]) (v := .int .i64 v9_2.1) 0 [.pointer (some ⟨g0, 0, none⟩), .slice A9_1 (List.length ([(-1), 5] : List Int)) k9_1] func143 (fun W S => C.s_l1Cur_among W hv9_2 (S.bx 0) ((s_argN h0 q0).out W S) q0 ((s_own 3).out W S) (ap_row S 3 0 (by decide))) ?_)
        refine p 1 ?_
        refine xx rfl (x_sto 2 g2_7 0 (eConstraint (⟨v9_2.1, v6_1.1⟩ : Constraint)) ?_)
        refine rend ?_
        refine c_inb ?_
        refine c_seq ?_
        refine r_start ?_
        refine xq rfl (y_load (.agg (eConstraint (⟨v9_2.1, v6_1.1⟩ : Constraint)).toArray) 2 g2_7 0) ?_
        refine xx rfl (x_sto 1 g0_0 0 (eConstraint (⟨v9_2.1, v6_1.1⟩ : Constraint)) ?_)
        refine rend ?_
        replace h := H.done h
        subst h
        exact ret func111 rfl (vs := [.agg (eConstraint (⟨v9_2.1, v6_1.1⟩ : Constraint)).toArray]) (.cell 1 g0_0 rfl (by kernel_rfl) (by kernel_rfl) .nil) rfl (fun W S => S.retQ)
      replace h := H.f q21 h
      refine c_seq ?_
      refine r_start ?_
      refine p 2 ?_
      refine rend ?_
      refine c_or (v7_1.1 == 1) (fun q22 => ?_) (fun q22 => ?_)
      · replace h := H.t q22 h
        refine r_start ?_
        refine p 2 ?_
        obtain ⟨v11_2, hv11_2, h⟩ := H.call h
        refine xq rfl (y_call [.int .i64 v1_1.1] (.int .i64 v11_2) func172 (fun W S => C.s_ruMost W hv11_2)) ?_
        refine p 1 ?_
        refine xx rfl (e_lit (e := (eI .i64)) (el := 3) [.int .i64 (-1), .int .i64 (wr (v11_2 + 1)), .int .i64 (-9223372036854775808)] ([(-1), (wr (v11_2 + 1)), (-9223372036854775808)] : List Int) fun A11_4 k11_4 => ?_)
        obtain ⟨v11_5, hv11_5, h⟩ := H.call h
        refine xx rfl (e_cq (cs' := [.slice A0 (List.length a0) k0, .int .i64 v11_5.2.1, .int .u64 v11_5.2.2]) (v := .int .i64 v11_5.1) 0 [.pointer (some ⟨g0, 0, none⟩), .slice A11_4 (List.length ([(-1), (wr (v11_2 + 1)), (-9223372036854775808)] : List Int)) k11_4] func143 (fun W S => C.s_l1Cur_among W hv11_5 (S.bx 0) ((s_argN h0 q0).out W S) q0 ((s_own 3).out W S) (ap_row S 3 0 (by decide))) ?_)
        refine p 1 ?_
        refine xx rfl (x_sto 2 g2_7 1 (eConstraint (⟨v1_1.1, v11_5.1⟩ : Constraint)) ?_)
        refine rend ?_
        refine c_inb ?_
        refine c_seq ?_
        refine r_start ?_
        refine xq rfl (y_load (.agg (eConstraint (⟨v1_1.1, v11_5.1⟩ : Constraint)).toArray) 2 g2_7 0) ?_
        refine xx rfl (x_sto 1 g0_0 0 (eConstraint (⟨v1_1.1, v11_5.1⟩ : Constraint)) ?_)
        refine rend ?_
        replace h := H.done h
        subst h
        exact ret func111 rfl (vs := [.agg (eConstraint (⟨v1_1.1, v11_5.1⟩ : Constraint)).toArray]) (.cell 1 g0_0 rfl (by kernel_rfl) (by kernel_rfl) .nil) rfl (fun W S => S.retQ)
      replace h := H.f q22 h
      refine c_skip ?_
      refine c_inb ?_
      refine c_seq ?_
      refine r_start ?_
      refine xq rfl (y_load (.agg (eConstraint (⟨v1_1.1, v6_1.1⟩ : Constraint)).toArray) 2 g2_7 0) ?_
      refine xx rfl (x_sto 1 g0_0 0 (eConstraint (⟨v1_1.1, v6_1.1⟩ : Constraint)) ?_)
      refine rend ?_
      replace h := H.done h
      subst h
      exact ret func111 rfl (vs := [.agg (eConstraint (⟨v1_1.1, v6_1.1⟩ : Constraint)).toArray]) (.cell 1 g0_0 rfl (by kernel_rfl) (by kernel_rfl) .nil) rfl (fun W S => S.retQ)
    replace h := H.f q20 h
    refine c_skip ?_
    refine c_seq ?_
    refine c_seq ?_
    refine r_start ?_
    refine p 1 ?_
    obtain ⟨v7_1, hv7_1, h⟩ := H.call h
    refine xx rfl (e_cq (cs' := [.slice A0 (List.length a0) k0, .int .i64 v7_1.2.1, .int .u64 v7_1.2.2]) (v := .int .i64 v7_1.1) 0 [.pointer (some ⟨g0, 0, none⟩), .int .i64 40] func79 (fun W S => C.s_l1Cur_pick W hv7_1 (S.bx 0) ((s_argN h0 q0).out W S) q0) ?_)
    refine rend ?_
    refine c_block ?_
    refine c_seq ?_
    refine r_start ?_
    refine p 2 ?_
    refine rend ?_
    refine c_or (v7_1.1 == 0) (fun q23 => ?_) (fun q23 => ?_)
    · replace h := H.t q23 h
      refine r_start ?_
      refine p 1 ?_
      refine xx rfl (e_lit (e := (eI .i64)) (el := 3) [.int .i64 (-1), .int .i64 5] ([(-1), 5] : List Int) fun A9_1 k9_1 => ?_)
      obtain ⟨v9_2, hv9_2, h⟩ := H.call h
      refine xx rfl (e_cq (cs' := [.slice A0 (List.length a0) k0, .int .i64 v9_2.2.1, .int .u64 v9_2.2.2]) (v := .int .i64 v9_2.1) 0 [.pointer (some ⟨g0, 0, none⟩), .slice A9_1 (List.length ([(-1), 5] : List Int)) k9_1] func143 (fun W S => C.s_l1Cur_among W hv9_2 (S.bx 0) ((s_argN h0 q0).out W S) q0 ((s_own 3).out W S) (ap_row S 3 0 (by decide))) ?_)
      refine p 1 ?_
      refine xx rfl (x_sto 2 g2_7 0 (eConstraint (⟨v9_2.1, v2_5.1⟩ : Constraint)) ?_)
      refine rend ?_
      refine c_inb ?_
      refine c_seq ?_
      refine r_start ?_
      refine xq rfl (y_load (.agg (eConstraint (⟨v9_2.1, v2_5.1⟩ : Constraint)).toArray) 2 g2_7 0) ?_
      refine xx rfl (x_sto 1 g0_0 0 (eConstraint (⟨v9_2.1, v2_5.1⟩ : Constraint)) ?_)
      refine rend ?_
      replace h := H.done h
      subst h
      exact ret func111 rfl (vs := [.agg (eConstraint (⟨v9_2.1, v2_5.1⟩ : Constraint)).toArray]) (.cell 1 g0_0 rfl (by kernel_rfl) (by kernel_rfl) .nil) rfl (fun W S => S.retQ)
    replace h := H.f q23 h
    refine c_seq ?_
    refine r_start ?_
    refine p 2 ?_
    refine rend ?_
    refine c_or (v7_1.1 == 1) (fun q24 => ?_) (fun q24 => ?_)
    · replace h := H.t q24 h
      refine r_start ?_
      refine p 2 ?_
      obtain ⟨v11_2, hv11_2, h⟩ := H.call h
      refine xq rfl (y_call [.int .i64 v1_1.1] (.int .i64 v11_2) func172 (fun W S => C.s_ruMost W hv11_2)) ?_
      refine p 1 ?_
      refine xx rfl (e_lit (e := (eI .i64)) (el := 3) [.int .i64 (-1), .int .i64 (wr (v11_2 + 1)), .int .i64 (-9223372036854775808)] ([(-1), (wr (v11_2 + 1)), (-9223372036854775808)] : List Int) fun A11_4 k11_4 => ?_)
      obtain ⟨v11_5, hv11_5, h⟩ := H.call h
      refine xx rfl (e_cq (cs' := [.slice A0 (List.length a0) k0, .int .i64 v11_5.2.1, .int .u64 v11_5.2.2]) (v := .int .i64 v11_5.1) 0 [.pointer (some ⟨g0, 0, none⟩), .slice A11_4 (List.length ([(-1), (wr (v11_2 + 1)), (-9223372036854775808)] : List Int)) k11_4] func143 (fun W S => C.s_l1Cur_among W hv11_5 (S.bx 0) ((s_argN h0 q0).out W S) q0 ((s_own 3).out W S) (ap_row S 3 0 (by decide))) ?_)
      refine p 1 ?_
      refine xx rfl (x_sto 2 g2_7 1 (eConstraint (⟨v1_1.1, v11_5.1⟩ : Constraint)) ?_)
      refine rend ?_
      refine c_inb ?_
      refine c_seq ?_
      refine r_start ?_
      refine xq rfl (y_load (.agg (eConstraint (⟨v1_1.1, v11_5.1⟩ : Constraint)).toArray) 2 g2_7 0) ?_
      refine xx rfl (x_sto 1 g0_0 0 (eConstraint (⟨v1_1.1, v11_5.1⟩ : Constraint)) ?_)
      refine rend ?_
      replace h := H.done h
      subst h
      exact ret func111 rfl (vs := [.agg (eConstraint (⟨v1_1.1, v11_5.1⟩ : Constraint)).toArray]) (.cell 1 g0_0 rfl (by kernel_rfl) (by kernel_rfl) .nil) rfl (fun W S => S.retQ)
    replace h := H.f q24 h
    refine c_skip ?_
    refine c_inb ?_
    refine c_seq ?_
    refine r_start ?_
    refine xq rfl (y_load (.agg (eConstraint (⟨v1_1.1, v2_5.1⟩ : Constraint)).toArray) 2 g2_7 0) ?_
    refine xx rfl (x_sto 1 g0_0 0 (eConstraint (⟨v1_1.1, v2_5.1⟩ : Constraint)) ?_)
    refine rend ?_
    replace h := H.done h
    subst h
    exact ret func111 rfl (vs := [.agg (eConstraint (⟨v1_1.1, v2_5.1⟩ : Constraint)).toArray]) (.cell 1 g0_0 rfl (by kernel_rfl) (by kernel_rfl) .nil) rfl (fun W S => S.retQ)
  replace h := H.f q19 h
  refine o_set 24 (congrArg Value.bool q19) ?_
  refine p 3 ?_
  refine rend ?_
  refine c_f (by kernel_rfl) ?_
  refine c_skip ?_
  refine c_seq ?_
  refine c_seq ?_
  refine r_start ?_
  refine p 1 ?_
  obtain ⟨v7_1, hv7_1, h⟩ := H.call h
  refine xx rfl (e_cq (cs' := [.slice A0 (List.length a0) k0, .int .i64 v7_1.2.1, .int .u64 v7_1.2.2]) (v := .int .i64 v7_1.1) 0 [.pointer (some ⟨g0, 0, none⟩), .int .i64 40] func79 (fun W S => C.s_l1Cur_pick W hv7_1 (S.bx 0) ((s_argN h0 q0).out W S) q0) ?_)
  refine rend ?_
  refine c_block ?_
  refine c_seq ?_
  refine r_start ?_
  refine p 2 ?_
  refine rend ?_
  refine c_or (v7_1.1 == 0) (fun q25 => ?_) (fun q25 => ?_)
  · replace h := H.t q25 h
    refine r_start ?_
    refine p 1 ?_
    refine xx rfl (e_lit (e := (eI .i64)) (el := 3) [.int .i64 (-1), .int .i64 5] ([(-1), 5] : List Int) fun A9_1 k9_1 => ?_)
    obtain ⟨v9_2, hv9_2, h⟩ := H.call h
    refine xx rfl (e_cq (cs' := [.slice A0 (List.length a0) k0, .int .i64 v9_2.2.1, .int .u64 v9_2.2.2]) (v := .int .i64 v9_2.1) 0 [.pointer (some ⟨g0, 0, none⟩), .slice A9_1 (List.length ([(-1), 5] : List Int)) k9_1] func143 (fun W S => C.s_l1Cur_among W hv9_2 (S.bx 0) ((s_argN h0 q0).out W S) q0 ((s_own 3).out W S) (ap_row S 3 0 (by decide))) ?_)
    refine p 1 ?_
    refine xx rfl (x_sto 2 g2_7 0 (eConstraint (⟨v9_2.1, v2_5.1⟩ : Constraint)) ?_)
    refine rend ?_
    refine c_inb ?_
    refine c_seq ?_
    refine r_start ?_
    refine xq rfl (y_load (.agg (eConstraint (⟨v9_2.1, v2_5.1⟩ : Constraint)).toArray) 2 g2_7 0) ?_
    refine xx rfl (x_sto 1 g0_0 0 (eConstraint (⟨v9_2.1, v2_5.1⟩ : Constraint)) ?_)
    refine rend ?_
    replace h := H.done h
    subst h
    exact ret func111 rfl (vs := [.agg (eConstraint (⟨v9_2.1, v2_5.1⟩ : Constraint)).toArray]) (.cell 1 g0_0 rfl (by kernel_rfl) (by kernel_rfl) .nil) rfl (fun W S => S.retQ)
  replace h := H.f q25 h
  refine c_seq ?_
  refine r_start ?_
  refine p 2 ?_
  refine rend ?_
  refine c_or (v7_1.1 == 1) (fun q26 => ?_) (fun q26 => ?_)
  · replace h := H.t q26 h
    refine r_start ?_
    refine p 2 ?_
    obtain ⟨v11_2, hv11_2, h⟩ := H.call h
    refine xq rfl (y_call [.int .i64 v1_1.1] (.int .i64 v11_2) func172 (fun W S => C.s_ruMost W hv11_2)) ?_
    refine p 1 ?_
    refine xx rfl (e_lit (e := (eI .i64)) (el := 3) [.int .i64 (-1), .int .i64 (wr (v11_2 + 1)), .int .i64 (-9223372036854775808)] ([(-1), (wr (v11_2 + 1)), (-9223372036854775808)] : List Int) fun A11_4 k11_4 => ?_)
    obtain ⟨v11_5, hv11_5, h⟩ := H.call h
    refine xx rfl (e_cq (cs' := [.slice A0 (List.length a0) k0, .int .i64 v11_5.2.1, .int .u64 v11_5.2.2]) (v := .int .i64 v11_5.1) 0 [.pointer (some ⟨g0, 0, none⟩), .slice A11_4 (List.length ([(-1), (wr (v11_2 + 1)), (-9223372036854775808)] : List Int)) k11_4] func143 (fun W S => C.s_l1Cur_among W hv11_5 (S.bx 0) ((s_argN h0 q0).out W S) q0 ((s_own 3).out W S) (ap_row S 3 0 (by decide))) ?_)
    refine p 1 ?_
    refine xx rfl (x_sto 2 g2_7 1 (eConstraint (⟨v1_1.1, v11_5.1⟩ : Constraint)) ?_)
    refine rend ?_
    refine c_inb ?_
    refine c_seq ?_
    refine r_start ?_
    refine xq rfl (y_load (.agg (eConstraint (⟨v1_1.1, v11_5.1⟩ : Constraint)).toArray) 2 g2_7 0) ?_
    refine xx rfl (x_sto 1 g0_0 0 (eConstraint (⟨v1_1.1, v11_5.1⟩ : Constraint)) ?_)
    refine rend ?_
    replace h := H.done h
    subst h
    exact ret func111 rfl (vs := [.agg (eConstraint (⟨v1_1.1, v11_5.1⟩ : Constraint)).toArray]) (.cell 1 g0_0 rfl (by kernel_rfl) (by kernel_rfl) .nil) rfl (fun W S => S.retQ)
  replace h := H.f q26 h
  refine c_skip ?_
  refine c_inb ?_
  refine c_seq ?_
  refine r_start ?_
  refine xq rfl (y_load (.agg (eConstraint (⟨v1_1.1, v2_5.1⟩ : Constraint)).toArray) 2 g2_7 0) ?_
  refine xx rfl (x_sto 1 g0_0 0 (eConstraint (⟨v1_1.1, v2_5.1⟩ : Constraint)) ?_)
  refine rend ?_
  replace h := H.done h
  subst h
  exact ret func111 rfl (vs := [.agg (eConstraint (⟨v1_1.1, v2_5.1⟩ : Constraint)).toArray]) (.cell 1 g0_0 rfl (by kernel_rfl) (by kernel_rfl) .nil) rfl (fun W S => S.retQ)
theorem C.s_l1Cur_constraints {fu : Nat} {a0 : List Int} {A0 : Option Addr} {k0 g0 : Nat} {t0 s0 : Int} {r : ((List Constraint) × Int × Int)} (w : World) (h : X.s_l1Cur_constraints fu a0 t0 s0 = some r) (m0 : w.heap[g0]? = some (.cells ([.slice A0 (List.length a0) k0, .int .i64 t0, .int .u64 s0] : List Value).toArray 94 (0, 0))) (h0 : RdT (eI .u8) w (.slice A0 (List.length a0) k0) a0) (q0 : 0 < List.length a0 → ∀ k, (Value.slice A0 (List.length a0) k0).ownBlock = some k → ¬ k = g0) : Calls prog 95 #[.pointer (some ⟨g0, 0, none⟩)] w (RetQR nConstraint 64 g0 94 [.slice A0 (List.length a0) k0, .int .i64 r.2.1, .int .u64 r.2.2] w r.1 (fun v => v)) := by
  refine callsQ (args := [.pointer (some ⟨g0, 0, none⟩)]) m0 func95 rfl ?_
  replace h : H (X.s_l1Cur_constraints fu a0 t0 s0) (fun o => o = r) := H.mk h
  unfold X.s_l1Cur_constraints at h
  refine c_seq ?_
  refine r_start ?_
  refine p 1 ?_
  refine rend ?_
  refine c_seq ?_
  refine r_start ?_
  refine p 1 ?_
  refine rend ?_
  refine c_seq ?_
  refine r_start ?_
  refine p 1 ?_
  obtain ⟨v2_1, hv2_1, h⟩ := H.call h
  refine xx rfl (e_cq (cs' := [.slice A0 (List.length a0) k0, .int .i64 v2_1.2.1, .int .u64 v2_1.2.2]) (v := .int .i64 v2_1.1) 0 [.pointer (some ⟨g0, 0, none⟩), .int .i64 5] func79 (fun W S => C.s_l1Cur_pick W hv2_1 (S.bx 0) ((s_argN h0 q0).out W S) q0) ?_)
  refine p 1 ?_
  refine rend ?_
  refine c_seq ?_
  refine c_seq ?_
  refine r_start ?_
  refine p 1 ?_
  obtain ⟨v3_1, hv3_1, h⟩ := H.call h
  refine xx rfl (e_cq (cs' := [.slice A0 (List.length a0) k0, .int .i64 v3_1.2.1, .int .u64 v3_1.2.2]) (v := .bool v3_1.1) 0 [.pointer (some ⟨g0, 0, none⟩), .int .i64 12] func78 (fun W S => C.s_l1Cur_one W hv3_1 (S.bx 0) ((s_argN h0 q0).out W S) q0) ?_)
  refine rend ?_
  refine c_or v3_1.1 (fun q1 => ?_) (fun q1 => ?_)
  · replace h := H.t q1 h
    refine r_start ?_
    refine p 1 ?_
    obtain ⟨v4_1, hv4_1, h⟩ := H.call h
    refine xx rfl (e_cq (cs' := [.slice A0 (List.length a0) k0, .int .i64 v4_1.2.1, .int .u64 v4_1.2.2]) (v := .int .i64 v4_1.1) 0 [.pointer (some ⟨g0, 0, none⟩), .int .i64 2] func79 (fun W S => C.s_l1Cur_pick W hv4_1 (S.bx 0) ((s_argN h0 q0).out W S) q0) ?_)
    refine p 2 ?_
    refine rend ?_
    refine c_seq ?_
    refine c_block ?_
    refine c_nil nConstraint 64 ?_
    refine joinH (X := (Int × Int × (List Constraint) × Option Addr × Nat)) 0 (H.bnd h) (fun ⟨n7, n8, l9, A10, k11⟩ => (n7, n8, l9)) (fun ⟨n7, n8, l9, A10, k11⟩ => [box g0 94 [.slice A0 (List.length a0) k0, .int .i64 n7, .int .u64 n8], rowT nConstraint w.heap.size 64 (.slice A10 (List.length l9) k11) l9]) (fun ⟨n7, n8, l9, A10, k11⟩ u => (jk u 0 3 (.slice A10 (List.length l9) k11 :: (jk u 4 38 [])))) (fun h hj12 => ?_) ?_
    · skip
      refine loopR (X := (Int × Int × (List Constraint) × Option Addr × Nat)) (fun ⟨n2, n3, l4, A5, k6⟩ => (n2, n3, l4)) (fun ⟨n2, n3, l4, A5, k6⟩ => [box g0 94 [.slice A0 (List.length a0) k0, .int .i64 n2, .int .u64 n3], rowT nConstraint w.heap.size 64 (.slice A5 (List.length l4) k6) l4]) (fun ⟨n2, n3, l4, A5, k6⟩ u => (.pointer (some ⟨g0, 0, none⟩) :: (jk u 1 2 (.slice A5 (List.length l4) k6 :: .int .i64 (wr (10 + v4_1.1)) :: (jk u 5 37 []))))) (v4_1.2.1, v4_1.2.2, ([] : List Constraint), none, 0) h (by kernel_rfl) (by kernel_rfl) ?_
      intro x u h
      obtain ⟨n2, n3, l4, A5, k6⟩ := x
      refine c_seq ?_
      refine c_seq ?_
      refine r_start ?_
      refine p 4 ?_
      refine rend ?_
      refine c_or (decide ((List.length l4 : Int) < (wr (10 + v4_1.1)))) (fun q13 => ?_) (fun q13 => ?_)
      · replace h := H.t q13 h
        refine c_skip ?_
        refine c_block ?_
        refine c_seq ?_
        refine r_start ?_
        refine p 2 ?_
        obtain ⟨v6_2, hv6_2, h⟩ := H.call h
        refine xx rfl (e_cq (cs' := [.slice A0 (List.length a0) k0, .int .i64 v6_2.2.1, .int .u64 v6_2.2.2]) (v := .agg (eConstraint v6_2.1).toArray) 0 [.pointer (some ⟨g0, 0, none⟩)] func111 (fun W S => C.s_l1Cur_constraint W hv6_2 (S.bx 0) ((s_argN h0 q0).out W S) q0) ?_)
        refine xx rfl (e_lit (e := nConstraint) (el := 64) [.agg (eConstraint v6_2.1).toArray] ([v6_2.1] : List Constraint) fun A6_3 k6_3 => ?_)
        obtain ⟨y6_4, hy6_4, h⟩ := H.call h
        refine xx rfl (e_app 1 hy6_4 (s_own 2) fun A6_4 k6_4 => ?_)
        refine p 1 ?_
        refine rend ?_
        refine c_seq ?_
        refine r_start ?_
        refine p 3 ?_
        refine rend ?_
        refine c_seq ?_
        refine r_start ?_
        refine p 3 ?_
        refine br (decide ((List.length y6_4 : Int) > 1)) (fun q14 => ?_) (fun q14 => ?_)
        · replace h := H.t q14 h
          refine o_set 26 (congrArg Value.bool q14) ?_
          refine p 1 ?_
          obtain ⟨v8_4, hv8_4, h⟩ := H.call h
          refine xx rfl (e_cq (cs' := [.slice A0 (List.length a0) k0, .int .i64 v8_4.2.1, .int .u64 v8_4.2.2]) (v := .bool v8_4.1) 0 [.pointer (some ⟨g0, 0, none⟩), .int .i64 3] func78 (fun W S => C.s_l1Cur_one W hv8_4 (S.bx 0) ((s_argN h0 q0).out W S) q0) ?_)
          refine p 1 ?_
          refine rend ?_
          refine c_or v8_4.1 (fun q15 => ?_) (fun q15 => ?_)
          · replace h := H.t q15 h
            refine r_start ?_
            refine p 7 ?_
            obtain ⟨v9_7, hv9_7, h⟩ := H.call h
            refine xx rfl (e_cq (cs' := [.slice A0 (List.length a0) k0, .int .i64 v9_7.2.1, .int .u64 v9_7.2.2]) (v := .int .i64 v9_7.1) 0 [.pointer (some ⟨g0, 0, none⟩), .int .i64 (wr ((List.length y6_4 : Int) - 1))] func79 (fun W S => C.s_l1Cur_pick W hv9_7 (S.bx 0) ((s_argN h0 q0).out W S) q0) ?_)
            obtain ⟨y9_8, hy9_8, h⟩ := H.call h
            refine xq rfl (y_idx (e := nConstraint) (el := 64) hy9_8 (s_own 1)) ?_
            refine xq rfl (y_el (e := nConstraint) 0 (.agg (eConstraint y9_8).toArray) hy9_8 (s_own 1)) ?_
            obtain ⟨y9_10, hy9_10, h⟩ := H.call h
            refine xq rfl (y_idx (e := nConstraint) (el := 64) hy9_10 (s_own 1)) ?_
            refine xx rfl (e_stel (e := nConstraint) (b := y9_8) 1 0 (eConstraint y9_8) hy9_10 (by kernel_rfl) ?_)
            refine o_set 3 (sl_set (A := A6_4) (c := k6_4) (l := y6_4) (n := Int.toNat (wr ((List.length y6_4 : Int) - 1))) (b := y9_8)) ?_
            refine rend ?_
            refine c_inb ?_
            replace h := H.inl h
            exact h (v9_7.2.1, v9_7.2.2, (List.set y6_4 (Int.toNat (wr ((List.length y6_4 : Int) - 1))) y9_8), A6_4, k6_4) _ _ rfl (by kernel_rfl) (by kernel_rfl)
          replace h := H.f q15 h
          refine c_skip ?_
          refine c_inb ?_
          replace h := H.inl h
          exact h (v8_4.2.1, v8_4.2.2, y6_4, A6_4, k6_4) _ _ rfl (by kernel_rfl) (by kernel_rfl)
        replace h := H.f q14 h
        refine o_set 26 (congrArg Value.bool q14) ?_
        refine p 3 ?_
        refine rend ?_
        refine c_f (by kernel_rfl) ?_
        refine c_skip ?_
        refine c_inb ?_
        replace h := H.inl h
        exact h (v6_2.2.1, v6_2.2.2, y6_4, A6_4, k6_4) _ _ rfl (by kernel_rfl) (by kernel_rfl)
      replace h := H.f q13 h
      refine cx ?_
      replace h := H.inr h
      exact hj12 (n2, n3, l4, A5, k6) _ _ h (by kernel_rfl) (by kernel_rfl)
    intro x u h
    obtain ⟨n7, n8, l9, A10, k11⟩ := x
    refine c_seq ?_
    refine r_start ?_
    refine p 2 ?_
    refine rend ?_
    replace h := H.done h
    subst h
    exact ret func95 rfl (vs := [.slice A10 (List.length l9) k11]) (.tmp (by kernel_rfl) .nil) rfl (fun W S => S.retQR (res := fun v => v) 1 (by decide))
  replace h := H.f q1 h
  refine c_skip ?_
  refine c_seq ?_
  refine c_block ?_
  refine c_nil nConstraint 64 ?_
  refine joinH (X := (Int × Int × (List Constraint) × Option Addr × Nat)) 0 (H.bnd h) (fun ⟨n21, n22, l23, A24, k25⟩ => (n21, n22, l23)) (fun ⟨n21, n22, l23, A24, k25⟩ => [box g0 94 [.slice A0 (List.length a0) k0, .int .i64 n21, .int .u64 n22], rowT nConstraint w.heap.size 64 (.slice A24 (List.length l23) k25) l23]) (fun ⟨n21, n22, l23, A24, k25⟩ u => (jk u 0 3 (.slice A24 (List.length l23) k25 :: (jk u 4 38 [])))) (fun h hj26 => ?_) ?_
  · skip
    refine loopR (X := (Int × Int × (List Constraint) × Option Addr × Nat)) (fun ⟨n16, n17, l18, A19, k20⟩ => (n16, n17, l18)) (fun ⟨n16, n17, l18, A19, k20⟩ => [box g0 94 [.slice A0 (List.length a0) k0, .int .i64 n16, .int .u64 n17], rowT nConstraint w.heap.size 64 (.slice A19 (List.length l18) k20) l18]) (fun ⟨n16, n17, l18, A19, k20⟩ u => (.pointer (some ⟨g0, 0, none⟩) :: (jk u 1 2 (.slice A19 (List.length l18) k20 :: .int .i64 v2_1.1 :: (jk u 5 37 []))))) (v3_1.2.1, v3_1.2.2, ([] : List Constraint), none, 0) h (by kernel_rfl) (by kernel_rfl) ?_
    intro x u h
    obtain ⟨n16, n17, l18, A19, k20⟩ := x
    refine c_seq ?_
    refine c_seq ?_
    refine r_start ?_
    refine p 4 ?_
    refine rend ?_
    refine c_or (decide ((List.length l18 : Int) < v2_1.1)) (fun q27 => ?_) (fun q27 => ?_)
    · replace h := H.t q27 h
      refine c_skip ?_
      refine c_block ?_
      refine c_seq ?_
      refine r_start ?_
      refine p 2 ?_
      obtain ⟨v6_2, hv6_2, h⟩ := H.call h
      refine xx rfl (e_cq (cs' := [.slice A0 (List.length a0) k0, .int .i64 v6_2.2.1, .int .u64 v6_2.2.2]) (v := .agg (eConstraint v6_2.1).toArray) 0 [.pointer (some ⟨g0, 0, none⟩)] func111 (fun W S => C.s_l1Cur_constraint W hv6_2 (S.bx 0) ((s_argN h0 q0).out W S) q0) ?_)
      refine xx rfl (e_lit (e := nConstraint) (el := 64) [.agg (eConstraint v6_2.1).toArray] ([v6_2.1] : List Constraint) fun A6_3 k6_3 => ?_)
      obtain ⟨y6_4, hy6_4, h⟩ := H.call h
      refine xx rfl (e_app 1 hy6_4 (s_own 2) fun A6_4 k6_4 => ?_)
      refine p 1 ?_
      refine rend ?_
      refine c_seq ?_
      refine r_start ?_
      refine p 3 ?_
      refine rend ?_
      refine c_seq ?_
      refine r_start ?_
      refine p 3 ?_
      refine br (decide ((List.length y6_4 : Int) > 1)) (fun q28 => ?_) (fun q28 => ?_)
      · replace h := H.t q28 h
        refine o_set 26 (congrArg Value.bool q28) ?_
        refine p 1 ?_
        obtain ⟨v8_4, hv8_4, h⟩ := H.call h
        refine xx rfl (e_cq (cs' := [.slice A0 (List.length a0) k0, .int .i64 v8_4.2.1, .int .u64 v8_4.2.2]) (v := .bool v8_4.1) 0 [.pointer (some ⟨g0, 0, none⟩), .int .i64 3] func78 (fun W S => C.s_l1Cur_one W hv8_4 (S.bx 0) ((s_argN h0 q0).out W S) q0) ?_)
        refine p 1 ?_
        refine rend ?_
        refine c_or v8_4.1 (fun q29 => ?_) (fun q29 => ?_)
        · replace h := H.t q29 h
          refine r_start ?_
          refine p 7 ?_
          obtain ⟨v9_7, hv9_7, h⟩ := H.call h
          refine xx rfl (e_cq (cs' := [.slice A0 (List.length a0) k0, .int .i64 v9_7.2.1, .int .u64 v9_7.2.2]) (v := .int .i64 v9_7.1) 0 [.pointer (some ⟨g0, 0, none⟩), .int .i64 (wr ((List.length y6_4 : Int) - 1))] func79 (fun W S => C.s_l1Cur_pick W hv9_7 (S.bx 0) ((s_argN h0 q0).out W S) q0) ?_)
          obtain ⟨y9_8, hy9_8, h⟩ := H.call h
          refine xq rfl (y_idx (e := nConstraint) (el := 64) hy9_8 (s_own 1)) ?_
          refine xq rfl (y_el (e := nConstraint) 0 (.agg (eConstraint y9_8).toArray) hy9_8 (s_own 1)) ?_
          obtain ⟨y9_10, hy9_10, h⟩ := H.call h
          refine xq rfl (y_idx (e := nConstraint) (el := 64) hy9_10 (s_own 1)) ?_
          refine xx rfl (e_stel (e := nConstraint) (b := y9_8) 1 0 (eConstraint y9_8) hy9_10 (by kernel_rfl) ?_)
          refine o_set 3 (sl_set (A := A6_4) (c := k6_4) (l := y6_4) (n := Int.toNat (wr ((List.length y6_4 : Int) - 1))) (b := y9_8)) ?_
          refine rend ?_
          refine c_inb ?_
          replace h := H.inl h
          exact h (v9_7.2.1, v9_7.2.2, (List.set y6_4 (Int.toNat (wr ((List.length y6_4 : Int) - 1))) y9_8), A6_4, k6_4) _ _ rfl (by kernel_rfl) (by kernel_rfl)
        replace h := H.f q29 h
        refine c_skip ?_
        refine c_inb ?_
        replace h := H.inl h
        exact h (v8_4.2.1, v8_4.2.2, y6_4, A6_4, k6_4) _ _ rfl (by kernel_rfl) (by kernel_rfl)
      replace h := H.f q28 h
      refine o_set 26 (congrArg Value.bool q28) ?_
      refine p 3 ?_
      refine rend ?_
      refine c_f (by kernel_rfl) ?_
      refine c_skip ?_
      refine c_inb ?_
      replace h := H.inl h
      exact h (v6_2.2.1, v6_2.2.2, y6_4, A6_4, k6_4) _ _ rfl (by kernel_rfl) (by kernel_rfl)
    replace h := H.f q27 h
    refine cx ?_
    replace h := H.inr h
    exact hj26 (n16, n17, l18, A19, k20) _ _ h (by kernel_rfl) (by kernel_rfl)
  intro x u h
  obtain ⟨n21, n22, l23, A24, k25⟩ := x
  refine c_seq ?_
  refine r_start ?_
  refine p 2 ?_
  refine rend ?_
  replace h := H.done h
  subst h
  exact ret func95 rfl (vs := [.slice A24 (List.length l23) k25]) (.tmp (by kernel_rfl) .nil) rfl (fun W S => S.retQR (res := fun v => v) 1 (by decide))
theorem C.s_DrawNeedlessConstraints {fu : Nat} {a0 : (List Int)} {A0 : Option Addr} {k0 : Nat} {r : (List Constraint)} (w : World) (h : X.s_DrawNeedlessConstraints fu a0 = some r) (h0 : RdT (eI .u8) w (.slice A0 (List.length a0) k0) a0) : Calls prog 27 #[.slice A0 (List.length a0) k0] w (RetR nConstraint 64 w r (fun v => v)) := by
  refine calls (M := no) (args := [.slice A0 (List.length a0) k0]) func27 rfl ?_
  replace h : H (X.s_DrawNeedlessConstraints fu a0) (fun o => o = r) := H.mk h
  unfold X.s_DrawNeedlessConstraints at h
  refine c_seq ?_
  refine r_start ?_
  refine p 1 ?_
  refine rend ?_
  refine c_seq ?_
  refine r_start ?_
  refine p 2 ?_
  refine xx rfl (x_box [.slice A0 (List.length a0) k0, .int .i64 0, .int .u64 0] fun g1_2 => ?_)
  refine p 1 ?_
  refine rend ?_
  refine c_seq ?_
  refine r_start ?_
  refine p 1 ?_
  obtain ⟨v2_1, hv2_1, h⟩ := H.call h
  refine xx rfl (e_cqR (cs' := [.slice A0 (List.length a0) k0, .int .i64 v2_1.2.1, .int .u64 v2_1.2.2]) 0 [.pointer (some ⟨g1_2, 0, none⟩)] (fun v => v) func95 (fun W S => C.s_l1Cur_constraints W hv2_1 (S.bx 0) ((s_arg h0).out W S) (ap_arg h0 S 0)) fun A2_1 k2_1 => ?_)
  refine p 1 ?_
  refine rend ?_
  replace h := H.done h
  subst h
  exact ret func27 rfl (vs := [.slice A2_1 (List.length v2_1.1) k2_1]) (.tmp (by kernel_rfl) .nil) rfl (fun W S => ⟨_, _, rfl, S.row 1, S.below⟩)
theorem C.i_IsConstraint {a0 : Constraint} {r : Bool} (w : World) (h : X.i_IsConstraint a0 = some r) : Calls prog 46 #[.agg (eConstraint a0).toArray] w (Ret w (.bool r)) := by
  refine calls (M := no) (args := [.agg (eConstraint a0).toArray]) func46 rfl ?_
  replace h : H (X.i_IsConstraint a0) (fun o => o = r) := H.mk h
  unfold X.i_IsConstraint at h
  refine c_seq ?_
  refine r_start ?_
  refine xx rfl (x_box (eConstraint a0) fun g0_0 => ?_)
  refine p 1 ?_
  refine rend ?_
  refine c_seq ?_
  refine r_start ?_
  refine p 1 ?_
  refine xx rfl (x_new (Enc.flat (eI .i64) ([0, 0, 0, 0, 0] : List Int)) fun g1_1 => ?_)
  refine xx rfl (x_sto 1 g1_1 0 (Enc.flat (eI .i64) ([18, 9, 4, 3, 9] : List Int)) ?_)
  refine rend ?_
  refine c_seq ?_
  refine as_start 13 13 ?_
  refine ap 0 1 ?_
  refine aq 1 rfl (y_load (.int .i64 a0.Kind) 0 g0_0 0) ?_
  obtain ⟨v2_2, hv2_2, h⟩ := H.call h
  refine aq 2 rfl (y_call [.int .i64 a0.Kind, .int .i64 0, .int .i64 4] (.bool v2_2) func120 (fun W S => C.i_within W hv2_2)) ?_
  refine ap 3 1 ?_
  refine br v2_2 (fun q1 => ?_) (fun q1 => ?_)
  · replace h := H.t q1 h
    refine a_set 8 (congrArg Value.bool q1) ?_
    refine ap 4 1 ?_
    refine aq 5 rfl (y_load (.int .i64 a0.Value) 0 g0_0 1) ?_
    refine ap 6 1 ?_
    refine aq 7 rfl (y_load (.int .i64 a0.Kind) 0 g0_0 0) ?_
    obtain ⟨y2_8, hy2_8, h⟩ := H.call h
    refine aq 8 rfl (y_arp (e := (eI .i64)) (el := 3) (g := g1_1) hy2_8) ?_
    refine aq 9 rfl (y_arl (e := (eI .i64)) 1 (.int .i64 y2_8) hy2_8) ?_
    obtain ⟨v2_10, hv2_10, h⟩ := H.call h
    refine aq 10 rfl (y_call [.int .i64 a0.Value, .int .i64 0, .int .i64 y2_8] (.bool v2_10) func120 (fun W S => C.i_within W hv2_10)) ?_
    refine ap 11 2 ?_
    refine a_done ?_
    replace h := H.done h
    subst h
    exact ret func46 rfl (vs := [.bool v2_10]) (.tmp (by kernel_rfl) .nil) rfl (fun W S => ⟨rfl, S.below⟩)
  replace h := H.f q1 h
  refine a_set 8 (congrArg Value.bool q1) ?_
  refine ap 4 9 ?_
  refine a_done ?_
  replace h := H.done h
  subst h
  exact ret func46 rfl (vs := [.bool false]) (.tmp (by kernel_rfl) .nil) rfl (fun W S => ⟨rfl, S.below⟩)
theorem C.slices_IndexFunc_i_Constraint_i_Constraint {a0 : (List Constraint)} {A0 : Option Addr} {k0 : Nat} {a1 : (Constraint → Option Bool)} {g1 : Nat} {cp1 : List Value} {r : Int} (w : World) (h : X.slices_IndexFunc_i_Constraint_i_Constraint a0 a1 = some r) (h0 : RdT nConstraint w (.slice A0 (List.length a0) k0) a0) (hg1 : isFn prog g1 = true) (hF1 : ∀ (x0 : Constraint) (r : Bool) (W : World), Up w W → a1 x0 = some r → Calls prog g1 (([.agg (eConstraint x0).toArray] : List Value) ++ cp1).toArray W (Ret W (.bool r))) : Calls prog 168 #[.slice A0 (List.length a0) k0, .func (.func g1) #[] cp1.toArray] w (Ret w (.int .i64 r)) := by
  refine calls (M := no) (args := [.slice A0 (List.length a0) k0, .func (.func g1) #[] cp1.toArray]) func168 rfl ?_
  replace h : H (X.slices_IndexFunc_i_Constraint_i_Constraint a0 a1) (fun o => o = r) := H.mk h
  unfold X.slices_IndexFunc_i_Constraint_i_Constraint at h
  refine c_seq ?_
  refine r_start ?_
  refine p 1 ?_
  refine rend ?_
  refine c_seq ?_
  refine c_seq ?_
  refine r_start ?_
  refine p 3 ?_
  refine rend ?_
  refine c_block ?_
  refine joinE (X := Unit) 0 (H.or h) (fun (x : Unit) => x) (fun _ => []) (fun _ u => (jk u 0 19 [])) (fun h hj1 => ?_) ?_
  · skip
    refine rangeR (X := Unit) (s_arg h0) (fun (x : Unit) => x) (fun _ => []) (fun (j2 : Nat) _ u => (.slice A0 (List.length a0) k0 :: .func (.func g1) #[] cp1.toArray :: (jk u 2 5 (.int .i64 (List.length a0 : Int) :: .int .i64 (j2 : Int) :: (jk u 9 10 []))))) () h (by kernel_rfl) (by kernel_rfl) ?_ ?_
    · intro j2 x u x3 q4 hg5 hw6 h
      refine c_seq ?_
      refine r_start ?_
      refine p 1 ?_
      refine rend ?_
      refine c_seq ?_
      refine c_yes q4 ?_
      refine c_skip ?_
      refine c_seq ?_
      refine c_block ?_
      refine c_seq ?_
      refine r_start ?_
      refine p 2 ?_
      refine rend ?_
      refine c_seq ?_
      refine r_start ?_
      refine p 3 ?_
      refine xq rfl (y_idx (e := nConstraint) (el := 64) hg5 (s_arg h0)) ?_
      refine xq rfl (y_el (e := nConstraint) 0 (.agg (eConstraint x3).toArray) hg5 (s_arg h0)) ?_
      obtain ⟨v4_5, hv4_5, h⟩ := H.call h
      refine xq rfl (y_cf cp1 [.agg (eConstraint x3).toArray] (.bool v4_5) hg1 (fun W S => hF1 _ _ W S.below hv4_5)) ?_
      refine rend ?_
      refine c_or v4_5 (fun q7 => ?_) (fun q7 => ?_)
      · replace h := H.t q7 h
        refine c_seq ?_
        refine r_start ?_
        refine p 2 ?_
        refine rend ?_
        replace h := H.inr h
        replace h := H.done h
        subst h
        exact ret func168 rfl (vs := [.int .i64 (j2 : Int)]) (.tmp (by kernel_rfl) .nil) rfl (fun W S => ⟨rfl, S.below⟩)
      replace h := H.f q7 h
      refine c_skip ?_
      refine c_inb ?_
      refine r_start ?_
      refine p 2 ?_
      refine rend ?_
      refine c_set 8 (ci hw6) ?_
      replace h := H.inl h
      exact h () _ _ rfl (by kernel_rfl) (by kernel_rfl)
    · intro x u q4 h
      refine c_seq ?_
      refine r_start ?_
      refine p 1 ?_
      refine rend ?_
      refine c_seq ?_
      refine c_no q4 ?_
      refine cx ?_
      replace h := H.done h
      exact hj1 () _ _ h (by kernel_rfl) (by kernel_rfl)
  intro x u h
  refine c_seq ?_
  refine r_start ?_
  refine p 1 ?_
  refine rend ?_
  replace h := H.done h
  subst h
  exact ret func168 rfl (vs := [.int .i64 (-1)]) (.tmp (by kernel_rfl) .nil) rfl (fun W S => ⟨rfl, S.below⟩)
theorem C.slices_ContainsFunc_i_Constraint_i_Constraint {a0 : (List Constraint)} {A0 : Option Addr} {k0 : Nat} {a1 : (Constraint → Option Bool)} {g1 : Nat} {cp1 : List Value} {r : Bool} (w : World) (h : X.slices_ContainsFunc_i_Constraint_i_Constraint a0 a1 = some r) (h0 : RdT nConstraint w (.slice A0 (List.length a0) k0) a0) (hg1 : isFn prog g1 = true) (hF1 : ∀ (x0 : Constraint) (r : Bool) (W : World), Up w W → a1 x0 = some r → Calls prog g1 (([.agg (eConstraint x0).toArray] : List Value) ++ cp1).toArray W (Ret W (.bool r))) : Calls prog 98 #[.slice A0 (List.length a0) k0, .func (.func g1) #[] cp1.toArray] w (Ret w (.bool r)) := by
  refine calls (M := no) (args := [.slice A0 (List.length a0) k0, .func (.func g1) #[] cp1.toArray]) func98 rfl ?_
  replace h : H (X.slices_ContainsFunc_i_Constraint_i_Constraint a0 a1) (fun o => o = r) := H.mk h
  unfold X.slices_ContainsFunc_i_Constraint_i_Constraint at h
  refine c_seq ?_
  refine r_start ?_
  refine p 1 ?_
  refine rend ?_
  refine c_seq ?_
  refine r_start ?_
  refine p 2 ?_
  obtain ⟨v1_2, hv1_2, h⟩ := H.call h
  refine xq rfl (y_call [.slice A0 (List.length a0) k0, .func (.func g1) #[] cp1.toArray] (.int .i64 v1_2) func168 (fun W S => C.slices_IndexFunc_i_Constraint_i_Constraint W hv1_2 ((s_arg h0).out W S) hg1 (fun x0_2 r W2 hu2 hx2 => hF1 x0_2 r W2 (Up.trans S.below hu2) hx2))) ?_
  refine p 2 ?_
  refine rend ?_
  replace h := H.done h
  subst h
  exact ret func98 rfl (vs := [.bool (decide (v1_2 ≥ 0))]) (.tmp (by kernel_rfl) .nil) rfl (fun W S => ⟨rfl, S.below⟩)
theorem C.i_allOf_i_Constraint_1 {a0 : Constraint} {a1 : (Constraint → Option Bool)} {g1 : Nat} {cp1 : List Value} {p1 : Nat} {r : Bool} (w : World) (h : X.i_allOf_i_Constraint_1 a1 a0 = some r) (hg1 : isFn prog g1 = true) (hF1 : ∀ (x0 : Constraint) (r : Bool) (W : World), Up w W → a1 x0 = some r → Calls prog g1 (([.agg (eConstraint x0).toArray] : List Value) ++ cp1).toArray W (Ret W (.bool r))) (hp1 : w.heap[p1]? = some (.cells ([.func (.func g1) #[] cp1.toArray] : List Value).toArray 75 (0, 0))) : Calls prog 171 #[.agg (eConstraint a0).toArray, .pointer (some ⟨p1, 0, none⟩)] w (Ret w (.bool r)) := by
  refine calls (M := no) (args := [.agg (eConstraint a0).toArray, .pointer (some ⟨p1, 0, none⟩)]) func171 rfl ?_
  replace h : H (X.i_allOf_i_Constraint_1 a1 a0) (fun o => o = r) := H.mk h
  unfold X.i_allOf_i_Constraint_1 at h
  refine c_seq ?_
  refine r_start ?_
  refine xx rfl (x_box (eConstraint a0) fun g0_0 => ?_)
  refine p 1 ?_
  refine rend ?_
  refine c_seq ?_
  refine r_start ?_
  refine xq rfl (y_ld0 (.func (.func g1) #[] cp1.toArray) p1 0 hp1) ?_
  refine xq rfl (y_load (.agg (eConstraint a0).toArray) 0 g0_0 0) ?_
  obtain ⟨v1_2, hv1_2, h⟩ := H.call h
  refine xq rfl (y_cf cp1 [.agg (eConstraint a0).toArray] (.bool v1_2) hg1 (fun W S => hF1 _ _ W S.below hv1_2)) ?_
  refine p 2 ?_
  refine rend ?_
  replace h := H.done h
  subst h
  exact ret func171 rfl (vs := [.bool (!v1_2)]) (.tmp (by kernel_rfl) .nil) rfl (fun W S => ⟨rfl, S.below⟩)
theorem C.i_allOf_i_Constraint {a0 : (List Constraint)} {A0 : Option Addr} {k0 : Nat} {a1 : (Constraint → Option Bool)} {g1 : Nat} {cp1 : List Value} {r : Bool} (w : World) (h : X.i_allOf_i_Constraint a0 a1 = some r) (h0 : RdT nConstraint w (.slice A0 (List.length a0) k0) a0) (hg1 : isFn prog g1 = true) (hF1 : ∀ (x0 : Constraint) (r : Bool) (W : World), Up w W → a1 x0 = some r → Calls prog g1 (([.agg (eConstraint x0).toArray] : List Value) ++ cp1).toArray W (Ret W (.bool r))) : Calls prog 107 #[.slice A0 (List.length a0) k0, .func (.func g1) #[] cp1.toArray] w (Ret w (.bool r)) := by
  refine calls (M := no) (args := [.slice A0 (List.length a0) k0, .func (.func g1) #[] cp1.toArray]) func107 rfl ?_
  replace h : H (X.i_allOf_i_Constraint a0 a1) (fun o => o = r) := H.mk h
  unfold X.i_allOf_i_Constraint at h
  refine c_seq ?_
  refine r_start ?_
  refine xx rfl (x_box [.func (.func g1) #[] cp1.toArray] fun g0_0 => ?_)
  refine p 1 ?_
  refine rend ?_
  refine c_seq ?_
  refine r_start ?_
  refine p 2 ?_
  obtain ⟨v1_2, hv1_2, h⟩ := H.call h
  refine xq rfl (y_call [.slice A0 (List.length a0) k0, .func (.func 171) #[] #[.pointer (some ⟨g0_0, 0, none⟩)]] (.bool v1_2) func98 (fun W S => C.slices_ContainsFunc_i_Constraint_i_Constraint W hv1_2 ((s_arg h0).out W S) (isFn_of func171) (fun x0_2 r W2 hu2 hx2 => C.i_allOf_i_Constraint_1 W2 hx2 hg1 (fun x0_3 r W3 hu3 hx3 => hF1 x0_3 r W3 (Up.trans (Up.trans S.below hu2) hu3) hx3) (bx_up (S.bx 0) hu2)))) ?_
  refine p 2 ?_
  refine rend ?_
  replace h := H.done h
  subst h
  exact ret func107 rfl (vs := [.bool (!v1_2)]) (.tmp (by kernel_rfl) .nil) rfl (fun W S => ⟨rfl, S.below⟩)
theorem C.i_areConstraints {a0 : (List Constraint)} {A0 : Option Addr} {k0 : Nat} {r : Bool} (w : World) (h : X.i_areConstraints a0 = some r) (h0 : RdT nConstraint w (.slice A0 (List.length a0) k0) a0) : Calls prog 96 #[.slice A0 (List.length a0) k0] w (Ret w (.bool r)) := by
  refine calls (M := no) (args := [.slice A0 (List.length a0) k0]) func96 rfl ?_
  replace h : H (X.i_areConstraints a0) (fun o => o = r) := H.mk h
  unfold X.i_areConstraints at h
  refine c_seq ?_
  refine r_start ?_
  refine p 1 ?_
  refine rend ?_
  refine c_seq ?_
  refine r_start ?_
  refine p 4 ?_
  refine br (decide ((List.length a0 : Int) ≤ 10)) (fun q1 => ?_) (fun q1 => ?_)
  · replace h := H.t q1 h
    refine o_set 6 (congrArg Value.bool q1) ?_
    refine p 1 ?_
    obtain ⟨v1_5, hv1_5, h⟩ := H.call h
    refine xq rfl (y_call [.slice A0 (List.length a0) k0, .func (.func 46) #[] #[]] (.bool v1_5) func107 (fun W S => C.i_allOf_i_Constraint W hv1_5 ((s_arg h0).out W S) (isFn_of func46) (fun x0_2 r W2 hu2 hx2 => C.i_IsConstraint W2 hx2))) ?_
    refine p 2 ?_
    refine rend ?_
    replace h := H.done h
    subst h
    exact ret func96 rfl (vs := [.bool v1_5]) (.tmp (by kernel_rfl) .nil) rfl (fun W S => ⟨rfl, S.below⟩)
  replace h := H.f q1 h
  refine o_set 6 (congrArg Value.bool q1) ?_
  refine p 4 ?_
  refine rend ?_
  replace h := H.done h
  subst h
  exact ret func96 rfl (vs := [.bool false]) (.tmp (by kernel_rfl) .nil) rfl (fun W S => ⟨rfl, S.below⟩)
theorem C.slices_Index_i_Constraint_i_Constraint {a0 : (List Constraint)} {A0 : Option Addr} {k0 : Nat} {a1 : Constraint} {r : Int} (w : World) (h : X.slices_Index_i_Constraint_i_Constraint a0 a1 = some r) (h0 : RdT nConstraint w (.slice A0 (List.length a0) k0) a0) : Calls prog 167 #[.slice A0 (List.length a0) k0, .agg (eConstraint a1).toArray] w (Ret w (.int .i64 r)) := by
  refine calls (M := no) (args := [.slice A0 (List.length a0) k0, .agg (eConstraint a1).toArray]) func167 rfl ?_
  replace h : H (X.slices_Index_i_Constraint_i_Constraint a0 a1) (fun o => o = r) := H.mk h
  unfold X.slices_Index_i_Constraint_i_Constraint at h
  refine c_seq ?_
  refine r_start ?_
  refine xx rfl (x_box (eConstraint a1) fun g0_0 => ?_)
  refine p 1 ?_
  refine rend ?_
  refine c_seq ?_
  refine c_seq ?_
  refine r_start ?_
  refine p 3 ?_
  refine rend ?_
  refine c_block ?_
  refine joinE (X := Unit) 0 (H.or h) (fun (x : Unit) => x) (fun _ => [box g0_0 64 (eConstraint a1)]) (fun _ u => (jk u 0 19 [])) (fun h hj1 => ?_) ?_
  · skip
    refine rangeR (X := Unit) (s_arg h0) (fun (x : Unit) => x) (fun _ => [box g0_0 64 (eConstraint a1)]) (fun (j2 : Nat) _ u => (.slice A0 (List.length a0) k0 :: (jk u 1 2 (.pointer (some ⟨g0_0, 0, none⟩) :: (jk u 4 3 (.int .i64 (List.length a0 : Int) :: .int .i64 (j2 : Int) :: (jk u 9 10 []))))))) () h (by kernel_rfl) (by kernel_rfl) ?_ ?_
    · intro j2 x u x3 q4 hg5 hw6 h
      refine c_seq ?_
      refine r_start ?_
      refine p 1 ?_
      refine rend ?_
      refine c_seq ?_
      refine c_yes q4 ?_
      refine c_skip ?_
      refine c_seq ?_
      refine c_block ?_
      refine c_seq ?_
      refine r_start ?_
      refine p 2 ?_
      refine rend ?_
      refine c_seq ?_
      refine as_start 6 6 ?_
      refine aq 0 rfl (y_load (.agg (eConstraint a1).toArray) 0 g0_0 0) ?_
      refine ap 1 2 ?_
      refine aq 3 rfl (y_idx (e := nConstraint) (el := 64) hg5 (s_arg h0)) ?_
      refine aq 4 rfl (y_el (e := nConstraint) 0 (.agg (eConstraint x3).toArray) hg5 (s_arg h0)) ?_
      refine ap 5 1 ?_
      refine a_done ?_
      refine c_or (qConstraint a1 x3) (fun q7 => ?_) (fun q7 => ?_)
      · replace h := H.t q7 h
        refine c_seq ?_
        refine r_start ?_
        refine p 2 ?_
        refine rend ?_
        replace h := H.inr h
        replace h := H.done h
        subst h
        exact ret func167 rfl (vs := [.int .i64 (j2 : Int)]) (.tmp (by kernel_rfl) .nil) rfl (fun W S => ⟨rfl, S.below⟩)
      replace h := H.f q7 h
      refine c_skip ?_
      refine c_inb ?_
      refine r_start ?_
      refine p 2 ?_
      refine rend ?_
      refine c_set 8 (ci hw6) ?_
      replace h := H.inl h
      exact h () _ _ rfl (by kernel_rfl) (by kernel_rfl)
    · intro x u q4 h
      refine c_seq ?_
      refine r_start ?_
      refine p 1 ?_
      refine rend ?_
      refine c_seq ?_
      refine c_no q4 ?_
      refine cx ?_
      replace h := H.done h
      exact hj1 () _ _ h (by kernel_rfl) (by kernel_rfl)
  intro x u h
  refine c_seq ?_
  refine r_start ?_
  refine p 1 ?_
  refine rend ?_
  replace h := H.done h
  subst h
  exact ret func167 rfl (vs := [.int .i64 (-1)]) (.tmp (by kernel_rfl) .nil) rfl (fun W S => ⟨rfl, S.below⟩)
theorem C.slices_Contains_i_Constraint_i_Constraint {a0 : (List Constraint)} {A0 : Option Addr} {k0 : Nat} {a1 : Constraint} {r : Bool} (w : World) (h : X.slices_Contains_i_Constraint_i_Constraint a0 a1 = some r) (h0 : RdT nConstraint w (.slice A0 (List.length a0) k0) a0) : Calls prog 97 #[.slice A0 (List.length a0) k0, .agg (eConstraint a1).toArray] w (Ret w (.bool r)) := by
  refine calls (M := no) (args := [.slice A0 (List.length a0) k0, .agg (eConstraint a1).toArray]) func97 rfl ?_
  replace h : H (X.slices_Contains_i_Constraint_i_Constraint a0 a1) (fun o => o = r) := H.mk h
  unfold X.slices_Contains_i_Constraint_i_Constraint at h
  refine c_seq ?_
  refine r_start ?_
  refine xx rfl (x_box (eConstraint a1) fun g0_0 => ?_)
  refine p 1 ?_
  refine rend ?_
  refine c_seq ?_
  refine r_start ?_
  refine p 1 ?_
  refine xq rfl (y_load (.agg (eConstraint a1).toArray) 0 g0_0 0) ?_
  obtain ⟨v1_2, hv1_2, h⟩ := H.call h
  refine xq rfl (y_call [.slice A0 (List.length a0) k0, .agg (eConstraint a1).toArray] (.int .i64 v1_2) func167 (fun W S => C.slices_Index_i_Constraint_i_Constraint W hv1_2 ((s_arg h0).out W S))) ?_
  refine p 2 ?_
  refine rend ?_
  replace h := H.done h
  subst h
  exact ret func97 rfl (vs := [.bool (decide (v1_2 ≥ 0))]) (.tmp (by kernel_rfl) .nil) rfl (fun W S => ⟨rfl, S.below⟩)
theorem C.i_NeedlessConstraints_1 {a0 : Constraint} {a1 : Constraint} {p1 : Nat} {r : Bool} (w : World) (h : X.i_NeedlessConstraints_1 a1 a0 = some r) (hp1 : w.heap[p1]? = some (.cells (eConstraint a1 : List Value).toArray 64 (0, 0))) : Calls prog 99 #[.agg (eConstraint a0).toArray, .pointer (some ⟨p1, 0, none⟩)] w (Ret w (.bool r)) := by
  refine calls (M := no) (args := [.agg (eConstraint a0).toArray, .pointer (some ⟨p1, 0, none⟩)]) func99 rfl ?_
  replace h : H (X.i_NeedlessConstraints_1 a1 a0) (fun o => o = r) := H.mk h
  unfold X.i_NeedlessConstraints_1 at h
  refine c_seq ?_
  refine r_start ?_
  refine xx rfl (x_box (eConstraint a0) fun g0_0 => ?_)
  refine p 1 ?_
  refine rend ?_
  refine c_seq ?_
  refine c_block ?_
  refine c_seq ?_
  refine r_start ?_
  refine p 1 ?_
  refine xq rfl (y_load (.int .i64 a0.Kind) 0 g0_0 0) ?_
  refine p 1 ?_
  refine xq rfl (y_ld0 (.int .i64 a1.Kind) p1 0 hp1) ?_
  refine p 2 ?_
  refine rend ?_
  refine c_or (a0.Kind != a1.Kind) (fun q1 => ?_) (fun q1 => ?_)
  · replace h := H.t q1 h
    refine c_seq ?_
    refine r_start ?_
    refine p 1 ?_
    refine rend ?_
    replace h := H.done h
    subst h
    exact ret func99 rfl (vs := [.bool false]) (.tmp (by kernel_rfl) .nil) rfl (fun W S => ⟨rfl, S.below⟩)
  replace h := H.f q1 h
  refine c_seq ?_
  refine r_start ?_
  refine p 1 ?_
  refine xq rfl (y_ld0 (.int .i64 a1.Kind) p1 0 hp1) ?_
  refine p 2 ?_
  refine br (a1.Kind == 0) (fun q2 => ?_) (fun q2 => ?_)
  · replace h := H.t q2 h
    refine o_set 14 (congrArg Value.bool q2) ?_
    refine p 5 ?_
    refine rend ?_
    refine c_t (by kernel_rfl) ?_
    refine c_seq ?_
    refine r_start ?_
    refine p 1 ?_
    refine xq rfl (y_load (.int .i64 a0.Value) 0 g0_0 1) ?_
    refine p 1 ?_
    refine xq rfl (y_ld0 (.int .i64 a1.Value) p1 1 hp1) ?_
    refine p 2 ?_
    refine rend ?_
    replace h := H.done h
    subst h
    exact ret func99 rfl (vs := [.bool (decide (a0.Value < a1.Value))]) (.tmp (by kernel_rfl) .nil) rfl (fun W S => ⟨rfl, S.below⟩)
  replace h := H.f q2 h
  refine o_set 14 (congrArg Value.bool q2) ?_
  refine p 1 ?_
  refine xq rfl (y_ld0 (.int .i64 a1.Kind) p1 0 hp1) ?_
  refine p 3 ?_
  refine rend ?_
  refine c_or (a1.Kind == 4) (fun q3 => ?_) (fun q3 => ?_)
  · replace h := H.t q3 h
    refine c_seq ?_
    refine r_start ?_
    refine p 1 ?_
    refine xq rfl (y_load (.int .i64 a0.Value) 0 g0_0 1) ?_
    refine p 1 ?_
    refine xq rfl (y_ld0 (.int .i64 a1.Value) p1 1 hp1) ?_
    refine p 2 ?_
    refine rend ?_
    replace h := H.done h
    subst h
    exact ret func99 rfl (vs := [.bool (decide (a0.Value < a1.Value))]) (.tmp (by kernel_rfl) .nil) rfl (fun W S => ⟨rfl, S.below⟩)
  replace h := H.f q3 h
  refine c_skip ?_
  refine c_inb ?_
  refine c_seq ?_
  refine r_start ?_
  refine p 1 ?_
  refine xq rfl (y_ld0 (.int .i64 a1.Kind) p1 0 hp1) ?_
  refine p 2 ?_
  refine br (a1.Kind == 2) (fun q4 => ?_) (fun q4 => ?_)
  · replace h := H.t q4 h
    refine o_set 27 (congrArg Value.bool q4) ?_
    refine p 1 ?_
    refine xq rfl (y_load (.int .i64 a0.Value) 0 g0_0 1) ?_
    refine p 1 ?_
    refine xq rfl (y_ld0 (.int .i64 a1.Value) p1 1 hp1) ?_
    refine p 3 ?_
    refine rend ?_
    replace h := H.done h
    subst h
    exact ret func99 rfl (vs := [.bool (decide (a0.Value > a1.Value))]) (.tmp (by kernel_rfl) .nil) rfl (fun W S => ⟨rfl, S.below⟩)
  replace h := H.f q4 h
  refine o_set 27 (congrArg Value.bool q4) ?_
  refine p 7 ?_
  refine rend ?_
  replace h := H.done h
  subst h
  exact ret func99 rfl (vs := [.bool false]) (.tmp (by kernel_rfl) .nil) rfl (fun W S => ⟨rfl, S.below⟩)
theorem C.i_NeedlessConstraints {a0 : (List Constraint)} {A0 : Option Addr} {k0 : Nat} {r : ((List Int) × Bool)} (w : World) (h : X.i_NeedlessConstraints a0 = some r) (h0 : RdT nConstraint w (.slice A0 (List.length a0) k0) a0) : Calls prog 28 #[.slice A0 (List.length a0) k0] w (RetR (eI .i64) 3 w r.1 (fun v => .tuple #[v, .bool r.2])) := by
  refine calls (M := no) (args := [.slice A0 (List.length a0) k0]) func28 rfl ?_
  replace h : H (X.i_NeedlessConstraints a0) (fun o => o = r) := H.mk h
  unfold X.i_NeedlessConstraints at h
  refine c_seq ?_
  refine r_start ?_
  refine p 2 ?_
  refine rend ?_
  refine c_seq ?_
  refine c_seq ?_
  refine r_start ?_
  refine p 1 ?_
  obtain ⟨v1_1, hv1_1, h⟩ := H.call h
  refine xq rfl (y_call [.slice A0 (List.length a0) k0] (.bool v1_1) func96 (fun W S => C.i_areConstraints W hv1_1 ((s_arg h0).out W S))) ?_
  refine p 1 ?_
  refine rend ?_
  refine c_or (!v1_1) (fun q1 => ?_) (fun q1 => ?_)
  · replace h := H.t q1 h
    refine c_seq ?_
    refine r_start ?_
    refine p 2 ?_
    refine rend ?_
    replace h := H.done h
    subst h
    exact ret func28 rfl (vs := [.slice none 0 0, .bool false]) (.tmp (by kernel_rfl) (.tmp (by kernel_rfl) .nil)) rfl (fun W S => ⟨none, 0, rfl, World.ownsRow_nil _ _ _ _, S.below⟩)
  replace h := H.f q1 h
  refine c_skip ?_
  refine c_seq ?_
  refine r_start ?_
  refine p 1 ?_
  refine rend ?_
  refine c_seq ?_
  refine c_seq ?_
  refine r_start ?_
  refine p 3 ?_
  refine rend ?_
  refine c_block ?_
  refine c_nil (eI .i64) 3 ?_
  refine joinH (X := ((List Int) × Option Addr × Nat)) 0 (H.bnd h) (fun ⟨l5, A6, k7⟩ => l5) (fun ⟨l5, A6, k7⟩ => [rowT (eI .i64) w.heap.size 3 (.slice A6 (List.length l5) k7) l5]) (fun ⟨l5, A6, k7⟩ u => (jk u 0 4 (.slice A6 (List.length l5) k7 :: (jk u 5 30 [])))) (fun h hj8 => ?_) ?_
  · skip
    refine rangeR (X := ((List Int) × Option Addr × Nat)) (s_arg h0) (fun ⟨l2, A3, k4⟩ => l2) (fun ⟨l2, A3, k4⟩ => [rowT (eI .i64) w.heap.size 3 (.slice A3 (List.length l2) k4) l2]) (fun (j9 : Nat) ⟨l2, A3, k4⟩ u => (.slice A0 (List.length a0) k0 :: (jk u 1 3 (.slice A3 (List.length l2) k4 :: (jk u 5 6 (.slice A0 (List.length a0) k0 :: .int .i64 (List.length a0 : Int) :: .int .i64 (j9 : Int) :: (jk u 14 21 []))))))) (([] : List Int), none, 0) h (by kernel_rfl) (by kernel_rfl) ?_ ?_
    · intro j9 x u x10 q11 hg12 hw13 h
      obtain ⟨l2, A3, k4⟩ := x
      refine c_seq ?_
      refine r_start ?_
      refine p 1 ?_
      refine rend ?_
      refine c_seq ?_
      refine c_yes q11 ?_
      refine c_skip ?_
      refine c_seq ?_
      refine c_block ?_
      refine c_seq ?_
      refine r_start ?_
      refine p 1 ?_
      refine xq rfl (y_idx (e := nConstraint) (el := 64) hg12 (s_arg h0)) ?_
      refine xq rfl (y_el (e := nConstraint) 0 (.agg (eConstraint x10).toArray) hg12 (s_arg h0)) ?_
      refine xx rfl (x_new (eConstraint zConstraint) fun g6_3 => ?_)
      refine p 1 ?_
      refine xx rfl (x_sto 1 g6_3 0 (eConstraint x10) ?_)
      refine rend ?_
      refine c_seq ?_
      refine as_start 11 11 ?_
      refine ap 0 2 ?_
      obtain ⟨y7_2, hy7_2, h⟩ := H.call h
      refine aq 2 rfl (y_cutl (e := nConstraint) (el := 64) hy7_2 (s_arg h0)) ?_
      refine aq 3 rfl (y_load (.agg (eConstraint x10).toArray) 1 g6_3 0) ?_
      obtain ⟨v7_4, hv7_4, h⟩ := H.call h
      refine aq 4 rfl (y_call [.slice (cutA nConstraint A0 k0 (Int.toNat 0)) (List.length y7_2) (k0 - Int.toNat 0), .agg (eConstraint x10).toArray] (.bool v7_4) func97 (fun W S => C.slices_Contains_i_Constraint_i_Constraint W hv7_4 ((s_cut hy7_2 (s_arg h0)).out W S))) ?_
      refine ap 5 1 ?_
      refine br v7_4 (fun q14 => ?_) (fun q14 => ?_)
      · replace h := H.t q14 h
        refine a_set 23 (congrArg Value.bool q14) ?_
        refine ap 6 5 ?_
        refine a_done ?_
        refine c_seq ?_
        refine r_start ?_
        refine p 1 ?_
        refine rend ?_
        refine c_t (by kernel_rfl) ?_
        refine r_start ?_
        refine p 2 ?_
        refine xx rfl (e_lit (e := (eI .i64)) (el := 3) [.int .i64 (j9 : Int)] ([(j9 : Int)] : List Int) fun A9_2 k9_2 => ?_)
        obtain ⟨y9_3, hy9_3, h⟩ := H.call h
        refine xx rfl (e_app 0 hy9_3 (s_own 2) fun A9_3 k9_3 => ?_)
        refine p 1 ?_
        refine rend ?_
        refine c_inb ?_
        refine r_start ?_
        refine p 2 ?_
        refine rend ?_
        refine c_set 13 (ci hw13) ?_
        replace h := H.inl h
        exact h (y9_3, A9_3, k9_3) _ _ rfl (by kernel_rfl) (by kernel_rfl)
      replace h := H.f q14 h
      refine a_set 23 (congrArg Value.bool q14) ?_
      refine ap 6 2 ?_
      obtain ⟨v7_8, hv7_8, h⟩ := H.call h
      refine aq 8 rfl (y_call [.slice A0 (List.length a0) k0, .func (.func 99) #[] #[.pointer (some ⟨g6_3, 0, none⟩)]] (.bool v7_8) func98 (fun W S => C.slices_ContainsFunc_i_Constraint_i_Constraint W hv7_8 ((s_arg h0).out W S) (isFn_of func99) (fun x0_2 r W2 hu2 hx2 => C.i_NeedlessConstraints_1 W2 hx2 (bx_up (S.bx 1) hu2)))) ?_
      refine ap 9 2 ?_
      refine a_done ?_
      refine c_seq ?_
      refine r_start ?_
      refine p 1 ?_
      refine rend ?_
      refine c_or v7_8 (fun q15 => ?_) (fun q15 => ?_)
      · replace h := H.t q15 h
        refine r_start ?_
        refine p 2 ?_
        refine xx rfl (e_lit (e := (eI .i64)) (el := 3) [.int .i64 (j9 : Int)] ([(j9 : Int)] : List Int) fun A9_2 k9_2 => ?_)
        obtain ⟨y9_3, hy9_3, h⟩ := H.call h
        refine xx rfl (e_app 0 hy9_3 (s_own 2) fun A9_3 k9_3 => ?_)
        refine p 1 ?_
        refine rend ?_
        refine c_inb ?_
        refine r_start ?_
        refine p 2 ?_
        refine rend ?_
        refine c_set 13 (ci hw13) ?_
        replace h := H.inl h
        exact h (y9_3, A9_3, k9_3) _ _ rfl (by kernel_rfl) (by kernel_rfl)
      replace h := H.f q15 h
      refine c_skip ?_
      refine c_inb ?_
      refine r_start ?_
      refine p 2 ?_
      refine rend ?_
      refine c_set 13 (ci hw13) ?_
      replace h := H.inl h
      exact h (l2, A3, k4) _ _ rfl (by kernel_rfl) (by kernel_rfl)
    · intro x u q11 h
      obtain ⟨l2, A3, k4⟩ := x
      refine c_seq ?_
      refine r_start ?_
      refine p 1 ?_
      refine rend ?_
      refine c_seq ?_
      refine c_no q11 ?_
      refine cx ?_
      replace h := H.done h
      exact hj8 (l2, A3, k4) _ _ h (by kernel_rfl) (by kernel_rfl)
  intro x u h
  obtain ⟨l5, A6, k7⟩ := x
  refine c_seq ?_
  refine r_start ?_
  refine p 3 ?_
  refine rend ?_
  replace h := H.done h
  subst h
  exact ret func28 rfl (vs := [.slice A6 (List.length l5) k7, .bool true]) (.tmp (by kernel_rfl) (.tmp (by kernel_rfl) .nil)) rfl (fun W S => ⟨_, _, rfl, S.row 0, S.below⟩)
theorem C.s_ruGood {a0 : Constraint} {r : Bool} (w : World) (h : X.s_ruGood a0 = some r) : Calls prog 109 #[.agg (eConstraint a0).toArray] w (Ret w (.bool r)) := by
  refine calls (M := no) (args := [.agg (eConstraint a0).toArray]) func109 rfl ?_
  replace h : H (X.s_ruGood a0) (fun o => o = r) := H.mk h
  unfold X.s_ruGood at h
  refine c_seq ?_
  refine r_start ?_
  refine xx rfl (x_box (eConstraint a0) fun g0_0 => ?_)
  refine p 1 ?_
  refine rend ?_
  refine c_seq ?_
  refine as_start 22 22 ?_
  refine ap 0 1 ?_
  refine aq 1 rfl (y_load (.int .i64 a0.Kind) 0 g0_0 0) ?_
  obtain ⟨v1_2, hv1_2, h⟩ := H.call h
  refine aq 2 rfl (y_call [.int .i64 a0.Kind, .int .i64 0, .int .i64 4] (.bool v1_2) func145 (fun W S => C.s_l1In W hv1_2)) ?_
  refine ap 3 1 ?_
  refine br v1_2 (fun q1 => ?_) (fun q1 => ?_)
  · replace h := H.t q1 h
    refine a_set 6 (congrArg Value.bool q1) ?_
    refine ap 4 1 ?_
    refine aq 5 rfl (y_load (.int .i64 a0.Value) 0 g0_0 1) ?_
    refine ap 6 1 ?_
    refine aq 7 rfl (y_load (.int .i64 a0.Kind) 0 g0_0 0) ?_
    obtain ⟨v1_8, hv1_8, h⟩ := H.call h
    refine aq 8 rfl (y_call [.int .i64 a0.Kind] (.int .i64 v1_8) func172 (fun W S => C.s_ruMost W hv1_8)) ?_
    obtain ⟨v1_9, hv1_9, h⟩ := H.call h
    refine aq 9 rfl (y_call [.int .i64 a0.Value, .int .i64 0, .int .i64 v1_8] (.bool v1_9) func145 (fun W S => C.s_l1In W hv1_9)) ?_
    refine ap 10 2 ?_
    refine br v1_9 (fun q2 => ?_) (fun q2 => ?_)
    · replace h := H.t q2 h
      refine a_set 14 (congrArg Value.bool q2) ?_
      refine ap 12 1 ?_
      refine aq 13 rfl (y_load (.int .i64 a0.Kind) 0 g0_0 0) ?_
      refine ap 14 2 ?_
      refine br (a0.Kind != 3) (fun q3 => ?_) (fun q3 => ?_)
      · replace h := H.t q3 h
        refine a_set 18 (congrArg Value.bool q3) ?_
        refine ap 16 6 ?_
        refine a_done ?_
        replace h := H.done h
        subst h
        exact ret func109 rfl (vs := [.bool true]) (.tmp (by kernel_rfl) .nil) rfl (fun W S => ⟨rfl, S.below⟩)
      replace h := H.f q3 h
      refine a_set 18 (congrArg Value.bool q3) ?_
      refine ap 16 1 ?_
      refine aq 17 rfl (y_load (.int .i64 a0.Value) 0 g0_0 1) ?_
      obtain ⟨v1_18, hv1_18, h⟩ := H.call h
      refine aq 18 rfl (y_call [.int .i64 a0.Value, .int .i64 0, .int .i64 3] (.bool v1_18) func145 (fun W S => C.s_l1In W hv1_18)) ?_
      refine ap 19 3 ?_
      refine a_done ?_
      replace h := H.done h
      subst h
      exact ret func109 rfl (vs := [.bool v1_18]) (.tmp (by kernel_rfl) .nil) rfl (fun W S => ⟨rfl, S.below⟩)
    replace h := H.f q2 h
    refine a_set 14 (congrArg Value.bool q2) ?_
    refine ap 12 10 ?_
    refine a_done ?_
    replace h := H.done h
    subst h
    exact ret func109 rfl (vs := [.bool false]) (.tmp (by kernel_rfl) .nil) rfl (fun W S => ⟨rfl, S.below⟩)
  replace h := H.f q1 h
  refine a_set 6 (congrArg Value.bool q1) ?_
  refine ap 4 18 ?_
  refine a_done ?_
  replace h := H.done h
  subst h
  exact ret func109 rfl (vs := [.bool false]) (.tmp (by kernel_rfl) .nil) rfl (fun W S => ⟨rfl, S.below⟩)
theorem C.s_ruAll {a0 : (List Constraint)} {A0 : Option Addr} {k0 : Nat} {r : Bool} (w : World) (h : X.s_ruAll a0 = some r) (h0 : RdT nConstraint w (.slice A0 (List.length a0) k0) a0) : Calls prog 100 #[.slice A0 (List.length a0) k0] w (Ret w (.bool r)) := by
  refine calls (M := no) (args := [.slice A0 (List.length a0) k0]) func100 rfl ?_
  replace h : H (X.s_ruAll a0) (fun o => o = r) := H.mk h
  unfold X.s_ruAll at h
  refine c_seq ?_
  refine r_start ?_
  refine p 1 ?_
  refine rend ?_
  refine c_seq ?_
  refine c_seq ?_
  refine r_start ?_
  refine p 3 ?_
  refine rend ?_
  refine c_block ?_
  refine joinE (X := Unit) 0 (H.or h) (fun (x : Unit) => x) (fun _ => []) (fun _ u => (.slice A0 (List.length a0) k0 :: (jk u 1 17 []))) (fun h hj1 => ?_) ?_
  · skip
    refine rangeR (X := Unit) (s_arg h0) (fun (x : Unit) => x) (fun _ => []) (fun (j2 : Nat) _ u => (.slice A0 (List.length a0) k0 :: (jk u 1 4 (.slice A0 (List.length a0) k0 :: .int .i64 (List.length a0 : Int) :: .int .i64 (j2 : Int) :: (jk u 8 10 []))))) () h (by kernel_rfl) (by kernel_rfl) ?_ ?_
    · intro j2 x u x3 q4 hg5 hw6 h
      refine c_seq ?_
      refine r_start ?_
      refine p 1 ?_
      refine rend ?_
      refine c_seq ?_
      refine c_yes q4 ?_
      refine c_skip ?_
      refine c_seq ?_
      refine c_block ?_
      refine c_seq ?_
      refine r_start ?_
      refine xq rfl (y_idx (e := nConstraint) (el := 64) hg5 (s_arg h0)) ?_
      refine xq rfl (y_el (e := nConstraint) 0 (.agg (eConstraint x3).toArray) hg5 (s_arg h0)) ?_
      refine xx rfl (x_new (eConstraint zConstraint) fun g3_2 => ?_)
      refine xx rfl (x_sto 0 g3_2 0 (eConstraint x3) ?_)
      refine rend ?_
      refine c_seq ?_
      refine r_start ?_
      refine xq rfl (y_load (.agg (eConstraint x3).toArray) 0 g3_2 0) ?_
      obtain ⟨v4_1, hv4_1, h⟩ := H.call h
      refine xq rfl (y_call [.agg (eConstraint x3).toArray] (.bool v4_1) func109 (fun W S => C.s_ruGood W hv4_1)) ?_
      refine p 1 ?_
      refine rend ?_
      refine c_or (!v4_1) (fun q7 => ?_) (fun q7 => ?_)
      · replace h := H.t q7 h
        refine c_seq ?_
        refine r_start ?_
        refine p 1 ?_
        refine rend ?_
        replace h := H.inr h
        replace h := H.done h
        subst h
        exact ret func100 rfl (vs := [.bool false]) (.tmp (by kernel_rfl) .nil) rfl (fun W S => ⟨rfl, S.below⟩)
      replace h := H.f q7 h
      refine c_skip ?_
      refine c_inb ?_
      refine r_start ?_
      refine p 2 ?_
      refine rend ?_
      refine c_set 7 (ci hw6) ?_
      replace h := H.inl h
      exact h () _ _ rfl (by kernel_rfl) (by kernel_rfl)
    · intro x u q4 h
      refine c_seq ?_
      refine r_start ?_
      refine p 1 ?_
      refine rend ?_
      refine c_seq ?_
      refine c_no q4 ?_
      refine cx ?_
      replace h := H.done h
      exact hj1 () _ _ h (by kernel_rfl) (by kernel_rfl)
  intro x u h
  refine c_seq ?_
  refine r_start ?_
  refine p 4 ?_
  refine rend ?_
  replace h := H.done h
  subst h
  exact ret func100 rfl (vs := [.bool (decide ((List.length a0 : Int) ≤ 10))]) (.tmp (by kernel_rfl) .nil) rfl (fun W S => ⟨rfl, S.below⟩)
theorem C.s_ruImplies {a0 : Constraint} {a1 : Constraint} {r : Bool} (w : World) (h : X.s_ruImplies a0 a1 = some r) : Calls prog 101 #[.agg (eConstraint a0).toArray, .agg (eConstraint a1).toArray] w (Ret w (.bool r)) := by
  refine calls (M := no) (args := [.agg (eConstraint a0).toArray, .agg (eConstraint a1).toArray]) func101 rfl ?_
  replace h : H (X.s_ruImplies a0 a1) (fun o => o = r) := H.mk h
  unfold X.s_ruImplies at h
  refine c_seq ?_
  refine r_start ?_
  refine xx rfl (x_box (eConstraint a0) fun g0_0 => ?_)
  refine xx rfl (x_box (eConstraint a1) fun g0_1 => ?_)
  refine p 1 ?_
  refine rend ?_
  refine c_seq ?_
  refine c_seq ?_
  refine r_start ?_
  refine p 1 ?_
  refine xq rfl (y_load (.int .i64 a0.Kind) 0 g0_0 0) ?_
  refine p 1 ?_
  refine xq rfl (y_load (.int .i64 a1.Kind) 1 g0_1 0) ?_
  refine p 1 ?_
  refine rend ?_
  refine c_or (a0.Kind != a1.Kind) (fun q1 => ?_) (fun q1 => ?_)
  · replace h := H.t q1 h
    refine c_seq ?_
    refine r_start ?_
    refine p 1 ?_
    refine rend ?_
    replace h := H.done h
    subst h
    exact ret func101 rfl (vs := [.bool false]) (.tmp (by kernel_rfl) .nil) rfl (fun W S => ⟨rfl, S.below⟩)
  replace h := H.f q1 h
  refine c_skip ?_
  refine c_seq ?_
  refine c_seq ?_
  refine r_start ?_
  refine p 1 ?_
  refine xq rfl (y_load (.int .i64 a0.Kind) 0 g0_0 0) ?_
  refine rend ?_
  refine c_block ?_
  refine c_seq ?_
  refine c_seq ?_
  refine r_start ?_
  refine p 2 ?_
  refine rend ?_
  refine c_or (a0.Kind == 0) (fun q2 => ?_) (fun q2 => ?_)
  · replace h := H.t q2 h
    refine c_skip ?_
    refine c_yes q2 ?_
    refine c_seq ?_
    refine r_start ?_
    refine p 1 ?_
    refine xq rfl (y_load (.int .i64 a0.Value) 0 g0_0 1) ?_
    refine p 1 ?_
    refine xq rfl (y_load (.int .i64 a1.Value) 1 g0_1 1) ?_
    refine p 2 ?_
    refine rend ?_
    replace h := H.done h
    subst h
    exact ret func101 rfl (vs := [.bool (decide (a0.Value < a1.Value))]) (.tmp (by kernel_rfl) .nil) rfl (fun W S => ⟨rfl, S.below⟩)
  replace h := H.f q2 h
  refine r_start ?_
  refine p 2 ?_
  refine rend ?_
  refine c_or (a0.Kind == 4) (fun q3 => ?_) (fun q3 => ?_)
  · replace h := H.t q3 h
    refine c_seq ?_
    refine r_start ?_
    refine p 1 ?_
    refine xq rfl (y_load (.int .i64 a0.Value) 0 g0_0 1) ?_
    refine p 1 ?_
    refine xq rfl (y_load (.int .i64 a1.Value) 1 g0_1 1) ?_
    refine p 2 ?_
    refine rend ?_
    replace h := H.done h
    subst h
    exact ret func101 rfl (vs := [.bool (decide (a0.Value < a1.Value))]) (.tmp (by kernel_rfl) .nil) rfl (fun W S => ⟨rfl, S.below⟩)
  replace h := H.f q3 h
  refine c_seq ?_
  refine r_start ?_
  refine p 2 ?_
  refine rend ?_
  refine c_or (a0.Kind == 2) (fun q4 => ?_) (fun q4 => ?_)
  · replace h := H.t q4 h
    refine c_seq ?_
    refine r_start ?_
    refine p 1 ?_
    refine xq rfl (y_load (.int .i64 a0.Value) 0 g0_0 1) ?_
    refine p 1 ?_
    refine xq rfl (y_load (.int .i64 a1.Value) 1 g0_1 1) ?_
    refine p 2 ?_
    refine rend ?_
    replace h := H.done h
    subst h
    exact ret func101 rfl (vs := [.bool (decide (a0.Value > a1.Value))]) (.tmp (by kernel_rfl) .nil) rfl (fun W S => ⟨rfl, S.below⟩)
  replace h := H.f q4 h
  refine c_skip ?_
  refine c_inb ?_
  refine c_seq ?_
  refine r_start ?_
  refine p 1 ?_
  refine rend ?_
  replace h := H.done h
  subst h
  exact ret func101 rfl (vs := [.bool false]) (.tmp (by kernel_rfl) .nil) rfl (fun W S => ⟨rfl, S.below⟩)
theorem C.s_NeedlessConstraints {a0 : (List Constraint)} {A0 : Option Addr} {k0 : Nat} {r : ((List Int) × Bool)} (w : World) (h : X.s_NeedlessConstraints a0 = some r) (h0 : RdT nConstraint w (.slice A0 (List.length a0) k0) a0) : Calls prog 29 #[.slice A0 (List.length a0) k0] w (RetR (eI .i64) 3 w r.1 (fun v => .tuple #[v, .bool r.2])) := by
  refine calls (M := no) (args := [.slice A0 (List.length a0) k0]) func29 rfl ?_
  replace h : H (X.s_NeedlessConstraints a0) (fun o => o = r) := H.mk h
  unfold X.s_NeedlessConstraints at h
  refine c_seq ?_
  refine r_start ?_
  refine p 2 ?_
  refine rend ?_
  refine c_seq ?_
  refine c_seq ?_
  refine r_start ?_
  refine p 1 ?_
  obtain ⟨v1_1, hv1_1, h⟩ := H.call h
  refine xq rfl (y_call [.slice A0 (List.length a0) k0] (.bool v1_1) func100 (fun W S => C.s_ruAll W hv1_1 ((s_arg h0).out W S))) ?_
  refine p 1 ?_
  refine rend ?_
  refine c_or (!v1_1) (fun q1 => ?_) (fun q1 => ?_)
  · replace h := H.t q1 h
    refine c_seq ?_
    refine r_start ?_
    refine p 2 ?_
    refine rend ?_
    replace h := H.done h
    subst h
    exact ret func29 rfl (vs := [.slice none 0 0, .bool false]) (.tmp (by kernel_rfl) (.tmp (by kernel_rfl) .nil)) rfl (fun W S => ⟨none, 0, rfl, World.ownsRow_nil _ _ _ _, S.below⟩)
  replace h := H.f q1 h
  refine c_skip ?_
  refine c_seq ?_
  refine r_start ?_
  refine p 1 ?_
  refine rend ?_
  refine c_seq ?_
  refine c_seq ?_
  refine r_start ?_
  refine p 3 ?_
  refine rend ?_
  refine c_block ?_
  refine c_nil (eI .i64) 3 ?_
  refine joinH (X := ((List Int) × Option Addr × Nat)) 0 (H.bnd h) (fun ⟨l5, A6, k7⟩ => l5) (fun ⟨l5, A6, k7⟩ => [rowT (eI .i64) w.heap.size 3 (.slice A6 (List.length l5) k7) l5]) (fun ⟨l5, A6, k7⟩ u => (jk u 0 4 (.slice A6 (List.length l5) k7 :: (jk u 5 46 [])))) (fun h hj8 => ?_) ?_
  · skip
    refine rangeR (X := ((List Int) × Option Addr × Nat)) (s_arg h0) (fun ⟨l2, A3, k4⟩ => l2) (fun ⟨l2, A3, k4⟩ => [rowT (eI .i64) w.heap.size 3 (.slice A3 (List.length l2) k4) l2]) (fun (j9 : Nat) ⟨l2, A3, k4⟩ u => (.slice A0 (List.length a0) k0 :: (jk u 1 3 (.slice A3 (List.length l2) k4 :: (jk u 5 8 (.slice A0 (List.length a0) k0 :: .int .i64 (List.length a0 : Int) :: .int .i64 (j9 : Int) :: (jk u 16 35 []))))))) (([] : List Int), none, 0) h (by kernel_rfl) (by kernel_rfl) ?_ ?_
    · intro j9 x u x10 q11 hg12 hw13 h
      obtain ⟨l2, A3, k4⟩ := x
      refine c_seq ?_
      refine r_start ?_
      refine p 1 ?_
      refine rend ?_
      refine c_seq ?_
      refine c_yes q11 ?_
      refine c_skip ?_
      refine c_seq ?_
      refine c_block ?_
      refine c_seq ?_
      refine r_start ?_
      refine p 1 ?_
      refine xq rfl (y_idx (e := nConstraint) (el := 64) hg12 (s_arg h0)) ?_
      refine xq rfl (y_el (e := nConstraint) 0 (.agg (eConstraint x10).toArray) hg12 (s_arg h0)) ?_
      refine xx rfl (x_new (eConstraint zConstraint) fun g6_3 => ?_)
      refine p 1 ?_
      refine xx rfl (x_sto 1 g6_3 0 (eConstraint x10) ?_)
      refine rend ?_
      refine c_seq ?_
      refine r_start ?_
      refine p 1 ?_
      refine rend ?_
      refine c_seq ?_
      refine c_seq ?_
      refine r_start ?_
      refine p 3 ?_
      refine rend ?_
      refine c_block ?_
      refine joinH (X := Bool) 2 (H.bnd h) (fun (x : Bool) => x) (fun b15 => [rowT (eI .i64) w.heap.size 3 (.slice A3 (List.length l2) k4) l2, box g6_3 64 (eConstraint x10)]) (fun b15 u => (.slice A0 (List.length a0) k0 :: (jk u 1 3 (.slice A3 (List.length l2) k4 :: .int .i64 (j9 : Int) :: (jk u 6 1 (.bool b15 :: (jk u 8 5 (.slice A0 (List.length a0) k0 :: .int .i64 (List.length a0 : Int) :: .int .i64 (j9 : Int) :: (jk u 16 35 []))))))))) (fun h hj16 => ?_) ?_
      · skip
        refine rangeR (X := Bool) (s_arg h0) (fun (x : Bool) => x) (fun b14 => [rowT (eI .i64) w.heap.size 3 (.slice A3 (List.length l2) k4) l2, box g6_3 64 (eConstraint x10)]) (fun (j17 : Nat) b14 u => (.slice A0 (List.length a0) k0 :: (jk u 1 3 (.slice A3 (List.length l2) k4 :: .int .i64 (j9 : Int) :: .pointer (some ⟨g6_3, 0, none⟩) :: .bool b14 :: (jk u 8 5 (.slice A0 (List.length a0) k0 :: .int .i64 (List.length a0 : Int) :: .int .i64 (j9 : Int) :: (jk u 16 4 (.slice A0 (List.length a0) k0 :: .int .i64 (List.length a0 : Int) :: .int .i64 (j17 : Int) :: (jk u 23 28 []))))))))) false h (by kernel_rfl) (by kernel_rfl) ?_ ?_
        · intro j17 b14 u x18 q19 hg20 hw21 h
          refine c_seq ?_
          refine r_start ?_
          refine p 1 ?_
          refine rend ?_
          refine c_seq ?_
          refine c_yes q19 ?_
          refine c_skip ?_
          refine c_seq ?_
          refine c_block ?_
          refine c_seq ?_
          refine r_start ?_
          refine p 1 ?_
          refine xq rfl (y_idx (e := nConstraint) (el := 64) hg20 (s_arg h0)) ?_
          refine xq rfl (y_el (e := nConstraint) 0 (.agg (eConstraint x18).toArray) hg20 (s_arg h0)) ?_
          refine xx rfl (x_new (eConstraint zConstraint) fun g10_3 => ?_)
          refine p 1 ?_
          refine xx rfl (x_sto 2 g10_3 0 (eConstraint x18) ?_)
          refine rend ?_
          refine r_start ?_
          refine p 2 ?_
          refine br b14 (fun q22 => ?_) (fun q22 => ?_)
          · replace h := H.t q22 h
            refine o_set 28 (congrArg Value.bool q22) ?_
            refine p 15 ?_
            refine rend ?_
            refine c_inb ?_
            refine r_start ?_
            refine p 2 ?_
            refine rend ?_
            refine c_set 22 (ci hw21) ?_
            replace h := H.inl h
            exact h true _ _ rfl (by kernel_rfl) (by kernel_rfl)
          replace h := H.f q22 h
          refine o_set 28 (congrArg Value.bool q22) ?_
          refine xq rfl (y_load (.agg (eConstraint x18).toArray) 2 g10_3 0) ?_
          refine xq rfl (y_load (.agg (eConstraint x10).toArray) 1 g6_3 0) ?_
          obtain ⟨v11_4, hv11_4, h⟩ := H.call h
          refine xq rfl (y_call [.agg (eConstraint x18).toArray, .agg (eConstraint x10).toArray] (.bool v11_4) func101 (fun W S => C.s_ruImplies W hv11_4)) ?_
          refine p 2 ?_
          refine br v11_4 (fun q23 => ?_) (fun q23 => ?_)
          · replace h := H.t q23 h
            refine o_set 33 (congrArg Value.bool q23) ?_
            refine p 10 ?_
            refine rend ?_
            refine c_inb ?_
            refine r_start ?_
            refine p 2 ?_
            refine rend ?_
            refine c_set 22 (ci hw21) ?_
            replace h := H.inl h
            exact h true _ _ rfl (by kernel_rfl) (by kernel_rfl)
          replace h := H.f q23 h
          refine o_set 33 (congrArg Value.bool q23) ?_
          refine p 4 ?_
          refine br (decide ((j17 : Int) < (j9 : Int))) (fun q24 => ?_) (fun q24 => ?_)
          · replace h := H.t q24 h
            refine o_set 37 (congrArg Value.bool q24) ?_
            refine xq rfl (y_load (.agg (eConstraint x10).toArray) 1 g6_3 0) ?_
            refine xq rfl (y_load (.agg (eConstraint x18).toArray) 2 g10_3 0) ?_
            refine p 4 ?_
            refine rend ?_
            refine c_inb ?_
            refine r_start ?_
            refine p 2 ?_
            refine rend ?_
            refine c_set 22 (ci hw21) ?_
            replace h := H.inl h
            exact h (qConstraint x10 x18) _ _ rfl (by kernel_rfl) (by kernel_rfl)
          replace h := H.f q24 h
          refine o_set 37 (congrArg Value.bool q24) ?_
          refine p 6 ?_
          refine rend ?_
          refine c_inb ?_
          refine r_start ?_
          refine p 2 ?_
          refine rend ?_
          refine c_set 22 (ci hw21) ?_
          replace h := H.inl h
          exact h false _ _ rfl (by kernel_rfl) (by kernel_rfl)
        · intro b14 u q19 h
          refine c_seq ?_
          refine r_start ?_
          refine p 1 ?_
          refine rend ?_
          refine c_seq ?_
          refine c_no q19 ?_
          refine cx ?_
          replace h := H.done h
          exact hj16 b14 _ _ h (by kernel_rfl) (by kernel_rfl)
      intro b15 u h
      refine c_seq ?_
      refine r_start ?_
      refine p 1 ?_
      refine rend ?_
      refine c_or b15 (fun q25 => ?_) (fun q25 => ?_)
      · replace h := H.t q25 h
        refine r_start ?_
        refine p 2 ?_
        refine xx rfl (e_lit (e := (eI .i64)) (el := 3) [.int .i64 (j9 : Int)] ([(j9 : Int)] : List Int) fun A14_2 k14_2 => ?_)
        obtain ⟨y14_3, hy14_3, h⟩ := H.call h
        refine xx rfl (e_app 0 hy14_3 (s_own 2) fun A14_3 k14_3 => ?_)
        refine p 1 ?_
        refine rend ?_
        refine c_inb ?_
        refine r_start ?_
        refine p 2 ?_
        refine rend ?_
        refine c_set 15 (ci hw13) ?_
        replace h := H.inl h
        exact h (y14_3, A14_3, k14_3) _ _ rfl (by kernel_rfl) (by kernel_rfl)
      replace h := H.f q25 h
      refine c_skip ?_
      refine c_inb ?_
      refine r_start ?_
      refine p 2 ?_
      refine rend ?_
      refine c_set 15 (ci hw13) ?_
      replace h := H.inl h
      exact h (l2, A3, k4) _ _ rfl (by kernel_rfl) (by kernel_rfl)
    · intro x u q11 h
      obtain ⟨l2, A3, k4⟩ := x
      refine c_seq ?_
      refine r_start ?_
      refine p 1 ?_
      refine rend ?_
      refine c_seq ?_
      refine c_no q11 ?_
      refine cx ?_
      replace h := H.done h
      exact hj8 (l2, A3, k4) _ _ h (by kernel_rfl) (by kernel_rfl)
  intro x u h
  obtain ⟨l5, A6, k7⟩ := x
  refine c_seq ?_
  refine r_start ?_
  refine p 3 ?_
  refine rend ?_
  replace h := H.done h
  subst h
  exact ret func29 rfl (vs := [.slice A6 (List.length l5) k7, .bool true]) (.tmp (by kernel_rfl) (.tmp (by kernel_rfl) .nil)) rfl (fun W S => ⟨_, _, rfl, S.row 0, S.below⟩)
theorem C.s_DrawLawfulSigns {fu : Nat} {a0 : (List Int)} {A0 : Option Addr} {k0 : Nat} {r : ((List Sign) × (List Constraint))} (w : World) (h : X.s_DrawLawfulSigns fu a0 = some r) (h0 : RdT (eI .u8) w (.slice A0 (List.length a0) k0) a0) : Calls prog 37 #[.slice A0 (List.length a0) k0] w (RetR2 nSign 38 nConstraint 64 w r.1 r.2 (fun v u => .tuple #[v, u])) := by
  refine calls (M := no) (args := [.slice A0 (List.length a0) k0]) func37 rfl ?_
  replace h : H (X.s_DrawLawfulSigns fu a0) (fun o => o = r) := H.mk h
  unfold X.s_DrawLawfulSigns at h
  refine c_seq ?_
  refine r_start ?_
  refine p 2 ?_
  refine rend ?_
  refine c_seq ?_
  refine r_start ?_
  refine p 2 ?_
  refine xx rfl (x_box [.slice A0 (List.length a0) k0, .int .i64 0, .int .u64 0] fun g1_2 => ?_)
  refine p 1 ?_
  refine rend ?_
  refine c_seq ?_
  refine r_start ?_
  refine p 1 ?_
  obtain ⟨v2_1, hv2_1, h⟩ := H.call h
  refine xx rfl (e_cqR (cs' := [.slice A0 (List.length a0) k0, .int .i64 v2_1.2.1, .int .u64 v2_1.2.2]) 0 [.pointer (some ⟨g1_2, 0, none⟩)] (fun v => v) func77 (fun W S => C.s_l1Cur_signList W hv2_1 (S.bx 0) ((s_arg h0).out W S) (ap_arg h0 S 0)) fun A2_1 k2_1 => ?_)
  refine p 1 ?_
  obtain ⟨v2_3, hv2_3, h⟩ := H.call h
  refine xx rfl (e_cqR (cs' := [.slice A0 (List.length a0) k0, .int .i64 v2_3.2.1, .int .u64 v2_3.2.2]) 0 [.pointer (some ⟨g1_2, 0, none⟩)] (fun v => v) func95 (fun W S => C.s_l1Cur_constraints W hv2_3 (S.bx 0) ((s_arg h0).out W S) (ap_arg h0 S 0)) fun A2_3 k2_3 => ?_)
  refine p 2 ?_
  refine rend ?_
  replace h := H.done h
  subst h
  exact ret func37 rfl (vs := [.slice A2_1 (List.length v2_1.1) k2_1, .slice A2_3 (List.length v2_3.1) k2_3]) (.tmp (by kernel_rfl) (.tmp (by kernel_rfl) .nil)) rfl (fun W S => ⟨_, _, _, _, rfl, (S.row 1), (S.row 2), (S.two2 1 2 (by decide)), S.below⟩)
theorem C.s_DrawMostBroken {fu : Nat} {a0 : (List Int)} {A0 : Option Addr} {k0 : Nat} {r : ((List Sign) × (List Constraint))} (w : World) (h : X.s_DrawMostBroken fu a0 = some r) (h0 : RdT (eI .u8) w (.slice A0 (List.length a0) k0) a0) : Calls prog 30 #[.slice A0 (List.length a0) k0] w (RetR2 nSign 38 nConstraint 64 w r.1 r.2 (fun v u => .tuple #[v, u])) := by
  refine calls (M := no) (args := [.slice A0 (List.length a0) k0]) func30 rfl ?_
  replace h : H (X.s_DrawMostBroken fu a0) (fun o => o = r) := H.mk h
  unfold X.s_DrawMostBroken at h
  refine c_seq ?_
  refine r_start ?_
  refine p 2 ?_
  refine rend ?_
  refine c_seq ?_
  refine r_start ?_
  refine p 1 ?_
  obtain ⟨v1_1, hv1_1, h⟩ := H.call h
  refine xx rfl (e_cr2 [.slice A0 (List.length a0) k0] (fun v u => .tuple #[v, u]) func37 (fun W S => C.s_DrawLawfulSigns W hv1_1 ((s_arg h0).out W S)) fun A1_1 k1_1 AA1_1 kk1_1 => ?_)
  refine p 4 ?_
  refine rend ?_
  replace h := H.done h
  subst h
  exact ret func30 rfl (vs := [.slice A1_1 (List.length v1_1.1) k1_1, .slice AA1_1 (List.length v1_1.2) kk1_1]) (.tmp (by kernel_rfl) (.tmp (by kernel_rfl) .nil)) rfl (fun W S => ⟨_, _, _, _, rfl, (S.row 0), (S.row 1), (S.two2 0 1 (by decide)), S.below⟩)
theorem C.i_those_i_Sign {a0 : (List Sign)} {A0 : Option Addr} {k0 : Nat} {a1 : (Sign → Option Bool)} {g1 : Nat} {cp1 : List Value} {r : (List Int)} (w : World) (h : X.i_those_i_Sign a0 a1 = some r) (h0 : RdT nSign w (.slice A0 (List.length a0) k0) a0) (hg1 : isFn prog g1 = true) (hF1 : ∀ (x0 : Sign) (r : Bool) (W : World), Up w W → a1 x0 = some r → Calls prog g1 (([.agg (eSign x0).toArray] : List Value) ++ cp1).toArray W (Ret W (.bool r))) : Calls prog 103 #[.slice A0 (List.length a0) k0, .func (.func g1) #[] cp1.toArray] w (RetR (eI .i64) 3 w r (fun v => v)) := by
  refine calls (M := no) (args := [.slice A0 (List.length a0) k0, .func (.func g1) #[] cp1.toArray]) func103 rfl ?_
  replace h : H (X.i_those_i_Sign a0 a1) (fun o => o = r) := H.mk h
  unfold X.i_those_i_Sign at h
  refine c_seq ?_
  refine r_start ?_
  refine p 1 ?_
  refine rend ?_
  refine c_seq ?_
  refine r_start ?_
  refine p 1 ?_
  refine rend ?_
  refine c_seq ?_
  refine c_seq ?_
  refine r_start ?_
  refine p 3 ?_
  refine rend ?_
  refine c_block ?_
  refine c_nil (eI .i64) 3 ?_
  refine joinH (X := ((List Int) × Option Addr × Nat)) 0 (H.bnd h) (fun ⟨l4, A5, k6⟩ => l4) (fun ⟨l4, A5, k6⟩ => [rowT (eI .i64) w.heap.size 3 (.slice A5 (List.length l4) k6) l4]) (fun ⟨l4, A5, k6⟩ u => (jk u 0 5 (.slice A5 (List.length l4) k6 :: (jk u 6 18 [])))) (fun h hj7 => ?_) ?_
  · skip
    refine rangeR (X := ((List Int) × Option Addr × Nat)) (s_arg h0) (fun ⟨l1, A2, k3⟩ => l1) (fun ⟨l1, A2, k3⟩ => [rowT (eI .i64) w.heap.size 3 (.slice A2 (List.length l1) k3) l1]) (fun (j8 : Nat) ⟨l1, A2, k3⟩ u => (jk u 0 1 (.func (.func g1) #[] cp1.toArray :: (jk u 2 3 (.slice A2 (List.length l1) k3 :: (jk u 6 2 (.slice A0 (List.length a0) k0 :: .int .i64 (List.length a0 : Int) :: .int .i64 (j8 : Int) :: (jk u 11 13 [])))))))) (([] : List Int), none, 0) h (by kernel_rfl) (by kernel_rfl) ?_ ?_
    · intro j8 x u x9 q10 hg11 hw12 h
      obtain ⟨l1, A2, k3⟩ := x
      refine c_seq ?_
      refine r_start ?_
      refine p 1 ?_
      refine rend ?_
      refine c_seq ?_
      refine c_yes q10 ?_
      refine c_skip ?_
      refine c_seq ?_
      refine c_block ?_
      refine c_seq ?_
      refine r_start ?_
      refine p 1 ?_
      refine xq rfl (y_idx (e := nSign) (el := 38) hg11 (s_arg h0)) ?_
      refine xq rfl (y_el (e := nSign) 0 (.agg (eSign x9).toArray) hg11 (s_arg h0)) ?_
      refine xx rfl (x_new (eSign zSign) fun g4_3 => ?_)
      refine p 1 ?_
      refine xx rfl (x_sto 1 g4_3 0 (eSign x9) ?_)
      refine rend ?_
      refine c_seq ?_
      refine r_start ?_
      refine p 1 ?_
      refine xq rfl (y_load (.agg (eSign x9).toArray) 1 g4_3 0) ?_
      obtain ⟨v5_2, hv5_2, h⟩ := H.call h
      refine xq rfl (y_cf cp1 [.agg (eSign x9).toArray] (.bool v5_2) hg1 (fun W S => hF1 _ _ W S.below hv5_2)) ?_
      refine rend ?_
      refine c_or v5_2 (fun q13 => ?_) (fun q13 => ?_)
      · replace h := H.t q13 h
        refine r_start ?_
        refine p 2 ?_
        refine xx rfl (e_lit (e := (eI .i64)) (el := 3) [.int .i64 (j8 : Int)] ([(j8 : Int)] : List Int) fun A6_2 k6_2 => ?_)
        obtain ⟨y6_3, hy6_3, h⟩ := H.call h
        refine xx rfl (e_app 0 hy6_3 (s_own 2) fun A6_3 k6_3 => ?_)
        refine p 1 ?_
        refine rend ?_
        refine c_inb ?_
        refine r_start ?_
        refine p 2 ?_
        refine rend ?_
        refine c_set 10 (ci hw12) ?_
        replace h := H.inl h
        exact h (y6_3, A6_3, k6_3) _ _ rfl (by kernel_rfl) (by kernel_rfl)
      replace h := H.f q13 h
      refine c_skip ?_
      refine c_inb ?_
      refine r_start ?_
      refine p 2 ?_
      refine rend ?_
      refine c_set 10 (ci hw12) ?_
      replace h := H.inl h
      exact h (l1, A2, k3) _ _ rfl (by kernel_rfl) (by kernel_rfl)
    · intro x u q10 h
      obtain ⟨l1, A2, k3⟩ := x
      refine c_seq ?_
      refine r_start ?_
      refine p 1 ?_
      refine rend ?_
      refine c_seq ?_
      refine c_no q10 ?_
      refine cx ?_
      replace h := H.done h
      exact hj7 (l1, A2, k3) _ _ h (by kernel_rfl) (by kernel_rfl)
  intro x u h
  obtain ⟨l4, A5, k6⟩ := x
  refine c_seq ?_
  refine r_start ?_
  refine p 2 ?_
  refine rend ?_
  replace h := H.done h
  subst h
  exact ret func103 rfl (vs := [.slice A5 (List.length l4) k6]) (.tmp (by kernel_rfl) .nil) rfl (fun W S => ⟨_, _, rfl, S.row 0, S.below⟩)
theorem C.i_Sign_kind {a0 : Sign} {r : Int} (w : World) (h : X.i_Sign_kind a0 = some r) : Calls prog 170 #[.agg (eSign a0).toArray] w (Ret w (.int .i64 r)) := by
  refine calls (M := no) (args := [.agg (eSign a0).toArray]) func170 rfl ?_
  replace h : H (X.i_Sign_kind a0) (fun o => o = r) := H.mk h
  unfold X.i_Sign_kind at h
  refine c_seq ?_
  refine r_start ?_
  refine xx rfl (x_box (eSign a0) fun g0_0 => ?_)
  refine p 1 ?_
  refine rend ?_
  refine c_seq ?_
  refine c_block ?_
  refine c_seq ?_
  refine r_start ?_
  refine p 1 ?_
  refine xq rfl (y_load (.bool a0.Two) 0 g0_0 13) ?_
  refine p 2 ?_
  refine rend ?_
  refine c_or (!a0.Two) (fun q1 => ?_) (fun q1 => ?_)
  · replace h := H.t q1 h
    refine c_seq ?_
    refine r_start ?_
    refine p 1 ?_
    refine rend ?_
    replace h := H.done h
    subst h
    exact ret func170 rfl (vs := [.int .i64 0]) (.tmp (by kernel_rfl) .nil) rfl (fun W S => ⟨rfl, S.below⟩)
  replace h := H.f q1 h
  refine c_seq ?_
  refine r_start ?_
  refine p 1 ?_
  refine xq rfl (y_load (.agg (eHand a0.Other).toArray) 0 g0_0 14) ?_
  obtain ⟨v3_2, hv3_2, h⟩ := H.call h
  refine xq rfl (y_call [.agg (eHand a0.Other).toArray] (.bool v3_2) func157 (fun W S => C.i_Hand_moves W hv3_2)) ?_
  refine p 1 ?_
  refine rend ?_
  refine c_or v3_2 (fun q2 => ?_) (fun q2 => ?_)
  · replace h := H.t q2 h
    refine c_seq ?_
    refine r_start ?_
    refine p 1 ?_
    refine rend ?_
    replace h := H.done h
    subst h
    exact ret func170 rfl (vs := [.int .i64 1]) (.tmp (by kernel_rfl) .nil) rfl (fun W S => ⟨rfl, S.below⟩)
  replace h := H.f q2 h
  refine c_seq ?_
  refine r_start ?_
  refine p 2 ?_
  refine xq rfl (y_load (.agg (eShape a0.Other.Shape).toArray) 0 g0_0 14) ?_
  refine p 2 ?_
  refine xq rfl (y_load (.agg (eShape a0.Main.Shape).toArray) 0 g0_0 0) ?_
  refine p 2 ?_
  refine rend ?_
  refine c_or (qShape a0.Other.Shape a0.Main.Shape) (fun q3 => ?_) (fun q3 => ?_)
  · replace h := H.t q3 h
    refine c_seq ?_
    refine r_start ?_
    refine p 1 ?_
    refine rend ?_
    replace h := H.done h
    subst h
    exact ret func170 rfl (vs := [.int .i64 2]) (.tmp (by kernel_rfl) .nil) rfl (fun W S => ⟨rfl, S.below⟩)
  replace h := H.f q3 h
  refine c_skip ?_
  refine c_inb ?_
  refine c_seq ?_
  refine r_start ?_
  refine p 1 ?_
  refine rend ?_
  replace h := H.done h
  subst h
  exact ret func170 rfl (vs := [.int .i64 3]) (.tmp (by kernel_rfl) .nil) rfl (fun W S => ⟨rfl, S.below⟩)
theorem C.i_Constraint_keptBy {a0 : Constraint} {a1 : Sign} {r : Bool} (w : World) (h : X.i_Constraint_keptBy a0 a1 = some r) : Calls prog 105 #[.agg (eConstraint a0).toArray, .agg (eSign a1).toArray] w (Ret w (.bool r)) := by
  refine calls (M := no) (args := [.agg (eConstraint a0).toArray, .agg (eSign a1).toArray]) func105 rfl ?_
  replace h : H (X.i_Constraint_keptBy a0 a1) (fun o => o = r) := H.mk h
  unfold X.i_Constraint_keptBy at h
  refine c_seq ?_
  refine r_start ?_
  refine xx rfl (x_box (eConstraint a0) fun g0_0 => ?_)
  refine xx rfl (x_box (eSign a1) fun g0_1 => ?_)
  refine p 1 ?_
  refine rend ?_
  refine c_seq ?_
  refine c_seq ?_
  refine r_start ?_
  refine p 1 ?_
  refine xq rfl (y_load (.int .i64 a0.Kind) 0 g0_0 0) ?_
  refine rend ?_
  refine c_block ?_
  refine c_seq ?_
  refine r_start ?_
  refine p 2 ?_
  refine rend ?_
  refine c_or (a0.Kind == 0) (fun q1 => ?_) (fun q1 => ?_)
  · replace h := H.t q1 h
    refine c_seq ?_
    refine as_start 6 6 ?_
    refine aq 0 rfl (y_load (.agg (eSign a1).toArray) 1 g0_1 0) ?_
    obtain ⟨v3_1, hv3_1, h⟩ := H.call h
    refine aq 1 rfl (y_call [.agg (eSign a1).toArray] (.int .i64 v3_1) func89 (fun W S => C.i_Sign_steps W hv3_1)) ?_
    refine ap 2 1 ?_
    refine aq 3 rfl (y_load (.int .i64 a0.Value) 0 g0_0 1) ?_
    refine ap 4 2 ?_
    refine a_done ?_
    replace h := H.done h
    subst h
    exact ret func105 rfl (vs := [.bool (decide (v3_1 ≤ a0.Value))]) (.tmp (by kernel_rfl) .nil) rfl (fun W S => ⟨rfl, S.below⟩)
  replace h := H.f q1 h
  refine c_seq ?_
  refine r_start ?_
  refine p 2 ?_
  refine rend ?_
  refine c_or (a0.Kind == 1) (fun q2 => ?_) (fun q2 => ?_)
  · replace h := H.t q2 h
    refine c_seq ?_
    refine r_start ?_
    refine p 3 ?_
    refine xq rfl (y_load (.int .i64 a1.Main.Place.Region) 1 g0_1 8) ?_
    refine p 1 ?_
    refine xq rfl (y_load (.int .i64 a0.Value) 0 g0_0 1) ?_
    refine p 2 ?_
    refine br (a1.Main.Place.Region != a0.Value) (fun q3 => ?_) (fun q3 => ?_)
    · replace h := H.t q3 h
      refine o_set 23 (congrArg Value.bool q3) ?_
      refine p 1 ?_
      refine xq rfl (y_load (.bool a1.Two) 1 g0_1 13) ?_
      refine p 1 ?_
      refine br a1.Two (fun q4 => ?_) (fun q4 => ?_)
      · replace h := H.t q4 h
        refine o_set 26 (congrArg Value.bool q4) ?_
        refine p 3 ?_
        refine xq rfl (y_load (.int .i64 a1.Other.Place.Region) 1 g0_1 22) ?_
        refine p 1 ?_
        refine xq rfl (y_load (.int .i64 a0.Value) 0 g0_0 1) ?_
        refine p 5 ?_
        refine rend ?_
        replace h := H.done h
        subst h
        exact ret func105 rfl (vs := [.bool (!(a1.Other.Place.Region == a0.Value))]) (.tmp (by kernel_rfl) .nil) rfl (fun W S => ⟨rfl, S.below⟩)
      replace h := H.f q4 h
      refine o_set 26 (congrArg Value.bool q4) ?_
      refine p 11 ?_
      refine rend ?_
      replace h := H.done h
      subst h
      exact ret func105 rfl (vs := [.bool true]) (.tmp (by kernel_rfl) .nil) rfl (fun W S => ⟨rfl, S.below⟩)
    replace h := H.f q3 h
    refine o_set 23 (congrArg Value.bool q3) ?_
    refine p 14 ?_
    refine rend ?_
    replace h := H.done h
    subst h
    exact ret func105 rfl (vs := [.bool false]) (.tmp (by kernel_rfl) .nil) rfl (fun W S => ⟨rfl, S.below⟩)
  replace h := H.f q2 h
  refine c_seq ?_
  refine r_start ?_
  refine p 2 ?_
  refine rend ?_
  refine c_or (a0.Kind == 2) (fun q5 => ?_) (fun q5 => ?_)
  · replace h := H.t q5 h
    refine c_seq ?_
    refine as_start 8 8 ?_
    refine ap 0 2 ?_
    refine aq 2 rfl (y_load (.agg (eShape a1.Main.Shape).toArray) 1 g0_1 0) ?_
    obtain ⟨v7_3, hv7_3, h⟩ := H.call h
    refine aq 3 rfl (y_call [.agg (eShape a1.Main.Shape).toArray] (.int .i64 v7_3) func92 (fun W S => C.i_Shape_open W hv7_3)) ?_
    refine ap 4 1 ?_
    refine aq 5 rfl (y_load (.int .i64 a0.Value) 0 g0_0 1) ?_
    refine ap 6 2 ?_
    refine a_done ?_
    replace h := H.done h
    subst h
    exact ret func105 rfl (vs := [.bool (decide (v7_3 ≥ a0.Value))]) (.tmp (by kernel_rfl) .nil) rfl (fun W S => ⟨rfl, S.below⟩)
  replace h := H.f q5 h
  refine c_seq ?_
  refine r_start ?_
  refine p 2 ?_
  refine rend ?_
  refine c_or (a0.Kind == 3) (fun q6 => ?_) (fun q6 => ?_)
  · replace h := H.t q6 h
    refine c_seq ?_
    refine as_start 6 6 ?_
    refine aq 0 rfl (y_load (.agg (eSign a1).toArray) 1 g0_1 0) ?_
    obtain ⟨v9_1, hv9_1, h⟩ := H.call h
    refine aq 1 rfl (y_call [.agg (eSign a1).toArray] (.int .i64 v9_1) func170 (fun W S => C.i_Sign_kind W hv9_1)) ?_
    refine ap 2 1 ?_
    refine aq 3 rfl (y_load (.int .i64 a0.Value) 0 g0_0 1) ?_
    refine ap 4 2 ?_
    refine a_done ?_
    replace h := H.done h
    subst h
    exact ret func105 rfl (vs := [.bool (v9_1 != a0.Value)]) (.tmp (by kernel_rfl) .nil) rfl (fun W S => ⟨rfl, S.below⟩)
  replace h := H.f q6 h
  refine c_skip ?_
  refine c_inb ?_
  refine c_seq ?_
  refine r_start ?_
  refine p 3 ?_
  refine xq rfl (y_load (.int .i64 a1.Main.Place.Region) 1 g0_1 8) ?_
  refine p 1 ?_
  refine xq rfl (y_load (.int .i64 a0.Value) 0 g0_0 1) ?_
  refine p 2 ?_
  refine rend ?_
  replace h := H.done h
  subst h
  exact ret func105 rfl (vs := [.bool (decide (a1.Main.Place.Region ≤ a0.Value))]) (.tmp (by kernel_rfl) .nil) rfl (fun W S => ⟨rfl, S.below⟩)
theorem C.i_BreakersOf_1 {a0 : Sign} {a1 : Constraint} {p1 : Nat} {r : Bool} (w : World) (h : X.i_BreakersOf_1 a1 a0 = some r) (hp1 : w.heap[p1]? = some (.cells (eConstraint a1 : List Value).toArray 64 (0, 0))) : Calls prog 104 #[.agg (eSign a0).toArray, .pointer (some ⟨p1, 0, none⟩)] w (Ret w (.bool r)) := by
  refine calls (M := no) (args := [.agg (eSign a0).toArray, .pointer (some ⟨p1, 0, none⟩)]) func104 rfl ?_
  replace h : H (X.i_BreakersOf_1 a1 a0) (fun o => o = r) := H.mk h
  unfold X.i_BreakersOf_1 at h
  refine c_seq ?_
  refine r_start ?_
  refine xx rfl (x_box (eSign a0) fun g0_0 => ?_)
  refine p 1 ?_
  refine rend ?_
  refine c_seq ?_
  refine r_start ?_
  refine xq rfl (y_ld0 (.agg (eConstraint a1).toArray) p1 0 hp1) ?_
  refine xq rfl (y_load (.agg (eSign a0).toArray) 0 g0_0 0) ?_
  obtain ⟨v1_2, hv1_2, h⟩ := H.call h
  refine xq rfl (y_call [.agg (eConstraint a1).toArray, .agg (eSign a0).toArray] (.bool v1_2) func105 (fun W S => C.i_Constraint_keptBy W hv1_2)) ?_
  refine p 2 ?_
  refine rend ?_
  replace h := H.done h
  subst h
  exact ret func104 rfl (vs := [.bool (!v1_2)]) (.tmp (by kernel_rfl) .nil) rfl (fun W S => ⟨rfl, S.below⟩)
theorem C.i_BreakersOf {fu : Nat} {a0 : (List Sign)} {A0 : Option Addr} {k0 : Nat} {a1 : Constraint} {r : ((List Int) × Bool)} (w : World) (h : X.i_BreakersOf fu a0 a1 = some r) (h0 : RdT nSign w (.slice A0 (List.length a0) k0) a0) : Calls prog 33 #[.slice A0 (List.length a0) k0, .agg (eConstraint a1).toArray] w (RetR (eI .i64) 3 w r.1 (fun v => .tuple #[v, .bool r.2])) := by
  refine calls (M := no) (args := [.slice A0 (List.length a0) k0, .agg (eConstraint a1).toArray]) func33 rfl ?_
  replace h : H (X.i_BreakersOf fu a0 a1) (fun o => o = r) := H.mk h
  unfold X.i_BreakersOf at h
  refine c_seq ?_
  refine r_start ?_
  refine xx rfl (x_box (eConstraint a1) fun g0_0 => ?_)
  refine p 2 ?_
  refine rend ?_
  refine c_seq ?_
  refine c_seq ?_
  refine r_start ?_
  refine p 1 ?_
  obtain ⟨v1_1, hv1_1, h⟩ := H.call h
  refine xq rfl (y_call [.slice A0 (List.length a0) k0, .int .i64 20] (.bool v1_1) func80 (fun W S => C.i_areSigns W hv1_1 ((s_arg h0).out W S))) ?_
  refine p 2 ?_
  refine br (!v1_1) (fun q1 => ?_) (fun q1 => ?_)
  · replace h := H.t q1 h
    refine o_set 9 (congrArg Value.bool q1) ?_
    refine p 4 ?_
    refine rend ?_
    refine c_t (by kernel_rfl) ?_
    refine c_seq ?_
    refine r_start ?_
    refine p 2 ?_
    refine rend ?_
    replace h := H.done h
    subst h
    exact ret func33 rfl (vs := [.slice none 0 0, .bool false]) (.tmp (by kernel_rfl) (.tmp (by kernel_rfl) .nil)) rfl (fun W S => ⟨none, 0, rfl, World.ownsRow_nil _ _ _ _, S.below⟩)
  replace h := H.f q1 h
  refine o_set 9 (congrArg Value.bool q1) ?_
  refine xq rfl (y_load (.agg (eConstraint a1).toArray) 0 g0_0 0) ?_
  obtain ⟨v1_5, hv1_5, h⟩ := H.call h
  refine xq rfl (y_call [.agg (eConstraint a1).toArray] (.bool v1_5) func46 (fun W S => C.i_IsConstraint W hv1_5)) ?_
  refine p 2 ?_
  refine rend ?_
  refine c_or (!v1_5) (fun q2 => ?_) (fun q2 => ?_)
  · replace h := H.t q2 h
    refine c_seq ?_
    refine r_start ?_
    refine p 2 ?_
    refine rend ?_
    replace h := H.done h
    subst h
    exact ret func33 rfl (vs := [.slice none 0 0, .bool false]) (.tmp (by kernel_rfl) (.tmp (by kernel_rfl) .nil)) rfl (fun W S => ⟨none, 0, rfl, World.ownsRow_nil _ _ _ _, S.below⟩)
  replace h := H.f q2 h
  refine c_skip ?_
  refine c_seq ?_
  refine r_start ?_
  refine p 2 ?_
  obtain ⟨v3_2, hv3_2, h⟩ := H.call h
  refine xx rfl (e_cr [.slice A0 (List.length a0) k0, .func (.func 104) #[] #[.pointer (some ⟨g0_0, 0, none⟩)]] (fun v => v) func103 (fun W S => C.i_those_i_Sign W hv3_2 ((s_arg h0).out W S) (isFn_of func104) (fun x0_2 r W2 hu2 hx2 => C.i_BreakersOf_1 W2 hx2 (bx_up (S.bx 0) hu2))) fun A3_2 k3_2 => ?_)
  refine p 2 ?_
  refine rend ?_
  replace h := H.done h
  subst h
  exact ret func33 rfl (vs := [.slice A3_2 (List.length v3_2) k3_2, .bool true]) (.tmp (by kernel_rfl) (.tmp (by kernel_rfl) .nil)) rfl (fun W S => ⟨_, _, rfl, S.row 1, S.below⟩)
theorem C.i_MostBroken {fu : Nat} {a0 : (List Sign)} {A0 : Option Addr} {k0 : Nat} {a1 : (List Constraint)} {A1 : Option Addr} {k1 : Nat} {r : (Int × Int × Bool)} (w : World) (h : X.i_MostBroken fu a0 a1 = some r) (h0 : RdT nSign w (.slice A0 (List.length a0) k0) a0) (h1 : RdT nConstraint w (.slice A1 (List.length a1) k1) a1) : Calls prog 31 #[.slice A0 (List.length a0) k0, .slice A1 (List.length a1) k1] w (Ret w (.tuple #[.int .i64 r.1, .int .i64 r.2.1, .bool r.2.2])) := by
  refine calls (M := no) (args := [.slice A0 (List.length a0) k0, .slice A1 (List.length a1) k1]) func31 rfl ?_
  replace h : H (X.i_MostBroken fu a0 a1) (fun o => o = r) := H.mk h
  unfold X.i_MostBroken at h
  refine c_seq ?_
  refine r_start ?_
  refine p 3 ?_
  refine rend ?_
  refine c_seq ?_
  refine c_seq ?_
  refine r_start ?_
  refine p 4 ?_
  refine br ((List.length a1 : Int) == 0) (fun q1 => ?_) (fun q1 => ?_)
  · replace h := H.t q1 h
    refine o_set 16 (congrArg Value.bool q1) ?_
    refine p 9 ?_
    refine rend ?_
    refine c_t (by kernel_rfl) ?_
    refine c_seq ?_
    refine r_start ?_
    refine p 3 ?_
    refine rend ?_
    replace h := H.done h
    subst h
    exact ret func31 rfl (vs := [.int .i64 0, .int .i64 0, .bool false]) (.tmp (by kernel_rfl) (.tmp (by kernel_rfl) (.tmp (by kernel_rfl) .nil))) rfl (fun W S => ⟨rfl, S.below⟩)
  replace h := H.f q1 h
  refine o_set 16 (congrArg Value.bool q1) ?_
  refine p 1 ?_
  obtain ⟨v1_5, hv1_5, h⟩ := H.call h
  refine xq rfl (y_call [.slice A0 (List.length a0) k0, .int .i64 20] (.bool v1_5) func80 (fun W S => C.i_areSigns W hv1_5 ((s_arg h0).out W S))) ?_
  refine p 3 ?_
  refine br (!v1_5) (fun q2 => ?_) (fun q2 => ?_)
  · replace h := H.t q2 h
    refine o_set 21 (congrArg Value.bool q2) ?_
    refine p 4 ?_
    refine rend ?_
    refine c_t (by kernel_rfl) ?_
    refine c_seq ?_
    refine r_start ?_
    refine p 3 ?_
    refine rend ?_
    replace h := H.done h
    subst h
    exact ret func31 rfl (vs := [.int .i64 0, .int .i64 0, .bool false]) (.tmp (by kernel_rfl) (.tmp (by kernel_rfl) (.tmp (by kernel_rfl) .nil))) rfl (fun W S => ⟨rfl, S.below⟩)
  replace h := H.f q2 h
  refine o_set 21 (congrArg Value.bool q2) ?_
  refine p 1 ?_
  obtain ⟨v1_10, hv1_10, h⟩ := H.call h
  refine xq rfl (y_call [.slice A1 (List.length a1) k1] (.bool v1_10) func96 (fun W S => C.i_areConstraints W hv1_10 ((s_arg h1).out W S))) ?_
  refine p 2 ?_
  refine rend ?_
  refine c_or (!v1_10) (fun q3 => ?_) (fun q3 => ?_)
  · replace h := H.t q3 h
    refine c_seq ?_
    refine r_start ?_
    refine p 3 ?_
    refine rend ?_
    replace h := H.done h
    subst h
    exact ret func31 rfl (vs := [.int .i64 0, .int .i64 0, .bool false]) (.tmp (by kernel_rfl) (.tmp (by kernel_rfl) (.tmp (by kernel_rfl) .nil))) rfl (fun W S => ⟨rfl, S.below⟩)
  replace h := H.f q3 h
  refine c_skip ?_
  refine c_seq ?_
  refine r_start ?_
  refine p 2 ?_
  refine rend ?_
  refine c_seq ?_
  refine c_seq ?_
  refine r_start ?_
  refine p 3 ?_
  refine rend ?_
  refine c_block ?_
  refine joinH (X := (Int × Int)) 0 (H.bnd h) (fun (x : (Int × Int)) => x) (fun ⟨n6, n7⟩ => []) (fun ⟨n6, n7⟩ u => (jk u 0 7 (.int .i64 n6 :: .int .i64 n7 :: (jk u 9 40 [])))) (fun h hj8 => ?_) ?_
  · skip
    refine rangeR (X := (Int × Int)) (s_arg h1) (fun (x : (Int × Int)) => x) (fun ⟨n4, n5⟩ => []) (fun (j9 : Nat) ⟨n4, n5⟩ u => (.slice A0 (List.length a0) k0 :: (jk u 1 6 (.int .i64 n4 :: .int .i64 n5 :: (jk u 9 17 (.slice A1 (List.length a1) k1 :: .int .i64 (List.length a1 : Int) :: .int .i64 (j9 : Int) :: (jk u 29 20 []))))))) (0, (-1)) h (by kernel_rfl) (by kernel_rfl) ?_ ?_
    · intro j9 x u x10 q11 hg12 hw13 h
      obtain ⟨n4, n5⟩ := x
      refine c_seq ?_
      refine r_start ?_
      refine p 1 ?_
      refine rend ?_
      refine c_seq ?_
      refine c_yes q11 ?_
      refine c_skip ?_
      refine c_seq ?_
      refine c_block ?_
      refine c_seq ?_
      refine r_start ?_
      refine p 1 ?_
      refine xq rfl (y_idx (e := nConstraint) (el := 64) hg12 (s_arg h1)) ?_
      refine xq rfl (y_el (e := nConstraint) 0 (.agg (eConstraint x10).toArray) hg12 (s_arg h1)) ?_
      refine xx rfl (x_new (eConstraint zConstraint) fun g6_3 => ?_)
      refine p 1 ?_
      refine xx rfl (x_sto 0 g6_3 0 (eConstraint x10) ?_)
      refine rend ?_
      refine c_seq ?_
      refine r_start ?_
      refine p 1 ?_
      refine xq rfl (y_load (.agg (eConstraint x10).toArray) 0 g6_3 0) ?_
      obtain ⟨v7_2, hv7_2, h⟩ := H.call h
      refine xx rfl (e_cr [.slice A0 (List.length a0) k0, .agg (eConstraint x10).toArray] (fun v => .tuple #[v, .bool v7_2.2]) func33 (fun W S => C.i_BreakersOf W hv7_2 ((s_arg h0).out W S)) fun A7_2 k7_2 => ?_)
      refine p 5 ?_
      refine rend ?_
      refine c_seq ?_
      refine r_start ?_
      refine p 4 ?_
      refine rend ?_
      refine c_or (decide ((List.length v7_2.1 : Int) > n5)) (fun q14 => ?_) (fun q14 => ?_)
      · replace h := H.t q14 h
        refine r_start ?_
        refine p 5 ?_
        refine rend ?_
        refine c_inb ?_
        refine r_start ?_
        refine p 2 ?_
        refine rend ?_
        refine c_set 28 (ci hw13) ?_
        replace h := H.inl h
        exact h ((j9 : Int), (List.length v7_2.1 : Int)) _ _ rfl (by kernel_rfl) (by kernel_rfl)
      replace h := H.f q14 h
      refine c_skip ?_
      refine c_inb ?_
      refine r_start ?_
      refine p 2 ?_
      refine rend ?_
      refine c_set 28 (ci hw13) ?_
      replace h := H.inl h
      exact h (n4, n5) _ _ rfl (by kernel_rfl) (by kernel_rfl)
    · intro x u q11 h
      obtain ⟨n4, n5⟩ := x
      refine c_seq ?_
      refine r_start ?_
      refine p 1 ?_
      refine rend ?_
      refine c_seq ?_
      refine c_no q11 ?_
      refine cx ?_
      replace h := H.done h
      exact hj8 (n4, n5) _ _ h (by kernel_rfl) (by kernel_rfl)
  intro x u h
  obtain ⟨n6, n7⟩ := x
  refine c_seq ?_
  refine r_start ?_
  refine p 5 ?_
  refine rend ?_
  replace h := H.done h
  subst h
  exact ret func31 rfl (vs := [.int .i64 n6, .int .i64 n7, .bool true]) (.tmp (by kernel_rfl) (.tmp (by kernel_rfl) (.tmp (by kernel_rfl) .nil))) rfl (fun W S => ⟨rfl, S.below⟩)
theorem C.s_siKind {a0 : Sign} {r : Int} (w : World) (h : X.s_siKind a0 = some r) : Calls prog 169 #[.agg (eSign a0).toArray] w (Ret w (.int .i64 r)) := by
  refine calls (M := no) (args := [.agg (eSign a0).toArray]) func169 rfl ?_
  replace h : H (X.s_siKind a0) (fun o => o = r) := H.mk h
  unfold X.s_siKind at h
  refine c_seq ?_
  refine r_start ?_
  refine xx rfl (x_box (eSign a0) fun g0_0 => ?_)
  refine p 1 ?_
  refine rend ?_
  refine c_seq ?_
  refine c_block ?_
  refine c_seq ?_
  refine r_start ?_
  refine p 1 ?_
  refine xq rfl (y_load (.bool a0.Two) 0 g0_0 13) ?_
  refine p 2 ?_
  refine rend ?_
  refine c_or (!a0.Two) (fun q1 => ?_) (fun q1 => ?_)
  · replace h := H.t q1 h
    refine c_seq ?_
    refine r_start ?_
    refine p 1 ?_
    refine rend ?_
    replace h := H.done h
    subst h
    exact ret func169 rfl (vs := [.int .i64 0]) (.tmp (by kernel_rfl) .nil) rfl (fun W S => ⟨rfl, S.below⟩)
  replace h := H.f q1 h
  refine c_seq ?_
  refine r_start ?_
  refine p 3 ?_
  refine xq rfl (y_load (.string (bs a0.Other.Move.Steps)) 0 g0_0 25) ?_
  refine p 2 ?_
  refine rend ?_
  refine c_or (!seq a0.Other.Move.Steps ([] : Str)) (fun q2 => ?_) (fun q2 => ?_)
  · replace h := H.t q2 h
    refine c_seq ?_
    refine r_start ?_
    refine p 1 ?_
    refine rend ?_
    replace h := H.done h
    subst h
    exact ret func169 rfl (vs := [.int .i64 1]) (.tmp (by kernel_rfl) .nil) rfl (fun W S => ⟨rfl, S.below⟩)
  replace h := H.f q2 h
  refine c_seq ?_
  refine r_start ?_
  refine p 2 ?_
  refine xq rfl (y_load (.agg (eShape a0.Main.Shape).toArray) 0 g0_0 0) ?_
  refine p 2 ?_
  refine xq rfl (y_load (.agg (eShape a0.Other.Shape).toArray) 0 g0_0 14) ?_
  refine p 2 ?_
  refine rend ?_
  refine c_or (qShape a0.Main.Shape a0.Other.Shape) (fun q3 => ?_) (fun q3 => ?_)
  · replace h := H.t q3 h
    refine c_seq ?_
    refine r_start ?_
    refine p 1 ?_
    refine rend ?_
    replace h := H.done h
    subst h
    exact ret func169 rfl (vs := [.int .i64 2]) (.tmp (by kernel_rfl) .nil) rfl (fun W S => ⟨rfl, S.below⟩)
  replace h := H.f q3 h
  refine c_skip ?_
  refine c_inb ?_
  refine c_seq ?_
  refine r_start ?_
  refine p 1 ?_
  refine rend ?_
  replace h := H.done h
  subst h
  exact ret func169 rfl (vs := [.int .i64 3]) (.tmp (by kernel_rfl) .nil) rfl (fun W S => ⟨rfl, S.below⟩)
theorem C.s_ruKeeps {fu : Nat} {a0 : Sign} {a1 : Constraint} {r : Bool} (w : World) (h : X.s_ruKeeps fu a0 a1 = some r) : Calls prog 102 #[.agg (eSign a0).toArray, .agg (eConstraint a1).toArray] w (Ret w (.bool r)) := by
  refine calls (M := no) (args := [.agg (eSign a0).toArray, .agg (eConstraint a1).toArray]) func102 rfl ?_
  replace h : H (X.s_ruKeeps fu a0 a1) (fun o => o = r) := H.mk h
  unfold X.s_ruKeeps at h
  refine c_seq ?_
  refine r_start ?_
  refine xx rfl (x_box (eSign a0) fun g0_0 => ?_)
  refine xx rfl (x_box (eConstraint a1) fun g0_1 => ?_)
  refine p 1 ?_
  refine rend ?_
  refine c_seq ?_
  refine c_seq ?_
  refine r_start ?_
  refine p 1 ?_
  refine xq rfl (y_load (.int .i64 a1.Kind) 1 g0_1 0) ?_
  refine rend ?_
  refine c_block ?_
  refine c_seq ?_
  refine r_start ?_
  refine p 2 ?_
  refine rend ?_
  refine c_or (a1.Kind == 0) (fun q1 => ?_) (fun q1 => ?_)
  · replace h := H.t q1 h
    refine c_seq ?_
    refine as_start 6 6 ?_
    refine aq 0 rfl (y_load (.agg (eSign a0).toArray) 0 g0_0 0) ?_
    obtain ⟨v3_1, hv3_1, h⟩ := H.call h
    refine aq 1 rfl (y_call [.agg (eSign a0).toArray] (.int .i64 v3_1) func91 (fun W S => C.s_ruSteps W hv3_1)) ?_
    refine ap 2 1 ?_
    refine aq 3 rfl (y_load (.int .i64 a1.Value) 1 g0_1 1) ?_
    refine ap 4 2 ?_
    refine a_done ?_
    replace h := H.done h
    subst h
    exact ret func102 rfl (vs := [.bool (decide (v3_1 ≤ a1.Value))]) (.tmp (by kernel_rfl) .nil) rfl (fun W S => ⟨rfl, S.below⟩)
  replace h := H.f q1 h
  refine c_seq ?_
  refine r_start ?_
  refine p 2 ?_
  refine rend ?_
  refine c_or (a1.Kind == 1) (fun q2 => ?_) (fun q2 => ?_)
  · replace h := H.t q2 h
    refine c_seq ?_
    refine r_start ?_
    refine p 3 ?_
    refine xq rfl (y_load (.int .i64 a0.Main.Place.Region) 0 g0_0 8) ?_
    refine p 1 ?_
    refine xq rfl (y_load (.int .i64 a1.Value) 1 g0_1 1) ?_
    refine p 2 ?_
    refine br (a0.Main.Place.Region != a1.Value) (fun q3 => ?_) (fun q3 => ?_)
    · replace h := H.t q3 h
      refine o_set 23 (congrArg Value.bool q3) ?_
      refine p 1 ?_
      refine xq rfl (y_load (.bool a0.Two) 0 g0_0 13) ?_
      refine p 2 ?_
      refine br (!a0.Two) (fun q4 => ?_) (fun q4 => ?_)
      · replace h := H.t q4 h
        refine o_set 27 (congrArg Value.bool q4) ?_
        refine p 10 ?_
        refine rend ?_
        replace h := H.done h
        subst h
        exact ret func102 rfl (vs := [.bool true]) (.tmp (by kernel_rfl) .nil) rfl (fun W S => ⟨rfl, S.below⟩)
      replace h := H.f q4 h
      refine o_set 27 (congrArg Value.bool q4) ?_
      refine p 3 ?_
      refine xq rfl (y_load (.int .i64 a0.Other.Place.Region) 0 g0_0 22) ?_
      refine p 1 ?_
      refine xq rfl (y_load (.int .i64 a1.Value) 1 g0_1 1) ?_
      refine p 4 ?_
      refine rend ?_
      replace h := H.done h
      subst h
      exact ret func102 rfl (vs := [.bool (a0.Other.Place.Region != a1.Value)]) (.tmp (by kernel_rfl) .nil) rfl (fun W S => ⟨rfl, S.below⟩)
    replace h := H.f q3 h
    refine o_set 23 (congrArg Value.bool q3) ?_
    refine p 14 ?_
    refine rend ?_
    replace h := H.done h
    subst h
    exact ret func102 rfl (vs := [.bool false]) (.tmp (by kernel_rfl) .nil) rfl (fun W S => ⟨rfl, S.below⟩)
  replace h := H.f q2 h
  refine c_seq ?_
  refine r_start ?_
  refine p 2 ?_
  refine rend ?_
  refine c_or (a1.Kind == 2) (fun q5 => ?_) (fun q5 => ?_)
  · replace h := H.t q5 h
    refine c_seq ?_
    refine as_start 6 6 ?_
    refine aq 0 rfl (y_load (.agg (eSign a0).toArray) 0 g0_0 0) ?_
    obtain ⟨v7_1, hv7_1, h⟩ := H.call h
    refine aq 1 rfl (y_call [.agg (eSign a0).toArray] (.int .i64 v7_1) func94 (fun W S => C.s_ruOpen W hv7_1)) ?_
    refine ap 2 1 ?_
    refine aq 3 rfl (y_load (.int .i64 a1.Value) 1 g0_1 1) ?_
    refine ap 4 2 ?_
    refine a_done ?_
    replace h := H.done h
    subst h
    exact ret func102 rfl (vs := [.bool (decide (v7_1 ≥ a1.Value))]) (.tmp (by kernel_rfl) .nil) rfl (fun W S => ⟨rfl, S.below⟩)
  replace h := H.f q5 h
  refine c_seq ?_
  refine r_start ?_
  refine p 2 ?_
  refine rend ?_
  refine c_or (a1.Kind == 3) (fun q6 => ?_) (fun q6 => ?_)
  · replace h := H.t q6 h
    refine c_seq ?_
    refine as_start 6 6 ?_
    refine aq 0 rfl (y_load (.agg (eSign a0).toArray) 0 g0_0 0) ?_
    obtain ⟨v9_1, hv9_1, h⟩ := H.call h
    refine aq 1 rfl (y_call [.agg (eSign a0).toArray] (.int .i64 v9_1) func169 (fun W S => C.s_siKind W hv9_1)) ?_
    refine ap 2 1 ?_
    refine aq 3 rfl (y_load (.int .i64 a1.Value) 1 g0_1 1) ?_
    refine ap 4 2 ?_
    refine a_done ?_
    replace h := H.done h
    subst h
    exact ret func102 rfl (vs := [.bool (v9_1 != a1.Value)]) (.tmp (by kernel_rfl) .nil) rfl (fun W S => ⟨rfl, S.below⟩)
  replace h := H.f q6 h
  refine c_skip ?_
  refine c_inb ?_
  refine c_seq ?_
  refine r_start ?_
  refine p 3 ?_
  refine xq rfl (y_load (.int .i64 a0.Main.Place.Region) 0 g0_0 8) ?_
  refine p 1 ?_
  refine xq rfl (y_load (.int .i64 a1.Value) 1 g0_1 1) ?_
  refine p 2 ?_
  refine rend ?_
  replace h := H.done h
  subst h
  exact ret func102 rfl (vs := [.bool (decide (a0.Main.Place.Region ≤ a1.Value))]) (.tmp (by kernel_rfl) .nil) rfl (fun W S => ⟨rfl, S.below⟩)
theorem C.s_MostBroken {fu : Nat} {a0 : (List Sign)} {A0 : Option Addr} {k0 : Nat} {a1 : (List Constraint)} {A1 : Option Addr} {k1 : Nat} {r : (Int × Int × Bool)} (w : World) (h : X.s_MostBroken fu a0 a1 = some r) (h0 : RdT nSign w (.slice A0 (List.length a0) k0) a0) (h1 : RdT nConstraint w (.slice A1 (List.length a1) k1) a1) : Calls prog 32 #[.slice A0 (List.length a0) k0, .slice A1 (List.length a1) k1] w (Ret w (.tuple #[.int .i64 r.1, .int .i64 r.2.1, .bool r.2.2])) := by
  refine calls (M := no) (args := [.slice A0 (List.length a0) k0, .slice A1 (List.length a1) k1]) func32 rfl ?_
  replace h : H (X.s_MostBroken fu a0 a1) (fun o => o = r) := H.mk h
  unfold X.s_MostBroken at h
  refine c_seq ?_
  refine r_start ?_
  refine p 3 ?_
  refine rend ?_
  refine c_seq ?_
  refine c_seq ?_
  refine r_start ?_
  refine p 1 ?_
  obtain ⟨v1_1, hv1_1, h⟩ := H.call h
  refine xq rfl (y_call [.slice A0 (List.length a0) k0] (.bool v1_1) func83 (fun W S => C.s_paList W hv1_1 ((s_arg h0).out W S))) ?_
  refine p 2 ?_
  refine br (!v1_1) (fun q1 => ?_) (fun q1 => ?_)
  · replace h := H.t q1 h
    refine o_set 17 (congrArg Value.bool q1) ?_
    refine p 9 ?_
    refine rend ?_
    refine c_t (by kernel_rfl) ?_
    refine c_seq ?_
    refine r_start ?_
    refine p 3 ?_
    refine rend ?_
    replace h := H.done h
    subst h
    exact ret func32 rfl (vs := [.int .i64 0, .int .i64 0, .bool false]) (.tmp (by kernel_rfl) (.tmp (by kernel_rfl) (.tmp (by kernel_rfl) .nil))) rfl (fun W S => ⟨rfl, S.below⟩)
  replace h := H.f q1 h
  refine o_set 17 (congrArg Value.bool q1) ?_
  refine p 1 ?_
  obtain ⟨v1_5, hv1_5, h⟩ := H.call h
  refine xq rfl (y_call [.slice A1 (List.length a1) k1] (.bool v1_5) func100 (fun W S => C.s_ruAll W hv1_5 ((s_arg h1).out W S))) ?_
  refine p 3 ?_
  refine br (!v1_5) (fun q2 => ?_) (fun q2 => ?_)
  · replace h := H.t q2 h
    refine o_set 22 (congrArg Value.bool q2) ?_
    refine p 4 ?_
    refine rend ?_
    refine c_t (by kernel_rfl) ?_
    refine c_seq ?_
    refine r_start ?_
    refine p 3 ?_
    refine rend ?_
    replace h := H.done h
    subst h
    exact ret func32 rfl (vs := [.int .i64 0, .int .i64 0, .bool false]) (.tmp (by kernel_rfl) (.tmp (by kernel_rfl) (.tmp (by kernel_rfl) .nil))) rfl (fun W S => ⟨rfl, S.below⟩)
  replace h := H.f q2 h
  refine o_set 22 (congrArg Value.bool q2) ?_
  refine p 4 ?_
  refine rend ?_
  refine c_or ((List.length a1 : Int) == 0) (fun q3 => ?_) (fun q3 => ?_)
  · replace h := H.t q3 h
    refine c_seq ?_
    refine r_start ?_
    refine p 3 ?_
    refine rend ?_
    replace h := H.done h
    subst h
    exact ret func32 rfl (vs := [.int .i64 0, .int .i64 0, .bool false]) (.tmp (by kernel_rfl) (.tmp (by kernel_rfl) (.tmp (by kernel_rfl) .nil))) rfl (fun W S => ⟨rfl, S.below⟩)
  replace h := H.f q3 h
  refine c_skip ?_
  refine c_seq ?_
  refine r_start ?_
  refine p 2 ?_
  refine rend ?_
  refine c_seq ?_
  refine c_seq ?_
  refine r_start ?_
  refine p 3 ?_
  refine rend ?_
  refine c_block ?_
  refine joinH (X := (Int × Int)) 0 (H.bnd h) (fun (x : (Int × Int)) => x) (fun ⟨n6, n7⟩ => []) (fun ⟨n6, n7⟩ u => (jk u 0 7 (.int .i64 n6 :: .int .i64 n7 :: (jk u 9 46 [])))) (fun h hj8 => ?_) ?_
  · skip
    refine rangeR (X := (Int × Int)) (s_arg h1) (fun (x : (Int × Int)) => x) (fun ⟨n4, n5⟩ => []) (fun (j9 : Nat) ⟨n4, n5⟩ u => (.slice A0 (List.length a0) k0 :: (jk u 1 6 (.int .i64 n4 :: .int .i64 n5 :: (jk u 9 18 (.slice A1 (List.length a1) k1 :: .int .i64 (List.length a1 : Int) :: .int .i64 (j9 : Int) :: (jk u 30 25 []))))))) (0, (-1)) h (by kernel_rfl) (by kernel_rfl) ?_ ?_
    · intro j9 x u x10 q11 hg12 hw13 h
      obtain ⟨n4, n5⟩ := x
      refine c_seq ?_
      refine r_start ?_
      refine p 1 ?_
      refine rend ?_
      refine c_seq ?_
      refine c_yes q11 ?_
      refine c_skip ?_
      refine c_seq ?_
      refine c_block ?_
      refine c_seq ?_
      refine r_start ?_
      refine p 1 ?_
      refine xq rfl (y_idx (e := nConstraint) (el := 64) hg12 (s_arg h1)) ?_
      refine xq rfl (y_el (e := nConstraint) 0 (.agg (eConstraint x10).toArray) hg12 (s_arg h1)) ?_
      refine xx rfl (x_new (eConstraint zConstraint) fun g6_3 => ?_)
      refine p 1 ?_
      refine xx rfl (x_sto 0 g6_3 0 (eConstraint x10) ?_)
      refine rend ?_
      refine c_seq ?_
      refine r_start ?_
      refine p 1 ?_
      refine rend ?_
      refine c_seq ?_
      refine c_seq ?_
      refine r_start ?_
      refine p 3 ?_
      refine rend ?_
      refine c_block ?_
      refine joinH (X := Int) 2 (H.bnd h) (fun (x : Int) => x) (fun n15 => [box g6_3 64 (eConstraint x10)]) (fun n15 u => (.slice A0 (List.length a0) k0 :: (jk u 1 6 (.int .i64 n4 :: .int .i64 n5 :: .int .i64 (j9 : Int) :: (jk u 10 1 (.int .i64 n15 :: (jk u 12 15 (.slice A1 (List.length a1) k1 :: .int .i64 (List.length a1 : Int) :: .int .i64 (j9 : Int) :: (jk u 30 25 []))))))))) (fun h hj16 => ?_) ?_
      · skip
        refine rangeR (X := Int) (s_arg h0) (fun (x : Int) => x) (fun n14 => [box g6_3 64 (eConstraint x10)]) (fun (j17 : Nat) n14 u => (.slice A0 (List.length a0) k0 :: (jk u 1 6 (.int .i64 n4 :: .int .i64 n5 :: .int .i64 (j9 : Int) :: .pointer (some ⟨g6_3, 0, none⟩) :: .int .i64 n14 :: (jk u 12 15 (.slice A1 (List.length a1) k1 :: .int .i64 (List.length a1 : Int) :: .int .i64 (j9 : Int) :: (jk u 30 4 (.slice A0 (List.length a0) k0 :: .int .i64 (List.length a0 : Int) :: .int .i64 (j17 : Int) :: (jk u 37 18 []))))))))) 0 h (by kernel_rfl) (by kernel_rfl) ?_ ?_
        · intro j17 n14 u x18 q19 hg20 hw21 h
          refine c_seq ?_
          refine r_start ?_
          refine p 1 ?_
          refine rend ?_
          refine c_seq ?_
          refine c_yes q19 ?_
          refine c_skip ?_
          refine c_seq ?_
          refine c_block ?_
          refine c_seq ?_
          refine r_start ?_
          refine xq rfl (y_idx (e := nSign) (el := 38) hg20 (s_arg h0)) ?_
          refine xq rfl (y_el (e := nSign) 0 (.agg (eSign x18).toArray) hg20 (s_arg h0)) ?_
          refine xx rfl (x_new (eSign zSign) fun g10_2 => ?_)
          refine xx rfl (x_sto 1 g10_2 0 (eSign x18) ?_)
          refine rend ?_
          refine c_seq ?_
          refine r_start ?_
          refine xq rfl (y_load (.agg (eSign x18).toArray) 1 g10_2 0) ?_
          refine xq rfl (y_load (.agg (eConstraint x10).toArray) 0 g6_3 0) ?_
          obtain ⟨v11_2, hv11_2, h⟩ := H.call h
          refine xq rfl (y_call [.agg (eSign x18).toArray, .agg (eConstraint x10).toArray] (.bool v11_2) func102 (fun W S => C.s_ruKeeps W hv11_2)) ?_
          refine p 1 ?_
          refine rend ?_
          refine c_or (!v11_2) (fun q22 => ?_) (fun q22 => ?_)
          · replace h := H.t q22 h
            refine r_start ?_
            refine p 3 ?_
            refine rend ?_
            refine frg (fun u => (.slice A0 (List.length a0) k0 :: (jk u 1 6 (.int .i64 n4 :: .int .i64 n5 :: .int .i64 (j9 : Int) :: .pointer (some ⟨g6_3, 0, none⟩) :: .int .i64 (wr (n14 + 1)) :: (jk u 12 15 (.slice A1 (List.length a1) k1 :: .int .i64 (List.length a1 : Int) :: .int .i64 (j9 : Int) :: (jk u 30 4 (.slice A0 (List.length a0) k0 :: .int .i64 (List.length a0 : Int) :: .int .i64 (j17 : Int) :: (jk u 37 18 []))))))))) (by kernel_rfl) fun u => ?_
            refine keep 2 (its' := [box g6_3 64 (eConstraint x10), box g10_2 38 (eSign x18)]) (by kernel_rfl) ?_
            refine c_inb ?_
            refine r_start ?_
            refine p 2 ?_
            refine rend ?_
            refine c_set 36 (ci hw21) ?_
            replace h := H.inl h
            exact h (wr (n14 + 1)) _ _ rfl (by kernel_rfl) (by kernel_rfl)
          replace h := H.f q22 h
          refine c_skip ?_
          refine c_inb ?_
          refine r_start ?_
          refine p 2 ?_
          refine rend ?_
          refine c_set 36 (ci hw21) ?_
          replace h := H.inl h
          exact h n14 _ _ rfl (by kernel_rfl) (by kernel_rfl)
        · intro n14 u q19 h
          refine c_seq ?_
          refine r_start ?_
          refine p 1 ?_
          refine rend ?_
          refine c_seq ?_
          refine c_no q19 ?_
          refine cx ?_
          replace h := H.done h
          exact hj16 n14 _ _ h (by kernel_rfl) (by kernel_rfl)
      intro n15 u h
      refine c_seq ?_
      refine r_start ?_
      refine p 3 ?_
      refine rend ?_
      refine c_or (decide (n15 > n5)) (fun q23 => ?_) (fun q23 => ?_)
      · replace h := H.t q23 h
        refine c_seq ?_
        refine r_start ?_
        refine p 2 ?_
        refine rend ?_
        refine r_start ?_
        refine p 2 ?_
        refine rend ?_
        refine frg (fun u => (.slice A0 (List.length a0) k0 :: (jk u 1 6 (.int .i64 (j9 : Int) :: .int .i64 n15 :: (jk u 9 18 (.slice A1 (List.length a1) k1 :: .int .i64 (List.length a1 : Int) :: .int .i64 (j9 : Int) :: (jk u 30 25 []))))))) (by kernel_rfl) fun u => ?_
        refine keep 1 (its' := [box g6_3 64 (eConstraint x10)]) (by kernel_rfl) ?_
        refine c_inb ?_
        refine r_start ?_
        refine p 2 ?_
        refine rend ?_
        refine c_set 29 (ci hw13) ?_
        replace h := H.inl h
        exact h ((j9 : Int), n15) _ _ rfl (by kernel_rfl) (by kernel_rfl)
      replace h := H.f q23 h
      refine c_skip ?_
      refine c_inb ?_
      refine r_start ?_
      refine p 2 ?_
      refine rend ?_
      refine c_set 29 (ci hw13) ?_
      replace h := H.inl h
      exact h (n4, n5) _ _ rfl (by kernel_rfl) (by kernel_rfl)
    · intro x u q11 h
      obtain ⟨n4, n5⟩ := x
      refine c_seq ?_
      refine r_start ?_
      refine p 1 ?_
      refine rend ?_
      refine c_seq ?_
      refine c_no q11 ?_
      refine cx ?_
      replace h := H.done h
      exact hj8 (n4, n5) _ _ h (by kernel_rfl) (by kernel_rfl)
  intro x u h
  obtain ⟨n6, n7⟩ := x
  refine c_seq ?_
  refine r_start ?_
  refine p 5 ?_
  refine rend ?_
  replace h := H.done h
  subst h
  exact ret func32 rfl (vs := [.int .i64 n6, .int .i64 n7, .bool true]) (.tmp (by kernel_rfl) (.tmp (by kernel_rfl) (.tmp (by kernel_rfl) .nil))) rfl (fun W S => ⟨rfl, S.below⟩)
theorem C.l_qHas {a0 : (List Int)} {A0 : Option Addr} {k0 : Nat} {a1 : Int} {r : Bool} (w : World) (h : X.l_qHas a0 a1 = some r) (h0 : RdT (eI .i64) w (.slice A0 (List.length a0) k0) a0) : Calls prog 34 #[.slice A0 (List.length a0) k0, .int .i64 a1] w (Ret w (.bool r)) := by
  refine calls (M := no) (args := [.slice A0 (List.length a0) k0, .int .i64 a1]) func34 rfl ?_
  replace h : H (X.l_qHas a0 a1) (fun o => o = r) := H.mk h
  unfold X.l_qHas at h
  refine c_seq ?_
  refine r_start ?_
  refine p 1 ?_
  refine rend ?_
  refine c_seq ?_
  refine c_seq ?_
  refine r_start ?_
  refine p 3 ?_
  refine rend ?_
  refine c_block ?_
  refine joinE (X := Unit) 0 (H.or h) (fun (x : Unit) => x) (fun _ => []) (fun _ u => (jk u 0 17 [])) (fun h hj1 => ?_) ?_
  · skip
    refine rangeR (X := Unit) (s_arg h0) (fun (x : Unit) => x) (fun _ => []) (fun (j2 : Nat) _ u => (jk u 0 1 (.int .i64 a1 :: (jk u 2 5 (.slice A0 (List.length a0) k0 :: .int .i64 (List.length a0 : Int) :: .int .i64 (j2 : Int) :: (jk u 10 7 [])))))) () h (by kernel_rfl) (by kernel_rfl) ?_ ?_
    · intro j2 x u x3 q4 hg5 hw6 h
      refine c_seq ?_
      refine r_start ?_
      refine p 1 ?_
      refine rend ?_
      refine c_seq ?_
      refine c_yes q4 ?_
      refine c_skip ?_
      refine c_seq ?_
      refine c_block ?_
      refine c_seq ?_
      refine r_start ?_
      refine xq rfl (y_idx (e := (eI .i64)) (el := 3) hg5 (s_arg h0)) ?_
      refine xq rfl (y_el (e := (eI .i64)) 0 (.int .i64 x3) hg5 (s_arg h0)) ?_
      refine p 1 ?_
      refine rend ?_
      refine c_seq ?_
      refine r_start ?_
      refine p 3 ?_
      refine rend ?_
      refine c_or (x3 == a1) (fun q7 => ?_) (fun q7 => ?_)
      · replace h := H.t q7 h
        refine c_seq ?_
        refine r_start ?_
        refine p 1 ?_
        refine rend ?_
        replace h := H.inr h
        replace h := H.done h
        subst h
        exact ret func34 rfl (vs := [.bool true]) (.tmp (by kernel_rfl) .nil) rfl (fun W S => ⟨rfl, S.below⟩)
      replace h := H.f q7 h
      refine c_skip ?_
      refine c_inb ?_
      refine r_start ?_
      refine p 2 ?_
      refine rend ?_
      refine c_set 9 (ci hw6) ?_
      replace h := H.inl h
      exact h () _ _ rfl (by kernel_rfl) (by kernel_rfl)
    · intro x u q4 h
      refine c_seq ?_
      refine r_start ?_
      refine p 1 ?_
      refine rend ?_
      refine c_seq ?_
      refine c_no q4 ?_
      refine cx ?_
      replace h := H.done h
      exact hj1 () _ _ h (by kernel_rfl) (by kernel_rfl)
  intro x u h
  refine c_seq ?_
  refine r_start ?_
  refine p 1 ?_
  refine rend ?_
  replace h := H.done h
  subst h
  exact ret func34 rfl (vs := [.bool false]) (.tmp (by kernel_rfl) .nil) rfl (fun W S => ⟨rfl, S.below⟩)
theorem C.i_LawfulSigns_1_1 {a0 : Constraint} {a1 : Sign} {p1 : Nat} {r : Bool} (w : World) (h : X.i_LawfulSigns_1_1 a1 a0 = some r) (hp1 : w.heap[p1]? = some (.cells (eSign a1 : List Value).toArray 38 (0, 0))) : Calls prog 108 #[.agg (eConstraint a0).toArray, .pointer (some ⟨p1, 0, none⟩)] w (Ret w (.bool r)) := by
  refine calls (M := no) (args := [.agg (eConstraint a0).toArray, .pointer (some ⟨p1, 0, none⟩)]) func108 rfl ?_
  replace h : H (X.i_LawfulSigns_1_1 a1 a0) (fun o => o = r) := H.mk h
  unfold X.i_LawfulSigns_1_1 at h
  refine c_seq ?_
  refine r_start ?_
  refine xx rfl (x_box (eConstraint a0) fun g0_0 => ?_)
  refine p 1 ?_
  refine rend ?_
  refine c_seq ?_
  refine r_start ?_
  refine xq rfl (y_load (.agg (eConstraint a0).toArray) 0 g0_0 0) ?_
  refine xq rfl (y_ld0 (.agg (eSign a1).toArray) p1 0 hp1) ?_
  obtain ⟨v1_2, hv1_2, h⟩ := H.call h
  refine xq rfl (y_call [.agg (eConstraint a0).toArray, .agg (eSign a1).toArray] (.bool v1_2) func105 (fun W S => C.i_Constraint_keptBy W hv1_2)) ?_
  refine p 1 ?_
  refine rend ?_
  replace h := H.done h
  subst h
  exact ret func108 rfl (vs := [.bool v1_2]) (.tmp (by kernel_rfl) .nil) rfl (fun W S => ⟨rfl, S.below⟩)
theorem C.i_LawfulSigns_1 {a0 : Sign} {a1 : (List Constraint)} {A1 : Option Addr} {k1 : Nat} {p1 : Nat} {r : Bool} (w : World) (h : X.i_LawfulSigns_1 a1 a0 = some r) (h1 : RdT nConstraint w (.slice A1 (List.length a1) k1) a1) (hp1 : w.heap[p1]? = some (.cells ([.slice A1 (List.length a1) k1] : List Value).toArray 55 (0, 0))) : Calls prog 106 #[.agg (eSign a0).toArray, .pointer (some ⟨p1, 0, none⟩)] w (Ret w (.bool r)) := by
  refine calls (M := no) (args := [.agg (eSign a0).toArray, .pointer (some ⟨p1, 0, none⟩)]) func106 rfl ?_
  replace h : H (X.i_LawfulSigns_1 a1 a0) (fun o => o = r) := H.mk h
  unfold X.i_LawfulSigns_1 at h
  refine c_seq ?_
  refine r_start ?_
  refine xx rfl (x_box (eSign a0) fun g0_0 => ?_)
  refine p 1 ?_
  refine rend ?_
  refine c_seq ?_
  refine r_start ?_
  refine xq rfl (y_ld0 (.slice A1 (List.length a1) k1) p1 0 hp1) ?_
  refine p 1 ?_
  obtain ⟨v1_2, hv1_2, h⟩ := H.call h
  refine xq rfl (y_call [.slice A1 (List.length a1) k1, .func (.func 108) #[] #[.pointer (some ⟨g0_0, 0, none⟩)]] (.bool v1_2) func107 (fun W S => C.i_allOf_i_Constraint W hv1_2 ((s_arg h1).out W S) (isFn_of func108) (fun x0_2 r W2 hu2 hx2 => C.i_LawfulSigns_1_1 W2 hx2 (bx_up (S.bx 0) hu2)))) ?_
  refine p 1 ?_
  refine rend ?_
  replace h := H.done h
  subst h
  exact ret func106 rfl (vs := [.bool v1_2]) (.tmp (by kernel_rfl) .nil) rfl (fun W S => ⟨rfl, S.below⟩)
theorem C.i_LawfulSigns {fu : Nat} {a0 : (List Sign)} {A0 : Option Addr} {k0 : Nat} {a1 : (List Constraint)} {A1 : Option Addr} {k1 : Nat} {r : ((List Int) × Bool)} (w : World) (h : X.i_LawfulSigns fu a0 a1 = some r) (h0 : RdT nSign w (.slice A0 (List.length a0) k0) a0) (h1 : RdT nConstraint w (.slice A1 (List.length a1) k1) a1) : Calls prog 35 #[.slice A0 (List.length a0) k0, .slice A1 (List.length a1) k1] w (RetR (eI .i64) 3 w r.1 (fun v => .tuple #[v, .bool r.2])) := by
  refine calls (M := no) (args := [.slice A0 (List.length a0) k0, .slice A1 (List.length a1) k1]) func35 rfl ?_
  replace h : H (X.i_LawfulSigns fu a0 a1) (fun o => o = r) := H.mk h
  unfold X.i_LawfulSigns at h
  refine c_seq ?_
  refine r_start ?_
  refine xx rfl (x_box [.slice A1 (List.length a1) k1] fun g0_0 => ?_)
  refine p 2 ?_
  refine rend ?_
  refine c_seq ?_
  refine c_seq ?_
  refine r_start ?_
  refine p 1 ?_
  obtain ⟨v1_1, hv1_1, h⟩ := H.call h
  refine xq rfl (y_call [.slice A0 (List.length a0) k0, .int .i64 20] (.bool v1_1) func80 (fun W S => C.i_areSigns W hv1_1 ((s_arg h0).out W S))) ?_
  refine p 2 ?_
  refine br (!v1_1) (fun q1 => ?_) (fun q1 => ?_)
  · replace h := H.t q1 h
    refine o_set 9 (congrArg Value.bool q1) ?_
    refine p 4 ?_
    refine rend ?_
    refine c_t (by kernel_rfl) ?_
    refine c_seq ?_
    refine r_start ?_
    refine p 2 ?_
    refine rend ?_
    replace h := H.done h
    subst h
    exact ret func35 rfl (vs := [.slice none 0 0, .bool false]) (.tmp (by kernel_rfl) (.tmp (by kernel_rfl) .nil)) rfl (fun W S => ⟨none, 0, rfl, World.ownsRow_nil _ _ _ _, S.below⟩)
  replace h := H.f q1 h
  refine o_set 9 (congrArg Value.bool q1) ?_
  refine xq rfl (y_load (.slice A1 (List.length a1) k1) 0 g0_0 0) ?_
  obtain ⟨v1_5, hv1_5, h⟩ := H.call h
  refine xq rfl (y_call [.slice A1 (List.length a1) k1] (.bool v1_5) func96 (fun W S => C.i_areConstraints W hv1_5 ((s_arg h1).out W S))) ?_
  refine p 2 ?_
  refine rend ?_
  refine c_or (!v1_5) (fun q2 => ?_) (fun q2 => ?_)
  · replace h := H.t q2 h
    refine c_seq ?_
    refine r_start ?_
    refine p 2 ?_
    refine rend ?_
    replace h := H.done h
    subst h
    exact ret func35 rfl (vs := [.slice none 0 0, .bool false]) (.tmp (by kernel_rfl) (.tmp (by kernel_rfl) .nil)) rfl (fun W S => ⟨none, 0, rfl, World.ownsRow_nil _ _ _ _, S.below⟩)
  replace h := H.f q2 h
  refine c_skip ?_
  refine c_seq ?_
  refine r_start ?_
  refine p 2 ?_
  obtain ⟨v3_2, hv3_2, h⟩ := H.call h
  refine xx rfl (e_cr [.slice A0 (List.length a0) k0, .func (.func 106) #[] #[.pointer (some ⟨g0_0, 0, none⟩)]] (fun v => v) func103 (fun W S => C.i_those_i_Sign W hv3_2 ((s_arg h0).out W S) (isFn_of func106) (fun x0_2 r W2 hu2 hx2 => C.i_LawfulSigns_1 W2 hx2 (Rd.up ((s_arg h1).out W S) hu2) (bx_up (S.bx 0) hu2))) fun A3_2 k3_2 => ?_)
  refine p 2 ?_
  refine rend ?_
  replace h := H.done h
  subst h
  exact ret func35 rfl (vs := [.slice A3_2 (List.length v3_2) k3_2, .bool true]) (.tmp (by kernel_rfl) (.tmp (by kernel_rfl) .nil)) rfl (fun W S => ⟨_, _, rfl, S.row 1, S.below⟩)
theorem C.s_BreakersOf {fu : Nat} {a0 : (List Sign)} {A0 : Option Addr} {k0 : Nat} {a1 : Constraint} {r : ((List Int) × Bool)} (w : World) (h : X.s_BreakersOf fu a0 a1 = some r) (h0 : RdT nSign w (.slice A0 (List.length a0) k0) a0) : Calls prog 36 #[.slice A0 (List.length a0) k0, .agg (eConstraint a1).toArray] w (RetR (eI .i64) 3 w r.1 (fun v => .tuple #[v, .bool r.2])) := by
  refine calls (M := no) (args := [.slice A0 (List.length a0) k0, .agg (eConstraint a1).toArray]) func36 rfl ?_
  replace h : H (X.s_BreakersOf fu a0 a1) (fun o => o = r) := H.mk h
  unfold X.s_BreakersOf at h
  refine c_seq ?_
  refine r_start ?_
  refine xx rfl (x_box (eConstraint a1) fun g0_0 => ?_)
  refine p 2 ?_
  refine rend ?_
  refine c_seq ?_
  refine c_seq ?_
  refine r_start ?_
  refine p 1 ?_
  obtain ⟨v1_1, hv1_1, h⟩ := H.call h
  refine xq rfl (y_call [.slice A0 (List.length a0) k0] (.bool v1_1) func83 (fun W S => C.s_paList W hv1_1 ((s_arg h0).out W S))) ?_
  refine p 2 ?_
  refine br (!v1_1) (fun q1 => ?_) (fun q1 => ?_)
  · replace h := H.t q1 h
    refine o_set 12 (congrArg Value.bool q1) ?_
    refine p 4 ?_
    refine rend ?_
    refine c_t (by kernel_rfl) ?_
    refine c_seq ?_
    refine r_start ?_
    refine p 2 ?_
    refine rend ?_
    replace h := H.done h
    subst h
    exact ret func36 rfl (vs := [.slice none 0 0, .bool false]) (.tmp (by kernel_rfl) (.tmp (by kernel_rfl) .nil)) rfl (fun W S => ⟨none, 0, rfl, World.ownsRow_nil _ _ _ _, S.below⟩)
  replace h := H.f q1 h
  refine o_set 12 (congrArg Value.bool q1) ?_
  refine xq rfl (y_load (.agg (eConstraint a1).toArray) 0 g0_0 0) ?_
  obtain ⟨v1_5, hv1_5, h⟩ := H.call h
  refine xq rfl (y_call [.agg (eConstraint a1).toArray] (.bool v1_5) func109 (fun W S => C.s_ruGood W hv1_5)) ?_
  refine p 2 ?_
  refine rend ?_
  refine c_or (!v1_5) (fun q2 => ?_) (fun q2 => ?_)
  · replace h := H.t q2 h
    refine c_seq ?_
    refine r_start ?_
    refine p 2 ?_
    refine rend ?_
    replace h := H.done h
    subst h
    exact ret func36 rfl (vs := [.slice none 0 0, .bool false]) (.tmp (by kernel_rfl) (.tmp (by kernel_rfl) .nil)) rfl (fun W S => ⟨none, 0, rfl, World.ownsRow_nil _ _ _ _, S.below⟩)
  replace h := H.f q2 h
  refine c_skip ?_
  refine c_seq ?_
  refine r_start ?_
  refine p 1 ?_
  refine rend ?_
  refine c_seq ?_
  refine c_seq ?_
  refine r_start ?_
  refine p 3 ?_
  refine rend ?_
  refine c_block ?_
  refine c_nil (eI .i64) 3 ?_
  refine joinH (X := ((List Int) × Option Addr × Nat)) 0 (H.bnd h) (fun ⟨l6, A7, k8⟩ => l6) (fun ⟨l6, A7, k8⟩ => [box g0_0 64 (eConstraint a1), rowT (eI .i64) w.heap.size 3 (.slice A7 (List.length l6) k8) l6]) (fun ⟨l6, A7, k8⟩ u => (jk u 0 6 (.slice A7 (List.length l6) k8 :: (jk u 7 27 [])))) (fun h hj9 => ?_) ?_
  · skip
    refine rangeR (X := ((List Int) × Option Addr × Nat)) (s_arg h0) (fun ⟨l3, A4, k5⟩ => l3) (fun ⟨l3, A4, k5⟩ => [box g0_0 64 (eConstraint a1), rowT (eI .i64) w.heap.size 3 (.slice A4 (List.length l3) k5) l3]) (fun (j10 : Nat) ⟨l3, A4, k5⟩ u => (jk u 0 3 (.pointer (some ⟨g0_0, 0, none⟩) :: (jk u 4 2 (.slice A4 (List.length l3) k5 :: (jk u 7 10 (.slice A0 (List.length a0) k0 :: .int .i64 (List.length a0 : Int) :: .int .i64 (j10 : Int) :: (jk u 20 14 [])))))))) (([] : List Int), none, 0) h (by kernel_rfl) (by kernel_rfl) ?_ ?_
    · intro j10 x u x11 q12 hg13 hw14 h
      obtain ⟨l3, A4, k5⟩ := x
      refine c_seq ?_
      refine r_start ?_
      refine p 1 ?_
      refine rend ?_
      refine c_seq ?_
      refine c_yes q12 ?_
      refine c_skip ?_
      refine c_seq ?_
      refine c_block ?_
      refine c_seq ?_
      refine r_start ?_
      refine p 1 ?_
      refine xq rfl (y_idx (e := nSign) (el := 38) hg13 (s_arg h0)) ?_
      refine xq rfl (y_el (e := nSign) 0 (.agg (eSign x11).toArray) hg13 (s_arg h0)) ?_
      refine xx rfl (x_new (eSign zSign) fun g6_3 => ?_)
      refine p 1 ?_
      refine xx rfl (x_sto 2 g6_3 0 (eSign x11) ?_)
      refine rend ?_
      refine c_seq ?_
      refine r_start ?_
      refine xq rfl (y_load (.agg (eSign x11).toArray) 2 g6_3 0) ?_
      refine xq rfl (y_load (.agg (eConstraint a1).toArray) 0 g0_0 0) ?_
      obtain ⟨v7_2, hv7_2, h⟩ := H.call h
      refine xq rfl (y_call [.agg (eSign x11).toArray, .agg (eConstraint a1).toArray] (.bool v7_2) func102 (fun W S => C.s_ruKeeps W hv7_2)) ?_
      refine p 1 ?_
      refine rend ?_
      refine c_or (!v7_2) (fun q15 => ?_) (fun q15 => ?_)
      · replace h := H.t q15 h
        refine r_start ?_
        refine p 2 ?_
        refine xx rfl (e_lit (e := (eI .i64)) (el := 3) [.int .i64 (j10 : Int)] ([(j10 : Int)] : List Int) fun A8_2 k8_2 => ?_)
        obtain ⟨y8_3, hy8_3, h⟩ := H.call h
        refine xx rfl (e_app 1 hy8_3 (s_own 3) fun A8_3 k8_3 => ?_)
        refine p 1 ?_
        refine rend ?_
        refine c_inb ?_
        refine r_start ?_
        refine p 2 ?_
        refine rend ?_
        refine c_set 19 (ci hw14) ?_
        replace h := H.inl h
        exact h (y8_3, A8_3, k8_3) _ _ rfl (by kernel_rfl) (by kernel_rfl)
      replace h := H.f q15 h
      refine c_skip ?_
      refine c_inb ?_
      refine r_start ?_
      refine p 2 ?_
      refine rend ?_
      refine c_set 19 (ci hw14) ?_
      replace h := H.inl h
      exact h (l3, A4, k5) _ _ rfl (by kernel_rfl) (by kernel_rfl)
    · intro x u q12 h
      obtain ⟨l3, A4, k5⟩ := x
      refine c_seq ?_
      refine r_start ?_
      refine p 1 ?_
      refine rend ?_
      refine c_seq ?_
      refine c_no q12 ?_
      refine cx ?_
      replace h := H.done h
      exact hj9 (l3, A4, k5) _ _ h (by kernel_rfl) (by kernel_rfl)
  intro x u h
  obtain ⟨l6, A7, k8⟩ := x
  refine c_seq ?_
  refine r_start ?_
  refine p 3 ?_
  refine rend ?_
  replace h := H.done h
  subst h
  exact ret func36 rfl (vs := [.slice A7 (List.length l6) k8, .bool true]) (.tmp (by kernel_rfl) (.tmp (by kernel_rfl) .nil)) rfl (fun W S => ⟨_, _, rfl, S.row 1, S.below⟩)
end Go.Proofs.XC
