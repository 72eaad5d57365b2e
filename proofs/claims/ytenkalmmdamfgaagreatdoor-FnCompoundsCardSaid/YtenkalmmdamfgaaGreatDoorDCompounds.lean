/- Contracts: each function, called where its plain function gives an answer, returns just that answer and changes nothing that was there. By AI agents; no person has read it. -/
import Derived.Test.YtenkalmmdamfgaaGreatDoorC1
set_option linter.unusedVariables false
set_option linter.unusedSimpArgs false
set_option maxRecDepth 100000
set_option maxHeartbeats 40000000
namespace Go.Proofs.XC
open Go Go.RowKit
open Tryz
theorem C.s_l1Cur_compound {fu : Nat} {a0 : List Int} {A0 : Option Addr} {k0 g0 : Nat} {t0 s0 : Int} {r : ((List Sign) × Int × Int)} (w : World) (h : X.s_l1Cur_compound fu a0 t0 s0 = some r) (m0 : w.heap[g0]? = some (.cells ([.slice A0 (List.length a0) k0, .int .i64 t0, .int .u64 s0] : List Value).toArray 94 (0, 0))) (h0 : RdT (eI .u8) w (.slice A0 (List.length a0) k0) a0) (q0 : 0 < List.length a0 → ∀ k, (Value.slice A0 (List.length a0) k0).ownBlock = some k → ¬ k = g0) : Calls prog 68 #[.pointer (some ⟨g0, 0, none⟩)] w (RetQR nSign 38 g0 94 [.slice A0 (List.length a0) k0, .int .i64 r.2.1, .int .u64 r.2.2] w r.1 (fun v => v)) := by
  refine callsQ (args := [.pointer (some ⟨g0, 0, none⟩)]) m0 func68 rfl ?_
  replace h : H (X.s_l1Cur_compound fu a0 t0 s0) (fun o => o = r) := H.mk h
  unfold X.s_l1Cur_compound at h
  refine c_seq ?_
  refine r_start ?_
  refine p 1 ?_
  refine rend ?_
  refine c_seq ?_
  refine r_start ?_
  refine p 1 ?_
  refine rend ?_
  refine c_seq ?_
  refine r_start ?_
  refine p 2 ?_
  refine xx rfl (e_lit (e := (eI .i64)) (el := 3) [.int .i64 2, .int .i64 0, .int .i64 1, .int .i64 5] ([2, 0, 1, 5] : List Int) fun A2_2 k2_2 => ?_)
  obtain ⟨v2_3, hv2_3, h⟩ := H.call h
  refine xx rfl (e_cq (cs' := [.slice A0 (List.length a0) k0, .int .i64 v2_3.2.1, .int .u64 v2_3.2.2]) (v := .int .i64 v2_3.1) 0 [.pointer (some ⟨g0, 0, none⟩), .slice A2_2 (List.length ([2, 0, 1, 5] : List Int)) k2_2] func143 (fun W S => C.s_l1Cur_among W hv2_3 (S.bx 0) ((s_argN h0 q0).out W S) q0 ((s_own 1).out W S) (ap_row S 1 0 (by decide))) ?_)
  refine xx rfl (e_lit (e := (eI .i64)) (el := 3) [.int .i64 2, .int .i64 2, .int .i64 3, .int .i64 4, .int .i64 v2_3.1] ([2, 2, 3, 4, v2_3.1] : List Int) fun A2_4 k2_4 => ?_)
  obtain ⟨v2_5, hv2_5, h⟩ := H.call h
  refine xx rfl (e_cq (cs' := [.slice A0 (List.length a0) k0, .int .i64 v2_5.2.1, .int .u64 v2_5.2.2]) (v := .int .i64 v2_5.1) 0 [.pointer (some ⟨g0, 0, none⟩), .slice A2_4 (List.length ([2, 2, 3, 4, v2_3.1] : List Int)) k2_4] func143 (fun W S => C.s_l1Cur_among W hv2_5 (S.bx 0) ((s_argN h0 q0).out W S) q0 ((s_own 2).out W S) (ap_row S 2 0 (by decide))) ?_)
  refine p 1 ?_
  refine rend ?_
  refine c_seq ?_
  refine c_block ?_
  refine c_nil nSign 38 ?_
  refine joinH (X := (Int × Int × (List Sign) × Option Addr × Nat)) 0 (H.bnd h) (fun ⟨n6, n7, l8, A9, k10⟩ => (n6, n7, l8)) (fun ⟨n6, n7, l8, A9, k10⟩ => [box g0 94 [.slice A0 (List.length a0) k0, .int .i64 n6, .int .u64 n7], rowT (eI .i64) w.heap.size 3 (.slice A2_2 (List.length ([2, 0, 1, 5] : List Int)) k2_2) ([2, 0, 1, 5] : List Int), rowT (eI .i64) w.heap.size 3 (.slice A2_4 (List.length ([2, 2, 3, 4, v2_3.1] : List Int)) k2_4) ([2, 2, 3, 4, v2_3.1] : List Int), rowT nSign w.heap.size 38 (.slice A9 (List.length l8) k10) l8]) (fun ⟨n6, n7, l8, A9, k10⟩ u => (.pointer (some ⟨g0, 0, none⟩) :: (jk u 1 2 (.slice A9 (List.length l8) k10 :: .int .i64 v2_5.1 :: (jk u 5 29 []))))) (fun h hj11 => ?_) ?_
  · skip
    refine loopR (X := (Int × Int × (List Sign) × Option Addr × Nat)) (fun ⟨n1, n2, l3, A4, k5⟩ => (n1, n2, l3)) (fun ⟨n1, n2, l3, A4, k5⟩ => [box g0 94 [.slice A0 (List.length a0) k0, .int .i64 n1, .int .u64 n2], rowT (eI .i64) w.heap.size 3 (.slice A2_2 (List.length ([2, 0, 1, 5] : List Int)) k2_2) ([2, 0, 1, 5] : List Int), rowT (eI .i64) w.heap.size 3 (.slice A2_4 (List.length ([2, 2, 3, 4, v2_3.1] : List Int)) k2_4) ([2, 2, 3, 4, v2_3.1] : List Int), rowT nSign w.heap.size 38 (.slice A4 (List.length l3) k5) l3]) (fun ⟨n1, n2, l3, A4, k5⟩ u => (.pointer (some ⟨g0, 0, none⟩) :: (jk u 1 2 (.slice A4 (List.length l3) k5 :: .int .i64 v2_5.1 :: (jk u 5 29 []))))) (v2_5.2.1, v2_5.2.2, ([] : List Sign), none, 0) h (by kernel_rfl) (by kernel_rfl) ?_
    intro x u h
    obtain ⟨n1, n2, l3, A4, k5⟩ := x
    refine c_seq ?_
    refine c_seq ?_
    refine r_start ?_
    refine p 4 ?_
    refine rend ?_
    refine c_or (decide ((List.length l3 : Int) < v2_5.1)) (fun q12 => ?_) (fun q12 => ?_)
    · replace h := H.t q12 h
      refine c_skip ?_
      refine c_block ?_
      refine r_start ?_
      refine p 2 ?_
      obtain ⟨v4_2, hv4_2, h⟩ := H.call h
      refine xx rfl (e_cq (cs' := [.slice A0 (List.length a0) k0, .int .i64 v4_2.2.1, .int .u64 v4_2.2.2]) (v := .agg (eSign v4_2.1).toArray) 0 [.pointer (some ⟨g0, 0, none⟩)] func138 (fun W S => C.s_l1Cur_sign W hv4_2 (S.bx 0) ((s_argN h0 q0).out W S) q0) ?_)
      refine xx rfl (e_lit (e := nSign) (el := 38) [.agg (eSign v4_2.1).toArray] ([v4_2.1] : List Sign) fun A4_3 k4_3 => ?_)
      obtain ⟨y4_4, hy4_4, h⟩ := H.call h
      refine xx rfl (e_app 3 hy4_4 (s_own 4) fun A4_4 k4_4 => ?_)
      refine p 1 ?_
      refine rend ?_
      refine c_inb ?_
      replace h := H.inl h
      exact h (v4_2.2.1, v4_2.2.2, y4_4, A4_4, k4_4) _ _ rfl (by kernel_rfl) (by kernel_rfl)
    replace h := H.f q12 h
    refine cx ?_
    replace h := H.inr h
    exact hj11 (n1, n2, l3, A4, k5) _ _ h (by kernel_rfl) (by kernel_rfl)
  intro x u h
  obtain ⟨n6, n7, l8, A9, k10⟩ := x
  refine c_seq ?_
  refine c_seq ?_
  refine r_start ?_
  refine p 3 ?_
  refine br (decide (v2_5.1 > 0)) (fun q13 => ?_) (fun q13 => ?_)
  · replace h := H.t q13 h
    refine o_set 22 (congrArg Value.bool q13) ?_
    refine p 1 ?_
    obtain ⟨v5_4, hv5_4, h⟩ := H.call h
    refine xx rfl (e_cq (cs' := [.slice A0 (List.length a0) k0, .int .i64 v5_4.2.1, .int .u64 v5_4.2.2]) (v := .bool v5_4.1) 0 [.pointer (some ⟨g0, 0, none⟩), .int .i64 20] func78 (fun W S => C.s_l1Cur_one W hv5_4 (S.bx 0) ((s_argN h0 q0).out W S) q0) ?_)
    refine p 1 ?_
    refine rend ?_
    refine c_or v5_4.1 (fun q14 => ?_) (fun q14 => ?_)
    · replace h := H.t q14 h
      refine r_start ?_
      refine p 3 ?_
      obtain ⟨v6_3, hv6_3, h⟩ := H.call h
      refine xx rfl (e_cq (cs' := [.slice A0 (List.length a0) k0, .int .i64 v6_3.2.1, .int .u64 v6_3.2.2]) (v := .int .i64 v6_3.1) 0 [.pointer (some ⟨g0, 0, none⟩), .int .i64 v2_5.1] func79 (fun W S => C.s_l1Cur_pick W hv6_3 (S.bx 0) ((s_argN h0 q0).out W S) q0) ?_)
      refine p 1 ?_
      obtain ⟨v6_5, hv6_5, h⟩ := H.call h
      refine xx rfl (e_cq (cs' := [.slice A0 (List.length a0) k0, .int .i64 v6_5.2.1, .int .u64 v6_5.2.2]) (v := .agg (eSign v6_5.1).toArray) 0 [.pointer (some ⟨g0, 0, none⟩)] func73 (fun W S => C.s_l1Cur_anySign W hv6_5 (S.bx 0) ((s_argN h0 q0).out W S) q0) ?_)
      obtain ⟨y6_6, hy6_6, h⟩ := H.call h
      refine xq rfl (y_idx (e := nSign) (el := 38) hy6_6 (s_own 3)) ?_
      refine xx rfl (e_stel (e := nSign) (b := v6_5.1) 3 0 (eSign v6_5.1) hy6_6 (by kernel_rfl) ?_)
      refine o_set 3 (sl_set (A := A9) (c := k10) (l := l8) (n := Int.toNat v6_3.1) (b := v6_5.1)) ?_
      refine rend ?_
      refine c_seq ?_
      refine r_start ?_
      refine p 2 ?_
      refine rend ?_
      replace h := H.done h
      subst h
      exact ret func68 rfl (vs := [.slice A9 (List.length (List.set l8 (Int.toNat v6_3.1) v6_5.1)) k10]) (.tmp (by kernel_rfl) .nil) rfl (fun W S => S.retQR (res := fun v => v) 3 (by decide))
    replace h := H.f q14 h
    refine c_skip ?_
    refine c_seq ?_
    refine r_start ?_
    refine p 2 ?_
    refine rend ?_
    replace h := H.done h
    subst h
    exact ret func68 rfl (vs := [.slice A9 (List.length l8) k10]) (.tmp (by kernel_rfl) .nil) rfl (fun W S => S.retQR (res := fun v => v) 3 (by decide))
  replace h := H.f q13 h
  refine o_set 22 (congrArg Value.bool q13) ?_
  refine p 3 ?_
  refine rend ?_
  refine c_f (by kernel_rfl) ?_
  refine c_skip ?_
  refine c_seq ?_
  refine r_start ?_
  refine p 2 ?_
  refine rend ?_
  replace h := H.done h
  subst h
  exact ret func68 rfl (vs := [.slice A9 (List.length l8) k10]) (.tmp (by kernel_rfl) .nil) rfl (fun W S => S.retQR (res := fun v => v) 3 (by decide))
theorem C.s_DrawCompoundOf {fu : Nat} {a0 : (List Int)} {A0 : Option Addr} {k0 : Nat} {r : (List Sign)} (w : World) (h : X.s_DrawCompoundOf fu a0 = some r) (h0 : RdT (eI .u8) w (.slice A0 (List.length a0) k0) a0) : Calls prog 7 #[.slice A0 (List.length a0) k0] w (RetR nSign 38 w r (fun v => v)) := by
  refine calls (M := no) (args := [.slice A0 (List.length a0) k0]) func7 rfl ?_
  replace h : H (X.s_DrawCompoundOf fu a0) (fun o => o = r) := H.mk h
  unfold X.s_DrawCompoundOf at h
  refine c_seq ?_
  refine r_start ?_
  refine p 1 ?_
  refine rend ?_
  refine c_seq ?_
  refine r_start ?_
  refine p 2 ?_
  refine xx rfl (x_box [.slice A0 (List.length a0) k0, .int .i64 0, .int .u64 0] fun g1_2 => ?_)
  refine p 1 ?_
  refine rend ?_
  refine c_seq ?_
  refine r_start ?_
  refine p 1 ?_
  obtain ⟨v2_1, hv2_1, h⟩ := H.call h
  refine xx rfl (e_cqR (cs' := [.slice A0 (List.length a0) k0, .int .i64 v2_1.2.1, .int .u64 v2_1.2.2]) 0 [.pointer (some ⟨g1_2, 0, none⟩)] (fun v => v) func68 (fun W S => C.s_l1Cur_compound W hv2_1 (S.bx 0) ((s_arg h0).out W S) (ap_arg h0 S 0)) fun A2_1 k2_1 => ?_)
  refine p 1 ?_
  refine rend ?_
  replace h := H.done h
  subst h
  exact ret func7 rfl (vs := [.slice A2_1 (List.length v2_1.1) k2_1]) (.tmp (by kernel_rfl) .nil) rfl (fun W S => ⟨_, _, rfl, S.row 1, S.below⟩)
theorem C.i_isMade {fu : Nat} {a0 : (List Sign)} {A0 : Option Addr} {k0 : Nat} {r : Bool} (w : World) (h : X.i_isMade fu a0 = some r) (h0 : RdT nSign w (.slice A0 (List.length a0) k0) a0) : Calls prog 69 #[.slice A0 (List.length a0) k0] w (Ret w (.bool r)) := by
  refine calls (M := no) (args := [.slice A0 (List.length a0) k0]) func69 rfl ?_
  replace h : H (X.i_isMade fu a0) (fun o => o = r) := H.mk h
  unfold X.i_isMade at h
  refine c_seq ?_
  refine r_start ?_
  refine p 1 ?_
  refine rend ?_
  refine c_seq ?_
  refine r_start ?_
  refine p 4 ?_
  refine br (decide ((List.length a0 : Int) ≥ 2)) (fun q1 => ?_) (fun q1 => ?_)
  · replace h := H.t q1 h
    refine o_set 6 (congrArg Value.bool q1) ?_
    refine p 1 ?_
    obtain ⟨v1_5, hv1_5, h⟩ := H.call h
    refine xq rfl (y_call [.slice A0 (List.length a0) k0, .int .i64 4] (.bool v1_5) func80 (fun W S => C.i_areSigns W hv1_5 ((s_arg h0).out W S))) ?_
    refine p 2 ?_
    refine rend ?_
    replace h := H.done h
    subst h
    exact ret func69 rfl (vs := [.bool v1_5]) (.tmp (by kernel_rfl) .nil) rfl (fun W S => ⟨rfl, S.below⟩)
  replace h := H.f q1 h
  refine o_set 6 (congrArg Value.bool q1) ?_
  refine p 4 ?_
  refine rend ?_
  replace h := H.done h
  subst h
  exact ret func69 rfl (vs := [.bool false]) (.tmp (by kernel_rfl) .nil) rfl (fun W S => ⟨rfl, S.below⟩)
theorem C.i_Move_reduced {fu : Nat} {a0 : Move} {r : Move} (w : World) (h : X.i_Move_reduced fu a0 = some r) : Calls prog 147 #[.agg (eMove a0).toArray] w (Ret w (.agg (eMove r).toArray)) := by
  refine calls (M := no) (args := [.agg (eMove a0).toArray]) func147 rfl ?_
  replace h : H (X.i_Move_reduced fu a0) (fun o => o = r) := H.mk h
  unfold X.i_Move_reduced at h
  refine c_seq ?_
  refine r_start ?_
  refine xx rfl (x_box (eMove a0) fun g0_0 => ?_)
  refine xx rfl (x_new (eMove zMove) fun g0_1 => ?_)
  refine rend ?_
  refine c_seq ?_
  refine r_start ?_
  refine xq rfl (y_load (.agg (eMove a0).toArray) 0 g0_0 0) ?_
  obtain ⟨v1_1, hv1_1, h⟩ := H.call h
  refine xq rfl (y_call [.agg (eMove a0).toArray] (.string (bs v1_1)) func161 (fun W S => C.i_Move_all W hv1_1)) ?_
  refine p 1 ?_
  refine rend ?_
  refine c_seq ?_
  refine c_seq ?_
  refine r_start ?_
  refine p 1 ?_
  refine rend ?_
  refine c_block ?_
  refine joinE (X := Unit) 0 (H.or h) (fun (x : Unit) => x) (fun _ => [box g0_0 34 (eMove a0), box g0_1 34 (eMove zMove)]) (fun _ u => (jk u 0 1 (.pointer (some ⟨g0_0, 0, none⟩) :: .pointer (some ⟨g0_1, 0, none⟩) :: (jk u 3 32 [])))) (fun h hj2 => ?_) ?_
  · skip
    refine loopR (X := Int) (fun (x : Int) => x) (fun n1 => [box g0_0 34 (eMove a0), box g0_1 34 (eMove zMove)]) (fun n1 u => (jk u 0 1 (.pointer (some ⟨g0_0, 0, none⟩) :: .pointer (some ⟨g0_1, 0, none⟩) :: .string (bs v1_1) :: .int .i64 n1 :: (jk u 5 30 [])))) 1 h (by kernel_rfl) (by kernel_rfl) ?_
    intro n1 u h
    refine c_seq ?_
    refine c_seq ?_
    refine r_start ?_
    refine p 4 ?_
    refine rend ?_
    refine c_or (decide (n1 ≤ (List.length v1_1 : Int))) (fun q3 => ?_) (fun q3 => ?_)
    · replace h := H.t q3 h
      refine c_skip ?_
      refine c_seq ?_
      refine c_block ?_
      refine c_seq ?_
      refine as_start 17 17 ?_
      refine ap 0 3 ?_
      obtain ⟨y5_3, hy5_3, h⟩ := H.call h
      refine aq 3 rfl (y_mod hy5_3) ?_
      refine ap 4 2 ?_
      refine br (y5_3 == 0) (fun q4 => ?_) (fun q4 => ?_)
      · replace h := H.t q4 h
        refine a_set 18 (congrArg Value.bool q4) ?_
        refine ap 6 2 ?_
        obtain ⟨y5_8, hy5_8, h⟩ := H.call h
        refine aq 8 rfl (y_cut hy5_8) ?_
        refine ap 9 3 ?_
        obtain ⟨y5_12, hy5_12, h⟩ := H.call h
        refine aq 12 rfl (y_div hy5_12) ?_
        obtain ⟨v5_13, hv5_13, h⟩ := H.call h
        refine aq 13 rfl (y_call [.string (bs y5_8), .int .i64 y5_12] (.string (bs v5_13)) func197 (fun W S => C.strings_Repeat W hv5_13)) ?_
        refine ap 14 3 ?_
        refine a_done ?_
        refine c_or (seq v5_13 v1_1) (fun q5 => ?_) (fun q5 => ?_)
        · replace h := H.t q5 h
          refine c_seq ?_
          refine r_start ?_
          refine p 2 ?_
          obtain ⟨y6_2, hy6_2, h⟩ := H.call h
          refine xq rfl (y_cut hy6_2) ?_
          refine p 1 ?_
          refine xx rfl (x_sto 1 g0_1 0 (eMove (⟨y6_2, 1⟩ : Move)) ?_)
          refine rend ?_
          replace h := H.inr h
          replace h := H.done h
          subst h
          exact ret func147 rfl (vs := [.agg (eMove (⟨y6_2, 1⟩ : Move)).toArray]) (.cell 1 g0_1 rfl (by kernel_rfl) (by kernel_rfl) .nil) rfl (fun W S => ⟨rfl, S.below⟩)
        replace h := H.f q5 h
        refine c_skip ?_
        refine c_inb ?_
        refine r_start ?_
        refine p 3 ?_
        refine rend ?_
        replace h := H.inl h
        exact h (wr (n1 + 1)) _ _ rfl (by kernel_rfl) (by kernel_rfl)
      replace h := H.f q4 h
      refine a_set 18 (congrArg Value.bool q4) ?_
      refine ap 6 11 ?_
      refine a_done ?_
      refine c_f (by kernel_rfl) ?_
      refine c_skip ?_
      refine c_inb ?_
      refine r_start ?_
      refine p 3 ?_
      refine rend ?_
      replace h := H.inl h
      exact h (wr (n1 + 1)) _ _ rfl (by kernel_rfl) (by kernel_rfl)
    replace h := H.f q3 h
    refine cx ?_
    replace h := H.inr h
    exact hj2 () _ _ h (by kernel_rfl) (by kernel_rfl)
  intro x u h
  refine c_seq ?_
  refine r_start ?_
  refine xq rfl (y_load (.agg (eMove a0).toArray) 0 g0_0 0) ?_
  refine xx rfl (x_sto 1 g0_1 0 (eMove a0) ?_)
  refine rend ?_
  replace h := H.done h
  subst h
  exact ret func147 rfl (vs := [.agg (eMove a0).toArray]) (.cell 1 g0_1 rfl (by kernel_rfl) (by kernel_rfl) .nil) rfl (fun W S => ⟨rfl, S.below⟩)
theorem C.i_Sign_reduced {fu : Nat} {a0 : Sign} {r : Sign} (w : World) (h : X.i_Sign_reduced fu a0 = some r) : Calls prog 74 #[.agg (eSign a0).toArray] w (Ret w (.agg (eSign r).toArray)) := by
  refine calls (M := no) (args := [.agg (eSign a0).toArray]) func74 rfl ?_
  replace h : H (X.i_Sign_reduced fu a0) (fun o => o = r) := H.mk h
  unfold X.i_Sign_reduced at h
  refine c_seq ?_
  refine r_start ?_
  refine xx rfl (x_box (eSign a0) fun g0_0 => ?_)
  refine xx rfl (x_new (eSign zSign) fun g0_1 => ?_)
  refine rend ?_
  refine c_seq ?_
  refine r_start ?_
  refine p 2 ?_
  refine xq rfl (y_load (.agg (eMove a0.Main.Move).toArray) 0 g0_0 11) ?_
  obtain ⟨v1_3, hv1_3, h⟩ := H.call h
  refine xq rfl (y_call [.agg (eMove a0.Main.Move).toArray] (.agg (eMove v1_3).toArray) func147 (fun W S => C.i_Move_reduced W hv1_3)) ?_
  refine p 2 ?_
  refine xx rfl (x_sto 0 g0_0 11 (eSign ({ a0 with Main := { a0.Main with Move := v1_3 } })) ?_)
  refine rend ?_
  refine c_seq ?_
  refine c_seq ?_
  refine r_start ?_
  refine p 1 ?_
  refine xq rfl (y_load (.bool a0.Two) 0 g0_0 13) ?_
  refine rend ?_
  refine c_or a0.Two (fun q1 => ?_) (fun q1 => ?_)
  · replace h := H.t q1 h
    refine r_start ?_
    refine p 2 ?_
    refine xq rfl (y_load (.agg (eMove a0.Other.Move).toArray) 0 g0_0 25) ?_
    obtain ⟨v3_3, hv3_3, h⟩ := H.call h
    refine xq rfl (y_call [.agg (eMove a0.Other.Move).toArray] (.agg (eMove v3_3).toArray) func147 (fun W S => C.i_Move_reduced W hv3_3)) ?_
    refine p 2 ?_
    refine xx rfl (x_sto 0 g0_0 25 (eSign (⟨{ a0.Main with Move := v1_3 }, a0.Two, { a0.Other with Move := v3_3 }⟩ : Sign)) ?_)
    refine rend ?_
    refine c_seq ?_
    refine r_start ?_
    refine xq rfl (y_load (.agg (eSign (⟨{ a0.Main with Move := v1_3 }, a0.Two, { a0.Other with Move := v3_3 }⟩ : Sign)).toArray) 0 g0_0 0) ?_
    refine xx rfl (x_sto 1 g0_1 0 (eSign (⟨{ a0.Main with Move := v1_3 }, a0.Two, { a0.Other with Move := v3_3 }⟩ : Sign)) ?_)
    refine rend ?_
    replace h := H.done h
    subst h
    exact ret func74 rfl (vs := [.agg (eSign (⟨{ a0.Main with Move := v1_3 }, a0.Two, { a0.Other with Move := v3_3 }⟩ : Sign)).toArray]) (.cell 1 g0_1 rfl (by kernel_rfl) (by kernel_rfl) .nil) rfl (fun W S => ⟨rfl, S.below⟩)
  replace h := H.f q1 h
  refine c_skip ?_
  refine c_seq ?_
  refine r_start ?_
  refine xq rfl (y_load (.agg (eSign ({ a0 with Main := { a0.Main with Move := v1_3 } })).toArray) 0 g0_0 0) ?_
  refine xx rfl (x_sto 1 g0_1 0 (eSign ({ a0 with Main := { a0.Main with Move := v1_3 } })) ?_)
  refine rend ?_
  replace h := H.done h
  subst h
  exact ret func74 rfl (vs := [.agg (eSign ({ a0 with Main := { a0.Main with Move := v1_3 } })).toArray]) (.cell 1 g0_1 rfl (by kernel_rfl) (by kernel_rfl) .nil) rfl (fun W S => ⟨rfl, S.below⟩)
theorem C.slices_Clone_i_Sign_i_Sign {a0 : (List Sign)} {A0 : Option Addr} {k0 : Nat} {r : (List Sign)} (w : World) (h : X.slices_Clone_i_Sign_i_Sign a0 = some r) (h0 : RdT nSign w (.slice A0 (List.length a0) k0) a0) : Calls prog 144 #[.slice A0 (List.length a0) k0] w (RetR nSign 38 w r (fun v => v)) := by
  refine calls (M := no) (args := [.slice A0 (List.length a0) k0]) func144 rfl ?_
  unfold X.slices_Clone_i_Sign_i_Sign at h
  refine c_seq ?_
  refine r_start ?_
  refine p 1 ?_
  refine rend ?_
  refine c_seq ?_
  refine c_seq ?_
  refine r_start ?_
  refine p 1 ?_
  refine xq rfl (y_eqn (A := A0) (n := List.length a0) (c := k0) (el := 38) rfl (by kernel_rfl) (by kernel_rfl) (by kernel_rfl)) ?_
  refine rend ?_
  refine c_or A0.isNone (fun q => ?_) (fun q => ?_)
  · have ha : a0 = [] := by
      obtain ⟨A2, c2, e1, _, _, _, h4⟩ := h0
      injection e1 with e1 _ _
      subst e1
      cases a0 with
      | nil => rfl
      | cons x l =>
        obtain ⟨b, off, hA, _⟩ := h4 (by simp)
        subst hA
        cases q
    subst ha
    have hr : r = [] := by
      unfold appG at h
      split at h
      · exact (Option.some.inj h).symm
      · cases h
    subst hr
    refine c_seq ?_
    refine r_start ?_
    refine p 1 ?_
    refine rend ?_
    exact ret func144 rfl (vs := [.slice none 0 0]) (.tmp (by kernel_rfl) .nil) rfl (fun W S => ⟨none, 0, rfl, World.ownsRow_nil _ _ _ _, S.below⟩)
  refine c_skip ?_
  refine c_seq ?_
  refine r_start ?_
  refine xx rfl (e_lit (e := nSign) (el := 38) [] ([] : List Sign) fun A5 k5 => ?_)
  refine p 1 ?_
  refine xx rfl (e_app 0 h (s_arg h0) fun A7 k7 => ?_)
  refine p 1 ?_
  refine rend ?_
  exact ret func144 rfl (vs := [.slice A7 (List.length r) k7]) (.tmp (by kernel_rfl) .nil) rfl (fun W S => ⟨_, _, rfl, S.row 0, S.below⟩)
theorem C.i_compound {fu : Nat} {a0 : (List Sign)} {A0 : Option Addr} {k0 : Nat} {r : (List Sign)} (w : World) (h : X.i_compound fu a0 = some r) (h0 : RdT nSign w (.slice A0 (List.length a0) k0) a0) : Calls prog 70 #[.slice A0 (List.length a0) k0] w (RetR nSign 38 w r (fun v => v)) := by
  refine calls (M := no) (args := [.slice A0 (List.length a0) k0]) func70 rfl ?_
  replace h : H (X.i_compound fu a0) (fun o => o = r) := H.mk h
  unfold X.i_compound at h
  refine c_seq ?_
  refine r_start ?_
  refine p 1 ?_
  refine rend ?_
  refine c_seq ?_
  refine r_start ?_
  refine p 1 ?_
  obtain ⟨v1_1, hv1_1, h⟩ := H.call h
  refine xx rfl (e_cr [.slice A0 (List.length a0) k0] (fun v => v) func144 (fun W S => C.slices_Clone_i_Sign_i_Sign W hv1_1 ((s_arg h0).out W S)) fun A1_1 k1_1 => ?_)
  refine p 1 ?_
  refine rend ?_
  refine c_seq ?_
  refine c_seq ?_
  refine r_start ?_
  refine p 4 ?_
  refine rend ?_
  refine c_block ?_
  refine joinH (X := ((List Sign) × Option Addr × Nat)) 0 (H.bnd h) (fun ⟨l4, A5, k6⟩ => l4) (fun ⟨l4, A5, k6⟩ => [rowT nSign w.heap.size 38 (.slice A5 (List.length l4) k6) l4]) (fun ⟨l4, A5, k6⟩ u => (jk u 0 3 (.slice A5 (List.length l4) k6 :: (jk u 4 19 [])))) (fun h hj7 => ?_) ?_
  · skip
    refine rangeNR (X := ((List Sign) × Option Addr × Nat)) (fun ⟨l1, A2, k3⟩ => l1) (fun ⟨l1, A2, k3⟩ => [rowT nSign w.heap.size 38 (.slice A2 (List.length l1) k3) l1]) (fun (j8 : Int) ⟨l1, A2, k3⟩ u => (jk u 0 3 (.slice A2 (List.length l1) k3 :: (jk u 4 5 (.int .i64 (wr ((List.length v1_1 : Int) - 1)) :: .int .i64 j8 :: (jk u 11 12 [])))))) (v1_1, A1_1, k1_1) h (by kernel_rfl) (by kernel_rfl) ?_ ?_
    · intro j8 x u q9 hw10 h
      obtain ⟨l1, A2, k3⟩ := x
      refine c_seq ?_
      refine r_start ?_
      refine p 1 ?_
      refine rend ?_
      refine c_seq ?_
      refine c_yes q9 ?_
      refine c_skip ?_
      refine c_seq ?_
      refine c_block ?_
      refine c_seq ?_
      refine r_start ?_
      refine p 2 ?_
      refine rend ?_
      refine r_start ?_
      refine p 4 ?_
      obtain ⟨y5_4, hy5_4, h⟩ := H.call h
      refine xq rfl (y_idx (e := nSign) (el := 38) hy5_4 (s_own 0)) ?_
      refine xq rfl (y_el (e := nSign) 0 (.agg (eSign y5_4).toArray) hy5_4 (s_own 0)) ?_
      obtain ⟨v5_6, hv5_6, h⟩ := H.call h
      refine xq rfl (y_call [.agg (eSign y5_4).toArray] (.agg (eSign v5_6).toArray) func74 (fun W S => C.i_Sign_reduced W hv5_6)) ?_
      refine xq rfl (y_idx (e := nSign) (el := 38) hy5_4 (s_own 0)) ?_
      refine xx rfl (e_stel (e := nSign) (b := v5_6) 0 0 (eSign v5_6) hy5_4 (by kernel_rfl) ?_)
      refine o_set 3 (sl_set (A := A2) (c := k3) (l := l1) (n := Int.toNat (j8 : Int)) (b := v5_6)) ?_
      refine rend ?_
      refine c_inb ?_
      refine r_start ?_
      refine p 2 ?_
      refine rend ?_
      refine c_set 10 (ci hw10) ?_
      replace h := H.inl h
      exact h ((List.set l1 (Int.toNat (j8 : Int)) v5_6), A2, k3) _ _ rfl (by kernel_rfl) (by kernel_rfl)
    · intro j11 x u q9 h
      obtain ⟨l1, A2, k3⟩ := x
      refine c_seq ?_
      refine r_start ?_
      refine p 1 ?_
      refine rend ?_
      refine c_seq ?_
      refine c_no q9 ?_
      refine cx ?_
      replace h := H.done h
      exact hj7 (l1, A2, k3) _ _ h (by kernel_rfl) (by kernel_rfl)
  intro x u h
  obtain ⟨l4, A5, k6⟩ := x
  refine c_seq ?_
  refine r_start ?_
  refine p 2 ?_
  refine rend ?_
  replace h := H.done h
  subst h
  exact ret func70 rfl (vs := [.slice A5 (List.length l4) k6]) (.tmp (by kernel_rfl) .nil) rfl (fun W S => ⟨_, _, rfl, S.row 0, S.below⟩)
theorem C.i_CompoundOf {fu : Nat} {a0 : (List Sign)} {A0 : Option Addr} {k0 : Nat} {r : ((List Sign) × Bool)} (w : World) (h : X.i_CompoundOf fu a0 = some r) (h0 : RdT nSign w (.slice A0 (List.length a0) k0) a0) : Calls prog 8 #[.slice A0 (List.length a0) k0] w (RetR nSign 38 w r.1 (fun v => .tuple #[v, .bool r.2])) := by
  refine calls (M := no) (args := [.slice A0 (List.length a0) k0]) func8 rfl ?_
  replace h : H (X.i_CompoundOf fu a0) (fun o => o = r) := H.mk h
  unfold X.i_CompoundOf at h
  refine c_seq ?_
  refine r_start ?_
  refine p 2 ?_
  refine rend ?_
  refine c_seq ?_
  refine c_seq ?_
  refine r_start ?_
  refine p 1 ?_
  obtain ⟨v1_1, hv1_1, h⟩ := H.call h
  refine xq rfl (y_call [.slice A0 (List.length a0) k0] (.bool v1_1) func69 (fun W S => C.i_isMade W hv1_1 ((s_arg h0).out W S))) ?_
  refine p 1 ?_
  refine rend ?_
  refine c_or (!v1_1) (fun q1 => ?_) (fun q1 => ?_)
  · replace h := H.t q1 h
    refine c_seq ?_
    refine r_start ?_
    refine p 2 ?_
    refine rend ?_
    replace h := H.done h
    subst h
    exact ret func8 rfl (vs := [.slice none 0 0, .bool false]) (.tmp (by kernel_rfl) (.tmp (by kernel_rfl) .nil)) rfl (fun W S => ⟨none, 0, rfl, World.ownsRow_nil _ _ _ _, S.below⟩)
  replace h := H.f q1 h
  refine c_skip ?_
  refine c_seq ?_
  refine r_start ?_
  refine p 1 ?_
  obtain ⟨v3_1, hv3_1, h⟩ := H.call h
  refine xx rfl (e_cr [.slice A0 (List.length a0) k0] (fun v => v) func70 (fun W S => C.i_compound W hv3_1 ((s_arg h0).out W S)) fun A3_1 k3_1 => ?_)
  refine p 2 ?_
  refine rend ?_
  replace h := H.done h
  subst h
  exact ret func8 rfl (vs := [.slice A3_1 (List.length v3_1) k3_1, .bool true]) (.tmp (by kernel_rfl) (.tmp (by kernel_rfl) .nil)) rfl (fun W S => ⟨_, _, rfl, S.row 0, S.below⟩)
theorem C.s_cmGood {fu : Nat} {a0 : (List Sign)} {A0 : Option Addr} {k0 : Nat} {r : Bool} (w : World) (h : X.s_cmGood fu a0 = some r) (h0 : RdT nSign w (.slice A0 (List.length a0) k0) a0) : Calls prog 71 #[.slice A0 (List.length a0) k0] w (Ret w (.bool r)) := by
  refine calls (M := no) (args := [.slice A0 (List.length a0) k0]) func71 rfl ?_
  replace h : H (X.s_cmGood fu a0) (fun o => o = r) := H.mk h
  unfold X.s_cmGood at h
  refine c_seq ?_
  refine r_start ?_
  refine p 1 ?_
  refine rend ?_
  refine c_seq ?_
  refine r_start ?_
  refine p 2 ?_
  obtain ⟨v1_2, hv1_2, h⟩ := H.call h
  refine xq rfl (y_call [.int .i64 (List.length a0 : Int), .int .i64 2, .int .i64 4] (.bool v1_2) func145 (fun W S => C.s_l1In W hv1_2)) ?_
  refine p 1 ?_
  refine br v1_2 (fun q1 => ?_) (fun q1 => ?_)
  · replace h := H.t q1 h
    refine o_set 6 (congrArg Value.bool q1) ?_
    refine p 1 ?_
    obtain ⟨v1_5, hv1_5, h⟩ := H.call h
    refine xq rfl (y_call [.slice A0 (List.length a0) k0] (.bool v1_5) func83 (fun W S => C.s_paList W hv1_5 ((s_arg h0).out W S))) ?_
    refine p 2 ?_
    refine rend ?_
    replace h := H.done h
    subst h
    exact ret func71 rfl (vs := [.bool v1_5]) (.tmp (by kernel_rfl) .nil) rfl (fun W S => ⟨rfl, S.below⟩)
  replace h := H.f q1 h
  refine o_set 6 (congrArg Value.bool q1) ?_
  refine p 4 ?_
  refine rend ?_
  replace h := H.done h
  subst h
  exact ret func71 rfl (vs := [.bool false]) (.tmp (by kernel_rfl) .nil) rfl (fun W S => ⟨rfl, S.below⟩)
theorem C.s_cmRoot {fu : Nat} {a0 : Str} {r : Str} (w : World) (h : X.s_cmRoot fu a0 = some r) : Calls prog 150 #[.string (bs a0)] w (Ret w (.string (bs r))) := by
  refine calls (M := no) (args := [.string (bs a0)]) func150 rfl ?_
  replace h : H (X.s_cmRoot fu a0) (fun o => o = r) := H.mk h
  unfold X.s_cmRoot at h
  refine c_seq ?_
  refine r_start ?_
  refine p 1 ?_
  refine rend ?_
  refine c_seq ?_
  refine c_seq ?_
  refine r_start ?_
  refine p 1 ?_
  refine rend ?_
  refine c_block ?_
  refine joinE (X := Unit) 0 (H.or h) (fun (x : Unit) => x) (fun _ => []) (fun _ u => (.string (bs a0) :: (jk u 1 30 []))) (fun h hj2 => ?_) ?_
  · skip
    refine loopR (X := Int) (fun (x : Int) => x) (fun n1 => []) (fun n1 u => (.string (bs a0) :: (jk u 1 2 (.int .i64 n1 :: (jk u 4 27 []))))) 1 h (by kernel_rfl) (by kernel_rfl) ?_
    intro n1 u h
    refine c_seq ?_
    refine c_seq ?_
    refine r_start ?_
    refine p 4 ?_
    refine rend ?_
    refine c_or (decide (n1 < (List.length a0 : Int))) (fun q3 => ?_) (fun q3 => ?_)
    · replace h := H.t q3 h
      refine c_skip ?_
      refine c_seq ?_
      refine c_block ?_
      refine c_seq ?_
      refine as_start 17 17 ?_
      refine ap 0 3 ?_
      obtain ⟨y4_3, hy4_3, h⟩ := H.call h
      refine aq 3 rfl (y_mod hy4_3) ?_
      refine ap 4 2 ?_
      refine br (y4_3 == 0) (fun q4 => ?_) (fun q4 => ?_)
      · replace h := H.t q4 h
        refine a_set 15 (congrArg Value.bool q4) ?_
        refine ap 6 2 ?_
        obtain ⟨y4_8, hy4_8, h⟩ := H.call h
        refine aq 8 rfl (y_cut hy4_8) ?_
        refine ap 9 3 ?_
        obtain ⟨y4_12, hy4_12, h⟩ := H.call h
        refine aq 12 rfl (y_div hy4_12) ?_
        obtain ⟨v4_13, hv4_13, h⟩ := H.call h
        refine aq 13 rfl (y_call [.string (bs y4_8), .int .i64 y4_12] (.string (bs v4_13)) func186 (fun W S => C.s_mvTimes W hv4_13)) ?_
        refine ap 14 3 ?_
        refine a_done ?_
        refine c_or (seq v4_13 a0) (fun q5 => ?_) (fun q5 => ?_)
        · replace h := H.t q5 h
          refine c_seq ?_
          refine r_start ?_
          refine p 2 ?_
          obtain ⟨y5_2, hy5_2, h⟩ := H.call h
          refine xq rfl (y_cut hy5_2) ?_
          refine p 1 ?_
          refine rend ?_
          replace h := H.inr h
          replace h := H.done h
          subst h
          exact ret func150 rfl (vs := [.string (bs y5_2)]) (.tmp (by kernel_rfl) .nil) rfl (fun W S => ⟨rfl, S.below⟩)
        replace h := H.f q5 h
        refine c_skip ?_
        refine c_inb ?_
        refine r_start ?_
        refine p 3 ?_
        refine rend ?_
        replace h := H.inl h
        exact h (wr (n1 + 1)) _ _ rfl (by kernel_rfl) (by kernel_rfl)
      replace h := H.f q4 h
      refine a_set 15 (congrArg Value.bool q4) ?_
      refine ap 6 11 ?_
      refine a_done ?_
      refine c_f (by kernel_rfl) ?_
      refine c_skip ?_
      refine c_inb ?_
      refine r_start ?_
      refine p 3 ?_
      refine rend ?_
      replace h := H.inl h
      exact h (wr (n1 + 1)) _ _ rfl (by kernel_rfl) (by kernel_rfl)
    replace h := H.f q3 h
    refine cx ?_
    replace h := H.inr h
    exact hj2 () _ _ h (by kernel_rfl) (by kernel_rfl)
  intro x u h
  refine c_seq ?_
  refine r_start ?_
  refine p 2 ?_
  refine rend ?_
  replace h := H.done h
  subst h
  exact ret func150 rfl (vs := [.string (bs a0)]) (.tmp (by kernel_rfl) .nil) rfl (fun W S => ⟨rfl, S.below⟩)
theorem C.s_cmReduce {fu : Nat} {a0 : Sign} {r : Sign} (w : World) (h : X.s_cmReduce fu a0 = some r) : Calls prog 76 #[.agg (eSign a0).toArray] w (Ret w (.agg (eSign r).toArray)) := by
  refine calls (M := no) (args := [.agg (eSign a0).toArray]) func76 rfl ?_
  replace h : H (X.s_cmReduce fu a0) (fun o => o = r) := H.mk h
  unfold X.s_cmReduce at h
  refine c_seq ?_
  refine r_start ?_
  refine xx rfl (x_box (eSign a0) fun g0_0 => ?_)
  refine xx rfl (x_new (eSign zSign) fun g0_1 => ?_)
  refine rend ?_
  refine c_seq ?_
  refine r_start ?_
  refine p 2 ?_
  refine xq rfl (y_load (.agg (eMove a0.Main.Move).toArray) 0 g0_0 11) ?_
  obtain ⟨v1_3, hv1_3, h⟩ := H.call h
  refine xq rfl (y_call [.agg (eMove a0.Main.Move).toArray] (.string (bs v1_3)) func135 (fun W S => C.s_mvAll W hv1_3)) ?_
  obtain ⟨v1_4, hv1_4, h⟩ := H.call h
  refine xq rfl (y_call [.string (bs v1_3)] (.string (bs v1_4)) func150 (fun W S => C.s_cmRoot W hv1_4)) ?_
  refine p 3 ?_
  refine xx rfl (x_sto 0 g0_0 11 (eSign ({ a0 with Main := { a0.Main with Move := (⟨v1_4, 1⟩ : Move) } })) ?_)
  refine rend ?_
  refine c_seq ?_
  refine c_seq ?_
  refine r_start ?_
  refine p 1 ?_
  refine xq rfl (y_load (.bool a0.Two) 0 g0_0 13) ?_
  refine rend ?_
  refine c_or a0.Two (fun q1 => ?_) (fun q1 => ?_)
  · replace h := H.t q1 h
    refine r_start ?_
    refine p 2 ?_
    refine xq rfl (y_load (.agg (eMove a0.Other.Move).toArray) 0 g0_0 25) ?_
    obtain ⟨v3_3, hv3_3, h⟩ := H.call h
    refine xq rfl (y_call [.agg (eMove a0.Other.Move).toArray] (.string (bs v3_3)) func135 (fun W S => C.s_mvAll W hv3_3)) ?_
    obtain ⟨v3_4, hv3_4, h⟩ := H.call h
    refine xq rfl (y_call [.string (bs v3_3)] (.string (bs v3_4)) func150 (fun W S => C.s_cmRoot W hv3_4)) ?_
    refine p 3 ?_
    refine xx rfl (x_sto 0 g0_0 25 (eSign (⟨{ a0.Main with Move := (⟨v1_4, 1⟩ : Move) }, a0.Two, { a0.Other with Move := (⟨v3_4, 1⟩ : Move) }⟩ : Sign)) ?_)
    refine rend ?_
    refine c_seq ?_
    refine r_start ?_
    refine xq rfl (y_load (.agg (eSign (⟨{ a0.Main with Move := (⟨v1_4, 1⟩ : Move) }, a0.Two, { a0.Other with Move := (⟨v3_4, 1⟩ : Move) }⟩ : Sign)).toArray) 0 g0_0 0) ?_
    refine xx rfl (x_sto 1 g0_1 0 (eSign (⟨{ a0.Main with Move := (⟨v1_4, 1⟩ : Move) }, a0.Two, { a0.Other with Move := (⟨v3_4, 1⟩ : Move) }⟩ : Sign)) ?_)
    refine rend ?_
    replace h := H.done h
    subst h
    exact ret func76 rfl (vs := [.agg (eSign (⟨{ a0.Main with Move := (⟨v1_4, 1⟩ : Move) }, a0.Two, { a0.Other with Move := (⟨v3_4, 1⟩ : Move) }⟩ : Sign)).toArray]) (.cell 1 g0_1 rfl (by kernel_rfl) (by kernel_rfl) .nil) rfl (fun W S => ⟨rfl, S.below⟩)
  replace h := H.f q1 h
  refine c_skip ?_
  refine c_seq ?_
  refine r_start ?_
  refine xq rfl (y_load (.agg (eSign ({ a0 with Main := { a0.Main with Move := (⟨v1_4, 1⟩ : Move) } })).toArray) 0 g0_0 0) ?_
  refine xx rfl (x_sto 1 g0_1 0 (eSign ({ a0 with Main := { a0.Main with Move := (⟨v1_4, 1⟩ : Move) } })) ?_)
  refine rend ?_
  replace h := H.done h
  subst h
  exact ret func76 rfl (vs := [.agg (eSign ({ a0 with Main := { a0.Main with Move := (⟨v1_4, 1⟩ : Move) } })).toArray]) (.cell 1 g0_1 rfl (by kernel_rfl) (by kernel_rfl) .nil) rfl (fun W S => ⟨rfl, S.below⟩)
theorem C.s_cmOf {fu : Nat} {a0 : (List Sign)} {A0 : Option Addr} {k0 : Nat} {r : (List Sign)} (w : World) (h : X.s_cmOf fu a0 = some r) (h0 : RdT nSign w (.slice A0 (List.length a0) k0) a0) : Calls prog 72 #[.slice A0 (List.length a0) k0] w (RetR nSign 38 w r (fun v => v)) := by
  refine calls (M := no) (args := [.slice A0 (List.length a0) k0]) func72 rfl ?_
  replace h : H (X.s_cmOf fu a0) (fun o => o = r) := H.mk h
  unfold X.s_cmOf at h
  refine c_seq ?_
  refine r_start ?_
  refine p 1 ?_
  refine rend ?_
  refine c_seq ?_
  refine r_start ?_
  refine p 1 ?_
  refine rend ?_
  refine c_seq ?_
  refine c_seq ?_
  refine r_start ?_
  refine p 3 ?_
  refine rend ?_
  refine c_block ?_
  refine c_nil nSign 38 ?_
  refine joinH (X := ((List Sign) × Option Addr × Nat)) 0 (H.bnd h) (fun ⟨l4, A5, k6⟩ => l4) (fun ⟨l4, A5, k6⟩ => [rowT nSign w.heap.size 38 (.slice A5 (List.length l4) k6) l4]) (fun ⟨l4, A5, k6⟩ u => (jk u 0 3 (.slice A5 (List.length l4) k6 :: (jk u 4 22 [])))) (fun h hj7 => ?_) ?_
  · skip
    refine rangeR (X := ((List Sign) × Option Addr × Nat)) (s_arg h0) (fun ⟨l1, A2, k3⟩ => l1) (fun ⟨l1, A2, k3⟩ => [rowT nSign w.heap.size 38 (.slice A2 (List.length l1) k3) l1]) (fun (j8 : Nat) ⟨l1, A2, k3⟩ u => (.slice A0 (List.length a0) k0 :: (jk u 1 2 (.slice A2 (List.length l1) k3 :: (jk u 4 2 (.slice A0 (List.length a0) k0 :: .int .i64 (List.length a0 : Int) :: .int .i64 (j8 : Int) :: (jk u 9 17 []))))))) (([] : List Sign), none, 0) h (by kernel_rfl) (by kernel_rfl) ?_ ?_
    · intro j8 x u x9 q10 hg11 hw12 h
      obtain ⟨l1, A2, k3⟩ := x
      refine c_seq ?_
      refine r_start ?_
      refine p 1 ?_
      refine rend ?_
      refine c_seq ?_
      refine c_yes q10 ?_
      refine c_skip ?_
      refine c_seq ?_
      refine c_block ?_
      refine c_seq ?_
      refine r_start ?_
      refine p 1 ?_
      refine xq rfl (y_idx (e := nSign) (el := 38) hg11 (s_arg h0)) ?_
      refine xq rfl (y_el (e := nSign) 0 (.agg (eSign x9).toArray) hg11 (s_arg h0)) ?_
      refine xx rfl (x_new (eSign zSign) fun g4_3 => ?_)
      refine p 1 ?_
      refine xx rfl (x_sto 1 g4_3 0 (eSign x9) ?_)
      refine rend ?_
      refine c_seq ?_
      refine c_seq ?_
      refine r_start ?_
      refine p 5 ?_
      refine rend ?_
      refine c_or (decide ((wr ((j8 : Int) + 1)) < (List.length a0 : Int))) (fun q13 => ?_) (fun q13 => ?_)
      · replace h := H.t q13 h
        refine r_start ?_
        refine xq rfl (y_load (.agg (eSign x9).toArray) 1 g4_3 0) ?_
        obtain ⟨v6_1, hv6_1, h⟩ := H.call h
        refine xq rfl (y_call [.agg (eSign x9).toArray] (.agg (eSign v6_1).toArray) func76 (fun W S => C.s_cmReduce W hv6_1)) ?_
        refine xx rfl (x_sto 1 g4_3 0 (eSign v6_1) ?_)
        refine rend ?_
        refine r_start ?_
        refine p 1 ?_
        refine xq rfl (y_load (.agg (eSign v6_1).toArray) 1 g4_3 0) ?_
        refine xx rfl (e_lit (e := nSign) (el := 38) [.agg (eSign v6_1).toArray] ([v6_1] : List Sign) fun A7_2 k7_2 => ?_)
        obtain ⟨y7_3, hy7_3, h⟩ := H.call h
        refine xx rfl (e_app 0 hy7_3 (s_own 2) fun A7_3 k7_3 => ?_)
        refine p 1 ?_
        refine rend ?_
        refine c_inb ?_
        refine r_start ?_
        refine p 2 ?_
        refine rend ?_
        refine c_set 8 (ci hw12) ?_
        replace h := H.inl h
        exact h (y7_3, A7_3, k7_3) _ _ rfl (by kernel_rfl) (by kernel_rfl)
      replace h := H.f q13 h
      refine c_skip ?_
      refine r_start ?_
      refine p 1 ?_
      refine xq rfl (y_load (.agg (eSign x9).toArray) 1 g4_3 0) ?_
      refine xx rfl (e_lit (e := nSign) (el := 38) [.agg (eSign x9).toArray] ([x9] : List Sign) fun A7_2 k7_2 => ?_)
      obtain ⟨y7_3, hy7_3, h⟩ := H.call h
      refine xx rfl (e_app 0 hy7_3 (s_own 2) fun A7_3 k7_3 => ?_)
      refine p 1 ?_
      refine rend ?_
      refine c_inb ?_
      refine r_start ?_
      refine p 2 ?_
      refine rend ?_
      refine c_set 8 (ci hw12) ?_
      replace h := H.inl h
      exact h (y7_3, A7_3, k7_3) _ _ rfl (by kernel_rfl) (by kernel_rfl)
    · intro x u q10 h
      obtain ⟨l1, A2, k3⟩ := x
      refine c_seq ?_
      refine r_start ?_
      refine p 1 ?_
      refine rend ?_
      refine c_seq ?_
      refine c_no q10 ?_
      refine cx ?_
      replace h := H.done h
      exact hj7 (l1, A2, k3) _ _ h (by kernel_rfl) (by kernel_rfl)
  intro x u h
  obtain ⟨l4, A5, k6⟩ := x
  refine c_seq ?_
  refine r_start ?_
  refine p 2 ?_
  refine rend ?_
  replace h := H.done h
  subst h
  exact ret func72 rfl (vs := [.slice A5 (List.length l4) k6]) (.tmp (by kernel_rfl) .nil) rfl (fun W S => ⟨_, _, rfl, S.row 0, S.below⟩)
theorem C.s_CompoundOf {fu : Nat} {a0 : (List Sign)} {A0 : Option Addr} {k0 : Nat} {r : ((List Sign) × Bool)} (w : World) (h : X.s_CompoundOf fu a0 = some r) (h0 : RdT nSign w (.slice A0 (List.length a0) k0) a0) : Calls prog 9 #[.slice A0 (List.length a0) k0] w (RetR nSign 38 w r.1 (fun v => .tuple #[v, .bool r.2])) := by
  refine calls (M := no) (args := [.slice A0 (List.length a0) k0]) func9 rfl ?_
  replace h : H (X.s_CompoundOf fu a0) (fun o => o = r) := H.mk h
  unfold X.s_CompoundOf at h
  refine c_seq ?_
  refine r_start ?_
  refine p 2 ?_
  refine rend ?_
  refine c_seq ?_
  refine c_seq ?_
  refine r_start ?_
  refine p 1 ?_
  obtain ⟨v1_1, hv1_1, h⟩ := H.call h
  refine xq rfl (y_call [.slice A0 (List.length a0) k0] (.bool v1_1) func71 (fun W S => C.s_cmGood W hv1_1 ((s_arg h0).out W S))) ?_
  refine p 1 ?_
  refine rend ?_
  refine c_or (!v1_1) (fun q1 => ?_) (fun q1 => ?_)
  · replace h := H.t q1 h
    refine c_seq ?_
    refine r_start ?_
    refine p 2 ?_
    refine rend ?_
    replace h := H.done h
    subst h
    exact ret func9 rfl (vs := [.slice none 0 0, .bool false]) (.tmp (by kernel_rfl) (.tmp (by kernel_rfl) .nil)) rfl (fun W S => ⟨none, 0, rfl, World.ownsRow_nil _ _ _ _, S.below⟩)
  replace h := H.f q1 h
  refine c_skip ?_
  refine c_seq ?_
  refine r_start ?_
  refine p 1 ?_
  obtain ⟨v3_1, hv3_1, h⟩ := H.call h
  refine xx rfl (e_cr [.slice A0 (List.length a0) k0] (fun v => v) func72 (fun W S => C.s_cmOf W hv3_1 ((s_arg h0).out W S)) fun A3_1 k3_1 => ?_)
  refine p 2 ?_
  refine rend ?_
  replace h := H.done h
  subst h
  exact ret func9 rfl (vs := [.slice A3_1 (List.length v3_1) k3_1, .bool true]) (.tmp (by kernel_rfl) (.tmp (by kernel_rfl) .nil)) rfl (fun W S => ⟨_, _, rfl, S.row 0, S.below⟩)
theorem C.s_DrawReduceSign {fu : Nat} {a0 : (List Int)} {A0 : Option Addr} {k0 : Nat} {r : Sign} (w : World) (h : X.s_DrawReduceSign fu a0 = some r) (h0 : RdT (eI .u8) w (.slice A0 (List.length a0) k0) a0) : Calls prog 10 #[.slice A0 (List.length a0) k0] w (Ret w (.agg (eSign r).toArray)) := by
  refine calls (M := no) (args := [.slice A0 (List.length a0) k0]) func10 rfl ?_
  replace h : H (X.s_DrawReduceSign fu a0) (fun o => o = r) := H.mk h
  unfold X.s_DrawReduceSign at h
  refine c_seq ?_
  refine r_start ?_
  refine xx rfl (x_new (eSign zSign) fun g0_0 => ?_)
  refine rend ?_
  refine c_seq ?_
  refine r_start ?_
  refine p 2 ?_
  refine xx rfl (x_box [.slice A0 (List.length a0) k0, .int .i64 0, .int .u64 0] fun g1_2 => ?_)
  refine p 1 ?_
  refine rend ?_
  refine c_seq ?_
  refine r_start ?_
  refine p 1 ?_
  obtain ⟨v2_1, hv2_1, h⟩ := H.call h
  refine xx rfl (e_cq (cs' := [.slice A0 (List.length a0) k0, .int .i64 v2_1.2.1, .int .u64 v2_1.2.2]) (v := .agg (eSign v2_1.1).toArray) 1 [.pointer (some ⟨g1_2, 0, none⟩)] func73 (fun W S => C.s_l1Cur_anySign W hv2_1 (S.bx 1) ((s_arg h0).out W S) (ap_arg h0 S 1)) ?_)
  refine xx rfl (x_sto 0 g0_0 0 (eSign v2_1.1) ?_)
  refine rend ?_
  replace h := H.done h
  subst h
  exact ret func10 rfl (vs := [.agg (eSign v2_1.1).toArray]) (.cell 0 g0_0 rfl (by kernel_rfl) (by kernel_rfl) .nil) rfl (fun W S => ⟨rfl, S.below⟩)
theorem C.i_ReduceSign {fu : Nat} {a0 : Sign} {r : (Sign × Bool)} (w : World) (h : X.i_ReduceSign fu a0 = some r) : Calls prog 11 #[.agg (eSign a0).toArray] w (Ret w (.tuple #[.agg (eSign r.1).toArray, .bool r.2])) := by
  refine calls (M := no) (args := [.agg (eSign a0).toArray]) func11 rfl ?_
  replace h : H (X.i_ReduceSign fu a0) (fun o => o = r) := H.mk h
  unfold X.i_ReduceSign at h
  refine c_seq ?_
  refine r_start ?_
  refine xx rfl (x_box (eSign a0) fun g0_0 => ?_)
  refine xx rfl (x_new (eSign zSign) fun g0_1 => ?_)
  refine p 1 ?_
  refine rend ?_
  refine c_seq ?_
  refine c_seq ?_
  refine r_start ?_
  refine xq rfl (y_load (.agg (eSign a0).toArray) 0 g0_0 0) ?_
  obtain ⟨v1_1, hv1_1, h⟩ := H.call h
  refine xq rfl (y_call [.agg (eSign a0).toArray] (.bool v1_1) func21 (fun W S => C.i_IsSign W hv1_1)) ?_
  refine p 1 ?_
  refine rend ?_
  refine c_or (!v1_1) (fun q1 => ?_) (fun q1 => ?_)
  · replace h := H.t q1 h
    refine c_seq ?_
    refine r_start ?_
    refine p 1 ?_
    refine xx rfl (x_sto 1 g0_1 0 (eSign zSign) ?_)
    refine p 1 ?_
    refine rend ?_
    replace h := H.done h
    subst h
    exact ret func11 rfl (vs := [.agg (eSign zSign).toArray, .bool false]) (.cell 1 g0_1 rfl (by kernel_rfl) (by kernel_rfl) (.tmp (by kernel_rfl) .nil)) rfl (fun W S => ⟨rfl, S.below⟩)
  replace h := H.f q1 h
  refine c_skip ?_
  refine c_seq ?_
  refine r_start ?_
  refine xq rfl (y_load (.agg (eSign a0).toArray) 0 g0_0 0) ?_
  obtain ⟨v3_1, hv3_1, h⟩ := H.call h
  refine xq rfl (y_call [.agg (eSign a0).toArray] (.agg (eSign v3_1).toArray) func74 (fun W S => C.i_Sign_reduced W hv3_1)) ?_
  refine xx rfl (x_sto 1 g0_1 0 (eSign v3_1) ?_)
  refine p 1 ?_
  refine rend ?_
  replace h := H.done h
  subst h
  exact ret func11 rfl (vs := [.agg (eSign v3_1).toArray, .bool true]) (.cell 1 g0_1 rfl (by kernel_rfl) (by kernel_rfl) (.tmp (by kernel_rfl) .nil)) rfl (fun W S => ⟨rfl, S.below⟩)
theorem C.s_ReduceSign {fu : Nat} {a0 : Sign} {r : (Sign × Bool)} (w : World) (h : X.s_ReduceSign fu a0 = some r) : Calls prog 12 #[.agg (eSign a0).toArray] w (Ret w (.tuple #[.agg (eSign r.1).toArray, .bool r.2])) := by
  refine calls (M := no) (args := [.agg (eSign a0).toArray]) func12 rfl ?_
  replace h : H (X.s_ReduceSign fu a0) (fun o => o = r) := H.mk h
  unfold X.s_ReduceSign at h
  refine c_seq ?_
  refine r_start ?_
  refine xx rfl (x_box (eSign a0) fun g0_0 => ?_)
  refine xx rfl (x_new (eSign zSign) fun g0_1 => ?_)
  refine p 1 ?_
  refine rend ?_
  refine c_seq ?_
  refine c_seq ?_
  refine r_start ?_
  refine xq rfl (y_load (.agg (eSign a0).toArray) 0 g0_0 0) ?_
  obtain ⟨v1_1, hv1_1, h⟩ := H.call h
  refine xq rfl (y_call [.agg (eSign a0).toArray] (.bool v1_1) func75 (fun W S => C.s_siGood W hv1_1)) ?_
  refine p 1 ?_
  refine rend ?_
  refine c_or (!v1_1) (fun q1 => ?_) (fun q1 => ?_)
  · replace h := H.t q1 h
    refine c_seq ?_
    refine r_start ?_
    refine p 1 ?_
    refine xx rfl (x_sto 1 g0_1 0 (eSign zSign) ?_)
    refine p 1 ?_
    refine rend ?_
    replace h := H.done h
    subst h
    exact ret func12 rfl (vs := [.agg (eSign zSign).toArray, .bool false]) (.cell 1 g0_1 rfl (by kernel_rfl) (by kernel_rfl) (.tmp (by kernel_rfl) .nil)) rfl (fun W S => ⟨rfl, S.below⟩)
  replace h := H.f q1 h
  refine c_skip ?_
  refine c_seq ?_
  refine r_start ?_
  refine xq rfl (y_load (.agg (eSign a0).toArray) 0 g0_0 0) ?_
  obtain ⟨v3_1, hv3_1, h⟩ := H.call h
  refine xq rfl (y_call [.agg (eSign a0).toArray] (.agg (eSign v3_1).toArray) func76 (fun W S => C.s_cmReduce W hv3_1)) ?_
  refine xx rfl (x_sto 1 g0_1 0 (eSign v3_1) ?_)
  refine p 1 ?_
  refine rend ?_
  replace h := H.done h
  subst h
  exact ret func12 rfl (vs := [.agg (eSign v3_1).toArray, .bool true]) (.cell 1 g0_1 rfl (by kernel_rfl) (by kernel_rfl) (.tmp (by kernel_rfl) .nil)) rfl (fun W S => ⟨rfl, S.below⟩)
theorem C.s_DrawPartsOfCompound {fu : Nat} {a0 : (List Int)} {A0 : Option Addr} {k0 : Nat} {r : ((List Sign) × (List Sign))} (w : World) (h : X.s_DrawPartsOfCompound fu a0 = some r) (h0 : RdT (eI .u8) w (.slice A0 (List.length a0) k0) a0) : Calls prog 13 #[.slice A0 (List.length a0) k0] w (RetR2 nSign 38 nSign 38 w r.1 r.2 (fun v u => .tuple #[v, u])) := by
  refine calls (M := no) (args := [.slice A0 (List.length a0) k0]) func13 rfl ?_
  replace h : H (X.s_DrawPartsOfCompound fu a0) (fun o => o = r) := H.mk h
  unfold X.s_DrawPartsOfCompound at h
  refine c_seq ?_
  refine r_start ?_
  refine p 2 ?_
  refine rend ?_
  refine c_seq ?_
  refine r_start ?_
  refine p 2 ?_
  refine xx rfl (x_box [.slice A0 (List.length a0) k0, .int .i64 0, .int .u64 0] fun g1_2 => ?_)
  refine p 1 ?_
  refine rend ?_
  refine c_seq ?_
  refine r_start ?_
  refine p 1 ?_
  obtain ⟨v2_1, hv2_1, h⟩ := H.call h
  refine xx rfl (e_cqR (cs' := [.slice A0 (List.length a0) k0, .int .i64 v2_1.2.1, .int .u64 v2_1.2.2]) 0 [.pointer (some ⟨g1_2, 0, none⟩)] (fun v => v) func77 (fun W S => C.s_l1Cur_signList W hv2_1 (S.bx 0) ((s_arg h0).out W S) (ap_arg h0 S 0)) fun A2_1 k2_1 => ?_)
  refine p 1 ?_
  refine rend ?_
  refine c_seq ?_
  refine c_seq ?_
  refine r_start ?_
  refine p 3 ?_
  refine rend ?_
  refine c_seq ?_
  refine r_start ?_
  refine p 3 ?_
  refine br (decide ((List.length v2_1.1 : Int) > 0)) (fun q1 => ?_) (fun q1 => ?_)
  · replace h := H.t q1 h
    refine o_set 18 (congrArg Value.bool q1) ?_
    refine p 1 ?_
    obtain ⟨v4_4, hv4_4, h⟩ := H.call h
    refine xx rfl (e_cq (cs' := [.slice A0 (List.length a0) k0, .int .i64 v4_4.2.1, .int .u64 v4_4.2.2]) (v := .bool v4_4.1) 0 [.pointer (some ⟨g1_2, 0, none⟩), .int .i64 4] func78 (fun W S => C.s_l1Cur_one W hv4_4 (S.bx 0) ((s_arg h0).out W S) (ap_arg h0 S 0)) ?_)
    refine p 2 ?_
    refine rend ?_
    refine c_or (!v4_4.1) (fun q2 => ?_) (fun q2 => ?_)
    · replace h := H.t q2 h
      refine c_seq ?_
      refine r_start ?_
      refine p 1 ?_
      refine rend ?_
      refine c_seq ?_
      refine c_seq ?_
      refine r_start ?_
      refine p 1 ?_
      obtain ⟨v6_1, hv6_1, h⟩ := H.call h
      refine xx rfl (e_cq (cs' := [.slice A0 (List.length a0) k0, .int .i64 v6_1.2.1, .int .u64 v6_1.2.2]) (v := .int .i64 v6_1.1) 0 [.pointer (some ⟨g1_2, 0, none⟩), .int .i64 2] func79 (fun W S => C.s_l1Cur_pick W hv6_1 (S.bx 0) ((s_arg h0).out W S) (ap_arg h0 S 0)) ?_)
      refine p 2 ?_
      refine rend ?_
      refine c_block ?_
      refine c_nil nSign 38 ?_
      refine joinH (X := (Int × Int × (List Sign) × Option Addr × Nat)) 0 (H.bnd h) (fun ⟨n9, n10, l11, A12, k13⟩ => (n9, n10, l11)) (fun ⟨n9, n10, l11, A12, k13⟩ => [box g1_2 94 [.slice A0 (List.length a0) k0, .int .i64 n9, .int .u64 n10], rowT nSign w.heap.size 38 (.slice A2_1 (List.length v2_1.1) k2_1) v2_1.1, rowT nSign w.heap.size 38 (.slice A12 (List.length l11) k13) l11]) (fun ⟨n9, n10, l11, A12, k13⟩ u => (jk u 0 4 (.pointer (some ⟨g1_2, 0, none⟩) :: .slice A2_1 (List.length v2_1.1) k2_1 :: (jk u 6 1 (.slice A12 (List.length l11) k13 :: (jk u 8 41 [])))))) (fun h hj14 => ?_) ?_
      · skip
        refine loopR (X := (Int × Int × Int × (List Sign) × Option Addr × Nat)) (fun ⟨n3, n4, n5, l6, A7, k8⟩ => (n3, n4, n5, l6)) (fun ⟨n3, n4, n5, l6, A7, k8⟩ => [box g1_2 94 [.slice A0 (List.length a0) k0, .int .i64 n4, .int .u64 n5], rowT nSign w.heap.size 38 (.slice A2_1 (List.length v2_1.1) k2_1) v2_1.1, rowT nSign w.heap.size 38 (.slice A7 (List.length l6) k8) l6]) (fun ⟨n3, n4, n5, l6, A7, k8⟩ u => (jk u 0 4 (.pointer (some ⟨g1_2, 0, none⟩) :: .slice A2_1 (List.length v2_1.1) k2_1 :: .int .i64 (List.length v2_1.1 : Int) :: .slice A7 (List.length l6) k8 :: .int .i64 n3 :: (jk u 9 40 [])))) ((wr (2 + v6_1.1)), v6_1.2.1, v6_1.2.2, ([] : List Sign), none, 0) h (by kernel_rfl) (by kernel_rfl) ?_
        intro x u h
        obtain ⟨n3, n4, n5, l6, A7, k8⟩ := x
        refine c_seq ?_
        refine c_seq ?_
        refine r_start ?_
        refine p 2 ?_
        refine rend ?_
        refine c_or (decide (n3 > 0)) (fun q15 => ?_) (fun q15 => ?_)
        · replace h := H.t q15 h
          refine c_skip ?_
          refine c_seq ?_
          refine c_block ?_
          refine r_start ?_
          refine p 4 ?_
          obtain ⟨v9_4, hv9_4, h⟩ := H.call h
          refine xx rfl (e_cq (cs' := [.slice A0 (List.length a0) k0, .int .i64 v9_4.2.1, .int .u64 v9_4.2.2]) (v := .int .i64 v9_4.1) 0 [.pointer (some ⟨g1_2, 0, none⟩), .int .i64 (List.length v2_1.1 : Int)] func79 (fun W S => C.s_l1Cur_pick W hv9_4 (S.bx 0) ((s_arg h0).out W S) (ap_arg h0 S 0)) ?_)
          obtain ⟨y9_5, hy9_5, h⟩ := H.call h
          refine xq rfl (y_idx (e := nSign) (el := 38) hy9_5 (s_own 1)) ?_
          refine xq rfl (y_el (e := nSign) 0 (.agg (eSign y9_5).toArray) hy9_5 (s_own 1)) ?_
          refine xx rfl (e_lit (e := nSign) (el := 38) [.agg (eSign y9_5).toArray] ([y9_5] : List Sign) fun A9_7 k9_7 => ?_)
          obtain ⟨y9_8, hy9_8, h⟩ := H.call h
          refine xx rfl (e_app 2 hy9_8 (s_own 3) fun A9_8 k9_8 => ?_)
          refine p 1 ?_
          refine rend ?_
          refine c_inb ?_
          refine r_start ?_
          refine p 3 ?_
          refine rend ?_
          replace h := H.inl h
          exact h ((wr (n3 - 1)), v9_4.2.1, v9_4.2.2, y9_8, A9_8, k9_8) _ _ rfl (by kernel_rfl) (by kernel_rfl)
        replace h := H.f q15 h
        refine cx ?_
        replace h := H.inr h
        exact hj14 (n4, n5, l6, A7, k8) _ _ h (by kernel_rfl) (by kernel_rfl)
      intro x u h
      obtain ⟨n9, n10, l11, A12, k13⟩ := x
      refine c_seq ?_
      refine c_seq ?_
      refine r_start ?_
      refine p 1 ?_
      obtain ⟨v10_1, hv10_1, h⟩ := H.call h
      refine xx rfl (e_cq (cs' := [.slice A0 (List.length a0) k0, .int .i64 v10_1.2.1, .int .u64 v10_1.2.2]) (v := .bool v10_1.1) 0 [.pointer (some ⟨g1_2, 0, none⟩), .int .i64 5] func78 (fun W S => C.s_l1Cur_one W hv10_1 (S.bx 0) ((s_arg h0).out W S) (ap_arg h0 S 0)) ?_)
      refine rend ?_
      refine c_or v10_1.1 (fun q16 => ?_) (fun q16 => ?_)
      · replace h := H.t q16 h
        refine c_seq ?_
        refine r_start ?_
        refine p 4 ?_
        refine rend ?_
        replace h := H.done h
        subst h
        exact ret func13 rfl (vs := [.slice A2_1 (List.length v2_1.1) k2_1, .slice A12 (List.length l11) k13]) (.tmp (by kernel_rfl) (.tmp (by kernel_rfl) .nil)) rfl (fun W S => ⟨_, _, _, _, rfl, (S.row 1), (S.row 2), (S.two2 1 2 (by decide)), S.below⟩)
      replace h := H.f q16 h
      refine c_skip ?_
      refine c_seq ?_
      refine r_start ?_
      refine p 2 ?_
      obtain ⟨v12_2, hv12_2, h⟩ := H.call h
      refine xx rfl (e_cr [.slice A12 (List.length l11) k13] (fun v => v) func72 (fun W S => C.s_cmOf W hv12_2 ((s_own 2).out W S)) fun A12_2 k12_2 => ?_)
      refine p 2 ?_
      refine rend ?_
      replace h := H.done h
      subst h
      exact ret func13 rfl (vs := [.slice A2_1 (List.length v2_1.1) k2_1, .slice A12_2 (List.length v12_2) k12_2]) (.tmp (by kernel_rfl) (.tmp (by kernel_rfl) .nil)) rfl (fun W S => ⟨_, _, _, _, rfl, (S.row 1), (S.row 3), (S.two2 1 3 (by decide)), S.below⟩)
    replace h := H.f q2 h
    refine c_skip ?_
    refine c_seq ?_
    refine r_start ?_
    refine p 2 ?_
    obtain ⟨v13_2, hv13_2, h⟩ := H.call h
    refine xx rfl (e_cqR (cs' := [.slice A0 (List.length a0) k0, .int .i64 v13_2.2.1, .int .u64 v13_2.2.2]) 0 [.pointer (some ⟨g1_2, 0, none⟩)] (fun v => v) func68 (fun W S => C.s_l1Cur_compound W hv13_2 (S.bx 0) ((s_arg h0).out W S) (ap_arg h0 S 0)) fun A13_2 k13_2 => ?_)
    refine p 2 ?_
    refine rend ?_
    replace h := H.done h
    subst h
    exact ret func13 rfl (vs := [.slice A2_1 (List.length v2_1.1) k2_1, .slice A13_2 (List.length v13_2.1) k13_2]) (.tmp (by kernel_rfl) (.tmp (by kernel_rfl) .nil)) rfl (fun W S => ⟨_, _, _, _, rfl, (S.row 1), (S.row 2), (S.two2 1 2 (by decide)), S.below⟩)
  replace h := H.f q1 h
  refine o_set 18 (congrArg Value.bool q1) ?_
  refine p 4 ?_
  refine rend ?_
  refine c_f (by kernel_rfl) ?_
  refine c_skip ?_
  refine c_seq ?_
  refine r_start ?_
  refine p 2 ?_
  obtain ⟨v13_2, hv13_2, h⟩ := H.call h
  refine xx rfl (e_cqR (cs' := [.slice A0 (List.length a0) k0, .int .i64 v13_2.2.1, .int .u64 v13_2.2.2]) 0 [.pointer (some ⟨g1_2, 0, none⟩)] (fun v => v) func68 (fun W S => C.s_l1Cur_compound W hv13_2 (S.bx 0) ((s_arg h0).out W S) (ap_arg h0 S 0)) fun A13_2 k13_2 => ?_)
  refine p 2 ?_
  refine rend ?_
  replace h := H.done h
  subst h
  exact ret func13 rfl (vs := [.slice A2_1 (List.length v2_1.1) k2_1, .slice A13_2 (List.length v13_2.1) k13_2]) (.tmp (by kernel_rfl) (.tmp (by kernel_rfl) .nil)) rfl (fun W S => ⟨_, _, _, _, rfl, (S.row 1), (S.row 2), (S.two2 1 2 (by decide)), S.below⟩)
theorem C.i_PartsOfCompound_1 {fu : Nat} {a0 : Sign} {a1 : Int} {p1 : Nat} {a2 : (List Sign)} {A2 : Option Addr} {k2 : Nat} {p2 : Nat} {a3 : Sign} {p3 : Nat} {r : Bool} (w : World) (h : X.i_PartsOfCompound_1 fu a1 a2 a3 a0 = some r) (hp1 : w.heap[p1]? = some (.cells ([.int .i64 a1] : List Value).toArray 3 (0, 0))) (h2 : RdT nSign w (.slice A2 (List.length a2) k2) a2) (hp2 : w.heap[p2]? = some (.cells ([.slice A2 (List.length a2) k2] : List Value).toArray 23 (0, 0))) (hp3 : w.heap[p3]? = some (.cells (eSign a3 : List Value).toArray 38 (0, 0))) : Calls prog 82 #[.agg (eSign a0).toArray, .pointer (some ⟨p1, 0, none⟩), .pointer (some ⟨p2, 0, none⟩), .pointer (some ⟨p3, 0, none⟩)] w (Ret w (.bool r)) := by
  refine calls (M := no) (args := [.agg (eSign a0).toArray, .pointer (some ⟨p1, 0, none⟩), .pointer (some ⟨p2, 0, none⟩), .pointer (some ⟨p3, 0, none⟩)]) func82 rfl ?_
  replace h : H (X.i_PartsOfCompound_1 fu a1 a2 a3 a0) (fun o => o = r) := H.mk h
  unfold X.i_PartsOfCompound_1 at h
  refine c_seq ?_
  refine r_start ?_
  refine xx rfl (x_box (eSign a0) fun g0_0 => ?_)
  refine p 1 ?_
  refine rend ?_
  refine c_seq ?_
  refine c_seq ?_
  refine r_start ?_
  refine xq rfl (y_ld0 (.int .i64 a1) p1 0 hp1) ?_
  refine p 1 ?_
  refine xq rfl (y_ld0 (.slice A2 (List.length a2) k2) p2 0 hp2) ?_
  refine p 2 ?_
  refine rend ?_
  refine c_or (decide ((wr (a1 + 1)) < (List.length a2 : Int))) (fun q1 => ?_) (fun q1 => ?_)
  · replace h := H.t q1 h
    refine c_seq ?_
    refine as_start 5 5 ?_
    refine aq 0 rfl (y_load (.agg (eSign a0).toArray) 0 g0_0 0) ?_
    obtain ⟨v2_1, hv2_1, h⟩ := H.call h
    refine aq 1 rfl (y_call [.agg (eSign a0).toArray] (.agg (eSign v2_1).toArray) func74 (fun W S => C.i_Sign_reduced W hv2_1)) ?_
    refine aq 2 rfl (y_ld0 (.agg (eSign a3).toArray) p3 0 hp3) ?_
    refine ap 3 2 ?_
    refine a_done ?_
    replace h := H.done h
    subst h
    exact ret func82 rfl (vs := [.bool (qSign v2_1 a3)]) (.tmp (by kernel_rfl) .nil) rfl (fun W S => ⟨rfl, S.below⟩)
  replace h := H.f q1 h
  refine c_skip ?_
  refine c_seq ?_
  refine r_start ?_
  refine xq rfl (y_load (.agg (eSign a0).toArray) 0 g0_0 0) ?_
  refine xq rfl (y_ld0 (.agg (eSign a3).toArray) p3 0 hp3) ?_
  refine p 2 ?_
  refine rend ?_
  replace h := H.done h
  subst h
  exact ret func82 rfl (vs := [.bool (qSign a0 a3)]) (.tmp (by kernel_rfl) .nil) rfl (fun W S => ⟨rfl, S.below⟩)
theorem C.i_PartsOfCompound {fu : Nat} {a0 : (List Sign)} {A0 : Option Addr} {k0 : Nat} {a1 : (List Sign)} {A1 : Option Addr} {k1 : Nat} {r : ((List Int) × Bool)} (w : World) (h : X.i_PartsOfCompound fu a0 a1 = some r) (h0 : RdT nSign w (.slice A0 (List.length a0) k0) a0) (h1 : RdT nSign w (.slice A1 (List.length a1) k1) a1) : Calls prog 14 #[.slice A0 (List.length a0) k0, .slice A1 (List.length a1) k1] w (RetR (eI .i64) 3 w r.1 (fun v => .tuple #[v, .bool r.2])) := by
  refine calls (M := no) (args := [.slice A0 (List.length a0) k0, .slice A1 (List.length a1) k1]) func14 rfl ?_
  replace h : H (X.i_PartsOfCompound fu a0 a1) (fun o => o = r) := H.mk h
  unfold X.i_PartsOfCompound at h
  refine c_seq ?_
  refine r_start ?_
  refine xx rfl (x_box [.slice A1 (List.length a1) k1] fun g0_0 => ?_)
  refine p 2 ?_
  refine rend ?_
  refine c_seq ?_
  refine c_seq ?_
  refine r_start ?_
  refine p 1 ?_
  obtain ⟨v1_1, hv1_1, h⟩ := H.call h
  refine xq rfl (y_call [.slice A0 (List.length a0) k0, .int .i64 20] (.bool v1_1) func80 (fun W S => C.i_areSigns W hv1_1 ((s_arg h0).out W S))) ?_
  refine p 2 ?_
  refine br (!v1_1) (fun q1 => ?_) (fun q1 => ?_)
  · replace h := H.t q1 h
    refine o_set 13 (congrArg Value.bool q1) ?_
    refine p 4 ?_
    refine rend ?_
    refine c_t (by kernel_rfl) ?_
    refine c_seq ?_
    refine r_start ?_
    refine p 2 ?_
    refine rend ?_
    replace h := H.done h
    subst h
    exact ret func14 rfl (vs := [.slice none 0 0, .bool false]) (.tmp (by kernel_rfl) (.tmp (by kernel_rfl) .nil)) rfl (fun W S => ⟨none, 0, rfl, World.ownsRow_nil _ _ _ _, S.below⟩)
  replace h := H.f q1 h
  refine o_set 13 (congrArg Value.bool q1) ?_
  refine xq rfl (y_load (.slice A1 (List.length a1) k1) 0 g0_0 0) ?_
  obtain ⟨v1_5, hv1_5, h⟩ := H.call h
  refine xq rfl (y_call [.slice A1 (List.length a1) k1] (.bool v1_5) func69 (fun W S => C.i_isMade W hv1_5 ((s_arg h1).out W S))) ?_
  refine p 2 ?_
  refine rend ?_
  refine c_or (!v1_5) (fun q2 => ?_) (fun q2 => ?_)
  · replace h := H.t q2 h
    refine c_seq ?_
    refine r_start ?_
    refine p 2 ?_
    refine rend ?_
    replace h := H.done h
    subst h
    exact ret func14 rfl (vs := [.slice none 0 0, .bool false]) (.tmp (by kernel_rfl) (.tmp (by kernel_rfl) .nil)) rfl (fun W S => ⟨none, 0, rfl, World.ownsRow_nil _ _ _ _, S.below⟩)
  replace h := H.f q2 h
  refine c_skip ?_
  refine c_seq ?_
  refine r_start ?_
  refine p 1 ?_
  refine rend ?_
  refine c_seq ?_
  refine c_seq ?_
  refine r_start ?_
  refine xq rfl (y_load (.slice A1 (List.length a1) k1) 0 g0_0 0) ?_
  refine p 2 ?_
  refine rend ?_
  refine c_block ?_
  refine c_nil (eI .i64) 3 ?_
  refine joinE (X := ((List Int) × Option Addr × Nat)) 0 (H.or h) (fun ⟨l6, A7, k8⟩ => l6) (fun ⟨l6, A7, k8⟩ => [box g0_0 23 [.slice A1 (List.length a1) k1], rowT (eI .i64) w.heap.size 3 (.slice A7 (List.length l6) k8) l6]) (fun ⟨l6, A7, k8⟩ u => (jk u 0 6 (.slice A7 (List.length l6) k8 :: (jk u 7 29 [])))) (fun h hj9 => ?_) ?_
  · skip
    refine rangeR (X := ((List Int) × Option Addr × Nat)) (s_arg h1) (fun ⟨l3, A4, k5⟩ => l3) (fun ⟨l3, A4, k5⟩ => [box g0_0 23 [.slice A1 (List.length a1) k1], rowT (eI .i64) w.heap.size 3 (.slice A4 (List.length l3) k5) l3]) (fun (j10 : Nat) ⟨l3, A4, k5⟩ u => (.slice A0 (List.length a0) k0 :: (jk u 1 2 (.pointer (some ⟨g0_0, 0, none⟩) :: (jk u 4 2 (.slice A4 (List.length l3) k5 :: (jk u 7 11 (.slice A1 (List.length a1) k1 :: .int .i64 (List.length a1 : Int) :: .int .i64 (j10 : Int) :: (jk u 21 15 []))))))))) (([] : List Int), none, 0) h (by kernel_rfl) (by kernel_rfl) ?_ ?_
    · intro j10 x u x11 q12 hg13 hw14 h
      obtain ⟨l3, A4, k5⟩ := x
      refine c_seq ?_
      refine r_start ?_
      refine p 1 ?_
      refine rend ?_
      refine c_seq ?_
      refine c_yes q12 ?_
      refine c_skip ?_
      refine c_seq ?_
      refine c_block ?_
      refine c_seq ?_
      refine r_start ?_
      refine p 1 ?_
      refine xq rfl (y_idx (e := nSign) (el := 38) hg13 (s_arg h1)) ?_
      refine xq rfl (y_el (e := nSign) 0 (.agg (eSign x11).toArray) hg13 (s_arg h1)) ?_
      refine xx rfl (x_new [.int .i64 0] fun g6_3 => ?_)
      refine xx rfl (x_new (eSign zSign) fun g6_4 => ?_)
      refine xx rfl (x_sto 2 g6_3 0 [.int .i64 (j10 : Int)] ?_)
      refine xx rfl (x_sto 3 g6_4 0 (eSign x11) ?_)
      refine rend ?_
      refine c_seq ?_
      refine r_start ?_
      refine p 2 ?_
      obtain ⟨v7_2, hv7_2, h⟩ := H.call h
      refine xq rfl (y_call [.slice A0 (List.length a0) k0, .func (.func 82) #[] #[.pointer (some ⟨g6_3, 0, none⟩), .pointer (some ⟨g0_0, 0, none⟩), .pointer (some ⟨g6_4, 0, none⟩)]] (.int .i64 v7_2) func81 (fun W S => C.slices_IndexFunc_i_Sign_i_Sign W hv7_2 ((s_arg h0).out W S) (isFn_of func82) (fun x0_2 r W2 hu2 hx2 => C.i_PartsOfCompound_1 W2 hx2 (bx_up (S.bx 2) hu2) (Rd.up ((s_arg h1).out W S) hu2) (bx_up (S.bx 0) hu2) (bx_up (S.bx 3) hu2)))) ?_
      refine p 1 ?_
      refine rend ?_
      refine c_seq ?_
      refine c_seq ?_
      refine r_start ?_
      refine p 2 ?_
      refine rend ?_
      refine c_or (decide (v7_2 < 0)) (fun q15 => ?_) (fun q15 => ?_)
      · replace h := H.t q15 h
        refine c_seq ?_
        refine r_start ?_
        refine p 2 ?_
        refine rend ?_
        replace h := H.inr h
        replace h := H.done h
        subst h
        exact ret func14 rfl (vs := [.slice none 0 0, .bool false]) (.tmp (by kernel_rfl) (.tmp (by kernel_rfl) .nil)) rfl (fun W S => ⟨none, 0, rfl, World.ownsRow_nil _ _ _ _, S.below⟩)
      replace h := H.f q15 h
      refine c_skip ?_
      refine r_start ?_
      refine p 2 ?_
      refine xx rfl (e_lit (e := (eI .i64)) (el := 3) [.int .i64 v7_2] ([v7_2] : List Int) fun A10_2 k10_2 => ?_)
      obtain ⟨y10_3, hy10_3, h⟩ := H.call h
      refine xx rfl (e_app 1 hy10_3 (s_own 4) fun A10_3 k10_3 => ?_)
      refine p 1 ?_
      refine rend ?_
      refine c_inb ?_
      refine r_start ?_
      refine p 2 ?_
      refine rend ?_
      refine c_set 20 (ci hw14) ?_
      replace h := H.inl h
      exact h (y10_3, A10_3, k10_3) _ _ rfl (by kernel_rfl) (by kernel_rfl)
    · intro x u q12 h
      obtain ⟨l3, A4, k5⟩ := x
      refine c_seq ?_
      refine r_start ?_
      refine p 1 ?_
      refine rend ?_
      refine c_seq ?_
      refine c_no q12 ?_
      refine cx ?_
      replace h := H.done h
      exact hj9 (l3, A4, k5) _ _ h (by kernel_rfl) (by kernel_rfl)
  intro x u h
  obtain ⟨l6, A7, k8⟩ := x
  refine c_seq ?_
  refine r_start ?_
  refine p 3 ?_
  refine rend ?_
  replace h := H.done h
  subst h
  exact ret func14 rfl (vs := [.slice A7 (List.length l6) k8, .bool true]) (.tmp (by kernel_rfl) (.tmp (by kernel_rfl) .nil)) rfl (fun W S => ⟨_, _, rfl, S.row 1, S.below⟩)
theorem C.s_PartsOfCompound {fu : Nat} {a0 : (List Sign)} {A0 : Option Addr} {k0 : Nat} {a1 : (List Sign)} {A1 : Option Addr} {k1 : Nat} {r : ((List Int) × Bool)} (w : World) (h : X.s_PartsOfCompound fu a0 a1 = some r) (h0 : RdT nSign w (.slice A0 (List.length a0) k0) a0) (h1 : RdT nSign w (.slice A1 (List.length a1) k1) a1) : Calls prog 15 #[.slice A0 (List.length a0) k0, .slice A1 (List.length a1) k1] w (RetR (eI .i64) 3 w r.1 (fun v => .tuple #[v, .bool r.2])) := by
  refine calls (M := no) (args := [.slice A0 (List.length a0) k0, .slice A1 (List.length a1) k1]) func15 rfl ?_
  replace h : H (X.s_PartsOfCompound fu a0 a1) (fun o => o = r) := H.mk h
  unfold X.s_PartsOfCompound at h
  refine c_seq ?_
  refine r_start ?_
  refine p 2 ?_
  refine rend ?_
  refine c_seq ?_
  refine c_seq ?_
  refine r_start ?_
  refine p 1 ?_
  obtain ⟨v1_1, hv1_1, h⟩ := H.call h
  refine xq rfl (y_call [.slice A0 (List.length a0) k0] (.bool v1_1) func83 (fun W S => C.s_paList W hv1_1 ((s_arg h0).out W S))) ?_
  refine p 2 ?_
  refine br (!v1_1) (fun q1 => ?_) (fun q1 => ?_)
  · replace h := H.t q1 h
    refine o_set 15 (congrArg Value.bool q1) ?_
    refine p 4 ?_
    refine rend ?_
    refine c_t (by kernel_rfl) ?_
    refine c_seq ?_
    refine r_start ?_
    refine p 2 ?_
    refine rend ?_
    replace h := H.done h
    subst h
    exact ret func15 rfl (vs := [.slice none 0 0, .bool false]) (.tmp (by kernel_rfl) (.tmp (by kernel_rfl) .nil)) rfl (fun W S => ⟨none, 0, rfl, World.ownsRow_nil _ _ _ _, S.below⟩)
  replace h := H.f q1 h
  refine o_set 15 (congrArg Value.bool q1) ?_
  refine p 1 ?_
  obtain ⟨v1_5, hv1_5, h⟩ := H.call h
  refine xq rfl (y_call [.slice A1 (List.length a1) k1] (.bool v1_5) func71 (fun W S => C.s_cmGood W hv1_5 ((s_arg h1).out W S))) ?_
  refine p 2 ?_
  refine rend ?_
  refine c_or (!v1_5) (fun q2 => ?_) (fun q2 => ?_)
  · replace h := H.t q2 h
    refine c_seq ?_
    refine r_start ?_
    refine p 2 ?_
    refine rend ?_
    replace h := H.done h
    subst h
    exact ret func15 rfl (vs := [.slice none 0 0, .bool false]) (.tmp (by kernel_rfl) (.tmp (by kernel_rfl) .nil)) rfl (fun W S => ⟨none, 0, rfl, World.ownsRow_nil _ _ _ _, S.below⟩)
  replace h := H.f q2 h
  refine c_skip ?_
  refine c_seq ?_
  refine r_start ?_
  refine p 1 ?_
  refine rend ?_
  refine c_seq ?_
  refine c_seq ?_
  refine r_start ?_
  refine p 3 ?_
  refine rend ?_
  refine c_block ?_
  refine c_nil (eI .i64) 3 ?_
  refine joinE (X := ((List Int) × Option Addr × Nat)) 0 (H.or h) (fun ⟨l6, A7, k8⟩ => l6) (fun ⟨l6, A7, k8⟩ => [rowT (eI .i64) w.heap.size 3 (.slice A7 (List.length l6) k8) l6]) (fun ⟨l6, A7, k8⟩ u => (jk u 0 6 (.slice A7 (List.length l6) k8 :: (jk u 7 51 [])))) (fun h hj9 => ?_) ?_
  · skip
    refine rangeR (X := ((List Int) × Option Addr × Nat)) (s_arg h1) (fun ⟨l3, A4, k5⟩ => l3) (fun ⟨l3, A4, k5⟩ => [rowT (eI .i64) w.heap.size 3 (.slice A4 (List.length l3) k5) l3]) (fun (j10 : Nat) ⟨l3, A4, k5⟩ u => (.slice A0 (List.length a0) k0 :: .slice A1 (List.length a1) k1 :: (jk u 2 4 (.slice A4 (List.length l3) k5 :: (jk u 7 13 (.slice A1 (List.length a1) k1 :: .int .i64 (List.length a1 : Int) :: .int .i64 (j10 : Int) :: (jk u 23 35 []))))))) (([] : List Int), none, 0) h (by kernel_rfl) (by kernel_rfl) ?_ ?_
    · intro j10 x u x11 q12 hg13 hw14 h
      obtain ⟨l3, A4, k5⟩ := x
      refine c_seq ?_
      refine r_start ?_
      refine p 1 ?_
      refine rend ?_
      refine c_seq ?_
      refine c_yes q12 ?_
      refine c_skip ?_
      refine c_seq ?_
      refine c_block ?_
      refine c_seq ?_
      refine r_start ?_
      refine p 1 ?_
      refine xq rfl (y_idx (e := nSign) (el := 38) hg13 (s_arg h1)) ?_
      refine xq rfl (y_el (e := nSign) 0 (.agg (eSign x11).toArray) hg13 (s_arg h1)) ?_
      refine xx rfl (x_new (eSign zSign) fun g6_3 => ?_)
      refine p 1 ?_
      refine xx rfl (x_sto 1 g6_3 0 (eSign x11) ?_)
      refine rend ?_
      refine c_seq ?_
      refine r_start ?_
      refine p 1 ?_
      refine rend ?_
      refine c_seq ?_
      refine c_seq ?_
      refine r_start ?_
      refine p 3 ?_
      refine rend ?_
      refine c_block ?_
      refine joinH (X := Int) 2 (H.bnd h) (fun (x : Int) => x) (fun n16 => [rowT (eI .i64) w.heap.size 3 (.slice A4 (List.length l3) k5) l3, box g6_3 38 (eSign x11)]) (fun n16 u => (.slice A0 (List.length a0) k0 :: .slice A1 (List.length a1) k1 :: (jk u 2 4 (.slice A4 (List.length l3) k5 :: (jk u 7 2 (.int .i64 n16 :: (jk u 10 10 (.slice A1 (List.length a1) k1 :: .int .i64 (List.length a1 : Int) :: .int .i64 (j10 : Int) :: (jk u 23 35 []))))))))) (fun h hj17 => ?_) ?_
      · skip
        refine rangeR (X := Int) (s_arg h0) (fun (x : Int) => x) (fun n15 => [rowT (eI .i64) w.heap.size 3 (.slice A4 (List.length l3) k5) l3, box g6_3 38 (eSign x11)]) (fun (j18 : Nat) n15 u => (.slice A0 (List.length a0) k0 :: .slice A1 (List.length a1) k1 :: (jk u 2 4 (.slice A4 (List.length l3) k5 :: .int .i64 (j10 : Int) :: .pointer (some ⟨g6_3, 0, none⟩) :: .int .i64 n15 :: (jk u 10 10 (.slice A1 (List.length a1) k1 :: .int .i64 (List.length a1 : Int) :: .int .i64 (j10 : Int) :: (jk u 23 4 (.slice A0 (List.length a0) k0 :: .int .i64 (List.length a0 : Int) :: .int .i64 (j18 : Int) :: (jk u 30 28 []))))))))) (-1) h (by kernel_rfl) (by kernel_rfl) ?_ ?_
        · intro j18 n15 u x19 q20 hg21 hw22 h
          refine c_seq ?_
          refine r_start ?_
          refine p 1 ?_
          refine rend ?_
          refine c_seq ?_
          refine c_yes q20 ?_
          refine c_skip ?_
          refine c_seq ?_
          refine c_block ?_
          refine c_seq ?_
          refine r_start ?_
          refine p 1 ?_
          refine xq rfl (y_idx (e := nSign) (el := 38) hg21 (s_arg h0)) ?_
          refine xq rfl (y_el (e := nSign) 0 (.agg (eSign x19).toArray) hg21 (s_arg h0)) ?_
          refine xx rfl (x_new (eSign zSign) fun g10_3 => ?_)
          refine p 1 ?_
          refine xx rfl (x_sto 2 g10_3 0 (eSign x19) ?_)
          refine rend ?_
          refine c_seq ?_
          refine c_seq ?_
          refine r_start ?_
          refine p 5 ?_
          refine rend ?_
          refine c_or (decide ((wr ((j10 : Int) + 1)) < (List.length a1 : Int))) (fun q23 => ?_) (fun q23 => ?_)
          · replace h := H.t q23 h
            refine r_start ?_
            refine xq rfl (y_load (.agg (eSign x19).toArray) 2 g10_3 0) ?_
            obtain ⟨v12_1, hv12_1, h⟩ := H.call h
            refine xq rfl (y_call [.agg (eSign x19).toArray] (.agg (eSign v12_1).toArray) func76 (fun W S => C.s_cmReduce W hv12_1)) ?_
            refine xx rfl (x_sto 2 g10_3 0 (eSign v12_1) ?_)
            refine rend ?_
            refine frg (fun u => (.slice A0 (List.length a0) k0 :: .slice A1 (List.length a1) k1 :: (jk u 2 4 (.slice A4 (List.length l3) k5 :: .int .i64 (j10 : Int) :: .pointer (some ⟨g6_3, 0, none⟩) :: .int .i64 n15 :: .int .i64 (j18 : Int) :: .pointer (some ⟨g10_3, 0, none⟩) :: (jk u 12 8 (.slice A1 (List.length a1) k1 :: .int .i64 (List.length a1 : Int) :: .int .i64 (j10 : Int) :: (jk u 23 4 (.slice A0 (List.length a0) k0 :: .int .i64 (List.length a0 : Int) :: .int .i64 (j18 : Int) :: (jk u 30 28 []))))))))) (by kernel_rfl) fun u => ?_
            refine keep 3 (its' := [rowT (eI .i64) w.heap.size 3 (.slice A4 (List.length l3) k5) l3, box g6_3 38 (eSign x11), box g10_3 38 (eSign v12_1)]) (by kernel_rfl) ?_
            refine c_seq ?_
            refine r_start ?_
            refine p 3 ?_
            refine br (decide (n15 < 0)) (fun q24 => ?_) (fun q24 => ?_)
            · replace h := H.t q24 h
              refine o_set 43 (congrArg Value.bool q24) ?_
              refine xq rfl (y_load (.agg (eSign v12_1).toArray) 2 g10_3 0) ?_
              refine xq rfl (y_load (.agg (eSign x11).toArray) 1 g6_3 0) ?_
              refine p 2 ?_
              refine rend ?_
              refine c_or (qSign v12_1 x11) (fun q25 => ?_) (fun q25 => ?_)
              · replace h := H.t q25 h
                refine r_start ?_
                refine p 2 ?_
                refine rend ?_
                refine c_inb ?_
                refine r_start ?_
                refine p 2 ?_
                refine rend ?_
                refine c_set 29 (ci hw22) ?_
                replace h := H.inl h
                exact h (j18 : Int) _ _ rfl (by kernel_rfl) (by kernel_rfl)
              replace h := H.f q25 h
              refine c_skip ?_
              refine c_inb ?_
              refine r_start ?_
              refine p 2 ?_
              refine rend ?_
              refine c_set 29 (ci hw22) ?_
              replace h := H.inl h
              exact h n15 _ _ rfl (by kernel_rfl) (by kernel_rfl)
            replace h := H.f q24 h
            refine o_set 43 (congrArg Value.bool q24) ?_
            refine p 4 ?_
            refine rend ?_
            refine c_f (by kernel_rfl) ?_
            refine c_skip ?_
            refine c_inb ?_
            refine r_start ?_
            refine p 2 ?_
            refine rend ?_
            refine c_set 29 (ci hw22) ?_
            replace h := H.inl h
            exact h n15 _ _ rfl (by kernel_rfl) (by kernel_rfl)
          replace h := H.f q23 h
          refine c_skip ?_
          refine c_seq ?_
          refine r_start ?_
          refine p 3 ?_
          refine br (decide (n15 < 0)) (fun q26 => ?_) (fun q26 => ?_)
          · replace h := H.t q26 h
            refine o_set 43 (congrArg Value.bool q26) ?_
            refine xq rfl (y_load (.agg (eSign x19).toArray) 2 g10_3 0) ?_
            refine xq rfl (y_load (.agg (eSign x11).toArray) 1 g6_3 0) ?_
            refine p 2 ?_
            refine rend ?_
            refine frg (fun u => (.slice A0 (List.length a0) k0 :: .slice A1 (List.length a1) k1 :: (jk u 2 4 (.slice A4 (List.length l3) k5 :: .int .i64 (j10 : Int) :: .pointer (some ⟨g6_3, 0, none⟩) :: .int .i64 n15 :: .int .i64 (j18 : Int) :: (jk u 11 9 (.slice A1 (List.length a1) k1 :: .int .i64 (List.length a1 : Int) :: .int .i64 (j10 : Int) :: (jk u 23 4 (.slice A0 (List.length a0) k0 :: .int .i64 (List.length a0 : Int) :: .int .i64 (j18 : Int) :: (jk u 30 17 (.bool (qSign x19 x11) :: (jk u 48 10 []))))))))))) (by kernel_rfl) fun u => ?_
            refine keep 3 (its' := [rowT (eI .i64) w.heap.size 3 (.slice A4 (List.length l3) k5) l3, box g6_3 38 (eSign x11), box g10_3 38 (eSign x19)]) (by kernel_rfl) ?_
            refine c_or (qSign x19 x11) (fun q27 => ?_) (fun q27 => ?_)
            · replace h := H.t q27 h
              refine r_start ?_
              refine p 2 ?_
              refine rend ?_
              refine c_inb ?_
              refine r_start ?_
              refine p 2 ?_
              refine rend ?_
              refine c_set 29 (ci hw22) ?_
              replace h := H.inl h
              exact h (j18 : Int) _ _ rfl (by kernel_rfl) (by kernel_rfl)
            replace h := H.f q27 h
            refine c_skip ?_
            refine c_inb ?_
            refine r_start ?_
            refine p 2 ?_
            refine rend ?_
            refine c_set 29 (ci hw22) ?_
            replace h := H.inl h
            exact h n15 _ _ rfl (by kernel_rfl) (by kernel_rfl)
          replace h := H.f q26 h
          refine o_set 43 (congrArg Value.bool q26) ?_
          refine p 4 ?_
          refine rend ?_
          refine frg (fun u => (.slice A0 (List.length a0) k0 :: .slice A1 (List.length a1) k1 :: (jk u 2 4 (.slice A4 (List.length l3) k5 :: .int .i64 (j10 : Int) :: .pointer (some ⟨g6_3, 0, none⟩) :: .int .i64 n15 :: .int .i64 (j18 : Int) :: (jk u 11 9 (.slice A1 (List.length a1) k1 :: .int .i64 (List.length a1 : Int) :: .int .i64 (j10 : Int) :: (jk u 23 4 (.slice A0 (List.length a0) k0 :: .int .i64 (List.length a0 : Int) :: .int .i64 (j18 : Int) :: (jk u 30 17 (.bool false :: (jk u 48 10 []))))))))))) (by kernel_rfl) fun u => ?_
          refine keep 3 (its' := [rowT (eI .i64) w.heap.size 3 (.slice A4 (List.length l3) k5) l3, box g6_3 38 (eSign x11), box g10_3 38 (eSign x19)]) (by kernel_rfl) ?_
          refine c_f (by kernel_rfl) ?_
          refine c_skip ?_
          refine c_inb ?_
          refine r_start ?_
          refine p 2 ?_
          refine rend ?_
          refine c_set 29 (ci hw22) ?_
          replace h := H.inl h
          exact h n15 _ _ rfl (by kernel_rfl) (by kernel_rfl)
        · intro n15 u q20 h
          refine c_seq ?_
          refine r_start ?_
          refine p 1 ?_
          refine rend ?_
          refine c_seq ?_
          refine c_no q20 ?_
          refine cx ?_
          replace h := H.done h
          exact hj17 n15 _ _ h (by kernel_rfl) (by kernel_rfl)
      intro n16 u h
      refine c_seq ?_
      refine c_seq ?_
      refine r_start ?_
      refine p 2 ?_
      refine rend ?_
      refine c_or (decide (n16 < 0)) (fun q28 => ?_) (fun q28 => ?_)
      · replace h := H.t q28 h
        refine c_seq ?_
        refine r_start ?_
        refine p 2 ?_
        refine rend ?_
        replace h := H.inr h
        replace h := H.done h
        subst h
        exact ret func15 rfl (vs := [.slice none 0 0, .bool false]) (.tmp (by kernel_rfl) (.tmp (by kernel_rfl) .nil)) rfl (fun W S => ⟨none, 0, rfl, World.ownsRow_nil _ _ _ _, S.below⟩)
      replace h := H.f q28 h
      refine c_skip ?_
      refine r_start ?_
      refine p 2 ?_
      refine xx rfl (e_lit (e := (eI .i64)) (el := 3) [.int .i64 n16] ([n16] : List Int) fun A18_2 k18_2 => ?_)
      obtain ⟨y18_3, hy18_3, h⟩ := H.call h
      refine xx rfl (e_app 0 hy18_3 (s_own 2) fun A18_3 k18_3 => ?_)
      refine p 1 ?_
      refine rend ?_
      refine c_inb ?_
      refine r_start ?_
      refine p 2 ?_
      refine rend ?_
      refine c_set 22 (ci hw14) ?_
      replace h := H.inl h
      exact h (y18_3, A18_3, k18_3) _ _ rfl (by kernel_rfl) (by kernel_rfl)
    · intro x u q12 h
      obtain ⟨l3, A4, k5⟩ := x
      refine c_seq ?_
      refine r_start ?_
      refine p 1 ?_
      refine rend ?_
      refine c_seq ?_
      refine c_no q12 ?_
      refine cx ?_
      replace h := H.done h
      exact hj9 (l3, A4, k5) _ _ h (by kernel_rfl) (by kernel_rfl)
  intro x u h
  obtain ⟨l6, A7, k8⟩ := x
  refine c_seq ?_
  refine r_start ?_
  refine p 3 ?_
  refine rend ?_
  replace h := H.done h
  subst h
  exact ret func15 rfl (vs := [.slice A7 (List.length l6) k8, .bool true]) (.tmp (by kernel_rfl) (.tmp (by kernel_rfl) .nil)) rfl (fun W S => ⟨_, _, rfl, S.row 0, S.below⟩)
theorem C.s_DrawIsReduced {fu : Nat} {a0 : (List Int)} {A0 : Option Addr} {k0 : Nat} {r : (List Sign)} (w : World) (h : X.s_DrawIsReduced fu a0 = some r) (h0 : RdT (eI .u8) w (.slice A0 (List.length a0) k0) a0) : Calls prog 16 #[.slice A0 (List.length a0) k0] w (RetR nSign 38 w r (fun v => v)) := by
  refine calls (M := no) (args := [.slice A0 (List.length a0) k0]) func16 rfl ?_
  replace h : H (X.s_DrawIsReduced fu a0) (fun o => o = r) := H.mk h
  unfold X.s_DrawIsReduced at h
  refine c_seq ?_
  refine r_start ?_
  refine p 1 ?_
  refine rend ?_
  refine c_seq ?_
  refine r_start ?_
  refine p 2 ?_
  refine xx rfl (x_box [.slice A0 (List.length a0) k0, .int .i64 0, .int .u64 0] fun g1_2 => ?_)
  refine p 1 ?_
  refine rend ?_
  refine c_seq ?_
  refine r_start ?_
  refine p 1 ?_
  obtain ⟨v2_1, hv2_1, h⟩ := H.call h
  refine xx rfl (e_cqR (cs' := [.slice A0 (List.length a0) k0, .int .i64 v2_1.2.1, .int .u64 v2_1.2.2]) 0 [.pointer (some ⟨g1_2, 0, none⟩)] (fun v => v) func68 (fun W S => C.s_l1Cur_compound W hv2_1 (S.bx 0) ((s_arg h0).out W S) (ap_arg h0 S 0)) fun A2_1 k2_1 => ?_)
  refine p 1 ?_
  refine rend ?_
  refine c_seq ?_
  refine c_seq ?_
  refine r_start ?_
  refine p 1 ?_
  obtain ⟨v3_1, hv3_1, h⟩ := H.call h
  refine xq rfl (y_call [.slice A2_1 (List.length v2_1.1) k2_1] (.bool v3_1) func71 (fun W S => C.s_cmGood W hv3_1 ((s_own 1).out W S))) ?_
  refine p 1 ?_
  refine br v3_1 (fun q1 => ?_) (fun q1 => ?_)
  · replace h := H.t q1 h
    refine o_set 12 (congrArg Value.bool q1) ?_
    refine p 1 ?_
    obtain ⟨v3_4, hv3_4, h⟩ := H.call h
    refine xx rfl (e_cq (cs' := [.slice A0 (List.length a0) k0, .int .i64 v3_4.2.1, .int .u64 v3_4.2.2]) (v := .bool v3_4.1) 0 [.pointer (some ⟨g1_2, 0, none⟩), .int .i64 2] func78 (fun W S => C.s_l1Cur_one W hv3_4 (S.bx 0) ((s_arg h0).out W S) (ap_arg h0 S 0)) ?_)
    refine p 1 ?_
    refine rend ?_
    refine c_or v3_4.1 (fun q2 => ?_) (fun q2 => ?_)
    · replace h := H.t q2 h
      refine c_seq ?_
      refine r_start ?_
      refine p 1 ?_
      obtain ⟨v4_1, hv4_1, h⟩ := H.call h
      refine xx rfl (e_cr [.slice A2_1 (List.length v2_1.1) k2_1] (fun v => v) func72 (fun W S => C.s_cmOf W hv4_1 ((s_own 1).out W S)) fun A4_1 k4_1 => ?_)
      refine p 1 ?_
      refine rend ?_
      replace h := H.done h
      subst h
      exact ret func16 rfl (vs := [.slice A4_1 (List.length v4_1) k4_1]) (.tmp (by kernel_rfl) .nil) rfl (fun W S => ⟨_, _, rfl, S.row 2, S.below⟩)
    replace h := H.f q2 h
    refine c_skip ?_
    refine c_seq ?_
    refine r_start ?_
    refine p 2 ?_
    refine rend ?_
    replace h := H.done h
    subst h
    exact ret func16 rfl (vs := [.slice A2_1 (List.length v2_1.1) k2_1]) (.tmp (by kernel_rfl) .nil) rfl (fun W S => ⟨_, _, rfl, S.row 1, S.below⟩)
  replace h := H.f q1 h
  refine o_set 12 (congrArg Value.bool q1) ?_
  refine p 3 ?_
  refine rend ?_
  refine c_f (by kernel_rfl) ?_
  refine c_skip ?_
  refine c_seq ?_
  refine r_start ?_
  refine p 2 ?_
  refine rend ?_
  replace h := H.done h
  subst h
  exact ret func16 rfl (vs := [.slice A2_1 (List.length v2_1.1) k2_1]) (.tmp (by kernel_rfl) .nil) rfl (fun W S => ⟨_, _, rfl, S.row 1, S.below⟩)
theorem C.slices_Equal_i_Sign_i_Sign {a0 : (List Sign)} {A0 : Option Addr} {k0 : Nat} {a1 : (List Sign)} {A1 : Option Addr} {k1 : Nat} {r : Bool} (w : World) (h : X.slices_Equal_i_Sign_i_Sign a0 a1 = some r) (h0 : RdT nSign w (.slice A0 (List.length a0) k0) a0) (h1 : RdT nSign w (.slice A1 (List.length a1) k1) a1) : Calls prog 84 #[.slice A0 (List.length a0) k0, .slice A1 (List.length a1) k1] w (Ret w (.bool r)) := by
  refine calls (M := no) (args := [.slice A0 (List.length a0) k0, .slice A1 (List.length a1) k1]) func84 rfl ?_
  replace h : H (X.slices_Equal_i_Sign_i_Sign a0 a1) (fun o => o = r) := H.mk h
  unfold X.slices_Equal_i_Sign_i_Sign at h
  refine c_seq ?_
  refine r_start ?_
  refine p 1 ?_
  refine rend ?_
  refine c_seq ?_
  refine c_seq ?_
  refine r_start ?_
  refine p 5 ?_
  refine rend ?_
  refine c_or ((List.length a0 : Int) != (List.length a1 : Int)) (fun q1 => ?_) (fun q1 => ?_)
  · replace h := H.t q1 h
    refine c_seq ?_
    refine r_start ?_
    refine p 1 ?_
    refine rend ?_
    replace h := H.done h
    subst h
    exact ret func84 rfl (vs := [.bool false]) (.tmp (by kernel_rfl) .nil) rfl (fun W S => ⟨rfl, S.below⟩)
  replace h := H.f q1 h
  refine c_skip ?_
  refine c_seq ?_
  refine c_seq ?_
  refine r_start ?_
  refine p 3 ?_
  refine rend ?_
  refine c_block ?_
  refine joinE (X := Unit) 0 (H.or h) (fun (x : Unit) => x) (fun _ => []) (fun _ u => (jk u 0 26 [])) (fun h hj2 => ?_) ?_
  · skip
    refine rangeR (X := Unit) (s_arg h0) (fun (x : Unit) => x) (fun _ => []) (fun (j3 : Nat) _ u => (.slice A0 (List.length a0) k0 :: .slice A1 (List.length a1) k1 :: (jk u 2 10 (.int .i64 (List.length a0 : Int) :: .int .i64 (j3 : Int) :: (jk u 14 12 []))))) () h (by kernel_rfl) (by kernel_rfl) ?_ ?_
    · intro j3 x u x4 q5 hg6 hw7 h
      refine c_seq ?_
      refine r_start ?_
      refine p 1 ?_
      refine rend ?_
      refine c_seq ?_
      refine c_yes q5 ?_
      refine c_skip ?_
      refine c_seq ?_
      refine c_block ?_
      refine c_seq ?_
      refine r_start ?_
      refine p 2 ?_
      refine rend ?_
      refine c_seq ?_
      refine as_start 9 9 ?_
      refine ap 0 2 ?_
      refine aq 2 rfl (y_idx (e := nSign) (el := 38) hg6 (s_arg h0)) ?_
      refine aq 3 rfl (y_el (e := nSign) 0 (.agg (eSign x4).toArray) hg6 (s_arg h0)) ?_
      refine ap 4 2 ?_
      obtain ⟨y6_6, hy6_6, h⟩ := H.call h
      refine aq 6 rfl (y_idx (e := nSign) (el := 38) hy6_6 (s_arg h1)) ?_
      refine aq 7 rfl (y_el (e := nSign) 0 (.agg (eSign y6_6).toArray) hy6_6 (s_arg h1)) ?_
      refine ap 8 1 ?_
      refine a_done ?_
      refine c_or (!qSign x4 y6_6) (fun q8 => ?_) (fun q8 => ?_)
      · replace h := H.t q8 h
        refine c_seq ?_
        refine r_start ?_
        refine p 1 ?_
        refine rend ?_
        replace h := H.inr h
        replace h := H.done h
        subst h
        exact ret func84 rfl (vs := [.bool false]) (.tmp (by kernel_rfl) .nil) rfl (fun W S => ⟨rfl, S.below⟩)
      replace h := H.f q8 h
      refine c_skip ?_
      refine c_inb ?_
      refine r_start ?_
      refine p 2 ?_
      refine rend ?_
      refine c_set 13 (ci hw7) ?_
      replace h := H.inl h
      exact h () _ _ rfl (by kernel_rfl) (by kernel_rfl)
    · intro x u q5 h
      refine c_seq ?_
      refine r_start ?_
      refine p 1 ?_
      refine rend ?_
      refine c_seq ?_
      refine c_no q5 ?_
      refine cx ?_
      replace h := H.done h
      exact hj2 () _ _ h (by kernel_rfl) (by kernel_rfl)
  intro x u h
  refine c_seq ?_
  refine r_start ?_
  refine p 1 ?_
  refine rend ?_
  replace h := H.done h
  subst h
  exact ret func84 rfl (vs := [.bool true]) (.tmp (by kernel_rfl) .nil) rfl (fun W S => ⟨rfl, S.below⟩)
theorem C.i_IsReduced {fu : Nat} {a0 : (List Sign)} {A0 : Option Addr} {k0 : Nat} {r : (Bool × Bool)} (w : World) (h : X.i_IsReduced fu a0 = some r) (h0 : RdT nSign w (.slice A0 (List.length a0) k0) a0) : Calls prog 17 #[.slice A0 (List.length a0) k0] w (Ret w (.tuple #[.bool r.1, .bool r.2])) := by
  refine calls (M := no) (args := [.slice A0 (List.length a0) k0]) func17 rfl ?_
  replace h : H (X.i_IsReduced fu a0) (fun o => o = r) := H.mk h
  unfold X.i_IsReduced at h
  refine c_seq ?_
  refine r_start ?_
  refine p 2 ?_
  refine rend ?_
  refine c_seq ?_
  refine c_seq ?_
  refine r_start ?_
  refine p 1 ?_
  obtain ⟨v1_1, hv1_1, h⟩ := H.call h
  refine xq rfl (y_call [.slice A0 (List.length a0) k0] (.bool v1_1) func69 (fun W S => C.i_isMade W hv1_1 ((s_arg h0).out W S))) ?_
  refine p 1 ?_
  refine rend ?_
  refine c_or (!v1_1) (fun q1 => ?_) (fun q1 => ?_)
  · replace h := H.t q1 h
    refine c_seq ?_
    refine r_start ?_
    refine p 2 ?_
    refine rend ?_
    replace h := H.done h
    subst h
    exact ret func17 rfl (vs := [.bool false, .bool false]) (.tmp (by kernel_rfl) (.tmp (by kernel_rfl) .nil)) rfl (fun W S => ⟨rfl, S.below⟩)
  replace h := H.f q1 h
  refine c_skip ?_
  refine c_seq ?_
  refine r_start ?_
  refine p 1 ?_
  obtain ⟨v3_1, hv3_1, h⟩ := H.call h
  refine xx rfl (e_cr [.slice A0 (List.length a0) k0] (fun v => v) func70 (fun W S => C.i_compound W hv3_1 ((s_arg h0).out W S)) fun A3_1 k3_1 => ?_)
  refine p 1 ?_
  obtain ⟨v3_3, hv3_3, h⟩ := H.call h
  refine xq rfl (y_call [.slice A3_1 (List.length v3_1) k3_1, .slice A0 (List.length a0) k0] (.bool v3_3) func84 (fun W S => C.slices_Equal_i_Sign_i_Sign W hv3_3 ((s_own 0).out W S) ((s_arg h0).out W S))) ?_
  refine p 2 ?_
  refine rend ?_
  replace h := H.done h
  subst h
  exact ret func17 rfl (vs := [.bool v3_3, .bool true]) (.tmp (by kernel_rfl) (.tmp (by kernel_rfl) .nil)) rfl (fun W S => ⟨rfl, S.below⟩)
theorem C.s_cmSame {a0 : (List Sign)} {A0 : Option Addr} {k0 : Nat} {a1 : (List Sign)} {A1 : Option Addr} {k1 : Nat} {r : Bool} (w : World) (h : X.s_cmSame a0 a1 = some r) (h0 : RdT nSign w (.slice A0 (List.length a0) k0) a0) (h1 : RdT nSign w (.slice A1 (List.length a1) k1) a1) : Calls prog 85 #[.slice A0 (List.length a0) k0, .slice A1 (List.length a1) k1] w (Ret w (.bool r)) := by
  refine calls (M := no) (args := [.slice A0 (List.length a0) k0, .slice A1 (List.length a1) k1]) func85 rfl ?_
  replace h : H (X.s_cmSame a0 a1) (fun o => o = r) := H.mk h
  unfold X.s_cmSame at h
  refine c_seq ?_
  refine r_start ?_
  refine p 1 ?_
  refine rend ?_
  refine c_seq ?_
  refine c_seq ?_
  refine r_start ?_
  refine p 3 ?_
  refine rend ?_
  refine c_block ?_
  refine joinE (X := Unit) 0 (H.or h) (fun (x : Unit) => x) (fun _ => []) (fun _ u => (.slice A0 (List.length a0) k0 :: .slice A1 (List.length a1) k1 :: (jk u 2 30 []))) (fun h hj1 => ?_) ?_
  · skip
    refine rangeR (X := Unit) (s_arg h0) (fun (x : Unit) => x) (fun _ => []) (fun (j2 : Nat) _ u => (.slice A0 (List.length a0) k0 :: .slice A1 (List.length a1) k1 :: (jk u 2 5 (.slice A0 (List.length a0) k0 :: .int .i64 (List.length a0 : Int) :: .int .i64 (j2 : Int) :: (jk u 10 22 []))))) () h (by kernel_rfl) (by kernel_rfl) ?_ ?_
    · intro j2 x u x3 q4 hg5 hw6 h
      refine c_seq ?_
      refine r_start ?_
      refine p 1 ?_
      refine rend ?_
      refine c_seq ?_
      refine c_yes q4 ?_
      refine c_skip ?_
      refine c_seq ?_
      refine c_block ?_
      refine c_seq ?_
      refine r_start ?_
      refine p 1 ?_
      refine xq rfl (y_idx (e := nSign) (el := 38) hg5 (s_arg h0)) ?_
      refine xq rfl (y_el (e := nSign) 0 (.agg (eSign x3).toArray) hg5 (s_arg h0)) ?_
      refine xx rfl (x_new (eSign zSign) fun g3_3 => ?_)
      refine p 1 ?_
      refine xx rfl (x_sto 0 g3_3 0 (eSign x3) ?_)
      refine rend ?_
      refine c_seq ?_
      refine as_start 12 12 ?_
      refine ap 0 5 ?_
      refine br (decide ((j2 : Int) < (List.length a1 : Int))) (fun q7 => ?_) (fun q7 => ?_)
      · replace h := H.t q7 h
        refine a_set 18 (congrArg Value.bool q7) ?_
        refine aq 5 rfl (y_load (.agg (eSign x3).toArray) 0 g3_3 0) ?_
        refine ap 6 2 ?_
        obtain ⟨y4_8, hy4_8, h⟩ := H.call h
        refine aq 8 rfl (y_idx (e := nSign) (el := 38) hy4_8 (s_arg h1)) ?_
        refine aq 9 rfl (y_el (e := nSign) 0 (.agg (eSign y4_8).toArray) hy4_8 (s_arg h1)) ?_
        refine ap 10 2 ?_
        refine a_done ?_
        refine c_or (!qSign x3 y4_8) (fun q8 => ?_) (fun q8 => ?_)
        · replace h := H.t q8 h
          refine c_seq ?_
          refine r_start ?_
          refine p 1 ?_
          refine rend ?_
          replace h := H.inr h
          replace h := H.done h
          subst h
          exact ret func85 rfl (vs := [.bool false]) (.tmp (by kernel_rfl) .nil) rfl (fun W S => ⟨rfl, S.below⟩)
        replace h := H.f q8 h
        refine c_skip ?_
        refine c_inb ?_
        refine r_start ?_
        refine p 2 ?_
        refine rend ?_
        refine c_set 9 (ci hw6) ?_
        replace h := H.inl h
        exact h () _ _ rfl (by kernel_rfl) (by kernel_rfl)
      replace h := H.f q7 h
      refine a_set 18 (congrArg Value.bool q7) ?_
      refine ap 5 7 ?_
      refine a_done ?_
      refine c_f (by kernel_rfl) ?_
      refine c_skip ?_
      refine c_inb ?_
      refine r_start ?_
      refine p 2 ?_
      refine rend ?_
      refine c_set 9 (ci hw6) ?_
      replace h := H.inl h
      exact h () _ _ rfl (by kernel_rfl) (by kernel_rfl)
    · intro x u q4 h
      refine c_seq ?_
      refine r_start ?_
      refine p 1 ?_
      refine rend ?_
      refine c_seq ?_
      refine c_no q4 ?_
      refine cx ?_
      replace h := H.done h
      exact hj1 () _ _ h (by kernel_rfl) (by kernel_rfl)
  intro x u h
  refine c_seq ?_
  refine r_start ?_
  refine p 6 ?_
  refine rend ?_
  replace h := H.done h
  subst h
  exact ret func85 rfl (vs := [.bool ((List.length a0 : Int) == (List.length a1 : Int))]) (.tmp (by kernel_rfl) .nil) rfl (fun W S => ⟨rfl, S.below⟩)
theorem C.s_IsReduced {fu : Nat} {a0 : (List Sign)} {A0 : Option Addr} {k0 : Nat} {r : (Bool × Bool)} (w : World) (h : X.s_IsReduced fu a0 = some r) (h0 : RdT nSign w (.slice A0 (List.length a0) k0) a0) : Calls prog 18 #[.slice A0 (List.length a0) k0] w (Ret w (.tuple #[.bool r.1, .bool r.2])) := by
  refine calls (M := no) (args := [.slice A0 (List.length a0) k0]) func18 rfl ?_
  replace h : H (X.s_IsReduced fu a0) (fun o => o = r) := H.mk h
  unfold X.s_IsReduced at h
  refine c_seq ?_
  refine r_start ?_
  refine p 2 ?_
  refine rend ?_
  refine c_seq ?_
  refine c_seq ?_
  refine r_start ?_
  refine p 1 ?_
  obtain ⟨v1_1, hv1_1, h⟩ := H.call h
  refine xq rfl (y_call [.slice A0 (List.length a0) k0] (.bool v1_1) func71 (fun W S => C.s_cmGood W hv1_1 ((s_arg h0).out W S))) ?_
  refine p 1 ?_
  refine rend ?_
  refine c_or (!v1_1) (fun q1 => ?_) (fun q1 => ?_)
  · replace h := H.t q1 h
    refine c_seq ?_
    refine r_start ?_
    refine p 2 ?_
    refine rend ?_
    replace h := H.done h
    subst h
    exact ret func18 rfl (vs := [.bool false, .bool false]) (.tmp (by kernel_rfl) (.tmp (by kernel_rfl) .nil)) rfl (fun W S => ⟨rfl, S.below⟩)
  replace h := H.f q1 h
  refine c_skip ?_
  refine c_seq ?_
  refine r_start ?_
  refine p 1 ?_
  obtain ⟨v3_1, hv3_1, h⟩ := H.call h
  refine xx rfl (e_cr [.slice A0 (List.length a0) k0] (fun v => v) func72 (fun W S => C.s_cmOf W hv3_1 ((s_arg h0).out W S)) fun A3_1 k3_1 => ?_)
  refine p 1 ?_
  obtain ⟨v3_3, hv3_3, h⟩ := H.call h
  refine xq rfl (y_call [.slice A3_1 (List.length v3_1) k3_1, .slice A0 (List.length a0) k0] (.bool v3_3) func85 (fun W S => C.s_cmSame W hv3_3 ((s_own 0).out W S) ((s_arg h0).out W S))) ?_
  refine p 2 ?_
  refine rend ?_
  replace h := H.done h
  subst h
  exact ret func18 rfl (vs := [.bool v3_3, .bool true]) (.tmp (by kernel_rfl) (.tmp (by kernel_rfl) .nil)) rfl (fun W S => ⟨rfl, S.below⟩)
theorem C.l_qSigns {a0 : (List Sign)} {A0 : Option Addr} {k0 : Nat} {a1 : (List Sign)} {A1 : Option Addr} {k1 : Nat} {r : Bool} (w : World) (h : X.l_qSigns a0 a1 = some r) (h0 : RdT nSign w (.slice A0 (List.length a0) k0) a0) (h1 : RdT nSign w (.slice A1 (List.length a1) k1) a1) : Calls prog 19 #[.slice A0 (List.length a0) k0, .slice A1 (List.length a1) k1] w (Ret w (.bool r)) := by
  refine calls (M := no) (args := [.slice A0 (List.length a0) k0, .slice A1 (List.length a1) k1]) func19 rfl ?_
  replace h : H (X.l_qSigns a0 a1) (fun o => o = r) := H.mk h
  unfold X.l_qSigns at h
  refine c_seq ?_
  refine r_start ?_
  refine p 1 ?_
  refine rend ?_
  refine c_seq ?_
  refine c_seq ?_
  refine r_start ?_
  refine p 5 ?_
  refine rend ?_
  refine c_or ((List.length a0 : Int) != (List.length a1 : Int)) (fun q1 => ?_) (fun q1 => ?_)
  · replace h := H.t q1 h
    refine c_seq ?_
    refine r_start ?_
    refine p 1 ?_
    refine rend ?_
    replace h := H.done h
    subst h
    exact ret func19 rfl (vs := [.bool false]) (.tmp (by kernel_rfl) .nil) rfl (fun W S => ⟨rfl, S.below⟩)
  replace h := H.f q1 h
  refine c_skip ?_
  refine c_seq ?_
  refine c_seq ?_
  refine r_start ?_
  refine p 3 ?_
  refine rend ?_
  refine c_block ?_
  refine joinE (X := Unit) 0 (H.or h) (fun (x : Unit) => x) (fun _ => []) (fun _ u => (jk u 0 26 [])) (fun h hj2 => ?_) ?_
  · skip
    refine rangeR (X := Unit) (s_arg h0) (fun (x : Unit) => x) (fun _ => []) (fun (j3 : Nat) _ u => (.slice A0 (List.length a0) k0 :: .slice A1 (List.length a1) k1 :: (jk u 2 10 (.int .i64 (List.length a0 : Int) :: .int .i64 (j3 : Int) :: (jk u 14 12 []))))) () h (by kernel_rfl) (by kernel_rfl) ?_ ?_
    · intro j3 x u x4 q5 hg6 hw7 h
      refine c_seq ?_
      refine r_start ?_
      refine p 1 ?_
      refine rend ?_
      refine c_seq ?_
      refine c_yes q5 ?_
      refine c_skip ?_
      refine c_seq ?_
      refine c_block ?_
      refine c_seq ?_
      refine r_start ?_
      refine p 2 ?_
      refine rend ?_
      refine c_seq ?_
      refine as_start 9 9 ?_
      refine ap 0 2 ?_
      refine aq 2 rfl (y_idx (e := nSign) (el := 38) hg6 (s_arg h0)) ?_
      refine aq 3 rfl (y_el (e := nSign) 0 (.agg (eSign x4).toArray) hg6 (s_arg h0)) ?_
      refine ap 4 2 ?_
      obtain ⟨y6_6, hy6_6, h⟩ := H.call h
      refine aq 6 rfl (y_idx (e := nSign) (el := 38) hy6_6 (s_arg h1)) ?_
      refine aq 7 rfl (y_el (e := nSign) 0 (.agg (eSign y6_6).toArray) hy6_6 (s_arg h1)) ?_
      refine ap 8 1 ?_
      refine a_done ?_
      refine c_or (!qSign x4 y6_6) (fun q8 => ?_) (fun q8 => ?_)
      · replace h := H.t q8 h
        refine c_seq ?_
        refine r_start ?_
        refine p 1 ?_
        refine rend ?_
        replace h := H.inr h
        replace h := H.done h
        subst h
        exact ret func19 rfl (vs := [.bool false]) (.tmp (by kernel_rfl) .nil) rfl (fun W S => ⟨rfl, S.below⟩)
      replace h := H.f q8 h
      refine c_skip ?_
      refine c_inb ?_
      refine r_start ?_
      refine p 2 ?_
      refine rend ?_
      refine c_set 13 (ci hw7) ?_
      replace h := H.inl h
      exact h () _ _ rfl (by kernel_rfl) (by kernel_rfl)
    · intro x u q5 h
      refine c_seq ?_
      refine r_start ?_
      refine p 1 ?_
      refine rend ?_
      refine c_seq ?_
      refine c_no q5 ?_
      refine cx ?_
      replace h := H.done h
      exact hj2 () _ _ h (by kernel_rfl) (by kernel_rfl)
  intro x u h
  refine c_seq ?_
  refine r_start ?_
  refine p 1 ?_
  refine rend ?_
  replace h := H.done h
  subst h
  exact ret func19 rfl (vs := [.bool true]) (.tmp (by kernel_rfl) .nil) rfl (fun W S => ⟨rfl, S.below⟩)
theorem C.l_FnCompounds {fu : Nat} {a0 : (List Int)} {A0 : Option Addr} {k0 : Nat} {a1 : (List Int)} {A1 : Option Addr} {k1 : Nat} {r : Bool} (w : World) (h : X.l_FnCompounds fu a0 a1 = some r) (h0 : RdT (eI .u8) w (.slice A0 (List.length a0) k0) a0) (h1 : RdT (eI .u8) w (.slice A1 (List.length a1) k1) a1) : Calls prog 3 #[.slice A0 (List.length a0) k0, .slice A1 (List.length a1) k1] w (Ret w (.bool r)) := by
  refine calls (M := no) (args := [.slice A0 (List.length a0) k0, .slice A1 (List.length a1) k1]) func3 rfl ?_
  replace h : H (X.l_FnCompounds fu a0 a1) (fun o => o = r) := H.mk h
  unfold X.l_FnCompounds at h
  refine c_seq ?_
  refine r_start ?_
  refine p 1 ?_
  refine rend ?_
  refine c_seq ?_
  refine c_seq ?_
  refine r_start ?_
  refine p 6 ?_
  refine rend ?_
  refine c_or (decide ((wr ((List.length a0 : Int) + (List.length a1 : Int))) > 1048576)) (fun q1 => ?_) (fun q1 => ?_)
  · replace h := H.t q1 h
    refine c_seq ?_
    refine r_start ?_
    refine p 1 ?_
    refine rend ?_
    replace h := H.done h
    subst h
    exact ret func3 rfl (vs := [.bool true]) (.tmp (by kernel_rfl) .nil) rfl (fun W S => ⟨rfl, S.below⟩)
  replace h := H.f q1 h
  refine c_skip ?_
  refine c_seq ?_
  refine r_start ?_
  refine p 1 ?_
  obtain ⟨v3_1, hv3_1, h⟩ := H.call h
  refine xx rfl (e_cr [.slice A0 (List.length a0) k0] (fun v => v) func7 (fun W S => C.s_DrawCompoundOf W hv3_1 ((s_arg h0).out W S)) fun A3_1 k3_1 => ?_)
  refine p 1 ?_
  refine rend ?_
  refine c_seq ?_
  refine r_start ?_
  refine p 1 ?_
  obtain ⟨v4_1, hv4_1, h⟩ := H.call h
  refine xx rfl (e_cr [.slice A3_1 (List.length v3_1) k3_1] (fun v => .tuple #[v, .bool v4_1.2]) func8 (fun W S => C.i_CompoundOf W hv4_1 ((s_own 0).out W S)) fun A4_1 k4_1 => ?_)
  refine p 5 ?_
  refine rend ?_
  refine c_seq ?_
  refine r_start ?_
  refine p 1 ?_
  obtain ⟨v5_1, hv5_1, h⟩ := H.call h
  refine xx rfl (e_cr [.slice A3_1 (List.length v3_1) k3_1] (fun v => .tuple #[v, .bool v5_1.2]) func9 (fun W S => C.s_CompoundOf W hv5_1 ((s_own 0).out W S)) fun A5_1 k5_1 => ?_)
  refine p 5 ?_
  refine rend ?_
  refine c_seq ?_
  refine r_start ?_
  refine p 1 ?_
  obtain ⟨v6_1, hv6_1, h⟩ := H.call h
  refine xq rfl (y_call [.slice A1 (List.length a1) k1] (.agg (eSign v6_1).toArray) func10 (fun W S => C.s_DrawReduceSign W hv6_1 ((s_arg h1).out W S))) ?_
  refine xx rfl (x_new (eSign zSign) fun g6_2 => ?_)
  refine xx rfl (x_sto 3 g6_2 0 (eSign v6_1) ?_)
  refine rend ?_
  refine c_seq ?_
  refine r_start ?_
  refine xq rfl (y_load (.agg (eSign v6_1).toArray) 3 g6_2 0) ?_
  obtain ⟨v7_1, hv7_1, h⟩ := H.call h
  refine xq rfl (y_call [.agg (eSign v6_1).toArray] (.tuple #[.agg (eSign v7_1.1).toArray, .bool v7_1.2]) func11 (fun W S => C.i_ReduceSign W hv7_1)) ?_
  refine p 3 ?_
  refine xx rfl (x_new (eSign zSign) fun g7_5 => ?_)
  refine xx rfl (x_sto 4 g7_5 0 (eSign v7_1.1) ?_)
  refine p 1 ?_
  refine rend ?_
  refine c_seq ?_
  refine r_start ?_
  refine xq rfl (y_load (.agg (eSign v6_1).toArray) 3 g6_2 0) ?_
  obtain ⟨v8_1, hv8_1, h⟩ := H.call h
  refine xq rfl (y_call [.agg (eSign v6_1).toArray] (.tuple #[.agg (eSign v8_1.1).toArray, .bool v8_1.2]) func12 (fun W S => C.s_ReduceSign W hv8_1)) ?_
  refine p 3 ?_
  refine xx rfl (x_new (eSign zSign) fun g8_5 => ?_)
  refine xx rfl (x_sto 5 g8_5 0 (eSign v8_1.1) ?_)
  refine p 1 ?_
  refine rend ?_
  refine c_seq ?_
  refine r_start ?_
  refine p 1 ?_
  obtain ⟨v9_1, hv9_1, h⟩ := H.call h
  refine xx rfl (e_cr2 [.slice A1 (List.length a1) k1] (fun v u => .tuple #[v, u]) func13 (fun W S => C.s_DrawPartsOfCompound W hv9_1 ((s_arg h1).out W S)) fun A9_1 k9_1 AA9_1 kk9_1 => ?_)
  refine p 5 ?_
  refine rend ?_
  refine c_seq ?_
  refine r_start ?_
  refine p 2 ?_
  obtain ⟨v10_2, hv10_2, h⟩ := H.call h
  refine xx rfl (e_cr [.slice A9_1 (List.length v9_1.1) k9_1, .slice AA9_1 (List.length v9_1.2) kk9_1] (fun v => .tuple #[v, .bool v10_2.2]) func14 (fun W S => C.i_PartsOfCompound W hv10_2 ((s_own 6).out W S) ((s_own 7).out W S)) fun A10_2 k10_2 => ?_)
  refine p 5 ?_
  refine rend ?_
  refine c_seq ?_
  refine r_start ?_
  refine p 2 ?_
  obtain ⟨v11_2, hv11_2, h⟩ := H.call h
  refine xx rfl (e_cr [.slice A9_1 (List.length v9_1.1) k9_1, .slice AA9_1 (List.length v9_1.2) kk9_1] (fun v => .tuple #[v, .bool v11_2.2]) func15 (fun W S => C.s_PartsOfCompound W hv11_2 ((s_own 6).out W S) ((s_own 7).out W S)) fun A11_2 k11_2 => ?_)
  refine p 5 ?_
  refine rend ?_
  refine c_seq ?_
  refine r_start ?_
  refine p 1 ?_
  obtain ⟨v12_1, hv12_1, h⟩ := H.call h
  refine xx rfl (e_cr [.slice A1 (List.length a1) k1] (fun v => v) func16 (fun W S => C.s_DrawIsReduced W hv12_1 ((s_arg h1).out W S)) fun A12_1 k12_1 => ?_)
  refine p 1 ?_
  refine rend ?_
  refine frg (fun u => (jk u 0 5 (.slice A3_1 (List.length v3_1) k3_1 :: .slice A4_1 (List.length v4_1.1) k4_1 :: .bool v4_1.2 :: .slice A5_1 (List.length v5_1.1) k5_1 :: .bool v5_1.2 :: .pointer (some ⟨g6_2, 0, none⟩) :: .pointer (some ⟨g7_5, 0, none⟩) :: .bool v7_1.2 :: .pointer (some ⟨g8_5, 0, none⟩) :: .bool v8_1.2 :: .slice A9_1 (List.length v9_1.1) k9_1 :: .slice AA9_1 (List.length v9_1.2) kk9_1 :: .slice A10_2 (List.length v10_2.1) k10_2 :: .bool v10_2.2 :: .slice A11_2 (List.length v11_2.1) k11_2 :: .bool v11_2.2 :: .slice A12_1 (List.length v12_1) k12_1 :: (jk u 22 203 [])))) (by kernel_rfl) fun u => ?_
  refine keep 11 (its' := [rowT nSign w.heap.size 38 (.slice A3_1 (List.length v3_1) k3_1) v3_1, rowT nSign w.heap.size 38 (.slice A4_1 (List.length v4_1.1) k4_1) v4_1.1, rowT nSign w.heap.size 38 (.slice A5_1 (List.length v5_1.1) k5_1) v5_1.1, box g6_2 38 (eSign v6_1), box g7_5 38 (eSign v7_1.1), box g8_5 38 (eSign v8_1.1), rowT nSign w.heap.size 38 (.slice A9_1 (List.length v9_1.1) k9_1) v9_1.1, rowT nSign w.heap.size 38 (.slice AA9_1 (List.length v9_1.2) kk9_1) v9_1.2, rowT (eI .i64) w.heap.size 3 (.slice A10_2 (List.length v10_2.1) k10_2) v10_2.1, rowT (eI .i64) w.heap.size 3 (.slice A11_2 (List.length v11_2.1) k11_2) v11_2.1, rowT nSign w.heap.size 38 (.slice A12_1 (List.length v12_1) k12_1) v12_1]) (by kernel_rfl) ?_
  refine c_seq ?_
  refine r_start ?_
  refine p 1 ?_
  obtain ⟨v13_1, hv13_1, h⟩ := H.call h
  refine xq rfl (y_call [.slice A12_1 (List.length v12_1) k12_1] (.tuple #[.bool v13_1.1, .bool v13_1.2]) func17 (fun W S => C.i_IsReduced W hv13_1 ((s_own 10).out W S))) ?_
  refine p 5 ?_
  refine rend ?_
  refine c_seq ?_
  refine r_start ?_
  refine p 1 ?_
  obtain ⟨v14_1, hv14_1, h⟩ := H.call h
  refine xq rfl (y_call [.slice A12_1 (List.length v12_1) k12_1] (.tuple #[.bool v14_1.1, .bool v14_1.2]) func18 (fun W S => C.s_IsReduced W hv14_1 ((s_own 10).out W S))) ?_
  refine p 5 ?_
  refine rend ?_
  refine c_seq ?_
  refine c_seq ?_
  refine joinT (X := Bool) (H.bnd h) (fun (x : Bool) => x) (fun b2 => [rowT nSign w.heap.size 38 (.slice A3_1 (List.length v3_1) k3_1) v3_1, rowT nSign w.heap.size 38 (.slice A4_1 (List.length v4_1.1) k4_1) v4_1.1, rowT nSign w.heap.size 38 (.slice A5_1 (List.length v5_1.1) k5_1) v5_1.1, box g6_2 38 (eSign v6_1), box g7_5 38 (eSign v7_1.1), box g8_5 38 (eSign v8_1.1), rowT nSign w.heap.size 38 (.slice A9_1 (List.length v9_1.1) k9_1) v9_1.1, rowT nSign w.heap.size 38 (.slice AA9_1 (List.length v9_1.2) kk9_1) v9_1.2, rowT (eI .i64) w.heap.size 3 (.slice A10_2 (List.length v10_2.1) k10_2) v10_2.1, rowT (eI .i64) w.heap.size 3 (.slice A11_2 (List.length v11_2.1) k11_2) v11_2.1, rowT nSign w.heap.size 38 (.slice A12_1 (List.length v12_1) k12_1) v12_1]) (fun b2 u => (jk u 0 5 (.slice A3_1 (List.length v3_1) k3_1 :: .slice A4_1 (List.length v4_1.1) k4_1 :: .bool v4_1.2 :: .slice A5_1 (List.length v5_1.1) k5_1 :: (jk u 9 2 (.pointer (some ⟨g7_5, 0, none⟩) :: .bool v7_1.2 :: .pointer (some ⟨g8_5, 0, none⟩) :: (jk u 14 1 (.slice A9_1 (List.length v9_1.1) k9_1 :: .slice AA9_1 (List.length v9_1.2) kk9_1 :: (jk u 17 1 (.bool v10_2.2 :: .slice A11_2 (List.length v11_2.1) k11_2 :: (jk u 20 119 (.bool b2 :: (jk u 140 85 [])))))))))))) (fun h hj3 => ?_) ?_
  · skip
    refine r_start ?_
    refine p 4 ?_
    refine br (!(v4_1.2 == v5_1.2)) (fun q4 => ?_) (fun q4 => ?_)
    · replace h := H.t q4 h
      refine o_set 97 (congrArg Value.bool q4) ?_
      refine p 42 ?_
      refine rend ?_
      replace h := H.done h
      exact hj3 true _ _ h (by kernel_rfl) (by kernel_rfl)
    replace h := H.f q4 h
    refine o_set 97 (congrArg Value.bool q4) ?_
    refine p 2 ?_
    obtain ⟨v15_6, hv15_6, h⟩ := H.call h
    refine xq rfl (y_call [.slice A4_1 (List.length v4_1.1) k4_1, .slice A5_1 (List.length v5_1.1) k5_1] (.bool v15_6) func19 (fun W S => C.l_qSigns W hv15_6 ((s_own 1).out W S) ((s_own 2).out W S))) ?_
    refine p 3 ?_
    refine br (!v15_6) (fun q5 => ?_) (fun q5 => ?_)
    · replace h := H.t q5 h
      refine o_set 103 (congrArg Value.bool q5) ?_
      refine p 36 ?_
      refine rend ?_
      replace h := H.done h
      exact hj3 true _ _ h (by kernel_rfl) (by kernel_rfl)
    replace h := H.f q5 h
    refine o_set 103 (congrArg Value.bool q5) ?_
    refine p 5 ?_
    refine br (!(v7_1.2 == v8_1.2)) (fun q6 => ?_) (fun q6 => ?_)
    · replace h := H.t q6 h
      refine o_set 108 (congrArg Value.bool q6) ?_
      refine p 31 ?_
      refine rend ?_
      replace h := H.done h
      exact hj3 true _ _ h (by kernel_rfl) (by kernel_rfl)
    replace h := H.f q6 h
    refine o_set 108 (congrArg Value.bool q6) ?_
    refine xq rfl (y_load (.agg (eSign v7_1.1).toArray) 4 g7_5 0) ?_
    refine xq rfl (y_load (.agg (eSign v8_1.1).toArray) 5 g8_5 0) ?_
    refine p 3 ?_
    refine br (!qSign v7_1.1 v8_1.1) (fun q7 => ?_) (fun q7 => ?_)
    · replace h := H.t q7 h
      refine o_set 113 (congrArg Value.bool q7) ?_
      refine p 26 ?_
      refine rend ?_
      replace h := H.done h
      exact hj3 true _ _ h (by kernel_rfl) (by kernel_rfl)
    replace h := H.f q7 h
    refine o_set 113 (congrArg Value.bool q7) ?_
    refine p 5 ?_
    refine br (!(v10_2.2 == v11_2.2)) (fun q8 => ?_) (fun q8 => ?_)
    · replace h := H.t q8 h
      refine o_set 118 (congrArg Value.bool q8) ?_
      refine p 21 ?_
      refine rend ?_
      replace h := H.done h
      exact hj3 true _ _ h (by kernel_rfl) (by kernel_rfl)
    replace h := H.f q8 h
    refine o_set 118 (congrArg Value.bool q8) ?_
    refine p 2 ?_
    obtain ⟨v15_27, hv15_27, h⟩ := H.call h
    refine xq rfl (y_call [.slice A10_2 (List.length v10_2.1) k10_2, .slice A11_2 (List.length v11_2.1) k11_2] (.bool v15_27) func20 (fun W S => C.l_qInts W hv15_27 ((s_own 8).out W S) ((s_own 9).out W S))) ?_
    refine p 3 ?_
    refine br (!v15_27) (fun q9 => ?_) (fun q9 => ?_)
    · replace h := H.t q9 h
      refine o_set 124 (congrArg Value.bool q9) ?_
      refine p 15 ?_
      refine rend ?_
      replace h := H.done h
      exact hj3 true _ _ h (by kernel_rfl) (by kernel_rfl)
    replace h := H.f q9 h
    refine o_set 124 (congrArg Value.bool q9) ?_
    refine p 5 ?_
    refine br (!(v13_1.2 == v14_1.2)) (fun q10 => ?_) (fun q10 => ?_)
    · replace h := H.t q10 h
      refine o_set 129 (congrArg Value.bool q10) ?_
      refine p 10 ?_
      refine rend ?_
      replace h := H.done h
      exact hj3 true _ _ h (by kernel_rfl) (by kernel_rfl)
    replace h := H.f q10 h
    refine o_set 129 (congrArg Value.bool q10) ?_
    refine p 5 ?_
    refine br (!(v13_1.1 == v14_1.1)) (fun q11 => ?_) (fun q11 => ?_)
    · replace h := H.t q11 h
      refine o_set 134 (congrArg Value.bool q11) ?_
      refine p 5 ?_
      refine rend ?_
      replace h := H.done h
      exact hj3 true _ _ h (by kernel_rfl) (by kernel_rfl)
    replace h := H.f q11 h
    refine o_set 134 (congrArg Value.bool q11) ?_
    refine p 1 ?_
    refine xq rfl (y_load (.agg (eSign v6_1).toArray) 3 g6_2 0) ?_
    obtain ⟨v15_43, hv15_43, h⟩ := H.call h
    refine xq rfl (y_call [.agg (eSign v6_1).toArray] (.bool v15_43) func21 (fun W S => C.i_IsSign W hv15_43)) ?_
    refine p 2 ?_
    refine rend ?_
    replace h := H.done h
    exact hj3 (!(v7_1.2 == v15_43)) _ _ h (by kernel_rfl) (by kernel_rfl)
  intro b2 u h
  refine c_or b2 (fun q12 => ?_) (fun q12 => ?_)
  · replace h := H.t q12 h
    refine c_seq ?_
    refine r_start ?_
    refine p 1 ?_
    refine rend ?_
    replace h := H.done h
    subst h
    exact ret func3 rfl (vs := [.bool false]) (.tmp (by kernel_rfl) .nil) rfl (fun W S => ⟨rfl, S.below⟩)
  replace h := H.f q12 h
  refine c_skip ?_
  refine c_seq ?_
  refine c_seq ?_
  refine r_start ?_
  refine p 1 ?_
  refine rend ?_
  refine joinTE (X := Unit) (H.or h) (fun (x : Unit) => x) (fun _ => [rowT nSign w.heap.size 38 (.slice A3_1 (List.length v3_1) k3_1) v3_1, rowT nSign w.heap.size 38 (.slice A4_1 (List.length v4_1.1) k4_1) v4_1.1, rowT nSign w.heap.size 38 (.slice A5_1 (List.length v5_1.1) k5_1) v5_1.1, box g6_2 38 (eSign v6_1), box g7_5 38 (eSign v7_1.1), box g8_5 38 (eSign v8_1.1), rowT nSign w.heap.size 38 (.slice A9_1 (List.length v9_1.1) k9_1) v9_1.1, rowT nSign w.heap.size 38 (.slice AA9_1 (List.length v9_1.2) kk9_1) v9_1.2, rowT (eI .i64) w.heap.size 3 (.slice A10_2 (List.length v10_2.1) k10_2) v10_2.1, rowT (eI .i64) w.heap.size 3 (.slice A11_2 (List.length v11_2.1) k11_2) v11_2.1, rowT nSign w.heap.size 38 (.slice A12_1 (List.length v12_1) k12_1) v12_1]) (fun _ u => (jk u 0 11 (.pointer (some ⟨g7_5, 0, none⟩) :: .bool v7_1.2 :: .pointer (some ⟨g8_5, 0, none⟩) :: (jk u 14 1 (.slice A9_1 (List.length v9_1.1) k9_1 :: .slice AA9_1 (List.length v9_1.2) kk9_1 :: (jk u 17 1 (.bool v10_2.2 :: .slice A11_2 (List.length v11_2.1) k11_2 :: (jk u 20 205 [])))))))) (fun h hj13 => ?_) ?_
  · skip
    refine c_or v4_1.2 (fun q14 => ?_) (fun q14 => ?_)
    · replace h := H.t q14 h
      refine c_seq ?_
      refine r_start ?_
      refine p 1 ?_
      obtain ⟨v18_1, hv18_1, h⟩ := H.call h
      refine xq rfl (y_call [.slice A4_1 (List.length v4_1.1) k4_1] (.tuple #[.bool v18_1.1, .bool v18_1.2]) func17 (fun W S => C.i_IsReduced W hv18_1 ((s_own 1).out W S))) ?_
      refine p 5 ?_
      refine rend ?_
      refine c_seq ?_
      refine as_start 28 28 ?_
      refine ap 0 3 ?_
      refine br (!v18_1.2) (fun q15 => ?_) (fun q15 => ?_)
      · replace h := H.t q15 h
        refine a_set 148 (congrArg Value.bool q15) ?_
        refine ap 3 25 ?_
        refine a_done ?_
        refine c_t (by kernel_rfl) ?_
        refine c_seq ?_
        refine r_start ?_
        refine p 1 ?_
        refine rend ?_
        replace h := H.inl h
        replace h := H.done h
        subst h
        exact ret func3 rfl (vs := [.bool false]) (.tmp (by kernel_rfl) .nil) rfl (fun W S => ⟨rfl, S.below⟩)
      replace h := H.f q15 h
      refine a_set 148 (congrArg Value.bool q15) ?_
      refine ap 3 4 ?_
      refine br (!v18_1.1) (fun q16 => ?_) (fun q16 => ?_)
      · replace h := H.t q16 h
        refine a_set 152 (congrArg Value.bool q16) ?_
        refine ap 7 21 ?_
        refine a_done ?_
        refine c_t (by kernel_rfl) ?_
        refine c_seq ?_
        refine r_start ?_
        refine p 1 ?_
        refine rend ?_
        replace h := H.inl h
        replace h := H.done h
        subst h
        exact ret func3 rfl (vs := [.bool false]) (.tmp (by kernel_rfl) .nil) rfl (fun W S => ⟨rfl, S.below⟩)
      replace h := H.f q16 h
      refine a_set 152 (congrArg Value.bool q16) ?_
      refine ap 7 7 ?_
      refine br ((List.length v5_1.1 : Int) != (List.length v3_1 : Int)) (fun q17 => ?_) (fun q17 => ?_)
      · replace h := H.t q17 h
        refine a_set 159 (congrArg Value.bool q17) ?_
        refine ap 14 14 ?_
        refine a_done ?_
        refine c_t (by kernel_rfl) ?_
        refine c_seq ?_
        refine r_start ?_
        refine p 1 ?_
        refine rend ?_
        replace h := H.inl h
        replace h := H.done h
        subst h
        exact ret func3 rfl (vs := [.bool false]) (.tmp (by kernel_rfl) .nil) rfl (fun W S => ⟨rfl, S.below⟩)
      replace h := H.f q17 h
      refine a_set 159 (congrArg Value.bool q17) ?_
      refine ap 14 4 ?_
      obtain ⟨y19_18, hy19_18, h⟩ := H.call h
      refine aq 18 rfl (y_idx (e := nSign) (el := 38) hy19_18 (s_own 2)) ?_
      refine aq 19 rfl (y_el (e := nSign) 0 (.agg (eSign y19_18).toArray) hy19_18 (s_own 2)) ?_
      refine ap 20 4 ?_
      obtain ⟨y19_24, hy19_24, h⟩ := H.call h
      refine aq 24 rfl (y_idx (e := nSign) (el := 38) hy19_24 (s_own 0)) ?_
      refine aq 25 rfl (y_el (e := nSign) 0 (.agg (eSign y19_24).toArray) hy19_24 (s_own 0)) ?_
      refine ap 26 2 ?_
      refine a_done ?_
      refine c_or (!qSign y19_18 y19_24) (fun q18 => ?_) (fun q18 => ?_)
      · replace h := H.t q18 h
        refine c_seq ?_
        refine r_start ?_
        refine p 1 ?_
        refine rend ?_
        replace h := H.inl h
        replace h := H.done h
        subst h
        exact ret func3 rfl (vs := [.bool false]) (.tmp (by kernel_rfl) .nil) rfl (fun W S => ⟨rfl, S.below⟩)
      replace h := H.f q18 h
      refine c_skip ?_
      replace h := H.inr h
      exact hj13 () _ _ h (by kernel_rfl) (by kernel_rfl)
    replace h := H.f q14 h
    refine c_skip ?_
    replace h := H.inr h
    exact hj13 () _ _ h (by kernel_rfl) (by kernel_rfl)
  intro x u h
  refine c_seq ?_
  refine c_seq ?_
  refine r_start ?_
  refine p 1 ?_
  refine rend ?_
  refine joinTE (X := Unit) (H.or h) (fun (x : Unit) => x) (fun _ => [rowT nSign w.heap.size 38 (.slice A3_1 (List.length v3_1) k3_1) v3_1, rowT nSign w.heap.size 38 (.slice A4_1 (List.length v4_1.1) k4_1) v4_1.1, rowT nSign w.heap.size 38 (.slice A5_1 (List.length v5_1.1) k5_1) v5_1.1, box g6_2 38 (eSign v6_1), box g7_5 38 (eSign v7_1.1), box g8_5 38 (eSign v8_1.1), rowT nSign w.heap.size 38 (.slice A9_1 (List.length v9_1.1) k9_1) v9_1.1, rowT nSign w.heap.size 38 (.slice AA9_1 (List.length v9_1.2) kk9_1) v9_1.2, rowT (eI .i64) w.heap.size 3 (.slice A10_2 (List.length v10_2.1) k10_2) v10_2.1, rowT (eI .i64) w.heap.size 3 (.slice A11_2 (List.length v11_2.1) k11_2) v11_2.1, rowT nSign w.heap.size 38 (.slice A12_1 (List.length v12_1) k12_1) v12_1]) (fun _ u => (jk u 0 15 (.slice A9_1 (List.length v9_1.1) k9_1 :: .slice AA9_1 (List.length v9_1.2) kk9_1 :: (jk u 17 1 (.bool v10_2.2 :: .slice A11_2 (List.length v11_2.1) k11_2 :: (jk u 20 205 [])))))) (fun h hj19 => ?_) ?_
  · skip
    refine c_or v7_1.2 (fun q20 => ?_) (fun q20 => ?_)
    · replace h := H.t q20 h
      refine c_seq ?_
      refine r_start ?_
      refine xq rfl (y_load (.agg (eSign v7_1.1).toArray) 4 g7_5 0) ?_
      obtain ⟨v22_1, hv22_1, h⟩ := H.call h
      refine xq rfl (y_call [.agg (eSign v7_1.1).toArray] (.tuple #[.agg (eSign v22_1.1).toArray, .bool v22_1.2]) func11 (fun W S => C.i_ReduceSign W hv22_1)) ?_
      refine p 3 ?_
      refine xx rfl (x_new (eSign zSign) fun g22_5 => ?_)
      refine xx rfl (x_sto 11 g22_5 0 (eSign v22_1.1) ?_)
      refine p 1 ?_
      refine rend ?_
      refine c_seq ?_
      refine joinT (X := Bool) (H.bnd h) (fun (x : Bool) => x) (fun b21 => [rowT nSign w.heap.size 38 (.slice A3_1 (List.length v3_1) k3_1) v3_1, rowT nSign w.heap.size 38 (.slice A4_1 (List.length v4_1.1) k4_1) v4_1.1, rowT nSign w.heap.size 38 (.slice A5_1 (List.length v5_1.1) k5_1) v5_1.1, box g6_2 38 (eSign v6_1), box g7_5 38 (eSign v7_1.1), box g8_5 38 (eSign v8_1.1), rowT nSign w.heap.size 38 (.slice A9_1 (List.length v9_1.1) k9_1) v9_1.1, rowT nSign w.heap.size 38 (.slice AA9_1 (List.length v9_1.2) kk9_1) v9_1.2, rowT (eI .i64) w.heap.size 3 (.slice A10_2 (List.length v10_2.1) k10_2) v10_2.1, rowT (eI .i64) w.heap.size 3 (.slice A11_2 (List.length v11_2.1) k11_2) v11_2.1, rowT nSign w.heap.size 38 (.slice A12_1 (List.length v12_1) k12_1) v12_1, box g22_5 38 (eSign v22_1.1)]) (fun b21 u => (jk u 0 15 (.slice A9_1 (List.length v9_1.1) k9_1 :: .slice AA9_1 (List.length v9_1.2) kk9_1 :: (jk u 17 1 (.bool v10_2.2 :: .slice A11_2 (List.length v11_2.1) k11_2 :: (jk u 20 178 (.bool b21 :: (jk u 199 26 [])))))))) (fun h hj22 => ?_) ?_
      · skip
        refine r_start ?_
        refine p 3 ?_
        refine br (!v22_1.2) (fun q23 => ?_) (fun q23 => ?_)
        · replace h := H.t q23 h
          refine o_set 182 (congrArg Value.bool q23) ?_
          refine p 16 ?_
          refine rend ?_
          replace h := H.done h
          exact hj22 true _ _ h (by kernel_rfl) (by kernel_rfl)
        replace h := H.f q23 h
        refine o_set 182 (congrArg Value.bool q23) ?_
        refine xq rfl (y_load (.agg (eSign v22_1.1).toArray) 11 g22_5 0) ?_
        refine xq rfl (y_load (.agg (eSign v8_1.1).toArray) 5 g8_5 0) ?_
        refine p 3 ?_
        refine br (!qSign v22_1.1 v8_1.1) (fun q24 => ?_) (fun q24 => ?_)
        · replace h := H.t q24 h
          refine o_set 187 (congrArg Value.bool q24) ?_
          refine p 11 ?_
          refine rend ?_
          replace h := H.done h
          exact hj22 true _ _ h (by kernel_rfl) (by kernel_rfl)
        replace h := H.f q24 h
        refine o_set 187 (congrArg Value.bool q24) ?_
        refine xq rfl (y_load (.agg (eSign v7_1.1).toArray) 4 g7_5 0) ?_
        obtain ⟨v23_9, hv23_9, h⟩ := H.call h
        refine xq rfl (y_call [.agg (eSign v7_1.1).toArray] (.bool v23_9) func21 (fun W S => C.i_IsSign W hv23_9)) ?_
        refine p 3 ?_
        refine br (!v23_9) (fun q25 => ?_) (fun q25 => ?_)
        · replace h := H.t q25 h
          refine o_set 192 (congrArg Value.bool q25) ?_
          refine p 6 ?_
          refine rend ?_
          replace h := H.done h
          exact hj22 true _ _ h (by kernel_rfl) (by kernel_rfl)
        replace h := H.f q25 h
        refine o_set 192 (congrArg Value.bool q25) ?_
        refine p 3 ?_
        refine xq rfl (y_load (.int .i64 v8_1.1.Main.Move.Repeat) 5 g8_5 12) ?_
        refine p 2 ?_
        refine rend ?_
        replace h := H.done h
        exact hj22 (v8_1.1.Main.Move.Repeat != 1) _ _ h (by kernel_rfl) (by kernel_rfl)
      intro b21 u h
      refine c_or b21 (fun q26 => ?_) (fun q26 => ?_)
      · replace h := H.t q26 h
        refine c_seq ?_
        refine r_start ?_
        refine p 1 ?_
        refine rend ?_
        replace h := H.inl h
        replace h := H.done h
        subst h
        exact ret func3 rfl (vs := [.bool false]) (.tmp (by kernel_rfl) .nil) rfl (fun W S => ⟨rfl, S.below⟩)
      replace h := H.f q26 h
      refine c_skip ?_
      replace h := H.inr h
      exact hj19 () _ _ h (by kernel_rfl) (by kernel_rfl)
    replace h := H.f q20 h
    refine c_skip ?_
    replace h := H.inr h
    exact hj19 () _ _ h (by kernel_rfl) (by kernel_rfl)
  intro x u h
  refine c_seq ?_
  refine c_seq ?_
  refine r_start ?_
  refine p 1 ?_
  refine rend ?_
  refine c_or v10_2.2 (fun q27 => ?_) (fun q27 => ?_)
  · replace h := H.t q27 h
    refine c_seq ?_
    refine r_start ?_
    refine p 1 ?_
    refine rend ?_
    refine c_seq ?_
    refine c_seq ?_
    refine r_start ?_
    refine p 3 ?_
    refine rend ?_
    refine c_block ?_
    refine c_nil nSign 38 ?_
    refine joinH (X := ((List Sign) × Option Addr × Nat)) 0 (H.bnd h) (fun ⟨l31, A32, k33⟩ => l31) (fun ⟨l31, A32, k33⟩ => [rowT nSign w.heap.size 38 (.slice A3_1 (List.length v3_1) k3_1) v3_1, rowT nSign w.heap.size 38 (.slice A4_1 (List.length v4_1.1) k4_1) v4_1.1, rowT nSign w.heap.size 38 (.slice A5_1 (List.length v5_1.1) k5_1) v5_1.1, box g6_2 38 (eSign v6_1), box g7_5 38 (eSign v7_1.1), box g8_5 38 (eSign v8_1.1), rowT nSign w.heap.size 38 (.slice A9_1 (List.length v9_1.1) k9_1) v9_1.1, rowT nSign w.heap.size 38 (.slice AA9_1 (List.length v9_1.2) kk9_1) v9_1.2, rowT (eI .i64) w.heap.size 3 (.slice A10_2 (List.length v10_2.1) k10_2) v10_2.1, rowT (eI .i64) w.heap.size 3 (.slice A11_2 (List.length v11_2.1) k11_2) v11_2.1, rowT nSign w.heap.size 38 (.slice A12_1 (List.length v12_1) k12_1) v12_1, rowT nSign w.heap.size 38 (.slice A32 (List.length l31) k33) l31]) (fun ⟨l31, A32, k33⟩ u => (jk u 0 16 (.slice AA9_1 (List.length v9_1.2) kk9_1 :: (jk u 17 13 (.slice A32 (List.length l31) k33 :: (jk u 31 194 [])))))) (fun h hj34 => ?_) ?_
    · skip
      refine rangeR (X := ((List Sign) × Option Addr × Nat)) (s_own 9) (fun ⟨l28, A29, k30⟩ => l28) (fun ⟨l28, A29, k30⟩ => [rowT nSign w.heap.size 38 (.slice A3_1 (List.length v3_1) k3_1) v3_1, rowT nSign w.heap.size 38 (.slice A4_1 (List.length v4_1.1) k4_1) v4_1.1, rowT nSign w.heap.size 38 (.slice A5_1 (List.length v5_1.1) k5_1) v5_1.1, box g6_2 38 (eSign v6_1), box g7_5 38 (eSign v7_1.1), box g8_5 38 (eSign v8_1.1), rowT nSign w.heap.size 38 (.slice A9_1 (List.length v9_1.1) k9_1) v9_1.1, rowT nSign w.heap.size 38 (.slice AA9_1 (List.length v9_1.2) kk9_1) v9_1.2, rowT (eI .i64) w.heap.size 3 (.slice A10_2 (List.length v10_2.1) k10_2) v10_2.1, rowT (eI .i64) w.heap.size 3 (.slice A11_2 (List.length v11_2.1) k11_2) v11_2.1, rowT nSign w.heap.size 38 (.slice A12_1 (List.length v12_1) k12_1) v12_1, rowT nSign w.heap.size 38 (.slice A29 (List.length l28) k30) l28]) (fun (j35 : Nat) ⟨l28, A29, k30⟩ u => (jk u 0 15 (.slice A9_1 (List.length v9_1.1) k9_1 :: .slice AA9_1 (List.length v9_1.2) kk9_1 :: (jk u 17 13 (.slice A29 (List.length l28) k30 :: (jk u 31 169 (.slice A11_2 (List.length v11_2.1) k11_2 :: .int .i64 (List.length v11_2.1 : Int) :: .int .i64 (j35 : Int) :: (jk u 203 22 [])))))))) (([] : List Sign), none, 0) h (by kernel_rfl) (by kernel_rfl) ?_ ?_
      · intro j35 x u x36 q37 hg38 hw39 h
        obtain ⟨l28, A29, k30⟩ := x
        refine c_seq ?_
        refine r_start ?_
        refine p 1 ?_
        refine rend ?_
        refine frg (fun u => (jk u 0 15 (.slice A9_1 (List.length v9_1.1) k9_1 :: .slice AA9_1 (List.length v9_1.2) kk9_1 :: (jk u 17 13 (.slice A29 (List.length l28) k30 :: (jk u 31 169 (.slice A11_2 (List.length v11_2.1) k11_2 :: .int .i64 (List.length v11_2.1 : Int) :: .int .i64 (j35 : Int) :: .bool (decide ((j35 : Int) < (List.length v11_2.1 : Int))) :: (jk u 204 21 [])))))))) (by kernel_rfl) fun u => ?_
        refine keep 12 (its' := [rowT nSign w.heap.size 38 (.slice A3_1 (List.length v3_1) k3_1) v3_1, rowT nSign w.heap.size 38 (.slice A4_1 (List.length v4_1.1) k4_1) v4_1.1, rowT nSign w.heap.size 38 (.slice A5_1 (List.length v5_1.1) k5_1) v5_1.1, box g6_2 38 (eSign v6_1), box g7_5 38 (eSign v7_1.1), box g8_5 38 (eSign v8_1.1), rowT nSign w.heap.size 38 (.slice A9_1 (List.length v9_1.1) k9_1) v9_1.1, rowT nSign w.heap.size 38 (.slice AA9_1 (List.length v9_1.2) kk9_1) v9_1.2, rowT (eI .i64) w.heap.size 3 (.slice A10_2 (List.length v10_2.1) k10_2) v10_2.1, rowT (eI .i64) w.heap.size 3 (.slice A11_2 (List.length v11_2.1) k11_2) v11_2.1, rowT nSign w.heap.size 38 (.slice A12_1 (List.length v12_1) k12_1) v12_1, rowT nSign w.heap.size 38 (.slice A29 (List.length l28) k30) l28]) (by kernel_rfl) ?_
        refine c_seq ?_
        refine c_yes q37 ?_
        refine c_skip ?_
        refine c_seq ?_
        refine c_block ?_
        refine c_seq ?_
        refine r_start ?_
        refine xq rfl (y_idx (e := (eI .i64)) (el := 3) hg38 (s_own 9)) ?_
        refine xq rfl (y_el (e := (eI .i64)) 0 (.int .i64 x36) hg38 (s_own 9)) ?_
        refine p 1 ?_
        refine rend ?_
        refine r_start ?_
        refine p 3 ?_
        obtain ⟨y30_3, hy30_3, h⟩ := H.call h
        refine xq rfl (y_idx (e := nSign) (el := 38) hy30_3 (s_own 6)) ?_
        refine xq rfl (y_el (e := nSign) 0 (.agg (eSign y30_3).toArray) hy30_3 (s_own 6)) ?_
        refine xx rfl (e_lit (e := nSign) (el := 38) [.agg (eSign y30_3).toArray] ([y30_3] : List Sign) fun A30_5 k30_5 => ?_)
        obtain ⟨y30_6, hy30_6, h⟩ := H.call h
        refine xx rfl (e_app 11 hy30_6 (s_own 12) fun A30_6 k30_6 => ?_)
        refine p 1 ?_
        refine rend ?_
        refine c_inb ?_
        refine r_start ?_
        refine p 2 ?_
        refine rend ?_
        refine c_set 202 (ci hw39) ?_
        replace h := H.inl h
        exact h (y30_6, A30_6, k30_6) _ _ rfl (by kernel_rfl) (by kernel_rfl)
      · intro x u q37 h
        obtain ⟨l28, A29, k30⟩ := x
        refine c_seq ?_
        refine r_start ?_
        refine p 1 ?_
        refine rend ?_
        refine frg (fun u => (jk u 0 15 (.slice A9_1 (List.length v9_1.1) k9_1 :: .slice AA9_1 (List.length v9_1.2) kk9_1 :: (jk u 17 13 (.slice A29 (List.length l28) k30 :: (jk u 31 169 (.slice A11_2 (List.length v11_2.1) k11_2 :: .int .i64 (List.length v11_2.1 : Int) :: .int .i64 (List.length v11_2.1 : Int) :: .bool (decide ((List.length v11_2.1 : Int) < (List.length v11_2.1 : Int))) :: (jk u 204 21 [])))))))) (by kernel_rfl) fun u => ?_
        refine keep 12 (its' := [rowT nSign w.heap.size 38 (.slice A3_1 (List.length v3_1) k3_1) v3_1, rowT nSign w.heap.size 38 (.slice A4_1 (List.length v4_1.1) k4_1) v4_1.1, rowT nSign w.heap.size 38 (.slice A5_1 (List.length v5_1.1) k5_1) v5_1.1, box g6_2 38 (eSign v6_1), box g7_5 38 (eSign v7_1.1), box g8_5 38 (eSign v8_1.1), rowT nSign w.heap.size 38 (.slice A9_1 (List.length v9_1.1) k9_1) v9_1.1, rowT nSign w.heap.size 38 (.slice AA9_1 (List.length v9_1.2) kk9_1) v9_1.2, rowT (eI .i64) w.heap.size 3 (.slice A10_2 (List.length v10_2.1) k10_2) v10_2.1, rowT (eI .i64) w.heap.size 3 (.slice A11_2 (List.length v11_2.1) k11_2) v11_2.1, rowT nSign w.heap.size 38 (.slice A12_1 (List.length v12_1) k12_1) v12_1, rowT nSign w.heap.size 38 (.slice A29 (List.length l28) k30) l28]) (by kernel_rfl) ?_
        refine c_seq ?_
        refine c_no q37 ?_
        refine cx ?_
        replace h := H.done h
        exact hj34 (l28, A29, k30) _ _ h (by kernel_rfl) (by kernel_rfl)
    intro x u h
    obtain ⟨l31, A32, k33⟩ := x
    refine c_seq ?_
    refine r_start ?_
    refine p 1 ?_
    obtain ⟨v32_1, hv32_1, h⟩ := H.call h
    refine xx rfl (e_cr [.slice A32 (List.length l31) k33] (fun v => .tuple #[v, .bool v32_1.2]) func8 (fun W S => C.i_CompoundOf W hv32_1 ((s_own 11).out W S)) fun A32_1 k32_1 => ?_)
    refine p 5 ?_
    refine rend ?_
    refine c_seq ?_
    refine r_start ?_
    refine p 2 ?_
    refine br v32_1.2 (fun q40 => ?_) (fun q40 => ?_)
    · replace h := H.t q40 h
      refine o_set 220 (congrArg Value.bool q40) ?_
      refine p 2 ?_
      obtain ⟨v33_4, hv33_4, h⟩ := H.call h
      refine xq rfl (y_call [.slice A32_1 (List.length v32_1.1) k32_1, .slice AA9_1 (List.length v9_1.2) kk9_1] (.bool v33_4) func19 (fun W S => C.l_qSigns W hv33_4 ((s_own 12).out W S) ((s_own 7).out W S))) ?_
      refine p 2 ?_
      refine rend ?_
      replace h := H.done h
      subst h
      exact ret func3 rfl (vs := [.bool v33_4]) (.tmp (by kernel_rfl) .nil) rfl (fun W S => ⟨rfl, S.below⟩)
    replace h := H.f q40 h
    refine o_set 220 (congrArg Value.bool q40) ?_
    refine p 5 ?_
    refine rend ?_
    replace h := H.done h
    subst h
    exact ret func3 rfl (vs := [.bool false]) (.tmp (by kernel_rfl) .nil) rfl (fun W S => ⟨rfl, S.below⟩)
  replace h := H.f q27 h
  refine c_skip ?_
  refine c_seq ?_
  refine r_start ?_
  refine p 1 ?_
  refine rend ?_
  replace h := H.done h
  subst h
  exact ret func3 rfl (vs := [.bool true]) (.tmp (by kernel_rfl) .nil) rfl (fun W S => ⟨rfl, S.below⟩)
end Go.Proofs.XC
