/- Contracts: each function, called where its plain function gives an answer, returns just that answer and changes nothing that was there. By AI agents; no person has read it. -/
import Derived.Test.YtenkalmmdamfgaaGreatDoorKDConstraints1
set_option linter.unusedVariables false
set_option linter.unusedSimpArgs false
set_option maxRecDepth 100000
set_option maxHeartbeats 40000000
namespace Go.Proofs.XC
open Go Go.RowKit
open Tryz
theorem C.s_ruBroken {fu : Nat} {a0 : Sign} {a1 : (List Constraint)} {A1 : Option Addr} {k1 : Nat} {r : (List Int)} (w : World) (h : X.s_ruBroken fu a0 a1 = some r) (h1 : RdT nConstraint w (.slice A1 (List.length a1) k1) a1) : Calls prog 110 #[.agg (eSign a0).toArray, .slice A1 (List.length a1) k1] w (RetR (eI .i64) 3 w r (fun v => v)) := by
  refine calls (M := no) (args := [.agg (eSign a0).toArray, .slice A1 (List.length a1) k1]) func110 rfl ?_
  replace h : H (X.s_ruBroken fu a0 a1) (fun o => o = r) := H.mk h
  unfold X.s_ruBroken at h
  refine c_seq ?_
  refine r_start ?_
  refine xx rfl (x_box (eSign a0) fun g0_0 => ?_)
  refine p 1 ?_
  refine rend ?_
  refine c_seq ?_
  refine r_start ?_
  refine p 1 ?_
  refine rend ?_
  refine c_seq ?_
  refine c_seq ?_
  refine r_start ?_
  refine p 3 ?_
  refine rend ?_
  refine c_block ?_
  refine c_nil (eI .i64) 3 ?_
  refine joinH (X := ((List Int) × Option Addr × Nat)) 0 (H.bnd h) (fun ⟨l4, A5, k6⟩ => l4) (fun ⟨l4, A5, k6⟩ => [box g0_0 38 (eSign a0), rowT (eI .i64) w.heap.size 3 (.slice A5 (List.length l4) k6) l4]) (fun ⟨l4, A5, k6⟩ u => (jk u 0 5 (.slice A5 (List.length l4) k6 :: (jk u 6 19 [])))) (fun h hj7 => ?_) ?_
  · skip
    refine rangeR (X := ((List Int) × Option Addr × Nat)) (s_arg h1) (fun ⟨l1, A2, k3⟩ => l1) (fun ⟨l1, A2, k3⟩ => [box g0_0 38 (eSign a0), rowT (eI .i64) w.heap.size 3 (.slice A2 (List.length l1) k3) l1]) (fun (j8 : Nat) ⟨l1, A2, k3⟩ u => (jk u 0 2 (.pointer (some ⟨g0_0, 0, none⟩) :: (jk u 3 2 (.slice A2 (List.length l1) k3 :: (jk u 6 2 (.slice A1 (List.length a1) k1 :: .int .i64 (List.length a1 : Int) :: .int .i64 (j8 : Int) :: (jk u 11 14 [])))))))) (([] : List Int), none, 0) h (by kernel_rfl) (by kernel_rfl) ?_ ?_
    · intro j8 x u x9 q10 hg11 hw12 h
      obtain ⟨l1, A2, k3⟩ := x
      refine c_seq ?_
      refine r_start ?_
      refine p 1 ?_
      refine rend ?_
      refine c_seq ?_
      refine c_yes q10 ?_
      refine c_skip ?_
      refine c_seq ?_
      refine c_block ?_
      refine c_seq ?_
      refine r_start ?_
      refine p 1 ?_
      refine xq rfl (y_idx (e := nConstraint) (el := 64) hg11 (s_arg h1)) ?_
      refine xq rfl (y_el (e := nConstraint) 0 (.agg (eConstraint x9).toArray) hg11 (s_arg h1)) ?_
      refine xx rfl (x_new (eConstraint zConstraint) fun g4_3 => ?_)
      refine p 1 ?_
      refine xx rfl (x_sto 2 g4_3 0 (eConstraint x9) ?_)
      refine rend ?_
      refine c_seq ?_
      refine r_start ?_
      refine xq rfl (y_load (.agg (eSign a0).toArray) 0 g0_0 0) ?_
      refine xq rfl (y_load (.agg (eConstraint x9).toArray) 2 g4_3 0) ?_
      obtain ⟨v5_2, hv5_2, h⟩ := H.call h
      refine xq rfl (y_call [.agg (eSign a0).toArray, .agg (eConstraint x9).toArray] (.bool v5_2) func102 (fun W S => C.s_ruKeeps W hv5_2)) ?_
      refine p 1 ?_
      refine rend ?_
      refine c_or (!v5_2) (fun q13 => ?_) (fun q13 => ?_)
      · replace h := H.t q13 h
        refine r_start ?_
        refine p 2 ?_
        refine xx rfl (e_lit (e := (eI .i64)) (el := 3) [.int .i64 (j8 : Int)] ([(j8 : Int)] : List Int) fun A6_2 k6_2 => ?_)
        obtain ⟨y6_3, hy6_3, h⟩ := H.call h
        refine xx rfl (e_app 1 hy6_3 (s_own 3) fun A6_3 k6_3 => ?_)
        refine p 1 ?_
        refine rend ?_
        refine c_inb ?_
        refine r_start ?_
        refine p 2 ?_
        refine rend ?_
        refine c_set 10 (ci hw12) ?_
        replace h := H.inl h
        exact h (y6_3, A6_3, k6_3) _ _ rfl (by kernel_rfl) (by kernel_rfl)
      replace h := H.f q13 h
      refine c_skip ?_
      refine c_inb ?_
      refine r_start ?_
      refine p 2 ?_
      refine rend ?_
      refine c_set 10 (ci hw12) ?_
      replace h := H.inl h
      exact h (l1, A2, k3) _ _ rfl (by kernel_rfl) (by kernel_rfl)
    · intro x u q10 h
      obtain ⟨l1, A2, k3⟩ := x
      refine c_seq ?_
      refine r_start ?_
      refine p 1 ?_
      refine rend ?_
      refine c_seq ?_
      refine c_no q10 ?_
      refine cx ?_
      replace h := H.done h
      exact hj7 (l1, A2, k3) _ _ h (by kernel_rfl) (by kernel_rfl)
  intro x u h
  obtain ⟨l4, A5, k6⟩ := x
  refine c_seq ?_
  refine r_start ?_
  refine p 2 ?_
  refine rend ?_
  replace h := H.done h
  subst h
  exact ret func110 rfl (vs := [.slice A5 (List.length l4) k6]) (.tmp (by kernel_rfl) .nil) rfl (fun W S => ⟨_, _, rfl, S.row 1, S.below⟩)
theorem C.s_LawfulSigns {fu : Nat} {a0 : (List Sign)} {A0 : Option Addr} {k0 : Nat} {a1 : (List Constraint)} {A1 : Option Addr} {k1 : Nat} {r : ((List Int) × Bool)} (w : World) (h : X.s_LawfulSigns fu a0 a1 = some r) (h0 : RdT nSign w (.slice A0 (List.length a0) k0) a0) (h1 : RdT nConstraint w (.slice A1 (List.length a1) k1) a1) : Calls prog 38 #[.slice A0 (List.length a0) k0, .slice A1 (List.length a1) k1] w (RetR (eI .i64) 3 w r.1 (fun v => .tuple #[v, .bool r.2])) := by
  refine calls (M := no) (args := [.slice A0 (List.length a0) k0, .slice A1 (List.length a1) k1]) func38 rfl ?_
  replace h : H (X.s_LawfulSigns fu a0 a1) (fun o => o = r) := H.mk h
  unfold X.s_LawfulSigns at h
  refine c_seq ?_
  refine r_start ?_
  refine p 2 ?_
  refine rend ?_
  refine c_seq ?_
  refine c_seq ?_
  refine r_start ?_
  refine p 1 ?_
  obtain ⟨v1_1, hv1_1, h⟩ := H.call h
  refine xq rfl (y_call [.slice A0 (List.length a0) k0] (.bool v1_1) func83 (fun W S => C.s_paList W hv1_1 ((s_arg h0).out W S))) ?_
  refine p 2 ?_
  refine br (!v1_1) (fun q1 => ?_) (fun q1 => ?_)
  · replace h := H.t q1 h
    refine o_set 12 (congrArg Value.bool q1) ?_
    refine p 4 ?_
    refine rend ?_
    refine c_t (by kernel_rfl) ?_
    refine c_seq ?_
    refine r_start ?_
    refine p 2 ?_
    refine rend ?_
    replace h := H.done h
    subst h
    exact ret func38 rfl (vs := [.slice none 0 0, .bool false]) (.tmp (by kernel_rfl) (.tmp (by kernel_rfl) .nil)) rfl (fun W S => ⟨none, 0, rfl, World.ownsRow_nil _ _ _ _, S.below⟩)
  replace h := H.f q1 h
  refine o_set 12 (congrArg Value.bool q1) ?_
  refine p 1 ?_
  obtain ⟨v1_5, hv1_5, h⟩ := H.call h
  refine xq rfl (y_call [.slice A1 (List.length a1) k1] (.bool v1_5) func100 (fun W S => C.s_ruAll W hv1_5 ((s_arg h1).out W S))) ?_
  refine p 2 ?_
  refine rend ?_
  refine c_or (!v1_5) (fun q2 => ?_) (fun q2 => ?_)
  · replace h := H.t q2 h
    refine c_seq ?_
    refine r_start ?_
    refine p 2 ?_
    refine rend ?_
    replace h := H.done h
    subst h
    exact ret func38 rfl (vs := [.slice none 0 0, .bool false]) (.tmp (by kernel_rfl) (.tmp (by kernel_rfl) .nil)) rfl (fun W S => ⟨none, 0, rfl, World.ownsRow_nil _ _ _ _, S.below⟩)
  replace h := H.f q2 h
  refine c_skip ?_
  refine c_seq ?_
  refine r_start ?_
  refine p 1 ?_
  refine rend ?_
  refine c_seq ?_
  refine c_seq ?_
  refine r_start ?_
  refine p 3 ?_
  refine rend ?_
  refine c_block ?_
  refine c_nil (eI .i64) 3 ?_
  refine joinH (X := ((List Int) × Option Addr × Nat)) 0 (H.bnd h) (fun ⟨l6, A7, k8⟩ => l6) (fun ⟨l6, A7, k8⟩ => [rowT (eI .i64) w.heap.size 3 (.slice A7 (List.length l6) k8) l6]) (fun ⟨l6, A7, k8⟩ u => (jk u 0 6 (.slice A7 (List.length l6) k8 :: (jk u 7 28 [])))) (fun h hj9 => ?_) ?_
  · skip
    refine rangeR (X := ((List Int) × Option Addr × Nat)) (s_arg h0) (fun ⟨l3, A4, k5⟩ => l3) (fun ⟨l3, A4, k5⟩ => [rowT (eI .i64) w.heap.size 3 (.slice A4 (List.length l3) k5) l3]) (fun (j10 : Nat) ⟨l3, A4, k5⟩ u => (jk u 0 1 (.slice A1 (List.length a1) k1 :: (jk u 2 4 (.slice A4 (List.length l3) k5 :: (jk u 7 10 (.slice A0 (List.length a0) k0 :: .int .i64 (List.length a0 : Int) :: .int .i64 (j10 : Int) :: (jk u 20 15 [])))))))) (([] : List Int), none, 0) h (by kernel_rfl) (by kernel_rfl) ?_ ?_
    · intro j10 x u x11 q12 hg13 hw14 h
      obtain ⟨l3, A4, k5⟩ := x
      refine c_seq ?_
      refine r_start ?_
      refine p 1 ?_
      refine rend ?_
      refine c_seq ?_
      refine c_yes q12 ?_
      refine c_skip ?_
      refine c_seq ?_
      refine c_block ?_
      refine c_seq ?_
      refine r_start ?_
      refine p 1 ?_
      refine xq rfl (y_idx (e := nSign) (el := 38) hg13 (s_arg h0)) ?_
      refine xq rfl (y_el (e := nSign) 0 (.agg (eSign x11).toArray) hg13 (s_arg h0)) ?_
      refine xx rfl (x_new (eSign zSign) fun g6_3 => ?_)
      refine p 1 ?_
      refine xx rfl (x_sto 1 g6_3 0 (eSign x11) ?_)
      refine rend ?_
      refine c_seq ?_
      refine r_start ?_
      refine xq rfl (y_load (.agg (eSign x11).toArray) 1 g6_3 0) ?_
      refine p 1 ?_
      obtain ⟨v7_2, hv7_2, h⟩ := H.call h
      refine xx rfl (e_cr [.agg (eSign x11).toArray, .slice A1 (List.length a1) k1] (fun v => v) func110 (fun W S => C.s_ruBroken W hv7_2 ((s_arg h1).out W S)) fun A7_2 k7_2 => ?_)
      refine p 2 ?_
      refine rend ?_
      refine c_or ((List.length v7_2 : Int) == 0) (fun q15 => ?_) (fun q15 => ?_)
      · replace h := H.t q15 h
        refine r_start ?_
        refine p 2 ?_
        refine xx rfl (e_lit (e := (eI .i64)) (el := 3) [.int .i64 (j10 : Int)] ([(j10 : Int)] : List Int) fun A8_2 k8_2 => ?_)
        obtain ⟨y8_3, hy8_3, h⟩ := H.call h
        refine xx rfl (e_app 0 hy8_3 (s_own 3) fun A8_3 k8_3 => ?_)
        refine p 1 ?_
        refine rend ?_
        refine c_inb ?_
        refine r_start ?_
        refine p 2 ?_
        refine rend ?_
        refine c_set 19 (ci hw14) ?_
        replace h := H.inl h
        exact h (y8_3, A8_3, k8_3) _ _ rfl (by kernel_rfl) (by kernel_rfl)
      replace h := H.f q15 h
      refine c_skip ?_
      refine c_inb ?_
      refine r_start ?_
      refine p 2 ?_
      refine rend ?_
      refine c_set 19 (ci hw14) ?_
      replace h := H.inl h
      exact h (l3, A4, k5) _ _ rfl (by kernel_rfl) (by kernel_rfl)
    · intro x u q12 h
      obtain ⟨l3, A4, k5⟩ := x
      refine c_seq ?_
      refine r_start ?_
      refine p 1 ?_
      refine rend ?_
      refine c_seq ?_
      refine c_no q12 ?_
      refine cx ?_
      replace h := H.done h
      exact hj9 (l3, A4, k5) _ _ h (by kernel_rfl) (by kernel_rfl)
  intro x u h
  obtain ⟨l6, A7, k8⟩ := x
  refine c_seq ?_
  refine r_start ?_
  refine p 3 ?_
  refine rend ?_
  replace h := H.done h
  subst h
  exact ret func38 rfl (vs := [.slice A7 (List.length l6) k8, .bool true]) (.tmp (by kernel_rfl) (.tmp (by kernel_rfl) .nil)) rfl (fun W S => ⟨_, _, rfl, S.row 0, S.below⟩)
theorem C.s_DrawBreakersOf {fu : Nat} {a0 : (List Int)} {A0 : Option Addr} {k0 : Nat} {r : ((List Sign) × Constraint)} (w : World) (h : X.s_DrawBreakersOf fu a0 = some r) (h0 : RdT (eI .u8) w (.slice A0 (List.length a0) k0) a0) : Calls prog 39 #[.slice A0 (List.length a0) k0] w (RetR nSign 38 w r.1 (fun v => .tuple #[v, .agg (eConstraint r.2).toArray])) := by
  refine calls (M := no) (args := [.slice A0 (List.length a0) k0]) func39 rfl ?_
  replace h : H (X.s_DrawBreakersOf fu a0) (fun o => o = r) := H.mk h
  unfold X.s_DrawBreakersOf at h
  refine c_seq ?_
  refine r_start ?_
  refine p 1 ?_
  refine xx rfl (x_new (eConstraint zConstraint) fun g0_1 => ?_)
  refine rend ?_
  refine c_seq ?_
  refine r_start ?_
  refine p 2 ?_
  refine xx rfl (x_box [.slice A0 (List.length a0) k0, .int .i64 0, .int .u64 0] fun g1_2 => ?_)
  refine p 1 ?_
  refine rend ?_
  refine c_seq ?_
  refine r_start ?_
  refine p 1 ?_
  obtain ⟨v2_1, hv2_1, h⟩ := H.call h
  refine xx rfl (e_cqR (cs' := [.slice A0 (List.length a0) k0, .int .i64 v2_1.2.1, .int .u64 v2_1.2.2]) 1 [.pointer (some ⟨g1_2, 0, none⟩)] (fun v => v) func77 (fun W S => C.s_l1Cur_signList W hv2_1 (S.bx 1) ((s_arg h0).out W S) (ap_arg h0 S 1)) fun A2_1 k2_1 => ?_)
  refine p 1 ?_
  obtain ⟨v2_3, hv2_3, h⟩ := H.call h
  refine xx rfl (e_cq (cs' := [.slice A0 (List.length a0) k0, .int .i64 v2_3.2.1, .int .u64 v2_3.2.2]) (v := .agg (eConstraint v2_3.1).toArray) 1 [.pointer (some ⟨g1_2, 0, none⟩)] func111 (fun W S => C.s_l1Cur_constraint W hv2_3 (S.bx 1) ((s_arg h0).out W S) (ap_arg h0 S 1)) ?_)
  refine p 1 ?_
  refine xx rfl (x_sto 0 g0_1 0 (eConstraint v2_3.1) ?_)
  refine rend ?_
  replace h := H.done h
  subst h
  exact ret func39 rfl (vs := [.slice A2_1 (List.length v2_1.1) k2_1, .agg (eConstraint v2_3.1).toArray]) (.tmp (by kernel_rfl) (.cell 0 g0_1 rfl (by kernel_rfl) (by kernel_rfl) .nil)) rfl (fun W S => ⟨_, _, rfl, S.row 2, S.below⟩)
theorem C.s_DrawIsConstraint {a0 : (List Int)} {A0 : Option Addr} {k0 : Nat} {r : Constraint} (w : World) (h : X.s_DrawIsConstraint a0 = some r) (h0 : RdT (eI .u8) w (.slice A0 (List.length a0) k0) a0) : Calls prog 112 #[.slice A0 (List.length a0) k0] w (Ret w (.agg (eConstraint r).toArray)) := by
  refine calls (M := no) (args := [.slice A0 (List.length a0) k0]) func112 rfl ?_
  replace h : H (X.s_DrawIsConstraint a0) (fun o => o = r) := H.mk h
  unfold X.s_DrawIsConstraint at h
  refine c_seq ?_
  refine r_start ?_
  refine xx rfl (x_new (eConstraint zConstraint) fun g0_0 => ?_)
  refine rend ?_
  refine c_seq ?_
  refine r_start ?_
  refine p 2 ?_
  refine xx rfl (x_box [.slice A0 (List.length a0) k0, .int .i64 0, .int .u64 0] fun g1_2 => ?_)
  refine p 1 ?_
  refine rend ?_
  refine c_seq ?_
  refine r_start ?_
  refine p 1 ?_
  obtain ⟨v2_1, hv2_1, h⟩ := H.call h
  refine xx rfl (e_cq (cs' := [.slice A0 (List.length a0) k0, .int .i64 v2_1.2.1, .int .u64 v2_1.2.2]) (v := .agg (eConstraint v2_1.1).toArray) 1 [.pointer (some ⟨g1_2, 0, none⟩)] func111 (fun W S => C.s_l1Cur_constraint W hv2_1 (S.bx 1) ((s_arg h0).out W S) (ap_arg h0 S 1)) ?_)
  refine xx rfl (x_sto 0 g0_0 0 (eConstraint v2_1.1) ?_)
  refine rend ?_
  replace h := H.done h
  subst h
  exact ret func112 rfl (vs := [.agg (eConstraint v2_1.1).toArray]) (.cell 0 g0_0 rfl (by kernel_rfl) (by kernel_rfl) .nil) rfl (fun W S => ⟨rfl, S.below⟩)
theorem C.s_DrawConstraintText {a0 : (List Int)} {A0 : Option Addr} {k0 : Nat} {r : Constraint} (w : World) (h : X.s_DrawConstraintText a0 = some r) (h0 : RdT (eI .u8) w (.slice A0 (List.length a0) k0) a0) : Calls prog 40 #[.slice A0 (List.length a0) k0] w (Ret w (.agg (eConstraint r).toArray)) := by
  refine calls (M := no) (args := [.slice A0 (List.length a0) k0]) func40 rfl ?_
  replace h : H (X.s_DrawConstraintText a0) (fun o => o = r) := H.mk h
  unfold X.s_DrawConstraintText at h
  refine c_seq ?_
  refine r_start ?_
  refine xx rfl (x_new (eConstraint zConstraint) fun g0_0 => ?_)
  refine rend ?_
  refine c_seq ?_
  refine r_start ?_
  refine p 1 ?_
  obtain ⟨v1_1, hv1_1, h⟩ := H.call h
  refine xq rfl (y_call [.slice A0 (List.length a0) k0] (.agg (eConstraint v1_1).toArray) func112 (fun W S => C.s_DrawIsConstraint W hv1_1 ((s_arg h0).out W S))) ?_
  refine xx rfl (x_sto 0 g0_0 0 (eConstraint v1_1) ?_)
  refine rend ?_
  replace h := H.done h
  subst h
  exact ret func40 rfl (vs := [.agg (eConstraint v1_1).toArray]) (.cell 0 g0_0 rfl (by kernel_rfl) (by kernel_rfl) .nil) rfl (fun W S => ⟨rfl, S.below⟩)
theorem C.i_Constraint_text {a0 : Constraint} {r : Str} (w : World) (h : X.i_Constraint_text a0 = some r) : Calls prog 113 #[.agg (eConstraint a0).toArray] w (Ret w (.string (bs r))) := by
  refine calls (M := no) (args := [.agg (eConstraint a0).toArray]) func113 rfl ?_
  replace h : H (X.i_Constraint_text a0) (fun o => o = r) := H.mk h
  unfold X.i_Constraint_text at h
  refine c_seq ?_
  refine r_start ?_
  refine xx rfl (x_box (eConstraint a0) fun g0_0 => ?_)
  refine p 1 ?_
  refine rend ?_
  refine c_seq ?_
  refine r_start ?_
  refine p 1 ?_
  refine xx rfl (x_new (Enc.flat eS ([([] : Str), ([] : Str), ([] : Str), ([] : Str), ([] : Str)] : List Str)) fun g1_1 => ?_)
  refine xx rfl (x_sto 1 g1_1 0 (Enc.flat eS ([([115, 116, 101, 112, 115] : Str), ([114, 101, 103, 105, 111, 110] : Str), ([111, 112, 101, 110] : Str), ([107, 105, 110, 100] : Str), ([98, 101, 108, 111, 119] : Str)] : List Str)) ?_)
  refine rend ?_
  refine c_seq ?_
  refine as_start 10 10 ?_
  refine ap 0 1 ?_
  refine aq 1 rfl (y_load (.int .i64 a0.Kind) 0 g0_0 0) ?_
  obtain ⟨y2_2, hy2_2, h⟩ := H.call h
  refine aq 2 rfl (y_arp (e := eS) (el := 9) (g := g1_1) hy2_2) ?_
  refine aq 3 rfl (y_arl (e := eS) 1 (.string (bs y2_2)) hy2_2) ?_
  obtain ⟨y2_4, hy2_4, h⟩ := H.call h
  refine aq 4 rfl (y_cat hy2_4) ?_
  refine ap 5 1 ?_
  refine aq 6 rfl (y_load (.int .i64 a0.Value) 0 g0_0 1) ?_
  obtain ⟨v2_7, hv2_7, h⟩ := H.call h
  refine aq 7 rfl (y_call [.int .i64 a0.Value] (.string (bs v2_7)) func173 (fun W S => C.strconv_Itoa W hv2_7)) ?_
  obtain ⟨y2_8, hy2_8, h⟩ := H.call h
  refine aq 8 rfl (y_cat hy2_8) ?_
  refine ap 9 1 ?_
  refine a_done ?_
  replace h := H.done h
  subst h
  exact ret func113 rfl (vs := [.string (bs y2_8)]) (.tmp (by kernel_rfl) .nil) rfl (fun W S => ⟨rfl, S.below⟩)
theorem C.i_ConstraintText {a0 : Constraint} {r : (Str × Bool)} (w : World) (h : X.i_ConstraintText a0 = some r) : Calls prog 41 #[.agg (eConstraint a0).toArray] w (Ret w (.tuple #[.string (bs r.1), .bool r.2])) := by
  refine calls (M := no) (args := [.agg (eConstraint a0).toArray]) func41 rfl ?_
  replace h : H (X.i_ConstraintText a0) (fun o => o = r) := H.mk h
  unfold X.i_ConstraintText at h
  refine c_seq ?_
  refine r_start ?_
  refine xx rfl (x_box (eConstraint a0) fun g0_0 => ?_)
  refine p 2 ?_
  refine rend ?_
  refine c_seq ?_
  refine c_seq ?_
  refine r_start ?_
  refine xq rfl (y_load (.agg (eConstraint a0).toArray) 0 g0_0 0) ?_
  obtain ⟨v1_1, hv1_1, h⟩ := H.call h
  refine xq rfl (y_call [.agg (eConstraint a0).toArray] (.bool v1_1) func46 (fun W S => C.i_IsConstraint W hv1_1)) ?_
  refine p 1 ?_
  refine rend ?_
  refine c_or (!v1_1) (fun q1 => ?_) (fun q1 => ?_)
  · replace h := H.t q1 h
    refine c_seq ?_
    refine r_start ?_
    refine p 2 ?_
    refine rend ?_
    replace h := H.done h
    subst h
    exact ret func41 rfl (vs := [.string (bs ([] : Str)), .bool false]) (.tmp (by kernel_rfl) (.tmp (by kernel_rfl) .nil)) rfl (fun W S => ⟨rfl, S.below⟩)
  replace h := H.f q1 h
  refine c_skip ?_
  refine c_seq ?_
  refine r_start ?_
  refine xq rfl (y_load (.agg (eConstraint a0).toArray) 0 g0_0 0) ?_
  obtain ⟨v3_1, hv3_1, h⟩ := H.call h
  refine xq rfl (y_call [.agg (eConstraint a0).toArray] (.string (bs v3_1)) func113 (fun W S => C.i_Constraint_text W hv3_1)) ?_
  refine p 2 ?_
  refine rend ?_
  replace h := H.done h
  subst h
  exact ret func41 rfl (vs := [.string (bs v3_1), .bool true]) (.tmp (by kernel_rfl) (.tmp (by kernel_rfl) .nil)) rfl (fun W S => ⟨rfl, S.below⟩)
theorem C.s_ruNames {r : (List Str)} (w : World) (h : X.s_ruNames = some r) : Calls prog 114 #[] w (RetR eS 9 w r (fun v => v)) := by
  refine calls (M := no) (args := []) func114 rfl ?_
  replace h : H (X.s_ruNames) (fun o => o = r) := H.mk h
  unfold X.s_ruNames at h
  refine c_seq ?_
  refine r_start ?_
  refine p 1 ?_
  refine rend ?_
  refine c_seq ?_
  refine r_start ?_
  refine xx rfl (e_lit (e := eS) (el := 9) [.string (bs ([115, 116, 101, 112, 115] : Str)), .string (bs ([114, 101, 103, 105, 111, 110] : Str)), .string (bs ([111, 112, 101, 110] : Str)), .string (bs ([107, 105, 110, 100] : Str)), .string (bs ([98, 101, 108, 111, 119] : Str))] ([([115, 116, 101, 112, 115] : Str), ([114, 101, 103, 105, 111, 110] : Str), ([111, 112, 101, 110] : Str), ([107, 105, 110, 100] : Str), ([98, 101, 108, 111, 119] : Str)] : List Str) fun A1_0 k1_0 => ?_)
  refine p 1 ?_
  refine rend ?_
  replace h := H.done h
  subst h
  exact ret func114 rfl (vs := [.slice A1_0 (List.length ([([115, 116, 101, 112, 115] : Str), ([114, 101, 103, 105, 111, 110] : Str), ([111, 112, 101, 110] : Str), ([107, 105, 110, 100] : Str), ([98, 101, 108, 111, 119] : Str)] : List Str)) k1_0]) (.tmp (by kernel_rfl) .nil) rfl (fun W S => ⟨_, _, rfl, S.row 0, S.below⟩)
theorem C.s_l1Num {fu : Nat} {a0 : Int} {r : Str} (w : World) (h : X.s_l1Num fu a0 = some r) : Calls prog 115 #[.int .i64 a0] w (Ret w (.string (bs r))) := by
  induction fu generalizing a0 r w with
  | zero => cases h
  | succ fu ih =>
  refine calls (M := no) (args := [.int .i64 a0]) func115 rfl ?_
  replace h : H (X.s_l1Num (fu + 1) a0) (fun o => o = r) := H.mk h
  rw [X.s_l1Num] at h
  refine c_seq ?_
  refine r_start ?_
  refine p 1 ?_
  refine rend ?_
  refine c_seq ?_
  refine c_seq ?_
  refine r_start ?_
  refine p 2 ?_
  refine rend ?_
  refine c_or (decide (a0 < 10)) (fun q1 => ?_) (fun q1 => ?_)
  · replace h := H.t q1 h
    refine c_seq ?_
    refine r_start ?_
    refine p 3 ?_
    refine xx rfl (e_lit (e := (eI .u8)) (el := 5) [.int .u8 (wk .u8 (wr (48 + a0)))] ([(wk .u8 (wr (48 + a0)))] : List Int) fun A2_3 k2_3 => ?_)
    refine xq rfl (y_conv (el := 5) (s_own 0)) ?_
    refine p 1 ?_
    refine rend ?_
    replace h := H.done h
    subst h
    exact ret func115 rfl (vs := [.string (bs (strOf ([(wk .u8 (wr (48 + a0)))] : List Int)))]) (.tmp (by kernel_rfl) .nil) rfl (fun W S => ⟨rfl, S.below⟩)
  replace h := H.f q1 h
  refine c_skip ?_
  refine c_seq ?_
  refine as_start 11 11 ?_
  refine ap 0 2 ?_
  obtain ⟨v3_2, hv3_2, h⟩ := H.call h
  refine aq 2 rfl (y_call [.int .i64 (wr (Int.tdiv a0 10))] (.string (bs v3_2)) func115 (fun W S => ih W hv3_2)) ?_
  refine ap 3 4 ?_
  refine ax 7 rfl (e_lit (e := (eI .u8)) (el := 5) [.int .u8 (wk .u8 (wr (48 + (Int.tmod a0 10))))] ([(wk .u8 (wr (48 + (Int.tmod a0 10))))] : List Int) fun A3_7 k3_7 => ⟨.inr (by kernel_rfl), ?_⟩)
  refine ax 8 rfl (e_y (y_conv (el := 5) (s_own 0)) ⟨.inr (by kernel_rfl), ?_⟩)
  obtain ⟨y3_9, hy3_9, h⟩ := H.call h
  refine aq 9 rfl (y_cat hy3_9) ?_
  refine ap 10 1 ?_
  refine a_done ?_
  replace h := H.done h
  subst h
  exact ret func115 rfl (vs := [.string (bs y3_9)]) (.tmp (by kernel_rfl) .nil) rfl (fun W S => ⟨rfl, S.below⟩)
theorem C.s_ConstraintText {fu : Nat} {a0 : Constraint} {r : (Str × Bool)} (w : World) (h : X.s_ConstraintText fu a0 = some r) : Calls prog 42 #[.agg (eConstraint a0).toArray] w (Ret w (.tuple #[.string (bs r.1), .bool r.2])) := by
  refine calls (M := no) (args := [.agg (eConstraint a0).toArray]) func42 rfl ?_
  replace h : H (X.s_ConstraintText fu a0) (fun o => o = r) := H.mk h
  unfold X.s_ConstraintText at h
  refine c_seq ?_
  refine r_start ?_
  refine xx rfl (x_box (eConstraint a0) fun g0_0 => ?_)
  refine p 2 ?_
  refine rend ?_
  refine c_seq ?_
  refine c_seq ?_
  refine r_start ?_
  refine xq rfl (y_load (.agg (eConstraint a0).toArray) 0 g0_0 0) ?_
  obtain ⟨v1_1, hv1_1, h⟩ := H.call h
  refine xq rfl (y_call [.agg (eConstraint a0).toArray] (.bool v1_1) func109 (fun W S => C.s_ruGood W hv1_1)) ?_
  refine p 1 ?_
  refine rend ?_
  refine c_or (!v1_1) (fun q1 => ?_) (fun q1 => ?_)
  · replace h := H.t q1 h
    refine c_seq ?_
    refine r_start ?_
    refine p 2 ?_
    refine rend ?_
    replace h := H.done h
    subst h
    exact ret func42 rfl (vs := [.string (bs ([] : Str)), .bool false]) (.tmp (by kernel_rfl) (.tmp (by kernel_rfl) .nil)) rfl (fun W S => ⟨rfl, S.below⟩)
  replace h := H.f q1 h
  refine c_skip ?_
  refine c_seq ?_
  refine as_start 12 12 ?_
  refine ap 1 1 ?_
  refine aq 2 rfl (y_load (.int .i64 a0.Kind) 0 g0_0 0) ?_
  refine ap 6 1 ?_
  refine aq 7 rfl (y_load (.int .i64 a0.Value) 0 g0_0 1) ?_
  obtain ⟨v3_0, hv3_0, h⟩ := H.call h
  refine ax 0 rfl (e_cr [] (fun v => v) func114 (fun W S => C.s_ruNames W hv3_0) fun A3_0 k3_0 => ⟨.inr (by kernel_rfl), ?_⟩)
  obtain ⟨v3_8, hv3_8, h⟩ := H.call h
  refine aq 8 rfl (y_call [.int .i64 a0.Value] (.string (bs v3_8)) func115 (fun W S => C.s_l1Num W hv3_8)) ?_
  obtain ⟨y3_3, hy3_3, h⟩ := H.call h
  refine ax 3 rfl (e_y (y_idx (e := eS) (el := 9) hy3_3 (s_own 1)) ⟨.inr (by kernel_rfl), ?_⟩)
  refine ax 4 rfl (e_y (y_el (e := eS) 0 (.string (bs y3_3)) hy3_3 (s_own 1)) ⟨.inr (by kernel_rfl), ?_⟩)
  obtain ⟨y3_5, hy3_5, h⟩ := H.call h
  refine aq 5 rfl (y_cat hy3_5) ?_
  obtain ⟨y3_9, hy3_9, h⟩ := H.call h
  refine aq 9 rfl (y_cat hy3_9) ?_
  refine ap 10 2 ?_
  refine a_done ?_
  replace h := H.done h
  subst h
  exact ret func42 rfl (vs := [.string (bs y3_9), .bool true]) (.tmp (by kernel_rfl) (.tmp (by kernel_rfl) .nil)) rfl (fun W S => ⟨rfl, S.below⟩)
theorem C.s_l1Cur_spoilt {fu : Nat} {a0 : List Int} {A0 : Option Addr} {k0 g0 : Nat} {t0 s0 : Int} {a1 : Str} {a2 : Str} {r : (Str × Int × Int)} (w : World) (h : X.s_l1Cur_spoilt fu a0 t0 s0 a1 a2 = some r) (m0 : w.heap[g0]? = some (.cells ([.slice A0 (List.length a0) k0, .int .i64 t0, .int .u64 s0] : List Value).toArray 94 (0, 0))) (h0 : RdT (eI .u8) w (.slice A0 (List.length a0) k0) a0) (q0 : 0 < List.length a0 → ∀ k, (Value.slice A0 (List.length a0) k0).ownBlock = some k → ¬ k = g0) : Calls prog 116 #[.pointer (some ⟨g0, 0, none⟩), .string (bs a1), .string (bs a2)] w (RetQ g0 94 [.slice A0 (List.length a0) k0, .int .i64 r.2.1, .int .u64 r.2.2] w (.string (bs r.1))) := by
  refine callsQ (args := [.pointer (some ⟨g0, 0, none⟩), .string (bs a1), .string (bs a2)]) m0 func116 rfl ?_
  replace h : H (X.s_l1Cur_spoilt fu a0 t0 s0 a1 a2) (fun o => o = r) := H.mk h
  unfold X.s_l1Cur_spoilt at h
  refine c_seq ?_
  refine r_start ?_
  refine p 1 ?_
  refine rend ?_
  refine c_seq ?_
  refine c_seq ?_
  refine r_start ?_
  refine p 1 ?_
  obtain ⟨v1_1, hv1_1, h⟩ := H.call h
  refine xx rfl (e_cq (cs' := [.slice A0 (List.length a0) k0, .int .i64 v1_1.2.1, .int .u64 v1_1.2.2]) (v := .int .i64 v1_1.1) 0 [.pointer (some ⟨g0, 0, none⟩), .int .i64 2] func79 (fun W S => C.s_l1Cur_pick W hv1_1 (S.bx 0) ((s_argN h0 q0).out W S) q0) ?_)
  refine p 2 ?_
  refine rend ?_
  refine c_block ?_
  refine joinH (X := (Str × Int × Int)) 0 (H.bnd h) (fun (x : (Str × Int × Int)) => x) (fun ⟨t5, n6, n7⟩ => [box g0 94 [.slice A0 (List.length a0) k0, .int .i64 n6, .int .u64 n7]]) (fun ⟨t5, n6, n7⟩ u => (jk u 0 1 (.string (bs t5) :: (jk u 2 66 [])))) (fun h hj8 => ?_) ?_
  · skip
    refine loopR (X := (Str × Int × Int × Int)) (fun (x : (Str × Int × Int × Int)) => x) (fun ⟨t1, n2, n3, n4⟩ => [box g0 94 [.slice A0 (List.length a0) k0, .int .i64 n3, .int .u64 n4]]) (fun ⟨t1, n2, n3, n4⟩ u => (.pointer (some ⟨g0, 0, none⟩) :: .string (bs t1) :: .string (bs a2) :: (jk u 3 4 (.int .i64 n2 :: (jk u 8 60 []))))) (a1, (wr (1 + v1_1.1)), v1_1.2.1, v1_1.2.2) h (by kernel_rfl) (by kernel_rfl) ?_
    intro x u h
    obtain ⟨t1, n2, n3, n4⟩ := x
    refine c_seq ?_
    refine c_seq ?_
    refine r_start ?_
    refine p 3 ?_
    refine br (decide (n2 > 0)) (fun q9 => ?_) (fun q9 => ?_)
    · replace h := H.t q9 h
      refine o_set 15 (congrArg Value.bool q9) ?_
      refine p 4 ?_
      refine rend ?_
      refine c_or (decide ((List.length t1 : Int) > 0)) (fun q10 => ?_) (fun q10 => ?_)
      · replace h := H.t q10 h
        refine c_skip ?_
        refine c_seq ?_
        refine c_block ?_
        refine c_seq ?_
        refine r_start ?_
        refine p 3 ?_
        obtain ⟨v4_3, hv4_3, h⟩ := H.call h
        refine xx rfl (e_cq (cs' := [.slice A0 (List.length a0) k0, .int .i64 v4_3.2.1, .int .u64 v4_3.2.2]) (v := .int .i64 v4_3.1) 0 [.pointer (some ⟨g0, 0, none⟩), .int .i64 (List.length t1 : Int)] func79 (fun W S => C.s_l1Cur_pick W hv4_3 (S.bx 0) ((s_argN h0 q0).out W S) q0) ?_)
        refine p 1 ?_
        refine rend ?_
        refine c_seq ?_
        refine r_start ?_
        refine p 4 ?_
        obtain ⟨v5_4, hv5_4, h⟩ := H.call h
        refine xx rfl (e_cq (cs' := [.slice A0 (List.length a0) k0, .int .i64 v5_4.2.1, .int .u64 v5_4.2.2]) (v := .int .i64 v5_4.1) 0 [.pointer (some ⟨g0, 0, none⟩), .int .i64 (List.length a2 : Int)] func79 (fun W S => C.s_l1Cur_pick W hv5_4 (S.bx 0) ((s_argN h0 q0).out W S) q0) ?_)
        obtain ⟨y5_5, hy5_5, h⟩ := H.call h
        refine xq rfl (y_byte hy5_5) ?_
        refine xx rfl (e_lit (e := (eI .u8)) (el := 5) [.int .u8 y5_5] ([y5_5] : List Int) fun A5_6 k5_6 => ?_)
        refine xq rfl (y_conv (el := 5) (s_own 1)) ?_
        refine p 1 ?_
        refine rend ?_
        refine c_seq ?_
        refine r_start ?_
        refine p 1 ?_
        obtain ⟨v6_1, hv6_1, h⟩ := H.call h
        refine xx rfl (e_cq (cs' := [.slice A0 (List.length a0) k0, .int .i64 v6_1.2.1, .int .u64 v6_1.2.2]) (v := .int .i64 v6_1.1) 0 [.pointer (some ⟨g0, 0, none⟩), .int .i64 3] func79 (fun W S => C.s_l1Cur_pick W hv6_1 (S.bx 0) ((s_argN h0 q0).out W S) q0) ?_)
        refine rend ?_
        refine c_block ?_
        refine c_seq ?_
        refine r_start ?_
        refine p 2 ?_
        refine rend ?_
        refine c_or (v6_1.1 == 0) (fun q11 => ?_) (fun q11 => ?_)
        · replace h := H.t q11 h
          refine as_start 10 10 ?_
          refine ap 0 2 ?_
          obtain ⟨y9_2, hy9_2, h⟩ := H.call h
          refine aq 2 rfl (y_cut hy9_2) ?_
          refine ap 3 1 ?_
          obtain ⟨y9_4, hy9_4, h⟩ := H.call h
          refine aq 4 rfl (y_cat hy9_4) ?_
          refine ap 5 2 ?_
          obtain ⟨y9_7, hy9_7, h⟩ := H.call h
          refine aq 7 rfl (y_cut hy9_7) ?_
          obtain ⟨y9_8, hy9_8, h⟩ := H.call h
          refine aq 8 rfl (y_cat hy9_8) ?_
          refine ap 9 1 ?_
          refine a_done ?_
          refine c_inb ?_
          refine c_inb ?_
          refine r_start ?_
          refine p 3 ?_
          refine rend ?_
          replace h := H.inl h
          exact h (y9_8, (wr (n2 - 1)), v6_1.2.1, v6_1.2.2) _ _ rfl (by kernel_rfl) (by kernel_rfl)
        replace h := H.f q11 h
        refine c_seq ?_
        refine r_start ?_
        refine p 2 ?_
        refine rend ?_
        refine c_or (v6_1.1 == 1) (fun q12 => ?_) (fun q12 => ?_)
        · replace h := H.t q12 h
          refine as_start 11 11 ?_
          refine ap 0 2 ?_
          obtain ⟨y11_2, hy11_2, h⟩ := H.call h
          refine aq 2 rfl (y_cut hy11_2) ?_
          refine ap 3 1 ?_
          obtain ⟨y11_4, hy11_4, h⟩ := H.call h
          refine aq 4 rfl (y_cat hy11_4) ?_
          refine ap 5 3 ?_
          obtain ⟨y11_8, hy11_8, h⟩ := H.call h
          refine aq 8 rfl (y_cut hy11_8) ?_
          obtain ⟨y11_9, hy11_9, h⟩ := H.call h
          refine aq 9 rfl (y_cat hy11_9) ?_
          refine ap 10 1 ?_
          refine a_done ?_
          refine c_inb ?_
          refine c_inb ?_
          refine r_start ?_
          refine p 3 ?_
          refine rend ?_
          replace h := H.inl h
          exact h (y11_9, (wr (n2 - 1)), v6_1.2.1, v6_1.2.2) _ _ rfl (by kernel_rfl) (by kernel_rfl)
        replace h := H.f q12 h
        refine as_start 9 9 ?_
        refine ap 0 2 ?_
        obtain ⟨y7_2, hy7_2, h⟩ := H.call h
        refine aq 2 rfl (y_cut hy7_2) ?_
        refine ap 3 3 ?_
        obtain ⟨y7_6, hy7_6, h⟩ := H.call h
        refine aq 6 rfl (y_cut hy7_6) ?_
        obtain ⟨y7_7, hy7_7, h⟩ := H.call h
        refine aq 7 rfl (y_cat hy7_7) ?_
        refine ap 8 1 ?_
        refine a_done ?_
        refine c_inb ?_
        refine c_inb ?_
        refine r_start ?_
        refine p 3 ?_
        refine rend ?_
        replace h := H.inl h
        exact h (y7_7, (wr (n2 - 1)), v6_1.2.1, v6_1.2.2) _ _ rfl (by kernel_rfl) (by kernel_rfl)
      replace h := H.f q10 h
      refine cx ?_
      replace h := H.inr h
      exact hj8 (t1, n3, n4) _ _ h (by kernel_rfl) (by kernel_rfl)
    replace h := H.f q9 h
    refine o_set 15 (congrArg Value.bool q9) ?_
    refine p 4 ?_
    refine rend ?_
    refine c_f (by kernel_rfl) ?_
    refine cx ?_
    replace h := H.inr h
    exact hj8 (t1, n3, n4) _ _ h (by kernel_rfl) (by kernel_rfl)
  intro x u h
  obtain ⟨t5, n6, n7⟩ := x
  refine c_seq ?_
  refine r_start ?_
  refine p 2 ?_
  refine rend ?_
  replace h := H.done h
  subst h
  exact ret func116 rfl (vs := [.string (bs t5)]) (.tmp (by kernel_rfl) .nil) rfl (fun W S => S.retQ)
theorem C.s_DrawParseConstraint {fu : Nat} {a0 : (List Int)} {A0 : Option Addr} {k0 : Nat} {r : Str} (w : World) (h : X.s_DrawParseConstraint fu a0 = some r) (h0 : RdT (eI .u8) w (.slice A0 (List.length a0) k0) a0) : Calls prog 43 #[.slice A0 (List.length a0) k0] w (Ret w (.string (bs r))) := by
  refine calls (M := no) (args := [.slice A0 (List.length a0) k0]) func43 rfl ?_
  replace h : H (X.s_DrawParseConstraint fu a0) (fun o => o = r) := H.mk h
  unfold X.s_DrawParseConstraint at h
  refine c_seq ?_
  refine r_start ?_
  refine p 1 ?_
  refine rend ?_
  refine c_seq ?_
  refine r_start ?_
  refine p 2 ?_
  refine xx rfl (x_box [.slice A0 (List.length a0) k0, .int .i64 0, .int .u64 0] fun g1_2 => ?_)
  refine p 1 ?_
  refine rend ?_
  refine c_seq ?_
  refine r_start ?_
  refine p 1 ?_
  obtain ⟨v2_1, hv2_1, h⟩ := H.call h
  refine xx rfl (e_cq (cs' := [.slice A0 (List.length a0) k0, .int .i64 v2_1.2.1, .int .u64 v2_1.2.2]) (v := .agg (eConstraint v2_1.1).toArray) 0 [.pointer (some ⟨g1_2, 0, none⟩)] func111 (fun W S => C.s_l1Cur_constraint W hv2_1 (S.bx 0) ((s_arg h0).out W S) (ap_arg h0 S 0)) ?_)
  refine xx rfl (x_new (eConstraint zConstraint) fun g2_2 => ?_)
  refine xx rfl (x_sto 1 g2_2 0 (eConstraint v2_1.1) ?_)
  refine rend ?_
  refine c_seq ?_
  refine c_seq ?_
  refine r_start ?_
  refine xq rfl (y_load (.agg (eConstraint v2_1.1).toArray) 1 g2_2 0) ?_
  obtain ⟨v3_1, hv3_1, h⟩ := H.call h
  refine xq rfl (y_call [.agg (eConstraint v2_1.1).toArray] (.bool v3_1) func109 (fun W S => C.s_ruGood W hv3_1)) ?_
  refine p 1 ?_
  refine br v3_1 (fun q1 => ?_) (fun q1 => ?_)
  · replace h := H.t q1 h
    refine o_set 13 (congrArg Value.bool q1) ?_
    refine p 1 ?_
    obtain ⟨v3_4, hv3_4, h⟩ := H.call h
    refine xx rfl (e_cq (cs' := [.slice A0 (List.length a0) k0, .int .i64 v3_4.2.1, .int .u64 v3_4.2.2]) (v := .bool v3_4.1) 0 [.pointer (some ⟨g1_2, 0, none⟩), .int .i64 3] func78 (fun W S => C.s_l1Cur_one W hv3_4 (S.bx 0) ((s_arg h0).out W S) (ap_arg h0 S 0)) ?_)
    refine p 2 ?_
    refine rend ?_
    refine c_or (!v3_4.1) (fun q2 => ?_) (fun q2 => ?_)
    · replace h := H.t q2 h
      refine c_seq ?_
      refine as_start 11 11 ?_
      refine ap 1 1 ?_
      refine aq 2 rfl (y_load (.int .i64 v2_1.1.Kind) 1 g2_2 0) ?_
      refine ap 6 1 ?_
      refine aq 7 rfl (y_load (.int .i64 v2_1.1.Value) 1 g2_2 1) ?_
      obtain ⟨v4_0, hv4_0, h⟩ := H.call h
      refine ax 0 rfl (e_cr [] (fun v => v) func114 (fun W S => C.s_ruNames W hv4_0) fun A4_0 k4_0 => ⟨.inr (by kernel_rfl), ?_⟩)
      obtain ⟨v4_8, hv4_8, h⟩ := H.call h
      refine aq 8 rfl (y_call [.int .i64 v2_1.1.Value] (.string (bs v4_8)) func115 (fun W S => C.s_l1Num W hv4_8)) ?_
      obtain ⟨y4_3, hy4_3, h⟩ := H.call h
      refine ax 3 rfl (e_y (y_idx (e := eS) (el := 9) hy4_3 (s_own 2)) ⟨.inr (by kernel_rfl), ?_⟩)
      refine ax 4 rfl (e_y (y_el (e := eS) 0 (.string (bs y4_3)) hy4_3 (s_own 2)) ⟨.inr (by kernel_rfl), ?_⟩)
      obtain ⟨y4_5, hy4_5, h⟩ := H.call h
      refine aq 5 rfl (y_cat hy4_5) ?_
      obtain ⟨y4_9, hy4_9, h⟩ := H.call h
      refine aq 9 rfl (y_cat hy4_9) ?_
      refine ap 10 1 ?_
      refine a_done ?_
      refine c_seq ?_
      refine c_seq ?_
      refine r_start ?_
      refine p 1 ?_
      obtain ⟨v5_1, hv5_1, h⟩ := H.call h
      refine xx rfl (e_cq (cs' := [.slice A0 (List.length a0) k0, .int .i64 v5_1.2.1, .int .u64 v5_1.2.2]) (v := .bool v5_1.1) 0 [.pointer (some ⟨g1_2, 0, none⟩), .int .i64 3] func78 (fun W S => C.s_l1Cur_one W hv5_1 (S.bx 0) ((s_arg h0).out W S) (ap_arg h0 S 0)) ?_)
      refine rend ?_
      refine c_or v5_1.1 (fun q3 => ?_) (fun q3 => ?_)
      · replace h := H.t q3 h
        refine c_seq ?_
        refine r_start ?_
        refine p 2 ?_
        obtain ⟨v6_2, hv6_2, h⟩ := H.call h
        refine xx rfl (e_cq (cs' := [.slice A0 (List.length a0) k0, .int .i64 v6_2.2.1, .int .u64 v6_2.2.2]) (v := .string (bs v6_2.1)) 0 [.pointer (some ⟨g1_2, 0, none⟩), .string (bs y4_9), .string (bs ([61, 48, 49, 57, 107, 101, 110] : Str))] func116 (fun W S => C.s_l1Cur_spoilt W hv6_2 (S.bx 0) ((s_arg h0).out W S) (ap_arg h0 S 0)) ?_)
        refine p 1 ?_
        refine rend ?_
        replace h := H.done h
        subst h
        exact ret func43 rfl (vs := [.string (bs v6_2.1)]) (.tmp (by kernel_rfl) .nil) rfl (fun W S => ⟨rfl, S.below⟩)
      replace h := H.f q3 h
      refine c_skip ?_
      refine c_seq ?_
      refine r_start ?_
      refine p 2 ?_
      refine rend ?_
      replace h := H.done h
      subst h
      exact ret func43 rfl (vs := [.string (bs y4_9)]) (.tmp (by kernel_rfl) .nil) rfl (fun W S => ⟨rfl, S.below⟩)
    replace h := H.f q2 h
    refine c_skip ?_
    refine c_seq ?_
    refine r_start ?_
    refine p 1 ?_
    refine xx rfl (e_lit (e := eS) (el := 9) [.string (bs ([] : Str)), .string (bs ([61] : Str)), .string (bs ([115, 116, 101, 112, 115, 61] : Str)), .string (bs ([115, 116, 101, 112, 115, 61, 49, 57] : Str)), .string (bs ([115, 116, 101, 112, 115, 61, 48, 50] : Str)), .string (bs ([111, 112, 101, 110, 61, 53] : Str)), .string (bs ([107, 105, 110, 100, 61, 57] : Str)), .string (bs ([97, 98, 111, 118, 101, 61, 49] : Str)), .string (bs ([115, 116, 101, 112, 115, 61, 49, 61, 50] : Str))] ([([] : Str), ([61] : Str), ([115, 116, 101, 112, 115, 61] : Str), ([115, 116, 101, 112, 115, 61, 49, 57] : Str), ([115, 116, 101, 112, 115, 61, 48, 50] : Str), ([111, 112, 101, 110, 61, 53] : Str), ([107, 105, 110, 100, 61, 57] : Str), ([97, 98, 111, 118, 101, 61, 49] : Str), ([115, 116, 101, 112, 115, 61, 49, 61, 50] : Str)] : List Str) fun A8_1 k8_1 => ?_)
    obtain ⟨v8_2, hv8_2, h⟩ := H.call h
    refine xx rfl (e_cq (cs' := [.slice A0 (List.length a0) k0, .int .i64 v8_2.2.1, .int .u64 v8_2.2.2]) (v := .string (bs v8_2.1)) 0 [.pointer (some ⟨g1_2, 0, none⟩), .slice A8_1 (List.length ([([] : Str), ([61] : Str), ([115, 116, 101, 112, 115, 61] : Str), ([115, 116, 101, 112, 115, 61, 49, 57] : Str), ([115, 116, 101, 112, 115, 61, 48, 50] : Str), ([111, 112, 101, 110, 61, 53] : Str), ([107, 105, 110, 100, 61, 57] : Str), ([97, 98, 111, 118, 101, 61, 49] : Str), ([115, 116, 101, 112, 115, 61, 49, 61, 50] : Str)] : List Str)) k8_1] func117 (fun W S => C.s_l1Cur_of W hv8_2 (S.bx 0) ((s_arg h0).out W S) (ap_arg h0 S 0) ((s_own 2).out W S) (ap_row S 2 0 (by decide))) ?_)
    refine p 1 ?_
    refine rend ?_
    replace h := H.done h
    subst h
    exact ret func43 rfl (vs := [.string (bs v8_2.1)]) (.tmp (by kernel_rfl) .nil) rfl (fun W S => ⟨rfl, S.below⟩)
  replace h := H.f q1 h
  refine o_set 13 (congrArg Value.bool q1) ?_
  refine p 4 ?_
  refine rend ?_
  refine c_f (by kernel_rfl) ?_
  refine c_skip ?_
  refine c_seq ?_
  refine r_start ?_
  refine p 1 ?_
  refine xx rfl (e_lit (e := eS) (el := 9) [.string (bs ([] : Str)), .string (bs ([61] : Str)), .string (bs ([115, 116, 101, 112, 115, 61] : Str)), .string (bs ([115, 116, 101, 112, 115, 61, 49, 57] : Str)), .string (bs ([115, 116, 101, 112, 115, 61, 48, 50] : Str)), .string (bs ([111, 112, 101, 110, 61, 53] : Str)), .string (bs ([107, 105, 110, 100, 61, 57] : Str)), .string (bs ([97, 98, 111, 118, 101, 61, 49] : Str)), .string (bs ([115, 116, 101, 112, 115, 61, 49, 61, 50] : Str))] ([([] : Str), ([61] : Str), ([115, 116, 101, 112, 115, 61] : Str), ([115, 116, 101, 112, 115, 61, 49, 57] : Str), ([115, 116, 101, 112, 115, 61, 48, 50] : Str), ([111, 112, 101, 110, 61, 53] : Str), ([107, 105, 110, 100, 61, 57] : Str), ([97, 98, 111, 118, 101, 61, 49] : Str), ([115, 116, 101, 112, 115, 61, 49, 61, 50] : Str)] : List Str) fun A8_1 k8_1 => ?_)
  obtain ⟨v8_2, hv8_2, h⟩ := H.call h
  refine xx rfl (e_cq (cs' := [.slice A0 (List.length a0) k0, .int .i64 v8_2.2.1, .int .u64 v8_2.2.2]) (v := .string (bs v8_2.1)) 0 [.pointer (some ⟨g1_2, 0, none⟩), .slice A8_1 (List.length ([([] : Str), ([61] : Str), ([115, 116, 101, 112, 115, 61] : Str), ([115, 116, 101, 112, 115, 61, 49, 57] : Str), ([115, 116, 101, 112, 115, 61, 48, 50] : Str), ([111, 112, 101, 110, 61, 53] : Str), ([107, 105, 110, 100, 61, 57] : Str), ([97, 98, 111, 118, 101, 61, 49] : Str), ([115, 116, 101, 112, 115, 61, 49, 61, 50] : Str)] : List Str)) k8_1] func117 (fun W S => C.s_l1Cur_of W hv8_2 (S.bx 0) ((s_arg h0).out W S) (ap_arg h0 S 0) ((s_own 2).out W S) (ap_row S 2 0 (by decide))) ?_)
  refine p 1 ?_
  refine rend ?_
  replace h := H.done h
  subst h
  exact ret func43 rfl (vs := [.string (bs v8_2.1)]) (.tmp (by kernel_rfl) .nil) rfl (fun W S => ⟨rfl, S.below⟩)
theorem C.i_ParseConstraint {fu : Nat} {a0 : Str} {r : (Constraint × Bool)} (w : World) (h : X.i_ParseConstraint fu a0 = some r) : Calls prog 44 #[.string (bs a0)] w (Ret w (.tuple #[.agg (eConstraint r.1).toArray, .bool r.2])) := by
  refine calls (M := no) (args := [.string (bs a0)]) func44 rfl ?_
  replace h : H (X.i_ParseConstraint fu a0) (fun o => o = r) := H.mk h
  unfold X.i_ParseConstraint at h
  refine c_seq ?_
  refine r_start ?_
  refine xx rfl (x_new (eConstraint zConstraint) fun g0_0 => ?_)
  refine p 1 ?_
  refine rend ?_
  refine c_seq ?_
  refine c_seq ?_
  refine r_start ?_
  refine p 1 ?_
  refine rend ?_
  refine c_block ?_
  refine joinE (X := Unit) 0 (H.or h) (fun (x : Unit) => x) (fun _ => [box g0_0 64 (eConstraint zConstraint)]) (fun _ u => (jk u 0 2 (.pointer (some ⟨g0_0, 0, none⟩) :: (jk u 3 25 [])))) (fun h hj2 => ?_) ?_
  · skip
    refine loopR (X := Int) (fun (x : Int) => x) (fun n1 => [box g0_0 64 (eConstraint zConstraint)]) (fun n1 u => (.string (bs a0) :: (jk u 1 1 (.pointer (some ⟨g0_0, 0, none⟩) :: (jk u 3 1 (.int .i64 n1 :: (jk u 5 23 []))))))) 0 h (by kernel_rfl) (by kernel_rfl) ?_
    intro n1 u h
    refine c_seq ?_
    refine c_seq ?_
    refine r_start ?_
    refine p 2 ?_
    refine rend ?_
    refine c_or (decide (n1 ≤ 4)) (fun q3 => ?_) (fun q3 => ?_)
    · replace h := H.t q3 h
      refine c_skip ?_
      refine c_seq ?_
      refine c_block ?_
      refine c_seq ?_
      refine r_start ?_
      refine p 1 ?_
      refine rend ?_
      refine c_block ?_
      refine joinE (X := Unit) 2 (H.or h) (fun (x : Unit) => x) (fun _ => [box g0_0 64 (eConstraint zConstraint)]) (fun _ u => (.string (bs a0) :: (jk u 1 1 (.pointer (some ⟨g0_0, 0, none⟩) :: (jk u 3 1 (.int .i64 n1 :: (jk u 5 23 []))))))) (fun h hj5 => ?_) ?_
      · skip
        refine loopR (X := Int) (fun (x : Int) => x) (fun n4 => [box g0_0 64 (eConstraint zConstraint)]) (fun n4 u => (.string (bs a0) :: (jk u 1 1 (.pointer (some ⟨g0_0, 0, none⟩) :: (jk u 3 1 (.int .i64 n1 :: (jk u 5 6 (.int .i64 n4 :: (jk u 12 16 []))))))))) 0 h (by kernel_rfl) (by kernel_rfl) ?_
        intro n4 u h
        refine c_seq ?_
        refine r_start ?_
        refine p 1 ?_
        refine rend ?_
        refine c_seq ?_
        refine c_or (decide (n4 < 19)) (fun q6 => ?_) (fun q6 => ?_)
        · replace h := H.t q6 h
          refine c_skip ?_
          refine c_seq ?_
          refine c_block ?_
          refine c_seq ?_
          refine r_start ?_
          refine p 2 ?_
          refine rend ?_
          refine c_seq ?_
          refine r_start ?_
          refine p 3 ?_
          refine xx rfl (x_new (eConstraint zConstraint) fun g7_3 => ?_)
          refine xx rfl (x_sto 1 g7_3 0 (eConstraint (⟨n1, n4⟩ : Constraint)) ?_)
          refine rend ?_
          refine c_seq ?_
          refine r_start ?_
          refine xq rfl (y_load (.agg (eConstraint (⟨n1, n4⟩ : Constraint)).toArray) 1 g7_3 0) ?_
          obtain ⟨v8_1, hv8_1, h⟩ := H.call h
          refine xq rfl (y_call [.agg (eConstraint (⟨n1, n4⟩ : Constraint)).toArray] (.bool v8_1) func46 (fun W S => C.i_IsConstraint W hv8_1)) ?_
          refine p 1 ?_
          refine br v8_1 (fun q7 => ?_) (fun q7 => ?_)
          · replace h := H.t q7 h
            refine o_set 19 (congrArg Value.bool q7) ?_
            refine xq rfl (y_load (.agg (eConstraint (⟨n1, n4⟩ : Constraint)).toArray) 1 g7_3 0) ?_
            obtain ⟨v8_4, hv8_4, h⟩ := H.call h
            refine xq rfl (y_call [.agg (eConstraint (⟨n1, n4⟩ : Constraint)).toArray] (.string (bs v8_4)) func113 (fun W S => C.i_Constraint_text W hv8_4)) ?_
            refine p 3 ?_
            refine rend ?_
            refine c_or (seq v8_4 a0) (fun q8 => ?_) (fun q8 => ?_)
            · replace h := H.t q8 h
              refine c_seq ?_
              refine r_start ?_
              refine xq rfl (y_load (.agg (eConstraint (⟨n1, n4⟩ : Constraint)).toArray) 1 g7_3 0) ?_
              refine xx rfl (x_sto 0 g0_0 0 (eConstraint (⟨n1, n4⟩ : Constraint)) ?_)
              refine p 1 ?_
              refine rend ?_
              replace h := H.inr h
              replace h := H.inr h
              replace h := H.done h
              subst h
              exact ret func44 rfl (vs := [.agg (eConstraint (⟨n1, n4⟩ : Constraint)).toArray, .bool true]) (.cell 0 g0_0 rfl (by kernel_rfl) (by kernel_rfl) (.tmp (by kernel_rfl) .nil)) rfl (fun W S => ⟨rfl, S.below⟩)
            replace h := H.f q8 h
            refine c_skip ?_
            refine c_inb ?_
            refine r_start ?_
            refine p 2 ?_
            refine rend ?_
            replace h := H.inl h
            exact h (wr (n4 + 1)) _ _ rfl (by kernel_rfl) (by kernel_rfl)
          replace h := H.f q7 h
          refine o_set 19 (congrArg Value.bool q7) ?_
          refine p 5 ?_
          refine rend ?_
          refine c_f (by kernel_rfl) ?_
          refine c_skip ?_
          refine c_inb ?_
          refine r_start ?_
          refine p 2 ?_
          refine rend ?_
          replace h := H.inl h
          exact h (wr (n4 + 1)) _ _ rfl (by kernel_rfl) (by kernel_rfl)
        replace h := H.f q6 h
        refine cx ?_
        replace h := H.inr h
        exact hj5 () _ _ h (by kernel_rfl) (by kernel_rfl)
      intro x u h
      refine c_inb ?_
      refine r_start ?_
      refine p 3 ?_
      refine rend ?_
      replace h := H.inl h
      exact h (wr (n1 + 1)) _ _ rfl (by kernel_rfl) (by kernel_rfl)
    replace h := H.f q3 h
    refine cx ?_
    replace h := H.inr h
    exact hj2 () _ _ h (by kernel_rfl) (by kernel_rfl)
  intro x u h
  refine c_seq ?_
  refine r_start ?_
  refine p 1 ?_
  refine xx rfl (x_sto 0 g0_0 0 (eConstraint zConstraint) ?_)
  refine p 1 ?_
  refine rend ?_
  replace h := H.done h
  subst h
  exact ret func44 rfl (vs := [.agg (eConstraint zConstraint).toArray, .bool false]) (.cell 0 g0_0 rfl (by kernel_rfl) (by kernel_rfl) (.tmp (by kernel_rfl) .nil)) rfl (fun W S => ⟨rfl, S.below⟩)
theorem C.s_l1Split {fu : Nat} {a0 : Str} {a1 : Int} {r : (List Str)} (w : World) (h : X.s_l1Split fu a0 a1 = some r) : Calls prog 118 #[.string (bs a0), .int .u8 a1] w (RetR eS 9 w r (fun v => v)) := by
  refine calls (M := no) (args := [.string (bs a0), .int .u8 a1]) func118 rfl ?_
  replace h : H (X.s_l1Split fu a0 a1) (fun o => o = r) := H.mk h
  unfold X.s_l1Split at h
  refine c_seq ?_
  refine r_start ?_
  refine p 1 ?_
  refine rend ?_
  refine c_seq ?_
  refine r_start ?_
  refine p 1 ?_
  refine rend ?_
  refine c_seq ?_
  refine r_start ?_
  refine p 1 ?_
  refine rend ?_
  refine c_seq ?_
  refine c_seq ?_
  refine r_start ?_
  refine p 1 ?_
  refine rend ?_
  refine c_block ?_
  refine c_nil eS 9 ?_
  refine joinH (X := (Int × (List Str) × Option Addr × Nat)) 0 (H.bnd h) (fun ⟨n6, l7, A8, k9⟩ => (n6, l7)) (fun ⟨n6, l7, A8, k9⟩ => [rowT eS w.heap.size 9 (.slice A8 (List.length l7) k9) l7]) (fun ⟨n6, l7, A8, k9⟩ u => (.string (bs a0) :: (jk u 1 4 (.slice A8 (List.length l7) k9 :: .int .i64 n6 :: (jk u 7 27 []))))) (fun h hj10 => ?_) ?_
  · skip
    refine loopR (X := (Int × Int × (List Str) × Option Addr × Nat)) (fun ⟨n1, n2, l3, A4, k5⟩ => (n1, n2, l3)) (fun ⟨n1, n2, l3, A4, k5⟩ => [rowT eS w.heap.size 9 (.slice A4 (List.length l3) k5) l3]) (fun ⟨n1, n2, l3, A4, k5⟩ u => (.string (bs a0) :: .int .u8 a1 :: (jk u 2 3 (.slice A4 (List.length l3) k5 :: .int .i64 n1 :: .int .i64 n2 :: (jk u 8 26 []))))) (0, 0, ([] : List Str), none, 0) h (by kernel_rfl) (by kernel_rfl) ?_
    intro x u h
    obtain ⟨n1, n2, l3, A4, k5⟩ := x
    refine c_seq ?_
    refine c_seq ?_
    refine r_start ?_
    refine p 4 ?_
    refine rend ?_
    refine c_or (decide (n2 < (List.length a0 : Int))) (fun q11 => ?_) (fun q11 => ?_)
    · replace h := H.t q11 h
      refine c_skip ?_
      refine c_seq ?_
      refine c_block ?_
      refine c_seq ?_
      refine r_start ?_
      refine p 2 ?_
      obtain ⟨y6_2, hy6_2, h⟩ := H.call h
      refine xq rfl (y_byte hy6_2) ?_
      refine p 2 ?_
      refine rend ?_
      refine c_or (y6_2 == a1) (fun q12 => ?_) (fun q12 => ?_)
      · replace h := H.t q12 h
        refine c_seq ?_
        refine r_start ?_
        refine p 4 ?_
        obtain ⟨y7_4, hy7_4, h⟩ := H.call h
        refine xq rfl (y_cut hy7_4) ?_
        refine xx rfl (e_lit (e := eS) (el := 9) [.string (bs y7_4)] ([y7_4] : List Str) fun A7_5 k7_5 => ?_)
        obtain ⟨y7_6, hy7_6, h⟩ := H.call h
        refine xx rfl (e_app 0 hy7_6 (s_own 1) fun A7_6 k7_6 => ?_)
        refine p 1 ?_
        refine rend ?_
        refine r_start ?_
        refine p 3 ?_
        refine rend ?_
        refine c_inb ?_
        refine r_start ?_
        refine p 3 ?_
        refine rend ?_
        replace h := H.inl h
        exact h ((wr (n2 + 1)), (wr (n2 + 1)), y7_6, A7_6, k7_6) _ _ rfl (by kernel_rfl) (by kernel_rfl)
      replace h := H.f q12 h
      refine c_skip ?_
      refine c_inb ?_
      refine r_start ?_
      refine p 3 ?_
      refine rend ?_
      replace h := H.inl h
      exact h (n1, (wr (n2 + 1)), l3, A4, k5) _ _ rfl (by kernel_rfl) (by kernel_rfl)
    replace h := H.f q11 h
    refine cx ?_
    replace h := H.inr h
    exact hj10 (n1, l3, A4, k5) _ _ h (by kernel_rfl) (by kernel_rfl)
  intro x u h
  obtain ⟨n6, l7, A8, k9⟩ := x
  refine c_seq ?_
  refine r_start ?_
  refine p 3 ?_
  obtain ⟨y9_3, hy9_3, h⟩ := H.call h
  refine xq rfl (y_cut hy9_3) ?_
  refine xx rfl (e_lit (e := eS) (el := 9) [.string (bs y9_3)] ([y9_3] : List Str) fun A9_4 k9_4 => ?_)
  obtain ⟨y9_5, hy9_5, h⟩ := H.call h
  refine xx rfl (e_app 0 hy9_5 (s_own 1) fun A9_5 k9_5 => ?_)
  refine p 1 ?_
  refine rend ?_
  replace h := H.done h
  subst h
  exact ret func118 rfl (vs := [.slice A9_5 (List.length y9_5) k9_5]) (.tmp (by kernel_rfl) .nil) rfl (fun W S => ⟨_, _, rfl, S.row 0, S.below⟩)
theorem C.s_l1Read {fu : Nat} {a0 : Str} {r : Int} (w : World) (h : X.s_l1Read fu a0 = some r) : Calls prog 119 #[.string (bs a0)] w (Ret w (.int .i64 r)) := by
  refine calls (M := no) (args := [.string (bs a0)]) func119 rfl ?_
  replace h : H (X.s_l1Read fu a0) (fun o => o = r) := H.mk h
  unfold X.s_l1Read at h
  refine c_seq ?_
  refine r_start ?_
  refine p 1 ?_
  refine rend ?_
  refine c_seq ?_
  refine c_seq ?_
  refine r_start ?_
  refine p 2 ?_
  obtain ⟨v1_2, hv1_2, h⟩ := H.call h
  refine xq rfl (y_call [.int .i64 (List.length a0 : Int), .int .i64 1, .int .i64 6] (.bool v1_2) func145 (fun W S => C.s_l1In W hv1_2)) ?_
  refine p 2 ?_
  refine br (!v1_2) (fun q1 => ?_) (fun q1 => ?_)
  · replace h := H.t q1 h
    refine o_set 9 (congrArg Value.bool q1) ?_
    refine p 9 ?_
    refine rend ?_
    refine c_t (by kernel_rfl) ?_
    refine c_seq ?_
    refine r_start ?_
    refine p 1 ?_
    refine rend ?_
    replace h := H.done h
    subst h
    exact ret func119 rfl (vs := [.int .i64 (-1)]) (.tmp (by kernel_rfl) .nil) rfl (fun W S => ⟨rfl, S.below⟩)
  replace h := H.f q1 h
  refine o_set 9 (congrArg Value.bool q1) ?_
  refine p 1 ?_
  obtain ⟨y1_6, hy1_6, h⟩ := H.call h
  refine xq rfl (y_byte hy1_6) ?_
  refine p 2 ?_
  refine br (y1_6 == 48) (fun q2 => ?_) (fun q2 => ?_)
  · replace h := H.t q2 h
    refine o_set 13 (congrArg Value.bool q2) ?_
    refine p 5 ?_
    refine rend ?_
    refine c_or (decide ((List.length a0 : Int) > 1)) (fun q3 => ?_) (fun q3 => ?_)
    · replace h := H.t q3 h
      refine c_seq ?_
      refine r_start ?_
      refine p 1 ?_
      refine rend ?_
      replace h := H.done h
      subst h
      exact ret func119 rfl (vs := [.int .i64 (-1)]) (.tmp (by kernel_rfl) .nil) rfl (fun W S => ⟨rfl, S.below⟩)
    replace h := H.f q3 h
    refine c_skip ?_
    refine c_seq ?_
    refine r_start ?_
    refine p 1 ?_
    refine rend ?_
    refine c_seq ?_
    refine c_seq ?_
    refine r_start ?_
    refine p 1 ?_
    refine rend ?_
    refine c_block ?_
    refine joinE (X := Int) 0 (H.or h) (fun (x : Int) => x) (fun n6 => []) (fun n6 u => (jk u 0 3 (.int .i64 n6 :: (jk u 4 40 [])))) (fun h hj7 => ?_) ?_
    · skip
      refine loopR (X := (Int × Int)) (fun (x : (Int × Int)) => x) (fun ⟨n4, n5⟩ => []) (fun ⟨n4, n5⟩ u => (.string (bs a0) :: (jk u 1 2 (.int .i64 n4 :: .int .i64 n5 :: (jk u 5 39 []))))) (0, 0) h (by kernel_rfl) (by kernel_rfl) ?_
      intro x u h
      obtain ⟨n4, n5⟩ := x
      refine c_seq ?_
      refine c_seq ?_
      refine r_start ?_
      refine p 4 ?_
      refine rend ?_
      refine c_or (decide (n5 < (List.length a0 : Int))) (fun q8 => ?_) (fun q8 => ?_)
      · replace h := H.t q8 h
        refine c_skip ?_
        refine c_seq ?_
        refine c_block ?_
        refine c_seq ?_
        refine c_seq ?_
        refine r_start ?_
        refine p 2 ?_
        obtain ⟨y7_2, hy7_2, h⟩ := H.call h
        refine xq rfl (y_byte hy7_2) ?_
        refine p 2 ?_
        refine br (decide (y7_2 < 48)) (fun q9 => ?_) (fun q9 => ?_)
        · replace h := H.t q9 h
          refine o_set 29 (congrArg Value.bool q9) ?_
          refine p 5 ?_
          refine rend ?_
          refine c_t (by kernel_rfl) ?_
          refine c_seq ?_
          refine r_start ?_
          refine p 1 ?_
          refine rend ?_
          replace h := H.inr h
          replace h := H.done h
          subst h
          exact ret func119 rfl (vs := [.int .i64 (-1)]) (.tmp (by kernel_rfl) .nil) rfl (fun W S => ⟨rfl, S.below⟩)
        replace h := H.f q9 h
        refine o_set 29 (congrArg Value.bool q9) ?_
        refine p 2 ?_
        refine xq rfl (y_byte hy7_2) ?_
        refine p 2 ?_
        refine rend ?_
        refine c_or (decide (y7_2 > 57)) (fun q10 => ?_) (fun q10 => ?_)
        · replace h := H.t q10 h
          refine c_seq ?_
          refine r_start ?_
          refine p 1 ?_
          refine rend ?_
          replace h := H.inr h
          replace h := H.done h
          subst h
          exact ret func119 rfl (vs := [.int .i64 (-1)]) (.tmp (by kernel_rfl) .nil) rfl (fun W S => ⟨rfl, S.below⟩)
        replace h := H.f q10 h
        refine c_skip ?_
        refine r_start ?_
        refine p 4 ?_
        refine xq rfl (y_byte hy7_2) ?_
        refine p 4 ?_
        refine rend ?_
        refine c_inb ?_
        refine r_start ?_
        refine p 3 ?_
        refine rend ?_
        replace h := H.inl h
        exact h ((wr ((wr (10 * n4)) + (wr (wk .u8 (y7_2 - 48))))), (wr (n5 + 1))) _ _ rfl (by kernel_rfl) (by kernel_rfl)
      replace h := H.f q8 h
      refine cx ?_
      replace h := H.inr h
      exact hj7 n4 _ _ h (by kernel_rfl) (by kernel_rfl)
    intro n6 u h
    refine c_seq ?_
    refine r_start ?_
    refine p 2 ?_
    refine rend ?_
    replace h := H.done h
    subst h
    exact ret func119 rfl (vs := [.int .i64 n6]) (.tmp (by kernel_rfl) .nil) rfl (fun W S => ⟨rfl, S.below⟩)
  replace h := H.f q2 h
  refine o_set 13 (congrArg Value.bool q2) ?_
  refine p 5 ?_
  refine rend ?_
  refine c_f (by kernel_rfl) ?_
  refine c_skip ?_
  refine c_seq ?_
  refine r_start ?_
  refine p 1 ?_
  refine rend ?_
  refine c_seq ?_
  refine c_seq ?_
  refine r_start ?_
  refine p 1 ?_
  refine rend ?_
  refine c_block ?_
  refine joinE (X := Int) 0 (H.or h) (fun (x : Int) => x) (fun n13 => []) (fun n13 u => (jk u 0 3 (.int .i64 n13 :: (jk u 4 40 [])))) (fun h hj14 => ?_) ?_
  · skip
    refine loopR (X := (Int × Int)) (fun (x : (Int × Int)) => x) (fun ⟨n11, n12⟩ => []) (fun ⟨n11, n12⟩ u => (.string (bs a0) :: (jk u 1 2 (.int .i64 n11 :: .int .i64 n12 :: (jk u 5 39 []))))) (0, 0) h (by kernel_rfl) (by kernel_rfl) ?_
    intro x u h
    obtain ⟨n11, n12⟩ := x
    refine c_seq ?_
    refine c_seq ?_
    refine r_start ?_
    refine p 4 ?_
    refine rend ?_
    refine c_or (decide (n12 < (List.length a0 : Int))) (fun q15 => ?_) (fun q15 => ?_)
    · replace h := H.t q15 h
      refine c_skip ?_
      refine c_seq ?_
      refine c_block ?_
      refine c_seq ?_
      refine c_seq ?_
      refine r_start ?_
      refine p 2 ?_
      obtain ⟨y7_2, hy7_2, h⟩ := H.call h
      refine xq rfl (y_byte hy7_2) ?_
      refine p 2 ?_
      refine br (decide (y7_2 < 48)) (fun q16 => ?_) (fun q16 => ?_)
      · replace h := H.t q16 h
        refine o_set 29 (congrArg Value.bool q16) ?_
        refine p 5 ?_
        refine rend ?_
        refine c_t (by kernel_rfl) ?_
        refine c_seq ?_
        refine r_start ?_
        refine p 1 ?_
        refine rend ?_
        replace h := H.inr h
        replace h := H.done h
        subst h
        exact ret func119 rfl (vs := [.int .i64 (-1)]) (.tmp (by kernel_rfl) .nil) rfl (fun W S => ⟨rfl, S.below⟩)
      replace h := H.f q16 h
      refine o_set 29 (congrArg Value.bool q16) ?_
      refine p 2 ?_
      refine xq rfl (y_byte hy7_2) ?_
      refine p 2 ?_
      refine rend ?_
      refine c_or (decide (y7_2 > 57)) (fun q17 => ?_) (fun q17 => ?_)
      · replace h := H.t q17 h
        refine c_seq ?_
        refine r_start ?_
        refine p 1 ?_
        refine rend ?_
        replace h := H.inr h
        replace h := H.done h
        subst h
        exact ret func119 rfl (vs := [.int .i64 (-1)]) (.tmp (by kernel_rfl) .nil) rfl (fun W S => ⟨rfl, S.below⟩)
      replace h := H.f q17 h
      refine c_skip ?_
      refine r_start ?_
      refine p 4 ?_
      refine xq rfl (y_byte hy7_2) ?_
      refine p 4 ?_
      refine rend ?_
      refine c_inb ?_
      refine r_start ?_
      refine p 3 ?_
      refine rend ?_
      replace h := H.inl h
      exact h ((wr ((wr (10 * n11)) + (wr (wk .u8 (y7_2 - 48))))), (wr (n12 + 1))) _ _ rfl (by kernel_rfl) (by kernel_rfl)
    replace h := H.f q15 h
    refine cx ?_
    replace h := H.inr h
    exact hj14 n11 _ _ h (by kernel_rfl) (by kernel_rfl)
  intro n13 u h
  refine c_seq ?_
  refine r_start ?_
  refine p 2 ?_
  refine rend ?_
  replace h := H.done h
  subst h
  exact ret func119 rfl (vs := [.int .i64 n13]) (.tmp (by kernel_rfl) .nil) rfl (fun W S => ⟨rfl, S.below⟩)
theorem C.s_ParseConstraint {fu : Nat} {a0 : Str} {r : (Constraint × Bool)} (w : World) (h : X.s_ParseConstraint fu a0 = some r) : Calls prog 45 #[.string (bs a0)] w (Ret w (.tuple #[.agg (eConstraint r.1).toArray, .bool r.2])) := by
  refine calls (M := no) (args := [.string (bs a0)]) func45 rfl ?_
  replace h : H (X.s_ParseConstraint fu a0) (fun o => o = r) := H.mk h
  unfold X.s_ParseConstraint at h
  refine c_seq ?_
  refine r_start ?_
  refine xx rfl (x_new (eConstraint zConstraint) fun g0_0 => ?_)
  refine p 1 ?_
  refine rend ?_
  refine c_seq ?_
  refine r_start ?_
  refine p 1 ?_
  obtain ⟨v1_1, hv1_1, h⟩ := H.call h
  refine xx rfl (e_cr [.string (bs a0), .int .u8 61] (fun v => v) func118 (fun W S => C.s_l1Split W hv1_1) fun A1_1 k1_1 => ?_)
  refine p 1 ?_
  refine rend ?_
  refine c_seq ?_
  refine c_seq ?_
  refine r_start ?_
  refine p 3 ?_
  refine rend ?_
  refine c_or ((List.length v1_1 : Int) != 2) (fun q1 => ?_) (fun q1 => ?_)
  · replace h := H.t q1 h
    refine c_seq ?_
    refine r_start ?_
    refine p 1 ?_
    refine xx rfl (x_sto 0 g0_0 0 (eConstraint zConstraint) ?_)
    refine p 1 ?_
    refine rend ?_
    replace h := H.done h
    subst h
    exact ret func45 rfl (vs := [.agg (eConstraint zConstraint).toArray, .bool false]) (.cell 0 g0_0 rfl (by kernel_rfl) (by kernel_rfl) (.tmp (by kernel_rfl) .nil)) rfl (fun W S => ⟨rfl, S.below⟩)
  replace h := H.f q1 h
  refine c_skip ?_
  refine c_seq ?_
  refine c_seq ?_
  refine r_start ?_
  obtain ⟨v4_0, hv4_0, h⟩ := H.call h
  refine xx rfl (e_cr [] (fun v => v) func114 (fun W S => C.s_ruNames W hv4_0) fun A4_0 k4_0 => ?_)
  refine p 2 ?_
  refine rend ?_
  refine c_block ?_
  refine joinE (X := Unit) 0 (H.or h) (fun (x : Unit) => x) (fun _ => [box g0_0 64 (eConstraint zConstraint), rowT eS w.heap.size 9 (.slice A1_1 (List.length v1_1) k1_1) v1_1, rowT eS w.heap.size 9 (.slice A4_0 (List.length v4_0) k4_0) v4_0]) (fun _ u => (jk u 0 2 (.pointer (some ⟨g0_0, 0, none⟩) :: (jk u 3 36 [])))) (fun h hj2 => ?_) ?_
  · skip
    refine rangeR (X := Unit) (s_own 2) (fun (x : Unit) => x) (fun _ => [box g0_0 64 (eConstraint zConstraint), rowT eS w.heap.size 9 (.slice A1_1 (List.length v1_1) k1_1) v1_1, rowT eS w.heap.size 9 (.slice A4_0 (List.length v4_0) k4_0) v4_0]) (fun (j3 : Nat) _ u => (jk u 0 2 (.pointer (some ⟨g0_0, 0, none⟩) :: (jk u 3 1 (.slice A1_1 (List.length v1_1) k1_1 :: (jk u 5 9 (.slice A4_0 (List.length v4_0) k4_0 :: .int .i64 (List.length v4_0 : Int) :: .int .i64 (j3 : Int) :: (jk u 17 22 [])))))))) () h (by kernel_rfl) (by kernel_rfl) ?_ ?_
    · intro j3 x u x4 q5 hg6 hw7 h
      refine c_seq ?_
      refine r_start ?_
      refine p 1 ?_
      refine rend ?_
      refine c_seq ?_
      refine c_yes q5 ?_
      refine c_skip ?_
      refine c_seq ?_
      refine c_block ?_
      refine c_seq ?_
      refine r_start ?_
      refine p 1 ?_
      refine xq rfl (y_idx (e := eS) (el := 9) hg6 (s_own 2)) ?_
      refine xq rfl (y_el (e := eS) 0 (.string (bs x4)) hg6 (s_own 2)) ?_
      refine p 2 ?_
      refine rend ?_
      refine c_seq ?_
      refine r_start ?_
      refine p 2 ?_
      obtain ⟨y7_2, hy7_2, h⟩ := H.call h
      refine xq rfl (y_idx (e := eS) (el := 9) hy7_2 (s_own 1)) ?_
      refine xq rfl (y_el (e := eS) 0 (.string (bs y7_2)) hy7_2 (s_own 1)) ?_
      obtain ⟨v7_4, hv7_4, h⟩ := H.call h
      refine xq rfl (y_call [.string (bs y7_2)] (.int .i64 v7_4) func119 (fun W S => C.s_l1Read W hv7_4)) ?_
      refine p 1 ?_
      refine xx rfl (x_new (eConstraint zConstraint) fun g7_6 => ?_)
      refine xx rfl (x_sto 3 g7_6 0 (eConstraint (⟨(j3 : Int), v7_4⟩ : Constraint)) ?_)
      refine rend ?_
      refine c_seq ?_
      refine r_start ?_
      refine p 2 ?_
      obtain ⟨y8_2, hy8_2, h⟩ := H.call h
      refine xq rfl (y_idx (e := eS) (el := 9) hy8_2 (s_own 1)) ?_
      refine xq rfl (y_el (e := eS) 0 (.string (bs y8_2)) hy8_2 (s_own 1)) ?_
      refine p 2 ?_
      refine br (seq x4 y8_2) (fun q8 => ?_) (fun q8 => ?_)
      · replace h := H.t q8 h
        refine o_set 32 (congrArg Value.bool q8) ?_
        refine xq rfl (y_load (.agg (eConstraint (⟨(j3 : Int), v7_4⟩ : Constraint)).toArray) 3 g7_6 0) ?_
        obtain ⟨v8_7, hv8_7, h⟩ := H.call h
        refine xq rfl (y_call [.agg (eConstraint (⟨(j3 : Int), v7_4⟩ : Constraint)).toArray] (.bool v8_7) func109 (fun W S => C.s_ruGood W hv8_7)) ?_
        refine p 1 ?_
        refine rend ?_
        refine c_or v8_7 (fun q9 => ?_) (fun q9 => ?_)
        · replace h := H.t q9 h
          refine c_seq ?_
          refine r_start ?_
          refine xq rfl (y_load (.agg (eConstraint (⟨(j3 : Int), v7_4⟩ : Constraint)).toArray) 3 g7_6 0) ?_
          refine xx rfl (x_sto 0 g0_0 0 (eConstraint (⟨(j3 : Int), v7_4⟩ : Constraint)) ?_)
          refine p 1 ?_
          refine rend ?_
          replace h := H.inr h
          replace h := H.done h
          subst h
          exact ret func45 rfl (vs := [.agg (eConstraint (⟨(j3 : Int), v7_4⟩ : Constraint)).toArray, .bool true]) (.cell 0 g0_0 rfl (by kernel_rfl) (by kernel_rfl) (.tmp (by kernel_rfl) .nil)) rfl (fun W S => ⟨rfl, S.below⟩)
        replace h := H.f q9 h
        refine c_skip ?_
        refine c_inb ?_
        refine r_start ?_
        refine p 2 ?_
        refine rend ?_
        refine c_set 16 (ci hw7) ?_
        replace h := H.inl h
        exact h () _ _ rfl (by kernel_rfl) (by kernel_rfl)
      replace h := H.f q8 h
      refine o_set 32 (congrArg Value.bool q8) ?_
      refine p 3 ?_
      refine rend ?_
      refine c_f (by kernel_rfl) ?_
      refine c_skip ?_
      refine c_inb ?_
      refine r_start ?_
      refine p 2 ?_
      refine rend ?_
      refine c_set 16 (ci hw7) ?_
      replace h := H.inl h
      exact h () _ _ rfl (by kernel_rfl) (by kernel_rfl)
    · intro x u q5 h
      refine c_seq ?_
      refine r_start ?_
      refine p 1 ?_
      refine rend ?_
      refine c_seq ?_
      refine c_no q5 ?_
      refine cx ?_
      replace h := H.done h
      exact hj2 () _ _ h (by kernel_rfl) (by kernel_rfl)
  intro x u h
  refine c_seq ?_
  refine r_start ?_
  refine p 1 ?_
  refine xx rfl (x_sto 0 g0_0 0 (eConstraint zConstraint) ?_)
  refine p 1 ?_
  refine rend ?_
  replace h := H.done h
  subst h
  exact ret func45 rfl (vs := [.agg (eConstraint zConstraint).toArray, .bool false]) (.cell 0 g0_0 rfl (by kernel_rfl) (by kernel_rfl) (.tmp (by kernel_rfl) .nil)) rfl (fun W S => ⟨rfl, S.below⟩)
theorem C.i_those_i_Constraint {a0 : (List Constraint)} {A0 : Option Addr} {k0 : Nat} {a1 : (Constraint → Option Bool)} {g1 : Nat} {cp1 : List Value} {r : (List Int)} (w : World) (h : X.i_those_i_Constraint a0 a1 = some r) (h0 : RdT nConstraint w (.slice A0 (List.length a0) k0) a0) (hg1 : isFn prog g1 = true) (hF1 : ∀ (x0 : Constraint) (r : Bool) (W : World), Up w W → a1 x0 = some r → Calls prog g1 (([.agg (eConstraint x0).toArray] : List Value) ++ cp1).toArray W (Ret W (.bool r))) : Calls prog 121 #[.slice A0 (List.length a0) k0, .func (.func g1) #[] cp1.toArray] w (RetR (eI .i64) 3 w r (fun v => v)) := by
  refine calls (M := no) (args := [.slice A0 (List.length a0) k0, .func (.func g1) #[] cp1.toArray]) func121 rfl ?_
  replace h : H (X.i_those_i_Constraint a0 a1) (fun o => o = r) := H.mk h
  unfold X.i_those_i_Constraint at h
  refine c_seq ?_
  refine r_start ?_
  refine p 1 ?_
  refine rend ?_
  refine c_seq ?_
  refine r_start ?_
  refine p 1 ?_
  refine rend ?_
  refine c_seq ?_
  refine c_seq ?_
  refine r_start ?_
  refine p 3 ?_
  refine rend ?_
  refine c_block ?_
  refine c_nil (eI .i64) 3 ?_
  refine joinH (X := ((List Int) × Option Addr × Nat)) 0 (H.bnd h) (fun ⟨l4, A5, k6⟩ => l4) (fun ⟨l4, A5, k6⟩ => [rowT (eI .i64) w.heap.size 3 (.slice A5 (List.length l4) k6) l4]) (fun ⟨l4, A5, k6⟩ u => (jk u 0 5 (.slice A5 (List.length l4) k6 :: (jk u 6 18 [])))) (fun h hj7 => ?_) ?_
  · skip
    refine rangeR (X := ((List Int) × Option Addr × Nat)) (s_arg h0) (fun ⟨l1, A2, k3⟩ => l1) (fun ⟨l1, A2, k3⟩ => [rowT (eI .i64) w.heap.size 3 (.slice A2 (List.length l1) k3) l1]) (fun (j8 : Nat) ⟨l1, A2, k3⟩ u => (jk u 0 1 (.func (.func g1) #[] cp1.toArray :: (jk u 2 3 (.slice A2 (List.length l1) k3 :: (jk u 6 2 (.slice A0 (List.length a0) k0 :: .int .i64 (List.length a0 : Int) :: .int .i64 (j8 : Int) :: (jk u 11 13 [])))))))) (([] : List Int), none, 0) h (by kernel_rfl) (by kernel_rfl) ?_ ?_
    · intro j8 x u x9 q10 hg11 hw12 h
      obtain ⟨l1, A2, k3⟩ := x
      refine c_seq ?_
      refine r_start ?_
      refine p 1 ?_
      refine rend ?_
      refine c_seq ?_
      refine c_yes q10 ?_
      refine c_skip ?_
      refine c_seq ?_
      refine c_block ?_
      refine c_seq ?_
      refine r_start ?_
      refine p 1 ?_
      refine xq rfl (y_idx (e := nConstraint) (el := 64) hg11 (s_arg h0)) ?_
      refine xq rfl (y_el (e := nConstraint) 0 (.agg (eConstraint x9).toArray) hg11 (s_arg h0)) ?_
      refine xx rfl (x_new (eConstraint zConstraint) fun g4_3 => ?_)
      refine p 1 ?_
      refine xx rfl (x_sto 1 g4_3 0 (eConstraint x9) ?_)
      refine rend ?_
      refine c_seq ?_
      refine r_start ?_
      refine p 1 ?_
      refine xq rfl (y_load (.agg (eConstraint x9).toArray) 1 g4_3 0) ?_
      obtain ⟨v5_2, hv5_2, h⟩ := H.call h
      refine xq rfl (y_cf cp1 [.agg (eConstraint x9).toArray] (.bool v5_2) hg1 (fun W S => hF1 _ _ W S.below hv5_2)) ?_
      refine rend ?_
      refine c_or v5_2 (fun q13 => ?_) (fun q13 => ?_)
      · replace h := H.t q13 h
        refine r_start ?_
        refine p 2 ?_
        refine xx rfl (e_lit (e := (eI .i64)) (el := 3) [.int .i64 (j8 : Int)] ([(j8 : Int)] : List Int) fun A6_2 k6_2 => ?_)
        obtain ⟨y6_3, hy6_3, h⟩ := H.call h
        refine xx rfl (e_app 0 hy6_3 (s_own 2) fun A6_3 k6_3 => ?_)
        refine p 1 ?_
        refine rend ?_
        refine c_inb ?_
        refine r_start ?_
        refine p 2 ?_
        refine rend ?_
        refine c_set 10 (ci hw12) ?_
        replace h := H.inl h
        exact h (y6_3, A6_3, k6_3) _ _ rfl (by kernel_rfl) (by kernel_rfl)
      replace h := H.f q13 h
      refine c_skip ?_
      refine c_inb ?_
      refine r_start ?_
      refine p 2 ?_
      refine rend ?_
      refine c_set 10 (ci hw12) ?_
      replace h := H.inl h
      exact h (l1, A2, k3) _ _ rfl (by kernel_rfl) (by kernel_rfl)
    · intro x u q10 h
      obtain ⟨l1, A2, k3⟩ := x
      refine c_seq ?_
      refine r_start ?_
      refine p 1 ?_
      refine rend ?_
      refine c_seq ?_
      refine c_no q10 ?_
      refine cx ?_
      replace h := H.done h
      exact hj7 (l1, A2, k3) _ _ h (by kernel_rfl) (by kernel_rfl)
  intro x u h
  obtain ⟨l4, A5, k6⟩ := x
  refine c_seq ?_
  refine r_start ?_
  refine p 2 ?_
  refine rend ?_
  replace h := H.done h
  subst h
  exact ret func121 rfl (vs := [.slice A5 (List.length l4) k6]) (.tmp (by kernel_rfl) .nil) rfl (fun W S => ⟨_, _, rfl, S.row 0, S.below⟩)
theorem C.i_BrokenBy_1 {a0 : Constraint} {a1 : Sign} {p1 : Nat} {r : Bool} (w : World) (h : X.i_BrokenBy_1 a1 a0 = some r) (hp1 : w.heap[p1]? = some (.cells (eSign a1 : List Value).toArray 38 (0, 0))) : Calls prog 122 #[.agg (eConstraint a0).toArray, .pointer (some ⟨p1, 0, none⟩)] w (Ret w (.bool r)) := by
  refine calls (M := no) (args := [.agg (eConstraint a0).toArray, .pointer (some ⟨p1, 0, none⟩)]) func122 rfl ?_
  replace h : H (X.i_BrokenBy_1 a1 a0) (fun o => o = r) := H.mk h
  unfold X.i_BrokenBy_1 at h
  refine c_seq ?_
  refine r_start ?_
  refine xx rfl (x_box (eConstraint a0) fun g0_0 => ?_)
  refine p 1 ?_
  refine rend ?_
  refine c_seq ?_
  refine r_start ?_
  refine xq rfl (y_load (.agg (eConstraint a0).toArray) 0 g0_0 0) ?_
  refine xq rfl (y_ld0 (.agg (eSign a1).toArray) p1 0 hp1) ?_
  obtain ⟨v1_2, hv1_2, h⟩ := H.call h
  refine xq rfl (y_call [.agg (eConstraint a0).toArray, .agg (eSign a1).toArray] (.bool v1_2) func105 (fun W S => C.i_Constraint_keptBy W hv1_2)) ?_
  refine p 2 ?_
  refine rend ?_
  replace h := H.done h
  subst h
  exact ret func122 rfl (vs := [.bool (!v1_2)]) (.tmp (by kernel_rfl) .nil) rfl (fun W S => ⟨rfl, S.below⟩)
theorem C.i_BrokenBy {fu : Nat} {a0 : Sign} {a1 : (List Constraint)} {A1 : Option Addr} {k1 : Nat} {r : ((List Int) × Bool)} (w : World) (h : X.i_BrokenBy fu a0 a1 = some r) (h1 : RdT nConstraint w (.slice A1 (List.length a1) k1) a1) : Calls prog 47 #[.agg (eSign a0).toArray, .slice A1 (List.length a1) k1] w (RetR (eI .i64) 3 w r.1 (fun v => .tuple #[v, .bool r.2])) := by
  refine calls (M := no) (args := [.agg (eSign a0).toArray, .slice A1 (List.length a1) k1]) func47 rfl ?_
  replace h : H (X.i_BrokenBy fu a0 a1) (fun o => o = r) := H.mk h
  unfold X.i_BrokenBy at h
  refine c_seq ?_
  refine r_start ?_
  refine xx rfl (x_box (eSign a0) fun g0_0 => ?_)
  refine p 2 ?_
  refine rend ?_
  refine c_seq ?_
  refine c_seq ?_
  refine r_start ?_
  refine xq rfl (y_load (.agg (eSign a0).toArray) 0 g0_0 0) ?_
  obtain ⟨v1_1, hv1_1, h⟩ := H.call h
  refine xq rfl (y_call [.agg (eSign a0).toArray] (.bool v1_1) func21 (fun W S => C.i_IsSign W hv1_1)) ?_
  refine p 2 ?_
  refine br (!v1_1) (fun q1 => ?_) (fun q1 => ?_)
  · replace h := H.t q1 h
    refine o_set 9 (congrArg Value.bool q1) ?_
    refine p 4 ?_
    refine rend ?_
    refine c_t (by kernel_rfl) ?_
    refine c_seq ?_
    refine r_start ?_
    refine p 2 ?_
    refine rend ?_
    replace h := H.done h
    subst h
    exact ret func47 rfl (vs := [.slice none 0 0, .bool false]) (.tmp (by kernel_rfl) (.tmp (by kernel_rfl) .nil)) rfl (fun W S => ⟨none, 0, rfl, World.ownsRow_nil _ _ _ _, S.below⟩)
  replace h := H.f q1 h
  refine o_set 9 (congrArg Value.bool q1) ?_
  refine p 1 ?_
  obtain ⟨v1_5, hv1_5, h⟩ := H.call h
  refine xq rfl (y_call [.slice A1 (List.length a1) k1] (.bool v1_5) func96 (fun W S => C.i_areConstraints W hv1_5 ((s_arg h1).out W S))) ?_
  refine p 2 ?_
  refine rend ?_
  refine c_or (!v1_5) (fun q2 => ?_) (fun q2 => ?_)
  · replace h := H.t q2 h
    refine c_seq ?_
    refine r_start ?_
    refine p 2 ?_
    refine rend ?_
    replace h := H.done h
    subst h
    exact ret func47 rfl (vs := [.slice none 0 0, .bool false]) (.tmp (by kernel_rfl) (.tmp (by kernel_rfl) .nil)) rfl (fun W S => ⟨none, 0, rfl, World.ownsRow_nil _ _ _ _, S.below⟩)
  replace h := H.f q2 h
  refine c_skip ?_
  refine c_seq ?_
  refine r_start ?_
  refine p 2 ?_
  obtain ⟨v3_2, hv3_2, h⟩ := H.call h
  refine xx rfl (e_cr [.slice A1 (List.length a1) k1, .func (.func 122) #[] #[.pointer (some ⟨g0_0, 0, none⟩)]] (fun v => v) func121 (fun W S => C.i_those_i_Constraint W hv3_2 ((s_arg h1).out W S) (isFn_of func122) (fun x0_2 r W2 hu2 hx2 => C.i_BrokenBy_1 W2 hx2 (bx_up (S.bx 0) hu2))) fun A3_2 k3_2 => ?_)
  refine p 2 ?_
  refine rend ?_
  replace h := H.done h
  subst h
  exact ret func47 rfl (vs := [.slice A3_2 (List.length v3_2) k3_2, .bool true]) (.tmp (by kernel_rfl) (.tmp (by kernel_rfl) .nil)) rfl (fun W S => ⟨_, _, rfl, S.row 1, S.below⟩)
theorem C.s_BrokenBy {fu : Nat} {a0 : Sign} {a1 : (List Constraint)} {A1 : Option Addr} {k1 : Nat} {r : ((List Int) × Bool)} (w : World) (h : X.s_BrokenBy fu a0 a1 = some r) (h1 : RdT nConstraint w (.slice A1 (List.length a1) k1) a1) : Calls prog 48 #[.agg (eSign a0).toArray, .slice A1 (List.length a1) k1] w (RetR (eI .i64) 3 w r.1 (fun v => .tuple #[v, .bool r.2])) := by
  refine calls (M := no) (args := [.agg (eSign a0).toArray, .slice A1 (List.length a1) k1]) func48 rfl ?_
  replace h : H (X.s_BrokenBy fu a0 a1) (fun o => o = r) := H.mk h
  unfold X.s_BrokenBy at h
  refine c_seq ?_
  refine r_start ?_
  refine xx rfl (x_box (eSign a0) fun g0_0 => ?_)
  refine p 2 ?_
  refine rend ?_
  refine c_seq ?_
  refine c_seq ?_
  refine r_start ?_
  refine xq rfl (y_load (.agg (eSign a0).toArray) 0 g0_0 0) ?_
  obtain ⟨v1_1, hv1_1, h⟩ := H.call h
  refine xq rfl (y_call [.agg (eSign a0).toArray] (.bool v1_1) func75 (fun W S => C.s_siGood W hv1_1)) ?_
  refine p 2 ?_
  refine br (!v1_1) (fun q1 => ?_) (fun q1 => ?_)
  · replace h := H.t q1 h
    refine o_set 9 (congrArg Value.bool q1) ?_
    refine p 4 ?_
    refine rend ?_
    refine c_t (by kernel_rfl) ?_
    refine c_seq ?_
    refine r_start ?_
    refine p 2 ?_
    refine rend ?_
    replace h := H.done h
    subst h
    exact ret func48 rfl (vs := [.slice none 0 0, .bool false]) (.tmp (by kernel_rfl) (.tmp (by kernel_rfl) .nil)) rfl (fun W S => ⟨none, 0, rfl, World.ownsRow_nil _ _ _ _, S.below⟩)
  replace h := H.f q1 h
  refine o_set 9 (congrArg Value.bool q1) ?_
  refine p 1 ?_
  obtain ⟨v1_5, hv1_5, h⟩ := H.call h
  refine xq rfl (y_call [.slice A1 (List.length a1) k1] (.bool v1_5) func100 (fun W S => C.s_ruAll W hv1_5 ((s_arg h1).out W S))) ?_
  refine p 2 ?_
  refine rend ?_
  refine c_or (!v1_5) (fun q2 => ?_) (fun q2 => ?_)
  · replace h := H.t q2 h
    refine c_seq ?_
    refine r_start ?_
    refine p 2 ?_
    refine rend ?_
    replace h := H.done h
    subst h
    exact ret func48 rfl (vs := [.slice none 0 0, .bool false]) (.tmp (by kernel_rfl) (.tmp (by kernel_rfl) .nil)) rfl (fun W S => ⟨none, 0, rfl, World.ownsRow_nil _ _ _ _, S.below⟩)
  replace h := H.f q2 h
  refine c_skip ?_
  refine c_seq ?_
  refine r_start ?_
  refine xq rfl (y_load (.agg (eSign a0).toArray) 0 g0_0 0) ?_
  refine p 1 ?_
  obtain ⟨v3_2, hv3_2, h⟩ := H.call h
  refine xx rfl (e_cr [.agg (eSign a0).toArray, .slice A1 (List.length a1) k1] (fun v => v) func110 (fun W S => C.s_ruBroken W hv3_2 ((s_arg h1).out W S)) fun A3_2 k3_2 => ?_)
  refine p 2 ?_
  refine rend ?_
  replace h := H.done h
  subst h
  exact ret func48 rfl (vs := [.slice A3_2 (List.length v3_2) k3_2, .bool true]) (.tmp (by kernel_rfl) (.tmp (by kernel_rfl) .nil)) rfl (fun W S => ⟨_, _, rfl, S.row 1, S.below⟩)
theorem C.i_KeepsConstraint {fu : Nat} {a0 : Sign} {a1 : Constraint} {r : (Bool × Bool)} (w : World) (h : X.i_KeepsConstraint fu a0 a1 = some r) : Calls prog 49 #[.agg (eSign a0).toArray, .agg (eConstraint a1).toArray] w (Ret w (.tuple #[.bool r.1, .bool r.2])) := by
  refine calls (M := no) (args := [.agg (eSign a0).toArray, .agg (eConstraint a1).toArray]) func49 rfl ?_
  replace h : H (X.i_KeepsConstraint fu a0 a1) (fun o => o = r) := H.mk h
  unfold X.i_KeepsConstraint at h
  refine c_seq ?_
  refine r_start ?_
  refine xx rfl (x_box (eSign a0) fun g0_0 => ?_)
  refine xx rfl (x_box (eConstraint a1) fun g0_1 => ?_)
  refine p 2 ?_
  refine rend ?_
  refine c_seq ?_
  refine c_seq ?_
  refine r_start ?_
  refine xq rfl (y_load (.agg (eSign a0).toArray) 0 g0_0 0) ?_
  obtain ⟨v1_1, hv1_1, h⟩ := H.call h
  refine xq rfl (y_call [.agg (eSign a0).toArray] (.bool v1_1) func21 (fun W S => C.i_IsSign W hv1_1)) ?_
  refine p 2 ?_
  refine br (!v1_1) (fun q1 => ?_) (fun q1 => ?_)
  · replace h := H.t q1 h
    refine o_set 9 (congrArg Value.bool q1) ?_
    refine p 4 ?_
    refine rend ?_
    refine c_t (by kernel_rfl) ?_
    refine c_seq ?_
    refine r_start ?_
    refine p 2 ?_
    refine rend ?_
    replace h := H.done h
    subst h
    exact ret func49 rfl (vs := [.bool false, .bool false]) (.tmp (by kernel_rfl) (.tmp (by kernel_rfl) .nil)) rfl (fun W S => ⟨rfl, S.below⟩)
  replace h := H.f q1 h
  refine o_set 9 (congrArg Value.bool q1) ?_
  refine xq rfl (y_load (.agg (eConstraint a1).toArray) 1 g0_1 0) ?_
  obtain ⟨v1_5, hv1_5, h⟩ := H.call h
  refine xq rfl (y_call [.agg (eConstraint a1).toArray] (.bool v1_5) func46 (fun W S => C.i_IsConstraint W hv1_5)) ?_
  refine p 2 ?_
  refine rend ?_
  refine c_or (!v1_5) (fun q2 => ?_) (fun q2 => ?_)
  · replace h := H.t q2 h
    refine c_seq ?_
    refine r_start ?_
    refine p 2 ?_
    refine rend ?_
    replace h := H.done h
    subst h
    exact ret func49 rfl (vs := [.bool false, .bool false]) (.tmp (by kernel_rfl) (.tmp (by kernel_rfl) .nil)) rfl (fun W S => ⟨rfl, S.below⟩)
  replace h := H.f q2 h
  refine c_skip ?_
  refine c_seq ?_
  refine r_start ?_
  refine xq rfl (y_load (.agg (eConstraint a1).toArray) 1 g0_1 0) ?_
  refine xq rfl (y_load (.agg (eSign a0).toArray) 0 g0_0 0) ?_
  obtain ⟨v3_2, hv3_2, h⟩ := H.call h
  refine xq rfl (y_call [.agg (eConstraint a1).toArray, .agg (eSign a0).toArray] (.bool v3_2) func105 (fun W S => C.i_Constraint_keptBy W hv3_2)) ?_
  refine p 2 ?_
  refine rend ?_
  replace h := H.done h
  subst h
  exact ret func49 rfl (vs := [.bool v3_2, .bool true]) (.tmp (by kernel_rfl) (.tmp (by kernel_rfl) .nil)) rfl (fun W S => ⟨rfl, S.below⟩)
theorem C.s_KeepsConstraint {fu : Nat} {a0 : Sign} {a1 : Constraint} {r : (Bool × Bool)} (w : World) (h : X.s_KeepsConstraint fu a0 a1 = some r) : Calls prog 50 #[.agg (eSign a0).toArray, .agg (eConstraint a1).toArray] w (Ret w (.tuple #[.bool r.1, .bool r.2])) := by
  refine calls (M := no) (args := [.agg (eSign a0).toArray, .agg (eConstraint a1).toArray]) func50 rfl ?_
  replace h : H (X.s_KeepsConstraint fu a0 a1) (fun o => o = r) := H.mk h
  unfold X.s_KeepsConstraint at h
  refine c_seq ?_
  refine r_start ?_
  refine xx rfl (x_box (eSign a0) fun g0_0 => ?_)
  refine xx rfl (x_box (eConstraint a1) fun g0_1 => ?_)
  refine p 2 ?_
  refine rend ?_
  refine c_seq ?_
  refine c_seq ?_
  refine r_start ?_
  refine xq rfl (y_load (.agg (eSign a0).toArray) 0 g0_0 0) ?_
  obtain ⟨v1_1, hv1_1, h⟩ := H.call h
  refine xq rfl (y_call [.agg (eSign a0).toArray] (.bool v1_1) func75 (fun W S => C.s_siGood W hv1_1)) ?_
  refine p 2 ?_
  refine br (!v1_1) (fun q1 => ?_) (fun q1 => ?_)
  · replace h := H.t q1 h
    refine o_set 9 (congrArg Value.bool q1) ?_
    refine p 4 ?_
    refine rend ?_
    refine c_t (by kernel_rfl) ?_
    refine c_seq ?_
    refine r_start ?_
    refine p 2 ?_
    refine rend ?_
    replace h := H.done h
    subst h
    exact ret func50 rfl (vs := [.bool false, .bool false]) (.tmp (by kernel_rfl) (.tmp (by kernel_rfl) .nil)) rfl (fun W S => ⟨rfl, S.below⟩)
  replace h := H.f q1 h
  refine o_set 9 (congrArg Value.bool q1) ?_
  refine xq rfl (y_load (.agg (eConstraint a1).toArray) 1 g0_1 0) ?_
  obtain ⟨v1_5, hv1_5, h⟩ := H.call h
  refine xq rfl (y_call [.agg (eConstraint a1).toArray] (.bool v1_5) func109 (fun W S => C.s_ruGood W hv1_5)) ?_
  refine p 2 ?_
  refine rend ?_
  refine c_or (!v1_5) (fun q2 => ?_) (fun q2 => ?_)
  · replace h := H.t q2 h
    refine c_seq ?_
    refine r_start ?_
    refine p 2 ?_
    refine rend ?_
    replace h := H.done h
    subst h
    exact ret func50 rfl (vs := [.bool false, .bool false]) (.tmp (by kernel_rfl) (.tmp (by kernel_rfl) .nil)) rfl (fun W S => ⟨rfl, S.below⟩)
  replace h := H.f q2 h
  refine c_skip ?_
  refine c_seq ?_
  refine r_start ?_
  refine xq rfl (y_load (.agg (eSign a0).toArray) 0 g0_0 0) ?_
  refine xq rfl (y_load (.agg (eConstraint a1).toArray) 1 g0_1 0) ?_
  obtain ⟨v3_2, hv3_2, h⟩ := H.call h
  refine xq rfl (y_call [.agg (eSign a0).toArray, .agg (eConstraint a1).toArray] (.bool v3_2) func102 (fun W S => C.s_ruKeeps W hv3_2)) ?_
  refine p 2 ?_
  refine rend ?_
  replace h := H.done h
  subst h
  exact ret func50 rfl (vs := [.bool v3_2, .bool true]) (.tmp (by kernel_rfl) (.tmp (by kernel_rfl) .nil)) rfl (fun W S => ⟨rfl, S.below⟩)
theorem C.l_FnConstraints {fu : Nat} {a0 : (List Int)} {A0 : Option Addr} {k0 : Nat} {a1 : (List Int)} {A1 : Option Addr} {k1 : Nat} {r : Bool} (w : World) (h : X.l_FnConstraints fu a0 a1 = some r) (h0 : RdT (eI .u8) w (.slice A0 (List.length a0) k0) a0) (h1 : RdT (eI .u8) w (.slice A1 (List.length a1) k1) a1) : Calls prog 5 #[.slice A0 (List.length a0) k0, .slice A1 (List.length a1) k1] w (Ret w (.bool r)) := by
  refine calls (M := no) (args := [.slice A0 (List.length a0) k0, .slice A1 (List.length a1) k1]) func5 rfl ?_
  replace h : H (X.l_FnConstraints fu a0 a1) (fun o => o = r) := H.mk h
  unfold X.l_FnConstraints at h
  refine c_seq ?_
  refine r_start ?_
  refine p 1 ?_
  refine rend ?_
  refine c_seq ?_
  refine c_seq ?_
  refine r_start ?_
  refine p 6 ?_
  refine rend ?_
  refine c_or (decide ((wr ((List.length a0 : Int) + (List.length a1 : Int))) > 1048576)) (fun q1 => ?_) (fun q1 => ?_)
  · replace h := H.t q1 h
    refine c_seq ?_
    refine r_start ?_
    refine p 1 ?_
    refine rend ?_
    replace h := H.done h
    subst h
    exact ret func5 rfl (vs := [.bool true]) (.tmp (by kernel_rfl) .nil) rfl (fun W S => ⟨rfl, S.below⟩)
  replace h := H.f q1 h
  refine c_skip ?_
  refine c_seq ?_
  refine r_start ?_
  refine p 1 ?_
  obtain ⟨v3_1, hv3_1, h⟩ := H.call h
  refine xx rfl (e_cr2 [.slice A0 (List.length a0) k0] (fun v u => .tuple #[v, u]) func37 (fun W S => C.s_DrawLawfulSigns W hv3_1 ((s_arg h0).out W S)) fun A3_1 k3_1 AA3_1 kk3_1 => ?_)
  refine p 5 ?_
  refine rend ?_
  refine c_seq ?_
  refine r_start ?_
  refine p 2 ?_
  obtain ⟨v4_2, hv4_2, h⟩ := H.call h
  refine xx rfl (e_cr [.slice A3_1 (List.length v3_1.1) k3_1, .slice AA3_1 (List.length v3_1.2) kk3_1] (fun v => .tuple #[v, .bool v4_2.2]) func35 (fun W S => C.i_LawfulSigns W hv4_2 ((s_own 0).out W S) ((s_own 1).out W S)) fun A4_2 k4_2 => ?_)
  refine p 5 ?_
  refine rend ?_
  refine c_seq ?_
  refine r_start ?_
  refine p 2 ?_
  obtain ⟨v5_2, hv5_2, h⟩ := H.call h
  refine xx rfl (e_cr [.slice A3_1 (List.length v3_1.1) k3_1, .slice AA3_1 (List.length v3_1.2) kk3_1] (fun v => .tuple #[v, .bool v5_2.2]) func38 (fun W S => C.s_LawfulSigns W hv5_2 ((s_own 0).out W S) ((s_own 1).out W S)) fun A5_2 k5_2 => ?_)
  refine p 5 ?_
  refine rend ?_
  refine c_seq ?_
  refine r_start ?_
  refine p 1 ?_
  obtain ⟨v6_1, hv6_1, h⟩ := H.call h
  refine xx rfl (e_cr [.slice A1 (List.length a1) k1] (fun v => .tuple #[v, .agg (eConstraint v6_1.2).toArray]) func39 (fun W S => C.s_DrawBreakersOf W hv6_1 ((s_arg h1).out W S)) fun A6_1 k6_1 => ?_)
  refine p 3 ?_
  refine xx rfl (x_new (eConstraint zConstraint) fun g6_5 => ?_)
  refine p 1 ?_
  refine xx rfl (x_sto 5 g6_5 0 (eConstraint v6_1.2) ?_)
  refine rend ?_
  refine c_seq ?_
  refine r_start ?_
  refine p 1 ?_
  refine xq rfl (y_load (.agg (eConstraint v6_1.2).toArray) 5 g6_5 0) ?_
  obtain ⟨v7_2, hv7_2, h⟩ := H.call h
  refine xx rfl (e_cr [.slice A6_1 (List.length v6_1.1) k6_1, .agg (eConstraint v6_1.2).toArray] (fun v => .tuple #[v, .bool v7_2.2]) func33 (fun W S => C.i_BreakersOf W hv7_2 ((s_own 4).out W S)) fun A7_2 k7_2 => ?_)
  refine p 5 ?_
  refine rend ?_
  refine c_seq ?_
  refine r_start ?_
  refine p 1 ?_
  refine xq rfl (y_load (.agg (eConstraint v6_1.2).toArray) 5 g6_5 0) ?_
  obtain ⟨v8_2, hv8_2, h⟩ := H.call h
  refine xx rfl (e_cr [.slice A6_1 (List.length v6_1.1) k6_1, .agg (eConstraint v6_1.2).toArray] (fun v => .tuple #[v, .bool v8_2.2]) func36 (fun W S => C.s_BreakersOf W hv8_2 ((s_own 4).out W S)) fun A8_2 k8_2 => ?_)
  refine p 5 ?_
  refine rend ?_
  refine c_seq ?_
  refine r_start ?_
  refine p 1 ?_
  obtain ⟨v9_1, hv9_1, h⟩ := H.call h
  refine xq rfl (y_call [.slice A1 (List.length a1) k1] (.agg (eConstraint v9_1).toArray) func40 (fun W S => C.s_DrawConstraintText W hv9_1 ((s_arg h1).out W S))) ?_
  refine xx rfl (x_new (eConstraint zConstraint) fun g9_2 => ?_)
  refine xx rfl (x_sto 8 g9_2 0 (eConstraint v9_1) ?_)
  refine rend ?_
  refine c_seq ?_
  refine r_start ?_
  refine xq rfl (y_load (.agg (eConstraint v9_1).toArray) 8 g9_2 0) ?_
  obtain ⟨v10_1, hv10_1, h⟩ := H.call h
  refine xq rfl (y_call [.agg (eConstraint v9_1).toArray] (.tuple #[.string (bs v10_1.1), .bool v10_1.2]) func41 (fun W S => C.i_ConstraintText W hv10_1)) ?_
  refine p 5 ?_
  refine rend ?_
  refine c_seq ?_
  refine r_start ?_
  refine xq rfl (y_load (.agg (eConstraint v9_1).toArray) 8 g9_2 0) ?_
  obtain ⟨v11_1, hv11_1, h⟩ := H.call h
  refine xq rfl (y_call [.agg (eConstraint v9_1).toArray] (.tuple #[.string (bs v11_1.1), .bool v11_1.2]) func42 (fun W S => C.s_ConstraintText W hv11_1)) ?_
  refine p 5 ?_
  refine rend ?_
  refine c_seq ?_
  refine r_start ?_
  refine p 1 ?_
  obtain ⟨v12_1, hv12_1, h⟩ := H.call h
  refine xq rfl (y_call [.slice A1 (List.length a1) k1] (.string (bs v12_1)) func43 (fun W S => C.s_DrawParseConstraint W hv12_1 ((s_arg h1).out W S))) ?_
  refine p 1 ?_
  refine rend ?_
  refine frg (fun u => (jk u 0 5 (.slice A3_1 (List.length v3_1.1) k3_1 :: .slice AA3_1 (List.length v3_1.2) kk3_1 :: .slice A4_2 (List.length v4_2.1) k4_2 :: .bool v4_2.2 :: .slice A5_2 (List.length v5_2.1) k5_2 :: .bool v5_2.2 :: .slice A6_1 (List.length v6_1.1) k6_1 :: .pointer (some ⟨g6_5, 0, none⟩) :: .slice A7_2 (List.length v7_2.1) k7_2 :: .bool v7_2.2 :: .slice A8_2 (List.length v8_2.1) k8_2 :: .bool v8_2.2 :: .pointer (some ⟨g9_2, 0, none⟩) :: .string (bs v10_1.1) :: .bool v10_1.2 :: .string (bs v11_1.1) :: .bool v11_1.2 :: .string (bs v12_1) :: (jk u 23 221 [])))) (by kernel_rfl) fun u => ?_
  refine keep 9 (its' := [rowT nSign w.heap.size 38 (.slice A3_1 (List.length v3_1.1) k3_1) v3_1.1, rowT nConstraint w.heap.size 64 (.slice AA3_1 (List.length v3_1.2) kk3_1) v3_1.2, rowT (eI .i64) w.heap.size 3 (.slice A4_2 (List.length v4_2.1) k4_2) v4_2.1, rowT (eI .i64) w.heap.size 3 (.slice A5_2 (List.length v5_2.1) k5_2) v5_2.1, rowT nSign w.heap.size 38 (.slice A6_1 (List.length v6_1.1) k6_1) v6_1.1, box g6_5 64 (eConstraint v6_1.2), rowT (eI .i64) w.heap.size 3 (.slice A7_2 (List.length v7_2.1) k7_2) v7_2.1, rowT (eI .i64) w.heap.size 3 (.slice A8_2 (List.length v8_2.1) k8_2) v8_2.1, box g9_2 64 (eConstraint v9_1)]) (by kernel_rfl) ?_
  refine c_seq ?_
  refine r_start ?_
  refine p 1 ?_
  obtain ⟨v13_1, hv13_1, h⟩ := H.call h
  refine xq rfl (y_call [.string (bs v12_1)] (.tuple #[.agg (eConstraint v13_1.1).toArray, .bool v13_1.2]) func44 (fun W S => C.i_ParseConstraint W hv13_1)) ?_
  refine p 3 ?_
  refine xx rfl (x_new (eConstraint zConstraint) fun g13_5 => ?_)
  refine xx rfl (x_sto 9 g13_5 0 (eConstraint v13_1.1) ?_)
  refine p 1 ?_
  refine rend ?_
  refine c_seq ?_
  refine r_start ?_
  refine p 1 ?_
  obtain ⟨v14_1, hv14_1, h⟩ := H.call h
  refine xq rfl (y_call [.string (bs v12_1)] (.tuple #[.agg (eConstraint v14_1.1).toArray, .bool v14_1.2]) func45 (fun W S => C.s_ParseConstraint W hv14_1)) ?_
  refine p 3 ?_
  refine xx rfl (x_new (eConstraint zConstraint) fun g14_5 => ?_)
  refine xx rfl (x_sto 10 g14_5 0 (eConstraint v14_1.1) ?_)
  refine p 1 ?_
  refine rend ?_
  refine c_seq ?_
  refine c_seq ?_
  refine joinT (X := Bool) (H.bnd h) (fun (x : Bool) => x) (fun b2 => [rowT nSign w.heap.size 38 (.slice A3_1 (List.length v3_1.1) k3_1) v3_1.1, rowT nConstraint w.heap.size 64 (.slice AA3_1 (List.length v3_1.2) kk3_1) v3_1.2, rowT (eI .i64) w.heap.size 3 (.slice A4_2 (List.length v4_2.1) k4_2) v4_2.1, rowT (eI .i64) w.heap.size 3 (.slice A5_2 (List.length v5_2.1) k5_2) v5_2.1, rowT nSign w.heap.size 38 (.slice A6_1 (List.length v6_1.1) k6_1) v6_1.1, box g6_5 64 (eConstraint v6_1.2), rowT (eI .i64) w.heap.size 3 (.slice A7_2 (List.length v7_2.1) k7_2) v7_2.1, rowT (eI .i64) w.heap.size 3 (.slice A8_2 (List.length v8_2.1) k8_2) v8_2.1, box g9_2 64 (eConstraint v9_1), box g13_5 64 (eConstraint v13_1.1), box g14_5 64 (eConstraint v14_1.1)]) (fun b2 u => (jk u 0 5 (.slice A3_1 (List.length v3_1.1) k3_1 :: .slice AA3_1 (List.length v3_1.2) kk3_1 :: (jk u 7 1 (.bool v4_2.2 :: .slice A5_2 (List.length v5_2.1) k5_2 :: (jk u 10 1 (.slice A6_1 (List.length v6_1.1) k6_1 :: .pointer (some ⟨g6_5, 0, none⟩) :: (jk u 13 1 (.bool v7_2.2 :: .slice A8_2 (List.length v8_2.1) k8_2 :: (jk u 16 1 (.pointer (some ⟨g9_2, 0, none⟩) :: .string (bs v10_1.1) :: .bool v10_1.2 :: (jk u 20 130 (.bool b2 :: (jk u 151 93 [])))))))))))))) (fun h hj3 => ?_) ?_
  · skip
    refine r_start ?_
    refine p 4 ?_
    refine br (!(v4_2.2 == v5_2.2)) (fun q4 => ?_) (fun q4 => ?_)
    · replace h := H.t q4 h
      refine o_set 108 (congrArg Value.bool q4) ?_
      refine p 42 ?_
      refine rend ?_
      replace h := H.done h
      exact hj3 true _ _ h (by kernel_rfl) (by kernel_rfl)
    replace h := H.f q4 h
    refine o_set 108 (congrArg Value.bool q4) ?_
    refine p 2 ?_
    obtain ⟨v15_6, hv15_6, h⟩ := H.call h
    refine xq rfl (y_call [.slice A4_2 (List.length v4_2.1) k4_2, .slice A5_2 (List.length v5_2.1) k5_2] (.bool v15_6) func20 (fun W S => C.l_qInts W hv15_6 ((s_own 2).out W S) ((s_own 3).out W S))) ?_
    refine p 3 ?_
    refine br (!v15_6) (fun q5 => ?_) (fun q5 => ?_)
    · replace h := H.t q5 h
      refine o_set 114 (congrArg Value.bool q5) ?_
      refine p 36 ?_
      refine rend ?_
      replace h := H.done h
      exact hj3 true _ _ h (by kernel_rfl) (by kernel_rfl)
    replace h := H.f q5 h
    refine o_set 114 (congrArg Value.bool q5) ?_
    refine p 5 ?_
    refine br (!(v7_2.2 == v8_2.2)) (fun q6 => ?_) (fun q6 => ?_)
    · replace h := H.t q6 h
      refine o_set 119 (congrArg Value.bool q6) ?_
      refine p 31 ?_
      refine rend ?_
      replace h := H.done h
      exact hj3 true _ _ h (by kernel_rfl) (by kernel_rfl)
    replace h := H.f q6 h
    refine o_set 119 (congrArg Value.bool q6) ?_
    refine p 2 ?_
    obtain ⟨v15_17, hv15_17, h⟩ := H.call h
    refine xq rfl (y_call [.slice A7_2 (List.length v7_2.1) k7_2, .slice A8_2 (List.length v8_2.1) k8_2] (.bool v15_17) func20 (fun W S => C.l_qInts W hv15_17 ((s_own 6).out W S) ((s_own 7).out W S))) ?_
    refine p 3 ?_
    refine br (!v15_17) (fun q7 => ?_) (fun q7 => ?_)
    · replace h := H.t q7 h
      refine o_set 125 (congrArg Value.bool q7) ?_
      refine p 25 ?_
      refine rend ?_
      replace h := H.done h
      exact hj3 true _ _ h (by kernel_rfl) (by kernel_rfl)
    replace h := H.f q7 h
    refine o_set 125 (congrArg Value.bool q7) ?_
    refine p 5 ?_
    refine br (!(v10_1.2 == v11_1.2)) (fun q8 => ?_) (fun q8 => ?_)
    · replace h := H.t q8 h
      refine o_set 130 (congrArg Value.bool q8) ?_
      refine p 20 ?_
      refine rend ?_
      replace h := H.done h
      exact hj3 true _ _ h (by kernel_rfl) (by kernel_rfl)
    replace h := H.f q8 h
    refine o_set 130 (congrArg Value.bool q8) ?_
    refine p 5 ?_
    refine br (!seq v10_1.1 v11_1.1) (fun q9 => ?_) (fun q9 => ?_)
    · replace h := H.t q9 h
      refine o_set 135 (congrArg Value.bool q9) ?_
      refine p 15 ?_
      refine rend ?_
      replace h := H.done h
      exact hj3 true _ _ h (by kernel_rfl) (by kernel_rfl)
    replace h := H.f q9 h
    refine o_set 135 (congrArg Value.bool q9) ?_
    refine p 5 ?_
    refine br (!(v13_1.2 == v14_1.2)) (fun q10 => ?_) (fun q10 => ?_)
    · replace h := H.t q10 h
      refine o_set 140 (congrArg Value.bool q10) ?_
      refine p 10 ?_
      refine rend ?_
      replace h := H.done h
      exact hj3 true _ _ h (by kernel_rfl) (by kernel_rfl)
    replace h := H.f q10 h
    refine o_set 140 (congrArg Value.bool q10) ?_
    refine xq rfl (y_load (.agg (eConstraint v13_1.1).toArray) 9 g13_5 0) ?_
    refine xq rfl (y_load (.agg (eConstraint v14_1.1).toArray) 10 g14_5 0) ?_
    refine p 3 ?_
    refine br (!qConstraint v13_1.1 v14_1.1) (fun q11 => ?_) (fun q11 => ?_)
    · replace h := H.t q11 h
      refine o_set 145 (congrArg Value.bool q11) ?_
      refine p 5 ?_
      refine rend ?_
      replace h := H.done h
      exact hj3 true _ _ h (by kernel_rfl) (by kernel_rfl)
    replace h := H.f q11 h
    refine o_set 145 (congrArg Value.bool q11) ?_
    refine p 1 ?_
    refine xq rfl (y_load (.agg (eConstraint v9_1).toArray) 8 g9_2 0) ?_
    obtain ⟨v15_43, hv15_43, h⟩ := H.call h
    refine xq rfl (y_call [.agg (eConstraint v9_1).toArray] (.bool v15_43) func46 (fun W S => C.i_IsConstraint W hv15_43)) ?_
    refine p 2 ?_
    refine rend ?_
    replace h := H.done h
    exact hj3 (!(v10_1.2 == v15_43)) _ _ h (by kernel_rfl) (by kernel_rfl)
  intro b2 u h
  refine c_or b2 (fun q12 => ?_) (fun q12 => ?_)
  · replace h := H.t q12 h
    refine c_seq ?_
    refine r_start ?_
    refine p 1 ?_
    refine rend ?_
    replace h := H.done h
    subst h
    exact ret func5 rfl (vs := [.bool false]) (.tmp (by kernel_rfl) .nil) rfl (fun W S => ⟨rfl, S.below⟩)
  replace h := H.f q12 h
  refine c_skip ?_
  refine c_seq ?_
  refine c_seq ?_
  refine r_start ?_
  refine p 1 ?_
  refine rend ?_
  refine joinTE (X := Unit) (H.or h) (fun (x : Unit) => x) (fun _ => [rowT nSign w.heap.size 38 (.slice A3_1 (List.length v3_1.1) k3_1) v3_1.1, rowT nConstraint w.heap.size 64 (.slice AA3_1 (List.length v3_1.2) kk3_1) v3_1.2, rowT (eI .i64) w.heap.size 3 (.slice A4_2 (List.length v4_2.1) k4_2) v4_2.1, rowT (eI .i64) w.heap.size 3 (.slice A5_2 (List.length v5_2.1) k5_2) v5_2.1, rowT nSign w.heap.size 38 (.slice A6_1 (List.length v6_1.1) k6_1) v6_1.1, box g6_5 64 (eConstraint v6_1.2), rowT (eI .i64) w.heap.size 3 (.slice A7_2 (List.length v7_2.1) k7_2) v7_2.1, rowT (eI .i64) w.heap.size 3 (.slice A8_2 (List.length v8_2.1) k8_2) v8_2.1, box g9_2 64 (eConstraint v9_1), box g13_5 64 (eConstraint v13_1.1), box g14_5 64 (eConstraint v14_1.1)]) (fun _ u => (jk u 0 11 (.slice A6_1 (List.length v6_1.1) k6_1 :: .pointer (some ⟨g6_5, 0, none⟩) :: (jk u 13 1 (.bool v7_2.2 :: .slice A8_2 (List.length v8_2.1) k8_2 :: (jk u 16 1 (.pointer (some ⟨g9_2, 0, none⟩) :: .string (bs v10_1.1) :: .bool v10_1.2 :: (jk u 20 224 [])))))))) (fun h hj13 => ?_) ?_
  · skip
    refine c_or v4_2.2 (fun q14 => ?_) (fun q14 => ?_)
    · replace h := H.t q14 h
      refine c_seq ?_
      refine r_start ?_
      refine p 3 ?_
      refine rend ?_
      refine c_block ?_
      refine joinE (X := Unit) 0 (H.or h) (fun (x : Unit) => x) (fun _ => [rowT nSign w.heap.size 38 (.slice A3_1 (List.length v3_1.1) k3_1) v3_1.1, rowT nConstraint w.heap.size 64 (.slice AA3_1 (List.length v3_1.2) kk3_1) v3_1.2, rowT (eI .i64) w.heap.size 3 (.slice A4_2 (List.length v4_2.1) k4_2) v4_2.1, rowT (eI .i64) w.heap.size 3 (.slice A5_2 (List.length v5_2.1) k5_2) v5_2.1, rowT nSign w.heap.size 38 (.slice A6_1 (List.length v6_1.1) k6_1) v6_1.1, box g6_5 64 (eConstraint v6_1.2), rowT (eI .i64) w.heap.size 3 (.slice A7_2 (List.length v7_2.1) k7_2) v7_2.1, rowT (eI .i64) w.heap.size 3 (.slice A8_2 (List.length v8_2.1) k8_2) v8_2.1, box g9_2 64 (eConstraint v9_1), box g13_5 64 (eConstraint v13_1.1), box g14_5 64 (eConstraint v14_1.1)]) (fun _ u => (jk u 0 11 (.slice A6_1 (List.length v6_1.1) k6_1 :: .pointer (some ⟨g6_5, 0, none⟩) :: (jk u 13 1 (.bool v7_2.2 :: .slice A8_2 (List.length v8_2.1) k8_2 :: (jk u 16 1 (.pointer (some ⟨g9_2, 0, none⟩) :: .string (bs v10_1.1) :: .bool v10_1.2 :: (jk u 20 224 [])))))))) (fun h hj15 => ?_) ?_
      · skip
        refine rangeR (X := Unit) (s_own 0) (fun (x : Unit) => x) (fun _ => [rowT nSign w.heap.size 38 (.slice A3_1 (List.length v3_1.1) k3_1) v3_1.1, rowT nConstraint w.heap.size 64 (.slice AA3_1 (List.length v3_1.2) kk3_1) v3_1.2, rowT (eI .i64) w.heap.size 3 (.slice A4_2 (List.length v4_2.1) k4_2) v4_2.1, rowT (eI .i64) w.heap.size 3 (.slice A5_2 (List.length v5_2.1) k5_2) v5_2.1, rowT nSign w.heap.size 38 (.slice A6_1 (List.length v6_1.1) k6_1) v6_1.1, box g6_5 64 (eConstraint v6_1.2), rowT (eI .i64) w.heap.size 3 (.slice A7_2 (List.length v7_2.1) k7_2) v7_2.1, rowT (eI .i64) w.heap.size 3 (.slice A8_2 (List.length v8_2.1) k8_2) v8_2.1, box g9_2 64 (eConstraint v9_1), box g13_5 64 (eConstraint v13_1.1), box g14_5 64 (eConstraint v14_1.1)]) (fun (j16 : Nat) _ u => (jk u 0 6 (.slice AA3_1 (List.length v3_1.2) kk3_1 :: (jk u 7 2 (.slice A5_2 (List.length v5_2.1) k5_2 :: (jk u 10 1 (.slice A6_1 (List.length v6_1.1) k6_1 :: .pointer (some ⟨g6_5, 0, none⟩) :: (jk u 13 1 (.bool v7_2.2 :: .slice A8_2 (List.length v8_2.1) k8_2 :: (jk u 16 1 (.pointer (some ⟨g9_2, 0, none⟩) :: .string (bs v10_1.1) :: .bool v10_1.2 :: (jk u 20 132 (.slice A3_1 (List.length v3_1.1) k3_1 :: .int .i64 (List.length v3_1.1 : Int) :: .int .i64 (j16 : Int) :: (jk u 155 89 [])))))))))))))) () h (by kernel_rfl) (by kernel_rfl) ?_ ?_
        · intro j16 x u x17 q18 hg19 hw20 h
          refine c_seq ?_
          refine r_start ?_
          refine p 1 ?_
          refine rend ?_
          refine c_seq ?_
          refine c_yes q18 ?_
          refine c_skip ?_
          refine c_seq ?_
          refine c_block ?_
          refine c_seq ?_
          refine r_start ?_
          refine p 1 ?_
          refine xq rfl (y_idx (e := nSign) (el := 38) hg19 (s_own 0)) ?_
          refine xq rfl (y_el (e := nSign) 0 (.agg (eSign x17).toArray) hg19 (s_own 0)) ?_
          refine xx rfl (x_new (eSign zSign) fun g20_3 => ?_)
          refine p 1 ?_
          refine xx rfl (x_sto 11 g20_3 0 (eSign x17) ?_)
          refine rend ?_
          refine c_seq ?_
          refine r_start ?_
          refine xq rfl (y_load (.agg (eSign x17).toArray) 11 g20_3 0) ?_
          refine p 1 ?_
          obtain ⟨v21_2, hv21_2, h⟩ := H.call h
          refine xx rfl (e_cr [.agg (eSign x17).toArray, .slice AA3_1 (List.length v3_1.2) kk3_1] (fun v => .tuple #[v, .bool v21_2.2]) func47 (fun W S => C.i_BrokenBy W hv21_2 ((s_own 1).out W S)) fun A21_2 k21_2 => ?_)
          refine p 5 ?_
          refine rend ?_
          refine c_seq ?_
          refine r_start ?_
          refine xq rfl (y_load (.agg (eSign x17).toArray) 11 g20_3 0) ?_
          refine p 1 ?_
          obtain ⟨v22_2, hv22_2, h⟩ := H.call h
          refine xx rfl (e_cr [.agg (eSign x17).toArray, .slice AA3_1 (List.length v3_1.2) kk3_1] (fun v => .tuple #[v, .bool v22_2.2]) func48 (fun W S => C.s_BrokenBy W hv22_2 ((s_own 1).out W S)) fun A22_2 k22_2 => ?_)
          refine p 5 ?_
          refine rend ?_
          refine c_seq ?_
          refine r_start ?_
          refine p 3 ?_
          refine br (!v21_2.2) (fun q21 => ?_) (fun q21 => ?_)
          · replace h := H.t q21 h
            refine o_set 173 (congrArg Value.bool q21) ?_
            refine p 18 ?_
            refine rend ?_
            refine c_t (by kernel_rfl) ?_
            refine c_seq ?_
            refine r_start ?_
            refine p 1 ?_
            refine rend ?_
            replace h := H.inr h
            replace h := H.inl h
            replace h := H.done h
            subst h
            exact ret func5 rfl (vs := [.bool false]) (.tmp (by kernel_rfl) .nil) rfl (fun W S => ⟨rfl, S.below⟩)
          replace h := H.f q21 h
          refine o_set 173 (congrArg Value.bool q21) ?_
          refine p 4 ?_
          refine br (!v22_2.2) (fun q22 => ?_) (fun q22 => ?_)
          · replace h := H.t q22 h
            refine o_set 177 (congrArg Value.bool q22) ?_
            refine p 14 ?_
            refine rend ?_
            refine c_t (by kernel_rfl) ?_
            refine c_seq ?_
            refine r_start ?_
            refine p 1 ?_
            refine rend ?_
            replace h := H.inr h
            replace h := H.inl h
            replace h := H.done h
            subst h
            exact ret func5 rfl (vs := [.bool false]) (.tmp (by kernel_rfl) .nil) rfl (fun W S => ⟨rfl, S.below⟩)
          replace h := H.f q22 h
          refine o_set 177 (congrArg Value.bool q22) ?_
          refine p 2 ?_
          obtain ⟨v23_9, hv23_9, h⟩ := H.call h
          refine xq rfl (y_call [.slice A21_2 (List.length v21_2.1) k21_2, .slice A22_2 (List.length v22_2.1) k22_2] (.bool v23_9) func20 (fun W S => C.l_qInts W hv23_9 ((s_own 12).out W S) ((s_own 13).out W S))) ?_
          refine p 3 ?_
          refine br (!v23_9) (fun q23 => ?_) (fun q23 => ?_)
          · replace h := H.t q23 h
            refine o_set 183 (congrArg Value.bool q23) ?_
            refine p 8 ?_
            refine rend ?_
            refine c_t (by kernel_rfl) ?_
            refine c_seq ?_
            refine r_start ?_
            refine p 1 ?_
            refine rend ?_
            replace h := H.inr h
            replace h := H.inl h
            replace h := H.done h
            subst h
            exact ret func5 rfl (vs := [.bool false]) (.tmp (by kernel_rfl) .nil) rfl (fun W S => ⟨rfl, S.below⟩)
          replace h := H.f q23 h
          refine o_set 183 (congrArg Value.bool q23) ?_
          refine p 2 ?_
          obtain ⟨v23_15, hv23_15, h⟩ := H.call h
          refine xq rfl (y_call [.slice A5_2 (List.length v5_2.1) k5_2, .int .i64 (j16 : Int)] (.bool v23_15) func34 (fun W S => C.l_qHas W hv23_15 ((s_own 3).out W S))) ?_
          refine p 5 ?_
          refine rend ?_
          refine c_or (!(v23_15 == ((List.length v22_2.1 : Int) == 0))) (fun q24 => ?_) (fun q24 => ?_)
          · replace h := H.t q24 h
            refine c_seq ?_
            refine r_start ?_
            refine p 1 ?_
            refine rend ?_
            replace h := H.inr h
            replace h := H.inl h
            replace h := H.done h
            subst h
            exact ret func5 rfl (vs := [.bool false]) (.tmp (by kernel_rfl) .nil) rfl (fun W S => ⟨rfl, S.below⟩)
          replace h := H.f q24 h
          refine c_skip ?_
          refine c_inb ?_
          refine r_start ?_
          refine p 2 ?_
          refine rend ?_
          refine c_set 154 (ci hw20) ?_
          replace h := H.inl h
          exact h () _ _ rfl (by kernel_rfl) (by kernel_rfl)
        · intro x u q18 h
          refine c_seq ?_
          refine r_start ?_
          refine p 1 ?_
          refine rend ?_
          refine c_seq ?_
          refine c_no q18 ?_
          refine cx ?_
          replace h := H.done h
          exact hj15 () _ _ h (by kernel_rfl) (by kernel_rfl)
      intro x u h
      replace h := H.inr h
      exact hj13 () _ _ h (by kernel_rfl) (by kernel_rfl)
    replace h := H.f q14 h
    refine c_skip ?_
    replace h := H.inr h
    exact hj13 () _ _ h (by kernel_rfl) (by kernel_rfl)
  intro x u h
  refine c_seq ?_
  refine c_seq ?_
  refine r_start ?_
  refine p 1 ?_
  refine rend ?_
  refine joinTE (X := Unit) (H.or h) (fun (x : Unit) => x) (fun _ => [rowT nSign w.heap.size 38 (.slice A3_1 (List.length v3_1.1) k3_1) v3_1.1, rowT nConstraint w.heap.size 64 (.slice AA3_1 (List.length v3_1.2) kk3_1) v3_1.2, rowT (eI .i64) w.heap.size 3 (.slice A4_2 (List.length v4_2.1) k4_2) v4_2.1, rowT (eI .i64) w.heap.size 3 (.slice A5_2 (List.length v5_2.1) k5_2) v5_2.1, rowT nSign w.heap.size 38 (.slice A6_1 (List.length v6_1.1) k6_1) v6_1.1, box g6_5 64 (eConstraint v6_1.2), rowT (eI .i64) w.heap.size 3 (.slice A7_2 (List.length v7_2.1) k7_2) v7_2.1, rowT (eI .i64) w.heap.size 3 (.slice A8_2 (List.length v8_2.1) k8_2) v8_2.1, box g9_2 64 (eConstraint v9_1), box g13_5 64 (eConstraint v13_1.1), box g14_5 64 (eConstraint v14_1.1)]) (fun _ u => (jk u 0 17 (.pointer (some ⟨g9_2, 0, none⟩) :: .string (bs v10_1.1) :: .bool v10_1.2 :: (jk u 20 224 [])))) (fun h hj25 => ?_) ?_
  · skip
    refine c_or v7_2.2 (fun q26 => ?_) (fun q26 => ?_)
    · replace h := H.t q26 h
      refine c_seq ?_
      refine r_start ?_
      refine p 3 ?_
      refine rend ?_
      refine c_block ?_
      refine joinE (X := Unit) 2 (H.or h) (fun (x : Unit) => x) (fun _ => [rowT nSign w.heap.size 38 (.slice A3_1 (List.length v3_1.1) k3_1) v3_1.1, rowT nConstraint w.heap.size 64 (.slice AA3_1 (List.length v3_1.2) kk3_1) v3_1.2, rowT (eI .i64) w.heap.size 3 (.slice A4_2 (List.length v4_2.1) k4_2) v4_2.1, rowT (eI .i64) w.heap.size 3 (.slice A5_2 (List.length v5_2.1) k5_2) v5_2.1, rowT nSign w.heap.size 38 (.slice A6_1 (List.length v6_1.1) k6_1) v6_1.1, box g6_5 64 (eConstraint v6_1.2), rowT (eI .i64) w.heap.size 3 (.slice A7_2 (List.length v7_2.1) k7_2) v7_2.1, rowT (eI .i64) w.heap.size 3 (.slice A8_2 (List.length v8_2.1) k8_2) v8_2.1, box g9_2 64 (eConstraint v9_1), box g13_5 64 (eConstraint v13_1.1), box g14_5 64 (eConstraint v14_1.1)]) (fun _ u => (jk u 0 17 (.pointer (some ⟨g9_2, 0, none⟩) :: .string (bs v10_1.1) :: .bool v10_1.2 :: (jk u 20 224 [])))) (fun h hj27 => ?_) ?_
      · skip
        refine rangeR (X := Unit) (s_own 4) (fun (x : Unit) => x) (fun _ => [rowT nSign w.heap.size 38 (.slice A3_1 (List.length v3_1.1) k3_1) v3_1.1, rowT nConstraint w.heap.size 64 (.slice AA3_1 (List.length v3_1.2) kk3_1) v3_1.2, rowT (eI .i64) w.heap.size 3 (.slice A4_2 (List.length v4_2.1) k4_2) v4_2.1, rowT (eI .i64) w.heap.size 3 (.slice A5_2 (List.length v5_2.1) k5_2) v5_2.1, rowT nSign w.heap.size 38 (.slice A6_1 (List.length v6_1.1) k6_1) v6_1.1, box g6_5 64 (eConstraint v6_1.2), rowT (eI .i64) w.heap.size 3 (.slice A7_2 (List.length v7_2.1) k7_2) v7_2.1, rowT (eI .i64) w.heap.size 3 (.slice A8_2 (List.length v8_2.1) k8_2) v8_2.1, box g9_2 64 (eConstraint v9_1), box g13_5 64 (eConstraint v13_1.1), box g14_5 64 (eConstraint v14_1.1)]) (fun (j28 : Nat) _ u => (jk u 0 12 (.pointer (some ⟨g6_5, 0, none⟩) :: (jk u 13 2 (.slice A8_2 (List.length v8_2.1) k8_2 :: (jk u 16 1 (.pointer (some ⟨g9_2, 0, none⟩) :: .string (bs v10_1.1) :: .bool v10_1.2 :: (jk u 20 174 (.slice A6_1 (List.length v6_1.1) k6_1 :: .int .i64 (List.length v6_1.1 : Int) :: .int .i64 (j28 : Int) :: (jk u 197 47 [])))))))))) () h (by kernel_rfl) (by kernel_rfl) ?_ ?_
        · intro j28 x u x29 q30 hg31 hw32 h
          refine c_seq ?_
          refine r_start ?_
          refine p 1 ?_
          refine rend ?_
          refine c_seq ?_
          refine c_yes q30 ?_
          refine c_skip ?_
          refine c_seq ?_
          refine c_block ?_
          refine c_seq ?_
          refine r_start ?_
          refine p 1 ?_
          refine xq rfl (y_idx (e := nSign) (el := 38) hg31 (s_own 4)) ?_
          refine xq rfl (y_el (e := nSign) 0 (.agg (eSign x29).toArray) hg31 (s_own 4)) ?_
          refine xx rfl (x_new (eSign zSign) fun g29_3 => ?_)
          refine p 1 ?_
          refine xx rfl (x_sto 11 g29_3 0 (eSign x29) ?_)
          refine rend ?_
          refine c_seq ?_
          refine r_start ?_
          refine xq rfl (y_load (.agg (eSign x29).toArray) 11 g29_3 0) ?_
          refine xq rfl (y_load (.agg (eConstraint v6_1.2).toArray) 5 g6_5 0) ?_
          obtain ⟨v30_2, hv30_2, h⟩ := H.call h
          refine xq rfl (y_call [.agg (eSign x29).toArray, .agg (eConstraint v6_1.2).toArray] (.tuple #[.bool v30_2.1, .bool v30_2.2]) func49 (fun W S => C.i_KeepsConstraint W hv30_2)) ?_
          refine p 5 ?_
          refine rend ?_
          refine c_seq ?_
          refine r_start ?_
          refine xq rfl (y_load (.agg (eSign x29).toArray) 11 g29_3 0) ?_
          refine xq rfl (y_load (.agg (eConstraint v6_1.2).toArray) 5 g6_5 0) ?_
          obtain ⟨v31_2, hv31_2, h⟩ := H.call h
          refine xq rfl (y_call [.agg (eSign x29).toArray, .agg (eConstraint v6_1.2).toArray] (.tuple #[.bool v31_2.1, .bool v31_2.2]) func50 (fun W S => C.s_KeepsConstraint W hv31_2)) ?_
          refine p 5 ?_
          refine rend ?_
          refine frg (fun u => (jk u 0 12 (.pointer (some ⟨g6_5, 0, none⟩) :: (jk u 13 2 (.slice A8_2 (List.length v8_2.1) k8_2 :: (jk u 16 1 (.pointer (some ⟨g9_2, 0, none⟩) :: .string (bs v10_1.1) :: .bool v10_1.2 :: (jk u 20 13 (.int .i64 (j28 : Int) :: (jk u 34 1 (.bool v30_2.1 :: .bool v30_2.2 :: .bool v31_2.1 :: .bool v31_2.2 :: (jk u 39 155 (.slice A6_1 (List.length v6_1.1) k6_1 :: .int .i64 (List.length v6_1.1 : Int) :: .int .i64 (j28 : Int) :: (jk u 197 47 [])))))))))))))) (by kernel_rfl) fun u => ?_
          refine keep 12 (its' := [rowT nSign w.heap.size 38 (.slice A3_1 (List.length v3_1.1) k3_1) v3_1.1, rowT nConstraint w.heap.size 64 (.slice AA3_1 (List.length v3_1.2) kk3_1) v3_1.2, rowT (eI .i64) w.heap.size 3 (.slice A4_2 (List.length v4_2.1) k4_2) v4_2.1, rowT (eI .i64) w.heap.size 3 (.slice A5_2 (List.length v5_2.1) k5_2) v5_2.1, rowT nSign w.heap.size 38 (.slice A6_1 (List.length v6_1.1) k6_1) v6_1.1, box g6_5 64 (eConstraint v6_1.2), rowT (eI .i64) w.heap.size 3 (.slice A7_2 (List.length v7_2.1) k7_2) v7_2.1, rowT (eI .i64) w.heap.size 3 (.slice A8_2 (List.length v8_2.1) k8_2) v8_2.1, box g9_2 64 (eConstraint v9_1), box g13_5 64 (eConstraint v13_1.1), box g14_5 64 (eConstraint v14_1.1), box g29_3 38 (eSign x29)]) (by kernel_rfl) ?_
          refine c_seq ?_
          refine r_start ?_
          refine p 3 ?_
          refine br (!v30_2.2) (fun q33 => ?_) (fun q33 => ?_)
          · replace h := H.t q33 h
            refine o_set 215 (congrArg Value.bool q33) ?_
            refine p 15 ?_
            refine rend ?_
            refine c_t (by kernel_rfl) ?_
            refine c_seq ?_
            refine r_start ?_
            refine p 1 ?_
            refine rend ?_
            replace h := H.inr h
            replace h := H.inl h
            replace h := H.done h
            subst h
            exact ret func5 rfl (vs := [.bool false]) (.tmp (by kernel_rfl) .nil) rfl (fun W S => ⟨rfl, S.below⟩)
          replace h := H.f q33 h
          refine o_set 215 (congrArg Value.bool q33) ?_
          refine p 4 ?_
          refine br (!v31_2.2) (fun q34 => ?_) (fun q34 => ?_)
          · replace h := H.t q34 h
            refine o_set 219 (congrArg Value.bool q34) ?_
            refine p 11 ?_
            refine rend ?_
            refine c_t (by kernel_rfl) ?_
            refine c_seq ?_
            refine r_start ?_
            refine p 1 ?_
            refine rend ?_
            replace h := H.inr h
            replace h := H.inl h
            replace h := H.done h
            subst h
            exact ret func5 rfl (vs := [.bool false]) (.tmp (by kernel_rfl) .nil) rfl (fun W S => ⟨rfl, S.below⟩)
          replace h := H.f q34 h
          refine o_set 219 (congrArg Value.bool q34) ?_
          refine p 5 ?_
          refine br (!(v30_2.1 == v31_2.1)) (fun q35 => ?_) (fun q35 => ?_)
          · replace h := H.t q35 h
            refine o_set 224 (congrArg Value.bool q35) ?_
            refine p 6 ?_
            refine rend ?_
            refine c_t (by kernel_rfl) ?_
            refine c_seq ?_
            refine r_start ?_
            refine p 1 ?_
            refine rend ?_
            replace h := H.inr h
            replace h := H.inl h
            replace h := H.done h
            subst h
            exact ret func5 rfl (vs := [.bool false]) (.tmp (by kernel_rfl) .nil) rfl (fun W S => ⟨rfl, S.below⟩)
          replace h := H.f q35 h
          refine o_set 224 (congrArg Value.bool q35) ?_
          refine p 2 ?_
          obtain ⟨v32_14, hv32_14, h⟩ := H.call h
          refine xq rfl (y_call [.slice A8_2 (List.length v8_2.1) k8_2, .int .i64 (j28 : Int)] (.bool v32_14) func34 (fun W S => C.l_qHas W hv32_14 ((s_own 7).out W S))) ?_
          refine p 3 ?_
          refine rend ?_
          refine c_or (v32_14 == v31_2.1) (fun q36 => ?_) (fun q36 => ?_)
          · replace h := H.t q36 h
            refine c_seq ?_
            refine r_start ?_
            refine p 1 ?_
            refine rend ?_
            replace h := H.inr h
            replace h := H.inl h
            replace h := H.done h
            subst h
            exact ret func5 rfl (vs := [.bool false]) (.tmp (by kernel_rfl) .nil) rfl (fun W S => ⟨rfl, S.below⟩)
          replace h := H.f q36 h
          refine c_skip ?_
          refine c_inb ?_
          refine r_start ?_
          refine p 2 ?_
          refine rend ?_
          refine c_set 196 (ci hw32) ?_
          replace h := H.inl h
          exact h () _ _ rfl (by kernel_rfl) (by kernel_rfl)
        · intro x u q30 h
          refine c_seq ?_
          refine r_start ?_
          refine p 1 ?_
          refine rend ?_
          refine c_seq ?_
          refine c_no q30 ?_
          refine cx ?_
          replace h := H.done h
          exact hj27 () _ _ h (by kernel_rfl) (by kernel_rfl)
      intro x u h
      replace h := H.inr h
      exact hj25 () _ _ h (by kernel_rfl) (by kernel_rfl)
    replace h := H.f q26 h
    refine c_skip ?_
    replace h := H.inr h
    exact hj25 () _ _ h (by kernel_rfl) (by kernel_rfl)
  intro x u h
  refine c_seq ?_
  refine c_seq ?_
  refine r_start ?_
  refine p 1 ?_
  refine rend ?_
  refine c_or v10_1.2 (fun q37 => ?_) (fun q37 => ?_)
  · replace h := H.t q37 h
    refine c_seq ?_
    refine r_start ?_
    refine p 1 ?_
    obtain ⟨v36_1, hv36_1, h⟩ := H.call h
    refine xq rfl (y_call [.string (bs v10_1.1)] (.tuple #[.agg (eConstraint v36_1.1).toArray, .bool v36_1.2]) func44 (fun W S => C.i_ParseConstraint W hv36_1)) ?_
    refine p 3 ?_
    refine xx rfl (x_new (eConstraint zConstraint) fun g36_5 => ?_)
    refine xx rfl (x_sto 11 g36_5 0 (eConstraint v36_1.1) ?_)
    refine p 1 ?_
    refine rend ?_
    refine c_seq ?_
    refine r_start ?_
    refine p 2 ?_
    refine br v36_1.2 (fun q38 => ?_) (fun q38 => ?_)
    · replace h := H.t q38 h
      refine o_set 239 (congrArg Value.bool q38) ?_
      refine xq rfl (y_load (.agg (eConstraint v36_1.1).toArray) 11 g36_5 0) ?_
      refine xq rfl (y_load (.agg (eConstraint v9_1).toArray) 8 g9_2 0) ?_
      refine p 3 ?_
      refine rend ?_
      refine frg (fun u => (jk u 0 4 (.bool (qConstraint v36_1.1 v9_1) :: (jk u 5 239 [])))) (by kernel_rfl) fun u => ?_
      refine keep 12 (its' := [rowT nSign w.heap.size 38 (.slice A3_1 (List.length v3_1.1) k3_1) v3_1.1, rowT nConstraint w.heap.size 64 (.slice AA3_1 (List.length v3_1.2) kk3_1) v3_1.2, rowT (eI .i64) w.heap.size 3 (.slice A4_2 (List.length v4_2.1) k4_2) v4_2.1, rowT (eI .i64) w.heap.size 3 (.slice A5_2 (List.length v5_2.1) k5_2) v5_2.1, rowT nSign w.heap.size 38 (.slice A6_1 (List.length v6_1.1) k6_1) v6_1.1, box g6_5 64 (eConstraint v6_1.2), rowT (eI .i64) w.heap.size 3 (.slice A7_2 (List.length v7_2.1) k7_2) v7_2.1, rowT (eI .i64) w.heap.size 3 (.slice A8_2 (List.length v8_2.1) k8_2) v8_2.1, box g9_2 64 (eConstraint v9_1), box g13_5 64 (eConstraint v13_1.1), box g14_5 64 (eConstraint v14_1.1), box g36_5 64 (eConstraint v36_1.1)]) (by kernel_rfl) ?_
      replace h := H.done h
      subst h
      exact ret func5 rfl (vs := [.bool (qConstraint v36_1.1 v9_1)]) (.tmp (by kernel_rfl) .nil) rfl (fun W S => ⟨rfl, S.below⟩)
    replace h := H.f q38 h
    refine o_set 239 (congrArg Value.bool q38) ?_
    refine p 5 ?_
    refine rend ?_
    refine frg (fun u => (jk u 0 4 (.bool false :: (jk u 5 239 [])))) (by kernel_rfl) fun u => ?_
    refine keep 12 (its' := [rowT nSign w.heap.size 38 (.slice A3_1 (List.length v3_1.1) k3_1) v3_1.1, rowT nConstraint w.heap.size 64 (.slice AA3_1 (List.length v3_1.2) kk3_1) v3_1.2, rowT (eI .i64) w.heap.size 3 (.slice A4_2 (List.length v4_2.1) k4_2) v4_2.1, rowT (eI .i64) w.heap.size 3 (.slice A5_2 (List.length v5_2.1) k5_2) v5_2.1, rowT nSign w.heap.size 38 (.slice A6_1 (List.length v6_1.1) k6_1) v6_1.1, box g6_5 64 (eConstraint v6_1.2), rowT (eI .i64) w.heap.size 3 (.slice A7_2 (List.length v7_2.1) k7_2) v7_2.1, rowT (eI .i64) w.heap.size 3 (.slice A8_2 (List.length v8_2.1) k8_2) v8_2.1, box g9_2 64 (eConstraint v9_1), box g13_5 64 (eConstraint v13_1.1), box g14_5 64 (eConstraint v14_1.1), box g36_5 64 (eConstraint v36_1.1)]) (by kernel_rfl) ?_
    replace h := H.done h
    subst h
    exact ret func5 rfl (vs := [.bool false]) (.tmp (by kernel_rfl) .nil) rfl (fun W S => ⟨rfl, S.below⟩)
  replace h := H.f q37 h
  refine c_skip ?_
  refine c_seq ?_
  refine r_start ?_
  refine p 1 ?_
  refine rend ?_
  replace h := H.done h
  subst h
  exact ret func5 rfl (vs := [.bool true]) (.tmp (by kernel_rfl) .nil) rfl (fun W S => ⟨rfl, S.below⟩)
end Go.Proofs.XC
