/- Contracts: each function, called where its plain function gives an answer, returns just that answer and changes nothing that was there. By AI agents; no person has read it. -/
import Derived.Test.YtldkmmopfhhdgaaGreatDoorC1
set_option linter.unusedVariables false
set_option linter.unusedSimpArgs false
set_option maxRecDepth 100000
set_option maxHeartbeats 40000000
namespace Go.Proofs.XC
open Go Go.RowKit
open Tryz
theorem C.l_big {a0 : (List Int)} {A0 : Option Addr} {k0 : Nat} {a1 : (List Int)} {A1 : Option Addr} {k1 : Nat} {r : Bool} (w : World) (h : X.l_big a0 a1 = some r) (h0 : RdT (eI .u8) w (.slice A0 (List.length a0) k0) a0) (h1 : RdT (eI .u8) w (.slice A1 (List.length a1) k1) a1) : Calls prog 8 #[.slice A0 (List.length a0) k0, .slice A1 (List.length a1) k1] w (Ret w (.bool r)) := by
  refine calls (M := no) (args := [.slice A0 (List.length a0) k0, .slice A1 (List.length a1) k1]) func8 rfl ?_
  replace h : H (X.l_big a0 a1) (fun o => o = r) := H.mk h
  unfold X.l_big at h
  refine c_seq ?_
  refine r_start ?_
  refine p 1 ?_
  refine rend ?_
  refine c_seq ?_
  refine r_start ?_
  refine p 4 ?_
  refine br (decide ((List.length a0 : Int) > 1048576)) (fun q1 => ?_) (fun q1 => ?_)
  · replace h := H.t q1 h
    refine o_set 8 (congrArg Value.bool q1) ?_
    refine p 8 ?_
    refine rend ?_
    replace h := H.done h
    subst h
    exact ret func8 rfl (vs := [.bool true]) (.tmp (by kernel_rfl) .nil) rfl (fun W S => ⟨rfl, S.below⟩)
  replace h := H.f q1 h
  refine o_set 8 (congrArg Value.bool q1) ?_
  refine p 8 ?_
  refine rend ?_
  replace h := H.done h
  subst h
  exact ret func8 rfl (vs := [.bool (decide ((List.length a1 : Int) > (wr (1048576 - (List.length a0 : Int)))))]) (.tmp (by kernel_rfl) .nil) rfl (fun W S => ⟨rfl, S.below⟩)
theorem C.i_those_bool {a0 : (List Bool)} {A0 : Option Addr} {k0 : Nat} {a1 : (Bool → Option Bool)} {g1 : Nat} {cp1 : List Value} {r : (List Int)} (w : World) (h : X.i_those_bool a0 a1 = some r) (h0 : RdT eB w (.slice A0 (List.length a0) k0) a0) (hg1 : isFn prog g1 = true) (hF1 : ∀ (x0 : Bool) (r : Bool) (W : World), Up w W → a1 x0 = some r → Calls prog g1 (([.bool x0] : List Value) ++ cp1).toArray W (Ret W (.bool r))) : Calls prog 192 #[.slice A0 (List.length a0) k0, .func (.func g1) #[] cp1.toArray] w (RetR (eI .i64) 3 w r (fun v => v)) := by
  refine calls (M := no) (args := [.slice A0 (List.length a0) k0, .func (.func g1) #[] cp1.toArray]) func192 rfl ?_
  replace h : H (X.i_those_bool a0 a1) (fun o => o = r) := H.mk h
  unfold X.i_those_bool at h
  refine c_seq ?_
  refine r_start ?_
  refine p 1 ?_
  refine rend ?_
  refine c_seq ?_
  refine r_start ?_
  refine p 1 ?_
  refine rend ?_
  refine c_seq ?_
  refine c_seq ?_
  refine r_start ?_
  refine p 3 ?_
  refine rend ?_
  refine c_block ?_
  refine c_nil (eI .i64) 3 ?_
  refine joinH (X := ((List Int) × Option Addr × Nat)) 0 (H.bnd h) (fun ⟨l4, A5, k6⟩ => l4) (fun ⟨l4, A5, k6⟩ => [rowT (eI .i64) w.heap.size 3 (.slice A5 (List.length l4) k6) l4]) (fun ⟨l4, A5, k6⟩ u => (jk u 0 5 (.slice A5 (List.length l4) k6 :: (jk u 6 18 [])))) (fun h hj7 => ?_) ?_
  · skip
    refine rangeR (X := ((List Int) × Option Addr × Nat)) (s_arg h0) (fun ⟨l1, A2, k3⟩ => l1) (fun ⟨l1, A2, k3⟩ => [rowT (eI .i64) w.heap.size 3 (.slice A2 (List.length l1) k3) l1]) (fun (j8 : Nat) ⟨l1, A2, k3⟩ u => (jk u 0 1 (.func (.func g1) #[] cp1.toArray :: (jk u 2 3 (.slice A2 (List.length l1) k3 :: (jk u 6 2 (.slice A0 (List.length a0) k0 :: .int .i64 (List.length a0 : Int) :: .int .i64 (j8 : Int) :: (jk u 11 13 [])))))))) (([] : List Int), none, 0) h (by kernel_rfl) (by kernel_rfl) ?_ ?_
    · intro j8 x u x9 q10 hg11 hw12 h
      obtain ⟨l1, A2, k3⟩ := x
      refine c_seq ?_
      refine r_start ?_
      refine p 1 ?_
      refine rend ?_
      refine c_seq ?_
      refine c_yes q10 ?_
      refine c_skip ?_
      refine c_seq ?_
      refine c_block ?_
      refine c_seq ?_
      refine r_start ?_
      refine p 1 ?_
      refine xq rfl (y_idx (e := eB) (el := 4) hg11 (s_arg h0)) ?_
      refine xq rfl (y_el (e := eB) 0 (.bool x9) hg11 (s_arg h0)) ?_
      refine p 2 ?_
      refine rend ?_
      refine c_seq ?_
      refine r_start ?_
      refine p 2 ?_
      obtain ⟨v5_2, hv5_2, h⟩ := H.call h
      refine xq rfl (y_cf cp1 [.bool x9] (.bool v5_2) hg1 (fun W S => hF1 _ _ W S.below hv5_2)) ?_
      refine rend ?_
      refine c_or v5_2 (fun q13 => ?_) (fun q13 => ?_)
      · replace h := H.t q13 h
        refine r_start ?_
        refine p 2 ?_
        refine xx rfl (e_lit (e := (eI .i64)) (el := 3) [.int .i64 (j8 : Int)] ([(j8 : Int)] : List Int) fun A6_2 k6_2 => ?_)
        obtain ⟨y6_3, hy6_3, h⟩ := H.call h
        refine xx rfl (e_app 0 hy6_3 (s_own 1) fun A6_3 k6_3 => ?_)
        refine p 1 ?_
        refine rend ?_
        refine c_inb ?_
        refine r_start ?_
        refine p 2 ?_
        refine rend ?_
        refine c_set 10 (ci hw12) ?_
        replace h := H.inl h
        exact h (y6_3, A6_3, k6_3) _ _ rfl (by kernel_rfl) (by kernel_rfl)
      replace h := H.f q13 h
      refine c_skip ?_
      refine c_inb ?_
      refine r_start ?_
      refine p 2 ?_
      refine rend ?_
      refine c_set 10 (ci hw12) ?_
      replace h := H.inl h
      exact h (l1, A2, k3) _ _ rfl (by kernel_rfl) (by kernel_rfl)
    · intro x u q10 h
      obtain ⟨l1, A2, k3⟩ := x
      refine c_seq ?_
      refine r_start ?_
      refine p 1 ?_
      refine rend ?_
      refine c_seq ?_
      refine c_no q10 ?_
      refine cx ?_
      replace h := H.done h
      exact hj7 (l1, A2, k3) _ _ h (by kernel_rfl) (by kernel_rfl)
  intro x u h
  obtain ⟨l4, A5, k6⟩ := x
  refine c_seq ?_
  refine r_start ?_
  refine p 2 ?_
  refine rend ?_
  replace h := H.done h
  subst h
  exact ret func192 rfl (vs := [.slice A5 (List.length l4) k6]) (.tmp (by kernel_rfl) .nil) rfl (fun W S => ⟨_, _, rfl, S.row 0, S.below⟩)
theorem C.i_Hand_same {a0 : Hand} {a1 : Hand} {r : (List Bool)} (w : World) (h : X.i_Hand_same a0 a1 = some r) : Calls prog 193 #[.agg (eHand a0).toArray, .agg (eHand a1).toArray] w (RetR eB 4 w r (fun v => v)) := by
  refine calls (M := no) (args := [.agg (eHand a0).toArray, .agg (eHand a1).toArray]) func193 rfl ?_
  replace h : H (X.i_Hand_same a0 a1) (fun o => o = r) := H.mk h
  unfold X.i_Hand_same at h
  refine c_seq ?_
  refine r_start ?_
  refine xx rfl (x_box (eHand a0) fun g0_0 => ?_)
  refine xx rfl (x_box (eHand a1) fun g0_1 => ?_)
  refine p 1 ?_
  refine rend ?_
  refine c_seq ?_
  refine as_start 22 22 ?_
  refine ap 0 1 ?_
  refine aq 1 rfl (y_load (.agg (eShape a0.Shape).toArray) 0 g0_0 0) ?_
  refine ap 2 1 ?_
  refine aq 3 rfl (y_load (.agg (eShape a1.Shape).toArray) 1 g0_1 0) ?_
  refine ap 4 2 ?_
  refine aq 6 rfl (y_load (.agg (eOrient a0.Orient).toArray) 0 g0_0 6) ?_
  refine ap 7 1 ?_
  refine aq 8 rfl (y_load (.agg (eOrient a1.Orient).toArray) 1 g0_1 6) ?_
  refine ap 9 2 ?_
  refine aq 11 rfl (y_load (.agg (ePlace a0.Place).toArray) 0 g0_0 8) ?_
  refine ap 12 1 ?_
  refine aq 13 rfl (y_load (.agg (ePlace a1.Place).toArray) 1 g0_1 8) ?_
  refine ap 14 2 ?_
  refine aq 16 rfl (y_load (.agg (eMove a0.Move).toArray) 0 g0_0 11) ?_
  refine ap 17 1 ?_
  refine aq 18 rfl (y_load (.agg (eMove a1.Move).toArray) 1 g0_1 11) ?_
  refine ap 19 1 ?_
  refine ax 20 rfl (e_lit (e := eB) (el := 4) [.bool (qShape a0.Shape a1.Shape), .bool (qOrient a0.Orient a1.Orient), .bool (qPlace a0.Place a1.Place), .bool (qMove a0.Move a1.Move)] ([(qShape a0.Shape a1.Shape), (qOrient a0.Orient a1.Orient), (qPlace a0.Place a1.Place), (qMove a0.Move a1.Move)] : List Bool) fun A1_20 k1_20 => ⟨.inr (by kernel_rfl), ?_⟩)
  refine ap 21 1 ?_
  refine a_done ?_
  replace h := H.done h
  subst h
  exact ret func193 rfl (vs := [.slice A1_20 (List.length ([(qShape a0.Shape a1.Shape), (qOrient a0.Orient a1.Orient), (qPlace a0.Place a1.Place), (qMove a0.Move a1.Move)] : List Bool)) k1_20]) (.tmp (by kernel_rfl) .nil) rfl (fun W S => ⟨_, _, rfl, S.row 2, S.below⟩)
theorem C.i_AreSameSign {fu : Nat} {a0 : Sign} {a1 : Sign} {r : (Bool × Bool)} (w : World) (h : X.i_AreSameSign fu a0 a1 = some r) : Calls prog 48 #[.agg (eSign a0).toArray, .agg (eSign a1).toArray] w (Ret w (.tuple #[.bool r.1, .bool r.2])) := by
  refine calls (M := no) (args := [.agg (eSign a0).toArray, .agg (eSign a1).toArray]) func48 rfl ?_
  replace h : H (X.i_AreSameSign fu a0 a1) (fun o => o = r) := H.mk h
  unfold X.i_AreSameSign at h
  refine c_seq ?_
  refine r_start ?_
  refine xx rfl (x_box (eSign a0) fun g0_0 => ?_)
  refine xx rfl (x_box (eSign a1) fun g0_1 => ?_)
  refine p 2 ?_
  refine rend ?_
  refine c_seq ?_
  refine c_seq ?_
  refine r_start ?_
  refine xq rfl (y_load (.agg (eSign a0).toArray) 0 g0_0 0) ?_
  obtain ⟨v1_1, hv1_1, h⟩ := H.call h
  refine xq rfl (y_call [.agg (eSign a0).toArray] (.bool v1_1) func19 (fun W S => C.i_IsSign W hv1_1)) ?_
  refine p 2 ?_
  refine br (!v1_1) (fun q1 => ?_) (fun q1 => ?_)
  · replace h := H.t q1 h
    refine o_set 9 (congrArg Value.bool q1) ?_
    refine p 4 ?_
    refine rend ?_
    refine c_t (by kernel_rfl) ?_
    refine c_seq ?_
    refine r_start ?_
    refine p 2 ?_
    refine rend ?_
    replace h := H.done h
    subst h
    exact ret func48 rfl (vs := [.bool false, .bool false]) (.tmp (by kernel_rfl) (.tmp (by kernel_rfl) .nil)) rfl (fun W S => ⟨rfl, S.below⟩)
  replace h := H.f q1 h
  refine o_set 9 (congrArg Value.bool q1) ?_
  refine xq rfl (y_load (.agg (eSign a1).toArray) 1 g0_1 0) ?_
  obtain ⟨v1_5, hv1_5, h⟩ := H.call h
  refine xq rfl (y_call [.agg (eSign a1).toArray] (.bool v1_5) func19 (fun W S => C.i_IsSign W hv1_5)) ?_
  refine p 2 ?_
  refine rend ?_
  refine c_or (!v1_5) (fun q2 => ?_) (fun q2 => ?_)
  · replace h := H.t q2 h
    refine c_seq ?_
    refine r_start ?_
    refine p 2 ?_
    refine rend ?_
    replace h := H.done h
    subst h
    exact ret func48 rfl (vs := [.bool false, .bool false]) (.tmp (by kernel_rfl) (.tmp (by kernel_rfl) .nil)) rfl (fun W S => ⟨rfl, S.below⟩)
  replace h := H.f q2 h
  refine c_skip ?_
  refine c_seq ?_
  refine as_start 7 7 ?_
  refine aq 0 rfl (y_load (.agg (eSign a0).toArray) 0 g0_0 0) ?_
  obtain ⟨v3_1, hv3_1, h⟩ := H.call h
  refine aq 1 rfl (y_call [.agg (eSign a0).toArray] (.agg (eSign v3_1).toArray) func121 (fun W S => C.i_Sign_normal W hv3_1)) ?_
  refine aq 2 rfl (y_load (.agg (eSign a1).toArray) 1 g0_1 0) ?_
  obtain ⟨v3_3, hv3_3, h⟩ := H.call h
  refine aq 3 rfl (y_call [.agg (eSign a1).toArray] (.agg (eSign v3_3).toArray) func121 (fun W S => C.i_Sign_normal W hv3_3)) ?_
  refine ap 4 3 ?_
  refine a_done ?_
  replace h := H.done h
  subst h
  exact ret func48 rfl (vs := [.bool (qSign v3_1 v3_3), .bool true]) (.tmp (by kernel_rfl) (.tmp (by kernel_rfl) .nil)) rfl (fun W S => ⟨rfl, S.below⟩)
theorem C.s_l1Cur_lexicon {fu : Nat} {a0 : List Int} {A0 : Option Addr} {k0 g0 : Nat} {t0 s0 : Int} {r : ((List Sign) × Int × Int)} (w : World) (h : X.s_l1Cur_lexicon fu a0 t0 s0 = some r) (m0 : w.heap[g0]? = some (.cells ([.slice A0 (List.length a0) k0, .int .i64 t0, .int .u64 s0] : List Value).toArray 92 (0, 0))) (h0 : RdT (eI .u8) w (.slice A0 (List.length a0) k0) a0) (q0 : 0 < List.length a0 → ∀ k, (Value.slice A0 (List.length a0) k0).ownBlock = some k → ¬ k = g0) : Calls prog 131 #[.pointer (some ⟨g0, 0, none⟩)] w (RetQR nSign 37 g0 92 [.slice A0 (List.length a0) k0, .int .i64 r.2.1, .int .u64 r.2.2] w r.1 (fun v => v)) := by
  refine callsQ (args := [.pointer (some ⟨g0, 0, none⟩)]) m0 func131 rfl ?_
  replace h : H (X.s_l1Cur_lexicon fu a0 t0 s0) (fun o => o = r) := H.mk h
  unfold X.s_l1Cur_lexicon at h
  refine c_seq ?_
  refine r_start ?_
  refine p 1 ?_
  refine rend ?_
  refine c_seq ?_
  refine r_start ?_
  refine p 1 ?_
  obtain ⟨v1_1, hv1_1, h⟩ := H.call h
  refine xx rfl (e_cq (cs' := [.slice A0 (List.length a0) k0, .int .i64 v1_1.2.1, .int .u64 v1_1.2.2]) (v := .agg (eSign v1_1.1).toArray) 0 [.pointer (some ⟨g0, 0, none⟩)] func189 (fun W S => C.s_l1Cur_sign W hv1_1 (S.bx 0) ((s_argN h0 q0).out W S) q0) ?_)
  refine xx rfl (x_new (eSign zSign) fun g1_2 => ?_)
  refine xx rfl (x_sto 1 g1_2 0 (eSign v1_1.1) ?_)
  refine rend ?_
  refine c_seq ?_
  refine r_start ?_
  refine p 1 ?_
  refine rend ?_
  refine c_seq ?_
  refine r_start ?_
  refine p 1 ?_
  obtain ⟨v3_1, hv3_1, h⟩ := H.call h
  refine xx rfl (e_cq (cs' := [.slice A0 (List.length a0) k0, .int .i64 v3_1.2.1, .int .u64 v3_1.2.2]) (v := .int .i64 v3_1.1) 0 [.pointer (some ⟨g0, 0, none⟩), .int .i64 8] func123 (fun W S => C.s_l1Cur_pick W hv3_1 (S.bx 0) ((s_argN h0 q0).out W S) q0) ?_)
  refine p 1 ?_
  refine rend ?_
  refine c_seq ?_
  refine c_seq ?_
  refine r_start ?_
  refine p 1 ?_
  obtain ⟨v4_1, hv4_1, h⟩ := H.call h
  refine xx rfl (e_cq (cs' := [.slice A0 (List.length a0) k0, .int .i64 v4_1.2.1, .int .u64 v4_1.2.2]) (v := .bool v4_1.1) 0 [.pointer (some ⟨g0, 0, none⟩), .int .i64 12] func90 (fun W S => C.s_l1Cur_one W hv4_1 (S.bx 0) ((s_argN h0 q0).out W S) q0) ?_)
  refine rend ?_
  refine c_or v4_1.1 (fun q1 => ?_) (fun q1 => ?_)
  · replace h := H.t q1 h
    refine r_start ?_
    refine p 1 ?_
    obtain ⟨v5_1, hv5_1, h⟩ := H.call h
    refine xx rfl (e_cq (cs' := [.slice A0 (List.length a0) k0, .int .i64 v5_1.2.1, .int .u64 v5_1.2.2]) (v := .int .i64 v5_1.1) 0 [.pointer (some ⟨g0, 0, none⟩), .int .i64 2] func123 (fun W S => C.s_l1Cur_pick W hv5_1 (S.bx 0) ((s_argN h0 q0).out W S) q0) ?_)
    refine p 2 ?_
    refine rend ?_
    refine c_seq ?_
    refine c_block ?_
    refine c_nil nSign 37 ?_
    refine joinH (X := (Int × Int × Sign × (List Sign) × Option Addr × Nat)) 0 (H.bnd h) (fun ⟨n8, n9, s10, l11, A12, k13⟩ => (n8, n9, s10, l11)) (fun ⟨n8, n9, s10, l11, A12, k13⟩ => [box g0 92 [.slice A0 (List.length a0) k0, .int .i64 n8, .int .u64 n9], box g1_2 37 (eSign s10), rowT nSign w.heap.size 37 (.slice A12 (List.length l11) k13) l11]) (fun ⟨n8, n9, s10, l11, A12, k13⟩ u => (.pointer (some ⟨g0, 0, none⟩) :: (jk u 1 3 (.slice A12 (List.length l11) k13 :: .int .i64 (wr (16 + v5_1.1)) :: (jk u 6 75 []))))) (fun h hj14 => ?_) ?_
    · skip
      refine loopR (X := (Int × Int × Sign × (List Sign) × Option Addr × Nat)) (fun ⟨n2, n3, s4, l5, A6, k7⟩ => (n2, n3, s4, l5)) (fun ⟨n2, n3, s4, l5, A6, k7⟩ => [box g0 92 [.slice A0 (List.length a0) k0, .int .i64 n2, .int .u64 n3], box g1_2 37 (eSign s4), rowT nSign w.heap.size 37 (.slice A6 (List.length l5) k7) l5]) (fun ⟨n2, n3, s4, l5, A6, k7⟩ u => (.pointer (some ⟨g0, 0, none⟩) :: (jk u 1 2 (.pointer (some ⟨g1_2, 0, none⟩) :: .slice A6 (List.length l5) k7 :: .int .i64 (wr (16 + v5_1.1)) :: (jk u 6 75 []))))) (v5_1.2.1, v5_1.2.2, v1_1.1, ([] : List Sign), none, 0) h (by kernel_rfl) (by kernel_rfl) ?_
      intro x u h
      obtain ⟨n2, n3, s4, l5, A6, k7⟩ := x
      refine c_seq ?_
      refine c_seq ?_
      refine r_start ?_
      refine p 4 ?_
      refine rend ?_
      refine c_or (decide ((List.length l5 : Int) < (wr (16 + v5_1.1)))) (fun q15 => ?_) (fun q15 => ?_)
      · replace h := H.t q15 h
        refine c_skip ?_
        refine c_block ?_
        refine c_seq ?_
        refine r_start ?_
        refine xq rfl (y_load (.agg (eSign s4).toArray) 1 g1_2 0) ?_
        refine xx rfl (x_new (eSign zSign) fun g7_1 => ?_)
        refine xx rfl (x_sto 3 g7_1 0 (eSign s4) ?_)
        refine rend ?_
        refine c_seq ?_
        refine c_seq ?_
        refine r_start ?_
        refine p 1 ?_
        obtain ⟨v8_1, hv8_1, h⟩ := H.call h
        refine xx rfl (e_cq (cs' := [.slice A0 (List.length a0) k0, .int .i64 v8_1.2.1, .int .u64 v8_1.2.2]) (v := .int .i64 v8_1.1) 0 [.pointer (some ⟨g0, 0, none⟩), .int .i64 6] func123 (fun W S => C.s_l1Cur_pick W hv8_1 (S.bx 0) ((s_argN h0 q0).out W S) q0) ?_)
        refine rend ?_
        refine c_block ?_
        refine c_seq ?_
        refine r_start ?_
        refine p 2 ?_
        refine rend ?_
        refine c_or (v8_1.1 == 0) (fun q16 => ?_) (fun q16 => ?_)
        · replace h := H.t q16 h
          refine r_start ?_
          refine p 1 ?_
          obtain ⟨v10_1, hv10_1, h⟩ := H.call h
          refine xx rfl (e_cq (cs' := [.slice A0 (List.length a0) k0, .int .i64 v10_1.2.1, .int .u64 v10_1.2.2]) (v := .agg (eShape v10_1.1).toArray) 0 [.pointer (some ⟨g0, 0, none⟩)] func203 (fun W S => C.s_l1Cur_shape W hv10_1 (S.bx 0) ((s_argN h0 q0).out W S) q0) ?_)
          refine p 2 ?_
          refine xx rfl (x_sto 3 g7_1 0 (eSign ({ s4 with Main := { s4.Main with Shape := v10_1.1 } })) ?_)
          refine rend ?_
          refine c_inb ?_
          refine c_seq ?_
          refine c_seq ?_
          refine r_start ?_
          refine xq rfl (y_load (.agg (eSign ({ s4 with Main := { s4.Main with Shape := v10_1.1 } })).toArray) 3 g7_1 0) ?_
          obtain ⟨v20_1, hv20_1, h⟩ := H.call h
          refine xq rfl (y_call [.agg (eSign ({ s4 with Main := { s4.Main with Shape := v10_1.1 } })).toArray] (.bool v20_1) func91 (fun W S => C.s_siGood W hv20_1)) ?_
          refine p 1 ?_
          refine rend ?_
          refine frg (fun u => (.pointer (some ⟨g0, 0, none⟩) :: (jk u 1 2 (.pointer (some ⟨g1_2, 0, none⟩) :: .slice A6 (List.length l5) k7 :: .int .i64 (wr (16 + v5_1.1)) :: .pointer (some ⟨g7_1, 0, none⟩) :: (jk u 7 50 (.bool (!v20_1) :: (jk u 58 23 []))))))) (by kernel_rfl) fun u => ?_
          refine keep 4 (its' := [box g0 92 [.slice A0 (List.length a0) k0, .int .i64 v10_1.2.1, .int .u64 v10_1.2.2], box g1_2 37 (eSign s4), rowT nSign w.heap.size 37 (.slice A6 (List.length l5) k7) l5, box g7_1 37 (eSign ({ s4 with Main := { s4.Main with Shape := v10_1.1 } }))]) (by kernel_rfl) ?_
          refine c_or (!v20_1) (fun q17 => ?_) (fun q17 => ?_)
          · replace h := H.t q17 h
            refine r_start ?_
            refine p 1 ?_
            obtain ⟨v21_1, hv21_1, h⟩ := H.call h
            refine xx rfl (e_cq (cs' := [.slice A0 (List.length a0) k0, .int .i64 v21_1.2.1, .int .u64 v21_1.2.2]) (v := .agg (eSign v21_1.1).toArray) 0 [.pointer (some ⟨g0, 0, none⟩)] func189 (fun W S => C.s_l1Cur_sign W hv21_1 (S.bx 0) ((s_argN h0 q0).out W S) q0) ?_)
            refine xx rfl (x_sto 3 g7_1 0 (eSign v21_1.1) ?_)
            refine rend ?_
            refine c_seq ?_
            refine r_start ?_
            refine p 1 ?_
            refine xq rfl (y_load (.agg (eSign v21_1.1).toArray) 3 g7_1 0) ?_
            refine xx rfl (e_lit (e := nSign) (el := 37) [.agg (eSign v21_1.1).toArray] ([v21_1.1] : List Sign) fun A22_2 k22_2 => ?_)
            obtain ⟨y22_3, hy22_3, h⟩ := H.call h
            refine xx rfl (e_app 2 hy22_3 (s_own 4) fun A22_3 k22_3 => ?_)
            refine p 1 ?_
            refine rend ?_
            refine c_seq ?_
            refine r_start ?_
            refine p 1 ?_
            obtain ⟨v23_1, hv23_1, h⟩ := H.call h
            refine xx rfl (e_cq (cs' := [.slice A0 (List.length a0) k0, .int .i64 v23_1.2.1, .int .u64 v23_1.2.2]) (v := .bool v23_1.1) 0 [.pointer (some ⟨g0, 0, none⟩), .int .i64 3] func90 (fun W S => C.s_l1Cur_one W hv23_1 (S.bx 0) ((s_argN h0 q0).out W S) q0) ?_)
            refine rend ?_
            refine c_or v23_1.1 (fun q18 => ?_) (fun q18 => ?_)
            · replace h := H.t q18 h
              refine r_start ?_
              refine xq rfl (y_load (.agg (eSign v21_1.1).toArray) 3 g7_1 0) ?_
              refine xx rfl (x_sto 1 g1_2 0 (eSign v21_1.1) ?_)
              refine rend ?_
              refine c_inb ?_
              replace h := H.inl h
              exact h (v23_1.2.1, v23_1.2.2, v21_1.1, y22_3, A22_3, k22_3) _ _ rfl (by kernel_rfl) (by kernel_rfl)
            replace h := H.f q18 h
            refine c_skip ?_
            refine c_inb ?_
            replace h := H.inl h
            exact h (v23_1.2.1, v23_1.2.2, s4, y22_3, A22_3, k22_3) _ _ rfl (by kernel_rfl) (by kernel_rfl)
          replace h := H.f q17 h
          refine c_skip ?_
          refine c_seq ?_
          refine r_start ?_
          refine p 1 ?_
          refine xq rfl (y_load (.agg (eSign ({ s4 with Main := { s4.Main with Shape := v10_1.1 } })).toArray) 3 g7_1 0) ?_
          refine xx rfl (e_lit (e := nSign) (el := 37) [.agg (eSign ({ s4 with Main := { s4.Main with Shape := v10_1.1 } })).toArray] ([{ s4 with Main := { s4.Main with Shape := v10_1.1 } }] : List Sign) fun A22_2 k22_2 => ?_)
          obtain ⟨y22_3, hy22_3, h⟩ := H.call h
          refine xx rfl (e_app 2 hy22_3 (s_own 4) fun A22_3 k22_3 => ?_)
          refine p 1 ?_
          refine rend ?_
          refine c_seq ?_
          refine r_start ?_
          refine p 1 ?_
          obtain ⟨v23_1, hv23_1, h⟩ := H.call h
          refine xx rfl (e_cq (cs' := [.slice A0 (List.length a0) k0, .int .i64 v23_1.2.1, .int .u64 v23_1.2.2]) (v := .bool v23_1.1) 0 [.pointer (some ⟨g0, 0, none⟩), .int .i64 3] func90 (fun W S => C.s_l1Cur_one W hv23_1 (S.bx 0) ((s_argN h0 q0).out W S) q0) ?_)
          refine rend ?_
          refine c_or v23_1.1 (fun q19 => ?_) (fun q19 => ?_)
          · replace h := H.t q19 h
            refine r_start ?_
            refine xq rfl (y_load (.agg (eSign ({ s4 with Main := { s4.Main with Shape := v10_1.1 } })).toArray) 3 g7_1 0) ?_
            refine xx rfl (x_sto 1 g1_2 0 (eSign ({ s4 with Main := { s4.Main with Shape := v10_1.1 } })) ?_)
            refine rend ?_
            refine c_inb ?_
            replace h := H.inl h
            exact h (v23_1.2.1, v23_1.2.2, { s4 with Main := { s4.Main with Shape := v10_1.1 } }, y22_3, A22_3, k22_3) _ _ rfl (by kernel_rfl) (by kernel_rfl)
          replace h := H.f q19 h
          refine c_skip ?_
          refine c_inb ?_
          replace h := H.inl h
          exact h (v23_1.2.1, v23_1.2.2, s4, y22_3, A22_3, k22_3) _ _ rfl (by kernel_rfl) (by kernel_rfl)
        replace h := H.f q16 h
        refine c_seq ?_
        refine r_start ?_
        refine p 2 ?_
        refine rend ?_
        refine c_or (v8_1.1 == 1) (fun q20 => ?_) (fun q20 => ?_)
        · replace h := H.t q20 h
          refine r_start ?_
          refine p 1 ?_
          obtain ⟨v12_1, hv12_1, h⟩ := H.call h
          refine xx rfl (e_cq (cs' := [.slice A0 (List.length a0) k0, .int .i64 v12_1.2.1, .int .u64 v12_1.2.2]) (v := .agg (eOrient v12_1.1).toArray) 0 [.pointer (some ⟨g0, 0, none⟩)] func204 (fun W S => C.s_l1Cur_orient W hv12_1 (S.bx 0) ((s_argN h0 q0).out W S) q0) ?_)
          refine p 2 ?_
          refine xx rfl (x_sto 3 g7_1 6 (eSign ({ s4 with Main := { s4.Main with Orient := v12_1.1 } })) ?_)
          refine rend ?_
          refine frg (fun u => (.pointer (some ⟨g0, 0, none⟩) :: (jk u 1 2 (.pointer (some ⟨g1_2, 0, none⟩) :: .slice A6 (List.length l5) k7 :: .int .i64 (wr (16 + v5_1.1)) :: .pointer (some ⟨g7_1, 0, none⟩) :: (jk u 7 74 []))))) (by kernel_rfl) fun u => ?_
          refine keep 4 (its' := [box g0 92 [.slice A0 (List.length a0) k0, .int .i64 v12_1.2.1, .int .u64 v12_1.2.2], box g1_2 37 (eSign s4), rowT nSign w.heap.size 37 (.slice A6 (List.length l5) k7) l5, box g7_1 37 (eSign ({ s4 with Main := { s4.Main with Orient := v12_1.1 } }))]) (by kernel_rfl) ?_
          refine c_inb ?_
          refine c_seq ?_
          refine c_seq ?_
          refine r_start ?_
          refine xq rfl (y_load (.agg (eSign ({ s4 with Main := { s4.Main with Orient := v12_1.1 } })).toArray) 3 g7_1 0) ?_
          obtain ⟨v20_1, hv20_1, h⟩ := H.call h
          refine xq rfl (y_call [.agg (eSign ({ s4 with Main := { s4.Main with Orient := v12_1.1 } })).toArray] (.bool v20_1) func91 (fun W S => C.s_siGood W hv20_1)) ?_
          refine p 1 ?_
          refine rend ?_
          refine c_or (!v20_1) (fun q21 => ?_) (fun q21 => ?_)
          · replace h := H.t q21 h
            refine r_start ?_
            refine p 1 ?_
            obtain ⟨v21_1, hv21_1, h⟩ := H.call h
            refine xx rfl (e_cq (cs' := [.slice A0 (List.length a0) k0, .int .i64 v21_1.2.1, .int .u64 v21_1.2.2]) (v := .agg (eSign v21_1.1).toArray) 0 [.pointer (some ⟨g0, 0, none⟩)] func189 (fun W S => C.s_l1Cur_sign W hv21_1 (S.bx 0) ((s_argN h0 q0).out W S) q0) ?_)
            refine xx rfl (x_sto 3 g7_1 0 (eSign v21_1.1) ?_)
            refine rend ?_
            refine c_seq ?_
            refine r_start ?_
            refine p 1 ?_
            refine xq rfl (y_load (.agg (eSign v21_1.1).toArray) 3 g7_1 0) ?_
            refine xx rfl (e_lit (e := nSign) (el := 37) [.agg (eSign v21_1.1).toArray] ([v21_1.1] : List Sign) fun A22_2 k22_2 => ?_)
            obtain ⟨y22_3, hy22_3, h⟩ := H.call h
            refine xx rfl (e_app 2 hy22_3 (s_own 4) fun A22_3 k22_3 => ?_)
            refine p 1 ?_
            refine rend ?_
            refine c_seq ?_
            refine r_start ?_
            refine p 1 ?_
            obtain ⟨v23_1, hv23_1, h⟩ := H.call h
            refine xx rfl (e_cq (cs' := [.slice A0 (List.length a0) k0, .int .i64 v23_1.2.1, .int .u64 v23_1.2.2]) (v := .bool v23_1.1) 0 [.pointer (some ⟨g0, 0, none⟩), .int .i64 3] func90 (fun W S => C.s_l1Cur_one W hv23_1 (S.bx 0) ((s_argN h0 q0).out W S) q0) ?_)
            refine rend ?_
            refine c_or v23_1.1 (fun q22 => ?_) (fun q22 => ?_)
            · replace h := H.t q22 h
              refine r_start ?_
              refine xq rfl (y_load (.agg (eSign v21_1.1).toArray) 3 g7_1 0) ?_
              refine xx rfl (x_sto 1 g1_2 0 (eSign v21_1.1) ?_)
              refine rend ?_
              refine c_inb ?_
              replace h := H.inl h
              exact h (v23_1.2.1, v23_1.2.2, v21_1.1, y22_3, A22_3, k22_3) _ _ rfl (by kernel_rfl) (by kernel_rfl)
            replace h := H.f q22 h
            refine c_skip ?_
            refine c_inb ?_
            replace h := H.inl h
            exact h (v23_1.2.1, v23_1.2.2, s4, y22_3, A22_3, k22_3) _ _ rfl (by kernel_rfl) (by kernel_rfl)
          replace h := H.f q21 h
          refine c_skip ?_
          refine c_seq ?_
          refine r_start ?_
          refine p 1 ?_
          refine xq rfl (y_load (.agg (eSign ({ s4 with Main := { s4.Main with Orient := v12_1.1 } })).toArray) 3 g7_1 0) ?_
          refine xx rfl (e_lit (e := nSign) (el := 37) [.agg (eSign ({ s4 with Main := { s4.Main with Orient := v12_1.1 } })).toArray] ([{ s4 with Main := { s4.Main with Orient := v12_1.1 } }] : List Sign) fun A22_2 k22_2 => ?_)
          obtain ⟨y22_3, hy22_3, h⟩ := H.call h
          refine xx rfl (e_app 2 hy22_3 (s_own 4) fun A22_3 k22_3 => ?_)
          refine p 1 ?_
          refine rend ?_
          refine c_seq ?_
          refine r_start ?_
          refine p 1 ?_
          obtain ⟨v23_1, hv23_1, h⟩ := H.call h
          refine xx rfl (e_cq (cs' := [.slice A0 (List.length a0) k0, .int .i64 v23_1.2.1, .int .u64 v23_1.2.2]) (v := .bool v23_1.1) 0 [.pointer (some ⟨g0, 0, none⟩), .int .i64 3] func90 (fun W S => C.s_l1Cur_one W hv23_1 (S.bx 0) ((s_argN h0 q0).out W S) q0) ?_)
          refine rend ?_
          refine c_or v23_1.1 (fun q23 => ?_) (fun q23 => ?_)
          · replace h := H.t q23 h
            refine r_start ?_
            refine xq rfl (y_load (.agg (eSign ({ s4 with Main := { s4.Main with Orient := v12_1.1 } })).toArray) 3 g7_1 0) ?_
            refine xx rfl (x_sto 1 g1_2 0 (eSign ({ s4 with Main := { s4.Main with Orient := v12_1.1 } })) ?_)
            refine rend ?_
            refine c_inb ?_
            replace h := H.inl h
            exact h (v23_1.2.1, v23_1.2.2, { s4 with Main := { s4.Main with Orient := v12_1.1 } }, y22_3, A22_3, k22_3) _ _ rfl (by kernel_rfl) (by kernel_rfl)
          replace h := H.f q23 h
          refine c_skip ?_
          refine c_inb ?_
          replace h := H.inl h
          exact h (v23_1.2.1, v23_1.2.2, s4, y22_3, A22_3, k22_3) _ _ rfl (by kernel_rfl) (by kernel_rfl)
        replace h := H.f q20 h
        refine c_seq ?_
        refine r_start ?_
        refine p 2 ?_
        refine rend ?_
        refine frg (fun u => (.pointer (some ⟨g0, 0, none⟩) :: (jk u 1 2 (.pointer (some ⟨g1_2, 0, none⟩) :: .slice A6 (List.length l5) k7 :: .int .i64 (wr (16 + v5_1.1)) :: .pointer (some ⟨g7_1, 0, none⟩) :: (jk u 7 15 (.int .i64 v8_1.1 :: (jk u 23 12 (.bool (v8_1.1 == 2) :: (jk u 36 45 []))))))))) (by kernel_rfl) fun u => ?_
        refine keep 4 (its' := [box g0 92 [.slice A0 (List.length a0) k0, .int .i64 v8_1.2.1, .int .u64 v8_1.2.2], box g1_2 37 (eSign s4), rowT nSign w.heap.size 37 (.slice A6 (List.length l5) k7) l5, box g7_1 37 (eSign s4)]) (by kernel_rfl) ?_
        refine c_or (v8_1.1 == 2) (fun q24 => ?_) (fun q24 => ?_)
        · replace h := H.t q24 h
          refine r_start ?_
          refine p 1 ?_
          obtain ⟨v14_1, hv14_1, h⟩ := H.call h
          refine xx rfl (e_cq (cs' := [.slice A0 (List.length a0) k0, .int .i64 v14_1.2.1, .int .u64 v14_1.2.2]) (v := .agg (ePlace v14_1.1).toArray) 0 [.pointer (some ⟨g0, 0, none⟩)] func124 (fun W S => C.s_l1Cur_place W hv14_1 (S.bx 0) ((s_argN h0 q0).out W S) q0) ?_)
          refine p 2 ?_
          refine xx rfl (x_sto 3 g7_1 8 (eSign ({ s4 with Main := { s4.Main with Place := v14_1.1 } })) ?_)
          refine rend ?_
          refine c_inb ?_
          refine c_seq ?_
          refine c_seq ?_
          refine r_start ?_
          refine xq rfl (y_load (.agg (eSign ({ s4 with Main := { s4.Main with Place := v14_1.1 } })).toArray) 3 g7_1 0) ?_
          obtain ⟨v20_1, hv20_1, h⟩ := H.call h
          refine xq rfl (y_call [.agg (eSign ({ s4 with Main := { s4.Main with Place := v14_1.1 } })).toArray] (.bool v20_1) func91 (fun W S => C.s_siGood W hv20_1)) ?_
          refine p 1 ?_
          refine rend ?_
          refine c_or (!v20_1) (fun q25 => ?_) (fun q25 => ?_)
          · replace h := H.t q25 h
            refine r_start ?_
            refine p 1 ?_
            obtain ⟨v21_1, hv21_1, h⟩ := H.call h
            refine xx rfl (e_cq (cs' := [.slice A0 (List.length a0) k0, .int .i64 v21_1.2.1, .int .u64 v21_1.2.2]) (v := .agg (eSign v21_1.1).toArray) 0 [.pointer (some ⟨g0, 0, none⟩)] func189 (fun W S => C.s_l1Cur_sign W hv21_1 (S.bx 0) ((s_argN h0 q0).out W S) q0) ?_)
            refine xx rfl (x_sto 3 g7_1 0 (eSign v21_1.1) ?_)
            refine rend ?_
            refine c_seq ?_
            refine r_start ?_
            refine p 1 ?_
            refine xq rfl (y_load (.agg (eSign v21_1.1).toArray) 3 g7_1 0) ?_
            refine xx rfl (e_lit (e := nSign) (el := 37) [.agg (eSign v21_1.1).toArray] ([v21_1.1] : List Sign) fun A22_2 k22_2 => ?_)
            obtain ⟨y22_3, hy22_3, h⟩ := H.call h
            refine xx rfl (e_app 2 hy22_3 (s_own 4) fun A22_3 k22_3 => ?_)
            refine p 1 ?_
            refine rend ?_
            refine c_seq ?_
            refine r_start ?_
            refine p 1 ?_
            obtain ⟨v23_1, hv23_1, h⟩ := H.call h
            refine xx rfl (e_cq (cs' := [.slice A0 (List.length a0) k0, .int .i64 v23_1.2.1, .int .u64 v23_1.2.2]) (v := .bool v23_1.1) 0 [.pointer (some ⟨g0, 0, none⟩), .int .i64 3] func90 (fun W S => C.s_l1Cur_one W hv23_1 (S.bx 0) ((s_argN h0 q0).out W S) q0) ?_)
            refine rend ?_
            refine c_or v23_1.1 (fun q26 => ?_) (fun q26 => ?_)
            · replace h := H.t q26 h
              refine r_start ?_
              refine xq rfl (y_load (.agg (eSign v21_1.1).toArray) 3 g7_1 0) ?_
              refine xx rfl (x_sto 1 g1_2 0 (eSign v21_1.1) ?_)
              refine rend ?_
              refine c_inb ?_
              replace h := H.inl h
              exact h (v23_1.2.1, v23_1.2.2, v21_1.1, y22_3, A22_3, k22_3) _ _ rfl (by kernel_rfl) (by kernel_rfl)
            replace h := H.f q26 h
            refine c_skip ?_
            refine c_inb ?_
            replace h := H.inl h
            exact h (v23_1.2.1, v23_1.2.2, s4, y22_3, A22_3, k22_3) _ _ rfl (by kernel_rfl) (by kernel_rfl)
          replace h := H.f q25 h
          refine c_skip ?_
          refine c_seq ?_
          refine r_start ?_
          refine p 1 ?_
          refine xq rfl (y_load (.agg (eSign ({ s4 with Main := { s4.Main with Place := v14_1.1 } })).toArray) 3 g7_1 0) ?_
          refine xx rfl (e_lit (e := nSign) (el := 37) [.agg (eSign ({ s4 with Main := { s4.Main with Place := v14_1.1 } })).toArray] ([{ s4 with Main := { s4.Main with Place := v14_1.1 } }] : List Sign) fun A22_2 k22_2 => ?_)
          obtain ⟨y22_3, hy22_3, h⟩ := H.call h
          refine xx rfl (e_app 2 hy22_3 (s_own 4) fun A22_3 k22_3 => ?_)
          refine p 1 ?_
          refine rend ?_
          refine c_seq ?_
          refine r_start ?_
          refine p 1 ?_
          obtain ⟨v23_1, hv23_1, h⟩ := H.call h
          refine xx rfl (e_cq (cs' := [.slice A0 (List.length a0) k0, .int .i64 v23_1.2.1, .int .u64 v23_1.2.2]) (v := .bool v23_1.1) 0 [.pointer (some ⟨g0, 0, none⟩), .int .i64 3] func90 (fun W S => C.s_l1Cur_one W hv23_1 (S.bx 0) ((s_argN h0 q0).out W S) q0) ?_)
          refine rend ?_
          refine c_or v23_1.1 (fun q27 => ?_) (fun q27 => ?_)
          · replace h := H.t q27 h
            refine r_start ?_
            refine xq rfl (y_load (.agg (eSign ({ s4 with Main := { s4.Main with Place := v14_1.1 } })).toArray) 3 g7_1 0) ?_
            refine xx rfl (x_sto 1 g1_2 0 (eSign ({ s4 with Main := { s4.Main with Place := v14_1.1 } })) ?_)
            refine rend ?_
            refine c_inb ?_
            replace h := H.inl h
            exact h (v23_1.2.1, v23_1.2.2, { s4 with Main := { s4.Main with Place := v14_1.1 } }, y22_3, A22_3, k22_3) _ _ rfl (by kernel_rfl) (by kernel_rfl)
          replace h := H.f q27 h
          refine c_skip ?_
          refine c_inb ?_
          replace h := H.inl h
          exact h (v23_1.2.1, v23_1.2.2, s4, y22_3, A22_3, k22_3) _ _ rfl (by kernel_rfl) (by kernel_rfl)
        replace h := H.f q24 h
        refine c_seq ?_
        refine r_start ?_
        refine p 2 ?_
        refine rend ?_
        refine c_or (v8_1.1 == 3) (fun q28 => ?_) (fun q28 => ?_)
        · replace h := H.t q28 h
          refine r_start ?_
          refine p 1 ?_
          obtain ⟨v16_1, hv16_1, h⟩ := H.call h
          refine xx rfl (e_cq (cs' := [.slice A0 (List.length a0) k0, .int .i64 v16_1.2.1, .int .u64 v16_1.2.2]) (v := .agg (eMove v16_1.1).toArray) 0 [.pointer (some ⟨g0, 0, none⟩)] func109 (fun W S => C.s_l1Cur_move W hv16_1 (S.bx 0) ((s_argN h0 q0).out W S) q0) ?_)
          refine p 2 ?_
          refine xx rfl (x_sto 3 g7_1 11 (eSign ({ s4 with Main := { s4.Main with Move := v16_1.1 } })) ?_)
          refine rend ?_
          refine c_inb ?_
          refine c_seq ?_
          refine c_seq ?_
          refine r_start ?_
          refine xq rfl (y_load (.agg (eSign ({ s4 with Main := { s4.Main with Move := v16_1.1 } })).toArray) 3 g7_1 0) ?_
          obtain ⟨v20_1, hv20_1, h⟩ := H.call h
          refine xq rfl (y_call [.agg (eSign ({ s4 with Main := { s4.Main with Move := v16_1.1 } })).toArray] (.bool v20_1) func91 (fun W S => C.s_siGood W hv20_1)) ?_
          refine p 1 ?_
          refine rend ?_
          refine c_or (!v20_1) (fun q29 => ?_) (fun q29 => ?_)
          · replace h := H.t q29 h
            refine r_start ?_
            refine p 1 ?_
            obtain ⟨v21_1, hv21_1, h⟩ := H.call h
            refine xx rfl (e_cq (cs' := [.slice A0 (List.length a0) k0, .int .i64 v21_1.2.1, .int .u64 v21_1.2.2]) (v := .agg (eSign v21_1.1).toArray) 0 [.pointer (some ⟨g0, 0, none⟩)] func189 (fun W S => C.s_l1Cur_sign W hv21_1 (S.bx 0) ((s_argN h0 q0).out W S) q0) ?_)
            refine xx rfl (x_sto 3 g7_1 0 (eSign v21_1.1) ?_)
            refine rend ?_
            refine c_seq ?_
            refine r_start ?_
            refine p 1 ?_
            refine xq rfl (y_load (.agg (eSign v21_1.1).toArray) 3 g7_1 0) ?_
            refine xx rfl (e_lit (e := nSign) (el := 37) [.agg (eSign v21_1.1).toArray] ([v21_1.1] : List Sign) fun A22_2 k22_2 => ?_)
            obtain ⟨y22_3, hy22_3, h⟩ := H.call h
            refine xx rfl (e_app 2 hy22_3 (s_own 4) fun A22_3 k22_3 => ?_)
            refine p 1 ?_
            refine rend ?_
            refine c_seq ?_
            refine r_start ?_
            refine p 1 ?_
            obtain ⟨v23_1, hv23_1, h⟩ := H.call h
            refine xx rfl (e_cq (cs' := [.slice A0 (List.length a0) k0, .int .i64 v23_1.2.1, .int .u64 v23_1.2.2]) (v := .bool v23_1.1) 0 [.pointer (some ⟨g0, 0, none⟩), .int .i64 3] func90 (fun W S => C.s_l1Cur_one W hv23_1 (S.bx 0) ((s_argN h0 q0).out W S) q0) ?_)
            refine rend ?_
            refine c_or v23_1.1 (fun q30 => ?_) (fun q30 => ?_)
            · replace h := H.t q30 h
              refine r_start ?_
              refine xq rfl (y_load (.agg (eSign v21_1.1).toArray) 3 g7_1 0) ?_
              refine xx rfl (x_sto 1 g1_2 0 (eSign v21_1.1) ?_)
              refine rend ?_
              refine c_inb ?_
              replace h := H.inl h
              exact h (v23_1.2.1, v23_1.2.2, v21_1.1, y22_3, A22_3, k22_3) _ _ rfl (by kernel_rfl) (by kernel_rfl)
            replace h := H.f q30 h
            refine c_skip ?_
            refine c_inb ?_
            replace h := H.inl h
            exact h (v23_1.2.1, v23_1.2.2, s4, y22_3, A22_3, k22_3) _ _ rfl (by kernel_rfl) (by kernel_rfl)
          replace h := H.f q29 h
          refine c_skip ?_
          refine c_seq ?_
          refine r_start ?_
          refine p 1 ?_
          refine xq rfl (y_load (.agg (eSign ({ s4 with Main := { s4.Main with Move := v16_1.1 } })).toArray) 3 g7_1 0) ?_
          refine xx rfl (e_lit (e := nSign) (el := 37) [.agg (eSign ({ s4 with Main := { s4.Main with Move := v16_1.1 } })).toArray] ([{ s4 with Main := { s4.Main with Move := v16_1.1 } }] : List Sign) fun A22_2 k22_2 => ?_)
          obtain ⟨y22_3, hy22_3, h⟩ := H.call h
          refine xx rfl (e_app 2 hy22_3 (s_own 4) fun A22_3 k22_3 => ?_)
          refine p 1 ?_
          refine rend ?_
          refine c_seq ?_
          refine r_start ?_
          refine p 1 ?_
          obtain ⟨v23_1, hv23_1, h⟩ := H.call h
          refine xx rfl (e_cq (cs' := [.slice A0 (List.length a0) k0, .int .i64 v23_1.2.1, .int .u64 v23_1.2.2]) (v := .bool v23_1.1) 0 [.pointer (some ⟨g0, 0, none⟩), .int .i64 3] func90 (fun W S => C.s_l1Cur_one W hv23_1 (S.bx 0) ((s_argN h0 q0).out W S) q0) ?_)
          refine rend ?_
          refine c_or v23_1.1 (fun q31 => ?_) (fun q31 => ?_)
          · replace h := H.t q31 h
            refine r_start ?_
            refine xq rfl (y_load (.agg (eSign ({ s4 with Main := { s4.Main with Move := v16_1.1 } })).toArray) 3 g7_1 0) ?_
            refine xx rfl (x_sto 1 g1_2 0 (eSign ({ s4 with Main := { s4.Main with Move := v16_1.1 } })) ?_)
            refine rend ?_
            refine c_inb ?_
            replace h := H.inl h
            exact h (v23_1.2.1, v23_1.2.2, { s4 with Main := { s4.Main with Move := v16_1.1 } }, y22_3, A22_3, k22_3) _ _ rfl (by kernel_rfl) (by kernel_rfl)
          replace h := H.f q31 h
          refine c_skip ?_
          refine c_inb ?_
          replace h := H.inl h
          exact h (v23_1.2.1, v23_1.2.2, s4, y22_3, A22_3, k22_3) _ _ rfl (by kernel_rfl) (by kernel_rfl)
        replace h := H.f q28 h
        refine c_seq ?_
        refine r_start ?_
        refine p 2 ?_
        refine rend ?_
        refine c_or (v8_1.1 == 4) (fun q32 => ?_) (fun q32 => ?_)
        · replace h := H.t q32 h
          refine c_seq ?_
          refine r_start ?_
          refine p 1 ?_
          refine xx rfl (x_sto 3 g7_1 13 (eSign ({ s4 with Two := true })) ?_)
          refine rend ?_
          refine r_start ?_
          refine p 2 ?_
          refine xq rfl (y_load (.agg (eHand s4.Main).toArray) 3 g7_1 0) ?_
          obtain ⟨v19_3, hv19_3, h⟩ := H.call h
          refine xx rfl (e_cq (cs' := [.slice A0 (List.length a0) k0, .int .i64 v19_3.2.1, .int .u64 v19_3.2.2]) (v := .agg (eHand v19_3.1).toArray) 0 [.pointer (some ⟨g0, 0, none⟩), .agg (eHand s4.Main).toArray] func89 (fun W S => C.s_l1Cur_otherFor W hv19_3 (S.bx 0) ((s_argN h0 q0).out W S) q0) ?_)
          refine p 1 ?_
          refine xx rfl (x_sto 3 g7_1 14 (eSign (⟨s4.Main, true, v19_3.1⟩ : Sign)) ?_)
          refine rend ?_
          refine c_inb ?_
          refine c_seq ?_
          refine c_seq ?_
          refine r_start ?_
          refine xq rfl (y_load (.agg (eSign (⟨s4.Main, true, v19_3.1⟩ : Sign)).toArray) 3 g7_1 0) ?_
          obtain ⟨v20_1, hv20_1, h⟩ := H.call h
          refine xq rfl (y_call [.agg (eSign (⟨s4.Main, true, v19_3.1⟩ : Sign)).toArray] (.bool v20_1) func91 (fun W S => C.s_siGood W hv20_1)) ?_
          refine p 1 ?_
          refine rend ?_
          refine c_or (!v20_1) (fun q33 => ?_) (fun q33 => ?_)
          · replace h := H.t q33 h
            refine r_start ?_
            refine p 1 ?_
            obtain ⟨v21_1, hv21_1, h⟩ := H.call h
            refine xx rfl (e_cq (cs' := [.slice A0 (List.length a0) k0, .int .i64 v21_1.2.1, .int .u64 v21_1.2.2]) (v := .agg (eSign v21_1.1).toArray) 0 [.pointer (some ⟨g0, 0, none⟩)] func189 (fun W S => C.s_l1Cur_sign W hv21_1 (S.bx 0) ((s_argN h0 q0).out W S) q0) ?_)
            refine xx rfl (x_sto 3 g7_1 0 (eSign v21_1.1) ?_)
            refine rend ?_
            refine c_seq ?_
            refine r_start ?_
            refine p 1 ?_
            refine xq rfl (y_load (.agg (eSign v21_1.1).toArray) 3 g7_1 0) ?_
            refine xx rfl (e_lit (e := nSign) (el := 37) [.agg (eSign v21_1.1).toArray] ([v21_1.1] : List Sign) fun A22_2 k22_2 => ?_)
            obtain ⟨y22_3, hy22_3, h⟩ := H.call h
            refine xx rfl (e_app 2 hy22_3 (s_own 4) fun A22_3 k22_3 => ?_)
            refine p 1 ?_
            refine rend ?_
            refine c_seq ?_
            refine r_start ?_
            refine p 1 ?_
            obtain ⟨v23_1, hv23_1, h⟩ := H.call h
            refine xx rfl (e_cq (cs' := [.slice A0 (List.length a0) k0, .int .i64 v23_1.2.1, .int .u64 v23_1.2.2]) (v := .bool v23_1.1) 0 [.pointer (some ⟨g0, 0, none⟩), .int .i64 3] func90 (fun W S => C.s_l1Cur_one W hv23_1 (S.bx 0) ((s_argN h0 q0).out W S) q0) ?_)
            refine rend ?_
            refine c_or v23_1.1 (fun q34 => ?_) (fun q34 => ?_)
            · replace h := H.t q34 h
              refine r_start ?_
              refine xq rfl (y_load (.agg (eSign v21_1.1).toArray) 3 g7_1 0) ?_
              refine xx rfl (x_sto 1 g1_2 0 (eSign v21_1.1) ?_)
              refine rend ?_
              refine c_inb ?_
              replace h := H.inl h
              exact h (v23_1.2.1, v23_1.2.2, v21_1.1, y22_3, A22_3, k22_3) _ _ rfl (by kernel_rfl) (by kernel_rfl)
            replace h := H.f q34 h
            refine c_skip ?_
            refine c_inb ?_
            replace h := H.inl h
            exact h (v23_1.2.1, v23_1.2.2, s4, y22_3, A22_3, k22_3) _ _ rfl (by kernel_rfl) (by kernel_rfl)
          replace h := H.f q33 h
          refine c_skip ?_
          refine c_seq ?_
          refine r_start ?_
          refine p 1 ?_
          refine xq rfl (y_load (.agg (eSign (⟨s4.Main, true, v19_3.1⟩ : Sign)).toArray) 3 g7_1 0) ?_
          refine xx rfl (e_lit (e := nSign) (el := 37) [.agg (eSign (⟨s4.Main, true, v19_3.1⟩ : Sign)).toArray] ([(⟨s4.Main, true, v19_3.1⟩ : Sign)] : List Sign) fun A22_2 k22_2 => ?_)
          obtain ⟨y22_3, hy22_3, h⟩ := H.call h
          refine xx rfl (e_app 2 hy22_3 (s_own 4) fun A22_3 k22_3 => ?_)
          refine p 1 ?_
          refine rend ?_
          refine c_seq ?_
          refine r_start ?_
          refine p 1 ?_
          obtain ⟨v23_1, hv23_1, h⟩ := H.call h
          refine xx rfl (e_cq (cs' := [.slice A0 (List.length a0) k0, .int .i64 v23_1.2.1, .int .u64 v23_1.2.2]) (v := .bool v23_1.1) 0 [.pointer (some ⟨g0, 0, none⟩), .int .i64 3] func90 (fun W S => C.s_l1Cur_one W hv23_1 (S.bx 0) ((s_argN h0 q0).out W S) q0) ?_)
          refine rend ?_
          refine c_or v23_1.1 (fun q35 => ?_) (fun q35 => ?_)
          · replace h := H.t q35 h
            refine r_start ?_
            refine xq rfl (y_load (.agg (eSign (⟨s4.Main, true, v19_3.1⟩ : Sign)).toArray) 3 g7_1 0) ?_
            refine xx rfl (x_sto 1 g1_2 0 (eSign (⟨s4.Main, true, v19_3.1⟩ : Sign)) ?_)
            refine rend ?_
            refine c_inb ?_
            replace h := H.inl h
            exact h (v23_1.2.1, v23_1.2.2, (⟨s4.Main, true, v19_3.1⟩ : Sign), y22_3, A22_3, k22_3) _ _ rfl (by kernel_rfl) (by kernel_rfl)
          replace h := H.f q35 h
          refine c_skip ?_
          refine c_inb ?_
          replace h := H.inl h
          exact h (v23_1.2.1, v23_1.2.2, s4, y22_3, A22_3, k22_3) _ _ rfl (by kernel_rfl) (by kernel_rfl)
        replace h := H.f q32 h
        refine c_skip ?_
        refine c_inb ?_
        refine c_seq ?_
        refine c_seq ?_
        refine r_start ?_
        refine xq rfl (y_load (.agg (eSign s4).toArray) 3 g7_1 0) ?_
        obtain ⟨v20_1, hv20_1, h⟩ := H.call h
        refine xq rfl (y_call [.agg (eSign s4).toArray] (.bool v20_1) func91 (fun W S => C.s_siGood W hv20_1)) ?_
        refine p 1 ?_
        refine rend ?_
        refine c_or (!v20_1) (fun q36 => ?_) (fun q36 => ?_)
        · replace h := H.t q36 h
          refine r_start ?_
          refine p 1 ?_
          obtain ⟨v21_1, hv21_1, h⟩ := H.call h
          refine xx rfl (e_cq (cs' := [.slice A0 (List.length a0) k0, .int .i64 v21_1.2.1, .int .u64 v21_1.2.2]) (v := .agg (eSign v21_1.1).toArray) 0 [.pointer (some ⟨g0, 0, none⟩)] func189 (fun W S => C.s_l1Cur_sign W hv21_1 (S.bx 0) ((s_argN h0 q0).out W S) q0) ?_)
          refine xx rfl (x_sto 3 g7_1 0 (eSign v21_1.1) ?_)
          refine rend ?_
          refine c_seq ?_
          refine r_start ?_
          refine p 1 ?_
          refine xq rfl (y_load (.agg (eSign v21_1.1).toArray) 3 g7_1 0) ?_
          refine xx rfl (e_lit (e := nSign) (el := 37) [.agg (eSign v21_1.1).toArray] ([v21_1.1] : List Sign) fun A22_2 k22_2 => ?_)
          obtain ⟨y22_3, hy22_3, h⟩ := H.call h
          refine xx rfl (e_app 2 hy22_3 (s_own 4) fun A22_3 k22_3 => ?_)
          refine p 1 ?_
          refine rend ?_
          refine c_seq ?_
          refine r_start ?_
          refine p 1 ?_
          obtain ⟨v23_1, hv23_1, h⟩ := H.call h
          refine xx rfl (e_cq (cs' := [.slice A0 (List.length a0) k0, .int .i64 v23_1.2.1, .int .u64 v23_1.2.2]) (v := .bool v23_1.1) 0 [.pointer (some ⟨g0, 0, none⟩), .int .i64 3] func90 (fun W S => C.s_l1Cur_one W hv23_1 (S.bx 0) ((s_argN h0 q0).out W S) q0) ?_)
          refine rend ?_
          refine c_or v23_1.1 (fun q37 => ?_) (fun q37 => ?_)
          · replace h := H.t q37 h
            refine r_start ?_
            refine xq rfl (y_load (.agg (eSign v21_1.1).toArray) 3 g7_1 0) ?_
            refine xx rfl (x_sto 1 g1_2 0 (eSign v21_1.1) ?_)
            refine rend ?_
            refine c_inb ?_
            replace h := H.inl h
            exact h (v23_1.2.1, v23_1.2.2, v21_1.1, y22_3, A22_3, k22_3) _ _ rfl (by kernel_rfl) (by kernel_rfl)
          replace h := H.f q37 h
          refine c_skip ?_
          refine c_inb ?_
          replace h := H.inl h
          exact h (v23_1.2.1, v23_1.2.2, s4, y22_3, A22_3, k22_3) _ _ rfl (by kernel_rfl) (by kernel_rfl)
        replace h := H.f q36 h
        refine c_skip ?_
        refine c_seq ?_
        refine r_start ?_
        refine p 1 ?_
        refine xq rfl (y_load (.agg (eSign s4).toArray) 3 g7_1 0) ?_
        refine xx rfl (e_lit (e := nSign) (el := 37) [.agg (eSign s4).toArray] ([s4] : List Sign) fun A22_2 k22_2 => ?_)
        obtain ⟨y22_3, hy22_3, h⟩ := H.call h
        refine xx rfl (e_app 2 hy22_3 (s_own 4) fun A22_3 k22_3 => ?_)
        refine p 1 ?_
        refine rend ?_
        refine c_seq ?_
        refine r_start ?_
        refine p 1 ?_
        obtain ⟨v23_1, hv23_1, h⟩ := H.call h
        refine xx rfl (e_cq (cs' := [.slice A0 (List.length a0) k0, .int .i64 v23_1.2.1, .int .u64 v23_1.2.2]) (v := .bool v23_1.1) 0 [.pointer (some ⟨g0, 0, none⟩), .int .i64 3] func90 (fun W S => C.s_l1Cur_one W hv23_1 (S.bx 0) ((s_argN h0 q0).out W S) q0) ?_)
        refine rend ?_
        refine c_or v23_1.1 (fun q38 => ?_) (fun q38 => ?_)
        · replace h := H.t q38 h
          refine r_start ?_
          refine xq rfl (y_load (.agg (eSign s4).toArray) 3 g7_1 0) ?_
          refine xx rfl (x_sto 1 g1_2 0 (eSign s4) ?_)
          refine rend ?_
          refine c_inb ?_
          replace h := H.inl h
          exact h (v23_1.2.1, v23_1.2.2, s4, y22_3, A22_3, k22_3) _ _ rfl (by kernel_rfl) (by kernel_rfl)
        replace h := H.f q38 h
        refine c_skip ?_
        refine c_inb ?_
        replace h := H.inl h
        exact h (v23_1.2.1, v23_1.2.2, s4, y22_3, A22_3, k22_3) _ _ rfl (by kernel_rfl) (by kernel_rfl)
      replace h := H.f q15 h
      refine cx ?_
      replace h := H.inr h
      exact hj14 (n2, n3, s4, l5, A6, k7) _ _ h (by kernel_rfl) (by kernel_rfl)
    intro x u h
    obtain ⟨n8, n9, s10, l11, A12, k13⟩ := x
    refine c_seq ?_
    refine c_seq ?_
    refine r_start ?_
    refine p 3 ?_
    refine br (decide ((wr (16 + v5_1.1)) > 0)) (fun q39 => ?_) (fun q39 => ?_)
    · replace h := H.t q39 h
      refine o_set 69 (congrArg Value.bool q39) ?_
      refine p 1 ?_
      obtain ⟨v25_4, hv25_4, h⟩ := H.call h
      refine xx rfl (e_cq (cs' := [.slice A0 (List.length a0) k0, .int .i64 v25_4.2.1, .int .u64 v25_4.2.2]) (v := .bool v25_4.1) 0 [.pointer (some ⟨g0, 0, none⟩), .int .i64 24] func90 (fun W S => C.s_l1Cur_one W hv25_4 (S.bx 0) ((s_argN h0 q0).out W S) q0) ?_)
      refine p 1 ?_
      refine rend ?_
      refine c_or v25_4.1 (fun q40 => ?_) (fun q40 => ?_)
      · replace h := H.t q40 h
        refine r_start ?_
        refine p 3 ?_
        obtain ⟨v26_3, hv26_3, h⟩ := H.call h
        refine xx rfl (e_cq (cs' := [.slice A0 (List.length a0) k0, .int .i64 v26_3.2.1, .int .u64 v26_3.2.2]) (v := .int .i64 v26_3.1) 0 [.pointer (some ⟨g0, 0, none⟩), .int .i64 (wr (16 + v5_1.1))] func123 (fun W S => C.s_l1Cur_pick W hv26_3 (S.bx 0) ((s_argN h0 q0).out W S) q0) ?_)
        refine p 1 ?_
        obtain ⟨v26_5, hv26_5, h⟩ := H.call h
        refine xx rfl (e_cq (cs' := [.slice A0 (List.length a0) k0, .int .i64 v26_5.2.1, .int .u64 v26_5.2.2]) (v := .agg (eSign v26_5.1).toArray) 0 [.pointer (some ⟨g0, 0, none⟩)] func116 (fun W S => C.s_l1Cur_anySign W hv26_5 (S.bx 0) ((s_argN h0 q0).out W S) q0) ?_)
        obtain ⟨y26_6, hy26_6, h⟩ := H.call h
        refine xq rfl (y_idx (e := nSign) (el := 37) hy26_6 (s_own 2)) ?_
        refine xx rfl (e_stel (e := nSign) (b := v26_5.1) 2 0 (eSign v26_5.1) hy26_6 (by kernel_rfl) ?_)
        refine o_set 4 (sl_set (A := A12) (c := k13) (l := l11) (n := Int.toNat v26_3.1) (b := v26_5.1)) ?_
        refine rend ?_
        refine c_seq ?_
        refine r_start ?_
        refine p 2 ?_
        refine rend ?_
        replace h := H.done h
        subst h
        exact ret func131 rfl (vs := [.slice A12 (List.length (List.set l11 (Int.toNat v26_3.1) v26_5.1)) k13]) (.tmp (by kernel_rfl) .nil) rfl (fun W S => S.retQR (res := fun v => v) 2 (by decide))
      replace h := H.f q40 h
      refine c_skip ?_
      refine c_seq ?_
      refine r_start ?_
      refine p 2 ?_
      refine rend ?_
      replace h := H.done h
      subst h
      exact ret func131 rfl (vs := [.slice A12 (List.length l11) k13]) (.tmp (by kernel_rfl) .nil) rfl (fun W S => S.retQR (res := fun v => v) 2 (by decide))
    replace h := H.f q39 h
    refine o_set 69 (congrArg Value.bool q39) ?_
    refine p 3 ?_
    refine rend ?_
    refine c_f (by kernel_rfl) ?_
    refine c_skip ?_
    refine c_seq ?_
    refine r_start ?_
    refine p 2 ?_
    refine rend ?_
    replace h := H.done h
    subst h
    exact ret func131 rfl (vs := [.slice A12 (List.length l11) k13]) (.tmp (by kernel_rfl) .nil) rfl (fun W S => S.retQR (res := fun v => v) 2 (by decide))
  replace h := H.f q1 h
  refine c_skip ?_
  refine c_seq ?_
  refine c_block ?_
  refine c_nil nSign 37 ?_
  refine joinH (X := (Int × Int × Sign × (List Sign) × Option Addr × Nat)) 0 (H.bnd h) (fun ⟨n47, n48, s49, l50, A51, k52⟩ => (n47, n48, s49, l50)) (fun ⟨n47, n48, s49, l50, A51, k52⟩ => [box g0 92 [.slice A0 (List.length a0) k0, .int .i64 n47, .int .u64 n48], box g1_2 37 (eSign s49), rowT nSign w.heap.size 37 (.slice A51 (List.length l50) k52) l50]) (fun ⟨n47, n48, s49, l50, A51, k52⟩ u => (.pointer (some ⟨g0, 0, none⟩) :: (jk u 1 3 (.slice A51 (List.length l50) k52 :: .int .i64 v3_1.1 :: (jk u 6 75 []))))) (fun h hj53 => ?_) ?_
  · skip
    refine loopR (X := (Int × Int × Sign × (List Sign) × Option Addr × Nat)) (fun ⟨n41, n42, s43, l44, A45, k46⟩ => (n41, n42, s43, l44)) (fun ⟨n41, n42, s43, l44, A45, k46⟩ => [box g0 92 [.slice A0 (List.length a0) k0, .int .i64 n41, .int .u64 n42], box g1_2 37 (eSign s43), rowT nSign w.heap.size 37 (.slice A45 (List.length l44) k46) l44]) (fun ⟨n41, n42, s43, l44, A45, k46⟩ u => (.pointer (some ⟨g0, 0, none⟩) :: (jk u 1 2 (.pointer (some ⟨g1_2, 0, none⟩) :: .slice A45 (List.length l44) k46 :: .int .i64 v3_1.1 :: (jk u 6 75 []))))) (v4_1.2.1, v4_1.2.2, v1_1.1, ([] : List Sign), none, 0) h (by kernel_rfl) (by kernel_rfl) ?_
    intro x u h
    obtain ⟨n41, n42, s43, l44, A45, k46⟩ := x
    refine c_seq ?_
    refine c_seq ?_
    refine r_start ?_
    refine p 4 ?_
    refine rend ?_
    refine c_or (decide ((List.length l44 : Int) < v3_1.1)) (fun q54 => ?_) (fun q54 => ?_)
    · replace h := H.t q54 h
      refine c_skip ?_
      refine c_block ?_
      refine c_seq ?_
      refine r_start ?_
      refine xq rfl (y_load (.agg (eSign s43).toArray) 1 g1_2 0) ?_
      refine xx rfl (x_new (eSign zSign) fun g7_1 => ?_)
      refine xx rfl (x_sto 3 g7_1 0 (eSign s43) ?_)
      refine rend ?_
      refine c_seq ?_
      refine c_seq ?_
      refine r_start ?_
      refine p 1 ?_
      obtain ⟨v8_1, hv8_1, h⟩ := H.call h
      refine xx rfl (e_cq (cs' := [.slice A0 (List.length a0) k0, .int .i64 v8_1.2.1, .int .u64 v8_1.2.2]) (v := .int .i64 v8_1.1) 0 [.pointer (some ⟨g0, 0, none⟩), .int .i64 6] func123 (fun W S => C.s_l1Cur_pick W hv8_1 (S.bx 0) ((s_argN h0 q0).out W S) q0) ?_)
      refine rend ?_
      refine c_block ?_
      refine c_seq ?_
      refine r_start ?_
      refine p 2 ?_
      refine rend ?_
      refine c_or (v8_1.1 == 0) (fun q55 => ?_) (fun q55 => ?_)
      · replace h := H.t q55 h
        refine r_start ?_
        refine p 1 ?_
        obtain ⟨v10_1, hv10_1, h⟩ := H.call h
        refine xx rfl (e_cq (cs' := [.slice A0 (List.length a0) k0, .int .i64 v10_1.2.1, .int .u64 v10_1.2.2]) (v := .agg (eShape v10_1.1).toArray) 0 [.pointer (some ⟨g0, 0, none⟩)] func203 (fun W S => C.s_l1Cur_shape W hv10_1 (S.bx 0) ((s_argN h0 q0).out W S) q0) ?_)
        refine p 2 ?_
        refine xx rfl (x_sto 3 g7_1 0 (eSign ({ s43 with Main := { s43.Main with Shape := v10_1.1 } })) ?_)
        refine rend ?_
        refine c_inb ?_
        refine c_seq ?_
        refine c_seq ?_
        refine r_start ?_
        refine xq rfl (y_load (.agg (eSign ({ s43 with Main := { s43.Main with Shape := v10_1.1 } })).toArray) 3 g7_1 0) ?_
        obtain ⟨v20_1, hv20_1, h⟩ := H.call h
        refine xq rfl (y_call [.agg (eSign ({ s43 with Main := { s43.Main with Shape := v10_1.1 } })).toArray] (.bool v20_1) func91 (fun W S => C.s_siGood W hv20_1)) ?_
        refine p 1 ?_
        refine rend ?_
        refine c_or (!v20_1) (fun q56 => ?_) (fun q56 => ?_)
        · replace h := H.t q56 h
          refine r_start ?_
          refine p 1 ?_
          obtain ⟨v21_1, hv21_1, h⟩ := H.call h
          refine xx rfl (e_cq (cs' := [.slice A0 (List.length a0) k0, .int .i64 v21_1.2.1, .int .u64 v21_1.2.2]) (v := .agg (eSign v21_1.1).toArray) 0 [.pointer (some ⟨g0, 0, none⟩)] func189 (fun W S => C.s_l1Cur_sign W hv21_1 (S.bx 0) ((s_argN h0 q0).out W S) q0) ?_)
          refine xx rfl (x_sto 3 g7_1 0 (eSign v21_1.1) ?_)
          refine rend ?_
          refine frg (fun u => (.pointer (some ⟨g0, 0, none⟩) :: (jk u 1 2 (.pointer (some ⟨g1_2, 0, none⟩) :: .slice A45 (List.length l44) k46 :: .int .i64 v3_1.1 :: .pointer (some ⟨g7_1, 0, none⟩) :: (jk u 7 74 []))))) (by kernel_rfl) fun u => ?_
          refine keep 4 (its' := [box g0 92 [.slice A0 (List.length a0) k0, .int .i64 v21_1.2.1, .int .u64 v21_1.2.2], box g1_2 37 (eSign s43), rowT nSign w.heap.size 37 (.slice A45 (List.length l44) k46) l44, box g7_1 37 (eSign v21_1.1)]) (by kernel_rfl) ?_
          refine c_seq ?_
          refine r_start ?_
          refine p 1 ?_
          refine xq rfl (y_load (.agg (eSign v21_1.1).toArray) 3 g7_1 0) ?_
          refine xx rfl (e_lit (e := nSign) (el := 37) [.agg (eSign v21_1.1).toArray] ([v21_1.1] : List Sign) fun A22_2 k22_2 => ?_)
          obtain ⟨y22_3, hy22_3, h⟩ := H.call h
          refine xx rfl (e_app 2 hy22_3 (s_own 4) fun A22_3 k22_3 => ?_)
          refine p 1 ?_
          refine rend ?_
          refine c_seq ?_
          refine r_start ?_
          refine p 1 ?_
          obtain ⟨v23_1, hv23_1, h⟩ := H.call h
          refine xx rfl (e_cq (cs' := [.slice A0 (List.length a0) k0, .int .i64 v23_1.2.1, .int .u64 v23_1.2.2]) (v := .bool v23_1.1) 0 [.pointer (some ⟨g0, 0, none⟩), .int .i64 3] func90 (fun W S => C.s_l1Cur_one W hv23_1 (S.bx 0) ((s_argN h0 q0).out W S) q0) ?_)
          refine rend ?_
          refine c_or v23_1.1 (fun q57 => ?_) (fun q57 => ?_)
          · replace h := H.t q57 h
            refine r_start ?_
            refine xq rfl (y_load (.agg (eSign v21_1.1).toArray) 3 g7_1 0) ?_
            refine xx rfl (x_sto 1 g1_2 0 (eSign v21_1.1) ?_)
            refine rend ?_
            refine c_inb ?_
            replace h := H.inl h
            exact h (v23_1.2.1, v23_1.2.2, v21_1.1, y22_3, A22_3, k22_3) _ _ rfl (by kernel_rfl) (by kernel_rfl)
          replace h := H.f q57 h
          refine c_skip ?_
          refine c_inb ?_
          replace h := H.inl h
          exact h (v23_1.2.1, v23_1.2.2, s43, y22_3, A22_3, k22_3) _ _ rfl (by kernel_rfl) (by kernel_rfl)
        replace h := H.f q56 h
        refine c_skip ?_
        refine c_seq ?_
        refine r_start ?_
        refine p 1 ?_
        refine xq rfl (y_load (.agg (eSign ({ s43 with Main := { s43.Main with Shape := v10_1.1 } })).toArray) 3 g7_1 0) ?_
        refine xx rfl (e_lit (e := nSign) (el := 37) [.agg (eSign ({ s43 with Main := { s43.Main with Shape := v10_1.1 } })).toArray] ([{ s43 with Main := { s43.Main with Shape := v10_1.1 } }] : List Sign) fun A22_2 k22_2 => ?_)
        obtain ⟨y22_3, hy22_3, h⟩ := H.call h
        refine xx rfl (e_app 2 hy22_3 (s_own 4) fun A22_3 k22_3 => ?_)
        refine p 1 ?_
        refine rend ?_
        refine frg (fun u => (.pointer (some ⟨g0, 0, none⟩) :: (jk u 1 2 (.pointer (some ⟨g1_2, 0, none⟩) :: .slice A22_3 (List.length y22_3) k22_3 :: .int .i64 v3_1.1 :: .pointer (some ⟨g7_1, 0, none⟩) :: (jk u 7 74 []))))) (by kernel_rfl) fun u => ?_
        refine keep 5 (its' := [box g0 92 [.slice A0 (List.length a0) k0, .int .i64 v10_1.2.1, .int .u64 v10_1.2.2], box g1_2 37 (eSign s43), rowT nSign w.heap.size 37 (.slice A22_3 (List.length y22_3) k22_3) y22_3, box g7_1 37 (eSign ({ s43 with Main := { s43.Main with Shape := v10_1.1 } })), rowT nSign w.heap.size 37 (.slice A22_2 (List.length ([{ s43 with Main := { s43.Main with Shape := v10_1.1 } }] : List Sign)) k22_2) ([{ s43 with Main := { s43.Main with Shape := v10_1.1 } }] : List Sign)]) (by kernel_rfl) ?_
        refine c_seq ?_
        refine r_start ?_
        refine p 1 ?_
        obtain ⟨v23_1, hv23_1, h⟩ := H.call h
        refine xx rfl (e_cq (cs' := [.slice A0 (List.length a0) k0, .int .i64 v23_1.2.1, .int .u64 v23_1.2.2]) (v := .bool v23_1.1) 0 [.pointer (some ⟨g0, 0, none⟩), .int .i64 3] func90 (fun W S => C.s_l1Cur_one W hv23_1 (S.bx 0) ((s_argN h0 q0).out W S) q0) ?_)
        refine rend ?_
        refine c_or v23_1.1 (fun q58 => ?_) (fun q58 => ?_)
        · replace h := H.t q58 h
          refine r_start ?_
          refine xq rfl (y_load (.agg (eSign ({ s43 with Main := { s43.Main with Shape := v10_1.1 } })).toArray) 3 g7_1 0) ?_
          refine xx rfl (x_sto 1 g1_2 0 (eSign ({ s43 with Main := { s43.Main with Shape := v10_1.1 } })) ?_)
          refine rend ?_
          refine c_inb ?_
          replace h := H.inl h
          exact h (v23_1.2.1, v23_1.2.2, { s43 with Main := { s43.Main with Shape := v10_1.1 } }, y22_3, A22_3, k22_3) _ _ rfl (by kernel_rfl) (by kernel_rfl)
        replace h := H.f q58 h
        refine c_skip ?_
        refine c_inb ?_
        replace h := H.inl h
        exact h (v23_1.2.1, v23_1.2.2, s43, y22_3, A22_3, k22_3) _ _ rfl (by kernel_rfl) (by kernel_rfl)
      replace h := H.f q55 h
      refine c_seq ?_
      refine r_start ?_
      refine p 2 ?_
      refine rend ?_
      refine c_or (v8_1.1 == 1) (fun q59 => ?_) (fun q59 => ?_)
      · replace h := H.t q59 h
        refine r_start ?_
        refine p 1 ?_
        obtain ⟨v12_1, hv12_1, h⟩ := H.call h
        refine xx rfl (e_cq (cs' := [.slice A0 (List.length a0) k0, .int .i64 v12_1.2.1, .int .u64 v12_1.2.2]) (v := .agg (eOrient v12_1.1).toArray) 0 [.pointer (some ⟨g0, 0, none⟩)] func204 (fun W S => C.s_l1Cur_orient W hv12_1 (S.bx 0) ((s_argN h0 q0).out W S) q0) ?_)
        refine p 2 ?_
        refine xx rfl (x_sto 3 g7_1 6 (eSign ({ s43 with Main := { s43.Main with Orient := v12_1.1 } })) ?_)
        refine rend ?_
        refine c_inb ?_
        refine c_seq ?_
        refine c_seq ?_
        refine r_start ?_
        refine xq rfl (y_load (.agg (eSign ({ s43 with Main := { s43.Main with Orient := v12_1.1 } })).toArray) 3 g7_1 0) ?_
        obtain ⟨v20_1, hv20_1, h⟩ := H.call h
        refine xq rfl (y_call [.agg (eSign ({ s43 with Main := { s43.Main with Orient := v12_1.1 } })).toArray] (.bool v20_1) func91 (fun W S => C.s_siGood W hv20_1)) ?_
        refine p 1 ?_
        refine rend ?_
        refine frg (fun u => (.pointer (some ⟨g0, 0, none⟩) :: (jk u 1 2 (.pointer (some ⟨g1_2, 0, none⟩) :: .slice A45 (List.length l44) k46 :: .int .i64 v3_1.1 :: .pointer (some ⟨g7_1, 0, none⟩) :: (jk u 7 50 (.bool (!v20_1) :: (jk u 58 23 []))))))) (by kernel_rfl) fun u => ?_
        refine keep 4 (its' := [box g0 92 [.slice A0 (List.length a0) k0, .int .i64 v12_1.2.1, .int .u64 v12_1.2.2], box g1_2 37 (eSign s43), rowT nSign w.heap.size 37 (.slice A45 (List.length l44) k46) l44, box g7_1 37 (eSign ({ s43 with Main := { s43.Main with Orient := v12_1.1 } }))]) (by kernel_rfl) ?_
        refine c_or (!v20_1) (fun q60 => ?_) (fun q60 => ?_)
        · replace h := H.t q60 h
          refine r_start ?_
          refine p 1 ?_
          obtain ⟨v21_1, hv21_1, h⟩ := H.call h
          refine xx rfl (e_cq (cs' := [.slice A0 (List.length a0) k0, .int .i64 v21_1.2.1, .int .u64 v21_1.2.2]) (v := .agg (eSign v21_1.1).toArray) 0 [.pointer (some ⟨g0, 0, none⟩)] func189 (fun W S => C.s_l1Cur_sign W hv21_1 (S.bx 0) ((s_argN h0 q0).out W S) q0) ?_)
          refine xx rfl (x_sto 3 g7_1 0 (eSign v21_1.1) ?_)
          refine rend ?_
          refine c_seq ?_
          refine r_start ?_
          refine p 1 ?_
          refine xq rfl (y_load (.agg (eSign v21_1.1).toArray) 3 g7_1 0) ?_
          refine xx rfl (e_lit (e := nSign) (el := 37) [.agg (eSign v21_1.1).toArray] ([v21_1.1] : List Sign) fun A22_2 k22_2 => ?_)
          obtain ⟨y22_3, hy22_3, h⟩ := H.call h
          refine xx rfl (e_app 2 hy22_3 (s_own 4) fun A22_3 k22_3 => ?_)
          refine p 1 ?_
          refine rend ?_
          refine c_seq ?_
          refine r_start ?_
          refine p 1 ?_
          obtain ⟨v23_1, hv23_1, h⟩ := H.call h
          refine xx rfl (e_cq (cs' := [.slice A0 (List.length a0) k0, .int .i64 v23_1.2.1, .int .u64 v23_1.2.2]) (v := .bool v23_1.1) 0 [.pointer (some ⟨g0, 0, none⟩), .int .i64 3] func90 (fun W S => C.s_l1Cur_one W hv23_1 (S.bx 0) ((s_argN h0 q0).out W S) q0) ?_)
          refine rend ?_
          refine c_or v23_1.1 (fun q61 => ?_) (fun q61 => ?_)
          · replace h := H.t q61 h
            refine r_start ?_
            refine xq rfl (y_load (.agg (eSign v21_1.1).toArray) 3 g7_1 0) ?_
            refine xx rfl (x_sto 1 g1_2 0 (eSign v21_1.1) ?_)
            refine rend ?_
            refine c_inb ?_
            replace h := H.inl h
            exact h (v23_1.2.1, v23_1.2.2, v21_1.1, y22_3, A22_3, k22_3) _ _ rfl (by kernel_rfl) (by kernel_rfl)
          replace h := H.f q61 h
          refine c_skip ?_
          refine c_inb ?_
          replace h := H.inl h
          exact h (v23_1.2.1, v23_1.2.2, s43, y22_3, A22_3, k22_3) _ _ rfl (by kernel_rfl) (by kernel_rfl)
        replace h := H.f q60 h
        refine c_skip ?_
        refine c_seq ?_
        refine r_start ?_
        refine p 1 ?_
        refine xq rfl (y_load (.agg (eSign ({ s43 with Main := { s43.Main with Orient := v12_1.1 } })).toArray) 3 g7_1 0) ?_
        refine xx rfl (e_lit (e := nSign) (el := 37) [.agg (eSign ({ s43 with Main := { s43.Main with Orient := v12_1.1 } })).toArray] ([{ s43 with Main := { s43.Main with Orient := v12_1.1 } }] : List Sign) fun A22_2 k22_2 => ?_)
        obtain ⟨y22_3, hy22_3, h⟩ := H.call h
        refine xx rfl (e_app 2 hy22_3 (s_own 4) fun A22_3 k22_3 => ?_)
        refine p 1 ?_
        refine rend ?_
        refine c_seq ?_
        refine r_start ?_
        refine p 1 ?_
        obtain ⟨v23_1, hv23_1, h⟩ := H.call h
        refine xx rfl (e_cq (cs' := [.slice A0 (List.length a0) k0, .int .i64 v23_1.2.1, .int .u64 v23_1.2.2]) (v := .bool v23_1.1) 0 [.pointer (some ⟨g0, 0, none⟩), .int .i64 3] func90 (fun W S => C.s_l1Cur_one W hv23_1 (S.bx 0) ((s_argN h0 q0).out W S) q0) ?_)
        refine rend ?_
        refine c_or v23_1.1 (fun q62 => ?_) (fun q62 => ?_)
        · replace h := H.t q62 h
          refine r_start ?_
          refine xq rfl (y_load (.agg (eSign ({ s43 with Main := { s43.Main with Orient := v12_1.1 } })).toArray) 3 g7_1 0) ?_
          refine xx rfl (x_sto 1 g1_2 0 (eSign ({ s43 with Main := { s43.Main with Orient := v12_1.1 } })) ?_)
          refine rend ?_
          refine c_inb ?_
          replace h := H.inl h
          exact h (v23_1.2.1, v23_1.2.2, { s43 with Main := { s43.Main with Orient := v12_1.1 } }, y22_3, A22_3, k22_3) _ _ rfl (by kernel_rfl) (by kernel_rfl)
        replace h := H.f q62 h
        refine c_skip ?_
        refine c_inb ?_
        replace h := H.inl h
        exact h (v23_1.2.1, v23_1.2.2, s43, y22_3, A22_3, k22_3) _ _ rfl (by kernel_rfl) (by kernel_rfl)
      replace h := H.f q59 h
      refine c_seq ?_
      refine r_start ?_
      refine p 2 ?_
      refine rend ?_
      refine c_or (v8_1.1 == 2) (fun q63 => ?_) (fun q63 => ?_)
      · replace h := H.t q63 h
        refine r_start ?_
        refine p 1 ?_
        obtain ⟨v14_1, hv14_1, h⟩ := H.call h
        refine xx rfl (e_cq (cs' := [.slice A0 (List.length a0) k0, .int .i64 v14_1.2.1, .int .u64 v14_1.2.2]) (v := .agg (ePlace v14_1.1).toArray) 0 [.pointer (some ⟨g0, 0, none⟩)] func124 (fun W S => C.s_l1Cur_place W hv14_1 (S.bx 0) ((s_argN h0 q0).out W S) q0) ?_)
        refine p 2 ?_
        refine xx rfl (x_sto 3 g7_1 8 (eSign ({ s43 with Main := { s43.Main with Place := v14_1.1 } })) ?_)
        refine rend ?_
        refine frg (fun u => (.pointer (some ⟨g0, 0, none⟩) :: (jk u 1 2 (.pointer (some ⟨g1_2, 0, none⟩) :: .slice A45 (List.length l44) k46 :: .int .i64 v3_1.1 :: .pointer (some ⟨g7_1, 0, none⟩) :: (jk u 7 74 []))))) (by kernel_rfl) fun u => ?_
        refine keep 4 (its' := [box g0 92 [.slice A0 (List.length a0) k0, .int .i64 v14_1.2.1, .int .u64 v14_1.2.2], box g1_2 37 (eSign s43), rowT nSign w.heap.size 37 (.slice A45 (List.length l44) k46) l44, box g7_1 37 (eSign ({ s43 with Main := { s43.Main with Place := v14_1.1 } }))]) (by kernel_rfl) ?_
        refine c_inb ?_
        refine c_seq ?_
        refine c_seq ?_
        refine r_start ?_
        refine xq rfl (y_load (.agg (eSign ({ s43 with Main := { s43.Main with Place := v14_1.1 } })).toArray) 3 g7_1 0) ?_
        obtain ⟨v20_1, hv20_1, h⟩ := H.call h
        refine xq rfl (y_call [.agg (eSign ({ s43 with Main := { s43.Main with Place := v14_1.1 } })).toArray] (.bool v20_1) func91 (fun W S => C.s_siGood W hv20_1)) ?_
        refine p 1 ?_
        refine rend ?_
        refine c_or (!v20_1) (fun q64 => ?_) (fun q64 => ?_)
        · replace h := H.t q64 h
          refine r_start ?_
          refine p 1 ?_
          obtain ⟨v21_1, hv21_1, h⟩ := H.call h
          refine xx rfl (e_cq (cs' := [.slice A0 (List.length a0) k0, .int .i64 v21_1.2.1, .int .u64 v21_1.2.2]) (v := .agg (eSign v21_1.1).toArray) 0 [.pointer (some ⟨g0, 0, none⟩)] func189 (fun W S => C.s_l1Cur_sign W hv21_1 (S.bx 0) ((s_argN h0 q0).out W S) q0) ?_)
          refine xx rfl (x_sto 3 g7_1 0 (eSign v21_1.1) ?_)
          refine rend ?_
          refine c_seq ?_
          refine r_start ?_
          refine p 1 ?_
          refine xq rfl (y_load (.agg (eSign v21_1.1).toArray) 3 g7_1 0) ?_
          refine xx rfl (e_lit (e := nSign) (el := 37) [.agg (eSign v21_1.1).toArray] ([v21_1.1] : List Sign) fun A22_2 k22_2 => ?_)
          obtain ⟨y22_3, hy22_3, h⟩ := H.call h
          refine xx rfl (e_app 2 hy22_3 (s_own 4) fun A22_3 k22_3 => ?_)
          refine p 1 ?_
          refine rend ?_
          refine c_seq ?_
          refine r_start ?_
          refine p 1 ?_
          obtain ⟨v23_1, hv23_1, h⟩ := H.call h
          refine xx rfl (e_cq (cs' := [.slice A0 (List.length a0) k0, .int .i64 v23_1.2.1, .int .u64 v23_1.2.2]) (v := .bool v23_1.1) 0 [.pointer (some ⟨g0, 0, none⟩), .int .i64 3] func90 (fun W S => C.s_l1Cur_one W hv23_1 (S.bx 0) ((s_argN h0 q0).out W S) q0) ?_)
          refine rend ?_
          refine c_or v23_1.1 (fun q65 => ?_) (fun q65 => ?_)
          · replace h := H.t q65 h
            refine r_start ?_
            refine xq rfl (y_load (.agg (eSign v21_1.1).toArray) 3 g7_1 0) ?_
            refine xx rfl (x_sto 1 g1_2 0 (eSign v21_1.1) ?_)
            refine rend ?_
            refine c_inb ?_
            replace h := H.inl h
            exact h (v23_1.2.1, v23_1.2.2, v21_1.1, y22_3, A22_3, k22_3) _ _ rfl (by kernel_rfl) (by kernel_rfl)
          replace h := H.f q65 h
          refine c_skip ?_
          refine c_inb ?_
          replace h := H.inl h
          exact h (v23_1.2.1, v23_1.2.2, s43, y22_3, A22_3, k22_3) _ _ rfl (by kernel_rfl) (by kernel_rfl)
        replace h := H.f q64 h
        refine c_skip ?_
        refine c_seq ?_
        refine r_start ?_
        refine p 1 ?_
        refine xq rfl (y_load (.agg (eSign ({ s43 with Main := { s43.Main with Place := v14_1.1 } })).toArray) 3 g7_1 0) ?_
        refine xx rfl (e_lit (e := nSign) (el := 37) [.agg (eSign ({ s43 with Main := { s43.Main with Place := v14_1.1 } })).toArray] ([{ s43 with Main := { s43.Main with Place := v14_1.1 } }] : List Sign) fun A22_2 k22_2 => ?_)
        obtain ⟨y22_3, hy22_3, h⟩ := H.call h
        refine xx rfl (e_app 2 hy22_3 (s_own 4) fun A22_3 k22_3 => ?_)
        refine p 1 ?_
        refine rend ?_
        refine c_seq ?_
        refine r_start ?_
        refine p 1 ?_
        obtain ⟨v23_1, hv23_1, h⟩ := H.call h
        refine xx rfl (e_cq (cs' := [.slice A0 (List.length a0) k0, .int .i64 v23_1.2.1, .int .u64 v23_1.2.2]) (v := .bool v23_1.1) 0 [.pointer (some ⟨g0, 0, none⟩), .int .i64 3] func90 (fun W S => C.s_l1Cur_one W hv23_1 (S.bx 0) ((s_argN h0 q0).out W S) q0) ?_)
        refine rend ?_
        refine c_or v23_1.1 (fun q66 => ?_) (fun q66 => ?_)
        · replace h := H.t q66 h
          refine r_start ?_
          refine xq rfl (y_load (.agg (eSign ({ s43 with Main := { s43.Main with Place := v14_1.1 } })).toArray) 3 g7_1 0) ?_
          refine xx rfl (x_sto 1 g1_2 0 (eSign ({ s43 with Main := { s43.Main with Place := v14_1.1 } })) ?_)
          refine rend ?_
          refine c_inb ?_
          replace h := H.inl h
          exact h (v23_1.2.1, v23_1.2.2, { s43 with Main := { s43.Main with Place := v14_1.1 } }, y22_3, A22_3, k22_3) _ _ rfl (by kernel_rfl) (by kernel_rfl)
        replace h := H.f q66 h
        refine c_skip ?_
        refine c_inb ?_
        replace h := H.inl h
        exact h (v23_1.2.1, v23_1.2.2, s43, y22_3, A22_3, k22_3) _ _ rfl (by kernel_rfl) (by kernel_rfl)
      replace h := H.f q63 h
      refine c_seq ?_
      refine r_start ?_
      refine p 2 ?_
      refine rend ?_
      refine frg (fun u => (.pointer (some ⟨g0, 0, none⟩) :: (jk u 1 2 (.pointer (some ⟨g1_2, 0, none⟩) :: .slice A45 (List.length l44) k46 :: .int .i64 v3_1.1 :: .pointer (some ⟨g7_1, 0, none⟩) :: (jk u 7 15 (.int .i64 v8_1.1 :: (jk u 23 18 (.bool (v8_1.1 == 3) :: (jk u 42 39 []))))))))) (by kernel_rfl) fun u => ?_
      refine keep 4 (its' := [box g0 92 [.slice A0 (List.length a0) k0, .int .i64 v8_1.2.1, .int .u64 v8_1.2.2], box g1_2 37 (eSign s43), rowT nSign w.heap.size 37 (.slice A45 (List.length l44) k46) l44, box g7_1 37 (eSign s43)]) (by kernel_rfl) ?_
      refine c_or (v8_1.1 == 3) (fun q67 => ?_) (fun q67 => ?_)
      · replace h := H.t q67 h
        refine r_start ?_
        refine p 1 ?_
        obtain ⟨v16_1, hv16_1, h⟩ := H.call h
        refine xx rfl (e_cq (cs' := [.slice A0 (List.length a0) k0, .int .i64 v16_1.2.1, .int .u64 v16_1.2.2]) (v := .agg (eMove v16_1.1).toArray) 0 [.pointer (some ⟨g0, 0, none⟩)] func109 (fun W S => C.s_l1Cur_move W hv16_1 (S.bx 0) ((s_argN h0 q0).out W S) q0) ?_)
        refine p 2 ?_
        refine xx rfl (x_sto 3 g7_1 11 (eSign ({ s43 with Main := { s43.Main with Move := v16_1.1 } })) ?_)
        refine rend ?_
        refine c_inb ?_
        refine c_seq ?_
        refine c_seq ?_
        refine r_start ?_
        refine xq rfl (y_load (.agg (eSign ({ s43 with Main := { s43.Main with Move := v16_1.1 } })).toArray) 3 g7_1 0) ?_
        obtain ⟨v20_1, hv20_1, h⟩ := H.call h
        refine xq rfl (y_call [.agg (eSign ({ s43 with Main := { s43.Main with Move := v16_1.1 } })).toArray] (.bool v20_1) func91 (fun W S => C.s_siGood W hv20_1)) ?_
        refine p 1 ?_
        refine rend ?_
        refine c_or (!v20_1) (fun q68 => ?_) (fun q68 => ?_)
        · replace h := H.t q68 h
          refine r_start ?_
          refine p 1 ?_
          obtain ⟨v21_1, hv21_1, h⟩ := H.call h
          refine xx rfl (e_cq (cs' := [.slice A0 (List.length a0) k0, .int .i64 v21_1.2.1, .int .u64 v21_1.2.2]) (v := .agg (eSign v21_1.1).toArray) 0 [.pointer (some ⟨g0, 0, none⟩)] func189 (fun W S => C.s_l1Cur_sign W hv21_1 (S.bx 0) ((s_argN h0 q0).out W S) q0) ?_)
          refine xx rfl (x_sto 3 g7_1 0 (eSign v21_1.1) ?_)
          refine rend ?_
          refine c_seq ?_
          refine r_start ?_
          refine p 1 ?_
          refine xq rfl (y_load (.agg (eSign v21_1.1).toArray) 3 g7_1 0) ?_
          refine xx rfl (e_lit (e := nSign) (el := 37) [.agg (eSign v21_1.1).toArray] ([v21_1.1] : List Sign) fun A22_2 k22_2 => ?_)
          obtain ⟨y22_3, hy22_3, h⟩ := H.call h
          refine xx rfl (e_app 2 hy22_3 (s_own 4) fun A22_3 k22_3 => ?_)
          refine p 1 ?_
          refine rend ?_
          refine c_seq ?_
          refine r_start ?_
          refine p 1 ?_
          obtain ⟨v23_1, hv23_1, h⟩ := H.call h
          refine xx rfl (e_cq (cs' := [.slice A0 (List.length a0) k0, .int .i64 v23_1.2.1, .int .u64 v23_1.2.2]) (v := .bool v23_1.1) 0 [.pointer (some ⟨g0, 0, none⟩), .int .i64 3] func90 (fun W S => C.s_l1Cur_one W hv23_1 (S.bx 0) ((s_argN h0 q0).out W S) q0) ?_)
          refine rend ?_
          refine c_or v23_1.1 (fun q69 => ?_) (fun q69 => ?_)
          · replace h := H.t q69 h
            refine r_start ?_
            refine xq rfl (y_load (.agg (eSign v21_1.1).toArray) 3 g7_1 0) ?_
            refine xx rfl (x_sto 1 g1_2 0 (eSign v21_1.1) ?_)
            refine rend ?_
            refine c_inb ?_
            replace h := H.inl h
            exact h (v23_1.2.1, v23_1.2.2, v21_1.1, y22_3, A22_3, k22_3) _ _ rfl (by kernel_rfl) (by kernel_rfl)
          replace h := H.f q69 h
          refine c_skip ?_
          refine c_inb ?_
          replace h := H.inl h
          exact h (v23_1.2.1, v23_1.2.2, s43, y22_3, A22_3, k22_3) _ _ rfl (by kernel_rfl) (by kernel_rfl)
        replace h := H.f q68 h
        refine c_skip ?_
        refine c_seq ?_
        refine r_start ?_
        refine p 1 ?_
        refine xq rfl (y_load (.agg (eSign ({ s43 with Main := { s43.Main with Move := v16_1.1 } })).toArray) 3 g7_1 0) ?_
        refine xx rfl (e_lit (e := nSign) (el := 37) [.agg (eSign ({ s43 with Main := { s43.Main with Move := v16_1.1 } })).toArray] ([{ s43 with Main := { s43.Main with Move := v16_1.1 } }] : List Sign) fun A22_2 k22_2 => ?_)
        obtain ⟨y22_3, hy22_3, h⟩ := H.call h
        refine xx rfl (e_app 2 hy22_3 (s_own 4) fun A22_3 k22_3 => ?_)
        refine p 1 ?_
        refine rend ?_
        refine c_seq ?_
        refine r_start ?_
        refine p 1 ?_
        obtain ⟨v23_1, hv23_1, h⟩ := H.call h
        refine xx rfl (e_cq (cs' := [.slice A0 (List.length a0) k0, .int .i64 v23_1.2.1, .int .u64 v23_1.2.2]) (v := .bool v23_1.1) 0 [.pointer (some ⟨g0, 0, none⟩), .int .i64 3] func90 (fun W S => C.s_l1Cur_one W hv23_1 (S.bx 0) ((s_argN h0 q0).out W S) q0) ?_)
        refine rend ?_
        refine c_or v23_1.1 (fun q70 => ?_) (fun q70 => ?_)
        · replace h := H.t q70 h
          refine r_start ?_
          refine xq rfl (y_load (.agg (eSign ({ s43 with Main := { s43.Main with Move := v16_1.1 } })).toArray) 3 g7_1 0) ?_
          refine xx rfl (x_sto 1 g1_2 0 (eSign ({ s43 with Main := { s43.Main with Move := v16_1.1 } })) ?_)
          refine rend ?_
          refine c_inb ?_
          replace h := H.inl h
          exact h (v23_1.2.1, v23_1.2.2, { s43 with Main := { s43.Main with Move := v16_1.1 } }, y22_3, A22_3, k22_3) _ _ rfl (by kernel_rfl) (by kernel_rfl)
        replace h := H.f q70 h
        refine c_skip ?_
        refine c_inb ?_
        replace h := H.inl h
        exact h (v23_1.2.1, v23_1.2.2, s43, y22_3, A22_3, k22_3) _ _ rfl (by kernel_rfl) (by kernel_rfl)
      replace h := H.f q67 h
      refine c_seq ?_
      refine r_start ?_
      refine p 2 ?_
      refine rend ?_
      refine c_or (v8_1.1 == 4) (fun q71 => ?_) (fun q71 => ?_)
      · replace h := H.t q71 h
        refine c_seq ?_
        refine r_start ?_
        refine p 1 ?_
        refine xx rfl (x_sto 3 g7_1 13 (eSign ({ s43 with Two := true })) ?_)
        refine rend ?_
        refine r_start ?_
        refine p 2 ?_
        refine xq rfl (y_load (.agg (eHand s43.Main).toArray) 3 g7_1 0) ?_
        obtain ⟨v19_3, hv19_3, h⟩ := H.call h
        refine xx rfl (e_cq (cs' := [.slice A0 (List.length a0) k0, .int .i64 v19_3.2.1, .int .u64 v19_3.2.2]) (v := .agg (eHand v19_3.1).toArray) 0 [.pointer (some ⟨g0, 0, none⟩), .agg (eHand s43.Main).toArray] func89 (fun W S => C.s_l1Cur_otherFor W hv19_3 (S.bx 0) ((s_argN h0 q0).out W S) q0) ?_)
        refine p 1 ?_
        refine xx rfl (x_sto 3 g7_1 14 (eSign (⟨s43.Main, true, v19_3.1⟩ : Sign)) ?_)
        refine rend ?_
        refine c_inb ?_
        refine c_seq ?_
        refine c_seq ?_
        refine r_start ?_
        refine xq rfl (y_load (.agg (eSign (⟨s43.Main, true, v19_3.1⟩ : Sign)).toArray) 3 g7_1 0) ?_
        obtain ⟨v20_1, hv20_1, h⟩ := H.call h
        refine xq rfl (y_call [.agg (eSign (⟨s43.Main, true, v19_3.1⟩ : Sign)).toArray] (.bool v20_1) func91 (fun W S => C.s_siGood W hv20_1)) ?_
        refine p 1 ?_
        refine rend ?_
        refine c_or (!v20_1) (fun q72 => ?_) (fun q72 => ?_)
        · replace h := H.t q72 h
          refine r_start ?_
          refine p 1 ?_
          obtain ⟨v21_1, hv21_1, h⟩ := H.call h
          refine xx rfl (e_cq (cs' := [.slice A0 (List.length a0) k0, .int .i64 v21_1.2.1, .int .u64 v21_1.2.2]) (v := .agg (eSign v21_1.1).toArray) 0 [.pointer (some ⟨g0, 0, none⟩)] func189 (fun W S => C.s_l1Cur_sign W hv21_1 (S.bx 0) ((s_argN h0 q0).out W S) q0) ?_)
          refine xx rfl (x_sto 3 g7_1 0 (eSign v21_1.1) ?_)
          refine rend ?_
          refine c_seq ?_
          refine r_start ?_
          refine p 1 ?_
          refine xq rfl (y_load (.agg (eSign v21_1.1).toArray) 3 g7_1 0) ?_
          refine xx rfl (e_lit (e := nSign) (el := 37) [.agg (eSign v21_1.1).toArray] ([v21_1.1] : List Sign) fun A22_2 k22_2 => ?_)
          obtain ⟨y22_3, hy22_3, h⟩ := H.call h
          refine xx rfl (e_app 2 hy22_3 (s_own 4) fun A22_3 k22_3 => ?_)
          refine p 1 ?_
          refine rend ?_
          refine c_seq ?_
          refine r_start ?_
          refine p 1 ?_
          obtain ⟨v23_1, hv23_1, h⟩ := H.call h
          refine xx rfl (e_cq (cs' := [.slice A0 (List.length a0) k0, .int .i64 v23_1.2.1, .int .u64 v23_1.2.2]) (v := .bool v23_1.1) 0 [.pointer (some ⟨g0, 0, none⟩), .int .i64 3] func90 (fun W S => C.s_l1Cur_one W hv23_1 (S.bx 0) ((s_argN h0 q0).out W S) q0) ?_)
          refine rend ?_
          refine c_or v23_1.1 (fun q73 => ?_) (fun q73 => ?_)
          · replace h := H.t q73 h
            refine r_start ?_
            refine xq rfl (y_load (.agg (eSign v21_1.1).toArray) 3 g7_1 0) ?_
            refine xx rfl (x_sto 1 g1_2 0 (eSign v21_1.1) ?_)
            refine rend ?_
            refine c_inb ?_
            replace h := H.inl h
            exact h (v23_1.2.1, v23_1.2.2, v21_1.1, y22_3, A22_3, k22_3) _ _ rfl (by kernel_rfl) (by kernel_rfl)
          replace h := H.f q73 h
          refine c_skip ?_
          refine c_inb ?_
          replace h := H.inl h
          exact h (v23_1.2.1, v23_1.2.2, s43, y22_3, A22_3, k22_3) _ _ rfl (by kernel_rfl) (by kernel_rfl)
        replace h := H.f q72 h
        refine c_skip ?_
        refine c_seq ?_
        refine r_start ?_
        refine p 1 ?_
        refine xq rfl (y_load (.agg (eSign (⟨s43.Main, true, v19_3.1⟩ : Sign)).toArray) 3 g7_1 0) ?_
        refine xx rfl (e_lit (e := nSign) (el := 37) [.agg (eSign (⟨s43.Main, true, v19_3.1⟩ : Sign)).toArray] ([(⟨s43.Main, true, v19_3.1⟩ : Sign)] : List Sign) fun A22_2 k22_2 => ?_)
        obtain ⟨y22_3, hy22_3, h⟩ := H.call h
        refine xx rfl (e_app 2 hy22_3 (s_own 4) fun A22_3 k22_3 => ?_)
        refine p 1 ?_
        refine rend ?_
        refine c_seq ?_
        refine r_start ?_
        refine p 1 ?_
        obtain ⟨v23_1, hv23_1, h⟩ := H.call h
        refine xx rfl (e_cq (cs' := [.slice A0 (List.length a0) k0, .int .i64 v23_1.2.1, .int .u64 v23_1.2.2]) (v := .bool v23_1.1) 0 [.pointer (some ⟨g0, 0, none⟩), .int .i64 3] func90 (fun W S => C.s_l1Cur_one W hv23_1 (S.bx 0) ((s_argN h0 q0).out W S) q0) ?_)
        refine rend ?_
        refine c_or v23_1.1 (fun q74 => ?_) (fun q74 => ?_)
        · replace h := H.t q74 h
          refine r_start ?_
          refine xq rfl (y_load (.agg (eSign (⟨s43.Main, true, v19_3.1⟩ : Sign)).toArray) 3 g7_1 0) ?_
          refine xx rfl (x_sto 1 g1_2 0 (eSign (⟨s43.Main, true, v19_3.1⟩ : Sign)) ?_)
          refine rend ?_
          refine c_inb ?_
          replace h := H.inl h
          exact h (v23_1.2.1, v23_1.2.2, (⟨s43.Main, true, v19_3.1⟩ : Sign), y22_3, A22_3, k22_3) _ _ rfl (by kernel_rfl) (by kernel_rfl)
        replace h := H.f q74 h
        refine c_skip ?_
        refine c_inb ?_
        replace h := H.inl h
        exact h (v23_1.2.1, v23_1.2.2, s43, y22_3, A22_3, k22_3) _ _ rfl (by kernel_rfl) (by kernel_rfl)
      replace h := H.f q71 h
      refine c_skip ?_
      refine c_inb ?_
      refine c_seq ?_
      refine c_seq ?_
      refine r_start ?_
      refine xq rfl (y_load (.agg (eSign s43).toArray) 3 g7_1 0) ?_
      obtain ⟨v20_1, hv20_1, h⟩ := H.call h
      refine xq rfl (y_call [.agg (eSign s43).toArray] (.bool v20_1) func91 (fun W S => C.s_siGood W hv20_1)) ?_
      refine p 1 ?_
      refine rend ?_
      refine c_or (!v20_1) (fun q75 => ?_) (fun q75 => ?_)
      · replace h := H.t q75 h
        refine r_start ?_
        refine p 1 ?_
        obtain ⟨v21_1, hv21_1, h⟩ := H.call h
        refine xx rfl (e_cq (cs' := [.slice A0 (List.length a0) k0, .int .i64 v21_1.2.1, .int .u64 v21_1.2.2]) (v := .agg (eSign v21_1.1).toArray) 0 [.pointer (some ⟨g0, 0, none⟩)] func189 (fun W S => C.s_l1Cur_sign W hv21_1 (S.bx 0) ((s_argN h0 q0).out W S) q0) ?_)
        refine xx rfl (x_sto 3 g7_1 0 (eSign v21_1.1) ?_)
        refine rend ?_
        refine c_seq ?_
        refine r_start ?_
        refine p 1 ?_
        refine xq rfl (y_load (.agg (eSign v21_1.1).toArray) 3 g7_1 0) ?_
        refine xx rfl (e_lit (e := nSign) (el := 37) [.agg (eSign v21_1.1).toArray] ([v21_1.1] : List Sign) fun A22_2 k22_2 => ?_)
        obtain ⟨y22_3, hy22_3, h⟩ := H.call h
        refine xx rfl (e_app 2 hy22_3 (s_own 4) fun A22_3 k22_3 => ?_)
        refine p 1 ?_
        refine rend ?_
        refine c_seq ?_
        refine r_start ?_
        refine p 1 ?_
        obtain ⟨v23_1, hv23_1, h⟩ := H.call h
        refine xx rfl (e_cq (cs' := [.slice A0 (List.length a0) k0, .int .i64 v23_1.2.1, .int .u64 v23_1.2.2]) (v := .bool v23_1.1) 0 [.pointer (some ⟨g0, 0, none⟩), .int .i64 3] func90 (fun W S => C.s_l1Cur_one W hv23_1 (S.bx 0) ((s_argN h0 q0).out W S) q0) ?_)
        refine rend ?_
        refine c_or v23_1.1 (fun q76 => ?_) (fun q76 => ?_)
        · replace h := H.t q76 h
          refine r_start ?_
          refine xq rfl (y_load (.agg (eSign v21_1.1).toArray) 3 g7_1 0) ?_
          refine xx rfl (x_sto 1 g1_2 0 (eSign v21_1.1) ?_)
          refine rend ?_
          refine c_inb ?_
          replace h := H.inl h
          exact h (v23_1.2.1, v23_1.2.2, v21_1.1, y22_3, A22_3, k22_3) _ _ rfl (by kernel_rfl) (by kernel_rfl)
        replace h := H.f q76 h
        refine c_skip ?_
        refine c_inb ?_
        replace h := H.inl h
        exact h (v23_1.2.1, v23_1.2.2, s43, y22_3, A22_3, k22_3) _ _ rfl (by kernel_rfl) (by kernel_rfl)
      replace h := H.f q75 h
      refine c_skip ?_
      refine c_seq ?_
      refine r_start ?_
      refine p 1 ?_
      refine xq rfl (y_load (.agg (eSign s43).toArray) 3 g7_1 0) ?_
      refine xx rfl (e_lit (e := nSign) (el := 37) [.agg (eSign s43).toArray] ([s43] : List Sign) fun A22_2 k22_2 => ?_)
      obtain ⟨y22_3, hy22_3, h⟩ := H.call h
      refine xx rfl (e_app 2 hy22_3 (s_own 4) fun A22_3 k22_3 => ?_)
      refine p 1 ?_
      refine rend ?_
      refine c_seq ?_
      refine r_start ?_
      refine p 1 ?_
      obtain ⟨v23_1, hv23_1, h⟩ := H.call h
      refine xx rfl (e_cq (cs' := [.slice A0 (List.length a0) k0, .int .i64 v23_1.2.1, .int .u64 v23_1.2.2]) (v := .bool v23_1.1) 0 [.pointer (some ⟨g0, 0, none⟩), .int .i64 3] func90 (fun W S => C.s_l1Cur_one W hv23_1 (S.bx 0) ((s_argN h0 q0).out W S) q0) ?_)
      refine rend ?_
      refine c_or v23_1.1 (fun q77 => ?_) (fun q77 => ?_)
      · replace h := H.t q77 h
        refine r_start ?_
        refine xq rfl (y_load (.agg (eSign s43).toArray) 3 g7_1 0) ?_
        refine xx rfl (x_sto 1 g1_2 0 (eSign s43) ?_)
        refine rend ?_
        refine c_inb ?_
        replace h := H.inl h
        exact h (v23_1.2.1, v23_1.2.2, s43, y22_3, A22_3, k22_3) _ _ rfl (by kernel_rfl) (by kernel_rfl)
      replace h := H.f q77 h
      refine c_skip ?_
      refine c_inb ?_
      replace h := H.inl h
      exact h (v23_1.2.1, v23_1.2.2, s43, y22_3, A22_3, k22_3) _ _ rfl (by kernel_rfl) (by kernel_rfl)
    replace h := H.f q54 h
    refine cx ?_
    replace h := H.inr h
    exact hj53 (n41, n42, s43, l44, A45, k46) _ _ h (by kernel_rfl) (by kernel_rfl)
  intro x u h
  obtain ⟨n47, n48, s49, l50, A51, k52⟩ := x
  refine c_seq ?_
  refine c_seq ?_
  refine r_start ?_
  refine p 3 ?_
  refine br (decide (v3_1.1 > 0)) (fun q78 => ?_) (fun q78 => ?_)
  · replace h := H.t q78 h
    refine o_set 69 (congrArg Value.bool q78) ?_
    refine p 1 ?_
    obtain ⟨v25_4, hv25_4, h⟩ := H.call h
    refine xx rfl (e_cq (cs' := [.slice A0 (List.length a0) k0, .int .i64 v25_4.2.1, .int .u64 v25_4.2.2]) (v := .bool v25_4.1) 0 [.pointer (some ⟨g0, 0, none⟩), .int .i64 24] func90 (fun W S => C.s_l1Cur_one W hv25_4 (S.bx 0) ((s_argN h0 q0).out W S) q0) ?_)
    refine p 1 ?_
    refine rend ?_
    refine c_or v25_4.1 (fun q79 => ?_) (fun q79 => ?_)
    · replace h := H.t q79 h
      refine r_start ?_
      refine p 3 ?_
      obtain ⟨v26_3, hv26_3, h⟩ := H.call h
      refine xx rfl (e_cq (cs' := [.slice A0 (List.length a0) k0, .int .i64 v26_3.2.1, .int .u64 v26_3.2.2]) (v := .int .i64 v26_3.1) 0 [.pointer (some ⟨g0, 0, none⟩), .int .i64 v3_1.1] func123 (fun W S => C.s_l1Cur_pick W hv26_3 (S.bx 0) ((s_argN h0 q0).out W S) q0) ?_)
      refine p 1 ?_
      obtain ⟨v26_5, hv26_5, h⟩ := H.call h
      refine xx rfl (e_cq (cs' := [.slice A0 (List.length a0) k0, .int .i64 v26_5.2.1, .int .u64 v26_5.2.2]) (v := .agg (eSign v26_5.1).toArray) 0 [.pointer (some ⟨g0, 0, none⟩)] func116 (fun W S => C.s_l1Cur_anySign W hv26_5 (S.bx 0) ((s_argN h0 q0).out W S) q0) ?_)
      obtain ⟨y26_6, hy26_6, h⟩ := H.call h
      refine xq rfl (y_idx (e := nSign) (el := 37) hy26_6 (s_own 2)) ?_
      refine xx rfl (e_stel (e := nSign) (b := v26_5.1) 2 0 (eSign v26_5.1) hy26_6 (by kernel_rfl) ?_)
      refine o_set 4 (sl_set (A := A51) (c := k52) (l := l50) (n := Int.toNat v26_3.1) (b := v26_5.1)) ?_
      refine rend ?_
      refine c_seq ?_
      refine r_start ?_
      refine p 2 ?_
      refine rend ?_
      replace h := H.done h
      subst h
      exact ret func131 rfl (vs := [.slice A51 (List.length (List.set l50 (Int.toNat v26_3.1) v26_5.1)) k52]) (.tmp (by kernel_rfl) .nil) rfl (fun W S => S.retQR (res := fun v => v) 2 (by decide))
    replace h := H.f q79 h
    refine c_skip ?_
    refine c_seq ?_
    refine r_start ?_
    refine p 2 ?_
    refine rend ?_
    replace h := H.done h
    subst h
    exact ret func131 rfl (vs := [.slice A51 (List.length l50) k52]) (.tmp (by kernel_rfl) .nil) rfl (fun W S => S.retQR (res := fun v => v) 2 (by decide))
  replace h := H.f q78 h
  refine o_set 69 (congrArg Value.bool q78) ?_
  refine p 3 ?_
  refine rend ?_
  refine c_f (by kernel_rfl) ?_
  refine c_skip ?_
  refine c_seq ?_
  refine r_start ?_
  refine p 2 ?_
  refine rend ?_
  replace h := H.done h
  subst h
  exact ret func131 rfl (vs := [.slice A51 (List.length l50) k52]) (.tmp (by kernel_rfl) .nil) rfl (fun W S => S.retQR (res := fun v => v) 2 (by decide))
theorem C.s_DrawMinimalPairs {fu : Nat} {a0 : (List Int)} {A0 : Option Addr} {k0 : Nat} {r : (List Sign)} (w : World) (h : X.s_DrawMinimalPairs fu a0 = some r) (h0 : RdT (eI .u8) w (.slice A0 (List.length a0) k0) a0) : Calls prog 51 #[.slice A0 (List.length a0) k0] w (RetR nSign 37 w r (fun v => v)) := by
  refine calls (M := no) (args := [.slice A0 (List.length a0) k0]) func51 rfl ?_
  replace h : H (X.s_DrawMinimalPairs fu a0) (fun o => o = r) := H.mk h
  unfold X.s_DrawMinimalPairs at h
  refine c_seq ?_
  refine r_start ?_
  refine p 1 ?_
  refine rend ?_
  refine c_seq ?_
  refine r_start ?_
  refine p 2 ?_
  refine xx rfl (x_box [.slice A0 (List.length a0) k0, .int .i64 0, .int .u64 0] fun g1_2 => ?_)
  refine p 1 ?_
  refine rend ?_
  refine c_seq ?_
  refine r_start ?_
  refine p 1 ?_
  obtain ⟨v2_1, hv2_1, h⟩ := H.call h
  refine xx rfl (e_cqR (cs' := [.slice A0 (List.length a0) k0, .int .i64 v2_1.2.1, .int .u64 v2_1.2.2]) 0 [.pointer (some ⟨g1_2, 0, none⟩)] (fun v => v) func131 (fun W S => C.s_l1Cur_lexicon W hv2_1 (S.bx 0) ((s_arg h0).out W S) (ap_arg h0 S 0)) fun A2_1 k2_1 => ?_)
  refine p 1 ?_
  refine rend ?_
  replace h := H.done h
  subst h
  exact ret func51 rfl (vs := [.slice A2_1 (List.length v2_1.1) k2_1]) (.tmp (by kernel_rfl) .nil) rfl (fun W S => ⟨_, _, rfl, S.row 1, S.below⟩)
theorem C.i_pairsIn {fu : Nat} {a0 : (List Sign)} {A0 : Option Addr} {k0 : Nat} {a1 : (Sign → Sign → Option Bool)} {g1 : Nat} {cp1 : List Value} {r : (List (List Int))} (w : World) (h : X.i_pairsIn fu a0 a1 = some r) (h0 : RdT nSign w (.slice A0 (List.length a0) k0) a0) (hg1 : isFn prog g1 = true) (hF1 : ∀ (x0 : Sign) (x1 : Sign) (r : Bool) (W : World), Up w W → a1 x0 x1 = some r → Calls prog g1 (([.agg (eSign x0).toArray, .agg (eSign x1).toArray] : List Value) ++ cp1).toArray W (Ret W (.bool r))) : Calls prog 133 #[.slice A0 (List.length a0) k0, .func (.func g1) #[] cp1.toArray] w (RetD (eI .i64) 69 3 w r (fun v => v)) := by
  refine calls (M := no) (args := [.slice A0 (List.length a0) k0, .func (.func g1) #[] cp1.toArray]) func133 rfl ?_
  replace h : H (X.i_pairsIn fu a0 a1) (fun o => o = r) := H.mk h
  unfold X.i_pairsIn at h
  refine c_seq ?_
  refine r_start ?_
  refine p 1 ?_
  refine rend ?_
  refine c_seq ?_
  refine r_start ?_
  refine p 1 ?_
  refine rend ?_
  refine c_seq ?_
  refine c_seq ?_
  refine r_start ?_
  refine p 3 ?_
  refine rend ?_
  refine c_block ?_
  refine c_nil eSl 69 ?_
  refine c_inn (eI .i64) 3 ?_
  refine joinH (X := ((List (List Int)) × List Sl × Option Addr × Nat)) 0 (H.bnd h) (fun ⟨l8, u5, A6, k7⟩ => l8) (fun ⟨l8, u5, A6, k7⟩ => [rowT eSl w.heap.size 69 (.slice A6 (List.length u5) k7) u5, inns (eI .i64) w.heap.size 3 u5 l8]) (fun ⟨l8, u5, A6, k7⟩ u => (jk u 0 5 (.slice A6 (List.length u5) k7 :: (jk u 6 33 [])))) (fun h hj9 => ?_) ?_
  · skip
    refine rangeR (X := ((List (List Int)) × List Sl × Option Addr × Nat)) (s_arg h0) (fun ⟨l4, u1, A2, k3⟩ => l4) (fun ⟨l4, u1, A2, k3⟩ => [rowT eSl w.heap.size 69 (.slice A2 (List.length u1) k3) u1, inns (eI .i64) w.heap.size 3 u1 l4]) (fun (j10 : Nat) ⟨l4, u1, A2, k3⟩ u => (.slice A0 (List.length a0) k0 :: .func (.func g1) #[] cp1.toArray :: (jk u 2 3 (.slice A2 (List.length u1) k3 :: (jk u 6 3 (.slice A0 (List.length a0) k0 :: .int .i64 (List.length a0 : Int) :: .int .i64 (j10 : Int) :: (jk u 12 27 []))))))) (([] : List (List Int)), ([] : List Sl), none, 0) h (by kernel_rfl) (by kernel_rfl) ?_ ?_
    · intro j10 x u x11 q12 hg13 hw14 h
      obtain ⟨l4, u1, A2, k3⟩ := x
      refine c_seq ?_
      refine r_start ?_
      refine p 1 ?_
      refine rend ?_
      refine c_seq ?_
      refine c_yes q12 ?_
      refine c_skip ?_
      refine c_seq ?_
      refine c_block ?_
      refine c_seq ?_
      refine r_start ?_
      refine p 1 ?_
      refine xq rfl (y_idx (e := nSign) (el := 37) hg13 (s_arg h0)) ?_
      refine xq rfl (y_el (e := nSign) 0 (.agg (eSign x11).toArray) hg13 (s_arg h0)) ?_
      refine xx rfl (x_new (eSign zSign) fun g4_3 => ?_)
      refine p 1 ?_
      refine xx rfl (x_sto 2 g4_3 0 (eSign x11) ?_)
      refine rend ?_
      refine c_seq ?_
      refine r_start ?_
      refine p 3 ?_
      refine rend ?_
      refine c_block ?_
      refine joinH (X := ((List (List Int)) × List Sl × Option Addr × Nat)) 2 (H.bnd h) (fun ⟨l23, u20, A21, k22⟩ => l23) (fun ⟨l23, u20, A21, k22⟩ => [rowT eSl w.heap.size 69 (.slice A21 (List.length u20) k22) u20, inns (eI .i64) w.heap.size 3 u20 l23, box g4_3 37 (eSign x11)]) (fun ⟨l23, u20, A21, k22⟩ u => (.slice A0 (List.length a0) k0 :: .func (.func g1) #[] cp1.toArray :: (jk u 2 3 (.slice A21 (List.length u20) k22 :: (jk u 6 3 (.slice A0 (List.length a0) k0 :: .int .i64 (List.length a0 : Int) :: .int .i64 (j10 : Int) :: (jk u 12 27 []))))))) (fun h hj24 => ?_) ?_
      · skip
        refine loopR (X := (Int × (List (List Int)) × List Sl × Option Addr × Nat)) (fun ⟨n15, l19, u16, A17, k18⟩ => (n15, l19)) (fun ⟨n15, l19, u16, A17, k18⟩ => [rowT eSl w.heap.size 69 (.slice A17 (List.length u16) k18) u16, inns (eI .i64) w.heap.size 3 u16 l19, box g4_3 37 (eSign x11)]) (fun ⟨n15, l19, u16, A17, k18⟩ u => (.slice A0 (List.length a0) k0 :: .func (.func g1) #[] cp1.toArray :: (jk u 2 3 (.slice A17 (List.length u16) k18 :: .int .i64 (j10 : Int) :: .pointer (some ⟨g4_3, 0, none⟩) :: .int .i64 n15 :: .slice A0 (List.length a0) k0 :: .int .i64 (List.length a0 : Int) :: .int .i64 (j10 : Int) :: (jk u 12 27 []))))) ((wr ((j10 : Int) + 1)), l4, u1, A2, k3) h (by kernel_rfl) (by kernel_rfl) ?_
        intro x u h
        obtain ⟨n15, l19, u16, A17, k18⟩ := x
        refine c_seq ?_
        refine c_seq ?_
        refine r_start ?_
        refine p 4 ?_
        refine rend ?_
        refine c_or (decide (n15 < (List.length a0 : Int))) (fun q25 => ?_) (fun q25 => ?_)
        · replace h := H.t q25 h
          refine c_skip ?_
          refine c_seq ?_
          refine c_block ?_
          refine c_seq ?_
          refine as_start 7 7 ?_
          refine ap 0 1 ?_
          refine aq 1 rfl (y_load (.agg (eSign x11).toArray) 2 g4_3 0) ?_
          refine ap 2 2 ?_
          obtain ⟨y8_4, hy8_4, h⟩ := H.call h
          refine aq 4 rfl (y_idx (e := nSign) (el := 37) hy8_4 (s_arg h0)) ?_
          refine aq 5 rfl (y_el (e := nSign) 0 (.agg (eSign y8_4).toArray) hy8_4 (s_arg h0)) ?_
          obtain ⟨v8_6, hv8_6, h⟩ := H.call h
          refine aq 6 rfl (y_cf cp1 [.agg (eSign x11).toArray, .agg (eSign y8_4).toArray] (.bool v8_6) hg1 (fun W S => hF1 _ _ _ W S.below hv8_6)) ?_
          refine a_done ?_
          refine c_or v8_6 (fun q26 => ?_) (fun q26 => ?_)
          · replace h := H.t q26 h
            refine r_start ?_
            refine p 3 ?_
            refine xx rfl (e_lit (e := (eI .i64)) (el := 3) [.int .i64 (j10 : Int), .int .i64 n15] ([(j10 : Int), n15] : List Int) fun A9_3 k9_3 => ?_)
            refine xx rfl (e_lit (e := eSl) (el := 69) [.slice A9_3 (List.length ([(j10 : Int), n15] : List Int)) k9_3] ([⟨A9_3, List.length ([(j10 : Int), n15] : List Int), k9_3⟩] : List Sl) fun A9_4 k9_4 => ?_)
            obtain ⟨y9_5, hy9_5, h⟩ := H.call h
            refine o_fact (f_len (i_own 1)) fun hl9_5 => ?_
            obtain ⟨ha9_5, hq9_5⟩ := appD_sl (ws := ([⟨A9_3, List.length ([(j10 : Int), n15] : List Int), k9_3⟩] : List Sl)) hy9_5 hl9_5 rfl
            refine xx rfl (e_app 0 ha9_5 (s_own 4) fun A9_5 k9_5 => ?_)
            refine p 1 ?_
            refine rend ?_
            refine absorbE (e := (eI .i64)) (B := w.heap.size) (t := 3) (A := A9_3) (c := k9_3) (l := ([(j10 : Int), n15] : List Int)) (us := u16) [0, 2, 3, 1] [rowT eSl w.heap.size 69 (.slice A9_5 (List.length (u16 ++ ([⟨A9_3, List.length ([(j10 : Int), n15] : List Int), k9_3⟩] : List Sl))) k9_5) (u16 ++ ([⟨A9_3, List.length ([(j10 : Int), n15] : List Int), k9_3⟩] : List Sl)), box g4_3 37 (eSign x11)] hq9_5 ?_
            refine c_inb ?_
            refine r_start ?_
            refine p 3 ?_
            refine rend ?_
            refine pick [0, 2, 1] [rowT eSl w.heap.size 69 (.slice A9_5 (List.length (u16 ++ ([⟨A9_3, List.length ([(j10 : Int), n15] : List Int), k9_3⟩] : List Sl))) k9_5) (u16 ++ ([⟨A9_3, List.length ([(j10 : Int), n15] : List Int), k9_3⟩] : List Sl)), inns (eI .i64) w.heap.size 3 (u16 ++ ([⟨A9_3, List.length ([(j10 : Int), n15] : List Int), k9_3⟩] : List Sl)) y9_5, box g4_3 37 (eSign x11)] ?_
            replace h := H.inl h
            exact h ((wr (n15 + 1)), y9_5, (u16 ++ ([⟨A9_3, List.length ([(j10 : Int), n15] : List Int), k9_3⟩] : List Sl)), A9_5, k9_5) _ _ rfl (by kernel_rfl) (by kernel_rfl)
          replace h := H.f q26 h
          refine c_skip ?_
          refine c_inb ?_
          refine r_start ?_
          refine p 3 ?_
          refine rend ?_
          replace h := H.inl h
          exact h ((wr (n15 + 1)), l19, u16, A17, k18) _ _ rfl (by kernel_rfl) (by kernel_rfl)
        replace h := H.f q25 h
        refine cx ?_
        replace h := H.inr h
        exact hj24 (l19, u16, A17, k18) _ _ h (by kernel_rfl) (by kernel_rfl)
      intro x u h
      obtain ⟨l23, u20, A21, k22⟩ := x
      refine c_inb ?_
      refine r_start ?_
      refine p 2 ?_
      refine rend ?_
      refine c_set 11 (ci hw14) ?_
      replace h := H.inl h
      exact h (l23, u20, A21, k22) _ _ rfl (by kernel_rfl) (by kernel_rfl)
    · intro x u q12 h
      obtain ⟨l4, u1, A2, k3⟩ := x
      refine c_seq ?_
      refine r_start ?_
      refine p 1 ?_
      refine rend ?_
      refine c_seq ?_
      refine c_no q12 ?_
      refine cx ?_
      replace h := H.done h
      exact hj9 (l4, u1, A2, k3) _ _ h (by kernel_rfl) (by kernel_rfl)
  intro x u h
  obtain ⟨l8, u5, A6, k7⟩ := x
  refine c_seq ?_
  refine r_start ?_
  refine p 2 ?_
  refine rend ?_
  replace h := H.done h
  subst h
  exact ret func133 rfl (vs := [.slice A6 (List.length u5) k7]) (.tmp (by kernel_rfl) .nil) rfl (fun W S => S.retD (res := fun v => v) 0 1 (by decide))
theorem C.i_partsApart_1 {a0 : Bool} {r : Bool} (w : World) (h : X.i_partsApart_1 a0 = some r) : Calls prog 208 #[.bool a0] w (Ret w (.bool r)) := by
  refine calls (M := no) (args := [.bool a0]) func208 rfl ?_
  replace h : H (X.i_partsApart_1 a0) (fun o => o = r) := H.mk h
  unfold X.i_partsApart_1 at h
  refine c_seq ?_
  refine r_start ?_
  refine p 1 ?_
  refine rend ?_
  refine c_seq ?_
  refine r_start ?_
  refine p 3 ?_
  refine rend ?_
  replace h := H.done h
  subst h
  exact ret func208 rfl (vs := [.bool (!a0)]) (.tmp (by kernel_rfl) .nil) rfl (fun W S => ⟨rfl, S.below⟩)
theorem C.i_partsApart {fu : Nat} {a0 : Sign} {a1 : Sign} {r : (List Int)} (w : World) (h : X.i_partsApart fu a0 a1 = some r) : Calls prog 142 #[.agg (eSign a0).toArray, .agg (eSign a1).toArray] w (RetR (eI .i64) 3 w r (fun v => v)) := by
  refine calls (M := no) (args := [.agg (eSign a0).toArray, .agg (eSign a1).toArray]) func142 rfl ?_
  replace h : H (X.i_partsApart fu a0 a1) (fun o => o = r) := H.mk h
  unfold X.i_partsApart at h
  refine c_seq ?_
  refine r_start ?_
  refine xx rfl (x_box (eSign a0) fun g0_0 => ?_)
  refine xx rfl (x_box (eSign a1) fun g0_1 => ?_)
  refine p 1 ?_
  refine rend ?_
  refine c_seq ?_
  refine joinT (X := (Sign × Sign × Nat × Nat)) (H.bnd h) (fun ⟨s1, s2, g1_4, g1_5⟩ => (s1, s2)) (fun ⟨s1, s2, g1_4, g1_5⟩ => [box g0_0 37 (eSign a0), box g0_1 37 (eSign a1), box g1_4 37 (eSign s1), box g1_5 37 (eSign s2)]) (fun ⟨s1, s2, g1_4, g1_5⟩ u => (jk u 0 5 (.pointer (some ⟨g1_4, 0, none⟩) :: .pointer (some ⟨g1_5, 0, none⟩) :: (jk u 7 26 [])))) (fun h hj3 => ?_) ?_
  · skip
    refine as_start 8 8 ?_
    refine aq 0 rfl (y_load (.agg (eSign a0).toArray) 0 g0_0 0) ?_
    obtain ⟨v1_1, hv1_1, h⟩ := H.call h
    refine aq 1 rfl (y_call [.agg (eSign a0).toArray] (.agg (eSign v1_1).toArray) func121 (fun W S => C.i_Sign_normal W hv1_1)) ?_
    refine aq 2 rfl (y_load (.agg (eSign a1).toArray) 1 g0_1 0) ?_
    obtain ⟨v1_3, hv1_3, h⟩ := H.call h
    refine aq 3 rfl (y_call [.agg (eSign a1).toArray] (.agg (eSign v1_3).toArray) func121 (fun W S => C.i_Sign_normal W hv1_3)) ?_
    refine a_two 4 5 rfl rfl ?_ ?_
    · skip
      refine (x_new (eSign zSign) fun g1_4 => ⟨.inr (by kernel_rfl), ?_⟩)
      refine ax 5 rfl (x_new (eSign zSign) fun g1_5 => ⟨.inr (by kernel_rfl), ?_⟩)
      refine ax 6 rfl (x_sto 2 g1_4 0 (eSign v1_1) ⟨.inr (by kernel_rfl), ?_⟩)
      refine ax 7 rfl (x_sto 3 g1_5 0 (eSign v1_3) ⟨.inr (by kernel_rfl), ?_⟩)
      refine a_done ?_
      replace h := H.done h
      exact hj3 (v1_1, v1_3, g1_4, g1_5) _ _ h (by kernel_rfl) (by kernel_rfl)
    refine (x_new (eSign zSign) fun g1_5 => ⟨.inr (by kernel_rfl), ?_⟩)
    refine ax 4 rfl (x_new (eSign zSign) fun g1_4 => ⟨.inr (by kernel_rfl), ?_⟩)
    refine ax 6 rfl (x_sto 3 g1_4 0 (eSign v1_1) ⟨.inr (by kernel_rfl), ?_⟩)
    refine ax 7 rfl (x_sto 2 g1_5 0 (eSign v1_3) ⟨.inr (by kernel_rfl), ?_⟩)
    refine a_done ?_
    refine swp [box g0_0 37 (eSign a0), box g0_1 37 (eSign a1)] (box g1_5 37 (eSign v1_3)) (box g1_4 37 (eSign v1_1)) ?_
    replace h := H.done h
    exact hj3 (v1_1, v1_3, g1_4, g1_5) _ _ h (by kernel_rfl) (by kernel_rfl)
  intro x u h
  obtain ⟨s1, s2, g1_4, g1_5⟩ := x
  refine c_seq ?_
  refine as_start 20 20 ?_
  refine ap 0 1 ?_
  refine aq 1 rfl (y_load (.agg (eHand s1.Main).toArray) 2 g1_4 0) ?_
  refine ap 2 1 ?_
  refine aq 3 rfl (y_load (.agg (eHand s2.Main).toArray) 3 g1_5 0) ?_
  refine ap 5 1 ?_
  refine aq 6 rfl (y_load (.bool s1.Two) 2 g1_4 13) ?_
  refine ap 7 1 ?_
  refine aq 8 rfl (y_load (.bool s2.Two) 3 g1_5 13) ?_
  refine ap 9 1 ?_
  obtain ⟨v2_4, hv2_4, h⟩ := H.call h
  refine ax 4 rfl (e_cr [.agg (eHand s1.Main).toArray, .agg (eHand s2.Main).toArray] (fun v => v) func193 (fun W S => C.i_Hand_same W hv2_4) fun A2_4 k2_4 => ⟨.inr (by kernel_rfl), ?_⟩)
  refine ap 10 1 ?_
  refine br (s1.Two == s2.Two) (fun q4 => ?_) (fun q4 => ?_)
  · replace h := H.t q4 h
    refine a_set 22 (congrArg Value.bool q4) ?_
    refine ap 11 1 ?_
    refine aq 12 rfl (y_load (.agg (eHand s1.Other).toArray) 2 g1_4 14) ?_
    refine ap 13 1 ?_
    refine aq 14 rfl (y_load (.agg (eHand s2.Other).toArray) 3 g1_5 14) ?_
    refine ap 15 2 ?_
    refine ax 17 rfl (e_lit (e := eB) (el := 4) [.bool (qHand s1.Other s2.Other)] ([(qHand s1.Other s2.Other)] : List Bool) fun A2_17 k2_17 => ⟨.inr (by kernel_rfl), ?_⟩)
    obtain ⟨y2_18, hy2_18, h⟩ := H.call h
    refine ax 18 rfl (e_app 4 hy2_18 (s_own 5) fun A2_18 k2_18 => ⟨.inr (by kernel_rfl), ?_⟩)
    refine ap 19 1 ?_
    refine a_done ?_
    refine c_seq ?_
    refine r_start ?_
    refine p 1 ?_
    obtain ⟨v3_1, hv3_1, h⟩ := H.call h
    refine xx rfl (e_cr [.slice A2_18 (List.length y2_18) k2_18, .func (.func 208) #[] #[]] (fun v => v) func192 (fun W S => C.i_those_bool W hv3_1 ((s_own 4).out W S) (isFn_of func208) (fun x0_2 r W2 hu2 hx2 => C.i_partsApart_1 W2 hx2)) fun A3_1 k3_1 => ?_)
    refine p 1 ?_
    refine rend ?_
    replace h := H.done h
    subst h
    exact ret func142 rfl (vs := [.slice A3_1 (List.length v3_1) k3_1]) (.tmp (by kernel_rfl) .nil) rfl (fun W S => ⟨_, _, rfl, S.row 6, S.below⟩)
  replace h := H.f q4 h
  refine a_set 22 (congrArg Value.bool q4) ?_
  refine ap 11 6 ?_
  refine ax 17 rfl (e_lit (e := eB) (el := 4) [.bool false] ([false] : List Bool) fun A2_17 k2_17 => ⟨.inr (by kernel_rfl), ?_⟩)
  obtain ⟨y2_18, hy2_18, h⟩ := H.call h
  refine ax 18 rfl (e_app 4 hy2_18 (s_own 5) fun A2_18 k2_18 => ⟨.inr (by kernel_rfl), ?_⟩)
  refine ap 19 1 ?_
  refine a_done ?_
  refine c_seq ?_
  refine r_start ?_
  refine p 1 ?_
  obtain ⟨v3_1, hv3_1, h⟩ := H.call h
  refine xx rfl (e_cr [.slice A2_18 (List.length y2_18) k2_18, .func (.func 208) #[] #[]] (fun v => v) func192 (fun W S => C.i_those_bool W hv3_1 ((s_own 4).out W S) (isFn_of func208) (fun x0_2 r W2 hu2 hx2 => C.i_partsApart_1 W2 hx2)) fun A3_1 k3_1 => ?_)
  refine p 1 ?_
  refine rend ?_
  replace h := H.done h
  subst h
  exact ret func142 rfl (vs := [.slice A3_1 (List.length v3_1) k3_1]) (.tmp (by kernel_rfl) .nil) rfl (fun W S => ⟨_, _, rfl, S.row 6, S.below⟩)
theorem C.i_isPair {fu : Nat} {a0 : Sign} {a1 : Sign} {r : Bool} (w : World) (h : X.i_isPair fu a0 a1 = some r) : Calls prog 134 #[.agg (eSign a0).toArray, .agg (eSign a1).toArray] w (Ret w (.bool r)) := by
  refine calls (M := no) (args := [.agg (eSign a0).toArray, .agg (eSign a1).toArray]) func134 rfl ?_
  replace h : H (X.i_isPair fu a0 a1) (fun o => o = r) := H.mk h
  unfold X.i_isPair at h
  refine c_seq ?_
  refine r_start ?_
  refine xx rfl (x_box (eSign a0) fun g0_0 => ?_)
  refine xx rfl (x_box (eSign a1) fun g0_1 => ?_)
  refine p 1 ?_
  refine rend ?_
  refine c_seq ?_
  refine r_start ?_
  refine xq rfl (y_load (.agg (eSign a0).toArray) 0 g0_0 0) ?_
  refine xq rfl (y_load (.agg (eSign a1).toArray) 1 g0_1 0) ?_
  obtain ⟨v1_2, hv1_2, h⟩ := H.call h
  refine xx rfl (e_cr [.agg (eSign a0).toArray, .agg (eSign a1).toArray] (fun v => v) func142 (fun W S => C.i_partsApart W hv1_2) fun A1_2 k1_2 => ?_)
  refine p 3 ?_
  refine rend ?_
  replace h := H.done h
  subst h
  exact ret func134 rfl (vs := [.bool ((List.length v1_2 : Int) == 1)]) (.tmp (by kernel_rfl) .nil) rfl (fun W S => ⟨rfl, S.below⟩)
theorem C.i_MinimalPairs {fu : Nat} {a0 : (List Sign)} {A0 : Option Addr} {k0 : Nat} {r : ((List (List Int)) × Bool)} (w : World) (h : X.i_MinimalPairs fu a0 = some r) (h0 : RdT nSign w (.slice A0 (List.length a0) k0) a0) : Calls prog 52 #[.slice A0 (List.length a0) k0] w (RetD (eI .i64) 69 3 w r.1 (fun v => .tuple #[v, .bool r.2])) := by
  refine calls (M := no) (args := [.slice A0 (List.length a0) k0]) func52 rfl ?_
  replace h : H (X.i_MinimalPairs fu a0) (fun o => o = r) := H.mk h
  unfold X.i_MinimalPairs at h
  refine c_seq ?_
  refine r_start ?_
  refine p 2 ?_
  refine rend ?_
  refine c_seq ?_
  refine c_seq ?_
  refine r_start ?_
  refine p 1 ?_
  obtain ⟨v1_1, hv1_1, h⟩ := H.call h
  refine xq rfl (y_call [.slice A0 (List.length a0) k0, .int .i64 16] (.bool v1_1) func132 (fun W S => C.i_areSigns W hv1_1 ((s_arg h0).out W S))) ?_
  refine p 1 ?_
  refine rend ?_
  refine c_or (!v1_1) (fun q1 => ?_) (fun q1 => ?_)
  · replace h := H.t q1 h
    refine c_seq ?_
    refine r_start ?_
    refine p 2 ?_
    refine rend ?_
    replace h := H.done h
    subst h
    exact ret func52 rfl (vs := [.slice none 0 0, .bool false]) (.tmp (by kernel_rfl) (.tmp (by kernel_rfl) .nil)) rfl (fun W S => ⟨none, 0, [], rfl, World.ownsRow_nil _ _ _ _, Inn.nil _ _ _ _, (fun k hk => by cases hk), (fun k ⟨_, hk, _⟩ => by cases hk), S.below⟩)
  replace h := H.f q1 h
  refine c_skip ?_
  refine c_seq ?_
  refine r_start ?_
  refine p 1 ?_
  obtain ⟨v3_1, hv3_1, h⟩ := H.call h
  refine xx rfl (e_crd [.slice A0 (List.length a0) k0, .func (.func 134) #[] #[]] (fun v => v) func133 (fun W S => C.i_pairsIn W hv3_1 ((s_arg h0).out W S) (isFn_of func134) (fun x0_2 x1_2 r W2 hu2 hx2 => C.i_isPair W2 hx2)) fun A3_1 k3_1 u3_1 => ?_)
  refine p 2 ?_
  refine rend ?_
  replace h := H.done h
  subst h
  exact ret func52 rfl (vs := [.slice A3_1 (List.length u3_1) k3_1, .bool true]) (.tmp (by kernel_rfl) (.tmp (by kernel_rfl) .nil)) rfl (fun W S => S.retD (res := fun v => .tuple #[v, .bool true]) 0 1 (by decide))
theorem C.s_noList {fu : Nat} {a0 : (List Sign)} {A0 : Option Addr} {k0 : Nat} {r : Bool} (w : World) (h : X.s_noList fu a0 = some r) (h0 : RdT nSign w (.slice A0 (List.length a0) k0) a0) : Calls prog 135 #[.slice A0 (List.length a0) k0] w (Ret w (.bool r)) := by
  refine calls (M := no) (args := [.slice A0 (List.length a0) k0]) func135 rfl ?_
  replace h : H (X.s_noList fu a0) (fun o => o = r) := H.mk h
  unfold X.s_noList at h
  refine c_seq ?_
  refine r_start ?_
  refine p 1 ?_
  refine rend ?_
  refine c_seq ?_
  refine c_seq ?_
  refine r_start ?_
  refine p 3 ?_
  refine rend ?_
  refine c_block ?_
  refine joinE (X := Unit) 0 (H.or h) (fun (x : Unit) => x) (fun _ => []) (fun _ u => (.slice A0 (List.length a0) k0 :: (jk u 1 17 []))) (fun h hj1 => ?_) ?_
  · skip
    refine rangeR (X := Unit) (s_arg h0) (fun (x : Unit) => x) (fun _ => []) (fun (j2 : Nat) _ u => (.slice A0 (List.length a0) k0 :: (jk u 1 4 (.slice A0 (List.length a0) k0 :: .int .i64 (List.length a0 : Int) :: .int .i64 (j2 : Int) :: (jk u 8 10 []))))) () h (by kernel_rfl) (by kernel_rfl) ?_ ?_
    · intro j2 x u x3 q4 hg5 hw6 h
      refine c_seq ?_
      refine r_start ?_
      refine p 1 ?_
      refine rend ?_
      refine c_seq ?_
      refine c_yes q4 ?_
      refine c_skip ?_
      refine c_seq ?_
      refine c_block ?_
      refine c_seq ?_
      refine r_start ?_
      refine xq rfl (y_idx (e := nSign) (el := 37) hg5 (s_arg h0)) ?_
      refine xq rfl (y_el (e := nSign) 0 (.agg (eSign x3).toArray) hg5 (s_arg h0)) ?_
      refine xx rfl (x_new (eSign zSign) fun g3_2 => ?_)
      refine xx rfl (x_sto 0 g3_2 0 (eSign x3) ?_)
      refine rend ?_
      refine c_seq ?_
      refine r_start ?_
      refine xq rfl (y_load (.agg (eSign x3).toArray) 0 g3_2 0) ?_
      obtain ⟨v4_1, hv4_1, h⟩ := H.call h
      refine xq rfl (y_call [.agg (eSign x3).toArray] (.bool v4_1) func91 (fun W S => C.s_siGood W hv4_1)) ?_
      refine p 1 ?_
      refine rend ?_
      refine c_or (!v4_1) (fun q7 => ?_) (fun q7 => ?_)
      · replace h := H.t q7 h
        refine c_seq ?_
        refine r_start ?_
        refine p 1 ?_
        refine rend ?_
        replace h := H.inr h
        replace h := H.done h
        subst h
        exact ret func135 rfl (vs := [.bool false]) (.tmp (by kernel_rfl) .nil) rfl (fun W S => ⟨rfl, S.below⟩)
      replace h := H.f q7 h
      refine c_skip ?_
      refine c_inb ?_
      refine r_start ?_
      refine p 2 ?_
      refine rend ?_
      refine c_set 7 (ci hw6) ?_
      replace h := H.inl h
      exact h () _ _ rfl (by kernel_rfl) (by kernel_rfl)
    · intro x u q4 h
      refine c_seq ?_
      refine r_start ?_
      refine p 1 ?_
      refine rend ?_
      refine c_seq ?_
      refine c_no q4 ?_
      refine cx ?_
      replace h := H.done h
      exact hj1 () _ _ h (by kernel_rfl) (by kernel_rfl)
  intro x u h
  refine c_seq ?_
  refine r_start ?_
  refine p 4 ?_
  refine rend ?_
  replace h := H.done h
  subst h
  exact ret func135 rfl (vs := [.bool (decide ((List.length a0 : Int) ≤ 16))]) (.tmp (by kernel_rfl) .nil) rfl (fun W S => ⟨rfl, S.below⟩)
theorem C.s_prApart {fu : Nat} {a0 : Sign} {a1 : Sign} {r : (List Int)} (w : World) (h : X.s_prApart fu a0 a1 = some r) : Calls prog 146 #[.agg (eSign a0).toArray, .agg (eSign a1).toArray] w (RetR (eI .i64) 3 w r (fun v => v)) := by
  refine calls (M := no) (args := [.agg (eSign a0).toArray, .agg (eSign a1).toArray]) func146 rfl ?_
  replace h : H (X.s_prApart fu a0 a1) (fun o => o = r) := H.mk h
  unfold X.s_prApart at h
  refine c_seq ?_
  refine r_start ?_
  refine xx rfl (x_box (eSign a0) fun g0_0 => ?_)
  refine xx rfl (x_box (eSign a1) fun g0_1 => ?_)
  refine p 1 ?_
  refine rend ?_
  refine c_seq ?_
  refine joinT (X := (Sign × Sign × Nat × Nat)) (H.bnd h) (fun ⟨s1, s2, g1_4, g1_5⟩ => (s1, s2)) (fun ⟨s1, s2, g1_4, g1_5⟩ => [box g0_0 37 (eSign a0), box g0_1 37 (eSign a1), box g1_4 37 (eSign s1), box g1_5 37 (eSign s2)]) (fun ⟨s1, s2, g1_4, g1_5⟩ u => (jk u 0 5 (.pointer (some ⟨g1_4, 0, none⟩) :: .pointer (some ⟨g1_5, 0, none⟩) :: (jk u 7 61 [])))) (fun h hj3 => ?_) ?_
  · skip
    refine as_start 8 8 ?_
    refine aq 0 rfl (y_load (.agg (eSign a0).toArray) 0 g0_0 0) ?_
    obtain ⟨v1_1, hv1_1, h⟩ := H.call h
    refine aq 1 rfl (y_call [.agg (eSign a0).toArray] (.agg (eSign v1_1).toArray) func117 (fun W S => C.s_noForm W hv1_1)) ?_
    refine aq 2 rfl (y_load (.agg (eSign a1).toArray) 1 g0_1 0) ?_
    obtain ⟨v1_3, hv1_3, h⟩ := H.call h
    refine aq 3 rfl (y_call [.agg (eSign a1).toArray] (.agg (eSign v1_3).toArray) func117 (fun W S => C.s_noForm W hv1_3)) ?_
    refine a_two 4 5 rfl rfl ?_ ?_
    · skip
      refine (x_new (eSign zSign) fun g1_4 => ⟨.inr (by kernel_rfl), ?_⟩)
      refine ax 5 rfl (x_new (eSign zSign) fun g1_5 => ⟨.inr (by kernel_rfl), ?_⟩)
      refine ax 6 rfl (x_sto 2 g1_4 0 (eSign v1_1) ⟨.inr (by kernel_rfl), ?_⟩)
      refine ax 7 rfl (x_sto 3 g1_5 0 (eSign v1_3) ⟨.inr (by kernel_rfl), ?_⟩)
      refine a_done ?_
      replace h := H.done h
      exact hj3 (v1_1, v1_3, g1_4, g1_5) _ _ h (by kernel_rfl) (by kernel_rfl)
    refine (x_new (eSign zSign) fun g1_5 => ⟨.inr (by kernel_rfl), ?_⟩)
    refine ax 4 rfl (x_new (eSign zSign) fun g1_4 => ⟨.inr (by kernel_rfl), ?_⟩)
    refine ax 6 rfl (x_sto 3 g1_4 0 (eSign v1_1) ⟨.inr (by kernel_rfl), ?_⟩)
    refine ax 7 rfl (x_sto 2 g1_5 0 (eSign v1_3) ⟨.inr (by kernel_rfl), ?_⟩)
    refine a_done ?_
    refine swp [box g0_0 37 (eSign a0), box g0_1 37 (eSign a1)] (box g1_5 37 (eSign v1_3)) (box g1_4 37 (eSign v1_1)) ?_
    replace h := H.done h
    exact hj3 (v1_1, v1_3, g1_4, g1_5) _ _ h (by kernel_rfl) (by kernel_rfl)
  intro x u h
  obtain ⟨s1, s2, g1_4, g1_5⟩ := x
  refine c_seq ?_
  refine r_start ?_
  refine p 1 ?_
  refine rend ?_
  refine c_seq ?_
  refine c_seq ?_
  refine r_start ?_
  refine p 2 ?_
  refine xq rfl (y_load (.agg (eShape s1.Main.Shape).toArray) 2 g1_4 0) ?_
  refine p 2 ?_
  refine xq rfl (y_load (.agg (eShape s2.Main.Shape).toArray) 3 g1_5 0) ?_
  refine p 1 ?_
  refine rend ?_
  refine c_or (!qShape s1.Main.Shape s2.Main.Shape) (fun q4 => ?_) (fun q4 => ?_)
  · replace h := H.t q4 h
    refine r_start ?_
    refine p 1 ?_
    refine xx rfl (e_lit (e := (eI .i64)) (el := 3) [.int .i64 0] ([0] : List Int) fun A4_1 k4_1 => ?_)
    refine o_nil (eI .i64) 3 ?_
    obtain ⟨y4_2, hy4_2, h⟩ := H.call h
    refine xx rfl (e_app 5 hy4_2 (s_own 4) fun A4_2 k4_2 => ?_)
    refine p 1 ?_
    refine rend ?_
    refine c_seq ?_
    refine c_seq ?_
    refine r_start ?_
    refine p 2 ?_
    refine xq rfl (y_load (.agg (eOrient s1.Main.Orient).toArray) 2 g1_4 6) ?_
    refine p 2 ?_
    refine xq rfl (y_load (.agg (eOrient s2.Main.Orient).toArray) 3 g1_5 6) ?_
    refine p 1 ?_
    refine rend ?_
    refine c_or (!qOrient s1.Main.Orient s2.Main.Orient) (fun q5 => ?_) (fun q5 => ?_)
    · replace h := H.t q5 h
      refine r_start ?_
      refine p 1 ?_
      refine xx rfl (e_lit (e := (eI .i64)) (el := 3) [.int .i64 1] ([1] : List Int) fun A6_1 k6_1 => ?_)
      obtain ⟨y6_2, hy6_2, h⟩ := H.call h
      refine xx rfl (e_app 5 hy6_2 (s_own 6) fun A6_2 k6_2 => ?_)
      refine p 1 ?_
      refine rend ?_
      refine c_seq ?_
      refine c_seq ?_
      refine r_start ?_
      refine p 2 ?_
      refine xq rfl (y_load (.agg (ePlace s1.Main.Place).toArray) 2 g1_4 8) ?_
      refine p 2 ?_
      refine xq rfl (y_load (.agg (ePlace s2.Main.Place).toArray) 3 g1_5 8) ?_
      refine p 1 ?_
      refine rend ?_
      refine c_or (!qPlace s1.Main.Place s2.Main.Place) (fun q6 => ?_) (fun q6 => ?_)
      · replace h := H.t q6 h
        refine r_start ?_
        refine p 1 ?_
        refine xx rfl (e_lit (e := (eI .i64)) (el := 3) [.int .i64 2] ([2] : List Int) fun A8_1 k8_1 => ?_)
        obtain ⟨y8_2, hy8_2, h⟩ := H.call h
        refine xx rfl (e_app 5 hy8_2 (s_own 7) fun A8_2 k8_2 => ?_)
        refine p 1 ?_
        refine rend ?_
        refine c_seq ?_
        refine c_seq ?_
        refine r_start ?_
        refine p 2 ?_
        refine xq rfl (y_load (.agg (eMove s1.Main.Move).toArray) 2 g1_4 11) ?_
        refine p 2 ?_
        refine xq rfl (y_load (.agg (eMove s2.Main.Move).toArray) 3 g1_5 11) ?_
        refine p 1 ?_
        refine rend ?_
        refine c_or (!qMove s1.Main.Move s2.Main.Move) (fun q7 => ?_) (fun q7 => ?_)
        · replace h := H.t q7 h
          refine r_start ?_
          refine p 1 ?_
          refine xx rfl (e_lit (e := (eI .i64)) (el := 3) [.int .i64 3] ([3] : List Int) fun A10_1 k10_1 => ?_)
          obtain ⟨y10_2, hy10_2, h⟩ := H.call h
          refine xx rfl (e_app 5 hy10_2 (s_own 8) fun A10_2 k10_2 => ?_)
          refine p 1 ?_
          refine rend ?_
          refine c_seq ?_
          refine c_seq ?_
          refine r_start ?_
          refine p 1 ?_
          refine xq rfl (y_load (.bool s1.Two) 2 g1_4 13) ?_
          refine p 1 ?_
          refine xq rfl (y_load (.bool s2.Two) 3 g1_5 13) ?_
          refine p 2 ?_
          refine br (!(s1.Two == s2.Two)) (fun q8 => ?_) (fun q8 => ?_)
          · replace h := H.t q8 h
            refine o_set 57 (congrArg Value.bool q8) ?_
            refine p 6 ?_
            refine rend ?_
            refine c_t (by kernel_rfl) ?_
            refine r_start ?_
            refine p 1 ?_
            refine xx rfl (e_lit (e := (eI .i64)) (el := 3) [.int .i64 4] ([4] : List Int) fun A12_1 k12_1 => ?_)
            obtain ⟨y12_2, hy12_2, h⟩ := H.call h
            refine xx rfl (e_app 5 hy12_2 (s_own 9) fun A12_2 k12_2 => ?_)
            refine p 1 ?_
            refine rend ?_
            refine frg (fun u => (jk u 0 7 (.slice A12_2 (List.length y12_2) k12_2 :: (jk u 8 60 [])))) (by kernel_rfl) fun u => ?_
            refine keep 10 (its' := [box g0_0 37 (eSign a0), box g0_1 37 (eSign a1), box g1_4 37 (eSign s1), box g1_5 37 (eSign s2), rowT (eI .i64) w.heap.size 3 (.slice A4_1 (List.length ([0] : List Int)) k4_1) ([0] : List Int), rowT (eI .i64) w.heap.size 3 (.slice A12_2 (List.length y12_2) k12_2) y12_2, rowT (eI .i64) w.heap.size 3 (.slice A6_1 (List.length ([1] : List Int)) k6_1) ([1] : List Int), rowT (eI .i64) w.heap.size 3 (.slice A8_1 (List.length ([2] : List Int)) k8_1) ([2] : List Int), rowT (eI .i64) w.heap.size 3 (.slice A10_1 (List.length ([3] : List Int)) k10_1) ([3] : List Int), rowT (eI .i64) w.heap.size 3 (.slice A12_1 (List.length ([4] : List Int)) k12_1) ([4] : List Int)]) (by kernel_rfl) ?_
            refine c_seq ?_
            refine r_start ?_
            refine p 2 ?_
            refine rend ?_
            replace h := H.done h
            subst h
            exact ret func146 rfl (vs := [.slice A12_2 (List.length y12_2) k12_2]) (.tmp (by kernel_rfl) .nil) rfl (fun W S => ⟨_, _, rfl, S.row 5, S.below⟩)
          replace h := H.f q8 h
          refine o_set 57 (congrArg Value.bool q8) ?_
          refine p 1 ?_
          refine xq rfl (y_load (.agg (eHand s1.Other).toArray) 2 g1_4 14) ?_
          refine p 1 ?_
          refine xq rfl (y_load (.agg (eHand s2.Other).toArray) 3 g1_5 14) ?_
          refine p 2 ?_
          refine rend ?_
          refine c_or (!qHand s1.Other s2.Other) (fun q9 => ?_) (fun q9 => ?_)
          · replace h := H.t q9 h
            refine r_start ?_
            refine p 1 ?_
            refine xx rfl (e_lit (e := (eI .i64)) (el := 3) [.int .i64 4] ([4] : List Int) fun A12_1 k12_1 => ?_)
            obtain ⟨y12_2, hy12_2, h⟩ := H.call h
            refine xx rfl (e_app 5 hy12_2 (s_own 9) fun A12_2 k12_2 => ?_)
            refine p 1 ?_
            refine rend ?_
            refine frg (fun u => (jk u 0 7 (.slice A12_2 (List.length y12_2) k12_2 :: (jk u 8 60 [])))) (by kernel_rfl) fun u => ?_
            refine keep 10 (its' := [box g0_0 37 (eSign a0), box g0_1 37 (eSign a1), box g1_4 37 (eSign s1), box g1_5 37 (eSign s2), rowT (eI .i64) w.heap.size 3 (.slice A4_1 (List.length ([0] : List Int)) k4_1) ([0] : List Int), rowT (eI .i64) w.heap.size 3 (.slice A12_2 (List.length y12_2) k12_2) y12_2, rowT (eI .i64) w.heap.size 3 (.slice A6_1 (List.length ([1] : List Int)) k6_1) ([1] : List Int), rowT (eI .i64) w.heap.size 3 (.slice A8_1 (List.length ([2] : List Int)) k8_1) ([2] : List Int), rowT (eI .i64) w.heap.size 3 (.slice A10_1 (List.length ([3] : List Int)) k10_1) ([3] : List Int), rowT (eI .i64) w.heap.size 3 (.slice A12_1 (List.length ([4] : List Int)) k12_1) ([4] : List Int)]) (by kernel_rfl) ?_
            refine c_seq ?_
            refine r_start ?_
            refine p 2 ?_
            refine rend ?_
            replace h := H.done h
            subst h
            exact ret func146 rfl (vs := [.slice A12_2 (List.length y12_2) k12_2]) (.tmp (by kernel_rfl) .nil) rfl (fun W S => ⟨_, _, rfl, S.row 5, S.below⟩)
          replace h := H.f q9 h
          refine c_skip ?_
          refine c_seq ?_
          refine r_start ?_
          refine p 2 ?_
          refine rend ?_
          refine frg (fun u => (jk u 0 4 (.slice A10_2 (List.length y10_2) k10_2 :: (jk u 5 63 [])))) (by kernel_rfl) fun u => ?_
          refine keep 9 (its' := [box g0_0 37 (eSign a0), box g0_1 37 (eSign a1), box g1_4 37 (eSign s1), box g1_5 37 (eSign s2), rowT (eI .i64) w.heap.size 3 (.slice A4_1 (List.length ([0] : List Int)) k4_1) ([0] : List Int), rowT (eI .i64) w.heap.size 3 (.slice A10_2 (List.length y10_2) k10_2) y10_2, rowT (eI .i64) w.heap.size 3 (.slice A6_1 (List.length ([1] : List Int)) k6_1) ([1] : List Int), rowT (eI .i64) w.heap.size 3 (.slice A8_1 (List.length ([2] : List Int)) k8_1) ([2] : List Int), rowT (eI .i64) w.heap.size 3 (.slice A10_1 (List.length ([3] : List Int)) k10_1) ([3] : List Int)]) (by kernel_rfl) ?_
          replace h := H.done h
          subst h
          exact ret func146 rfl (vs := [.slice A10_2 (List.length y10_2) k10_2]) (.tmp (by kernel_rfl) .nil) rfl (fun W S => ⟨_, _, rfl, S.row 5, S.below⟩)
        replace h := H.f q7 h
        refine c_skip ?_
        refine c_seq ?_
        refine c_seq ?_
        refine r_start ?_
        refine p 1 ?_
        refine xq rfl (y_load (.bool s1.Two) 2 g1_4 13) ?_
        refine p 1 ?_
        refine xq rfl (y_load (.bool s2.Two) 3 g1_5 13) ?_
        refine p 2 ?_
        refine br (!(s1.Two == s2.Two)) (fun q10 => ?_) (fun q10 => ?_)
        · replace h := H.t q10 h
          refine o_set 57 (congrArg Value.bool q10) ?_
          refine p 6 ?_
          refine rend ?_
          refine c_t (by kernel_rfl) ?_
          refine r_start ?_
          refine p 1 ?_
          refine xx rfl (e_lit (e := (eI .i64)) (el := 3) [.int .i64 4] ([4] : List Int) fun A12_1 k12_1 => ?_)
          obtain ⟨y12_2, hy12_2, h⟩ := H.call h
          refine xx rfl (e_app 5 hy12_2 (s_own 8) fun A12_2 k12_2 => ?_)
          refine p 1 ?_
          refine rend ?_
          refine c_seq ?_
          refine r_start ?_
          refine p 2 ?_
          refine rend ?_
          refine frg (fun u => (jk u 0 4 (.slice A12_2 (List.length y12_2) k12_2 :: (jk u 5 63 [])))) (by kernel_rfl) fun u => ?_
          refine keep 9 (its' := [box g0_0 37 (eSign a0), box g0_1 37 (eSign a1), box g1_4 37 (eSign s1), box g1_5 37 (eSign s2), rowT (eI .i64) w.heap.size 3 (.slice A4_1 (List.length ([0] : List Int)) k4_1) ([0] : List Int), rowT (eI .i64) w.heap.size 3 (.slice A12_2 (List.length y12_2) k12_2) y12_2, rowT (eI .i64) w.heap.size 3 (.slice A6_1 (List.length ([1] : List Int)) k6_1) ([1] : List Int), rowT (eI .i64) w.heap.size 3 (.slice A8_1 (List.length ([2] : List Int)) k8_1) ([2] : List Int), rowT (eI .i64) w.heap.size 3 (.slice A12_1 (List.length ([4] : List Int)) k12_1) ([4] : List Int)]) (by kernel_rfl) ?_
          replace h := H.done h
          subst h
          exact ret func146 rfl (vs := [.slice A12_2 (List.length y12_2) k12_2]) (.tmp (by kernel_rfl) .nil) rfl (fun W S => ⟨_, _, rfl, S.row 5, S.below⟩)
        replace h := H.f q10 h
        refine o_set 57 (congrArg Value.bool q10) ?_
        refine p 1 ?_
        refine xq rfl (y_load (.agg (eHand s1.Other).toArray) 2 g1_4 14) ?_
        refine p 1 ?_
        refine xq rfl (y_load (.agg (eHand s2.Other).toArray) 3 g1_5 14) ?_
        refine p 2 ?_
        refine rend ?_
        refine c_or (!qHand s1.Other s2.Other) (fun q11 => ?_) (fun q11 => ?_)
        · replace h := H.t q11 h
          refine r_start ?_
          refine p 1 ?_
          refine xx rfl (e_lit (e := (eI .i64)) (el := 3) [.int .i64 4] ([4] : List Int) fun A12_1 k12_1 => ?_)
          obtain ⟨y12_2, hy12_2, h⟩ := H.call h
          refine xx rfl (e_app 5 hy12_2 (s_own 8) fun A12_2 k12_2 => ?_)
          refine p 1 ?_
          refine rend ?_
          refine c_seq ?_
          refine r_start ?_
          refine p 2 ?_
          refine rend ?_
          refine frg (fun u => (jk u 0 4 (.slice A12_2 (List.length y12_2) k12_2 :: (jk u 5 63 [])))) (by kernel_rfl) fun u => ?_
          refine keep 9 (its' := [box g0_0 37 (eSign a0), box g0_1 37 (eSign a1), box g1_4 37 (eSign s1), box g1_5 37 (eSign s2), rowT (eI .i64) w.heap.size 3 (.slice A4_1 (List.length ([0] : List Int)) k4_1) ([0] : List Int), rowT (eI .i64) w.heap.size 3 (.slice A12_2 (List.length y12_2) k12_2) y12_2, rowT (eI .i64) w.heap.size 3 (.slice A6_1 (List.length ([1] : List Int)) k6_1) ([1] : List Int), rowT (eI .i64) w.heap.size 3 (.slice A8_1 (List.length ([2] : List Int)) k8_1) ([2] : List Int), rowT (eI .i64) w.heap.size 3 (.slice A12_1 (List.length ([4] : List Int)) k12_1) ([4] : List Int)]) (by kernel_rfl) ?_
          replace h := H.done h
          subst h
          exact ret func146 rfl (vs := [.slice A12_2 (List.length y12_2) k12_2]) (.tmp (by kernel_rfl) .nil) rfl (fun W S => ⟨_, _, rfl, S.row 5, S.below⟩)
        replace h := H.f q11 h
        refine c_skip ?_
        refine c_seq ?_
        refine r_start ?_
        refine p 2 ?_
        refine rend ?_
        replace h := H.done h
        subst h
        exact ret func146 rfl (vs := [.slice A8_2 (List.length y8_2) k8_2]) (.tmp (by kernel_rfl) .nil) rfl (fun W S => ⟨_, _, rfl, S.row 5, S.below⟩)
      replace h := H.f q6 h
      refine c_skip ?_
      refine c_seq ?_
      refine c_seq ?_
      refine r_start ?_
      refine p 2 ?_
      refine xq rfl (y_load (.agg (eMove s1.Main.Move).toArray) 2 g1_4 11) ?_
      refine p 2 ?_
      refine xq rfl (y_load (.agg (eMove s2.Main.Move).toArray) 3 g1_5 11) ?_
      refine p 1 ?_
      refine rend ?_
      refine c_or (!qMove s1.Main.Move s2.Main.Move) (fun q12 => ?_) (fun q12 => ?_)
      · replace h := H.t q12 h
        refine r_start ?_
        refine p 1 ?_
        refine xx rfl (e_lit (e := (eI .i64)) (el := 3) [.int .i64 3] ([3] : List Int) fun A10_1 k10_1 => ?_)
        obtain ⟨y10_2, hy10_2, h⟩ := H.call h
        refine xx rfl (e_app 5 hy10_2 (s_own 7) fun A10_2 k10_2 => ?_)
        refine p 1 ?_
        refine rend ?_
        refine c_seq ?_
        refine c_seq ?_
        refine r_start ?_
        refine p 1 ?_
        refine xq rfl (y_load (.bool s1.Two) 2 g1_4 13) ?_
        refine p 1 ?_
        refine xq rfl (y_load (.bool s2.Two) 3 g1_5 13) ?_
        refine p 2 ?_
        refine br (!(s1.Two == s2.Two)) (fun q13 => ?_) (fun q13 => ?_)
        · replace h := H.t q13 h
          refine o_set 57 (congrArg Value.bool q13) ?_
          refine p 6 ?_
          refine rend ?_
          refine c_t (by kernel_rfl) ?_
          refine r_start ?_
          refine p 1 ?_
          refine xx rfl (e_lit (e := (eI .i64)) (el := 3) [.int .i64 4] ([4] : List Int) fun A12_1 k12_1 => ?_)
          obtain ⟨y12_2, hy12_2, h⟩ := H.call h
          refine xx rfl (e_app 5 hy12_2 (s_own 8) fun A12_2 k12_2 => ?_)
          refine p 1 ?_
          refine rend ?_
          refine c_seq ?_
          refine r_start ?_
          refine p 2 ?_
          refine rend ?_
          refine frg (fun u => (jk u 0 4 (.slice A12_2 (List.length y12_2) k12_2 :: (jk u 5 63 [])))) (by kernel_rfl) fun u => ?_
          refine keep 9 (its' := [box g0_0 37 (eSign a0), box g0_1 37 (eSign a1), box g1_4 37 (eSign s1), box g1_5 37 (eSign s2), rowT (eI .i64) w.heap.size 3 (.slice A4_1 (List.length ([0] : List Int)) k4_1) ([0] : List Int), rowT (eI .i64) w.heap.size 3 (.slice A12_2 (List.length y12_2) k12_2) y12_2, rowT (eI .i64) w.heap.size 3 (.slice A6_1 (List.length ([1] : List Int)) k6_1) ([1] : List Int), rowT (eI .i64) w.heap.size 3 (.slice A10_1 (List.length ([3] : List Int)) k10_1) ([3] : List Int), rowT (eI .i64) w.heap.size 3 (.slice A12_1 (List.length ([4] : List Int)) k12_1) ([4] : List Int)]) (by kernel_rfl) ?_
          replace h := H.done h
          subst h
          exact ret func146 rfl (vs := [.slice A12_2 (List.length y12_2) k12_2]) (.tmp (by kernel_rfl) .nil) rfl (fun W S => ⟨_, _, rfl, S.row 5, S.below⟩)
        replace h := H.f q13 h
        refine o_set 57 (congrArg Value.bool q13) ?_
        refine p 1 ?_
        refine xq rfl (y_load (.agg (eHand s1.Other).toArray) 2 g1_4 14) ?_
        refine p 1 ?_
        refine xq rfl (y_load (.agg (eHand s2.Other).toArray) 3 g1_5 14) ?_
        refine p 2 ?_
        refine rend ?_
        refine c_or (!qHand s1.Other s2.Other) (fun q14 => ?_) (fun q14 => ?_)
        · replace h := H.t q14 h
          refine r_start ?_
          refine p 1 ?_
          refine xx rfl (e_lit (e := (eI .i64)) (el := 3) [.int .i64 4] ([4] : List Int) fun A12_1 k12_1 => ?_)
          obtain ⟨y12_2, hy12_2, h⟩ := H.call h
          refine xx rfl (e_app 5 hy12_2 (s_own 8) fun A12_2 k12_2 => ?_)
          refine p 1 ?_
          refine rend ?_
          refine c_seq ?_
          refine r_start ?_
          refine p 2 ?_
          refine rend ?_
          refine frg (fun u => (jk u 0 4 (.slice A12_2 (List.length y12_2) k12_2 :: (jk u 5 63 [])))) (by kernel_rfl) fun u => ?_
          refine keep 9 (its' := [box g0_0 37 (eSign a0), box g0_1 37 (eSign a1), box g1_4 37 (eSign s1), box g1_5 37 (eSign s2), rowT (eI .i64) w.heap.size 3 (.slice A4_1 (List.length ([0] : List Int)) k4_1) ([0] : List Int), rowT (eI .i64) w.heap.size 3 (.slice A12_2 (List.length y12_2) k12_2) y12_2, rowT (eI .i64) w.heap.size 3 (.slice A6_1 (List.length ([1] : List Int)) k6_1) ([1] : List Int), rowT (eI .i64) w.heap.size 3 (.slice A10_1 (List.length ([3] : List Int)) k10_1) ([3] : List Int), rowT (eI .i64) w.heap.size 3 (.slice A12_1 (List.length ([4] : List Int)) k12_1) ([4] : List Int)]) (by kernel_rfl) ?_
          replace h := H.done h
          subst h
          exact ret func146 rfl (vs := [.slice A12_2 (List.length y12_2) k12_2]) (.tmp (by kernel_rfl) .nil) rfl (fun W S => ⟨_, _, rfl, S.row 5, S.below⟩)
        replace h := H.f q14 h
        refine c_skip ?_
        refine c_seq ?_
        refine r_start ?_
        refine p 2 ?_
        refine rend ?_
        replace h := H.done h
        subst h
        exact ret func146 rfl (vs := [.slice A10_2 (List.length y10_2) k10_2]) (.tmp (by kernel_rfl) .nil) rfl (fun W S => ⟨_, _, rfl, S.row 5, S.below⟩)
      replace h := H.f q12 h
      refine c_skip ?_
      refine c_seq ?_
      refine c_seq ?_
      refine r_start ?_
      refine p 1 ?_
      refine xq rfl (y_load (.bool s1.Two) 2 g1_4 13) ?_
      refine p 1 ?_
      refine xq rfl (y_load (.bool s2.Two) 3 g1_5 13) ?_
      refine p 2 ?_
      refine br (!(s1.Two == s2.Two)) (fun q15 => ?_) (fun q15 => ?_)
      · replace h := H.t q15 h
        refine o_set 57 (congrArg Value.bool q15) ?_
        refine p 6 ?_
        refine rend ?_
        refine c_t (by kernel_rfl) ?_
        refine r_start ?_
        refine p 1 ?_
        refine xx rfl (e_lit (e := (eI .i64)) (el := 3) [.int .i64 4] ([4] : List Int) fun A12_1 k12_1 => ?_)
        obtain ⟨y12_2, hy12_2, h⟩ := H.call h
        refine xx rfl (e_app 5 hy12_2 (s_own 7) fun A12_2 k12_2 => ?_)
        refine p 1 ?_
        refine rend ?_
        refine c_seq ?_
        refine r_start ?_
        refine p 2 ?_
        refine rend ?_
        replace h := H.done h
        subst h
        exact ret func146 rfl (vs := [.slice A12_2 (List.length y12_2) k12_2]) (.tmp (by kernel_rfl) .nil) rfl (fun W S => ⟨_, _, rfl, S.row 5, S.below⟩)
      replace h := H.f q15 h
      refine o_set 57 (congrArg Value.bool q15) ?_
      refine p 1 ?_
      refine xq rfl (y_load (.agg (eHand s1.Other).toArray) 2 g1_4 14) ?_
      refine p 1 ?_
      refine xq rfl (y_load (.agg (eHand s2.Other).toArray) 3 g1_5 14) ?_
      refine p 2 ?_
      refine rend ?_
      refine c_or (!qHand s1.Other s2.Other) (fun q16 => ?_) (fun q16 => ?_)
      · replace h := H.t q16 h
        refine r_start ?_
        refine p 1 ?_
        refine xx rfl (e_lit (e := (eI .i64)) (el := 3) [.int .i64 4] ([4] : List Int) fun A12_1 k12_1 => ?_)
        obtain ⟨y12_2, hy12_2, h⟩ := H.call h
        refine xx rfl (e_app 5 hy12_2 (s_own 7) fun A12_2 k12_2 => ?_)
        refine p 1 ?_
        refine rend ?_
        refine c_seq ?_
        refine r_start ?_
        refine p 2 ?_
        refine rend ?_
        replace h := H.done h
        subst h
        exact ret func146 rfl (vs := [.slice A12_2 (List.length y12_2) k12_2]) (.tmp (by kernel_rfl) .nil) rfl (fun W S => ⟨_, _, rfl, S.row 5, S.below⟩)
      replace h := H.f q16 h
      refine c_skip ?_
      refine c_seq ?_
      refine r_start ?_
      refine p 2 ?_
      refine rend ?_
      replace h := H.done h
      subst h
      exact ret func146 rfl (vs := [.slice A6_2 (List.length y6_2) k6_2]) (.tmp (by kernel_rfl) .nil) rfl (fun W S => ⟨_, _, rfl, S.row 5, S.below⟩)
    replace h := H.f q5 h
    refine c_skip ?_
    refine c_seq ?_
    refine c_seq ?_
    refine r_start ?_
    refine p 2 ?_
    refine xq rfl (y_load (.agg (ePlace s1.Main.Place).toArray) 2 g1_4 8) ?_
    refine p 2 ?_
    refine xq rfl (y_load (.agg (ePlace s2.Main.Place).toArray) 3 g1_5 8) ?_
    refine p 1 ?_
    refine rend ?_
    refine c_or (!qPlace s1.Main.Place s2.Main.Place) (fun q17 => ?_) (fun q17 => ?_)
    · replace h := H.t q17 h
      refine r_start ?_
      refine p 1 ?_
      refine xx rfl (e_lit (e := (eI .i64)) (el := 3) [.int .i64 2] ([2] : List Int) fun A8_1 k8_1 => ?_)
      obtain ⟨y8_2, hy8_2, h⟩ := H.call h
      refine xx rfl (e_app 5 hy8_2 (s_own 6) fun A8_2 k8_2 => ?_)
      refine p 1 ?_
      refine rend ?_
      refine c_seq ?_
      refine c_seq ?_
      refine r_start ?_
      refine p 2 ?_
      refine xq rfl (y_load (.agg (eMove s1.Main.Move).toArray) 2 g1_4 11) ?_
      refine p 2 ?_
      refine xq rfl (y_load (.agg (eMove s2.Main.Move).toArray) 3 g1_5 11) ?_
      refine p 1 ?_
      refine rend ?_
      refine c_or (!qMove s1.Main.Move s2.Main.Move) (fun q18 => ?_) (fun q18 => ?_)
      · replace h := H.t q18 h
        refine r_start ?_
        refine p 1 ?_
        refine xx rfl (e_lit (e := (eI .i64)) (el := 3) [.int .i64 3] ([3] : List Int) fun A10_1 k10_1 => ?_)
        obtain ⟨y10_2, hy10_2, h⟩ := H.call h
        refine xx rfl (e_app 5 hy10_2 (s_own 7) fun A10_2 k10_2 => ?_)
        refine p 1 ?_
        refine rend ?_
        refine c_seq ?_
        refine c_seq ?_
        refine r_start ?_
        refine p 1 ?_
        refine xq rfl (y_load (.bool s1.Two) 2 g1_4 13) ?_
        refine p 1 ?_
        refine xq rfl (y_load (.bool s2.Two) 3 g1_5 13) ?_
        refine p 2 ?_
        refine br (!(s1.Two == s2.Two)) (fun q19 => ?_) (fun q19 => ?_)
        · replace h := H.t q19 h
          refine o_set 57 (congrArg Value.bool q19) ?_
          refine p 6 ?_
          refine rend ?_
          refine c_t (by kernel_rfl) ?_
          refine r_start ?_
          refine p 1 ?_
          refine xx rfl (e_lit (e := (eI .i64)) (el := 3) [.int .i64 4] ([4] : List Int) fun A12_1 k12_1 => ?_)
          obtain ⟨y12_2, hy12_2, h⟩ := H.call h
          refine xx rfl (e_app 5 hy12_2 (s_own 8) fun A12_2 k12_2 => ?_)
          refine p 1 ?_
          refine rend ?_
          refine c_seq ?_
          refine r_start ?_
          refine p 2 ?_
          refine rend ?_
          refine frg (fun u => (jk u 0 4 (.slice A12_2 (List.length y12_2) k12_2 :: (jk u 5 63 [])))) (by kernel_rfl) fun u => ?_
          refine keep 9 (its' := [box g0_0 37 (eSign a0), box g0_1 37 (eSign a1), box g1_4 37 (eSign s1), box g1_5 37 (eSign s2), rowT (eI .i64) w.heap.size 3 (.slice A4_1 (List.length ([0] : List Int)) k4_1) ([0] : List Int), rowT (eI .i64) w.heap.size 3 (.slice A12_2 (List.length y12_2) k12_2) y12_2, rowT (eI .i64) w.heap.size 3 (.slice A8_1 (List.length ([2] : List Int)) k8_1) ([2] : List Int), rowT (eI .i64) w.heap.size 3 (.slice A10_1 (List.length ([3] : List Int)) k10_1) ([3] : List Int), rowT (eI .i64) w.heap.size 3 (.slice A12_1 (List.length ([4] : List Int)) k12_1) ([4] : List Int)]) (by kernel_rfl) ?_
          replace h := H.done h
          subst h
          exact ret func146 rfl (vs := [.slice A12_2 (List.length y12_2) k12_2]) (.tmp (by kernel_rfl) .nil) rfl (fun W S => ⟨_, _, rfl, S.row 5, S.below⟩)
        replace h := H.f q19 h
        refine o_set 57 (congrArg Value.bool q19) ?_
        refine p 1 ?_
        refine xq rfl (y_load (.agg (eHand s1.Other).toArray) 2 g1_4 14) ?_
        refine p 1 ?_
        refine xq rfl (y_load (.agg (eHand s2.Other).toArray) 3 g1_5 14) ?_
        refine p 2 ?_
        refine rend ?_
        refine c_or (!qHand s1.Other s2.Other) (fun q20 => ?_) (fun q20 => ?_)
        · replace h := H.t q20 h
          refine r_start ?_
          refine p 1 ?_
          refine xx rfl (e_lit (e := (eI .i64)) (el := 3) [.int .i64 4] ([4] : List Int) fun A12_1 k12_1 => ?_)
          obtain ⟨y12_2, hy12_2, h⟩ := H.call h
          refine xx rfl (e_app 5 hy12_2 (s_own 8) fun A12_2 k12_2 => ?_)
          refine p 1 ?_
          refine rend ?_
          refine c_seq ?_
          refine r_start ?_
          refine p 2 ?_
          refine rend ?_
          refine frg (fun u => (jk u 0 4 (.slice A12_2 (List.length y12_2) k12_2 :: (jk u 5 63 [])))) (by kernel_rfl) fun u => ?_
          refine keep 9 (its' := [box g0_0 37 (eSign a0), box g0_1 37 (eSign a1), box g1_4 37 (eSign s1), box g1_5 37 (eSign s2), rowT (eI .i64) w.heap.size 3 (.slice A4_1 (List.length ([0] : List Int)) k4_1) ([0] : List Int), rowT (eI .i64) w.heap.size 3 (.slice A12_2 (List.length y12_2) k12_2) y12_2, rowT (eI .i64) w.heap.size 3 (.slice A8_1 (List.length ([2] : List Int)) k8_1) ([2] : List Int), rowT (eI .i64) w.heap.size 3 (.slice A10_1 (List.length ([3] : List Int)) k10_1) ([3] : List Int), rowT (eI .i64) w.heap.size 3 (.slice A12_1 (List.length ([4] : List Int)) k12_1) ([4] : List Int)]) (by kernel_rfl) ?_
          replace h := H.done h
          subst h
          exact ret func146 rfl (vs := [.slice A12_2 (List.length y12_2) k12_2]) (.tmp (by kernel_rfl) .nil) rfl (fun W S => ⟨_, _, rfl, S.row 5, S.below⟩)
        replace h := H.f q20 h
        refine c_skip ?_
        refine c_seq ?_
        refine r_start ?_
        refine p 2 ?_
        refine rend ?_
        replace h := H.done h
        subst h
        exact ret func146 rfl (vs := [.slice A10_2 (List.length y10_2) k10_2]) (.tmp (by kernel_rfl) .nil) rfl (fun W S => ⟨_, _, rfl, S.row 5, S.below⟩)
      replace h := H.f q18 h
      refine c_skip ?_
      refine c_seq ?_
      refine c_seq ?_
      refine r_start ?_
      refine p 1 ?_
      refine xq rfl (y_load (.bool s1.Two) 2 g1_4 13) ?_
      refine p 1 ?_
      refine xq rfl (y_load (.bool s2.Two) 3 g1_5 13) ?_
      refine p 2 ?_
      refine br (!(s1.Two == s2.Two)) (fun q21 => ?_) (fun q21 => ?_)
      · replace h := H.t q21 h
        refine o_set 57 (congrArg Value.bool q21) ?_
        refine p 6 ?_
        refine rend ?_
        refine c_t (by kernel_rfl) ?_
        refine r_start ?_
        refine p 1 ?_
        refine xx rfl (e_lit (e := (eI .i64)) (el := 3) [.int .i64 4] ([4] : List Int) fun A12_1 k12_1 => ?_)
        obtain ⟨y12_2, hy12_2, h⟩ := H.call h
        refine xx rfl (e_app 5 hy12_2 (s_own 7) fun A12_2 k12_2 => ?_)
        refine p 1 ?_
        refine rend ?_
        refine c_seq ?_
        refine r_start ?_
        refine p 2 ?_
        refine rend ?_
        replace h := H.done h
        subst h
        exact ret func146 rfl (vs := [.slice A12_2 (List.length y12_2) k12_2]) (.tmp (by kernel_rfl) .nil) rfl (fun W S => ⟨_, _, rfl, S.row 5, S.below⟩)
      replace h := H.f q21 h
      refine o_set 57 (congrArg Value.bool q21) ?_
      refine p 1 ?_
      refine xq rfl (y_load (.agg (eHand s1.Other).toArray) 2 g1_4 14) ?_
      refine p 1 ?_
      refine xq rfl (y_load (.agg (eHand s2.Other).toArray) 3 g1_5 14) ?_
      refine p 2 ?_
      refine rend ?_
      refine c_or (!qHand s1.Other s2.Other) (fun q22 => ?_) (fun q22 => ?_)
      · replace h := H.t q22 h
        refine r_start ?_
        refine p 1 ?_
        refine xx rfl (e_lit (e := (eI .i64)) (el := 3) [.int .i64 4] ([4] : List Int) fun A12_1 k12_1 => ?_)
        obtain ⟨y12_2, hy12_2, h⟩ := H.call h
        refine xx rfl (e_app 5 hy12_2 (s_own 7) fun A12_2 k12_2 => ?_)
        refine p 1 ?_
        refine rend ?_
        refine c_seq ?_
        refine r_start ?_
        refine p 2 ?_
        refine rend ?_
        replace h := H.done h
        subst h
        exact ret func146 rfl (vs := [.slice A12_2 (List.length y12_2) k12_2]) (.tmp (by kernel_rfl) .nil) rfl (fun W S => ⟨_, _, rfl, S.row 5, S.below⟩)
      replace h := H.f q22 h
      refine c_skip ?_
      refine c_seq ?_
      refine r_start ?_
      refine p 2 ?_
      refine rend ?_
      replace h := H.done h
      subst h
      exact ret func146 rfl (vs := [.slice A8_2 (List.length y8_2) k8_2]) (.tmp (by kernel_rfl) .nil) rfl (fun W S => ⟨_, _, rfl, S.row 5, S.below⟩)
    replace h := H.f q17 h
    refine c_skip ?_
    refine c_seq ?_
    refine c_seq ?_
    refine r_start ?_
    refine p 2 ?_
    refine xq rfl (y_load (.agg (eMove s1.Main.Move).toArray) 2 g1_4 11) ?_
    refine p 2 ?_
    refine xq rfl (y_load (.agg (eMove s2.Main.Move).toArray) 3 g1_5 11) ?_
    refine p 1 ?_
    refine rend ?_
    refine c_or (!qMove s1.Main.Move s2.Main.Move) (fun q23 => ?_) (fun q23 => ?_)
    · replace h := H.t q23 h
      refine r_start ?_
      refine p 1 ?_
      refine xx rfl (e_lit (e := (eI .i64)) (el := 3) [.int .i64 3] ([3] : List Int) fun A10_1 k10_1 => ?_)
      obtain ⟨y10_2, hy10_2, h⟩ := H.call h
      refine xx rfl (e_app 5 hy10_2 (s_own 6) fun A10_2 k10_2 => ?_)
      refine p 1 ?_
      refine rend ?_
      refine c_seq ?_
      refine c_seq ?_
      refine r_start ?_
      refine p 1 ?_
      refine xq rfl (y_load (.bool s1.Two) 2 g1_4 13) ?_
      refine p 1 ?_
      refine xq rfl (y_load (.bool s2.Two) 3 g1_5 13) ?_
      refine p 2 ?_
      refine br (!(s1.Two == s2.Two)) (fun q24 => ?_) (fun q24 => ?_)
      · replace h := H.t q24 h
        refine o_set 57 (congrArg Value.bool q24) ?_
        refine p 6 ?_
        refine rend ?_
        refine c_t (by kernel_rfl) ?_
        refine r_start ?_
        refine p 1 ?_
        refine xx rfl (e_lit (e := (eI .i64)) (el := 3) [.int .i64 4] ([4] : List Int) fun A12_1 k12_1 => ?_)
        obtain ⟨y12_2, hy12_2, h⟩ := H.call h
        refine xx rfl (e_app 5 hy12_2 (s_own 7) fun A12_2 k12_2 => ?_)
        refine p 1 ?_
        refine rend ?_
        refine c_seq ?_
        refine r_start ?_
        refine p 2 ?_
        refine rend ?_
        replace h := H.done h
        subst h
        exact ret func146 rfl (vs := [.slice A12_2 (List.length y12_2) k12_2]) (.tmp (by kernel_rfl) .nil) rfl (fun W S => ⟨_, _, rfl, S.row 5, S.below⟩)
      replace h := H.f q24 h
      refine o_set 57 (congrArg Value.bool q24) ?_
      refine p 1 ?_
      refine xq rfl (y_load (.agg (eHand s1.Other).toArray) 2 g1_4 14) ?_
      refine p 1 ?_
      refine xq rfl (y_load (.agg (eHand s2.Other).toArray) 3 g1_5 14) ?_
      refine p 2 ?_
      refine rend ?_
      refine c_or (!qHand s1.Other s2.Other) (fun q25 => ?_) (fun q25 => ?_)
      · replace h := H.t q25 h
        refine r_start ?_
        refine p 1 ?_
        refine xx rfl (e_lit (e := (eI .i64)) (el := 3) [.int .i64 4] ([4] : List Int) fun A12_1 k12_1 => ?_)
        obtain ⟨y12_2, hy12_2, h⟩ := H.call h
        refine xx rfl (e_app 5 hy12_2 (s_own 7) fun A12_2 k12_2 => ?_)
        refine p 1 ?_
        refine rend ?_
        refine c_seq ?_
        refine r_start ?_
        refine p 2 ?_
        refine rend ?_
        replace h := H.done h
        subst h
        exact ret func146 rfl (vs := [.slice A12_2 (List.length y12_2) k12_2]) (.tmp (by kernel_rfl) .nil) rfl (fun W S => ⟨_, _, rfl, S.row 5, S.below⟩)
      replace h := H.f q25 h
      refine c_skip ?_
      refine c_seq ?_
      refine r_start ?_
      refine p 2 ?_
      refine rend ?_
      replace h := H.done h
      subst h
      exact ret func146 rfl (vs := [.slice A10_2 (List.length y10_2) k10_2]) (.tmp (by kernel_rfl) .nil) rfl (fun W S => ⟨_, _, rfl, S.row 5, S.below⟩)
    replace h := H.f q23 h
    refine c_skip ?_
    refine c_seq ?_
    refine c_seq ?_
    refine r_start ?_
    refine p 1 ?_
    refine xq rfl (y_load (.bool s1.Two) 2 g1_4 13) ?_
    refine p 1 ?_
    refine xq rfl (y_load (.bool s2.Two) 3 g1_5 13) ?_
    refine p 2 ?_
    refine br (!(s1.Two == s2.Two)) (fun q26 => ?_) (fun q26 => ?_)
    · replace h := H.t q26 h
      refine o_set 57 (congrArg Value.bool q26) ?_
      refine p 6 ?_
      refine rend ?_
      refine c_t (by kernel_rfl) ?_
      refine r_start ?_
      refine p 1 ?_
      refine xx rfl (e_lit (e := (eI .i64)) (el := 3) [.int .i64 4] ([4] : List Int) fun A12_1 k12_1 => ?_)
      obtain ⟨y12_2, hy12_2, h⟩ := H.call h
      refine xx rfl (e_app 5 hy12_2 (s_own 6) fun A12_2 k12_2 => ?_)
      refine p 1 ?_
      refine rend ?_
      refine c_seq ?_
      refine r_start ?_
      refine p 2 ?_
      refine rend ?_
      replace h := H.done h
      subst h
      exact ret func146 rfl (vs := [.slice A12_2 (List.length y12_2) k12_2]) (.tmp (by kernel_rfl) .nil) rfl (fun W S => ⟨_, _, rfl, S.row 5, S.below⟩)
    replace h := H.f q26 h
    refine o_set 57 (congrArg Value.bool q26) ?_
    refine p 1 ?_
    refine xq rfl (y_load (.agg (eHand s1.Other).toArray) 2 g1_4 14) ?_
    refine p 1 ?_
    refine xq rfl (y_load (.agg (eHand s2.Other).toArray) 3 g1_5 14) ?_
    refine p 2 ?_
    refine rend ?_
    refine c_or (!qHand s1.Other s2.Other) (fun q27 => ?_) (fun q27 => ?_)
    · replace h := H.t q27 h
      refine r_start ?_
      refine p 1 ?_
      refine xx rfl (e_lit (e := (eI .i64)) (el := 3) [.int .i64 4] ([4] : List Int) fun A12_1 k12_1 => ?_)
      obtain ⟨y12_2, hy12_2, h⟩ := H.call h
      refine xx rfl (e_app 5 hy12_2 (s_own 6) fun A12_2 k12_2 => ?_)
      refine p 1 ?_
      refine rend ?_
      refine c_seq ?_
      refine r_start ?_
      refine p 2 ?_
      refine rend ?_
      replace h := H.done h
      subst h
      exact ret func146 rfl (vs := [.slice A12_2 (List.length y12_2) k12_2]) (.tmp (by kernel_rfl) .nil) rfl (fun W S => ⟨_, _, rfl, S.row 5, S.below⟩)
    replace h := H.f q27 h
    refine c_skip ?_
    refine c_seq ?_
    refine r_start ?_
    refine p 2 ?_
    refine rend ?_
    replace h := H.done h
    subst h
    exact ret func146 rfl (vs := [.slice A4_2 (List.length y4_2) k4_2]) (.tmp (by kernel_rfl) .nil) rfl (fun W S => ⟨_, _, rfl, S.row 5, S.below⟩)
  replace h := H.f q4 h
  refine c_skip ?_
  refine c_seq ?_
  refine c_seq ?_
  refine r_start ?_
  refine p 2 ?_
  refine xq rfl (y_load (.agg (eOrient s1.Main.Orient).toArray) 2 g1_4 6) ?_
  refine p 2 ?_
  refine xq rfl (y_load (.agg (eOrient s2.Main.Orient).toArray) 3 g1_5 6) ?_
  refine p 1 ?_
  refine rend ?_
  refine c_or (!qOrient s1.Main.Orient s2.Main.Orient) (fun q28 => ?_) (fun q28 => ?_)
  · replace h := H.t q28 h
    refine r_start ?_
    refine p 1 ?_
    refine xx rfl (e_lit (e := (eI .i64)) (el := 3) [.int .i64 1] ([1] : List Int) fun A6_1 k6_1 => ?_)
    refine o_nil (eI .i64) 3 ?_
    obtain ⟨y6_2, hy6_2, h⟩ := H.call h
    refine xx rfl (e_app 5 hy6_2 (s_own 4) fun A6_2 k6_2 => ?_)
    refine p 1 ?_
    refine rend ?_
    refine c_seq ?_
    refine c_seq ?_
    refine r_start ?_
    refine p 2 ?_
    refine xq rfl (y_load (.agg (ePlace s1.Main.Place).toArray) 2 g1_4 8) ?_
    refine p 2 ?_
    refine xq rfl (y_load (.agg (ePlace s2.Main.Place).toArray) 3 g1_5 8) ?_
    refine p 1 ?_
    refine rend ?_
    refine c_or (!qPlace s1.Main.Place s2.Main.Place) (fun q29 => ?_) (fun q29 => ?_)
    · replace h := H.t q29 h
      refine r_start ?_
      refine p 1 ?_
      refine xx rfl (e_lit (e := (eI .i64)) (el := 3) [.int .i64 2] ([2] : List Int) fun A8_1 k8_1 => ?_)
      obtain ⟨y8_2, hy8_2, h⟩ := H.call h
      refine xx rfl (e_app 5 hy8_2 (s_own 6) fun A8_2 k8_2 => ?_)
      refine p 1 ?_
      refine rend ?_
      refine c_seq ?_
      refine c_seq ?_
      refine r_start ?_
      refine p 2 ?_
      refine xq rfl (y_load (.agg (eMove s1.Main.Move).toArray) 2 g1_4 11) ?_
      refine p 2 ?_
      refine xq rfl (y_load (.agg (eMove s2.Main.Move).toArray) 3 g1_5 11) ?_
      refine p 1 ?_
      refine rend ?_
      refine c_or (!qMove s1.Main.Move s2.Main.Move) (fun q30 => ?_) (fun q30 => ?_)
      · replace h := H.t q30 h
        refine r_start ?_
        refine p 1 ?_
        refine xx rfl (e_lit (e := (eI .i64)) (el := 3) [.int .i64 3] ([3] : List Int) fun A10_1 k10_1 => ?_)
        obtain ⟨y10_2, hy10_2, h⟩ := H.call h
        refine xx rfl (e_app 5 hy10_2 (s_own 7) fun A10_2 k10_2 => ?_)
        refine p 1 ?_
        refine rend ?_
        refine c_seq ?_
        refine c_seq ?_
        refine r_start ?_
        refine p 1 ?_
        refine xq rfl (y_load (.bool s1.Two) 2 g1_4 13) ?_
        refine p 1 ?_
        refine xq rfl (y_load (.bool s2.Two) 3 g1_5 13) ?_
        refine p 2 ?_
        refine br (!(s1.Two == s2.Two)) (fun q31 => ?_) (fun q31 => ?_)
        · replace h := H.t q31 h
          refine o_set 57 (congrArg Value.bool q31) ?_
          refine p 6 ?_
          refine rend ?_
          refine c_t (by kernel_rfl) ?_
          refine r_start ?_
          refine p 1 ?_
          refine xx rfl (e_lit (e := (eI .i64)) (el := 3) [.int .i64 4] ([4] : List Int) fun A12_1 k12_1 => ?_)
          obtain ⟨y12_2, hy12_2, h⟩ := H.call h
          refine xx rfl (e_app 5 hy12_2 (s_own 8) fun A12_2 k12_2 => ?_)
          refine p 1 ?_
          refine rend ?_
          refine c_seq ?_
          refine r_start ?_
          refine p 2 ?_
          refine rend ?_
          refine frg (fun u => (jk u 0 4 (.slice A12_2 (List.length y12_2) k12_2 :: (jk u 5 63 [])))) (by kernel_rfl) fun u => ?_
          refine keep 9 (its' := [box g0_0 37 (eSign a0), box g0_1 37 (eSign a1), box g1_4 37 (eSign s1), box g1_5 37 (eSign s2), rowT (eI .i64) w.heap.size 3 (.slice A6_1 (List.length ([1] : List Int)) k6_1) ([1] : List Int), rowT (eI .i64) w.heap.size 3 (.slice A12_2 (List.length y12_2) k12_2) y12_2, rowT (eI .i64) w.heap.size 3 (.slice A8_1 (List.length ([2] : List Int)) k8_1) ([2] : List Int), rowT (eI .i64) w.heap.size 3 (.slice A10_1 (List.length ([3] : List Int)) k10_1) ([3] : List Int), rowT (eI .i64) w.heap.size 3 (.slice A12_1 (List.length ([4] : List Int)) k12_1) ([4] : List Int)]) (by kernel_rfl) ?_
          replace h := H.done h
          subst h
          exact ret func146 rfl (vs := [.slice A12_2 (List.length y12_2) k12_2]) (.tmp (by kernel_rfl) .nil) rfl (fun W S => ⟨_, _, rfl, S.row 5, S.below⟩)
        replace h := H.f q31 h
        refine o_set 57 (congrArg Value.bool q31) ?_
        refine p 1 ?_
        refine xq rfl (y_load (.agg (eHand s1.Other).toArray) 2 g1_4 14) ?_
        refine p 1 ?_
        refine xq rfl (y_load (.agg (eHand s2.Other).toArray) 3 g1_5 14) ?_
        refine p 2 ?_
        refine rend ?_
        refine c_or (!qHand s1.Other s2.Other) (fun q32 => ?_) (fun q32 => ?_)
        · replace h := H.t q32 h
          refine r_start ?_
          refine p 1 ?_
          refine xx rfl (e_lit (e := (eI .i64)) (el := 3) [.int .i64 4] ([4] : List Int) fun A12_1 k12_1 => ?_)
          obtain ⟨y12_2, hy12_2, h⟩ := H.call h
          refine xx rfl (e_app 5 hy12_2 (s_own 8) fun A12_2 k12_2 => ?_)
          refine p 1 ?_
          refine rend ?_
          refine c_seq ?_
          refine r_start ?_
          refine p 2 ?_
          refine rend ?_
          refine frg (fun u => (jk u 0 4 (.slice A12_2 (List.length y12_2) k12_2 :: (jk u 5 63 [])))) (by kernel_rfl) fun u => ?_
          refine keep 9 (its' := [box g0_0 37 (eSign a0), box g0_1 37 (eSign a1), box g1_4 37 (eSign s1), box g1_5 37 (eSign s2), rowT (eI .i64) w.heap.size 3 (.slice A6_1 (List.length ([1] : List Int)) k6_1) ([1] : List Int), rowT (eI .i64) w.heap.size 3 (.slice A12_2 (List.length y12_2) k12_2) y12_2, rowT (eI .i64) w.heap.size 3 (.slice A8_1 (List.length ([2] : List Int)) k8_1) ([2] : List Int), rowT (eI .i64) w.heap.size 3 (.slice A10_1 (List.length ([3] : List Int)) k10_1) ([3] : List Int), rowT (eI .i64) w.heap.size 3 (.slice A12_1 (List.length ([4] : List Int)) k12_1) ([4] : List Int)]) (by kernel_rfl) ?_
          replace h := H.done h
          subst h
          exact ret func146 rfl (vs := [.slice A12_2 (List.length y12_2) k12_2]) (.tmp (by kernel_rfl) .nil) rfl (fun W S => ⟨_, _, rfl, S.row 5, S.below⟩)
        replace h := H.f q32 h
        refine c_skip ?_
        refine c_seq ?_
        refine r_start ?_
        refine p 2 ?_
        refine rend ?_
        replace h := H.done h
        subst h
        exact ret func146 rfl (vs := [.slice A10_2 (List.length y10_2) k10_2]) (.tmp (by kernel_rfl) .nil) rfl (fun W S => ⟨_, _, rfl, S.row 5, S.below⟩)
      replace h := H.f q30 h
      refine c_skip ?_
      refine c_seq ?_
      refine c_seq ?_
      refine r_start ?_
      refine p 1 ?_
      refine xq rfl (y_load (.bool s1.Two) 2 g1_4 13) ?_
      refine p 1 ?_
      refine xq rfl (y_load (.bool s2.Two) 3 g1_5 13) ?_
      refine p 2 ?_
      refine br (!(s1.Two == s2.Two)) (fun q33 => ?_) (fun q33 => ?_)
      · replace h := H.t q33 h
        refine o_set 57 (congrArg Value.bool q33) ?_
        refine p 6 ?_
        refine rend ?_
        refine c_t (by kernel_rfl) ?_
        refine r_start ?_
        refine p 1 ?_
        refine xx rfl (e_lit (e := (eI .i64)) (el := 3) [.int .i64 4] ([4] : List Int) fun A12_1 k12_1 => ?_)
        obtain ⟨y12_2, hy12_2, h⟩ := H.call h
        refine xx rfl (e_app 5 hy12_2 (s_own 7) fun A12_2 k12_2 => ?_)
        refine p 1 ?_
        refine rend ?_
        refine c_seq ?_
        refine r_start ?_
        refine p 2 ?_
        refine rend ?_
        replace h := H.done h
        subst h
        exact ret func146 rfl (vs := [.slice A12_2 (List.length y12_2) k12_2]) (.tmp (by kernel_rfl) .nil) rfl (fun W S => ⟨_, _, rfl, S.row 5, S.below⟩)
      replace h := H.f q33 h
      refine o_set 57 (congrArg Value.bool q33) ?_
      refine p 1 ?_
      refine xq rfl (y_load (.agg (eHand s1.Other).toArray) 2 g1_4 14) ?_
      refine p 1 ?_
      refine xq rfl (y_load (.agg (eHand s2.Other).toArray) 3 g1_5 14) ?_
      refine p 2 ?_
      refine rend ?_
      refine c_or (!qHand s1.Other s2.Other) (fun q34 => ?_) (fun q34 => ?_)
      · replace h := H.t q34 h
        refine r_start ?_
        refine p 1 ?_
        refine xx rfl (e_lit (e := (eI .i64)) (el := 3) [.int .i64 4] ([4] : List Int) fun A12_1 k12_1 => ?_)
        obtain ⟨y12_2, hy12_2, h⟩ := H.call h
        refine xx rfl (e_app 5 hy12_2 (s_own 7) fun A12_2 k12_2 => ?_)
        refine p 1 ?_
        refine rend ?_
        refine c_seq ?_
        refine r_start ?_
        refine p 2 ?_
        refine rend ?_
        replace h := H.done h
        subst h
        exact ret func146 rfl (vs := [.slice A12_2 (List.length y12_2) k12_2]) (.tmp (by kernel_rfl) .nil) rfl (fun W S => ⟨_, _, rfl, S.row 5, S.below⟩)
      replace h := H.f q34 h
      refine c_skip ?_
      refine c_seq ?_
      refine r_start ?_
      refine p 2 ?_
      refine rend ?_
      replace h := H.done h
      subst h
      exact ret func146 rfl (vs := [.slice A8_2 (List.length y8_2) k8_2]) (.tmp (by kernel_rfl) .nil) rfl (fun W S => ⟨_, _, rfl, S.row 5, S.below⟩)
    replace h := H.f q29 h
    refine c_skip ?_
    refine c_seq ?_
    refine c_seq ?_
    refine r_start ?_
    refine p 2 ?_
    refine xq rfl (y_load (.agg (eMove s1.Main.Move).toArray) 2 g1_4 11) ?_
    refine p 2 ?_
    refine xq rfl (y_load (.agg (eMove s2.Main.Move).toArray) 3 g1_5 11) ?_
    refine p 1 ?_
    refine rend ?_
    refine c_or (!qMove s1.Main.Move s2.Main.Move) (fun q35 => ?_) (fun q35 => ?_)
    · replace h := H.t q35 h
      refine r_start ?_
      refine p 1 ?_
      refine xx rfl (e_lit (e := (eI .i64)) (el := 3) [.int .i64 3] ([3] : List Int) fun A10_1 k10_1 => ?_)
      obtain ⟨y10_2, hy10_2, h⟩ := H.call h
      refine xx rfl (e_app 5 hy10_2 (s_own 6) fun A10_2 k10_2 => ?_)
      refine p 1 ?_
      refine rend ?_
      refine c_seq ?_
      refine c_seq ?_
      refine r_start ?_
      refine p 1 ?_
      refine xq rfl (y_load (.bool s1.Two) 2 g1_4 13) ?_
      refine p 1 ?_
      refine xq rfl (y_load (.bool s2.Two) 3 g1_5 13) ?_
      refine p 2 ?_
      refine br (!(s1.Two == s2.Two)) (fun q36 => ?_) (fun q36 => ?_)
      · replace h := H.t q36 h
        refine o_set 57 (congrArg Value.bool q36) ?_
        refine p 6 ?_
        refine rend ?_
        refine c_t (by kernel_rfl) ?_
        refine r_start ?_
        refine p 1 ?_
        refine xx rfl (e_lit (e := (eI .i64)) (el := 3) [.int .i64 4] ([4] : List Int) fun A12_1 k12_1 => ?_)
        obtain ⟨y12_2, hy12_2, h⟩ := H.call h
        refine xx rfl (e_app 5 hy12_2 (s_own 7) fun A12_2 k12_2 => ?_)
        refine p 1 ?_
        refine rend ?_
        refine c_seq ?_
        refine r_start ?_
        refine p 2 ?_
        refine rend ?_
        replace h := H.done h
        subst h
        exact ret func146 rfl (vs := [.slice A12_2 (List.length y12_2) k12_2]) (.tmp (by kernel_rfl) .nil) rfl (fun W S => ⟨_, _, rfl, S.row 5, S.below⟩)
      replace h := H.f q36 h
      refine o_set 57 (congrArg Value.bool q36) ?_
      refine p 1 ?_
      refine xq rfl (y_load (.agg (eHand s1.Other).toArray) 2 g1_4 14) ?_
      refine p 1 ?_
      refine xq rfl (y_load (.agg (eHand s2.Other).toArray) 3 g1_5 14) ?_
      refine p 2 ?_
      refine rend ?_
      refine c_or (!qHand s1.Other s2.Other) (fun q37 => ?_) (fun q37 => ?_)
      · replace h := H.t q37 h
        refine r_start ?_
        refine p 1 ?_
        refine xx rfl (e_lit (e := (eI .i64)) (el := 3) [.int .i64 4] ([4] : List Int) fun A12_1 k12_1 => ?_)
        obtain ⟨y12_2, hy12_2, h⟩ := H.call h
        refine xx rfl (e_app 5 hy12_2 (s_own 7) fun A12_2 k12_2 => ?_)
        refine p 1 ?_
        refine rend ?_
        refine c_seq ?_
        refine r_start ?_
        refine p 2 ?_
        refine rend ?_
        replace h := H.done h
        subst h
        exact ret func146 rfl (vs := [.slice A12_2 (List.length y12_2) k12_2]) (.tmp (by kernel_rfl) .nil) rfl (fun W S => ⟨_, _, rfl, S.row 5, S.below⟩)
      replace h := H.f q37 h
      refine c_skip ?_
      refine c_seq ?_
      refine r_start ?_
      refine p 2 ?_
      refine rend ?_
      replace h := H.done h
      subst h
      exact ret func146 rfl (vs := [.slice A10_2 (List.length y10_2) k10_2]) (.tmp (by kernel_rfl) .nil) rfl (fun W S => ⟨_, _, rfl, S.row 5, S.below⟩)
    replace h := H.f q35 h
    refine c_skip ?_
    refine c_seq ?_
    refine c_seq ?_
    refine r_start ?_
    refine p 1 ?_
    refine xq rfl (y_load (.bool s1.Two) 2 g1_4 13) ?_
    refine p 1 ?_
    refine xq rfl (y_load (.bool s2.Two) 3 g1_5 13) ?_
    refine p 2 ?_
    refine br (!(s1.Two == s2.Two)) (fun q38 => ?_) (fun q38 => ?_)
    · replace h := H.t q38 h
      refine o_set 57 (congrArg Value.bool q38) ?_
      refine p 6 ?_
      refine rend ?_
      refine c_t (by kernel_rfl) ?_
      refine r_start ?_
      refine p 1 ?_
      refine xx rfl (e_lit (e := (eI .i64)) (el := 3) [.int .i64 4] ([4] : List Int) fun A12_1 k12_1 => ?_)
      obtain ⟨y12_2, hy12_2, h⟩ := H.call h
      refine xx rfl (e_app 5 hy12_2 (s_own 6) fun A12_2 k12_2 => ?_)
      refine p 1 ?_
      refine rend ?_
      refine c_seq ?_
      refine r_start ?_
      refine p 2 ?_
      refine rend ?_
      replace h := H.done h
      subst h
      exact ret func146 rfl (vs := [.slice A12_2 (List.length y12_2) k12_2]) (.tmp (by kernel_rfl) .nil) rfl (fun W S => ⟨_, _, rfl, S.row 5, S.below⟩)
    replace h := H.f q38 h
    refine o_set 57 (congrArg Value.bool q38) ?_
    refine p 1 ?_
    refine xq rfl (y_load (.agg (eHand s1.Other).toArray) 2 g1_4 14) ?_
    refine p 1 ?_
    refine xq rfl (y_load (.agg (eHand s2.Other).toArray) 3 g1_5 14) ?_
    refine p 2 ?_
    refine rend ?_
    refine c_or (!qHand s1.Other s2.Other) (fun q39 => ?_) (fun q39 => ?_)
    · replace h := H.t q39 h
      refine r_start ?_
      refine p 1 ?_
      refine xx rfl (e_lit (e := (eI .i64)) (el := 3) [.int .i64 4] ([4] : List Int) fun A12_1 k12_1 => ?_)
      obtain ⟨y12_2, hy12_2, h⟩ := H.call h
      refine xx rfl (e_app 5 hy12_2 (s_own 6) fun A12_2 k12_2 => ?_)
      refine p 1 ?_
      refine rend ?_
      refine c_seq ?_
      refine r_start ?_
      refine p 2 ?_
      refine rend ?_
      replace h := H.done h
      subst h
      exact ret func146 rfl (vs := [.slice A12_2 (List.length y12_2) k12_2]) (.tmp (by kernel_rfl) .nil) rfl (fun W S => ⟨_, _, rfl, S.row 5, S.below⟩)
    replace h := H.f q39 h
    refine c_skip ?_
    refine c_seq ?_
    refine r_start ?_
    refine p 2 ?_
    refine rend ?_
    replace h := H.done h
    subst h
    exact ret func146 rfl (vs := [.slice A6_2 (List.length y6_2) k6_2]) (.tmp (by kernel_rfl) .nil) rfl (fun W S => ⟨_, _, rfl, S.row 5, S.below⟩)
  replace h := H.f q28 h
  refine c_skip ?_
  refine c_seq ?_
  refine c_seq ?_
  refine r_start ?_
  refine p 2 ?_
  refine xq rfl (y_load (.agg (ePlace s1.Main.Place).toArray) 2 g1_4 8) ?_
  refine p 2 ?_
  refine xq rfl (y_load (.agg (ePlace s2.Main.Place).toArray) 3 g1_5 8) ?_
  refine p 1 ?_
  refine rend ?_
  refine c_or (!qPlace s1.Main.Place s2.Main.Place) (fun q40 => ?_) (fun q40 => ?_)
  · replace h := H.t q40 h
    refine r_start ?_
    refine p 1 ?_
    refine xx rfl (e_lit (e := (eI .i64)) (el := 3) [.int .i64 2] ([2] : List Int) fun A8_1 k8_1 => ?_)
    refine o_nil (eI .i64) 3 ?_
    obtain ⟨y8_2, hy8_2, h⟩ := H.call h
    refine xx rfl (e_app 5 hy8_2 (s_own 4) fun A8_2 k8_2 => ?_)
    refine p 1 ?_
    refine rend ?_
    refine c_seq ?_
    refine c_seq ?_
    refine r_start ?_
    refine p 2 ?_
    refine xq rfl (y_load (.agg (eMove s1.Main.Move).toArray) 2 g1_4 11) ?_
    refine p 2 ?_
    refine xq rfl (y_load (.agg (eMove s2.Main.Move).toArray) 3 g1_5 11) ?_
    refine p 1 ?_
    refine rend ?_
    refine c_or (!qMove s1.Main.Move s2.Main.Move) (fun q41 => ?_) (fun q41 => ?_)
    · replace h := H.t q41 h
      refine r_start ?_
      refine p 1 ?_
      refine xx rfl (e_lit (e := (eI .i64)) (el := 3) [.int .i64 3] ([3] : List Int) fun A10_1 k10_1 => ?_)
      obtain ⟨y10_2, hy10_2, h⟩ := H.call h
      refine xx rfl (e_app 5 hy10_2 (s_own 6) fun A10_2 k10_2 => ?_)
      refine p 1 ?_
      refine rend ?_
      refine c_seq ?_
      refine c_seq ?_
      refine r_start ?_
      refine p 1 ?_
      refine xq rfl (y_load (.bool s1.Two) 2 g1_4 13) ?_
      refine p 1 ?_
      refine xq rfl (y_load (.bool s2.Two) 3 g1_5 13) ?_
      refine p 2 ?_
      refine br (!(s1.Two == s2.Two)) (fun q42 => ?_) (fun q42 => ?_)
      · replace h := H.t q42 h
        refine o_set 57 (congrArg Value.bool q42) ?_
        refine p 6 ?_
        refine rend ?_
        refine c_t (by kernel_rfl) ?_
        refine r_start ?_
        refine p 1 ?_
        refine xx rfl (e_lit (e := (eI .i64)) (el := 3) [.int .i64 4] ([4] : List Int) fun A12_1 k12_1 => ?_)
        obtain ⟨y12_2, hy12_2, h⟩ := H.call h
        refine xx rfl (e_app 5 hy12_2 (s_own 7) fun A12_2 k12_2 => ?_)
        refine p 1 ?_
        refine rend ?_
        refine c_seq ?_
        refine r_start ?_
        refine p 2 ?_
        refine rend ?_
        replace h := H.done h
        subst h
        exact ret func146 rfl (vs := [.slice A12_2 (List.length y12_2) k12_2]) (.tmp (by kernel_rfl) .nil) rfl (fun W S => ⟨_, _, rfl, S.row 5, S.below⟩)
      replace h := H.f q42 h
      refine o_set 57 (congrArg Value.bool q42) ?_
      refine p 1 ?_
      refine xq rfl (y_load (.agg (eHand s1.Other).toArray) 2 g1_4 14) ?_
      refine p 1 ?_
      refine xq rfl (y_load (.agg (eHand s2.Other).toArray) 3 g1_5 14) ?_
      refine p 2 ?_
      refine rend ?_
      refine c_or (!qHand s1.Other s2.Other) (fun q43 => ?_) (fun q43 => ?_)
      · replace h := H.t q43 h
        refine r_start ?_
        refine p 1 ?_
        refine xx rfl (e_lit (e := (eI .i64)) (el := 3) [.int .i64 4] ([4] : List Int) fun A12_1 k12_1 => ?_)
        obtain ⟨y12_2, hy12_2, h⟩ := H.call h
        refine xx rfl (e_app 5 hy12_2 (s_own 7) fun A12_2 k12_2 => ?_)
        refine p 1 ?_
        refine rend ?_
        refine c_seq ?_
        refine r_start ?_
        refine p 2 ?_
        refine rend ?_
        replace h := H.done h
        subst h
        exact ret func146 rfl (vs := [.slice A12_2 (List.length y12_2) k12_2]) (.tmp (by kernel_rfl) .nil) rfl (fun W S => ⟨_, _, rfl, S.row 5, S.below⟩)
      replace h := H.f q43 h
      refine c_skip ?_
      refine c_seq ?_
      refine r_start ?_
      refine p 2 ?_
      refine rend ?_
      replace h := H.done h
      subst h
      exact ret func146 rfl (vs := [.slice A10_2 (List.length y10_2) k10_2]) (.tmp (by kernel_rfl) .nil) rfl (fun W S => ⟨_, _, rfl, S.row 5, S.below⟩)
    replace h := H.f q41 h
    refine c_skip ?_
    refine c_seq ?_
    refine c_seq ?_
    refine r_start ?_
    refine p 1 ?_
    refine xq rfl (y_load (.bool s1.Two) 2 g1_4 13) ?_
    refine p 1 ?_
    refine xq rfl (y_load (.bool s2.Two) 3 g1_5 13) ?_
    refine p 2 ?_
    refine br (!(s1.Two == s2.Two)) (fun q44 => ?_) (fun q44 => ?_)
    · replace h := H.t q44 h
      refine o_set 57 (congrArg Value.bool q44) ?_
      refine p 6 ?_
      refine rend ?_
      refine c_t (by kernel_rfl) ?_
      refine r_start ?_
      refine p 1 ?_
      refine xx rfl (e_lit (e := (eI .i64)) (el := 3) [.int .i64 4] ([4] : List Int) fun A12_1 k12_1 => ?_)
      obtain ⟨y12_2, hy12_2, h⟩ := H.call h
      refine xx rfl (e_app 5 hy12_2 (s_own 6) fun A12_2 k12_2 => ?_)
      refine p 1 ?_
      refine rend ?_
      refine c_seq ?_
      refine r_start ?_
      refine p 2 ?_
      refine rend ?_
      replace h := H.done h
      subst h
      exact ret func146 rfl (vs := [.slice A12_2 (List.length y12_2) k12_2]) (.tmp (by kernel_rfl) .nil) rfl (fun W S => ⟨_, _, rfl, S.row 5, S.below⟩)
    replace h := H.f q44 h
    refine o_set 57 (congrArg Value.bool q44) ?_
    refine p 1 ?_
    refine xq rfl (y_load (.agg (eHand s1.Other).toArray) 2 g1_4 14) ?_
    refine p 1 ?_
    refine xq rfl (y_load (.agg (eHand s2.Other).toArray) 3 g1_5 14) ?_
    refine p 2 ?_
    refine rend ?_
    refine c_or (!qHand s1.Other s2.Other) (fun q45 => ?_) (fun q45 => ?_)
    · replace h := H.t q45 h
      refine r_start ?_
      refine p 1 ?_
      refine xx rfl (e_lit (e := (eI .i64)) (el := 3) [.int .i64 4] ([4] : List Int) fun A12_1 k12_1 => ?_)
      obtain ⟨y12_2, hy12_2, h⟩ := H.call h
      refine xx rfl (e_app 5 hy12_2 (s_own 6) fun A12_2 k12_2 => ?_)
      refine p 1 ?_
      refine rend ?_
      refine c_seq ?_
      refine r_start ?_
      refine p 2 ?_
      refine rend ?_
      replace h := H.done h
      subst h
      exact ret func146 rfl (vs := [.slice A12_2 (List.length y12_2) k12_2]) (.tmp (by kernel_rfl) .nil) rfl (fun W S => ⟨_, _, rfl, S.row 5, S.below⟩)
    replace h := H.f q45 h
    refine c_skip ?_
    refine c_seq ?_
    refine r_start ?_
    refine p 2 ?_
    refine rend ?_
    replace h := H.done h
    subst h
    exact ret func146 rfl (vs := [.slice A8_2 (List.length y8_2) k8_2]) (.tmp (by kernel_rfl) .nil) rfl (fun W S => ⟨_, _, rfl, S.row 5, S.below⟩)
  replace h := H.f q40 h
  refine c_skip ?_
  refine c_seq ?_
  refine c_seq ?_
  refine r_start ?_
  refine p 2 ?_
  refine xq rfl (y_load (.agg (eMove s1.Main.Move).toArray) 2 g1_4 11) ?_
  refine p 2 ?_
  refine xq rfl (y_load (.agg (eMove s2.Main.Move).toArray) 3 g1_5 11) ?_
  refine p 1 ?_
  refine rend ?_
  refine c_or (!qMove s1.Main.Move s2.Main.Move) (fun q46 => ?_) (fun q46 => ?_)
  · replace h := H.t q46 h
    refine r_start ?_
    refine p 1 ?_
    refine xx rfl (e_lit (e := (eI .i64)) (el := 3) [.int .i64 3] ([3] : List Int) fun A10_1 k10_1 => ?_)
    refine o_nil (eI .i64) 3 ?_
    obtain ⟨y10_2, hy10_2, h⟩ := H.call h
    refine xx rfl (e_app 5 hy10_2 (s_own 4) fun A10_2 k10_2 => ?_)
    refine p 1 ?_
    refine rend ?_
    refine c_seq ?_
    refine c_seq ?_
    refine r_start ?_
    refine p 1 ?_
    refine xq rfl (y_load (.bool s1.Two) 2 g1_4 13) ?_
    refine p 1 ?_
    refine xq rfl (y_load (.bool s2.Two) 3 g1_5 13) ?_
    refine p 2 ?_
    refine br (!(s1.Two == s2.Two)) (fun q47 => ?_) (fun q47 => ?_)
    · replace h := H.t q47 h
      refine o_set 57 (congrArg Value.bool q47) ?_
      refine p 6 ?_
      refine rend ?_
      refine c_t (by kernel_rfl) ?_
      refine r_start ?_
      refine p 1 ?_
      refine xx rfl (e_lit (e := (eI .i64)) (el := 3) [.int .i64 4] ([4] : List Int) fun A12_1 k12_1 => ?_)
      obtain ⟨y12_2, hy12_2, h⟩ := H.call h
      refine xx rfl (e_app 5 hy12_2 (s_own 6) fun A12_2 k12_2 => ?_)
      refine p 1 ?_
      refine rend ?_
      refine c_seq ?_
      refine r_start ?_
      refine p 2 ?_
      refine rend ?_
      replace h := H.done h
      subst h
      exact ret func146 rfl (vs := [.slice A12_2 (List.length y12_2) k12_2]) (.tmp (by kernel_rfl) .nil) rfl (fun W S => ⟨_, _, rfl, S.row 5, S.below⟩)
    replace h := H.f q47 h
    refine o_set 57 (congrArg Value.bool q47) ?_
    refine p 1 ?_
    refine xq rfl (y_load (.agg (eHand s1.Other).toArray) 2 g1_4 14) ?_
    refine p 1 ?_
    refine xq rfl (y_load (.agg (eHand s2.Other).toArray) 3 g1_5 14) ?_
    refine p 2 ?_
    refine rend ?_
    refine c_or (!qHand s1.Other s2.Other) (fun q48 => ?_) (fun q48 => ?_)
    · replace h := H.t q48 h
      refine r_start ?_
      refine p 1 ?_
      refine xx rfl (e_lit (e := (eI .i64)) (el := 3) [.int .i64 4] ([4] : List Int) fun A12_1 k12_1 => ?_)
      obtain ⟨y12_2, hy12_2, h⟩ := H.call h
      refine xx rfl (e_app 5 hy12_2 (s_own 6) fun A12_2 k12_2 => ?_)
      refine p 1 ?_
      refine rend ?_
      refine c_seq ?_
      refine r_start ?_
      refine p 2 ?_
      refine rend ?_
      replace h := H.done h
      subst h
      exact ret func146 rfl (vs := [.slice A12_2 (List.length y12_2) k12_2]) (.tmp (by kernel_rfl) .nil) rfl (fun W S => ⟨_, _, rfl, S.row 5, S.below⟩)
    replace h := H.f q48 h
    refine c_skip ?_
    refine c_seq ?_
    refine r_start ?_
    refine p 2 ?_
    refine rend ?_
    replace h := H.done h
    subst h
    exact ret func146 rfl (vs := [.slice A10_2 (List.length y10_2) k10_2]) (.tmp (by kernel_rfl) .nil) rfl (fun W S => ⟨_, _, rfl, S.row 5, S.below⟩)
  replace h := H.f q46 h
  refine c_skip ?_
  refine c_seq ?_
  refine c_seq ?_
  refine r_start ?_
  refine p 1 ?_
  refine xq rfl (y_load (.bool s1.Two) 2 g1_4 13) ?_
  refine p 1 ?_
  refine xq rfl (y_load (.bool s2.Two) 3 g1_5 13) ?_
  refine p 2 ?_
  refine br (!(s1.Two == s2.Two)) (fun q49 => ?_) (fun q49 => ?_)
  · replace h := H.t q49 h
    refine o_set 57 (congrArg Value.bool q49) ?_
    refine p 6 ?_
    refine rend ?_
    refine c_t (by kernel_rfl) ?_
    refine r_start ?_
    refine p 1 ?_
    refine xx rfl (e_lit (e := (eI .i64)) (el := 3) [.int .i64 4] ([4] : List Int) fun A12_1 k12_1 => ?_)
    refine o_nil (eI .i64) 3 ?_
    obtain ⟨y12_2, hy12_2, h⟩ := H.call h
    refine xx rfl (e_app 5 hy12_2 (s_own 4) fun A12_2 k12_2 => ?_)
    refine p 1 ?_
    refine rend ?_
    refine c_seq ?_
    refine r_start ?_
    refine p 2 ?_
    refine rend ?_
    replace h := H.done h
    subst h
    exact ret func146 rfl (vs := [.slice A12_2 (List.length y12_2) k12_2]) (.tmp (by kernel_rfl) .nil) rfl (fun W S => ⟨_, _, rfl, S.row 5, S.below⟩)
  replace h := H.f q49 h
  refine o_set 57 (congrArg Value.bool q49) ?_
  refine p 1 ?_
  refine xq rfl (y_load (.agg (eHand s1.Other).toArray) 2 g1_4 14) ?_
  refine p 1 ?_
  refine xq rfl (y_load (.agg (eHand s2.Other).toArray) 3 g1_5 14) ?_
  refine p 2 ?_
  refine rend ?_
  refine c_or (!qHand s1.Other s2.Other) (fun q50 => ?_) (fun q50 => ?_)
  · replace h := H.t q50 h
    refine r_start ?_
    refine p 1 ?_
    refine xx rfl (e_lit (e := (eI .i64)) (el := 3) [.int .i64 4] ([4] : List Int) fun A12_1 k12_1 => ?_)
    refine o_nil (eI .i64) 3 ?_
    obtain ⟨y12_2, hy12_2, h⟩ := H.call h
    refine xx rfl (e_app 5 hy12_2 (s_own 4) fun A12_2 k12_2 => ?_)
    refine p 1 ?_
    refine rend ?_
    refine c_seq ?_
    refine r_start ?_
    refine p 2 ?_
    refine rend ?_
    replace h := H.done h
    subst h
    exact ret func146 rfl (vs := [.slice A12_2 (List.length y12_2) k12_2]) (.tmp (by kernel_rfl) .nil) rfl (fun W S => ⟨_, _, rfl, S.row 5, S.below⟩)
  replace h := H.f q50 h
  refine c_skip ?_
  refine c_seq ?_
  refine r_start ?_
  refine p 2 ?_
  refine rend ?_
  replace h := H.done h
  subst h
  exact ret func146 rfl (vs := [.slice none 0 0]) (.tmp (by kernel_rfl) .nil) rfl (fun W S => ⟨none, 0, rfl, World.ownsRow_nil _ _ _ _, S.below⟩)
theorem C.s_prPairs {fu : Nat} {a0 : (List Sign)} {A0 : Option Addr} {k0 : Nat} {a1 : Int} {r : (List (List Int))} (w : World) (h : X.s_prPairs fu a0 a1 = some r) (h0 : RdT nSign w (.slice A0 (List.length a0) k0) a0) : Calls prog 136 #[.slice A0 (List.length a0) k0, .int .i64 a1] w (RetD (eI .i64) 69 3 w r (fun v => v)) := by
  refine calls (M := no) (args := [.slice A0 (List.length a0) k0, .int .i64 a1]) func136 rfl ?_
  replace h : H (X.s_prPairs fu a0 a1) (fun o => o = r) := H.mk h
  unfold X.s_prPairs at h
  refine c_seq ?_
  refine r_start ?_
  refine p 1 ?_
  refine rend ?_
  refine c_seq ?_
  refine r_start ?_
  refine p 1 ?_
  refine rend ?_
  refine c_seq ?_
  refine c_seq ?_
  refine r_start ?_
  refine p 3 ?_
  refine rend ?_
  refine c_block ?_
  refine c_nil eSl 69 ?_
  refine c_inn (eI .i64) 3 ?_
  refine joinH (X := ((List (List Int)) × List Sl × Option Addr × Nat)) 0 (H.bnd h) (fun ⟨l8, u5, A6, k7⟩ => l8) (fun ⟨l8, u5, A6, k7⟩ => [rowT eSl w.heap.size 69 (.slice A6 (List.length u5) k7) u5, inns (eI .i64) w.heap.size 3 u5 l8]) (fun ⟨l8, u5, A6, k7⟩ u => (jk u 0 5 (.slice A6 (List.length u5) k7 :: (jk u 6 47 [])))) (fun h hj9 => ?_) ?_
  · skip
    refine rangeR (X := ((List (List Int)) × List Sl × Option Addr × Nat)) (s_arg h0) (fun ⟨l4, u1, A2, k3⟩ => l4) (fun ⟨l4, u1, A2, k3⟩ => [rowT eSl w.heap.size 69 (.slice A2 (List.length u1) k3) u1, inns (eI .i64) w.heap.size 3 u1 l4]) (fun (j10 : Nat) ⟨l4, u1, A2, k3⟩ u => (.slice A0 (List.length a0) k0 :: .int .i64 a1 :: (jk u 2 3 (.slice A2 (List.length u1) k3 :: (jk u 6 4 (.int .i64 (List.length a0 : Int) :: .int .i64 (j10 : Int) :: (jk u 12 41 []))))))) (([] : List (List Int)), ([] : List Sl), none, 0) h (by kernel_rfl) (by kernel_rfl) ?_ ?_
    · intro j10 x u x11 q12 hg13 hw14 h
      obtain ⟨l4, u1, A2, k3⟩ := x
      refine c_seq ?_
      refine r_start ?_
      refine p 1 ?_
      refine rend ?_
      refine c_seq ?_
      refine c_yes q12 ?_
      refine c_skip ?_
      refine c_seq ?_
      refine c_block ?_
      refine c_seq ?_
      refine r_start ?_
      refine p 2 ?_
      refine rend ?_
      refine c_seq ?_
      refine r_start ?_
      refine p 3 ?_
      refine rend ?_
      refine c_block ?_
      refine joinH (X := ((List (List Int)) × List Sl × Option Addr × Nat)) 2 (H.bnd h) (fun ⟨l23, u20, A21, k22⟩ => l23) (fun ⟨l23, u20, A21, k22⟩ => [rowT eSl w.heap.size 69 (.slice A21 (List.length u20) k22) u20, inns (eI .i64) w.heap.size 3 u20 l23]) (fun ⟨l23, u20, A21, k22⟩ u => (.slice A0 (List.length a0) k0 :: .int .i64 a1 :: (jk u 2 3 (.slice A21 (List.length u20) k22 :: (jk u 6 4 (.int .i64 (List.length a0 : Int) :: .int .i64 (j10 : Int) :: (jk u 12 41 []))))))) (fun h hj24 => ?_) ?_
      · skip
        refine loopR (X := (Int × (List (List Int)) × List Sl × Option Addr × Nat)) (fun ⟨n15, l19, u16, A17, k18⟩ => (n15, l19)) (fun ⟨n15, l19, u16, A17, k18⟩ => [rowT eSl w.heap.size 69 (.slice A17 (List.length u16) k18) u16, inns (eI .i64) w.heap.size 3 u16 l19]) (fun ⟨n15, l19, u16, A17, k18⟩ u => (.slice A0 (List.length a0) k0 :: .int .i64 a1 :: (jk u 2 3 (.slice A17 (List.length u16) k18 :: .int .i64 (j10 : Int) :: .int .i64 n15 :: (jk u 8 2 (.int .i64 (List.length a0 : Int) :: .int .i64 (j10 : Int) :: (jk u 12 41 []))))))) ((wr ((j10 : Int) + 1)), l4, u1, A2, k3) h (by kernel_rfl) (by kernel_rfl) ?_
        intro x u h
        obtain ⟨n15, l19, u16, A17, k18⟩ := x
        refine c_seq ?_
        refine c_seq ?_
        refine r_start ?_
        refine p 4 ?_
        refine rend ?_
        refine c_or (decide (n15 < (List.length a0 : Int))) (fun q25 => ?_) (fun q25 => ?_)
        · replace h := H.t q25 h
          refine c_skip ?_
          refine c_seq ?_
          refine c_block ?_
          refine c_seq ?_
          refine as_start 10 10 ?_
          refine ap 0 2 ?_
          obtain ⟨y8_2, hy8_2, h⟩ := H.call h
          refine aq 2 rfl (y_idx (e := nSign) (el := 37) hy8_2 (s_arg h0)) ?_
          refine aq 3 rfl (y_el (e := nSign) 0 (.agg (eSign y8_2).toArray) hy8_2 (s_arg h0)) ?_
          refine ap 4 2 ?_
          obtain ⟨y8_6, hy8_6, h⟩ := H.call h
          refine aq 6 rfl (y_idx (e := nSign) (el := 37) hy8_6 (s_arg h0)) ?_
          refine aq 7 rfl (y_el (e := nSign) 0 (.agg (eSign y8_6).toArray) hy8_6 (s_arg h0)) ?_
          obtain ⟨v8_8, hv8_8, h⟩ := H.call h
          refine ax 8 rfl (e_cr [.agg (eSign y8_2).toArray, .agg (eSign y8_6).toArray] (fun v => v) func146 (fun W S => C.s_prApart W hv8_8) fun A8_8 k8_8 => ⟨.inr (by kernel_rfl), ?_⟩)
          refine ap 9 1 ?_
          refine a_done ?_
          refine c_seq ?_
          refine r_start ?_
          refine p 4 ?_
          refine br ((List.length v8_8 : Int) == 1) (fun q26 => ?_) (fun q26 => ?_)
          · replace h := H.t q26 h
            refine o_set 34 (congrArg Value.bool q26) ?_
            refine p 3 ?_
            refine br (decide (a1 < 0)) (fun q27 => ?_) (fun q27 => ?_)
            · replace h := H.t q27 h
              refine o_set 37 (congrArg Value.bool q27) ?_
              refine p 7 ?_
              refine rend ?_
              refine c_t (by kernel_rfl) ?_
              refine r_start ?_
              refine p 3 ?_
              refine xx rfl (e_lit (e := (eI .i64)) (el := 3) [.int .i64 (j10 : Int), .int .i64 n15] ([(j10 : Int), n15] : List Int) fun A10_3 k10_3 => ?_)
              refine xx rfl (e_lit (e := eSl) (el := 69) [.slice A10_3 (List.length ([(j10 : Int), n15] : List Int)) k10_3] ([⟨A10_3, List.length ([(j10 : Int), n15] : List Int), k10_3⟩] : List Sl) fun A10_4 k10_4 => ?_)
              obtain ⟨y10_5, hy10_5, h⟩ := H.call h
              refine o_fact (f_len (i_own 1)) fun hl10_5 => ?_
              obtain ⟨ha10_5, hq10_5⟩ := appD_sl (ws := ([⟨A10_3, List.length ([(j10 : Int), n15] : List Int), k10_3⟩] : List Sl)) hy10_5 hl10_5 rfl
              refine xx rfl (e_app 0 ha10_5 (s_own 4) fun A10_5 k10_5 => ?_)
              refine p 1 ?_
              refine rend ?_
              refine absorbE (e := (eI .i64)) (B := w.heap.size) (t := 3) (A := A10_3) (c := k10_3) (l := ([(j10 : Int), n15] : List Int)) (us := u16) [0, 2, 3, 1] [rowT eSl w.heap.size 69 (.slice A10_5 (List.length (u16 ++ ([⟨A10_3, List.length ([(j10 : Int), n15] : List Int), k10_3⟩] : List Sl))) k10_5) (u16 ++ ([⟨A10_3, List.length ([(j10 : Int), n15] : List Int), k10_3⟩] : List Sl)), rowT (eI .i64) w.heap.size 3 (.slice A8_8 (List.length v8_8) k8_8) v8_8] hq10_5 ?_
              refine c_inb ?_
              refine r_start ?_
              refine p 3 ?_
              refine rend ?_
              refine pick [0, 2] [rowT eSl w.heap.size 69 (.slice A10_5 (List.length (u16 ++ ([⟨A10_3, List.length ([(j10 : Int), n15] : List Int), k10_3⟩] : List Sl))) k10_5) (u16 ++ ([⟨A10_3, List.length ([(j10 : Int), n15] : List Int), k10_3⟩] : List Sl)), inns (eI .i64) w.heap.size 3 (u16 ++ ([⟨A10_3, List.length ([(j10 : Int), n15] : List Int), k10_3⟩] : List Sl)) y10_5] ?_
              replace h := H.inl h
              exact h ((wr (n15 + 1)), y10_5, (u16 ++ ([⟨A10_3, List.length ([(j10 : Int), n15] : List Int), k10_3⟩] : List Sl)), A10_5, k10_5) _ _ rfl (by kernel_rfl) (by kernel_rfl)
            replace h := H.f q27 h
            refine o_set 37 (congrArg Value.bool q27) ?_
            refine p 1 ?_
            obtain ⟨y9_8, hy9_8, h⟩ := H.call h
            refine xq rfl (y_idx (e := (eI .i64)) (el := 3) hy9_8 (s_own 2)) ?_
            refine xq rfl (y_el (e := (eI .i64)) 0 (.int .i64 y9_8) hy9_8 (s_own 2)) ?_
            refine p 4 ?_
            refine rend ?_
            refine c_or (y9_8 == a1) (fun q28 => ?_) (fun q28 => ?_)
            · replace h := H.t q28 h
              refine r_start ?_
              refine p 3 ?_
              refine xx rfl (e_lit (e := (eI .i64)) (el := 3) [.int .i64 (j10 : Int), .int .i64 n15] ([(j10 : Int), n15] : List Int) fun A10_3 k10_3 => ?_)
              refine xx rfl (e_lit (e := eSl) (el := 69) [.slice A10_3 (List.length ([(j10 : Int), n15] : List Int)) k10_3] ([⟨A10_3, List.length ([(j10 : Int), n15] : List Int), k10_3⟩] : List Sl) fun A10_4 k10_4 => ?_)
              obtain ⟨y10_5, hy10_5, h⟩ := H.call h
              refine o_fact (f_len (i_own 1)) fun hl10_5 => ?_
              obtain ⟨ha10_5, hq10_5⟩ := appD_sl (ws := ([⟨A10_3, List.length ([(j10 : Int), n15] : List Int), k10_3⟩] : List Sl)) hy10_5 hl10_5 rfl
              refine xx rfl (e_app 0 ha10_5 (s_own 4) fun A10_5 k10_5 => ?_)
              refine p 1 ?_
              refine rend ?_
              refine absorbE (e := (eI .i64)) (B := w.heap.size) (t := 3) (A := A10_3) (c := k10_3) (l := ([(j10 : Int), n15] : List Int)) (us := u16) [0, 2, 3, 1] [rowT eSl w.heap.size 69 (.slice A10_5 (List.length (u16 ++ ([⟨A10_3, List.length ([(j10 : Int), n15] : List Int), k10_3⟩] : List Sl))) k10_5) (u16 ++ ([⟨A10_3, List.length ([(j10 : Int), n15] : List Int), k10_3⟩] : List Sl)), rowT (eI .i64) w.heap.size 3 (.slice A8_8 (List.length v8_8) k8_8) v8_8] hq10_5 ?_
              refine c_inb ?_
              refine r_start ?_
              refine p 3 ?_
              refine rend ?_
              refine pick [0, 2] [rowT eSl w.heap.size 69 (.slice A10_5 (List.length (u16 ++ ([⟨A10_3, List.length ([(j10 : Int), n15] : List Int), k10_3⟩] : List Sl))) k10_5) (u16 ++ ([⟨A10_3, List.length ([(j10 : Int), n15] : List Int), k10_3⟩] : List Sl)), inns (eI .i64) w.heap.size 3 (u16 ++ ([⟨A10_3, List.length ([(j10 : Int), n15] : List Int), k10_3⟩] : List Sl)) y10_5] ?_
              replace h := H.inl h
              exact h ((wr (n15 + 1)), y10_5, (u16 ++ ([⟨A10_3, List.length ([(j10 : Int), n15] : List Int), k10_3⟩] : List Sl)), A10_5, k10_5) _ _ rfl (by kernel_rfl) (by kernel_rfl)
            replace h := H.f q28 h
            refine c_skip ?_
            refine c_inb ?_
            refine r_start ?_
            refine p 3 ?_
            refine rend ?_
            replace h := H.inl h
            exact h ((wr (n15 + 1)), l19, u16, A17, k18) _ _ rfl (by kernel_rfl) (by kernel_rfl)
          replace h := H.f q26 h
          refine o_set 34 (congrArg Value.bool q26) ?_
          refine p 10 ?_
          refine rend ?_
          refine c_f (by kernel_rfl) ?_
          refine c_skip ?_
          refine c_inb ?_
          refine r_start ?_
          refine p 3 ?_
          refine rend ?_
          replace h := H.inl h
          exact h ((wr (n15 + 1)), l19, u16, A17, k18) _ _ rfl (by kernel_rfl) (by kernel_rfl)
        replace h := H.f q25 h
        refine cx ?_
        replace h := H.inr h
        exact hj24 (l19, u16, A17, k18) _ _ h (by kernel_rfl) (by kernel_rfl)
      intro x u h
      obtain ⟨l23, u20, A21, k22⟩ := x
      refine c_inb ?_
      refine r_start ?_
      refine p 2 ?_
      refine rend ?_
      refine c_set 11 (ci hw14) ?_
      replace h := H.inl h
      exact h (l23, u20, A21, k22) _ _ rfl (by kernel_rfl) (by kernel_rfl)
    · intro x u q12 h
      obtain ⟨l4, u1, A2, k3⟩ := x
      refine c_seq ?_
      refine r_start ?_
      refine p 1 ?_
      refine rend ?_
      refine c_seq ?_
      refine c_no q12 ?_
      refine cx ?_
      replace h := H.done h
      exact hj9 (l4, u1, A2, k3) _ _ h (by kernel_rfl) (by kernel_rfl)
  intro x u h
  obtain ⟨l8, u5, A6, k7⟩ := x
  refine c_seq ?_
  refine r_start ?_
  refine p 2 ?_
  refine rend ?_
  replace h := H.done h
  subst h
  exact ret func136 rfl (vs := [.slice A6 (List.length u5) k7]) (.tmp (by kernel_rfl) .nil) rfl (fun W S => S.retD (res := fun v => v) 0 1 (by decide))
theorem C.s_MinimalPairs {fu : Nat} {a0 : (List Sign)} {A0 : Option Addr} {k0 : Nat} {r : ((List (List Int)) × Bool)} (w : World) (h : X.s_MinimalPairs fu a0 = some r) (h0 : RdT nSign w (.slice A0 (List.length a0) k0) a0) : Calls prog 53 #[.slice A0 (List.length a0) k0] w (RetD (eI .i64) 69 3 w r.1 (fun v => .tuple #[v, .bool r.2])) := by
  refine calls (M := no) (args := [.slice A0 (List.length a0) k0]) func53 rfl ?_
  replace h : H (X.s_MinimalPairs fu a0) (fun o => o = r) := H.mk h
  unfold X.s_MinimalPairs at h
  refine c_seq ?_
  refine r_start ?_
  refine p 2 ?_
  refine rend ?_
  refine c_seq ?_
  refine c_seq ?_
  refine r_start ?_
  refine p 1 ?_
  obtain ⟨v1_1, hv1_1, h⟩ := H.call h
  refine xq rfl (y_call [.slice A0 (List.length a0) k0] (.bool v1_1) func135 (fun W S => C.s_noList W hv1_1 ((s_arg h0).out W S))) ?_
  refine p 1 ?_
  refine rend ?_
  refine c_or (!v1_1) (fun q1 => ?_) (fun q1 => ?_)
  · replace h := H.t q1 h
    refine c_seq ?_
    refine r_start ?_
    refine p 2 ?_
    refine rend ?_
    replace h := H.done h
    subst h
    exact ret func53 rfl (vs := [.slice none 0 0, .bool false]) (.tmp (by kernel_rfl) (.tmp (by kernel_rfl) .nil)) rfl (fun W S => ⟨none, 0, [], rfl, World.ownsRow_nil _ _ _ _, Inn.nil _ _ _ _, (fun k hk => by cases hk), (fun k ⟨_, hk, _⟩ => by cases hk), S.below⟩)
  replace h := H.f q1 h
  refine c_skip ?_
  refine c_seq ?_
  refine r_start ?_
  refine p 1 ?_
  obtain ⟨v3_1, hv3_1, h⟩ := H.call h
  refine xx rfl (e_crd [.slice A0 (List.length a0) k0, .int .i64 (-1)] (fun v => v) func136 (fun W S => C.s_prPairs W hv3_1 ((s_arg h0).out W S)) fun A3_1 k3_1 u3_1 => ?_)
  refine p 2 ?_
  refine rend ?_
  replace h := H.done h
  subst h
  exact ret func53 rfl (vs := [.slice A3_1 (List.length u3_1) k3_1, .bool true]) (.tmp (by kernel_rfl) (.tmp (by kernel_rfl) .nil)) rfl (fun W S => S.retD (res := fun v => .tuple #[v, .bool true]) 0 1 (by decide))
theorem C.slices_Equal_int_int {a0 : (List Int)} {A0 : Option Addr} {k0 : Nat} {a1 : (List Int)} {A1 : Option Addr} {k1 : Nat} {r : Bool} (w : World) (h : X.slices_Equal_int_int a0 a1 = some r) (h0 : RdT (eI .i64) w (.slice A0 (List.length a0) k0) a0) (h1 : RdT (eI .i64) w (.slice A1 (List.length a1) k1) a1) : Calls prog 141 #[.slice A0 (List.length a0) k0, .slice A1 (List.length a1) k1] w (Ret w (.bool r)) := by
  refine calls (M := no) (args := [.slice A0 (List.length a0) k0, .slice A1 (List.length a1) k1]) func141 rfl ?_
  replace h : H (X.slices_Equal_int_int a0 a1) (fun o => o = r) := H.mk h
  unfold X.slices_Equal_int_int at h
  refine c_seq ?_
  refine r_start ?_
  refine p 1 ?_
  refine rend ?_
  refine c_seq ?_
  refine c_seq ?_
  refine r_start ?_
  refine p 5 ?_
  refine rend ?_
  refine c_or ((List.length a0 : Int) != (List.length a1 : Int)) (fun q1 => ?_) (fun q1 => ?_)
  · replace h := H.t q1 h
    refine c_seq ?_
    refine r_start ?_
    refine p 1 ?_
    refine rend ?_
    replace h := H.done h
    subst h
    exact ret func141 rfl (vs := [.bool false]) (.tmp (by kernel_rfl) .nil) rfl (fun W S => ⟨rfl, S.below⟩)
  replace h := H.f q1 h
  refine c_skip ?_
  refine c_seq ?_
  refine c_seq ?_
  refine r_start ?_
  refine p 3 ?_
  refine rend ?_
  refine c_block ?_
  refine joinE (X := Unit) 0 (H.or h) (fun (x : Unit) => x) (fun _ => []) (fun _ u => (jk u 0 26 [])) (fun h hj2 => ?_) ?_
  · skip
    refine rangeR (X := Unit) (s_arg h0) (fun (x : Unit) => x) (fun _ => []) (fun (j3 : Nat) _ u => (.slice A0 (List.length a0) k0 :: .slice A1 (List.length a1) k1 :: (jk u 2 10 (.int .i64 (List.length a0 : Int) :: .int .i64 (j3 : Int) :: (jk u 14 12 []))))) () h (by kernel_rfl) (by kernel_rfl) ?_ ?_
    · intro j3 x u x4 q5 hg6 hw7 h
      refine c_seq ?_
      refine r_start ?_
      refine p 1 ?_
      refine rend ?_
      refine c_seq ?_
      refine c_yes q5 ?_
      refine c_skip ?_
      refine c_seq ?_
      refine c_block ?_
      refine c_seq ?_
      refine r_start ?_
      refine p 2 ?_
      refine rend ?_
      refine c_seq ?_
      refine as_start 9 9 ?_
      refine ap 0 2 ?_
      refine aq 2 rfl (y_idx (e := (eI .i64)) (el := 3) hg6 (s_arg h0)) ?_
      refine aq 3 rfl (y_el (e := (eI .i64)) 0 (.int .i64 x4) hg6 (s_arg h0)) ?_
      refine ap 4 2 ?_
      obtain ⟨y6_6, hy6_6, h⟩ := H.call h
      refine aq 6 rfl (y_idx (e := (eI .i64)) (el := 3) hy6_6 (s_arg h1)) ?_
      refine aq 7 rfl (y_el (e := (eI .i64)) 0 (.int .i64 y6_6) hy6_6 (s_arg h1)) ?_
      refine ap 8 1 ?_
      refine a_done ?_
      refine c_or (x4 != y6_6) (fun q8 => ?_) (fun q8 => ?_)
      · replace h := H.t q8 h
        refine c_seq ?_
        refine r_start ?_
        refine p 1 ?_
        refine rend ?_
        replace h := H.inr h
        replace h := H.done h
        subst h
        exact ret func141 rfl (vs := [.bool false]) (.tmp (by kernel_rfl) .nil) rfl (fun W S => ⟨rfl, S.below⟩)
      replace h := H.f q8 h
      refine c_skip ?_
      refine c_inb ?_
      refine r_start ?_
      refine p 2 ?_
      refine rend ?_
      refine c_set 13 (ci hw7) ?_
      replace h := H.inl h
      exact h () _ _ rfl (by kernel_rfl) (by kernel_rfl)
    · intro x u q5 h
      refine c_seq ?_
      refine r_start ?_
      refine p 1 ?_
      refine rend ?_
      refine c_seq ?_
      refine c_no q5 ?_
      refine cx ?_
      replace h := H.done h
      exact hj2 () _ _ h (by kernel_rfl) (by kernel_rfl)
  intro x u h
  refine c_seq ?_
  refine r_start ?_
  refine p 1 ?_
  refine rend ?_
  replace h := H.done h
  subst h
  exact ret func141 rfl (vs := [.bool true]) (.tmp (by kernel_rfl) .nil) rfl (fun W S => ⟨rfl, S.below⟩)
theorem C.i_PairsBy_1 {fu : Nat} {a0 : Sign} {a1 : Sign} {a2 : Int} {p2 : Nat} {r : Bool} (w : World) (h : X.i_PairsBy_1 fu a2 a0 a1 = some r) (hp2 : w.heap[p2]? = some (.cells ([.int .i64 a2] : List Value).toArray 3 (0, 0))) : Calls prog 140 #[.agg (eSign a0).toArray, .agg (eSign a1).toArray, .pointer (some ⟨p2, 0, none⟩)] w (Ret w (.bool r)) := by
  refine calls (M := no) (args := [.agg (eSign a0).toArray, .agg (eSign a1).toArray, .pointer (some ⟨p2, 0, none⟩)]) func140 rfl ?_
  replace h : H (X.i_PairsBy_1 fu a2 a0 a1) (fun o => o = r) := H.mk h
  unfold X.i_PairsBy_1 at h
  refine c_seq ?_
  refine r_start ?_
  refine xx rfl (x_box (eSign a0) fun g0_0 => ?_)
  refine xx rfl (x_box (eSign a1) fun g0_1 => ?_)
  refine p 1 ?_
  refine rend ?_
  refine c_seq ?_
  refine joinT (X := (Bool × (List Int) × (List Int) × Option Addr × Nat × Option Addr × Nat)) (H.bnd h) (fun ⟨b1, l2, l5, A3, k4, A6, k7⟩ => (b1, l2, l5)) (fun ⟨b1, l2, l5, A3, k4, A6, k7⟩ => [box g0_0 37 (eSign a0), box g0_1 37 (eSign a1), rowT (eI .i64) w.heap.size 3 (.slice A3 (List.length l2) k4) l2, rowT (eI .i64) w.heap.size 3 (.slice A6 (List.length l5) k7) l5]) (fun ⟨b1, l2, l5, A3, k4, A6, k7⟩ u => (jk u 0 5 (.bool b1 :: (jk u 6 6 [])))) (fun h hj8 => ?_) ?_
  · skip
    refine as_start 7 7 ?_
    refine aq 0 rfl (y_load (.agg (eSign a0).toArray) 0 g0_0 0) ?_
    refine aq 1 rfl (y_load (.agg (eSign a1).toArray) 1 g0_1 0) ?_
    refine aq 3 rfl (y_ld0 (.int .i64 a2) p2 0 hp2) ?_
    refine a_two 2 4 rfl rfl ?_ ?_
    · skip
      obtain ⟨v1_2, hv1_2, h⟩ := H.call h
      refine (e_cr [.agg (eSign a0).toArray, .agg (eSign a1).toArray] (fun v => v) func142 (fun W S => C.i_partsApart W hv1_2) fun A1_2 k1_2 => ⟨.inr (by kernel_rfl), ?_⟩)
      refine ax 4 rfl (e_lit (e := (eI .i64)) (el := 3) [.int .i64 a2] ([a2] : List Int) fun A1_4 k1_4 => ⟨.inr (by kernel_rfl), ?_⟩)
      obtain ⟨v1_5, hv1_5, h⟩ := H.call h
      refine ax 5 rfl (e_y (y_call [.slice A1_2 (List.length v1_2) k1_2, .slice A1_4 (List.length ([a2] : List Int)) k1_4] (.bool v1_5) func141 (fun W S => C.slices_Equal_int_int W hv1_5 ((s_own 2).out W S) ((s_own 3).out W S))) ⟨.inr (by kernel_rfl), ?_⟩)
      refine ap 6 1 ?_
      refine a_done ?_
      replace h := H.done h
      exact hj8 (v1_5, v1_2, ([a2] : List Int), A1_2, k1_2, A1_4, k1_4) _ _ h (by kernel_rfl) (by kernel_rfl)
    refine (e_lit (e := (eI .i64)) (el := 3) [.int .i64 a2] ([a2] : List Int) fun A1_4 k1_4 => ⟨.inr (by kernel_rfl), ?_⟩)
    obtain ⟨v1_2, hv1_2, h⟩ := H.call h
    refine ax 2 rfl (e_cr [.agg (eSign a0).toArray, .agg (eSign a1).toArray] (fun v => v) func142 (fun W S => C.i_partsApart W hv1_2) fun A1_2 k1_2 => ⟨.inr (by kernel_rfl), ?_⟩)
    obtain ⟨v1_5, hv1_5, h⟩ := H.call h
    refine ax 5 rfl (e_y (y_call [.slice A1_2 (List.length v1_2) k1_2, .slice A1_4 (List.length ([a2] : List Int)) k1_4] (.bool v1_5) func141 (fun W S => C.slices_Equal_int_int W hv1_5 ((s_own 3).out W S) ((s_own 2).out W S))) ⟨.inr (by kernel_rfl), ?_⟩)
    refine ap 6 1 ?_
    refine a_done ?_
    refine swp [box g0_0 37 (eSign a0), box g0_1 37 (eSign a1)] (rowT (eI .i64) w.heap.size 3 (.slice A1_4 (List.length ([a2] : List Int)) k1_4) ([a2] : List Int)) (rowT (eI .i64) w.heap.size 3 (.slice A1_2 (List.length v1_2) k1_2) v1_2) ?_
    replace h := H.done h
    exact hj8 (v1_5, v1_2, ([a2] : List Int), A1_2, k1_2, A1_4, k1_4) _ _ h (by kernel_rfl) (by kernel_rfl)
  intro x u h
  obtain ⟨b1, l2, l5, A3, k4, A6, k7⟩ := x
  replace h := H.done h
  subst h
  exact ret func140 rfl (vs := [.bool b1]) (.tmp (by kernel_rfl) .nil) rfl (fun W S => ⟨rfl, S.below⟩)
theorem C.i_PairsBy {fu : Nat} {a0 : (List Sign)} {A0 : Option Addr} {k0 : Nat} {a1 : Int} {r : ((List (List Int)) × Bool)} (w : World) (h : X.i_PairsBy fu a0 a1 = some r) (h0 : RdT nSign w (.slice A0 (List.length a0) k0) a0) : Calls prog 63 #[.slice A0 (List.length a0) k0, .int .i64 a1] w (RetD (eI .i64) 69 3 w r.1 (fun v => .tuple #[v, .bool r.2])) := by
  refine calls (M := no) (args := [.slice A0 (List.length a0) k0, .int .i64 a1]) func63 rfl ?_
  replace h : H (X.i_PairsBy fu a0 a1) (fun o => o = r) := H.mk h
  unfold X.i_PairsBy at h
  refine c_seq ?_
  refine r_start ?_
  refine xx rfl (x_box [.int .i64 a1] fun g0_0 => ?_)
  refine p 2 ?_
  refine rend ?_
  refine c_seq ?_
  refine c_seq ?_
  refine r_start ?_
  refine p 1 ?_
  obtain ⟨v1_1, hv1_1, h⟩ := H.call h
  refine xq rfl (y_call [.slice A0 (List.length a0) k0, .int .i64 16] (.bool v1_1) func132 (fun W S => C.i_areSigns W hv1_1 ((s_arg h0).out W S))) ?_
  refine p 2 ?_
  refine br (!v1_1) (fun q1 => ?_) (fun q1 => ?_)
  · replace h := H.t q1 h
    refine o_set 9 (congrArg Value.bool q1) ?_
    refine p 4 ?_
    refine rend ?_
    refine c_t (by kernel_rfl) ?_
    refine c_seq ?_
    refine r_start ?_
    refine p 2 ?_
    refine rend ?_
    replace h := H.done h
    subst h
    exact ret func63 rfl (vs := [.slice none 0 0, .bool false]) (.tmp (by kernel_rfl) (.tmp (by kernel_rfl) .nil)) rfl (fun W S => ⟨none, 0, [], rfl, World.ownsRow_nil _ _ _ _, Inn.nil _ _ _ _, (fun k hk => by cases hk), (fun k ⟨_, hk, _⟩ => by cases hk), S.below⟩)
  replace h := H.f q1 h
  refine o_set 9 (congrArg Value.bool q1) ?_
  refine xq rfl (y_load (.int .i64 a1) 0 g0_0 0) ?_
  obtain ⟨v1_5, hv1_5, h⟩ := H.call h
  refine xq rfl (y_call [.int .i64 a1, .int .i64 0, .int .i64 4] (.bool v1_5) func139 (fun W S => C.i_within W hv1_5)) ?_
  refine p 2 ?_
  refine rend ?_
  refine c_or (!v1_5) (fun q2 => ?_) (fun q2 => ?_)
  · replace h := H.t q2 h
    refine c_seq ?_
    refine r_start ?_
    refine p 2 ?_
    refine rend ?_
    replace h := H.done h
    subst h
    exact ret func63 rfl (vs := [.slice none 0 0, .bool false]) (.tmp (by kernel_rfl) (.tmp (by kernel_rfl) .nil)) rfl (fun W S => ⟨none, 0, [], rfl, World.ownsRow_nil _ _ _ _, Inn.nil _ _ _ _, (fun k hk => by cases hk), (fun k ⟨_, hk, _⟩ => by cases hk), S.below⟩)
  replace h := H.f q2 h
  refine c_skip ?_
  refine c_seq ?_
  refine r_start ?_
  refine p 2 ?_
  obtain ⟨v3_2, hv3_2, h⟩ := H.call h
  refine xx rfl (e_crd [.slice A0 (List.length a0) k0, .func (.func 140) #[] #[.pointer (some ⟨g0_0, 0, none⟩)]] (fun v => v) func133 (fun W S => C.i_pairsIn W hv3_2 ((s_arg h0).out W S) (isFn_of func140) (fun x0_2 x1_2 r W2 hu2 hx2 => C.i_PairsBy_1 W2 hx2 (bx_up (S.bx 0) hu2))) fun A3_2 k3_2 u3_2 => ?_)
  refine p 2 ?_
  refine rend ?_
  replace h := H.done h
  subst h
  exact ret func63 rfl (vs := [.slice A3_2 (List.length u3_2) k3_2, .bool true]) (.tmp (by kernel_rfl) (.tmp (by kernel_rfl) .nil)) rfl (fun W S => S.retD (res := fun v => .tuple #[v, .bool true]) 1 2 (by decide))
theorem C.i_LoadOf {fu : Nat} {a0 : (List Sign)} {A0 : Option Addr} {k0 : Nat} {r : ((List Int) × Bool)} (w : World) (h : X.i_LoadOf fu a0 = some r) (h0 : RdT nSign w (.slice A0 (List.length a0) k0) a0) : Calls prog 54 #[.slice A0 (List.length a0) k0] w (RetR (eI .i64) 3 w r.1 (fun v => .tuple #[v, .bool r.2])) := by
  refine calls (M := no) (args := [.slice A0 (List.length a0) k0]) func54 rfl ?_
  replace h : H (X.i_LoadOf fu a0) (fun o => o = r) := H.mk h
  unfold X.i_LoadOf at h
  refine c_seq ?_
  refine r_start ?_
  refine p 2 ?_
  refine rend ?_
  refine c_seq ?_
  refine c_seq ?_
  refine r_start ?_
  refine p 1 ?_
  obtain ⟨v1_1, hv1_1, h⟩ := H.call h
  refine xq rfl (y_call [.slice A0 (List.length a0) k0, .int .i64 16] (.bool v1_1) func132 (fun W S => C.i_areSigns W hv1_1 ((s_arg h0).out W S))) ?_
  refine p 1 ?_
  refine rend ?_
  refine c_or (!v1_1) (fun q1 => ?_) (fun q1 => ?_)
  · replace h := H.t q1 h
    refine c_seq ?_
    refine r_start ?_
    refine p 2 ?_
    refine rend ?_
    replace h := H.done h
    subst h
    exact ret func54 rfl (vs := [.slice none 0 0, .bool false]) (.tmp (by kernel_rfl) (.tmp (by kernel_rfl) .nil)) rfl (fun W S => ⟨none, 0, rfl, World.ownsRow_nil _ _ _ _, S.below⟩)
  replace h := H.f q1 h
  refine c_skip ?_
  refine c_seq ?_
  refine r_start ?_
  refine p 1 ?_
  refine rend ?_
  refine c_seq ?_
  refine c_seq ?_
  refine r_start ?_
  refine p 1 ?_
  refine rend ?_
  refine c_block ?_
  refine c_nil (eI .i64) 3 ?_
  refine joinH (X := ((List Int) × Option Addr × Nat)) 0 (H.bnd h) (fun ⟨l6, A7, k8⟩ => l6) (fun ⟨l6, A7, k8⟩ => [rowT (eI .i64) w.heap.size 3 (.slice A7 (List.length l6) k8) l6]) (fun ⟨l6, A7, k8⟩ u => (jk u 0 4 (.slice A7 (List.length l6) k8 :: (jk u 5 22 [])))) (fun h hj9 => ?_) ?_
  · skip
    refine loopR (X := (Int × (List Int) × Option Addr × Nat)) (fun ⟨n2, l3, A4, k5⟩ => (n2, l3)) (fun ⟨n2, l3, A4, k5⟩ => [rowT (eI .i64) w.heap.size 3 (.slice A4 (List.length l3) k5) l3]) (fun ⟨n2, l3, A4, k5⟩ u => (.slice A0 (List.length a0) k0 :: (jk u 1 3 (.slice A4 (List.length l3) k5 :: .int .i64 n2 :: (jk u 6 21 []))))) (0, ([] : List Int), none, 0) h (by kernel_rfl) (by kernel_rfl) ?_
    intro x u h
    obtain ⟨n2, l3, A4, k5⟩ := x
    refine c_seq ?_
    refine c_seq ?_
    refine r_start ?_
    refine p 2 ?_
    refine rend ?_
    refine c_or (decide (n2 ≤ 4)) (fun q10 => ?_) (fun q10 => ?_)
    · replace h := H.t q10 h
      refine c_skip ?_
      refine c_seq ?_
      refine c_block ?_
      refine c_seq ?_
      refine r_start ?_
      refine p 2 ?_
      obtain ⟨v7_2, hv7_2, h⟩ := H.call h
      refine xx rfl (e_crd [.slice A0 (List.length a0) k0, .int .i64 n2] (fun v => .tuple #[v, .bool v7_2.2]) func63 (fun W S => C.i_PairsBy W hv7_2 ((s_arg h0).out W S)) fun A7_2 k7_2 u7_2 => ?_)
      refine p 5 ?_
      refine rend ?_
      refine r_start ?_
      refine p 2 ?_
      refine p 1 ?_
      refine o_fact (f_len (i_own 2)) fun hl8_2 => ?_
      refine o_set 23 (len_sl hl8_2) ?_
      refine xx rfl (e_lit (e := (eI .i64)) (el := 3) [.int .i64 (List.length v7_2.1 : Int)] ([(List.length v7_2.1 : Int)] : List Int) fun A8_3 k8_3 => ?_)
      obtain ⟨y8_4, hy8_4, h⟩ := H.call h
      refine xx rfl (e_app 0 hy8_4 (s_own 3) fun A8_4 k8_4 => ?_)
      refine p 1 ?_
      refine rend ?_
      refine c_inb ?_
      refine r_start ?_
      refine p 3 ?_
      refine rend ?_
      replace h := H.inl h
      exact h ((wr (n2 + 1)), y8_4, A8_4, k8_4) _ _ rfl (by kernel_rfl) (by kernel_rfl)
    replace h := H.f q10 h
    refine cx ?_
    replace h := H.inr h
    exact hj9 (l3, A4, k5) _ _ h (by kernel_rfl) (by kernel_rfl)
  intro x u h
  obtain ⟨l6, A7, k8⟩ := x
  refine c_seq ?_
  refine r_start ?_
  refine p 3 ?_
  refine rend ?_
  replace h := H.done h
  subst h
  exact ret func54 rfl (vs := [.slice A7 (List.length l6) k8, .bool true]) (.tmp (by kernel_rfl) (.tmp (by kernel_rfl) .nil)) rfl (fun W S => ⟨_, _, rfl, S.row 0, S.below⟩)
theorem C.s_LoadOf {fu : Nat} {a0 : (List Sign)} {A0 : Option Addr} {k0 : Nat} {r : ((List Int) × Bool)} (w : World) (h : X.s_LoadOf fu a0 = some r) (h0 : RdT nSign w (.slice A0 (List.length a0) k0) a0) : Calls prog 55 #[.slice A0 (List.length a0) k0] w (RetR (eI .i64) 3 w r.1 (fun v => .tuple #[v, .bool r.2])) := by
  refine calls (M := no) (args := [.slice A0 (List.length a0) k0]) func55 rfl ?_
  replace h : H (X.s_LoadOf fu a0) (fun o => o = r) := H.mk h
  unfold X.s_LoadOf at h
  refine c_seq ?_
  refine r_start ?_
  refine p 2 ?_
  refine rend ?_
  refine c_seq ?_
  refine c_seq ?_
  refine r_start ?_
  refine p 1 ?_
  obtain ⟨v1_1, hv1_1, h⟩ := H.call h
  refine xq rfl (y_call [.slice A0 (List.length a0) k0] (.bool v1_1) func135 (fun W S => C.s_noList W hv1_1 ((s_arg h0).out W S))) ?_
  refine p 1 ?_
  refine rend ?_
  refine c_or (!v1_1) (fun q1 => ?_) (fun q1 => ?_)
  · replace h := H.t q1 h
    refine c_seq ?_
    refine r_start ?_
    refine p 2 ?_
    refine rend ?_
    replace h := H.done h
    subst h
    exact ret func55 rfl (vs := [.slice none 0 0, .bool false]) (.tmp (by kernel_rfl) (.tmp (by kernel_rfl) .nil)) rfl (fun W S => ⟨none, 0, rfl, World.ownsRow_nil _ _ _ _, S.below⟩)
  replace h := H.f q1 h
  refine c_skip ?_
  refine c_seq ?_
  refine r_start ?_
  refine p 1 ?_
  refine rend ?_
  refine c_seq ?_
  refine c_seq ?_
  refine r_start ?_
  refine p 1 ?_
  refine rend ?_
  refine c_block ?_
  refine c_nil (eI .i64) 3 ?_
  refine joinH (X := ((List Int) × Option Addr × Nat)) 0 (H.bnd h) (fun ⟨l6, A7, k8⟩ => l6) (fun ⟨l6, A7, k8⟩ => [rowT (eI .i64) w.heap.size 3 (.slice A7 (List.length l6) k8) l6]) (fun ⟨l6, A7, k8⟩ u => (jk u 0 4 (.slice A7 (List.length l6) k8 :: (jk u 5 16 [])))) (fun h hj9 => ?_) ?_
  · skip
    refine loopR (X := (Int × (List Int) × Option Addr × Nat)) (fun ⟨n2, l3, A4, k5⟩ => (n2, l3)) (fun ⟨n2, l3, A4, k5⟩ => [rowT (eI .i64) w.heap.size 3 (.slice A4 (List.length l3) k5) l3]) (fun ⟨n2, l3, A4, k5⟩ u => (.slice A0 (List.length a0) k0 :: (jk u 1 3 (.slice A4 (List.length l3) k5 :: .int .i64 n2 :: (jk u 6 15 []))))) (0, ([] : List Int), none, 0) h (by kernel_rfl) (by kernel_rfl) ?_
    intro x u h
    obtain ⟨n2, l3, A4, k5⟩ := x
    refine c_seq ?_
    refine c_seq ?_
    refine r_start ?_
    refine p 2 ?_
    refine rend ?_
    refine c_or (decide (n2 ≤ 4)) (fun q10 => ?_) (fun q10 => ?_)
    · replace h := H.t q10 h
      refine c_skip ?_
      refine c_seq ?_
      refine c_block ?_
      refine r_start ?_
      refine p 3 ?_
      obtain ⟨v7_3, hv7_3, h⟩ := H.call h
      refine xx rfl (e_crd [.slice A0 (List.length a0) k0, .int .i64 n2] (fun v => v) func136 (fun W S => C.s_prPairs W hv7_3 ((s_arg h0).out W S)) fun A7_3 k7_3 u7_3 => ?_)
      refine p 1 ?_
      refine o_fact (f_len (i_own 2)) fun hl7_4 => ?_
      refine o_set 17 (len_sl hl7_4) ?_
      refine xx rfl (e_lit (e := (eI .i64)) (el := 3) [.int .i64 (List.length v7_3 : Int)] ([(List.length v7_3 : Int)] : List Int) fun A7_5 k7_5 => ?_)
      obtain ⟨y7_6, hy7_6, h⟩ := H.call h
      refine xx rfl (e_app 0 hy7_6 (s_own 3) fun A7_6 k7_6 => ?_)
      refine p 1 ?_
      refine rend ?_
      refine c_inb ?_
      refine r_start ?_
      refine p 3 ?_
      refine rend ?_
      replace h := H.inl h
      exact h ((wr (n2 + 1)), y7_6, A7_6, k7_6) _ _ rfl (by kernel_rfl) (by kernel_rfl)
    replace h := H.f q10 h
    refine cx ?_
    replace h := H.inr h
    exact hj9 (l3, A4, k5) _ _ h (by kernel_rfl) (by kernel_rfl)
  intro x u h
  obtain ⟨l6, A7, k8⟩ := x
  refine c_seq ?_
  refine r_start ?_
  refine p 3 ?_
  refine rend ?_
  replace h := H.done h
  subst h
  exact ret func55 rfl (vs := [.slice A7 (List.length l6) k8, .bool true]) (.tmp (by kernel_rfl) (.tmp (by kernel_rfl) .nil)) rfl (fun W S => ⟨_, _, rfl, S.row 0, S.below⟩)
theorem C.i_pairsWith_1 {fu : Nat} {a0 : Sign} {a1 : (List Sign)} {A1 : Option Addr} {k1 : Nat} {p1 : Nat} {a2 : Int} {p2 : Nat} {r : Bool} (w : World) (h : X.i_pairsWith_1 fu a1 a2 a0 = some r) (h1 : RdT nSign w (.slice A1 (List.length a1) k1) a1) (hp1 : w.heap[p1]? = some (.cells ([.slice A1 (List.length a1) k1] : List Value).toArray 64 (0, 0))) (hp2 : w.heap[p2]? = some (.cells ([.int .i64 a2] : List Value).toArray 3 (0, 0))) : Calls prog 206 #[.agg (eSign a0).toArray, .pointer (some ⟨p1, 0, none⟩), .pointer (some ⟨p2, 0, none⟩)] w (Ret w (.bool r)) := by
  refine calls (M := no) (args := [.agg (eSign a0).toArray, .pointer (some ⟨p1, 0, none⟩), .pointer (some ⟨p2, 0, none⟩)]) func206 rfl ?_
  replace h : H (X.i_pairsWith_1 fu a1 a2 a0) (fun o => o = r) := H.mk h
  unfold X.i_pairsWith_1 at h
  refine c_seq ?_
  refine r_start ?_
  refine xx rfl (x_box (eSign a0) fun g0_0 => ?_)
  refine p 1 ?_
  refine rend ?_
  refine c_seq ?_
  refine as_start 7 7 ?_
  refine aq 0 rfl (y_ld0 (.slice A1 (List.length a1) k1) p1 0 hp1) ?_
  refine aq 1 rfl (y_ld0 (.int .i64 a2) p2 0 hp2) ?_
  obtain ⟨y1_2, hy1_2, h⟩ := H.call h
  refine aq 2 rfl (y_idx (e := nSign) (el := 37) hy1_2 (s_arg h1)) ?_
  refine aq 3 rfl (y_el (e := nSign) 0 (.agg (eSign y1_2).toArray) hy1_2 (s_arg h1)) ?_
  refine aq 4 rfl (y_load (.agg (eSign a0).toArray) 0 g0_0 0) ?_
  obtain ⟨v1_5, hv1_5, h⟩ := H.call h
  refine aq 5 rfl (y_call [.agg (eSign y1_2).toArray, .agg (eSign a0).toArray] (.bool v1_5) func134 (fun W S => C.i_isPair W hv1_5)) ?_
  refine ap 6 1 ?_
  refine a_done ?_
  replace h := H.done h
  subst h
  exact ret func206 rfl (vs := [.bool v1_5]) (.tmp (by kernel_rfl) .nil) rfl (fun W S => ⟨rfl, S.below⟩)
theorem C.i_pairsWith {fu : Nat} {a0 : (List Sign)} {A0 : Option Addr} {k0 : Nat} {a1 : Int} {r : (List Int)} (w : World) (h : X.i_pairsWith fu a0 a1 = some r) (h0 : RdT nSign w (.slice A0 (List.length a0) k0) a0) : Calls prog 137 #[.slice A0 (List.length a0) k0, .int .i64 a1] w (RetR (eI .i64) 3 w r (fun v => v)) := by
  refine calls (M := no) (args := [.slice A0 (List.length a0) k0, .int .i64 a1]) func137 rfl ?_
  replace h : H (X.i_pairsWith fu a0 a1) (fun o => o = r) := H.mk h
  unfold X.i_pairsWith at h
  refine c_seq ?_
  refine r_start ?_
  refine xx rfl (x_box [.slice A0 (List.length a0) k0] fun g0_0 => ?_)
  refine xx rfl (x_box [.int .i64 a1] fun g0_1 => ?_)
  refine p 1 ?_
  refine rend ?_
  refine c_seq ?_
  refine r_start ?_
  refine xq rfl (y_load (.slice A0 (List.length a0) k0) 0 g0_0 0) ?_
  refine p 1 ?_
  obtain ⟨v1_2, hv1_2, h⟩ := H.call h
  refine xx rfl (e_cr [.slice A0 (List.length a0) k0, .func (.func 206) #[] #[.pointer (some ⟨g0_0, 0, none⟩), .pointer (some ⟨g0_1, 0, none⟩)]] (fun v => v) func150 (fun W S => C.i_those_i_Sign W hv1_2 ((s_arg h0).out W S) (isFn_of func206) (fun x0_2 r W2 hu2 hx2 => C.i_pairsWith_1 W2 hx2 (Rd.up ((s_arg h0).out W S) hu2) (bx_up (S.bx 0) hu2) (bx_up (S.bx 1) hu2))) fun A1_2 k1_2 => ?_)
  refine p 1 ?_
  refine rend ?_
  replace h := H.done h
  subst h
  exact ret func137 rfl (vs := [.slice A1_2 (List.length v1_2) k1_2]) (.tmp (by kernel_rfl) .nil) rfl (fun W S => ⟨_, _, rfl, S.row 2, S.below⟩)
theorem C.i_LonelySigns {fu : Nat} {a0 : (List Sign)} {A0 : Option Addr} {k0 : Nat} {r : ((List Int) × Bool)} (w : World) (h : X.i_LonelySigns fu a0 = some r) (h0 : RdT nSign w (.slice A0 (List.length a0) k0) a0) : Calls prog 56 #[.slice A0 (List.length a0) k0] w (RetR (eI .i64) 3 w r.1 (fun v => .tuple #[v, .bool r.2])) := by
  refine calls (M := no) (args := [.slice A0 (List.length a0) k0]) func56 rfl ?_
  replace h : H (X.i_LonelySigns fu a0) (fun o => o = r) := H.mk h
  unfold X.i_LonelySigns at h
  refine c_seq ?_
  refine r_start ?_
  refine p 2 ?_
  refine rend ?_
  refine c_seq ?_
  refine c_seq ?_
  refine r_start ?_
  refine p 1 ?_
  obtain ⟨v1_1, hv1_1, h⟩ := H.call h
  refine xq rfl (y_call [.slice A0 (List.length a0) k0, .int .i64 16] (.bool v1_1) func132 (fun W S => C.i_areSigns W hv1_1 ((s_arg h0).out W S))) ?_
  refine p 1 ?_
  refine rend ?_
  refine c_or (!v1_1) (fun q1 => ?_) (fun q1 => ?_)
  · replace h := H.t q1 h
    refine c_seq ?_
    refine r_start ?_
    refine p 2 ?_
    refine rend ?_
    replace h := H.done h
    subst h
    exact ret func56 rfl (vs := [.slice none 0 0, .bool false]) (.tmp (by kernel_rfl) (.tmp (by kernel_rfl) .nil)) rfl (fun W S => ⟨none, 0, rfl, World.ownsRow_nil _ _ _ _, S.below⟩)
  replace h := H.f q1 h
  refine c_skip ?_
  refine c_seq ?_
  refine r_start ?_
  refine p 1 ?_
  refine rend ?_
  refine c_seq ?_
  refine c_seq ?_
  refine r_start ?_
  refine p 3 ?_
  refine rend ?_
  refine c_block ?_
  refine c_nil (eI .i64) 3 ?_
  refine joinH (X := ((List Int) × Option Addr × Nat)) 0 (H.bnd h) (fun ⟨l5, A6, k7⟩ => l5) (fun ⟨l5, A6, k7⟩ => [rowT (eI .i64) w.heap.size 3 (.slice A6 (List.length l5) k7) l5]) (fun ⟨l5, A6, k7⟩ u => (jk u 0 4 (.slice A6 (List.length l5) k7 :: (jk u 5 20 [])))) (fun h hj8 => ?_) ?_
  · skip
    refine rangeR (X := ((List Int) × Option Addr × Nat)) (s_arg h0) (fun ⟨l2, A3, k4⟩ => l2) (fun ⟨l2, A3, k4⟩ => [rowT (eI .i64) w.heap.size 3 (.slice A3 (List.length l2) k4) l2]) (fun (j9 : Nat) ⟨l2, A3, k4⟩ u => (.slice A0 (List.length a0) k0 :: (jk u 1 3 (.slice A3 (List.length l2) k4 :: (jk u 5 5 (.int .i64 (List.length a0 : Int) :: .int .i64 (j9 : Int) :: (jk u 12 13 []))))))) (([] : List Int), none, 0) h (by kernel_rfl) (by kernel_rfl) ?_ ?_
    · intro j9 x u x10 q11 hg12 hw13 h
      obtain ⟨l2, A3, k4⟩ := x
      refine c_seq ?_
      refine r_start ?_
      refine p 1 ?_
      refine rend ?_
      refine c_seq ?_
      refine c_yes q11 ?_
      refine c_skip ?_
      refine c_seq ?_
      refine c_block ?_
      refine c_seq ?_
      refine r_start ?_
      refine p 2 ?_
      refine rend ?_
      refine c_seq ?_
      refine r_start ?_
      refine p 2 ?_
      obtain ⟨v7_2, hv7_2, h⟩ := H.call h
      refine xx rfl (e_cr [.slice A0 (List.length a0) k0, .int .i64 (j9 : Int)] (fun v => v) func137 (fun W S => C.i_pairsWith W hv7_2 ((s_arg h0).out W S)) fun A7_2 k7_2 => ?_)
      refine p 2 ?_
      refine rend ?_
      refine c_or ((List.length v7_2 : Int) == 0) (fun q14 => ?_) (fun q14 => ?_)
      · replace h := H.t q14 h
        refine r_start ?_
        refine p 2 ?_
        refine xx rfl (e_lit (e := (eI .i64)) (el := 3) [.int .i64 (j9 : Int)] ([(j9 : Int)] : List Int) fun A8_2 k8_2 => ?_)
        obtain ⟨y8_3, hy8_3, h⟩ := H.call h
        refine xx rfl (e_app 0 hy8_3 (s_own 2) fun A8_3 k8_3 => ?_)
        refine p 1 ?_
        refine rend ?_
        refine c_inb ?_
        refine r_start ?_
        refine p 2 ?_
        refine rend ?_
        refine c_set 11 (ci hw13) ?_
        replace h := H.inl h
        exact h (y8_3, A8_3, k8_3) _ _ rfl (by kernel_rfl) (by kernel_rfl)
      replace h := H.f q14 h
      refine c_skip ?_
      refine c_inb ?_
      refine r_start ?_
      refine p 2 ?_
      refine rend ?_
      refine c_set 11 (ci hw13) ?_
      replace h := H.inl h
      exact h (l2, A3, k4) _ _ rfl (by kernel_rfl) (by kernel_rfl)
    · intro x u q11 h
      obtain ⟨l2, A3, k4⟩ := x
      refine c_seq ?_
      refine r_start ?_
      refine p 1 ?_
      refine rend ?_
      refine c_seq ?_
      refine c_no q11 ?_
      refine cx ?_
      replace h := H.done h
      exact hj8 (l2, A3, k4) _ _ h (by kernel_rfl) (by kernel_rfl)
  intro x u h
  obtain ⟨l5, A6, k7⟩ := x
  refine c_seq ?_
  refine r_start ?_
  refine p 3 ?_
  refine rend ?_
  replace h := H.done h
  subst h
  exact ret func56 rfl (vs := [.slice A6 (List.length l5) k7, .bool true]) (.tmp (by kernel_rfl) (.tmp (by kernel_rfl) .nil)) rfl (fun W S => ⟨_, _, rfl, S.row 0, S.below⟩)
theorem C.s_prPair {fu : Nat} {a0 : Sign} {a1 : Sign} {r : Bool} (w : World) (h : X.s_prPair fu a0 a1 = some r) : Calls prog 207 #[.agg (eSign a0).toArray, .agg (eSign a1).toArray] w (Ret w (.bool r)) := by
  refine calls (M := no) (args := [.agg (eSign a0).toArray, .agg (eSign a1).toArray]) func207 rfl ?_
  replace h : H (X.s_prPair fu a0 a1) (fun o => o = r) := H.mk h
  unfold X.s_prPair at h
  refine c_seq ?_
  refine r_start ?_
  refine xx rfl (x_box (eSign a0) fun g0_0 => ?_)
  refine xx rfl (x_box (eSign a1) fun g0_1 => ?_)
  refine p 1 ?_
  refine rend ?_
  refine c_seq ?_
  refine r_start ?_
  refine xq rfl (y_load (.agg (eSign a0).toArray) 0 g0_0 0) ?_
  refine xq rfl (y_load (.agg (eSign a1).toArray) 1 g0_1 0) ?_
  obtain ⟨v1_2, hv1_2, h⟩ := H.call h
  refine xx rfl (e_cr [.agg (eSign a0).toArray, .agg (eSign a1).toArray] (fun v => v) func146 (fun W S => C.s_prApart W hv1_2) fun A1_2 k1_2 => ?_)
  refine p 3 ?_
  refine rend ?_
  replace h := H.done h
  subst h
  exact ret func207 rfl (vs := [.bool ((List.length v1_2 : Int) == 1)]) (.tmp (by kernel_rfl) .nil) rfl (fun W S => ⟨rfl, S.below⟩)
theorem C.s_prWith {fu : Nat} {a0 : (List Sign)} {A0 : Option Addr} {k0 : Nat} {a1 : Int} {r : (List Int)} (w : World) (h : X.s_prWith fu a0 a1 = some r) (h0 : RdT nSign w (.slice A0 (List.length a0) k0) a0) : Calls prog 138 #[.slice A0 (List.length a0) k0, .int .i64 a1] w (RetR (eI .i64) 3 w r (fun v => v)) := by
  refine calls (M := no) (args := [.slice A0 (List.length a0) k0, .int .i64 a1]) func138 rfl ?_
  replace h : H (X.s_prWith fu a0 a1) (fun o => o = r) := H.mk h
  unfold X.s_prWith at h
  refine c_seq ?_
  refine r_start ?_
  refine p 1 ?_
  refine rend ?_
  refine c_seq ?_
  refine r_start ?_
  refine p 1 ?_
  refine rend ?_
  refine c_seq ?_
  refine c_seq ?_
  refine r_start ?_
  refine p 3 ?_
  refine rend ?_
  refine c_block ?_
  refine c_nil (eI .i64) 3 ?_
  refine joinH (X := ((List Int) × Option Addr × Nat)) 0 (H.bnd h) (fun ⟨l4, A5, k6⟩ => l4) (fun ⟨l4, A5, k6⟩ => [rowT (eI .i64) w.heap.size 3 (.slice A5 (List.length l4) k6) l4]) (fun ⟨l4, A5, k6⟩ u => (jk u 0 5 (.slice A5 (List.length l4) k6 :: (jk u 6 21 [])))) (fun h hj7 => ?_) ?_
  · skip
    refine rangeR (X := ((List Int) × Option Addr × Nat)) (s_arg h0) (fun ⟨l1, A2, k3⟩ => l1) (fun ⟨l1, A2, k3⟩ => [rowT (eI .i64) w.heap.size 3 (.slice A2 (List.length l1) k3) l1]) (fun (j8 : Nat) ⟨l1, A2, k3⟩ u => (.slice A0 (List.length a0) k0 :: .int .i64 a1 :: (jk u 2 3 (.slice A2 (List.length l1) k3 :: (jk u 6 2 (.slice A0 (List.length a0) k0 :: .int .i64 (List.length a0 : Int) :: .int .i64 (j8 : Int) :: (jk u 11 16 []))))))) (([] : List Int), none, 0) h (by kernel_rfl) (by kernel_rfl) ?_ ?_
    · intro j8 x u x9 q10 hg11 hw12 h
      obtain ⟨l1, A2, k3⟩ := x
      refine c_seq ?_
      refine r_start ?_
      refine p 1 ?_
      refine rend ?_
      refine c_seq ?_
      refine c_yes q10 ?_
      refine c_skip ?_
      refine c_seq ?_
      refine c_block ?_
      refine c_seq ?_
      refine r_start ?_
      refine p 1 ?_
      refine xq rfl (y_idx (e := nSign) (el := 37) hg11 (s_arg h0)) ?_
      refine xq rfl (y_el (e := nSign) 0 (.agg (eSign x9).toArray) hg11 (s_arg h0)) ?_
      refine xx rfl (x_new (eSign zSign) fun g4_3 => ?_)
      refine p 1 ?_
      refine xx rfl (x_sto 1 g4_3 0 (eSign x9) ?_)
      refine rend ?_
      refine c_seq ?_
      refine as_start 6 6 ?_
      refine ap 0 2 ?_
      obtain ⟨y5_2, hy5_2, h⟩ := H.call h
      refine aq 2 rfl (y_idx (e := nSign) (el := 37) hy5_2 (s_arg h0)) ?_
      refine aq 3 rfl (y_el (e := nSign) 0 (.agg (eSign y5_2).toArray) hy5_2 (s_arg h0)) ?_
      refine aq 4 rfl (y_load (.agg (eSign x9).toArray) 1 g4_3 0) ?_
      obtain ⟨v5_5, hv5_5, h⟩ := H.call h
      refine aq 5 rfl (y_call [.agg (eSign y5_2).toArray, .agg (eSign x9).toArray] (.bool v5_5) func207 (fun W S => C.s_prPair W hv5_5)) ?_
      refine a_done ?_
      refine c_or v5_5 (fun q13 => ?_) (fun q13 => ?_)
      · replace h := H.t q13 h
        refine r_start ?_
        refine p 2 ?_
        refine xx rfl (e_lit (e := (eI .i64)) (el := 3) [.int .i64 (j8 : Int)] ([(j8 : Int)] : List Int) fun A6_2 k6_2 => ?_)
        obtain ⟨y6_3, hy6_3, h⟩ := H.call h
        refine xx rfl (e_app 0 hy6_3 (s_own 2) fun A6_3 k6_3 => ?_)
        refine p 1 ?_
        refine rend ?_
        refine c_inb ?_
        refine r_start ?_
        refine p 2 ?_
        refine rend ?_
        refine c_set 10 (ci hw12) ?_
        replace h := H.inl h
        exact h (y6_3, A6_3, k6_3) _ _ rfl (by kernel_rfl) (by kernel_rfl)
      replace h := H.f q13 h
      refine c_skip ?_
      refine c_inb ?_
      refine r_start ?_
      refine p 2 ?_
      refine rend ?_
      refine c_set 10 (ci hw12) ?_
      replace h := H.inl h
      exact h (l1, A2, k3) _ _ rfl (by kernel_rfl) (by kernel_rfl)
    · intro x u q10 h
      obtain ⟨l1, A2, k3⟩ := x
      refine c_seq ?_
      refine r_start ?_
      refine p 1 ?_
      refine rend ?_
      refine c_seq ?_
      refine c_no q10 ?_
      refine cx ?_
      replace h := H.done h
      exact hj7 (l1, A2, k3) _ _ h (by kernel_rfl) (by kernel_rfl)
  intro x u h
  obtain ⟨l4, A5, k6⟩ := x
  refine c_seq ?_
  refine r_start ?_
  refine p 2 ?_
  refine rend ?_
  replace h := H.done h
  subst h
  exact ret func138 rfl (vs := [.slice A5 (List.length l4) k6]) (.tmp (by kernel_rfl) .nil) rfl (fun W S => ⟨_, _, rfl, S.row 0, S.below⟩)
theorem C.s_LonelySigns {fu : Nat} {a0 : (List Sign)} {A0 : Option Addr} {k0 : Nat} {r : ((List Int) × Bool)} (w : World) (h : X.s_LonelySigns fu a0 = some r) (h0 : RdT nSign w (.slice A0 (List.length a0) k0) a0) : Calls prog 57 #[.slice A0 (List.length a0) k0] w (RetR (eI .i64) 3 w r.1 (fun v => .tuple #[v, .bool r.2])) := by
  refine calls (M := no) (args := [.slice A0 (List.length a0) k0]) func57 rfl ?_
  replace h : H (X.s_LonelySigns fu a0) (fun o => o = r) := H.mk h
  unfold X.s_LonelySigns at h
  refine c_seq ?_
  refine r_start ?_
  refine p 2 ?_
  refine rend ?_
  refine c_seq ?_
  refine c_seq ?_
  refine r_start ?_
  refine p 1 ?_
  obtain ⟨v1_1, hv1_1, h⟩ := H.call h
  refine xq rfl (y_call [.slice A0 (List.length a0) k0] (.bool v1_1) func135 (fun W S => C.s_noList W hv1_1 ((s_arg h0).out W S))) ?_
  refine p 1 ?_
  refine rend ?_
  refine c_or (!v1_1) (fun q1 => ?_) (fun q1 => ?_)
  · replace h := H.t q1 h
    refine c_seq ?_
    refine r_start ?_
    refine p 2 ?_
    refine rend ?_
    replace h := H.done h
    subst h
    exact ret func57 rfl (vs := [.slice none 0 0, .bool false]) (.tmp (by kernel_rfl) (.tmp (by kernel_rfl) .nil)) rfl (fun W S => ⟨none, 0, rfl, World.ownsRow_nil _ _ _ _, S.below⟩)
  replace h := H.f q1 h
  refine c_skip ?_
  refine c_seq ?_
  refine r_start ?_
  refine p 1 ?_
  refine rend ?_
  refine c_seq ?_
  refine c_seq ?_
  refine r_start ?_
  refine p 3 ?_
  refine rend ?_
  refine c_block ?_
  refine c_nil (eI .i64) 3 ?_
  refine joinH (X := ((List Int) × Option Addr × Nat)) 0 (H.bnd h) (fun ⟨l5, A6, k7⟩ => l5) (fun ⟨l5, A6, k7⟩ => [rowT (eI .i64) w.heap.size 3 (.slice A6 (List.length l5) k7) l5]) (fun ⟨l5, A6, k7⟩ u => (jk u 0 4 (.slice A6 (List.length l5) k7 :: (jk u 5 20 [])))) (fun h hj8 => ?_) ?_
  · skip
    refine rangeR (X := ((List Int) × Option Addr × Nat)) (s_arg h0) (fun ⟨l2, A3, k4⟩ => l2) (fun ⟨l2, A3, k4⟩ => [rowT (eI .i64) w.heap.size 3 (.slice A3 (List.length l2) k4) l2]) (fun (j9 : Nat) ⟨l2, A3, k4⟩ u => (.slice A0 (List.length a0) k0 :: (jk u 1 3 (.slice A3 (List.length l2) k4 :: (jk u 5 5 (.int .i64 (List.length a0 : Int) :: .int .i64 (j9 : Int) :: (jk u 12 13 []))))))) (([] : List Int), none, 0) h (by kernel_rfl) (by kernel_rfl) ?_ ?_
    · intro j9 x u x10 q11 hg12 hw13 h
      obtain ⟨l2, A3, k4⟩ := x
      refine c_seq ?_
      refine r_start ?_
      refine p 1 ?_
      refine rend ?_
      refine c_seq ?_
      refine c_yes q11 ?_
      refine c_skip ?_
      refine c_seq ?_
      refine c_block ?_
      refine c_seq ?_
      refine r_start ?_
      refine p 2 ?_
      refine rend ?_
      refine c_seq ?_
      refine r_start ?_
      refine p 2 ?_
      obtain ⟨v7_2, hv7_2, h⟩ := H.call h
      refine xx rfl (e_cr [.slice A0 (List.length a0) k0, .int .i64 (j9 : Int)] (fun v => v) func138 (fun W S => C.s_prWith W hv7_2 ((s_arg h0).out W S)) fun A7_2 k7_2 => ?_)
      refine p 2 ?_
      refine rend ?_
      refine c_or ((List.length v7_2 : Int) == 0) (fun q14 => ?_) (fun q14 => ?_)
      · replace h := H.t q14 h
        refine r_start ?_
        refine p 2 ?_
        refine xx rfl (e_lit (e := (eI .i64)) (el := 3) [.int .i64 (j9 : Int)] ([(j9 : Int)] : List Int) fun A8_2 k8_2 => ?_)
        obtain ⟨y8_3, hy8_3, h⟩ := H.call h
        refine xx rfl (e_app 0 hy8_3 (s_own 2) fun A8_3 k8_3 => ?_)
        refine p 1 ?_
        refine rend ?_
        refine c_inb ?_
        refine r_start ?_
        refine p 2 ?_
        refine rend ?_
        refine c_set 11 (ci hw13) ?_
        replace h := H.inl h
        exact h (y8_3, A8_3, k8_3) _ _ rfl (by kernel_rfl) (by kernel_rfl)
      replace h := H.f q14 h
      refine c_skip ?_
      refine c_inb ?_
      refine r_start ?_
      refine p 2 ?_
      refine rend ?_
      refine c_set 11 (ci hw13) ?_
      replace h := H.inl h
      exact h (l2, A3, k4) _ _ rfl (by kernel_rfl) (by kernel_rfl)
    · intro x u q11 h
      obtain ⟨l2, A3, k4⟩ := x
      refine c_seq ?_
      refine r_start ?_
      refine p 1 ?_
      refine rend ?_
      refine c_seq ?_
      refine c_no q11 ?_
      refine cx ?_
      replace h := H.done h
      exact hj8 (l2, A3, k4) _ _ h (by kernel_rfl) (by kernel_rfl)
  intro x u h
  obtain ⟨l5, A6, k7⟩ := x
  refine c_seq ?_
  refine r_start ?_
  refine p 3 ?_
  refine rend ?_
  replace h := H.done h
  subst h
  exact ret func57 rfl (vs := [.slice A6 (List.length l5) k7, .bool true]) (.tmp (by kernel_rfl) (.tmp (by kernel_rfl) .nil)) rfl (fun W S => ⟨_, _, rfl, S.row 0, S.below⟩)
theorem C.i_MostPairs {fu : Nat} {a0 : (List Sign)} {A0 : Option Addr} {k0 : Nat} {r : (Int × Int × Bool)} (w : World) (h : X.i_MostPairs fu a0 = some r) (h0 : RdT nSign w (.slice A0 (List.length a0) k0) a0) : Calls prog 58 #[.slice A0 (List.length a0) k0] w (Ret w (.tuple #[.int .i64 r.1, .int .i64 r.2.1, .bool r.2.2])) := by
  refine calls (M := no) (args := [.slice A0 (List.length a0) k0]) func58 rfl ?_
  replace h : H (X.i_MostPairs fu a0) (fun o => o = r) := H.mk h
  unfold X.i_MostPairs at h
  refine c_seq ?_
  refine r_start ?_
  refine p 3 ?_
  refine rend ?_
  refine c_seq ?_
  refine c_seq ?_
  refine r_start ?_
  refine p 4 ?_
  refine br ((List.length a0 : Int) == 0) (fun q1 => ?_) (fun q1 => ?_)
  · replace h := H.t q1 h
    refine o_set 10 (congrArg Value.bool q1) ?_
    refine p 4 ?_
    refine rend ?_
    refine c_t (by kernel_rfl) ?_
    refine c_seq ?_
    refine r_start ?_
    refine p 3 ?_
    refine rend ?_
    replace h := H.done h
    subst h
    exact ret func58 rfl (vs := [.int .i64 0, .int .i64 0, .bool false]) (.tmp (by kernel_rfl) (.tmp (by kernel_rfl) (.tmp (by kernel_rfl) .nil))) rfl (fun W S => ⟨rfl, S.below⟩)
  replace h := H.f q1 h
  refine o_set 10 (congrArg Value.bool q1) ?_
  refine p 1 ?_
  obtain ⟨v1_5, hv1_5, h⟩ := H.call h
  refine xq rfl (y_call [.slice A0 (List.length a0) k0, .int .i64 16] (.bool v1_5) func132 (fun W S => C.i_areSigns W hv1_5 ((s_arg h0).out W S))) ?_
  refine p 2 ?_
  refine rend ?_
  refine c_or (!v1_5) (fun q2 => ?_) (fun q2 => ?_)
  · replace h := H.t q2 h
    refine c_seq ?_
    refine r_start ?_
    refine p 3 ?_
    refine rend ?_
    replace h := H.done h
    subst h
    exact ret func58 rfl (vs := [.int .i64 0, .int .i64 0, .bool false]) (.tmp (by kernel_rfl) (.tmp (by kernel_rfl) (.tmp (by kernel_rfl) .nil))) rfl (fun W S => ⟨rfl, S.below⟩)
  replace h := H.f q2 h
  refine c_skip ?_
  refine c_seq ?_
  refine r_start ?_
  refine p 1 ?_
  refine rend ?_
  refine c_seq ?_
  refine c_seq ?_
  refine r_start ?_
  refine p 3 ?_
  refine rend ?_
  refine c_block ?_
  refine joinH (X := Int) 0 (H.bnd h) (fun (x : Int) => x) (fun n4 => []) (fun n4 u => (.slice A0 (List.length a0) k0 :: (jk u 1 4 (.int .i64 n4 :: (jk u 6 30 []))))) (fun h hj5 => ?_) ?_
  · skip
    refine rangeR (X := Int) (s_arg h0) (fun (x : Int) => x) (fun n3 => []) (fun (j6 : Nat) n3 u => (.slice A0 (List.length a0) k0 :: (jk u 1 4 (.int .i64 n3 :: (jk u 6 10 (.int .i64 (List.length a0 : Int) :: .int .i64 (j6 : Int) :: (jk u 18 18 []))))))) 0 h (by kernel_rfl) (by kernel_rfl) ?_ ?_
    · intro j6 n3 u x7 q8 hg9 hw10 h
      refine c_seq ?_
      refine r_start ?_
      refine p 1 ?_
      refine rend ?_
      refine c_seq ?_
      refine c_yes q8 ?_
      refine c_skip ?_
      refine c_seq ?_
      refine c_block ?_
      refine c_seq ?_
      refine r_start ?_
      refine p 2 ?_
      refine rend ?_
      refine c_seq ?_
      refine r_start ?_
      refine p 2 ?_
      obtain ⟨v7_2, hv7_2, h⟩ := H.call h
      refine xx rfl (e_cr [.slice A0 (List.length a0) k0, .int .i64 (j6 : Int)] (fun v => v) func137 (fun W S => C.i_pairsWith W hv7_2 ((s_arg h0).out W S)) fun A7_2 k7_2 => ?_)
      refine p 3 ?_
      obtain ⟨v7_6, hv7_6, h⟩ := H.call h
      refine xx rfl (e_cr [.slice A0 (List.length a0) k0, .int .i64 n3] (fun v => v) func137 (fun W S => C.i_pairsWith W hv7_6 ((s_arg h0).out W S)) fun A7_6 k7_6 => ?_)
      refine p 2 ?_
      refine rend ?_
      refine c_or (decide ((List.length v7_2 : Int) > (List.length v7_6 : Int))) (fun q11 => ?_) (fun q11 => ?_)
      · replace h := H.t q11 h
        refine r_start ?_
        refine p 2 ?_
        refine rend ?_
        refine c_inb ?_
        refine r_start ?_
        refine p 2 ?_
        refine rend ?_
        refine c_set 17 (ci hw10) ?_
        replace h := H.inl h
        exact h (j6 : Int) _ _ rfl (by kernel_rfl) (by kernel_rfl)
      replace h := H.f q11 h
      refine c_skip ?_
      refine c_inb ?_
      refine r_start ?_
      refine p 2 ?_
      refine rend ?_
      refine c_set 17 (ci hw10) ?_
      replace h := H.inl h
      exact h n3 _ _ rfl (by kernel_rfl) (by kernel_rfl)
    · intro n3 u q8 h
      refine c_seq ?_
      refine r_start ?_
      refine p 1 ?_
      refine rend ?_
      refine c_seq ?_
      refine c_no q8 ?_
      refine cx ?_
      replace h := H.done h
      exact hj5 n3 _ _ h (by kernel_rfl) (by kernel_rfl)
  intro n4 u h
  refine c_seq ?_
  refine r_start ?_
  refine p 3 ?_
  obtain ⟨v10_3, hv10_3, h⟩ := H.call h
  refine xx rfl (e_cr [.slice A0 (List.length a0) k0, .int .i64 n4] (fun v => v) func137 (fun W S => C.i_pairsWith W hv10_3 ((s_arg h0).out W S)) fun A10_3 k10_3 => ?_)
  refine p 4 ?_
  refine rend ?_
  replace h := H.done h
  subst h
  exact ret func58 rfl (vs := [.int .i64 n4, .int .i64 (List.length v10_3 : Int), .bool true]) (.tmp (by kernel_rfl) (.tmp (by kernel_rfl) (.tmp (by kernel_rfl) .nil))) rfl (fun W S => ⟨rfl, S.below⟩)
end Go.Proofs.XC
