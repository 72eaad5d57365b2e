/- Contracts: each function, called where its plain function gives an answer, returns just that answer and changes nothing that was there. By AI agents; no person has read it. -/
import Derived.Test.YtenkalmmdamfgaaGreatDoorSDSearches3
set_option linter.unusedVariables false
set_option linter.unusedSimpArgs false
set_option maxRecDepth 100000
set_option maxHeartbeats 40000000
namespace Go.Proofs.XC
open Go Go.RowKit
open Tryz
theorem C.i_CostOfMatch {fu : Nat} {a0 : Pattern} {a1 : Sign} {r : (Int × Bool)} (w : World) (h : X.i_CostOfMatch fu a0 a1 = some r) : Calls prog 59 #[.agg (ePattern a0).toArray, .agg (eSign a1).toArray] w (Ret w (.tuple #[.int .i64 r.1, .bool r.2])) := by
  refine calls (M := no) (args := [.agg (ePattern a0).toArray, .agg (eSign a1).toArray]) func59 rfl ?_
  replace h : H (X.i_CostOfMatch fu a0 a1) (fun o => o = r) := H.mk h
  unfold X.i_CostOfMatch at h
  refine c_seq ?_
  refine r_start ?_
  refine xx rfl (x_box (ePattern a0) fun g0_0 => ?_)
  refine xx rfl (x_box (eSign a1) fun g0_1 => ?_)
  refine p 2 ?_
  refine rend ?_
  refine c_seq ?_
  refine c_seq ?_
  refine r_start ?_
  refine xq rfl (y_load (.agg (ePattern a0).toArray) 0 g0_0 0) ?_
  obtain ⟨v1_1, hv1_1, h⟩ := H.call h
  refine xq rfl (y_call [.agg (ePattern a0).toArray] (.bool v1_1) func56 (fun W S => C.i_IsPattern W hv1_1)) ?_
  refine p 2 ?_
  refine br (!v1_1) (fun q1 => ?_) (fun q1 => ?_)
  · replace h := H.t q1 h
    refine o_set 9 (congrArg Value.bool q1) ?_
    refine p 4 ?_
    refine rend ?_
    refine c_t (by kernel_rfl) ?_
    refine c_seq ?_
    refine r_start ?_
    refine p 2 ?_
    refine rend ?_
    replace h := H.done h
    subst h
    exact ret func59 rfl (vs := [.int .i64 0, .bool false]) (.tmp (by kernel_rfl) (.tmp (by kernel_rfl) .nil)) rfl (fun W S => ⟨rfl, S.below⟩)
  replace h := H.f q1 h
  refine o_set 9 (congrArg Value.bool q1) ?_
  refine xq rfl (y_load (.agg (eSign a1).toArray) 1 g0_1 0) ?_
  obtain ⟨v1_5, hv1_5, h⟩ := H.call h
  refine xq rfl (y_call [.agg (eSign a1).toArray] (.bool v1_5) func21 (fun W S => C.i_IsSign W hv1_5)) ?_
  refine p 2 ?_
  refine rend ?_
  refine c_or (!v1_5) (fun q2 => ?_) (fun q2 => ?_)
  · replace h := H.t q2 h
    refine c_seq ?_
    refine r_start ?_
    refine p 2 ?_
    refine rend ?_
    replace h := H.done h
    subst h
    exact ret func59 rfl (vs := [.int .i64 0, .bool false]) (.tmp (by kernel_rfl) (.tmp (by kernel_rfl) .nil)) rfl (fun W S => ⟨rfl, S.below⟩)
  replace h := H.f q2 h
  refine c_skip ?_
  refine c_seq ?_
  refine r_start ?_
  refine xq rfl (y_load (.agg (ePattern a0).toArray) 0 g0_0 0) ?_
  refine xq rfl (y_load (.agg (eSign a1).toArray) 1 g0_1 0) ?_
  obtain ⟨v3_2, hv3_2, h⟩ := H.call h
  refine xq rfl (y_call [.agg (ePattern a0).toArray, .agg (eSign a1).toArray] (.int .i64 v3_2) func128 (fun W S => C.i_Pattern_cost W hv3_2)) ?_
  refine p 2 ?_
  refine rend ?_
  replace h := H.done h
  subst h
  exact ret func59 rfl (vs := [.int .i64 v3_2, .bool true]) (.tmp (by kernel_rfl) (.tmp (by kernel_rfl) .nil)) rfl (fun W S => ⟨rfl, S.below⟩)
theorem C.s_CostOfMatch {fu : Nat} {a0 : Pattern} {a1 : Sign} {r : (Int × Bool)} (w : World) (h : X.s_CostOfMatch fu a0 a1 = some r) : Calls prog 60 #[.agg (ePattern a0).toArray, .agg (eSign a1).toArray] w (Ret w (.tuple #[.int .i64 r.1, .bool r.2])) := by
  refine calls (M := no) (args := [.agg (ePattern a0).toArray, .agg (eSign a1).toArray]) func60 rfl ?_
  replace h : H (X.s_CostOfMatch fu a0 a1) (fun o => o = r) := H.mk h
  unfold X.s_CostOfMatch at h
  refine c_seq ?_
  refine r_start ?_
  refine xx rfl (x_box (ePattern a0) fun g0_0 => ?_)
  refine xx rfl (x_box (eSign a1) fun g0_1 => ?_)
  refine p 2 ?_
  refine rend ?_
  refine c_seq ?_
  refine c_seq ?_
  refine r_start ?_
  refine xq rfl (y_load (.agg (ePattern a0).toArray) 0 g0_0 0) ?_
  obtain ⟨v1_1, hv1_1, h⟩ := H.call h
  refine xq rfl (y_call [.agg (ePattern a0).toArray] (.bool v1_1) func129 (fun W S => C.s_seGood W hv1_1)) ?_
  refine p 2 ?_
  refine br (!v1_1) (fun q1 => ?_) (fun q1 => ?_)
  · replace h := H.t q1 h
    refine o_set 9 (congrArg Value.bool q1) ?_
    refine p 4 ?_
    refine rend ?_
    refine c_t (by kernel_rfl) ?_
    refine c_seq ?_
    refine r_start ?_
    refine p 2 ?_
    refine rend ?_
    replace h := H.done h
    subst h
    exact ret func60 rfl (vs := [.int .i64 0, .bool false]) (.tmp (by kernel_rfl) (.tmp (by kernel_rfl) .nil)) rfl (fun W S => ⟨rfl, S.below⟩)
  replace h := H.f q1 h
  refine o_set 9 (congrArg Value.bool q1) ?_
  refine xq rfl (y_load (.agg (eSign a1).toArray) 1 g0_1 0) ?_
  obtain ⟨v1_5, hv1_5, h⟩ := H.call h
  refine xq rfl (y_call [.agg (eSign a1).toArray] (.bool v1_5) func75 (fun W S => C.s_siGood W hv1_5)) ?_
  refine p 2 ?_
  refine rend ?_
  refine c_or (!v1_5) (fun q2 => ?_) (fun q2 => ?_)
  · replace h := H.t q2 h
    refine c_seq ?_
    refine r_start ?_
    refine p 2 ?_
    refine rend ?_
    replace h := H.done h
    subst h
    exact ret func60 rfl (vs := [.int .i64 0, .bool false]) (.tmp (by kernel_rfl) (.tmp (by kernel_rfl) .nil)) rfl (fun W S => ⟨rfl, S.below⟩)
  replace h := H.f q2 h
  refine c_skip ?_
  refine c_seq ?_
  refine r_start ?_
  refine xq rfl (y_load (.agg (ePattern a0).toArray) 0 g0_0 0) ?_
  refine xq rfl (y_load (.agg (eSign a1).toArray) 1 g0_1 0) ?_
  obtain ⟨v3_2, hv3_2, h⟩ := H.call h
  refine xq rfl (y_call [.agg (ePattern a0).toArray, .agg (eSign a1).toArray] (.int .i64 v3_2) func130 (fun W S => C.s_seCost W hv3_2)) ?_
  refine p 2 ?_
  refine rend ?_
  replace h := H.done h
  subst h
  exact ret func60 rfl (vs := [.int .i64 v3_2, .bool true]) (.tmp (by kernel_rfl) (.tmp (by kernel_rfl) .nil)) rfl (fun W S => ⟨rfl, S.below⟩)
theorem C.i_PatternOf {fu : Nat} {a0 : Sign} {r : (Pattern × Bool)} (w : World) (h : X.i_PatternOf fu a0 = some r) : Calls prog 61 #[.agg (eSign a0).toArray] w (Ret w (.tuple #[.agg (ePattern r.1).toArray, .bool r.2])) := by
  refine calls (M := no) (args := [.agg (eSign a0).toArray]) func61 rfl ?_
  replace h : H (X.i_PatternOf fu a0) (fun o => o = r) := H.mk h
  unfold X.i_PatternOf at h
  refine c_seq ?_
  refine r_start ?_
  refine xx rfl (x_box (eSign a0) fun g0_0 => ?_)
  refine xx rfl (x_new (ePattern zPattern) fun g0_1 => ?_)
  refine p 1 ?_
  refine rend ?_
  refine c_seq ?_
  refine c_seq ?_
  refine r_start ?_
  refine xq rfl (y_load (.agg (eSign a0).toArray) 0 g0_0 0) ?_
  obtain ⟨v1_1, hv1_1, h⟩ := H.call h
  refine xq rfl (y_call [.agg (eSign a0).toArray] (.bool v1_1) func21 (fun W S => C.i_IsSign W hv1_1)) ?_
  refine p 1 ?_
  refine rend ?_
  refine c_or (!v1_1) (fun q1 => ?_) (fun q1 => ?_)
  · replace h := H.t q1 h
    refine c_seq ?_
    refine r_start ?_
    refine p 1 ?_
    refine xx rfl (x_sto 1 g0_1 0 (ePattern zPattern) ?_)
    refine p 1 ?_
    refine rend ?_
    replace h := H.done h
    subst h
    exact ret func61 rfl (vs := [.agg (ePattern zPattern).toArray, .bool false]) (.cell 1 g0_1 rfl (by kernel_rfl) (by kernel_rfl) (.tmp (by kernel_rfl) .nil)) rfl (fun W S => ⟨rfl, S.below⟩)
  replace h := H.f q1 h
  refine c_skip ?_
  refine c_seq ?_
  refine r_start ?_
  refine xq rfl (y_load (.agg (eSign a0).toArray) 0 g0_0 0) ?_
  obtain ⟨v3_1, hv3_1, h⟩ := H.call h
  refine xq rfl (y_call [.agg (eSign a0).toArray] (.agg (ePattern v3_1).toArray) func131 (fun W S => C.i_patternOf W hv3_1)) ?_
  refine xx rfl (x_sto 1 g0_1 0 (ePattern v3_1) ?_)
  refine p 1 ?_
  refine rend ?_
  replace h := H.done h
  subst h
  exact ret func61 rfl (vs := [.agg (ePattern v3_1).toArray, .bool true]) (.cell 1 g0_1 rfl (by kernel_rfl) (by kernel_rfl) (.tmp (by kernel_rfl) .nil)) rfl (fun W S => ⟨rfl, S.below⟩)
theorem C.l_pIn {a0 : (List Int)} {A0 : Option Addr} {k0 : Nat} {a1 : Int} {r : Bool} (w : World) (h : X.l_pIn a0 a1 = some r) (h0 : RdT (eI .i64) w (.slice A0 (List.length a0) k0) a0) : Calls prog 63 #[.slice A0 (List.length a0) k0, .int .i64 a1] w (Ret w (.bool r)) := by
  refine calls (M := no) (args := [.slice A0 (List.length a0) k0, .int .i64 a1]) func63 rfl ?_
  replace h : H (X.l_pIn a0 a1) (fun o => o = r) := H.mk h
  unfold X.l_pIn at h
  refine c_seq ?_
  refine r_start ?_
  refine p 1 ?_
  refine rend ?_
  refine c_seq ?_
  refine c_seq ?_
  refine r_start ?_
  refine p 3 ?_
  refine rend ?_
  refine c_block ?_
  refine joinE (X := Unit) 0 (H.or h) (fun (x : Unit) => x) (fun _ => []) (fun _ u => (jk u 0 17 [])) (fun h hj1 => ?_) ?_
  · skip
    refine rangeR (X := Unit) (s_arg h0) (fun (x : Unit) => x) (fun _ => []) (fun (j2 : Nat) _ u => (jk u 0 1 (.int .i64 a1 :: (jk u 2 5 (.slice A0 (List.length a0) k0 :: .int .i64 (List.length a0 : Int) :: .int .i64 (j2 : Int) :: (jk u 10 7 [])))))) () h (by kernel_rfl) (by kernel_rfl) ?_ ?_
    · intro j2 x u x3 q4 hg5 hw6 h
      refine c_seq ?_
      refine r_start ?_
      refine p 1 ?_
      refine rend ?_
      refine c_seq ?_
      refine c_yes q4 ?_
      refine c_skip ?_
      refine c_seq ?_
      refine c_block ?_
      refine c_seq ?_
      refine r_start ?_
      refine xq rfl (y_idx (e := (eI .i64)) (el := 3) hg5 (s_arg h0)) ?_
      refine xq rfl (y_el (e := (eI .i64)) 0 (.int .i64 x3) hg5 (s_arg h0)) ?_
      refine p 1 ?_
      refine rend ?_
      refine c_seq ?_
      refine r_start ?_
      refine p 3 ?_
      refine rend ?_
      refine c_or (x3 == a1) (fun q7 => ?_) (fun q7 => ?_)
      · replace h := H.t q7 h
        refine c_seq ?_
        refine r_start ?_
        refine p 1 ?_
        refine rend ?_
        replace h := H.inr h
        replace h := H.done h
        subst h
        exact ret func63 rfl (vs := [.bool true]) (.tmp (by kernel_rfl) .nil) rfl (fun W S => ⟨rfl, S.below⟩)
      replace h := H.f q7 h
      refine c_skip ?_
      refine c_inb ?_
      refine r_start ?_
      refine p 2 ?_
      refine rend ?_
      refine c_set 9 (ci hw6) ?_
      replace h := H.inl h
      exact h () _ _ rfl (by kernel_rfl) (by kernel_rfl)
    · intro x u q4 h
      refine c_seq ?_
      refine r_start ?_
      refine p 1 ?_
      refine rend ?_
      refine c_seq ?_
      refine c_no q4 ?_
      refine cx ?_
      replace h := H.done h
      exact hj1 () _ _ h (by kernel_rfl) (by kernel_rfl)
  intro x u h
  refine c_seq ?_
  refine r_start ?_
  refine p 1 ?_
  refine rend ?_
  replace h := H.done h
  subst h
  exact ret func63 rfl (vs := [.bool false]) (.tmp (by kernel_rfl) .nil) rfl (fun W S => ⟨rfl, S.below⟩)
theorem C.s_DrawIsWeaker {fu : Nat} {a0 : (List Int)} {A0 : Option Addr} {k0 : Nat} {r : (Pattern × Pattern)} (w : World) (h : X.s_DrawIsWeaker fu a0 = some r) (h0 : RdT (eI .u8) w (.slice A0 (List.length a0) k0) a0) : Calls prog 64 #[.slice A0 (List.length a0) k0] w (Ret w (.tuple #[.agg (ePattern r.1).toArray, .agg (ePattern r.2).toArray])) := by
  refine calls (M := no) (args := [.slice A0 (List.length a0) k0]) func64 rfl ?_
  replace h : H (X.s_DrawIsWeaker fu a0) (fun o => o = r) := H.mk h
  unfold X.s_DrawIsWeaker at h
  refine c_seq ?_
  refine r_start ?_
  refine xx rfl (x_new (ePattern zPattern) fun g0_0 => ?_)
  refine xx rfl (x_new (ePattern zPattern) fun g0_1 => ?_)
  refine rend ?_
  refine c_seq ?_
  refine r_start ?_
  refine p 2 ?_
  refine xx rfl (x_box [.slice A0 (List.length a0) k0, .int .i64 0, .int .u64 0] fun g1_2 => ?_)
  refine p 1 ?_
  refine rend ?_
  refine c_seq ?_
  refine r_start ?_
  refine p 2 ?_
  obtain ⟨v2_2, hv2_2, h⟩ := H.call h
  refine xx rfl (e_cq (cs' := [.slice A0 (List.length a0) k0, .int .i64 v2_2.2.1, .int .u64 v2_2.2.2]) (v := .agg (eSign v2_2.1).toArray) 2 [.pointer (some ⟨g1_2, 0, none⟩)] func138 (fun W S => C.s_l1Cur_sign W hv2_2 (S.bx 2) ((s_arg h0).out W S) (ap_arg h0 S 2)) ?_)
  obtain ⟨v2_3, hv2_3, h⟩ := H.call h
  refine xx rfl (e_cq (cs' := [.slice A0 (List.length a0) k0, .int .i64 v2_3.2.1, .int .u64 v2_3.2.2]) (v := .agg (ePattern v2_3.1).toArray) 2 [.pointer (some ⟨g1_2, 0, none⟩), .agg (eSign v2_2.1).toArray] func137 (fun W S => C.s_l1Cur_pattern W hv2_3 (S.bx 2) ((s_arg h0).out W S) (ap_arg h0 S 2)) ?_)
  refine xx rfl (x_new (ePattern zPattern) fun g2_4 => ?_)
  refine xx rfl (x_sto 3 g2_4 0 (ePattern v2_3.1) ?_)
  refine rend ?_
  refine c_seq ?_
  refine c_seq ?_
  refine r_start ?_
  refine p 1 ?_
  obtain ⟨v3_1, hv3_1, h⟩ := H.call h
  refine xx rfl (e_cq (cs' := [.slice A0 (List.length a0) k0, .int .i64 v3_1.2.1, .int .u64 v3_1.2.2]) (v := .bool v3_1.1) 2 [.pointer (some ⟨g1_2, 0, none⟩), .int .i64 2] func78 (fun W S => C.s_l1Cur_one W hv3_1 (S.bx 2) ((s_arg h0).out W S) (ap_arg h0 S 2)) ?_)
  refine p 1 ?_
  refine br v3_1.1 (fun q1 => ?_) (fun q1 => ?_)
  · replace h := H.t q1 h
    refine o_set 16 (congrArg Value.bool q1) ?_
    refine xq rfl (y_load (.agg (ePattern v2_3.1).toArray) 3 g2_4 0) ?_
    obtain ⟨v3_4, hv3_4, h⟩ := H.call h
    refine xq rfl (y_call [.agg (ePattern v2_3.1).toArray] (.bool v3_4) func129 (fun W S => C.s_seGood W hv3_4)) ?_
    refine p 1 ?_
    refine rend ?_
    refine c_or v3_4 (fun q2 => ?_) (fun q2 => ?_)
    · replace h := H.t q2 h
      refine c_seq ?_
      refine r_start ?_
      refine xq rfl (y_load (.agg (ePattern v2_3.1).toArray) 3 g2_4 0) ?_
      refine xx rfl (x_new (ePattern zPattern) fun g4_1 => ?_)
      refine xx rfl (x_sto 4 g4_1 0 (ePattern v2_3.1) ?_)
      refine rend ?_
      refine c_seq ?_
      refine r_start ?_
      refine p 2 ?_
      refine xq rfl (y_load (.string (bs v2_3.1.Shape)) 3 g2_4 0) ?_
      obtain ⟨v5_3, hv5_3, h⟩ := H.call h
      refine xx rfl (e_cq (cs' := [.slice A0 (List.length a0) k0, .int .i64 v5_3.2.1, .int .u64 v5_3.2.2]) (v := .string (bs v5_3.1)) 2 [.pointer (some ⟨g1_2, 0, none⟩), .string (bs v2_3.1.Shape)] func139 (fun W S => C.s_l1Cur_blur W hv5_3 (S.bx 2) ((s_arg h0).out W S) (ap_arg h0 S 2)) ?_)
      refine p 1 ?_
      refine xx rfl (x_sto 4 g4_1 0 (ePattern ({ v2_3.1 with Shape := v5_3.1 })) ?_)
      refine rend ?_
      refine c_seq ?_
      refine r_start ?_
      refine p 2 ?_
      refine xq rfl (y_load (.string (bs v2_3.1.Steps)) 3 g2_4 3) ?_
      refine xx rfl (e_lit (e := eS) (el := 9) [.string (bs ([42] : Str)), .string (bs v2_3.1.Steps)] ([([42] : Str), v2_3.1.Steps] : List Str) fun A6_3 k6_3 => ?_)
      obtain ⟨v6_4, hv6_4, h⟩ := H.call h
      refine xx rfl (e_cq (cs' := [.slice A0 (List.length a0) k0, .int .i64 v6_4.2.1, .int .u64 v6_4.2.2]) (v := .string (bs v6_4.1)) 2 [.pointer (some ⟨g1_2, 0, none⟩), .slice A6_3 (List.length ([([42] : Str), v2_3.1.Steps] : List Str)) k6_3] func117 (fun W S => C.s_l1Cur_of W hv6_4 (S.bx 2) ((s_arg h0).out W S) (ap_arg h0 S 2) ((s_own 5).out W S) (ap_row S 5 2 (by decide))) ?_)
      refine p 1 ?_
      refine xx rfl (x_sto 4 g4_1 3 (ePattern ({ v2_3.1 with Shape := v5_3.1, Steps := v6_4.1 })) ?_)
      refine rend ?_
      refine c_seq ?_
      refine c_seq ?_
      refine r_start ?_
      refine p 1 ?_
      obtain ⟨v7_1, hv7_1, h⟩ := H.call h
      refine xx rfl (e_cq (cs' := [.slice A0 (List.length a0) k0, .int .i64 v7_1.2.1, .int .u64 v7_1.2.2]) (v := .bool v7_1.1) 2 [.pointer (some ⟨g1_2, 0, none⟩), .int .i64 2] func78 (fun W S => C.s_l1Cur_one W hv7_1 (S.bx 2) ((s_arg h0).out W S) (ap_arg h0 S 2)) ?_)
      refine rend ?_
      refine c_or v7_1.1 (fun q3 => ?_) (fun q3 => ?_)
      · replace h := H.t q3 h
        refine c_seq ?_
        refine pick [2, 3, 4, 5, 0, 1] [box g1_2 94 [.slice A0 (List.length a0) k0, .int .i64 v7_1.2.1, .int .u64 v7_1.2.2], box g2_4 79 (ePattern v2_3.1), box g4_1 79 (ePattern ({ v2_3.1 with Shape := v5_3.1, Steps := v6_4.1 })), rowT eS w.heap.size 9 (.slice A6_3 (List.length ([([42] : Str), v2_3.1.Steps] : List Str)) k6_3) ([([42] : Str), v2_3.1.Steps] : List Str), box g0_0 79 (ePattern zPattern), box g0_1 79 (ePattern zPattern)] ?_
        refine as_startN 4 4 4 ?_
        refine aq 0 rfl (y_load (.agg (ePattern ({ v2_3.1 with Shape := v5_3.1, Steps := v6_4.1 })).toArray) 2 g4_1 0) ?_
        refine aq 1 rfl (y_load (.agg (ePattern v2_3.1).toArray) 1 g2_4 0) ?_
        refine ax 2 rfl (x_sto 4 g0_0 0 (ePattern ({ v2_3.1 with Shape := v5_3.1, Steps := v6_4.1 })) ⟨.inr (by kernel_rfl), ?_⟩)
        refine ax 3 rfl (x_sto 5 g0_1 0 (ePattern v2_3.1) ⟨.inr (by kernel_rfl), ?_⟩)
        refine a_done ?_
        refine pick [4, 5, 0, 1, 2, 3] [box g0_0 79 (ePattern ({ v2_3.1 with Shape := v5_3.1, Steps := v6_4.1 })), box g0_1 79 (ePattern v2_3.1), box g1_2 94 [.slice A0 (List.length a0) k0, .int .i64 v7_1.2.1, .int .u64 v7_1.2.2], box g2_4 79 (ePattern v2_3.1), box g4_1 79 (ePattern ({ v2_3.1 with Shape := v5_3.1, Steps := v6_4.1 })), rowT eS w.heap.size 9 (.slice A6_3 (List.length ([([42] : Str), v2_3.1.Steps] : List Str)) k6_3) ([([42] : Str), v2_3.1.Steps] : List Str)] ?_
        replace h := H.done h
        subst h
        exact ret func64 rfl (vs := [.agg (ePattern ({ v2_3.1 with Shape := v5_3.1, Steps := v6_4.1 })).toArray, .agg (ePattern v2_3.1).toArray]) (.cell 0 g0_0 rfl (by kernel_rfl) (by kernel_rfl) (.cell 1 g0_1 rfl (by kernel_rfl) (by kernel_rfl) .nil)) rfl (fun W S => ⟨rfl, S.below⟩)
      replace h := H.f q3 h
      refine c_skip ?_
      refine c_seq ?_
      refine pick [2, 3, 4, 5, 0, 1] [box g1_2 94 [.slice A0 (List.length a0) k0, .int .i64 v7_1.2.1, .int .u64 v7_1.2.2], box g2_4 79 (ePattern v2_3.1), box g4_1 79 (ePattern ({ v2_3.1 with Shape := v5_3.1, Steps := v6_4.1 })), rowT eS w.heap.size 9 (.slice A6_3 (List.length ([([42] : Str), v2_3.1.Steps] : List Str)) k6_3) ([([42] : Str), v2_3.1.Steps] : List Str), box g0_0 79 (ePattern zPattern), box g0_1 79 (ePattern zPattern)] ?_
      refine as_startN 4 4 4 ?_
      refine aq 0 rfl (y_load (.agg (ePattern v2_3.1).toArray) 1 g2_4 0) ?_
      refine aq 1 rfl (y_load (.agg (ePattern ({ v2_3.1 with Shape := v5_3.1, Steps := v6_4.1 })).toArray) 2 g4_1 0) ?_
      refine ax 2 rfl (x_sto 4 g0_0 0 (ePattern v2_3.1) ⟨.inr (by kernel_rfl), ?_⟩)
      refine ax 3 rfl (x_sto 5 g0_1 0 (ePattern ({ v2_3.1 with Shape := v5_3.1, Steps := v6_4.1 })) ⟨.inr (by kernel_rfl), ?_⟩)
      refine a_done ?_
      refine pick [4, 5, 0, 1, 2, 3] [box g0_0 79 (ePattern v2_3.1), box g0_1 79 (ePattern ({ v2_3.1 with Shape := v5_3.1, Steps := v6_4.1 })), box g1_2 94 [.slice A0 (List.length a0) k0, .int .i64 v7_1.2.1, .int .u64 v7_1.2.2], box g2_4 79 (ePattern v2_3.1), box g4_1 79 (ePattern ({ v2_3.1 with Shape := v5_3.1, Steps := v6_4.1 })), rowT eS w.heap.size 9 (.slice A6_3 (List.length ([([42] : Str), v2_3.1.Steps] : List Str)) k6_3) ([([42] : Str), v2_3.1.Steps] : List Str)] ?_
      replace h := H.done h
      subst h
      exact ret func64 rfl (vs := [.agg (ePattern v2_3.1).toArray, .agg (ePattern ({ v2_3.1 with Shape := v5_3.1, Steps := v6_4.1 })).toArray]) (.cell 0 g0_0 rfl (by kernel_rfl) (by kernel_rfl) (.cell 1 g0_1 rfl (by kernel_rfl) (by kernel_rfl) .nil)) rfl (fun W S => ⟨rfl, S.below⟩)
    replace h := H.f q2 h
    refine c_skip ?_
    refine c_seq ?_
    refine pick [0, 1, 3, 2] [box g0_0 79 (ePattern zPattern), box g0_1 79 (ePattern zPattern), box g2_4 79 (ePattern v2_3.1), box g1_2 94 [.slice A0 (List.length a0) k0, .int .i64 v3_1.2.1, .int .u64 v3_1.2.2]] ?_
    refine as_startN 5 3 7 ?_
    refine aq 0 rfl (y_load (.agg (ePattern v2_3.1).toArray) 2 g2_4 0) ?_
    refine ap 1 2 ?_
    obtain ⟨v10_3, hv10_3, h⟩ := H.call h
    refine ax 3 rfl (e_cq (cs' := [.slice A0 (List.length a0) k0, .int .i64 v10_3.2.1, .int .u64 v10_3.2.2]) (v := .agg (eSign v10_3.1).toArray) 3 [.pointer (some ⟨g1_2, 0, none⟩)] func138 (fun W S => C.s_l1Cur_sign W hv10_3 (S.bx 3) ((s_arg h0).out W S) (ap_arg h0 S 3)) ⟨.inr (by kernel_rfl), ?_⟩)
    obtain ⟨v10_4, hv10_4, h⟩ := H.call h
    refine ax 4 rfl (e_cq (cs' := [.slice A0 (List.length a0) k0, .int .i64 v10_4.2.1, .int .u64 v10_4.2.2]) (v := .agg (ePattern v10_4.1).toArray) 3 [.pointer (some ⟨g1_2, 0, none⟩), .agg (eSign v10_3.1).toArray] func137 (fun W S => C.s_l1Cur_pattern W hv10_4 (S.bx 3) ((s_arg h0).out W S) (ap_arg h0 S 3)) ⟨.inr (by kernel_rfl), ?_⟩)
    refine ax 5 rfl (x_sto 0 g0_0 0 (ePattern v2_3.1) ⟨.inl (by kernel_rfl), ?_⟩)
    refine ax 6 rfl (x_sto 1 g0_1 0 (ePattern v10_4.1) ⟨.inl (by kernel_rfl), ?_⟩)
    refine a_done ?_
    refine pick [0, 1, 3, 2] [box g0_0 79 (ePattern v2_3.1), box g0_1 79 (ePattern v10_4.1), box g1_2 94 [.slice A0 (List.length a0) k0, .int .i64 v10_4.2.1, .int .u64 v10_4.2.2], box g2_4 79 (ePattern v2_3.1)] ?_
    replace h := H.done h
    subst h
    exact ret func64 rfl (vs := [.agg (ePattern v2_3.1).toArray, .agg (ePattern v10_4.1).toArray]) (.cell 0 g0_0 rfl (by kernel_rfl) (by kernel_rfl) (.cell 1 g0_1 rfl (by kernel_rfl) (by kernel_rfl) .nil)) rfl (fun W S => ⟨rfl, S.below⟩)
  replace h := H.f q1 h
  refine o_set 16 (congrArg Value.bool q1) ?_
  refine p 3 ?_
  refine rend ?_
  refine c_f (by kernel_rfl) ?_
  refine c_skip ?_
  refine c_seq ?_
  refine pick [0, 1, 3, 2] [box g0_0 79 (ePattern zPattern), box g0_1 79 (ePattern zPattern), box g2_4 79 (ePattern v2_3.1), box g1_2 94 [.slice A0 (List.length a0) k0, .int .i64 v3_1.2.1, .int .u64 v3_1.2.2]] ?_
  refine as_startN 5 3 7 ?_
  refine aq 0 rfl (y_load (.agg (ePattern v2_3.1).toArray) 2 g2_4 0) ?_
  refine ap 1 2 ?_
  obtain ⟨v10_3, hv10_3, h⟩ := H.call h
  refine ax 3 rfl (e_cq (cs' := [.slice A0 (List.length a0) k0, .int .i64 v10_3.2.1, .int .u64 v10_3.2.2]) (v := .agg (eSign v10_3.1).toArray) 3 [.pointer (some ⟨g1_2, 0, none⟩)] func138 (fun W S => C.s_l1Cur_sign W hv10_3 (S.bx 3) ((s_arg h0).out W S) (ap_arg h0 S 3)) ⟨.inr (by kernel_rfl), ?_⟩)
  obtain ⟨v10_4, hv10_4, h⟩ := H.call h
  refine ax 4 rfl (e_cq (cs' := [.slice A0 (List.length a0) k0, .int .i64 v10_4.2.1, .int .u64 v10_4.2.2]) (v := .agg (ePattern v10_4.1).toArray) 3 [.pointer (some ⟨g1_2, 0, none⟩), .agg (eSign v10_3.1).toArray] func137 (fun W S => C.s_l1Cur_pattern W hv10_4 (S.bx 3) ((s_arg h0).out W S) (ap_arg h0 S 3)) ⟨.inr (by kernel_rfl), ?_⟩)
  refine ax 5 rfl (x_sto 0 g0_0 0 (ePattern v2_3.1) ⟨.inl (by kernel_rfl), ?_⟩)
  refine ax 6 rfl (x_sto 1 g0_1 0 (ePattern v10_4.1) ⟨.inl (by kernel_rfl), ?_⟩)
  refine a_done ?_
  refine pick [0, 1, 3, 2] [box g0_0 79 (ePattern v2_3.1), box g0_1 79 (ePattern v10_4.1), box g1_2 94 [.slice A0 (List.length a0) k0, .int .i64 v10_4.2.1, .int .u64 v10_4.2.2], box g2_4 79 (ePattern v2_3.1)] ?_
  replace h := H.done h
  subst h
  exact ret func64 rfl (vs := [.agg (ePattern v2_3.1).toArray, .agg (ePattern v10_4.1).toArray]) (.cell 0 g0_0 rfl (by kernel_rfl) (by kernel_rfl) (.cell 1 g0_1 rfl (by kernel_rfl) (by kernel_rfl) .nil)) rfl (fun W S => ⟨rfl, S.below⟩)
theorem C.i_IsWeaker {a0 : Pattern} {a1 : Pattern} {r : (Bool × Bool)} (w : World) (h : X.i_IsWeaker a0 a1 = some r) : Calls prog 65 #[.agg (ePattern a0).toArray, .agg (ePattern a1).toArray] w (Ret w (.tuple #[.bool r.1, .bool r.2])) := by
  refine calls (M := no) (args := [.agg (ePattern a0).toArray, .agg (ePattern a1).toArray]) func65 rfl ?_
  replace h : H (X.i_IsWeaker a0 a1) (fun o => o = r) := H.mk h
  unfold X.i_IsWeaker at h
  refine c_seq ?_
  refine r_start ?_
  refine xx rfl (x_box (ePattern a0) fun g0_0 => ?_)
  refine xx rfl (x_box (ePattern a1) fun g0_1 => ?_)
  refine p 2 ?_
  refine rend ?_
  refine c_seq ?_
  refine c_seq ?_
  refine r_start ?_
  refine xq rfl (y_load (.agg (ePattern a0).toArray) 0 g0_0 0) ?_
  obtain ⟨v1_1, hv1_1, h⟩ := H.call h
  refine xq rfl (y_call [.agg (ePattern a0).toArray] (.bool v1_1) func56 (fun W S => C.i_IsPattern W hv1_1)) ?_
  refine p 2 ?_
  refine br (!v1_1) (fun q1 => ?_) (fun q1 => ?_)
  · replace h := H.t q1 h
    refine o_set 10 (congrArg Value.bool q1) ?_
    refine p 4 ?_
    refine rend ?_
    refine c_t (by kernel_rfl) ?_
    refine c_seq ?_
    refine r_start ?_
    refine p 2 ?_
    refine rend ?_
    replace h := H.done h
    subst h
    exact ret func65 rfl (vs := [.bool false, .bool false]) (.tmp (by kernel_rfl) (.tmp (by kernel_rfl) .nil)) rfl (fun W S => ⟨rfl, S.below⟩)
  replace h := H.f q1 h
  refine o_set 10 (congrArg Value.bool q1) ?_
  refine xq rfl (y_load (.agg (ePattern a1).toArray) 1 g0_1 0) ?_
  obtain ⟨v1_5, hv1_5, h⟩ := H.call h
  refine xq rfl (y_call [.agg (ePattern a1).toArray] (.bool v1_5) func56 (fun W S => C.i_IsPattern W hv1_5)) ?_
  refine p 2 ?_
  refine rend ?_
  refine c_or (!v1_5) (fun q2 => ?_) (fun q2 => ?_)
  · replace h := H.t q2 h
    refine c_seq ?_
    refine r_start ?_
    refine p 2 ?_
    refine rend ?_
    replace h := H.done h
    subst h
    exact ret func65 rfl (vs := [.bool false, .bool false]) (.tmp (by kernel_rfl) (.tmp (by kernel_rfl) .nil)) rfl (fun W S => ⟨rfl, S.below⟩)
  replace h := H.f q2 h
  refine c_skip ?_
  refine c_seq ?_
  refine r_start ?_
  refine p 1 ?_
  refine xq rfl (y_load (.string (bs a0.Shape)) 0 g0_0 0) ?_
  refine p 1 ?_
  refine xq rfl (y_load (.string (bs a1.Shape)) 1 g0_1 0) ?_
  obtain ⟨v3_4, hv3_4, h⟩ := H.call h
  refine xq rfl (y_call [.string (bs a0.Shape), .string (bs a1.Shape)] (.int .i64 v3_4) func140 (fun W S => C.i_apart W hv3_4)) ?_
  refine p 2 ?_
  refine br (v3_4 == 0) (fun q3 => ?_) (fun q3 => ?_)
  · replace h := H.t q3 h
    refine o_set 21 (congrArg Value.bool q3) ?_
    refine p 1 ?_
    refine xq rfl (y_load (.string (bs a0.Orient)) 0 g0_0 1) ?_
    refine p 1 ?_
    refine xq rfl (y_load (.string (bs a1.Orient)) 1 g0_1 1) ?_
    obtain ⟨v3_11, hv3_11, h⟩ := H.call h
    refine xq rfl (y_call [.string (bs a0.Orient), .string (bs a1.Orient)] (.int .i64 v3_11) func140 (fun W S => C.i_apart W hv3_11)) ?_
    refine p 3 ?_
    refine br (v3_11 == 0) (fun q4 => ?_) (fun q4 => ?_)
    · replace h := H.t q4 h
      refine o_set 29 (congrArg Value.bool q4) ?_
      refine p 1 ?_
      refine xq rfl (y_load (.int .i64 a0.Region) 0 g0_0 2) ?_
      refine p 2 ?_
      refine br (decide (a0.Region < 0)) (fun q5 => ?_) (fun q5 => ?_)
      · replace h := H.t q5 h
        refine o_set 33 (congrArg Value.bool q5) ?_
        refine p 9 ?_
        refine xq rfl (y_load (.int .i64 a0.Hands) 0 g0_0 4) ?_
        refine p 2 ?_
        refine br (a0.Hands == 0) (fun q6 => ?_) (fun q6 => ?_)
        · replace h := H.t q6 h
          refine o_set 45 (congrArg Value.bool q6) ?_
          refine p 9 ?_
          refine xq rfl (y_load (.string (bs a0.Steps)) 0 g0_0 3) ?_
          refine p 2 ?_
          refine br (seq a0.Steps ([42] : Str)) (fun q7 => ?_) (fun q7 => ?_)
          · replace h := H.t q7 h
            refine o_set 57 (congrArg Value.bool q7) ?_
            refine p 8 ?_
            refine rend ?_
            refine c_seq ?_
            refine r_start ?_
            refine p 3 ?_
            refine rend ?_
            replace h := H.done h
            subst h
            exact ret func65 rfl (vs := [.bool true, .bool true]) (.tmp (by kernel_rfl) (.tmp (by kernel_rfl) .nil)) rfl (fun W S => ⟨rfl, S.below⟩)
          replace h := H.f q7 h
          refine o_set 57 (congrArg Value.bool q7) ?_
          refine p 1 ?_
          refine xq rfl (y_load (.string (bs a0.Steps)) 0 g0_0 3) ?_
          refine p 1 ?_
          refine xq rfl (y_load (.string (bs a1.Steps)) 1 g0_1 3) ?_
          refine p 4 ?_
          refine rend ?_
          refine c_seq ?_
          refine r_start ?_
          refine p 3 ?_
          refine rend ?_
          replace h := H.done h
          subst h
          exact ret func65 rfl (vs := [.bool (seq a0.Steps a1.Steps), .bool true]) (.tmp (by kernel_rfl) (.tmp (by kernel_rfl) .nil)) rfl (fun W S => ⟨rfl, S.below⟩)
        replace h := H.f q6 h
        refine o_set 45 (congrArg Value.bool q6) ?_
        refine p 1 ?_
        refine xq rfl (y_load (.int .i64 a0.Hands) 0 g0_0 4) ?_
        refine p 1 ?_
        refine xq rfl (y_load (.int .i64 a1.Hands) 1 g0_1 4) ?_
        refine p 4 ?_
        refine br (a0.Hands == a1.Hands) (fun q8 => ?_) (fun q8 => ?_)
        · replace h := H.t q8 h
          refine o_set 53 (congrArg Value.bool q8) ?_
          refine p 1 ?_
          refine xq rfl (y_load (.string (bs a0.Steps)) 0 g0_0 3) ?_
          refine p 2 ?_
          refine br (seq a0.Steps ([42] : Str)) (fun q9 => ?_) (fun q9 => ?_)
          · replace h := H.t q9 h
            refine o_set 57 (congrArg Value.bool q9) ?_
            refine p 8 ?_
            refine rend ?_
            refine c_seq ?_
            refine r_start ?_
            refine p 3 ?_
            refine rend ?_
            replace h := H.done h
            subst h
            exact ret func65 rfl (vs := [.bool true, .bool true]) (.tmp (by kernel_rfl) (.tmp (by kernel_rfl) .nil)) rfl (fun W S => ⟨rfl, S.below⟩)
          replace h := H.f q9 h
          refine o_set 57 (congrArg Value.bool q9) ?_
          refine p 1 ?_
          refine xq rfl (y_load (.string (bs a0.Steps)) 0 g0_0 3) ?_
          refine p 1 ?_
          refine xq rfl (y_load (.string (bs a1.Steps)) 1 g0_1 3) ?_
          refine p 4 ?_
          refine rend ?_
          refine c_seq ?_
          refine r_start ?_
          refine p 3 ?_
          refine rend ?_
          replace h := H.done h
          subst h
          exact ret func65 rfl (vs := [.bool (seq a0.Steps a1.Steps), .bool true]) (.tmp (by kernel_rfl) (.tmp (by kernel_rfl) .nil)) rfl (fun W S => ⟨rfl, S.below⟩)
        replace h := H.f q8 h
        refine o_set 53 (congrArg Value.bool q8) ?_
        refine p 12 ?_
        refine rend ?_
        refine c_seq ?_
        refine r_start ?_
        refine p 3 ?_
        refine rend ?_
        replace h := H.done h
        subst h
        exact ret func65 rfl (vs := [.bool false, .bool true]) (.tmp (by kernel_rfl) (.tmp (by kernel_rfl) .nil)) rfl (fun W S => ⟨rfl, S.below⟩)
      replace h := H.f q5 h
      refine o_set 33 (congrArg Value.bool q5) ?_
      refine p 1 ?_
      refine xq rfl (y_load (.int .i64 a0.Region) 0 g0_0 2) ?_
      refine p 1 ?_
      refine xq rfl (y_load (.int .i64 a1.Region) 1 g0_1 2) ?_
      refine p 4 ?_
      refine br (a0.Region == a1.Region) (fun q10 => ?_) (fun q10 => ?_)
      · replace h := H.t q10 h
        refine o_set 41 (congrArg Value.bool q10) ?_
        refine p 1 ?_
        refine xq rfl (y_load (.int .i64 a0.Hands) 0 g0_0 4) ?_
        refine p 2 ?_
        refine br (a0.Hands == 0) (fun q11 => ?_) (fun q11 => ?_)
        · replace h := H.t q11 h
          refine o_set 45 (congrArg Value.bool q11) ?_
          refine p 9 ?_
          refine xq rfl (y_load (.string (bs a0.Steps)) 0 g0_0 3) ?_
          refine p 2 ?_
          refine br (seq a0.Steps ([42] : Str)) (fun q12 => ?_) (fun q12 => ?_)
          · replace h := H.t q12 h
            refine o_set 57 (congrArg Value.bool q12) ?_
            refine p 8 ?_
            refine rend ?_
            refine c_seq ?_
            refine r_start ?_
            refine p 3 ?_
            refine rend ?_
            replace h := H.done h
            subst h
            exact ret func65 rfl (vs := [.bool true, .bool true]) (.tmp (by kernel_rfl) (.tmp (by kernel_rfl) .nil)) rfl (fun W S => ⟨rfl, S.below⟩)
          replace h := H.f q12 h
          refine o_set 57 (congrArg Value.bool q12) ?_
          refine p 1 ?_
          refine xq rfl (y_load (.string (bs a0.Steps)) 0 g0_0 3) ?_
          refine p 1 ?_
          refine xq rfl (y_load (.string (bs a1.Steps)) 1 g0_1 3) ?_
          refine p 4 ?_
          refine rend ?_
          refine c_seq ?_
          refine r_start ?_
          refine p 3 ?_
          refine rend ?_
          replace h := H.done h
          subst h
          exact ret func65 rfl (vs := [.bool (seq a0.Steps a1.Steps), .bool true]) (.tmp (by kernel_rfl) (.tmp (by kernel_rfl) .nil)) rfl (fun W S => ⟨rfl, S.below⟩)
        replace h := H.f q11 h
        refine o_set 45 (congrArg Value.bool q11) ?_
        refine p 1 ?_
        refine xq rfl (y_load (.int .i64 a0.Hands) 0 g0_0 4) ?_
        refine p 1 ?_
        refine xq rfl (y_load (.int .i64 a1.Hands) 1 g0_1 4) ?_
        refine p 4 ?_
        refine br (a0.Hands == a1.Hands) (fun q13 => ?_) (fun q13 => ?_)
        · replace h := H.t q13 h
          refine o_set 53 (congrArg Value.bool q13) ?_
          refine p 1 ?_
          refine xq rfl (y_load (.string (bs a0.Steps)) 0 g0_0 3) ?_
          refine p 2 ?_
          refine br (seq a0.Steps ([42] : Str)) (fun q14 => ?_) (fun q14 => ?_)
          · replace h := H.t q14 h
            refine o_set 57 (congrArg Value.bool q14) ?_
            refine p 8 ?_
            refine rend ?_
            refine c_seq ?_
            refine r_start ?_
            refine p 3 ?_
            refine rend ?_
            replace h := H.done h
            subst h
            exact ret func65 rfl (vs := [.bool true, .bool true]) (.tmp (by kernel_rfl) (.tmp (by kernel_rfl) .nil)) rfl (fun W S => ⟨rfl, S.below⟩)
          replace h := H.f q14 h
          refine o_set 57 (congrArg Value.bool q14) ?_
          refine p 1 ?_
          refine xq rfl (y_load (.string (bs a0.Steps)) 0 g0_0 3) ?_
          refine p 1 ?_
          refine xq rfl (y_load (.string (bs a1.Steps)) 1 g0_1 3) ?_
          refine p 4 ?_
          refine rend ?_
          refine c_seq ?_
          refine r_start ?_
          refine p 3 ?_
          refine rend ?_
          replace h := H.done h
          subst h
          exact ret func65 rfl (vs := [.bool (seq a0.Steps a1.Steps), .bool true]) (.tmp (by kernel_rfl) (.tmp (by kernel_rfl) .nil)) rfl (fun W S => ⟨rfl, S.below⟩)
        replace h := H.f q13 h
        refine o_set 53 (congrArg Value.bool q13) ?_
        refine p 12 ?_
        refine rend ?_
        refine c_seq ?_
        refine r_start ?_
        refine p 3 ?_
        refine rend ?_
        replace h := H.done h
        subst h
        exact ret func65 rfl (vs := [.bool false, .bool true]) (.tmp (by kernel_rfl) (.tmp (by kernel_rfl) .nil)) rfl (fun W S => ⟨rfl, S.below⟩)
      replace h := H.f q10 h
      refine o_set 41 (congrArg Value.bool q10) ?_
      refine p 24 ?_
      refine rend ?_
      refine c_seq ?_
      refine r_start ?_
      refine p 3 ?_
      refine rend ?_
      replace h := H.done h
      subst h
      exact ret func65 rfl (vs := [.bool false, .bool true]) (.tmp (by kernel_rfl) (.tmp (by kernel_rfl) .nil)) rfl (fun W S => ⟨rfl, S.below⟩)
    replace h := H.f q4 h
    refine o_set 29 (congrArg Value.bool q4) ?_
    refine p 36 ?_
    refine rend ?_
    refine c_seq ?_
    refine r_start ?_
    refine p 3 ?_
    refine rend ?_
    replace h := H.done h
    subst h
    exact ret func65 rfl (vs := [.bool false, .bool true]) (.tmp (by kernel_rfl) (.tmp (by kernel_rfl) .nil)) rfl (fun W S => ⟨rfl, S.below⟩)
  replace h := H.f q3 h
  refine o_set 21 (congrArg Value.bool q3) ?_
  refine p 44 ?_
  refine rend ?_
  refine c_seq ?_
  refine r_start ?_
  refine p 3 ?_
  refine rend ?_
  replace h := H.done h
  subst h
  exact ret func65 rfl (vs := [.bool false, .bool true]) (.tmp (by kernel_rfl) (.tmp (by kernel_rfl) .nil)) rfl (fun W S => ⟨rfl, S.below⟩)
theorem C.s_IsWeaker {fu : Nat} {a0 : Pattern} {a1 : Pattern} {r : (Bool × Bool)} (w : World) (h : X.s_IsWeaker fu a0 a1 = some r) : Calls prog 66 #[.agg (ePattern a0).toArray, .agg (ePattern a1).toArray] w (Ret w (.tuple #[.bool r.1, .bool r.2])) := by
  refine calls (M := no) (args := [.agg (ePattern a0).toArray, .agg (ePattern a1).toArray]) func66 rfl ?_
  replace h : H (X.s_IsWeaker fu a0 a1) (fun o => o = r) := H.mk h
  unfold X.s_IsWeaker at h
  refine c_seq ?_
  refine r_start ?_
  refine xx rfl (x_box (ePattern a0) fun g0_0 => ?_)
  refine xx rfl (x_box (ePattern a1) fun g0_1 => ?_)
  refine p 2 ?_
  refine rend ?_
  refine c_seq ?_
  refine c_seq ?_
  refine r_start ?_
  refine xq rfl (y_load (.agg (ePattern a0).toArray) 0 g0_0 0) ?_
  obtain ⟨v1_1, hv1_1, h⟩ := H.call h
  refine xq rfl (y_call [.agg (ePattern a0).toArray] (.bool v1_1) func129 (fun W S => C.s_seGood W hv1_1)) ?_
  refine p 2 ?_
  refine br (!v1_1) (fun q1 => ?_) (fun q1 => ?_)
  · replace h := H.t q1 h
    refine o_set 9 (congrArg Value.bool q1) ?_
    refine p 4 ?_
    refine rend ?_
    refine c_t (by kernel_rfl) ?_
    refine c_seq ?_
    refine r_start ?_
    refine p 2 ?_
    refine rend ?_
    replace h := H.done h
    subst h
    exact ret func66 rfl (vs := [.bool false, .bool false]) (.tmp (by kernel_rfl) (.tmp (by kernel_rfl) .nil)) rfl (fun W S => ⟨rfl, S.below⟩)
  replace h := H.f q1 h
  refine o_set 9 (congrArg Value.bool q1) ?_
  refine xq rfl (y_load (.agg (ePattern a1).toArray) 1 g0_1 0) ?_
  obtain ⟨v1_5, hv1_5, h⟩ := H.call h
  refine xq rfl (y_call [.agg (ePattern a1).toArray] (.bool v1_5) func129 (fun W S => C.s_seGood W hv1_5)) ?_
  refine p 2 ?_
  refine rend ?_
  refine c_or (!v1_5) (fun q2 => ?_) (fun q2 => ?_)
  · replace h := H.t q2 h
    refine c_seq ?_
    refine r_start ?_
    refine p 2 ?_
    refine rend ?_
    replace h := H.done h
    subst h
    exact ret func66 rfl (vs := [.bool false, .bool false]) (.tmp (by kernel_rfl) (.tmp (by kernel_rfl) .nil)) rfl (fun W S => ⟨rfl, S.below⟩)
  replace h := H.f q2 h
  refine c_skip ?_
  refine c_seq ?_
  refine r_start ?_
  refine p 1 ?_
  refine xq rfl (y_load (.string (bs a0.Shape)) 0 g0_0 0) ?_
  refine p 1 ?_
  refine xq rfl (y_load (.string (bs a1.Shape)) 1 g0_1 0) ?_
  obtain ⟨v3_4, hv3_4, h⟩ := H.call h
  refine xq rfl (y_call [.string (bs a0.Shape), .string (bs a1.Shape)] (.int .i64 v3_4) func141 (fun W S => C.s_seMissed W hv3_4)) ?_
  refine p 2 ?_
  refine br (v3_4 == 0) (fun q3 => ?_) (fun q3 => ?_)
  · replace h := H.t q3 h
    refine o_set 20 (congrArg Value.bool q3) ?_
    refine p 1 ?_
    refine xq rfl (y_load (.string (bs a0.Orient)) 0 g0_0 1) ?_
    refine p 1 ?_
    refine xq rfl (y_load (.string (bs a1.Orient)) 1 g0_1 1) ?_
    obtain ⟨v3_11, hv3_11, h⟩ := H.call h
    refine xq rfl (y_call [.string (bs a0.Orient), .string (bs a1.Orient)] (.int .i64 v3_11) func141 (fun W S => C.s_seMissed W hv3_11)) ?_
    refine p 3 ?_
    refine br (v3_11 == 0) (fun q4 => ?_) (fun q4 => ?_)
    · replace h := H.t q4 h
      refine o_set 28 (congrArg Value.bool q4) ?_
      refine p 1 ?_
      refine xq rfl (y_load (.int .i64 a0.Region) 0 g0_0 2) ?_
      refine p 2 ?_
      refine br (decide (a0.Region < 0)) (fun q5 => ?_) (fun q5 => ?_)
      · replace h := H.t q5 h
        refine o_set 32 (congrArg Value.bool q5) ?_
        refine p 9 ?_
        refine xq rfl (y_load (.int .i64 a0.Hands) 0 g0_0 4) ?_
        refine p 2 ?_
        refine br (a0.Hands == 0) (fun q6 => ?_) (fun q6 => ?_)
        · replace h := H.t q6 h
          refine o_set 44 (congrArg Value.bool q6) ?_
          refine p 9 ?_
          refine xq rfl (y_load (.string (bs a0.Steps)) 0 g0_0 3) ?_
          refine p 2 ?_
          refine br (seq a0.Steps ([42] : Str)) (fun q7 => ?_) (fun q7 => ?_)
          · replace h := H.t q7 h
            refine o_set 56 (congrArg Value.bool q7) ?_
            refine p 9 ?_
            refine rend ?_
            replace h := H.done h
            subst h
            exact ret func66 rfl (vs := [.bool true, .bool true]) (.tmp (by kernel_rfl) (.tmp (by kernel_rfl) .nil)) rfl (fun W S => ⟨rfl, S.below⟩)
          replace h := H.f q7 h
          refine o_set 56 (congrArg Value.bool q7) ?_
          refine p 1 ?_
          refine xq rfl (y_load (.string (bs a0.Steps)) 0 g0_0 3) ?_
          refine p 1 ?_
          refine xq rfl (y_load (.string (bs a1.Steps)) 1 g0_1 3) ?_
          refine p 5 ?_
          refine rend ?_
          replace h := H.done h
          subst h
          exact ret func66 rfl (vs := [.bool (seq a0.Steps a1.Steps), .bool true]) (.tmp (by kernel_rfl) (.tmp (by kernel_rfl) .nil)) rfl (fun W S => ⟨rfl, S.below⟩)
        replace h := H.f q6 h
        refine o_set 44 (congrArg Value.bool q6) ?_
        refine p 1 ?_
        refine xq rfl (y_load (.int .i64 a0.Hands) 0 g0_0 4) ?_
        refine p 1 ?_
        refine xq rfl (y_load (.int .i64 a1.Hands) 1 g0_1 4) ?_
        refine p 4 ?_
        refine br (a0.Hands == a1.Hands) (fun q8 => ?_) (fun q8 => ?_)
        · replace h := H.t q8 h
          refine o_set 52 (congrArg Value.bool q8) ?_
          refine p 1 ?_
          refine xq rfl (y_load (.string (bs a0.Steps)) 0 g0_0 3) ?_
          refine p 2 ?_
          refine br (seq a0.Steps ([42] : Str)) (fun q9 => ?_) (fun q9 => ?_)
          · replace h := H.t q9 h
            refine o_set 56 (congrArg Value.bool q9) ?_
            refine p 9 ?_
            refine rend ?_
            replace h := H.done h
            subst h
            exact ret func66 rfl (vs := [.bool true, .bool true]) (.tmp (by kernel_rfl) (.tmp (by kernel_rfl) .nil)) rfl (fun W S => ⟨rfl, S.below⟩)
          replace h := H.f q9 h
          refine o_set 56 (congrArg Value.bool q9) ?_
          refine p 1 ?_
          refine xq rfl (y_load (.string (bs a0.Steps)) 0 g0_0 3) ?_
          refine p 1 ?_
          refine xq rfl (y_load (.string (bs a1.Steps)) 1 g0_1 3) ?_
          refine p 5 ?_
          refine rend ?_
          replace h := H.done h
          subst h
          exact ret func66 rfl (vs := [.bool (seq a0.Steps a1.Steps), .bool true]) (.tmp (by kernel_rfl) (.tmp (by kernel_rfl) .nil)) rfl (fun W S => ⟨rfl, S.below⟩)
        replace h := H.f q8 h
        refine o_set 52 (congrArg Value.bool q8) ?_
        refine p 13 ?_
        refine rend ?_
        replace h := H.done h
        subst h
        exact ret func66 rfl (vs := [.bool false, .bool true]) (.tmp (by kernel_rfl) (.tmp (by kernel_rfl) .nil)) rfl (fun W S => ⟨rfl, S.below⟩)
      replace h := H.f q5 h
      refine o_set 32 (congrArg Value.bool q5) ?_
      refine p 1 ?_
      refine xq rfl (y_load (.int .i64 a0.Region) 0 g0_0 2) ?_
      refine p 1 ?_
      refine xq rfl (y_load (.int .i64 a1.Region) 1 g0_1 2) ?_
      refine p 4 ?_
      refine br (a0.Region == a1.Region) (fun q10 => ?_) (fun q10 => ?_)
      · replace h := H.t q10 h
        refine o_set 40 (congrArg Value.bool q10) ?_
        refine p 1 ?_
        refine xq rfl (y_load (.int .i64 a0.Hands) 0 g0_0 4) ?_
        refine p 2 ?_
        refine br (a0.Hands == 0) (fun q11 => ?_) (fun q11 => ?_)
        · replace h := H.t q11 h
          refine o_set 44 (congrArg Value.bool q11) ?_
          refine p 9 ?_
          refine xq rfl (y_load (.string (bs a0.Steps)) 0 g0_0 3) ?_
          refine p 2 ?_
          refine br (seq a0.Steps ([42] : Str)) (fun q12 => ?_) (fun q12 => ?_)
          · replace h := H.t q12 h
            refine o_set 56 (congrArg Value.bool q12) ?_
            refine p 9 ?_
            refine rend ?_
            replace h := H.done h
            subst h
            exact ret func66 rfl (vs := [.bool true, .bool true]) (.tmp (by kernel_rfl) (.tmp (by kernel_rfl) .nil)) rfl (fun W S => ⟨rfl, S.below⟩)
          replace h := H.f q12 h
          refine o_set 56 (congrArg Value.bool q12) ?_
          refine p 1 ?_
          refine xq rfl (y_load (.string (bs a0.Steps)) 0 g0_0 3) ?_
          refine p 1 ?_
          refine xq rfl (y_load (.string (bs a1.Steps)) 1 g0_1 3) ?_
          refine p 5 ?_
          refine rend ?_
          replace h := H.done h
          subst h
          exact ret func66 rfl (vs := [.bool (seq a0.Steps a1.Steps), .bool true]) (.tmp (by kernel_rfl) (.tmp (by kernel_rfl) .nil)) rfl (fun W S => ⟨rfl, S.below⟩)
        replace h := H.f q11 h
        refine o_set 44 (congrArg Value.bool q11) ?_
        refine p 1 ?_
        refine xq rfl (y_load (.int .i64 a0.Hands) 0 g0_0 4) ?_
        refine p 1 ?_
        refine xq rfl (y_load (.int .i64 a1.Hands) 1 g0_1 4) ?_
        refine p 4 ?_
        refine br (a0.Hands == a1.Hands) (fun q13 => ?_) (fun q13 => ?_)
        · replace h := H.t q13 h
          refine o_set 52 (congrArg Value.bool q13) ?_
          refine p 1 ?_
          refine xq rfl (y_load (.string (bs a0.Steps)) 0 g0_0 3) ?_
          refine p 2 ?_
          refine br (seq a0.Steps ([42] : Str)) (fun q14 => ?_) (fun q14 => ?_)
          · replace h := H.t q14 h
            refine o_set 56 (congrArg Value.bool q14) ?_
            refine p 9 ?_
            refine rend ?_
            replace h := H.done h
            subst h
            exact ret func66 rfl (vs := [.bool true, .bool true]) (.tmp (by kernel_rfl) (.tmp (by kernel_rfl) .nil)) rfl (fun W S => ⟨rfl, S.below⟩)
          replace h := H.f q14 h
          refine o_set 56 (congrArg Value.bool q14) ?_
          refine p 1 ?_
          refine xq rfl (y_load (.string (bs a0.Steps)) 0 g0_0 3) ?_
          refine p 1 ?_
          refine xq rfl (y_load (.string (bs a1.Steps)) 1 g0_1 3) ?_
          refine p 5 ?_
          refine rend ?_
          replace h := H.done h
          subst h
          exact ret func66 rfl (vs := [.bool (seq a0.Steps a1.Steps), .bool true]) (.tmp (by kernel_rfl) (.tmp (by kernel_rfl) .nil)) rfl (fun W S => ⟨rfl, S.below⟩)
        replace h := H.f q13 h
        refine o_set 52 (congrArg Value.bool q13) ?_
        refine p 13 ?_
        refine rend ?_
        replace h := H.done h
        subst h
        exact ret func66 rfl (vs := [.bool false, .bool true]) (.tmp (by kernel_rfl) (.tmp (by kernel_rfl) .nil)) rfl (fun W S => ⟨rfl, S.below⟩)
      replace h := H.f q10 h
      refine o_set 40 (congrArg Value.bool q10) ?_
      refine p 25 ?_
      refine rend ?_
      replace h := H.done h
      subst h
      exact ret func66 rfl (vs := [.bool false, .bool true]) (.tmp (by kernel_rfl) (.tmp (by kernel_rfl) .nil)) rfl (fun W S => ⟨rfl, S.below⟩)
    replace h := H.f q4 h
    refine o_set 28 (congrArg Value.bool q4) ?_
    refine p 37 ?_
    refine rend ?_
    replace h := H.done h
    subst h
    exact ret func66 rfl (vs := [.bool false, .bool true]) (.tmp (by kernel_rfl) (.tmp (by kernel_rfl) .nil)) rfl (fun W S => ⟨rfl, S.below⟩)
  replace h := H.f q3 h
  refine o_set 20 (congrArg Value.bool q3) ?_
  refine p 45 ?_
  refine rend ?_
  replace h := H.done h
  subst h
  exact ret func66 rfl (vs := [.bool false, .bool true]) (.tmp (by kernel_rfl) (.tmp (by kernel_rfl) .nil)) rfl (fun W S => ⟨rfl, S.below⟩)
theorem C.s_DrawBestQuestion {fu : Nat} {a0 : (List Int)} {A0 : Option Addr} {k0 : Nat} {r : (List Sign)} (w : World) (h : X.s_DrawBestQuestion fu a0 = some r) (h0 : RdT (eI .u8) w (.slice A0 (List.length a0) k0) a0) : Calls prog 67 #[.slice A0 (List.length a0) k0] w (RetR nSign 38 w r (fun v => v)) := by
  refine calls (M := no) (args := [.slice A0 (List.length a0) k0]) func67 rfl ?_
  replace h : H (X.s_DrawBestQuestion fu a0) (fun o => o = r) := H.mk h
  unfold X.s_DrawBestQuestion at h
  refine c_seq ?_
  refine r_start ?_
  refine p 1 ?_
  refine rend ?_
  refine c_seq ?_
  refine r_start ?_
  refine p 2 ?_
  refine xx rfl (x_box [.slice A0 (List.length a0) k0, .int .i64 0, .int .u64 0] fun g1_2 => ?_)
  refine p 1 ?_
  refine rend ?_
  refine c_seq ?_
  refine r_start ?_
  refine p 1 ?_
  obtain ⟨v2_1, hv2_1, h⟩ := H.call h
  refine xx rfl (e_cqR (cs' := [.slice A0 (List.length a0) k0, .int .i64 v2_1.2.1, .int .u64 v2_1.2.2]) 0 [.pointer (some ⟨g1_2, 0, none⟩)] (fun v => v) func142 (fun W S => C.s_l1Cur_lexicon W hv2_1 (S.bx 0) ((s_arg h0).out W S) (ap_arg h0 S 0)) fun A2_1 k2_1 => ?_)
  refine p 1 ?_
  refine rend ?_
  replace h := H.done h
  subst h
  exact ret func67 rfl (vs := [.slice A2_1 (List.length v2_1.1) k2_1]) (.tmp (by kernel_rfl) .nil) rfl (fun W S => ⟨_, _, rfl, S.row 1, S.below⟩)
theorem C.l_FnSearches {fu : Nat} {a0 : (List Int)} {A0 : Option Addr} {k0 : Nat} {a1 : (List Int)} {A1 : Option Addr} {k1 : Nat} {r : Bool} (w : World) (h : X.l_FnSearches fu a0 a1 = some r) (h0 : RdT (eI .u8) w (.slice A0 (List.length a0) k0) a0) (h1 : RdT (eI .u8) w (.slice A1 (List.length a1) k1) a1) : Calls prog 6 #[.slice A0 (List.length a0) k0, .slice A1 (List.length a1) k1] w (Ret w (.bool r)) := by
  refine calls (M := no) (args := [.slice A0 (List.length a0) k0, .slice A1 (List.length a1) k1]) func6 rfl ?_
  replace h : H (X.l_FnSearches fu a0 a1) (fun o => o = r) := H.mk h
  unfold X.l_FnSearches at h
  refine c_seq ?_
  refine r_start ?_
  refine p 1 ?_
  refine rend ?_
  refine c_seq ?_
  refine c_seq ?_
  refine r_start ?_
  refine p 2 ?_
  obtain ⟨v1_2, hv1_2, h⟩ := H.call h
  refine xq rfl (y_call [.slice A0 (List.length a0) k0, .slice A1 (List.length a1) k1] (.bool v1_2) func51 (fun W S => C.l_big W hv1_2 ((s_arg h0).out W S) ((s_arg h1).out W S))) ?_
  refine rend ?_
  refine c_or v1_2 (fun q1 => ?_) (fun q1 => ?_)
  · replace h := H.t q1 h
    refine c_seq ?_
    refine r_start ?_
    refine p 1 ?_
    refine rend ?_
    replace h := H.done h
    subst h
    exact ret func6 rfl (vs := [.bool true]) (.tmp (by kernel_rfl) .nil) rfl (fun W S => ⟨rfl, S.below⟩)
  replace h := H.f q1 h
  refine c_skip ?_
  refine c_seq ?_
  refine r_start ?_
  refine p 1 ?_
  obtain ⟨v3_1, hv3_1, h⟩ := H.call h
  refine xx rfl (e_cr [.slice A0 (List.length a0) k0] (fun v => .tuple #[.agg (ePattern v3_1.1).toArray, v]) func52 (fun W S => C.s_DrawAnswersFor W hv3_1 ((s_arg h0).out W S)) fun A3_1 k3_1 => ?_)
  refine p 3 ?_
  refine xx rfl (x_new (ePattern zPattern) fun g3_5 => ?_)
  refine xx rfl (x_sto 1 g3_5 0 (ePattern v3_1.1) ?_)
  refine p 1 ?_
  refine rend ?_
  refine c_seq ?_
  refine r_start ?_
  refine xq rfl (y_load (.agg (ePattern v3_1.1).toArray) 1 g3_5 0) ?_
  refine p 1 ?_
  obtain ⟨v4_2, hv4_2, h⟩ := H.call h
  refine xx rfl (e_cr [.agg (ePattern v3_1.1).toArray, .slice A3_1 (List.length v3_1.2) k3_1] (fun v => .tuple #[v, .bool v4_2.2]) func53 (fun W S => C.i_AnswersFor W hv4_2 ((s_own 0).out W S)) fun A4_2 k4_2 => ?_)
  refine p 5 ?_
  refine rend ?_
  refine c_seq ?_
  refine r_start ?_
  refine xq rfl (y_load (.agg (ePattern v3_1.1).toArray) 1 g3_5 0) ?_
  refine p 1 ?_
  obtain ⟨v5_2, hv5_2, h⟩ := H.call h
  refine xx rfl (e_cr [.agg (ePattern v3_1.1).toArray, .slice A3_1 (List.length v3_1.2) k3_1] (fun v => .tuple #[v, .bool v5_2.2]) func54 (fun W S => C.s_AnswersFor W hv5_2 ((s_own 0).out W S)) fun A5_2 k5_2 => ?_)
  refine p 5 ?_
  refine rend ?_
  refine c_seq ?_
  refine c_seq ?_
  refine joinT (X := Bool) (H.bnd h) (fun (x : Bool) => x) (fun b2 => [rowT nSign w.heap.size 38 (.slice A3_1 (List.length v3_1.2) k3_1) v3_1.2, box g3_5 79 (ePattern v3_1.1), rowT (eI .i64) w.heap.size 3 (.slice A4_2 (List.length v4_2.1) k4_2) v4_2.1, rowT (eI .i64) w.heap.size 3 (.slice A5_2 (List.length v5_2.1) k5_2) v5_2.1]) (fun b2 u => (jk u 0 1 (.slice A1 (List.length a1) k1 :: (jk u 2 3 (.pointer (some ⟨g3_5, 0, none⟩) :: .slice A3_1 (List.length v3_1.2) k3_1 :: (jk u 7 1 (.bool v4_2.2 :: .slice A5_2 (List.length v5_2.1) k5_2 :: (jk u 10 68 (.bool b2 :: (jk u 79 187 [])))))))))) (fun h hj3 => ?_) ?_
  · skip
    refine r_start ?_
    refine p 4 ?_
    refine br (!(v4_2.2 == v5_2.2)) (fun q4 => ?_) (fun q4 => ?_)
    · replace h := H.t q4 h
      refine o_set 65 (congrArg Value.bool q4) ?_
      refine p 13 ?_
      refine rend ?_
      replace h := H.done h
      exact hj3 true _ _ h (by kernel_rfl) (by kernel_rfl)
    replace h := H.f q4 h
    refine o_set 65 (congrArg Value.bool q4) ?_
    refine p 2 ?_
    obtain ⟨v6_6, hv6_6, h⟩ := H.call h
    refine xq rfl (y_call [.slice A4_2 (List.length v4_2.1) k4_2, .slice A5_2 (List.length v5_2.1) k5_2] (.bool v6_6) func55 (fun W S => C.l_sameInts W hv6_6 ((s_own 2).out W S) ((s_own 3).out W S))) ?_
    refine p 3 ?_
    refine br (!v6_6) (fun q5 => ?_) (fun q5 => ?_)
    · replace h := H.t q5 h
      refine o_set 71 (congrArg Value.bool q5) ?_
      refine p 7 ?_
      refine rend ?_
      replace h := H.done h
      exact hj3 true _ _ h (by kernel_rfl) (by kernel_rfl)
    replace h := H.f q5 h
    refine o_set 71 (congrArg Value.bool q5) ?_
    refine p 2 ?_
    refine br v4_2.2 (fun q6 => ?_) (fun q6 => ?_)
    · replace h := H.t q6 h
      refine o_set 73 (congrArg Value.bool q6) ?_
      refine xq rfl (y_load (.agg (ePattern v3_1.1).toArray) 1 g3_5 0) ?_
      obtain ⟨v6_13, hv6_13, h⟩ := H.call h
      refine xq rfl (y_call [.agg (ePattern v3_1.1).toArray] (.bool v6_13) func56 (fun W S => C.i_IsPattern W hv6_13)) ?_
      refine p 3 ?_
      refine rend ?_
      replace h := H.done h
      exact hj3 (!v6_13) _ _ h (by kernel_rfl) (by kernel_rfl)
    replace h := H.f q6 h
    refine o_set 73 (congrArg Value.bool q6) ?_
    refine p 5 ?_
    refine rend ?_
    replace h := H.done h
    exact hj3 false _ _ h (by kernel_rfl) (by kernel_rfl)
  intro b2 u h
  refine c_or b2 (fun q7 => ?_) (fun q7 => ?_)
  · replace h := H.t q7 h
    refine c_seq ?_
    refine r_start ?_
    refine p 1 ?_
    refine rend ?_
    replace h := H.done h
    subst h
    exact ret func6 rfl (vs := [.bool false]) (.tmp (by kernel_rfl) .nil) rfl (fun W S => ⟨rfl, S.below⟩)
  replace h := H.f q7 h
  refine c_skip ?_
  refine c_seq ?_
  refine c_seq ?_
  refine r_start ?_
  refine p 1 ?_
  refine rend ?_
  refine joinTE (X := Unit) (H.or h) (fun (x : Unit) => x) (fun _ => [rowT nSign w.heap.size 38 (.slice A3_1 (List.length v3_1.2) k3_1) v3_1.2, box g3_5 79 (ePattern v3_1.1), rowT (eI .i64) w.heap.size 3 (.slice A4_2 (List.length v4_2.1) k4_2) v4_2.1, rowT (eI .i64) w.heap.size 3 (.slice A5_2 (List.length v5_2.1) k5_2) v5_2.1]) (fun _ u => (jk u 0 1 (.slice A1 (List.length a1) k1 :: (jk u 2 264 [])))) (fun h hj8 => ?_) ?_
  · skip
    refine c_or v4_2.2 (fun q9 => ?_) (fun q9 => ?_)
    · replace h := H.t q9 h
      refine c_seq ?_
      refine c_seq ?_
      refine r_start ?_
      refine p 3 ?_
      refine rend ?_
      refine c_block ?_
      refine joinE (X := Unit) 0 (H.or h) (fun (x : Unit) => x) (fun _ => [rowT nSign w.heap.size 38 (.slice A3_1 (List.length v3_1.2) k3_1) v3_1.2, box g3_5 79 (ePattern v3_1.1), rowT (eI .i64) w.heap.size 3 (.slice A4_2 (List.length v4_2.1) k4_2) v4_2.1, rowT (eI .i64) w.heap.size 3 (.slice A5_2 (List.length v5_2.1) k5_2) v5_2.1]) (fun _ u => (jk u 0 1 (.slice A1 (List.length a1) k1 :: (jk u 2 4 (.slice A3_1 (List.length v3_1.2) k3_1 :: (jk u 7 259 [])))))) (fun h hj10 => ?_) ?_
      · skip
        refine rangeR (X := Unit) (s_own 0) (fun (x : Unit) => x) (fun _ => [rowT nSign w.heap.size 38 (.slice A3_1 (List.length v3_1.2) k3_1) v3_1.2, box g3_5 79 (ePattern v3_1.1), rowT (eI .i64) w.heap.size 3 (.slice A4_2 (List.length v4_2.1) k4_2) v4_2.1, rowT (eI .i64) w.heap.size 3 (.slice A5_2 (List.length v5_2.1) k5_2) v5_2.1]) (fun (j11 : Nat) _ u => (jk u 0 1 (.slice A1 (List.length a1) k1 :: (jk u 2 3 (.pointer (some ⟨g3_5, 0, none⟩) :: .slice A3_1 (List.length v3_1.2) k3_1 :: (jk u 7 2 (.slice A5_2 (List.length v5_2.1) k5_2 :: (jk u 10 70 (.slice A3_1 (List.length v3_1.2) k3_1 :: .int .i64 (List.length v3_1.2 : Int) :: .int .i64 (j11 : Int) :: (jk u 83 183 [])))))))))) () h (by kernel_rfl) (by kernel_rfl) ?_ ?_
        · intro j11 x u x12 q13 hg14 hw15 h
          refine c_seq ?_
          refine r_start ?_
          refine p 1 ?_
          refine rend ?_
          refine c_seq ?_
          refine c_yes q13 ?_
          refine c_skip ?_
          refine c_seq ?_
          refine c_block ?_
          refine c_seq ?_
          refine r_start ?_
          refine p 1 ?_
          refine xq rfl (y_idx (e := nSign) (el := 38) hg14 (s_own 0)) ?_
          refine xq rfl (y_el (e := nSign) 0 (.agg (eSign x12).toArray) hg14 (s_own 0)) ?_
          refine xx rfl (x_new (eSign zSign) fun g11_3 => ?_)
          refine p 1 ?_
          refine xx rfl (x_sto 4 g11_3 0 (eSign x12) ?_)
          refine rend ?_
          refine c_seq ?_
          refine r_start ?_
          refine xq rfl (y_load (.agg (ePattern v3_1.1).toArray) 1 g3_5 0) ?_
          refine xq rfl (y_load (.agg (eSign x12).toArray) 4 g11_3 0) ?_
          obtain ⟨v12_2, hv12_2, h⟩ := H.call h
          refine xq rfl (y_call [.agg (ePattern v3_1.1).toArray, .agg (eSign x12).toArray] (.tuple #[.bool v12_2.1, .bool v12_2.2]) func57 (fun W S => C.i_MatchesSign W hv12_2)) ?_
          refine p 5 ?_
          refine rend ?_
          refine c_seq ?_
          refine r_start ?_
          refine xq rfl (y_load (.agg (ePattern v3_1.1).toArray) 1 g3_5 0) ?_
          refine xq rfl (y_load (.agg (eSign x12).toArray) 4 g11_3 0) ?_
          obtain ⟨v13_2, hv13_2, h⟩ := H.call h
          refine xq rfl (y_call [.agg (ePattern v3_1.1).toArray, .agg (eSign x12).toArray] (.tuple #[.bool v13_2.1, .bool v13_2.2]) func58 (fun W S => C.s_MatchesSign W hv13_2)) ?_
          refine p 5 ?_
          refine rend ?_
          refine frg (fun u => (jk u 0 1 (.slice A1 (List.length a1) k1 :: (jk u 2 3 (.pointer (some ⟨g3_5, 0, none⟩) :: .slice A3_1 (List.length v3_1.2) k3_1 :: (jk u 7 2 (.slice A5_2 (List.length v5_2.1) k5_2 :: (jk u 10 1 (.int .i64 (j11 : Int) :: .pointer (some ⟨g11_3, 0, none⟩) :: .bool v12_2.1 :: .bool v12_2.2 :: .bool v13_2.1 :: .bool v13_2.2 :: (jk u 17 63 (.slice A3_1 (List.length v3_1.2) k3_1 :: .int .i64 (List.length v3_1.2 : Int) :: .int .i64 (j11 : Int) :: (jk u 83 183 [])))))))))))) (by kernel_rfl) fun u => ?_
          refine keep 5 (its' := [rowT nSign w.heap.size 38 (.slice A3_1 (List.length v3_1.2) k3_1) v3_1.2, box g3_5 79 (ePattern v3_1.1), rowT (eI .i64) w.heap.size 3 (.slice A4_2 (List.length v4_2.1) k4_2) v4_2.1, rowT (eI .i64) w.heap.size 3 (.slice A5_2 (List.length v5_2.1) k5_2) v5_2.1, box g11_3 38 (eSign x12)]) (by kernel_rfl) ?_
          refine c_seq ?_
          refine r_start ?_
          refine xq rfl (y_load (.agg (ePattern v3_1.1).toArray) 1 g3_5 0) ?_
          refine xq rfl (y_load (.agg (eSign x12).toArray) 4 g11_3 0) ?_
          obtain ⟨v14_2, hv14_2, h⟩ := H.call h
          refine xq rfl (y_call [.agg (ePattern v3_1.1).toArray, .agg (eSign x12).toArray] (.tuple #[.int .i64 v14_2.1, .bool v14_2.2]) func59 (fun W S => C.i_CostOfMatch W hv14_2)) ?_
          refine p 5 ?_
          refine rend ?_
          refine c_seq ?_
          refine r_start ?_
          refine xq rfl (y_load (.agg (ePattern v3_1.1).toArray) 1 g3_5 0) ?_
          refine xq rfl (y_load (.agg (eSign x12).toArray) 4 g11_3 0) ?_
          obtain ⟨v15_2, hv15_2, h⟩ := H.call h
          refine xq rfl (y_call [.agg (ePattern v3_1.1).toArray, .agg (eSign x12).toArray] (.tuple #[.int .i64 v15_2.1, .bool v15_2.2]) func60 (fun W S => C.s_CostOfMatch W hv15_2)) ?_
          refine p 5 ?_
          refine rend ?_
          refine c_seq ?_
          refine r_start ?_
          refine xq rfl (y_load (.agg (eSign x12).toArray) 4 g11_3 0) ?_
          obtain ⟨v16_1, hv16_1, h⟩ := H.call h
          refine xq rfl (y_call [.agg (eSign x12).toArray] (.tuple #[.agg (ePattern v16_1.1).toArray, .bool v16_1.2]) func61 (fun W S => C.i_PatternOf W hv16_1)) ?_
          refine p 3 ?_
          refine xx rfl (x_new (ePattern zPattern) fun g16_5 => ?_)
          refine xx rfl (x_sto 5 g16_5 0 (ePattern v16_1.1) ?_)
          refine p 1 ?_
          refine rend ?_
          refine c_seq ?_
          refine r_start ?_
          refine xq rfl (y_load (.agg (eSign x12).toArray) 4 g11_3 0) ?_
          obtain ⟨v17_1, hv17_1, h⟩ := H.call h
          refine xq rfl (y_call [.agg (eSign x12).toArray] (.tuple #[.agg (ePattern v17_1.1).toArray, .bool v17_1.2]) func62 (fun W S => C.s_PatternOf W hv17_1)) ?_
          refine p 3 ?_
          refine xx rfl (x_new (ePattern zPattern) fun g17_5 => ?_)
          refine xx rfl (x_sto 6 g17_5 0 (ePattern v17_1.1) ?_)
          refine p 1 ?_
          refine rend ?_
          refine c_seq ?_
          refine r_start ?_
          refine xq rfl (y_load (.agg (ePattern v16_1.1).toArray) 5 g16_5 0) ?_
          refine xq rfl (y_load (.agg (eSign x12).toArray) 4 g11_3 0) ?_
          obtain ⟨v18_2, hv18_2, h⟩ := H.call h
          refine xq rfl (y_call [.agg (ePattern v16_1.1).toArray, .agg (eSign x12).toArray] (.tuple #[.bool v18_2.1, .bool v18_2.2]) func57 (fun W S => C.i_MatchesSign W hv18_2)) ?_
          refine p 5 ?_
          refine rend ?_
          refine c_seq ?_
          refine r_start ?_
          refine p 3 ?_
          refine br (!v12_2.2) (fun q16 => ?_) (fun q16 => ?_)
          · replace h := H.t q16 h
            refine o_set 129 (congrArg Value.bool q16) ?_
            refine p 63 ?_
            refine rend ?_
            refine c_t (by kernel_rfl) ?_
            refine c_seq ?_
            refine r_start ?_
            refine p 1 ?_
            refine rend ?_
            replace h := H.inr h
            replace h := H.inl h
            replace h := H.done h
            subst h
            exact ret func6 rfl (vs := [.bool false]) (.tmp (by kernel_rfl) .nil) rfl (fun W S => ⟨rfl, S.below⟩)
          replace h := H.f q16 h
          refine o_set 129 (congrArg Value.bool q16) ?_
          refine p 4 ?_
          refine br (!v13_2.2) (fun q17 => ?_) (fun q17 => ?_)
          · replace h := H.t q17 h
            refine o_set 133 (congrArg Value.bool q17) ?_
            refine p 59 ?_
            refine rend ?_
            refine c_t (by kernel_rfl) ?_
            refine c_seq ?_
            refine r_start ?_
            refine p 1 ?_
            refine rend ?_
            replace h := H.inr h
            replace h := H.inl h
            replace h := H.done h
            subst h
            exact ret func6 rfl (vs := [.bool false]) (.tmp (by kernel_rfl) .nil) rfl (fun W S => ⟨rfl, S.below⟩)
          replace h := H.f q17 h
          refine o_set 133 (congrArg Value.bool q17) ?_
          refine p 5 ?_
          refine br (!(v12_2.1 == v13_2.1)) (fun q18 => ?_) (fun q18 => ?_)
          · replace h := H.t q18 h
            refine o_set 138 (congrArg Value.bool q18) ?_
            refine p 54 ?_
            refine rend ?_
            refine c_t (by kernel_rfl) ?_
            refine c_seq ?_
            refine r_start ?_
            refine p 1 ?_
            refine rend ?_
            replace h := H.inr h
            replace h := H.inl h
            replace h := H.done h
            subst h
            exact ret func6 rfl (vs := [.bool false]) (.tmp (by kernel_rfl) .nil) rfl (fun W S => ⟨rfl, S.below⟩)
          replace h := H.f q18 h
          refine o_set 138 (congrArg Value.bool q18) ?_
          refine p 4 ?_
          refine br (!v14_2.2) (fun q19 => ?_) (fun q19 => ?_)
          · replace h := H.t q19 h
            refine o_set 142 (congrArg Value.bool q19) ?_
            refine p 50 ?_
            refine rend ?_
            refine c_t (by kernel_rfl) ?_
            refine c_seq ?_
            refine r_start ?_
            refine p 1 ?_
            refine rend ?_
            replace h := H.inr h
            replace h := H.inl h
            replace h := H.done h
            subst h
            exact ret func6 rfl (vs := [.bool false]) (.tmp (by kernel_rfl) .nil) rfl (fun W S => ⟨rfl, S.below⟩)
          replace h := H.f q19 h
          refine o_set 142 (congrArg Value.bool q19) ?_
          refine p 4 ?_
          refine br (!v15_2.2) (fun q20 => ?_) (fun q20 => ?_)
          · replace h := H.t q20 h
            refine o_set 146 (congrArg Value.bool q20) ?_
            refine p 46 ?_
            refine rend ?_
            refine c_t (by kernel_rfl) ?_
            refine c_seq ?_
            refine r_start ?_
            refine p 1 ?_
            refine rend ?_
            replace h := H.inr h
            replace h := H.inl h
            replace h := H.done h
            subst h
            exact ret func6 rfl (vs := [.bool false]) (.tmp (by kernel_rfl) .nil) rfl (fun W S => ⟨rfl, S.below⟩)
          replace h := H.f q20 h
          refine o_set 146 (congrArg Value.bool q20) ?_
          refine p 5 ?_
          refine br (v14_2.1 != v15_2.1) (fun q21 => ?_) (fun q21 => ?_)
          · replace h := H.t q21 h
            refine o_set 151 (congrArg Value.bool q21) ?_
            refine p 41 ?_
            refine rend ?_
            refine c_t (by kernel_rfl) ?_
            refine c_seq ?_
            refine r_start ?_
            refine p 1 ?_
            refine rend ?_
            replace h := H.inr h
            replace h := H.inl h
            replace h := H.done h
            subst h
            exact ret func6 rfl (vs := [.bool false]) (.tmp (by kernel_rfl) .nil) rfl (fun W S => ⟨rfl, S.below⟩)
          replace h := H.f q21 h
          refine o_set 151 (congrArg Value.bool q21) ?_
          refine p 6 ?_
          refine br (!(v13_2.1 == (v15_2.1 == 0))) (fun q22 => ?_) (fun q22 => ?_)
          · replace h := H.t q22 h
            refine o_set 157 (congrArg Value.bool q22) ?_
            refine p 35 ?_
            refine rend ?_
            refine c_t (by kernel_rfl) ?_
            refine c_seq ?_
            refine r_start ?_
            refine p 1 ?_
            refine rend ?_
            replace h := H.inr h
            replace h := H.inl h
            replace h := H.done h
            subst h
            exact ret func6 rfl (vs := [.bool false]) (.tmp (by kernel_rfl) .nil) rfl (fun W S => ⟨rfl, S.below⟩)
          replace h := H.f q22 h
          refine o_set 157 (congrArg Value.bool q22) ?_
          refine p 2 ?_
          obtain ⟨v19_33, hv19_33, h⟩ := H.call h
          refine xq rfl (y_call [.slice A5_2 (List.length v5_2.1) k5_2, .int .i64 (j11 : Int)] (.bool v19_33) func63 (fun W S => C.l_pIn W hv19_33 ((s_own 3).out W S))) ?_
          refine p 4 ?_
          refine br (!(v19_33 == v13_2.1)) (fun q23 => ?_) (fun q23 => ?_)
          · replace h := H.t q23 h
            refine o_set 164 (congrArg Value.bool q23) ?_
            refine p 28 ?_
            refine rend ?_
            refine c_t (by kernel_rfl) ?_
            refine c_seq ?_
            refine r_start ?_
            refine p 1 ?_
            refine rend ?_
            replace h := H.inr h
            replace h := H.inl h
            replace h := H.done h
            subst h
            exact ret func6 rfl (vs := [.bool false]) (.tmp (by kernel_rfl) .nil) rfl (fun W S => ⟨rfl, S.below⟩)
          replace h := H.f q23 h
          refine o_set 164 (congrArg Value.bool q23) ?_
          refine p 4 ?_
          refine br (decide (v15_2.1 < 0)) (fun q24 => ?_) (fun q24 => ?_)
          · replace h := H.t q24 h
            refine o_set 168 (congrArg Value.bool q24) ?_
            refine p 24 ?_
            refine rend ?_
            refine c_t (by kernel_rfl) ?_
            refine c_seq ?_
            refine r_start ?_
            refine p 1 ?_
            refine rend ?_
            replace h := H.inr h
            replace h := H.inl h
            replace h := H.done h
            subst h
            exact ret func6 rfl (vs := [.bool false]) (.tmp (by kernel_rfl) .nil) rfl (fun W S => ⟨rfl, S.below⟩)
          replace h := H.f q24 h
          refine o_set 168 (congrArg Value.bool q24) ?_
          refine p 4 ?_
          refine br (decide (v15_2.1 > 14)) (fun q25 => ?_) (fun q25 => ?_)
          · replace h := H.t q25 h
            refine o_set 172 (congrArg Value.bool q25) ?_
            refine p 20 ?_
            refine rend ?_
            refine c_t (by kernel_rfl) ?_
            refine c_seq ?_
            refine r_start ?_
            refine p 1 ?_
            refine rend ?_
            replace h := H.inr h
            replace h := H.inl h
            replace h := H.done h
            subst h
            exact ret func6 rfl (vs := [.bool false]) (.tmp (by kernel_rfl) .nil) rfl (fun W S => ⟨rfl, S.below⟩)
          replace h := H.f q25 h
          refine o_set 172 (congrArg Value.bool q25) ?_
          refine p 4 ?_
          refine br (!v16_1.2) (fun q26 => ?_) (fun q26 => ?_)
          · replace h := H.t q26 h
            refine o_set 176 (congrArg Value.bool q26) ?_
            refine p 16 ?_
            refine rend ?_
            refine c_t (by kernel_rfl) ?_
            refine c_seq ?_
            refine r_start ?_
            refine p 1 ?_
            refine rend ?_
            replace h := H.inr h
            replace h := H.inl h
            replace h := H.done h
            subst h
            exact ret func6 rfl (vs := [.bool false]) (.tmp (by kernel_rfl) .nil) rfl (fun W S => ⟨rfl, S.below⟩)
          replace h := H.f q26 h
          refine o_set 176 (congrArg Value.bool q26) ?_
          refine p 4 ?_
          refine br (!v17_1.2) (fun q27 => ?_) (fun q27 => ?_)
          · replace h := H.t q27 h
            refine o_set 180 (congrArg Value.bool q27) ?_
            refine p 12 ?_
            refine rend ?_
            refine c_t (by kernel_rfl) ?_
            refine c_seq ?_
            refine r_start ?_
            refine p 1 ?_
            refine rend ?_
            replace h := H.inr h
            replace h := H.inl h
            replace h := H.done h
            subst h
            exact ret func6 rfl (vs := [.bool false]) (.tmp (by kernel_rfl) .nil) rfl (fun W S => ⟨rfl, S.below⟩)
          replace h := H.f q27 h
          refine o_set 180 (congrArg Value.bool q27) ?_
          refine xq rfl (y_load (.agg (ePattern v16_1.1).toArray) 5 g16_5 0) ?_
          refine xq rfl (y_load (.agg (ePattern v17_1.1).toArray) 6 g17_5 0) ?_
          refine p 3 ?_
          refine br (!qPattern v16_1.1 v17_1.1) (fun q28 => ?_) (fun q28 => ?_)
          · replace h := H.t q28 h
            refine o_set 185 (congrArg Value.bool q28) ?_
            refine p 7 ?_
            refine rend ?_
            refine c_t (by kernel_rfl) ?_
            refine c_seq ?_
            refine r_start ?_
            refine p 1 ?_
            refine rend ?_
            replace h := H.inr h
            replace h := H.inl h
            replace h := H.done h
            subst h
            exact ret func6 rfl (vs := [.bool false]) (.tmp (by kernel_rfl) .nil) rfl (fun W S => ⟨rfl, S.below⟩)
          replace h := H.f q28 h
          refine o_set 185 (congrArg Value.bool q28) ?_
          refine p 4 ?_
          refine br (!v18_2.2) (fun q29 => ?_) (fun q29 => ?_)
          · replace h := H.t q29 h
            refine o_set 189 (congrArg Value.bool q29) ?_
            refine p 3 ?_
            refine rend ?_
            refine c_t (by kernel_rfl) ?_
            refine c_seq ?_
            refine r_start ?_
            refine p 1 ?_
            refine rend ?_
            replace h := H.inr h
            replace h := H.inl h
            replace h := H.done h
            subst h
            exact ret func6 rfl (vs := [.bool false]) (.tmp (by kernel_rfl) .nil) rfl (fun W S => ⟨rfl, S.below⟩)
          replace h := H.f q29 h
          refine o_set 189 (congrArg Value.bool q29) ?_
          refine p 3 ?_
          refine rend ?_
          refine c_or (!v18_2.1) (fun q30 => ?_) (fun q30 => ?_)
          · replace h := H.t q30 h
            refine c_seq ?_
            refine r_start ?_
            refine p 1 ?_
            refine rend ?_
            replace h := H.inr h
            replace h := H.inl h
            replace h := H.done h
            subst h
            exact ret func6 rfl (vs := [.bool false]) (.tmp (by kernel_rfl) .nil) rfl (fun W S => ⟨rfl, S.below⟩)
          replace h := H.f q30 h
          refine c_skip ?_
          refine c_inb ?_
          refine r_start ?_
          refine p 2 ?_
          refine rend ?_
          refine c_set 82 (ci hw15) ?_
          replace h := H.inl h
          exact h () _ _ rfl (by kernel_rfl) (by kernel_rfl)
        · intro x u q13 h
          refine c_seq ?_
          refine r_start ?_
          refine p 1 ?_
          refine rend ?_
          refine c_seq ?_
          refine c_no q13 ?_
          refine cx ?_
          replace h := H.done h
          exact hj10 () _ _ h (by kernel_rfl) (by kernel_rfl)
      intro x u h
      refine c_seq ?_
      refine r_start ?_
      refine p 2 ?_
      obtain ⟨v22_2, hv22_2, h⟩ := H.call h
      refine xx rfl (e_cr [.agg (ePattern (⟨([63, 63, 63, 63, 63] : Str), ([63, 63] : Str), (-1), ([42] : Str), zPattern.Hands⟩ : Pattern)).toArray, .slice A3_1 (List.length v3_1.2) k3_1] (fun v => .tuple #[v, .bool v22_2.2]) func53 (fun W S => C.i_AnswersFor W hv22_2 ((s_own 0).out W S)) fun A22_2 k22_2 => ?_)
      refine p 5 ?_
      refine rend ?_
      refine c_seq ?_
      refine joinT (X := Bool) (H.bnd h) (fun (x : Bool) => x) (fun b31 => [rowT nSign w.heap.size 38 (.slice A3_1 (List.length v3_1.2) k3_1) v3_1.2, box g3_5 79 (ePattern v3_1.1), rowT (eI .i64) w.heap.size 3 (.slice A4_2 (List.length v4_2.1) k4_2) v4_2.1, rowT (eI .i64) w.heap.size 3 (.slice A5_2 (List.length v5_2.1) k5_2) v5_2.1, rowT (eI .i64) w.heap.size 3 (.slice A22_2 (List.length v22_2.1) k22_2) v22_2.1]) (fun b31 u => (jk u 0 1 (.slice A1 (List.length a1) k1 :: (jk u 2 206 (.bool b31 :: (jk u 209 57 [])))))) (fun h hj32 => ?_) ?_
      · skip
        refine r_start ?_
        refine p 3 ?_
        refine br (!v22_2.2) (fun q33 => ?_) (fun q33 => ?_)
        · replace h := H.t q33 h
          refine o_set 202 (congrArg Value.bool q33) ?_
          refine p 6 ?_
          refine rend ?_
          replace h := H.done h
          exact hj32 true _ _ h (by kernel_rfl) (by kernel_rfl)
        replace h := H.f q33 h
        refine o_set 202 (congrArg Value.bool q33) ?_
        refine p 6 ?_
        refine rend ?_
        replace h := H.done h
        exact hj32 ((List.length v22_2.1 : Int) != (List.length v3_1.2 : Int)) _ _ h (by kernel_rfl) (by kernel_rfl)
      intro b31 u h
      refine c_or b31 (fun q34 => ?_) (fun q34 => ?_)
      · replace h := H.t q34 h
        refine c_seq ?_
        refine r_start ?_
        refine p 1 ?_
        refine rend ?_
        refine frg (fun u => (jk u 0 4 (.bool false :: (jk u 5 261 [])))) (by kernel_rfl) fun u => ?_
        refine keep 5 (its' := [rowT nSign w.heap.size 38 (.slice A3_1 (List.length v3_1.2) k3_1) v3_1.2, box g3_5 79 (ePattern v3_1.1), rowT (eI .i64) w.heap.size 3 (.slice A4_2 (List.length v4_2.1) k4_2) v4_2.1, rowT (eI .i64) w.heap.size 3 (.slice A5_2 (List.length v5_2.1) k5_2) v5_2.1, rowT (eI .i64) w.heap.size 3 (.slice A22_2 (List.length v22_2.1) k22_2) v22_2.1]) (by kernel_rfl) ?_
        replace h := H.inl h
        replace h := H.done h
        subst h
        exact ret func6 rfl (vs := [.bool false]) (.tmp (by kernel_rfl) .nil) rfl (fun W S => ⟨rfl, S.below⟩)
      replace h := H.f q34 h
      refine c_skip ?_
      replace h := H.inr h
      exact hj8 () _ _ h (by kernel_rfl) (by kernel_rfl)
    replace h := H.f q9 h
    refine c_skip ?_
    replace h := H.inr h
    exact hj8 () _ _ h (by kernel_rfl) (by kernel_rfl)
  intro x u h
  refine c_seq ?_
  refine r_start ?_
  refine p 1 ?_
  obtain ⟨v25_1, hv25_1, h⟩ := H.call h
  refine xq rfl (y_call [.slice A1 (List.length a1) k1] (.tuple #[.agg (ePattern v25_1.1).toArray, .agg (ePattern v25_1.2).toArray]) func64 (fun W S => C.s_DrawIsWeaker W hv25_1 ((s_arg h1).out W S))) ?_
  refine p 3 ?_
  refine xx rfl (x_new (ePattern zPattern) fun g25_5 => ?_)
  refine xx rfl (x_new (ePattern zPattern) fun g25_6 => ?_)
  refine xx rfl (x_sto 4 g25_5 0 (ePattern v25_1.1) ?_)
  refine xx rfl (x_sto 5 g25_6 0 (ePattern v25_1.2) ?_)
  refine rend ?_
  refine frg (fun u => (jk u 0 1 (.slice A1 (List.length a1) k1 :: (jk u 2 27 (.pointer (some ⟨g25_5, 0, none⟩) :: .pointer (some ⟨g25_6, 0, none⟩) :: (jk u 31 235 [])))))) (by kernel_rfl) fun u => ?_
  refine keep 6 (its' := [rowT nSign w.heap.size 38 (.slice A3_1 (List.length v3_1.2) k3_1) v3_1.2, box g3_5 79 (ePattern v3_1.1), rowT (eI .i64) w.heap.size 3 (.slice A4_2 (List.length v4_2.1) k4_2) v4_2.1, rowT (eI .i64) w.heap.size 3 (.slice A5_2 (List.length v5_2.1) k5_2) v5_2.1, box g25_5 79 (ePattern v25_1.1), box g25_6 79 (ePattern v25_1.2)]) (by kernel_rfl) ?_
  refine c_seq ?_
  refine r_start ?_
  refine xq rfl (y_load (.agg (ePattern v25_1.1).toArray) 4 g25_5 0) ?_
  refine xq rfl (y_load (.agg (ePattern v25_1.2).toArray) 5 g25_6 0) ?_
  obtain ⟨v26_2, hv26_2, h⟩ := H.call h
  refine xq rfl (y_call [.agg (ePattern v25_1.1).toArray, .agg (ePattern v25_1.2).toArray] (.tuple #[.bool v26_2.1, .bool v26_2.2]) func65 (fun W S => C.i_IsWeaker W hv26_2)) ?_
  refine p 5 ?_
  refine rend ?_
  refine c_seq ?_
  refine r_start ?_
  refine xq rfl (y_load (.agg (ePattern v25_1.1).toArray) 4 g25_5 0) ?_
  refine xq rfl (y_load (.agg (ePattern v25_1.2).toArray) 5 g25_6 0) ?_
  obtain ⟨v27_2, hv27_2, h⟩ := H.call h
  refine xq rfl (y_call [.agg (ePattern v25_1.1).toArray, .agg (ePattern v25_1.2).toArray] (.tuple #[.bool v27_2.1, .bool v27_2.2]) func66 (fun W S => C.s_IsWeaker W hv27_2)) ?_
  refine p 5 ?_
  refine rend ?_
  refine c_seq ?_
  refine c_seq ?_
  refine joinT (X := Bool) (H.bnd h) (fun (x : Bool) => x) (fun b35 => [rowT nSign w.heap.size 38 (.slice A3_1 (List.length v3_1.2) k3_1) v3_1.2, box g3_5 79 (ePattern v3_1.1), rowT (eI .i64) w.heap.size 3 (.slice A4_2 (List.length v4_2.1) k4_2) v4_2.1, rowT (eI .i64) w.heap.size 3 (.slice A5_2 (List.length v5_2.1) k5_2) v5_2.1, box g25_5 79 (ePattern v25_1.1), box g25_6 79 (ePattern v25_1.2)]) (fun b35 u => (jk u 0 1 (.slice A1 (List.length a1) k1 :: (jk u 2 27 (.pointer (some ⟨g25_5, 0, none⟩) :: .pointer (some ⟨g25_6, 0, none⟩) :: (jk u 31 1 (.bool v26_2.2 :: .bool v27_2.1 :: (jk u 34 199 (.bool b35 :: (jk u 234 32 [])))))))))) (fun h hj36 => ?_) ?_
  · skip
    refine r_start ?_
    refine p 4 ?_
    refine br (!(v26_2.2 == v27_2.2)) (fun q37 => ?_) (fun q37 => ?_)
    · replace h := H.t q37 h
      refine o_set 229 (congrArg Value.bool q37) ?_
      refine p 4 ?_
      refine rend ?_
      replace h := H.done h
      exact hj36 true _ _ h (by kernel_rfl) (by kernel_rfl)
    replace h := H.f q37 h
    refine o_set 229 (congrArg Value.bool q37) ?_
    refine p 4 ?_
    refine rend ?_
    replace h := H.done h
    exact hj36 (!(v26_2.1 == v27_2.1)) _ _ h (by kernel_rfl) (by kernel_rfl)
  intro b35 u h
  refine c_or b35 (fun q38 => ?_) (fun q38 => ?_)
  · replace h := H.t q38 h
    refine c_seq ?_
    refine r_start ?_
    refine p 1 ?_
    refine rend ?_
    replace h := H.done h
    subst h
    exact ret func6 rfl (vs := [.bool false]) (.tmp (by kernel_rfl) .nil) rfl (fun W S => ⟨rfl, S.below⟩)
  replace h := H.f q38 h
  refine c_skip ?_
  refine c_seq ?_
  refine c_seq ?_
  refine joinT (X := Bool) (H.bnd h) (fun (x : Bool) => x) (fun b39 => [rowT nSign w.heap.size 38 (.slice A3_1 (List.length v3_1.2) k3_1) v3_1.2, box g3_5 79 (ePattern v3_1.1), rowT (eI .i64) w.heap.size 3 (.slice A4_2 (List.length v4_2.1) k4_2) v4_2.1, rowT (eI .i64) w.heap.size 3 (.slice A5_2 (List.length v5_2.1) k5_2) v5_2.1, box g25_5 79 (ePattern v25_1.1), box g25_6 79 (ePattern v25_1.2)]) (fun b39 u => (jk u 0 1 (.slice A1 (List.length a1) k1 :: (jk u 2 27 (.pointer (some ⟨g25_5, 0, none⟩) :: .pointer (some ⟨g25_6, 0, none⟩) :: (jk u 31 206 (.bool b39 :: (jk u 238 28 [])))))))) (fun h hj40 => ?_) ?_
  · skip
    refine r_start ?_
    refine p 2 ?_
    refine br v26_2.2 (fun q41 => ?_) (fun q41 => ?_)
    · replace h := H.t q41 h
      refine o_set 235 (congrArg Value.bool q41) ?_
      refine p 2 ?_
      refine rend ?_
      replace h := H.done h
      exact hj40 v27_2.1 _ _ h (by kernel_rfl) (by kernel_rfl)
    replace h := H.f q41 h
    refine o_set 235 (congrArg Value.bool q41) ?_
    refine p 2 ?_
    refine rend ?_
    replace h := H.done h
    exact hj40 false _ _ h (by kernel_rfl) (by kernel_rfl)
  intro b39 u h
  refine c_or b39 (fun q42 => ?_) (fun q42 => ?_)
  · replace h := H.t q42 h
    refine c_seq ?_
    refine r_start ?_
    refine p 1 ?_
    obtain ⟨v31_1, hv31_1, h⟩ := H.call h
    refine xx rfl (e_cr [.slice A1 (List.length a1) k1] (fun v => v) func67 (fun W S => C.s_DrawBestQuestion W hv31_1 ((s_arg h1).out W S)) fun A31_1 k31_1 => ?_)
    refine p 1 ?_
    refine rend ?_
    refine c_seq ?_
    refine r_start ?_
    refine xq rfl (y_load (.agg (ePattern v25_1.1).toArray) 4 g25_5 0) ?_
    refine p 1 ?_
    obtain ⟨v32_2, hv32_2, h⟩ := H.call h
    refine xx rfl (e_cr [.agg (ePattern v25_1.1).toArray, .slice A31_1 (List.length v31_1) k31_1] (fun v => .tuple #[v, .bool v32_2.2]) func53 (fun W S => C.i_AnswersFor W hv32_2 ((s_own 6).out W S)) fun A32_2 k32_2 => ?_)
    refine p 5 ?_
    refine rend ?_
    refine c_seq ?_
    refine r_start ?_
    refine xq rfl (y_load (.agg (ePattern v25_1.2).toArray) 5 g25_6 0) ?_
    refine p 1 ?_
    obtain ⟨v33_2, hv33_2, h⟩ := H.call h
    refine xx rfl (e_cr [.agg (ePattern v25_1.2).toArray, .slice A31_1 (List.length v31_1) k31_1] (fun v => .tuple #[v, .bool v33_2.2]) func53 (fun W S => C.i_AnswersFor W hv33_2 ((s_own 6).out W S)) fun A33_2 k33_2 => ?_)
    refine p 5 ?_
    refine rend ?_
    refine c_seq ?_
    refine c_seq ?_
    refine r_start ?_
    refine p 3 ?_
    refine rend ?_
    refine c_or (!(v32_2.2 == v33_2.2)) (fun q43 => ?_) (fun q43 => ?_)
    · replace h := H.t q43 h
      refine c_seq ?_
      refine r_start ?_
      refine p 1 ?_
      refine rend ?_
      replace h := H.done h
      subst h
      exact ret func6 rfl (vs := [.bool false]) (.tmp (by kernel_rfl) .nil) rfl (fun W S => ⟨rfl, S.below⟩)
    replace h := H.f q43 h
    refine c_skip ?_
    refine c_seq ?_
    refine r_start ?_
    refine p 3 ?_
    refine rend ?_
    refine c_block ?_
    refine joinE (X := Unit) 2 (H.or h) (fun (x : Unit) => x) (fun _ => [rowT nSign w.heap.size 38 (.slice A3_1 (List.length v3_1.2) k3_1) v3_1.2, box g3_5 79 (ePattern v3_1.1), rowT (eI .i64) w.heap.size 3 (.slice A4_2 (List.length v4_2.1) k4_2) v4_2.1, rowT (eI .i64) w.heap.size 3 (.slice A5_2 (List.length v5_2.1) k5_2) v5_2.1, box g25_5 79 (ePattern v25_1.1), box g25_6 79 (ePattern v25_1.2), rowT nSign w.heap.size 38 (.slice A31_1 (List.length v31_1) k31_1) v31_1, rowT (eI .i64) w.heap.size 3 (.slice A32_2 (List.length v32_2.1) k32_2) v32_2.1, rowT (eI .i64) w.heap.size 3 (.slice A33_2 (List.length v33_2.1) k33_2) v33_2.1]) (fun _ u => (jk u 0 266 [])) (fun h hj44 => ?_) ?_
    · skip
      refine rangeR (X := Unit) (s_own 8) (fun (x : Unit) => x) (fun _ => [rowT nSign w.heap.size 38 (.slice A3_1 (List.length v3_1.2) k3_1) v3_1.2, box g3_5 79 (ePattern v3_1.1), rowT (eI .i64) w.heap.size 3 (.slice A4_2 (List.length v4_2.1) k4_2) v4_2.1, rowT (eI .i64) w.heap.size 3 (.slice A5_2 (List.length v5_2.1) k5_2) v5_2.1, box g25_5 79 (ePattern v25_1.1), box g25_6 79 (ePattern v25_1.2), rowT nSign w.heap.size 38 (.slice A31_1 (List.length v31_1) k31_1) v31_1, rowT (eI .i64) w.heap.size 3 (.slice A32_2 (List.length v32_2.1) k32_2) v32_2.1, rowT (eI .i64) w.heap.size 3 (.slice A33_2 (List.length v33_2.1) k33_2) v33_2.1]) (fun (j45 : Nat) _ u => (jk u 0 36 (.slice A32_2 (List.length v32_2.1) k32_2 :: (jk u 37 218 (.slice A33_2 (List.length v33_2.1) k33_2 :: .int .i64 (List.length v33_2.1 : Int) :: .int .i64 (j45 : Int) :: (jk u 258 8 [])))))) () h (by kernel_rfl) (by kernel_rfl) ?_ ?_
      · intro j45 x u x46 q47 hg48 hw49 h
        refine c_seq ?_
        refine r_start ?_
        refine p 1 ?_
        refine rend ?_
        refine c_seq ?_
        refine c_yes q47 ?_
        refine c_skip ?_
        refine c_seq ?_
        refine c_block ?_
        refine c_seq ?_
        refine r_start ?_
        refine xq rfl (y_idx (e := (eI .i64)) (el := 3) hg48 (s_own 8)) ?_
        refine xq rfl (y_el (e := (eI .i64)) 0 (.int .i64 x46) hg48 (s_own 8)) ?_
        refine p 1 ?_
        refine rend ?_
        refine c_seq ?_
        refine r_start ?_
        refine p 2 ?_
        obtain ⟨v39_2, hv39_2, h⟩ := H.call h
        refine xq rfl (y_call [.slice A32_2 (List.length v32_2.1) k32_2, .int .i64 x46] (.bool v39_2) func63 (fun W S => C.l_pIn W hv39_2 ((s_own 7).out W S))) ?_
        refine p 1 ?_
        refine rend ?_
        refine frg (fun u => (jk u 0 36 (.slice A32_2 (List.length v32_2.1) k32_2 :: (jk u 37 218 (.slice A33_2 (List.length v33_2.1) k33_2 :: .int .i64 (List.length v33_2.1 : Int) :: .int .i64 (j45 : Int) :: (jk u 258 6 (.bool (!v39_2) :: (jk u 265 1 [])))))))) (by kernel_rfl) fun u => ?_
        refine keep 9 (its' := [rowT nSign w.heap.size 38 (.slice A3_1 (List.length v3_1.2) k3_1) v3_1.2, box g3_5 79 (ePattern v3_1.1), rowT (eI .i64) w.heap.size 3 (.slice A4_2 (List.length v4_2.1) k4_2) v4_2.1, rowT (eI .i64) w.heap.size 3 (.slice A5_2 (List.length v5_2.1) k5_2) v5_2.1, box g25_5 79 (ePattern v25_1.1), box g25_6 79 (ePattern v25_1.2), rowT nSign w.heap.size 38 (.slice A31_1 (List.length v31_1) k31_1) v31_1, rowT (eI .i64) w.heap.size 3 (.slice A32_2 (List.length v32_2.1) k32_2) v32_2.1, rowT (eI .i64) w.heap.size 3 (.slice A33_2 (List.length v33_2.1) k33_2) v33_2.1]) (by kernel_rfl) ?_
        refine c_or (!v39_2) (fun q50 => ?_) (fun q50 => ?_)
        · replace h := H.t q50 h
          refine c_seq ?_
          refine r_start ?_
          refine p 1 ?_
          refine rend ?_
          replace h := H.inr h
          replace h := H.done h
          subst h
          exact ret func6 rfl (vs := [.bool false]) (.tmp (by kernel_rfl) .nil) rfl (fun W S => ⟨rfl, S.below⟩)
        replace h := H.f q50 h
        refine c_skip ?_
        refine c_inb ?_
        refine r_start ?_
        refine p 2 ?_
        refine rend ?_
        refine c_set 257 (ci hw49) ?_
        replace h := H.inl h
        exact h () _ _ rfl (by kernel_rfl) (by kernel_rfl)
      · intro x u q47 h
        refine c_seq ?_
        refine r_start ?_
        refine p 1 ?_
        refine rend ?_
        refine c_seq ?_
        refine c_no q47 ?_
        refine cx ?_
        replace h := H.done h
        exact hj44 () _ _ h (by kernel_rfl) (by kernel_rfl)
    intro x u h
    refine c_seq ?_
    refine r_start ?_
    refine p 1 ?_
    refine rend ?_
    replace h := H.done h
    subst h
    exact ret func6 rfl (vs := [.bool true]) (.tmp (by kernel_rfl) .nil) rfl (fun W S => ⟨rfl, S.below⟩)
  replace h := H.f q42 h
  refine c_skip ?_
  refine c_seq ?_
  refine r_start ?_
  refine p 1 ?_
  refine rend ?_
  replace h := H.done h
  subst h
  exact ret func6 rfl (vs := [.bool true]) (.tmp (by kernel_rfl) .nil) rfl (fun W S => ⟨rfl, S.below⟩)
end Go.Proofs.XC
