/- Contracts: each function, called where its plain function gives an answer, returns just that answer and changes nothing that was there. By AI agents; no person has read it. -/
import Derived.Test.YtjjhlccjfdcfcaaGreatDoorDSmooth1
set_option linter.unusedVariables false
set_option linter.unusedSimpArgs false
set_option maxRecDepth 100000
set_option maxHeartbeats 40000000
namespace Go.Proofs.XC
open Go Go.RowKit
open Tryz
theorem C.s_shText {fu : Nat} {a0 : Shape} {r : Str} (w : World) (h : X.s_shText fu a0 = some r) : Calls prog 135 #[.agg (eShape a0).toArray] w (Ret w (.string (bs r))) := by
  refine calls (M := no) (args := [.agg (eShape a0).toArray]) func135 rfl ?_
  replace h : H (X.s_shText fu a0) (fun o => o = r) := H.mk h
  unfold X.s_shText at h
  refine c_seq ?_
  refine r_start ?_
  refine xx rfl (x_box (eShape a0) fun g0_0 => ?_)
  refine p 1 ?_
  refine rend ?_
  refine c_seq ?_
  refine r_start ?_
  refine p 1 ?_
  refine xq rfl (y_load (.int .i64 a0.Thumb) 0 g0_0 0) ?_
  obtain ⟨v1_2, hv1_2, h⟩ := H.call h
  refine xq rfl (y_call [.int .i64 a0.Thumb] (.string (bs v1_2)) func192 (fun W S => C.s_l1Num W hv1_2)) ?_
  refine p 1 ?_
  refine rend ?_
  refine c_seq ?_
  refine c_seq ?_
  refine r_start ?_
  refine xq rfl (y_load (.agg (eShape a0).toArray) 0 g0_0 0) ?_
  obtain ⟨v2_1, hv2_1, h⟩ := H.call h
  refine xx rfl (e_cr [.agg (eShape a0).toArray] (fun v => v) func193 (fun W S => C.s_shFingers W hv2_1) fun A2_1 k2_1 => ?_)
  refine p 2 ?_
  refine rend ?_
  refine c_block ?_
  refine joinH (X := Str) 0 (H.bnd h) (fun (x : Str) => x) (fun t2 => [box g0_0 36 (eShape a0), rowT (eI .i64) w.heap.size 3 (.slice A2_1 (List.length v2_1) k2_1) v2_1]) (fun t2 u => (jk u 0 1 (.pointer (some ⟨g0_0, 0, none⟩) :: (jk u 2 1 (.string (bs t2) :: (jk u 4 22 [])))))) (fun h hj3 => ?_) ?_
  · skip
    refine rangeR (X := Str) (s_own 1) (fun (x : Str) => x) (fun t1 => [box g0_0 36 (eShape a0), rowT (eI .i64) w.heap.size 3 (.slice A2_1 (List.length v2_1) k2_1) v2_1]) (fun (j4 : Nat) t1 u => (jk u 0 1 (.pointer (some ⟨g0_0, 0, none⟩) :: (jk u 2 1 (.string (bs t1) :: (jk u 4 6 (.slice A2_1 (List.length v2_1) k2_1 :: .int .i64 (List.length v2_1 : Int) :: .int .i64 (j4 : Int) :: (jk u 13 13 [])))))))) v1_2 h (by kernel_rfl) (by kernel_rfl) ?_ ?_
    · intro j4 t1 u x5 q6 hg7 hw8 h
      refine c_seq ?_
      refine r_start ?_
      refine p 1 ?_
      refine rend ?_
      refine c_seq ?_
      refine c_yes q6 ?_
      refine c_skip ?_
      refine c_seq ?_
      refine c_block ?_
      refine c_seq ?_
      refine r_start ?_
      refine xq rfl (y_idx (e := (eI .i64)) (el := 3) hg7 (s_own 1)) ?_
      refine xq rfl (y_el (e := (eI .i64)) 0 (.int .i64 x5) hg7 (s_own 1)) ?_
      refine p 1 ?_
      refine rend ?_
      refine r_start ?_
      refine p 2 ?_
      obtain ⟨v5_2, hv5_2, h⟩ := H.call h
      refine xq rfl (y_call [.int .i64 x5] (.string (bs v5_2)) func192 (fun W S => C.s_l1Num W hv5_2)) ?_
      obtain ⟨y5_3, hy5_3, h⟩ := H.call h
      refine xq rfl (y_cat hy5_3) ?_
      refine p 1 ?_
      refine rend ?_
      refine c_inb ?_
      refine r_start ?_
      refine p 2 ?_
      refine rend ?_
      refine c_set 12 (ci hw8) ?_
      replace h := H.inl h
      exact h y5_3 _ _ rfl (by kernel_rfl) (by kernel_rfl)
    · intro t1 u q6 h
      refine c_seq ?_
      refine r_start ?_
      refine p 1 ?_
      refine rend ?_
      refine c_seq ?_
      refine c_no q6 ?_
      refine cx ?_
      replace h := H.done h
      exact hj3 t1 _ _ h (by kernel_rfl) (by kernel_rfl)
  intro t2 u h
  refine c_seq ?_
  refine c_seq ?_
  refine r_start ?_
  refine p 1 ?_
  refine xq rfl (y_load (.bool a0.Spread) 0 g0_0 5) ?_
  refine rend ?_
  refine c_or a0.Spread (fun q9 => ?_) (fun q9 => ?_)
  · replace h := H.t q9 h
    refine r_start ?_
    refine p 1 ?_
    obtain ⟨y8_1, hy8_1, h⟩ := H.call h
    refine xq rfl (y_cat hy8_1) ?_
    refine p 1 ?_
    refine rend ?_
    refine c_seq ?_
    refine r_start ?_
    refine p 2 ?_
    refine rend ?_
    replace h := H.done h
    subst h
    exact ret func135 rfl (vs := [.string (bs y8_1)]) (.tmp (by kernel_rfl) .nil) rfl (fun W S => ⟨rfl, S.below⟩)
  replace h := H.f q9 h
  refine c_skip ?_
  refine c_seq ?_
  refine r_start ?_
  refine p 2 ?_
  refine rend ?_
  replace h := H.done h
  subst h
  exact ret func135 rfl (vs := [.string (bs t2)]) (.tmp (by kernel_rfl) .nil) rfl (fun W S => ⟨rfl, S.below⟩)
theorem C.s_orText {a0 : Orient} {r : Str} (w : World) (h : X.s_orText a0 = some r) : Calls prog 136 #[.agg (eOrient a0).toArray] w (Ret w (.string (bs r))) := by
  refine calls (M := no) (args := [.agg (eOrient a0).toArray]) func136 rfl ?_
  replace h : H (X.s_orText a0) (fun o => o = r) := H.mk h
  unfold X.s_orText at h
  refine c_seq ?_
  refine r_start ?_
  refine xx rfl (x_box (eOrient a0) fun g0_0 => ?_)
  refine p 1 ?_
  refine rend ?_
  refine c_seq ?_
  refine as_start 14 14 ?_
  refine ap 0 1 ?_
  refine aq 1 rfl (y_load (.int .i64 a0.Palm) 0 g0_0 0) ?_
  refine ap 2 1 ?_
  refine aq 3 rfl (y_load (.int .i64 a0.Palm) 0 g0_0 0) ?_
  refine ap 4 1 ?_
  obtain ⟨y1_5, hy1_5, h⟩ := H.call h
  refine aq 5 rfl (y_cut hy1_5) ?_
  refine ap 6 1 ?_
  refine aq 7 rfl (y_load (.int .i64 a0.Fingers) 0 g0_0 1) ?_
  refine ap 8 1 ?_
  refine aq 9 rfl (y_load (.int .i64 a0.Fingers) 0 g0_0 1) ?_
  refine ap 10 1 ?_
  obtain ⟨y1_11, hy1_11, h⟩ := H.call h
  refine aq 11 rfl (y_cut hy1_11) ?_
  obtain ⟨y1_12, hy1_12, h⟩ := H.call h
  refine aq 12 rfl (y_cat hy1_12) ?_
  refine ap 13 1 ?_
  refine a_done ?_
  replace h := H.done h
  subst h
  exact ret func136 rfl (vs := [.string (bs y1_12)]) (.tmp (by kernel_rfl) .nil) rfl (fun W S => ⟨rfl, S.below⟩)
theorem C.s_siText {fu : Nat} {a0 : Hand} {r : Str} (w : World) (h : X.s_siText fu a0 = some r) : Calls prog 87 #[.agg (eHand a0).toArray] w (Ret w (.string (bs r))) := by
  refine calls (M := no) (args := [.agg (eHand a0).toArray]) func87 rfl ?_
  replace h : H (X.s_siText fu a0) (fun o => o = r) := H.mk h
  unfold X.s_siText at h
  refine c_seq ?_
  refine r_start ?_
  refine xx rfl (x_box (eHand a0) fun g0_0 => ?_)
  refine p 1 ?_
  refine rend ?_
  refine c_seq ?_
  refine as_start 19 19 ?_
  refine ap 0 1 ?_
  refine aq 1 rfl (y_load (.agg (eShape a0.Shape).toArray) 0 g0_0 0) ?_
  obtain ⟨v1_2, hv1_2, h⟩ := H.call h
  refine aq 2 rfl (y_call [.agg (eShape a0.Shape).toArray] (.string (bs v1_2)) func135 (fun W S => C.s_shText W hv1_2)) ?_
  obtain ⟨y1_3, hy1_3, h⟩ := H.call h
  refine aq 3 rfl (y_cat hy1_3) ?_
  refine ap 4 1 ?_
  refine aq 5 rfl (y_load (.agg (eOrient a0.Orient).toArray) 0 g0_0 6) ?_
  obtain ⟨v1_6, hv1_6, h⟩ := H.call h
  refine aq 6 rfl (y_call [.agg (eOrient a0.Orient).toArray] (.string (bs v1_6)) func136 (fun W S => C.s_orText W hv1_6)) ?_
  obtain ⟨y1_7, hy1_7, h⟩ := H.call h
  refine aq 7 rfl (y_cat hy1_7) ?_
  obtain ⟨y1_8, hy1_8, h⟩ := H.call h
  refine aq 8 rfl (y_cat hy1_8) ?_
  refine ap 9 1 ?_
  refine aq 10 rfl (y_load (.agg (ePlace a0.Place).toArray) 0 g0_0 8) ?_
  obtain ⟨v1_11, hv1_11, h⟩ := H.call h
  refine aq 11 rfl (y_call [.agg (ePlace a0.Place).toArray] (.string (bs v1_11)) func137 (fun W S => C.s_plText W hv1_11)) ?_
  obtain ⟨y1_12, hy1_12, h⟩ := H.call h
  refine aq 12 rfl (y_cat hy1_12) ?_
  obtain ⟨y1_13, hy1_13, h⟩ := H.call h
  refine aq 13 rfl (y_cat hy1_13) ?_
  refine ap 14 1 ?_
  refine aq 15 rfl (y_load (.agg (eMove a0.Move).toArray) 0 g0_0 11) ?_
  obtain ⟨v1_16, hv1_16, h⟩ := H.call h
  refine aq 16 rfl (y_call [.agg (eMove a0.Move).toArray] (.string (bs v1_16)) func138 (fun W S => C.s_mvText W hv1_16)) ?_
  obtain ⟨y1_17, hy1_17, h⟩ := H.call h
  refine aq 17 rfl (y_cat hy1_17) ?_
  refine ap 18 1 ?_
  refine a_done ?_
  replace h := H.done h
  subst h
  exact ret func87 rfl (vs := [.string (bs y1_17)]) (.tmp (by kernel_rfl) .nil) rfl (fun W S => ⟨rfl, S.below⟩)
theorem C.s_paText {fu : Nat} {a0 : Sign} {r : Str} (w : World) (h : X.s_paText fu a0 = some r) : Calls prog 47 #[.agg (eSign a0).toArray] w (Ret w (.string (bs r))) := by
  refine calls (M := no) (args := [.agg (eSign a0).toArray]) func47 rfl ?_
  replace h : H (X.s_paText fu a0) (fun o => o = r) := H.mk h
  unfold X.s_paText at h
  refine c_seq ?_
  refine r_start ?_
  refine xx rfl (x_box (eSign a0) fun g0_0 => ?_)
  refine p 1 ?_
  refine rend ?_
  refine c_seq ?_
  refine c_seq ?_
  refine r_start ?_
  refine p 1 ?_
  refine xq rfl (y_load (.bool a0.Two) 0 g0_0 13) ?_
  refine rend ?_
  refine c_or a0.Two (fun q1 => ?_) (fun q1 => ?_)
  · replace h := H.t q1 h
    refine c_seq ?_
    refine as_start 9 9 ?_
    refine ap 0 1 ?_
    refine aq 1 rfl (y_load (.agg (eHand a0.Main).toArray) 0 g0_0 0) ?_
    obtain ⟨v2_2, hv2_2, h⟩ := H.call h
    refine aq 2 rfl (y_call [.agg (eHand a0.Main).toArray] (.string (bs v2_2)) func87 (fun W S => C.s_siText W hv2_2)) ?_
    obtain ⟨y2_3, hy2_3, h⟩ := H.call h
    refine aq 3 rfl (y_cat hy2_3) ?_
    refine ap 4 1 ?_
    refine aq 5 rfl (y_load (.agg (eHand a0.Other).toArray) 0 g0_0 14) ?_
    obtain ⟨v2_6, hv2_6, h⟩ := H.call h
    refine aq 6 rfl (y_call [.agg (eHand a0.Other).toArray] (.string (bs v2_6)) func87 (fun W S => C.s_siText W hv2_6)) ?_
    obtain ⟨y2_7, hy2_7, h⟩ := H.call h
    refine aq 7 rfl (y_cat hy2_7) ?_
    refine ap 8 1 ?_
    refine a_done ?_
    replace h := H.done h
    subst h
    exact ret func47 rfl (vs := [.string (bs y2_7)]) (.tmp (by kernel_rfl) .nil) rfl (fun W S => ⟨rfl, S.below⟩)
  replace h := H.f q1 h
  refine c_skip ?_
  refine c_seq ?_
  refine r_start ?_
  refine p 1 ?_
  refine xq rfl (y_load (.agg (eHand a0.Main).toArray) 0 g0_0 0) ?_
  obtain ⟨v3_2, hv3_2, h⟩ := H.call h
  refine xq rfl (y_call [.agg (eHand a0.Main).toArray] (.string (bs v3_2)) func87 (fun W S => C.s_siText W hv3_2)) ?_
  refine p 1 ?_
  refine rend ?_
  replace h := H.done h
  subst h
  exact ret func47 rfl (vs := [.string (bs v3_2)]) (.tmp (by kernel_rfl) .nil) rfl (fun W S => ⟨rfl, S.below⟩)
theorem C.s_CompoundText {fu : Nat} {a0 : (List Sign)} {A0 : Option Addr} {k0 : Nat} {r : (Str × Bool)} (w : World) (h : X.s_CompoundText fu a0 = some r) (h0 : RdT nSign w (.slice A0 (List.length a0) k0) a0) : Calls prog 14 #[.slice A0 (List.length a0) k0] w (Ret w (.tuple #[.string (bs r.1), .bool r.2])) := by
  refine calls (M := no) (args := [.slice A0 (List.length a0) k0]) func14 rfl ?_
  replace h : H (X.s_CompoundText fu a0) (fun o => o = r) := H.mk h
  unfold X.s_CompoundText at h
  refine c_seq ?_
  refine r_start ?_
  refine p 2 ?_
  refine rend ?_
  refine c_seq ?_
  refine c_seq ?_
  refine r_start ?_
  refine p 1 ?_
  obtain ⟨v1_1, hv1_1, h⟩ := H.call h
  refine xq rfl (y_call [.slice A0 (List.length a0) k0] (.bool v1_1) func40 (fun W S => C.s_cmGood W hv1_1 ((s_arg h0).out W S))) ?_
  refine p 1 ?_
  refine rend ?_
  refine c_or (!v1_1) (fun q1 => ?_) (fun q1 => ?_)
  · replace h := H.t q1 h
    refine c_seq ?_
    refine r_start ?_
    refine p 2 ?_
    refine rend ?_
    replace h := H.done h
    subst h
    exact ret func14 rfl (vs := [.string (bs ([] : Str)), .bool false]) (.tmp (by kernel_rfl) (.tmp (by kernel_rfl) .nil)) rfl (fun W S => ⟨rfl, S.below⟩)
  replace h := H.f q1 h
  refine c_skip ?_
  refine c_seq ?_
  refine r_start ?_
  refine p 1 ?_
  refine rend ?_
  refine c_seq ?_
  refine c_seq ?_
  refine r_start ?_
  refine p 3 ?_
  refine rend ?_
  refine c_block ?_
  refine joinH (X := Str) 0 (H.bnd h) (fun (x : Str) => x) (fun t3 => []) (fun t3 u => (jk u 0 4 (.string (bs t3) :: (jk u 5 22 [])))) (fun h hj4 => ?_) ?_
  · skip
    refine rangeR (X := Str) (s_arg h0) (fun (x : Str) => x) (fun t2 => []) (fun (j5 : Nat) t2 u => (jk u 0 4 (.string (bs t2) :: (jk u 5 5 (.slice A0 (List.length a0) k0 :: .int .i64 (List.length a0 : Int) :: .int .i64 (j5 : Int) :: (jk u 13 14 [])))))) ([] : Str) h (by kernel_rfl) (by kernel_rfl) ?_ ?_
    · intro j5 t2 u x6 q7 hg8 hw9 h
      refine c_seq ?_
      refine r_start ?_
      refine p 1 ?_
      refine rend ?_
      refine c_seq ?_
      refine c_yes q7 ?_
      refine c_skip ?_
      refine c_seq ?_
      refine c_block ?_
      refine c_seq ?_
      refine r_start ?_
      refine p 1 ?_
      refine xq rfl (y_idx (e := nSign) (el := 46) hg8 (s_arg h0)) ?_
      refine xq rfl (y_el (e := nSign) 0 (.agg (eSign x6).toArray) hg8 (s_arg h0)) ?_
      refine xx rfl (x_new (eSign zSign) fun g6_3 => ?_)
      refine p 1 ?_
      refine xx rfl (x_sto 0 g6_3 0 (eSign x6) ?_)
      refine rend ?_
      refine c_seq ?_
      refine c_seq ?_
      refine r_start ?_
      refine p 2 ?_
      refine rend ?_
      refine c_or (decide ((j5 : Int) > 0)) (fun q10 => ?_) (fun q10 => ?_)
      · replace h := H.t q10 h
        refine r_start ?_
        refine p 1 ?_
        obtain ⟨y8_1, hy8_1, h⟩ := H.call h
        refine xq rfl (y_cat hy8_1) ?_
        refine p 1 ?_
        refine rend ?_
        refine r_start ?_
        refine p 1 ?_
        refine xq rfl (y_load (.agg (eSign x6).toArray) 0 g6_3 0) ?_
        obtain ⟨v9_2, hv9_2, h⟩ := H.call h
        refine xq rfl (y_call [.agg (eSign x6).toArray] (.string (bs v9_2)) func47 (fun W S => C.s_paText W hv9_2)) ?_
        obtain ⟨y9_3, hy9_3, h⟩ := H.call h
        refine xq rfl (y_cat hy9_3) ?_
        refine p 1 ?_
        refine rend ?_
        refine c_inb ?_
        refine r_start ?_
        refine p 2 ?_
        refine rend ?_
        refine c_set 12 (ci hw9) ?_
        replace h := H.inl h
        exact h y9_3 _ _ rfl (by kernel_rfl) (by kernel_rfl)
      replace h := H.f q10 h
      refine c_skip ?_
      refine r_start ?_
      refine p 1 ?_
      refine xq rfl (y_load (.agg (eSign x6).toArray) 0 g6_3 0) ?_
      obtain ⟨v9_2, hv9_2, h⟩ := H.call h
      refine xq rfl (y_call [.agg (eSign x6).toArray] (.string (bs v9_2)) func47 (fun W S => C.s_paText W hv9_2)) ?_
      obtain ⟨y9_3, hy9_3, h⟩ := H.call h
      refine xq rfl (y_cat hy9_3) ?_
      refine p 1 ?_
      refine rend ?_
      refine c_inb ?_
      refine r_start ?_
      refine p 2 ?_
      refine rend ?_
      refine c_set 12 (ci hw9) ?_
      replace h := H.inl h
      exact h y9_3 _ _ rfl (by kernel_rfl) (by kernel_rfl)
    · intro t2 u q7 h
      refine c_seq ?_
      refine r_start ?_
      refine p 1 ?_
      refine rend ?_
      refine c_seq ?_
      refine c_no q7 ?_
      refine cx ?_
      replace h := H.done h
      exact hj4 t2 _ _ h (by kernel_rfl) (by kernel_rfl)
  intro t3 u h
  refine c_seq ?_
  refine r_start ?_
  refine p 3 ?_
  refine rend ?_
  replace h := H.done h
  subst h
  exact ret func14 rfl (vs := [.string (bs t3), .bool true]) (.tmp (by kernel_rfl) (.tmp (by kernel_rfl) .nil)) rfl (fun W S => ⟨rfl, S.below⟩)
theorem C.s_DrawGapOfSigns {fu : Nat} {a0 : (List Int)} {A0 : Option Addr} {k0 : Nat} {r : (Sign × Sign)} (w : World) (h : X.s_DrawGapOfSigns fu a0 = some r) (h0 : RdT (eI .u8) w (.slice A0 (List.length a0) k0) a0) : Calls prog 15 #[.slice A0 (List.length a0) k0] w (Ret w (.tuple #[.agg (eSign r.1).toArray, .agg (eSign r.2).toArray])) := by
  refine calls (M := no) (args := [.slice A0 (List.length a0) k0]) func15 rfl ?_
  replace h : H (X.s_DrawGapOfSigns fu a0) (fun o => o = r) := H.mk h
  unfold X.s_DrawGapOfSigns at h
  refine c_seq ?_
  refine r_start ?_
  refine xx rfl (x_new (eSign zSign) fun g0_0 => ?_)
  refine xx rfl (x_new (eSign zSign) fun g0_1 => ?_)
  refine rend ?_
  refine c_seq ?_
  refine r_start ?_
  refine p 2 ?_
  refine xx rfl (x_box [.slice A0 (List.length a0) k0, .int .i64 0, .int .u64 0] fun g1_2 => ?_)
  refine p 1 ?_
  refine rend ?_
  refine c_seq ?_
  refine r_start ?_
  refine p 1 ?_
  obtain ⟨v2_1, hv2_1, h⟩ := H.call h
  refine xx rfl (e_cq (cs' := [.slice A0 (List.length a0) k0, .int .i64 v2_1.2.1, .int .u64 v2_1.2.2]) (v := .agg (eSign v2_1.1).toArray) 2 [.pointer (some ⟨g1_2, 0, none⟩)] func48 (fun W S => C.s_l1Cur_anySign W hv2_1 (S.bx 2) ((s_arg h0).out W S) (ap_arg h0 S 2)) ?_)
  refine p 1 ?_
  obtain ⟨v2_3, hv2_3, h⟩ := H.call h
  refine xx rfl (e_cq (cs' := [.slice A0 (List.length a0) k0, .int .i64 v2_3.2.1, .int .u64 v2_3.2.2]) (v := .agg (eSign v2_3.1).toArray) 2 [.pointer (some ⟨g1_2, 0, none⟩)] func48 (fun W S => C.s_l1Cur_anySign W hv2_3 (S.bx 2) ((s_arg h0).out W S) (ap_arg h0 S 2)) ?_)
  refine xx rfl (x_sto 0 g0_0 0 (eSign v2_1.1) ?_)
  refine xx rfl (x_sto 1 g0_1 0 (eSign v2_3.1) ?_)
  refine rend ?_
  replace h := H.done h
  subst h
  exact ret func15 rfl (vs := [.agg (eSign v2_1.1).toArray, .agg (eSign v2_3.1).toArray]) (.cell 0 g0_0 rfl (by kernel_rfl) (by kernel_rfl) (.cell 1 g0_1 rfl (by kernel_rfl) (by kernel_rfl) .nil)) rfl (fun W S => ⟨rfl, S.below⟩)
theorem C.i_GapOfSigns {fu : Nat} {a0 : Sign} {a1 : Sign} {r : (Int × Bool)} (w : World) (h : X.i_GapOfSigns fu a0 a1 = some r) : Calls prog 16 #[.agg (eSign a0).toArray, .agg (eSign a1).toArray] w (Ret w (.tuple #[.int .i64 r.1, .bool r.2])) := by
  refine calls (M := no) (args := [.agg (eSign a0).toArray, .agg (eSign a1).toArray]) func16 rfl ?_
  replace h : H (X.i_GapOfSigns fu a0 a1) (fun o => o = r) := H.mk h
  unfold X.i_GapOfSigns at h
  refine c_seq ?_
  refine r_start ?_
  refine xx rfl (x_box (eSign a0) fun g0_0 => ?_)
  refine xx rfl (x_box (eSign a1) fun g0_1 => ?_)
  refine p 2 ?_
  refine rend ?_
  refine c_seq ?_
  refine c_seq ?_
  refine r_start ?_
  refine xq rfl (y_load (.agg (eSign a0).toArray) 0 g0_0 0) ?_
  obtain ⟨v1_1, hv1_1, h⟩ := H.call h
  refine xq rfl (y_call [.agg (eSign a0).toArray] (.bool v1_1) func49 (fun W S => C.i_IsSign W hv1_1)) ?_
  refine p 2 ?_
  refine br (!v1_1) (fun q1 => ?_) (fun q1 => ?_)
  · replace h := H.t q1 h
    refine o_set 9 (congrArg Value.bool q1) ?_
    refine p 4 ?_
    refine rend ?_
    refine c_t (by kernel_rfl) ?_
    refine c_seq ?_
    refine r_start ?_
    refine p 2 ?_
    refine rend ?_
    replace h := H.done h
    subst h
    exact ret func16 rfl (vs := [.int .i64 0, .bool false]) (.tmp (by kernel_rfl) (.tmp (by kernel_rfl) .nil)) rfl (fun W S => ⟨rfl, S.below⟩)
  replace h := H.f q1 h
  refine o_set 9 (congrArg Value.bool q1) ?_
  refine xq rfl (y_load (.agg (eSign a1).toArray) 1 g0_1 0) ?_
  obtain ⟨v1_5, hv1_5, h⟩ := H.call h
  refine xq rfl (y_call [.agg (eSign a1).toArray] (.bool v1_5) func49 (fun W S => C.i_IsSign W hv1_5)) ?_
  refine p 2 ?_
  refine rend ?_
  refine c_or (!v1_5) (fun q2 => ?_) (fun q2 => ?_)
  · replace h := H.t q2 h
    refine c_seq ?_
    refine r_start ?_
    refine p 2 ?_
    refine rend ?_
    replace h := H.done h
    subst h
    exact ret func16 rfl (vs := [.int .i64 0, .bool false]) (.tmp (by kernel_rfl) (.tmp (by kernel_rfl) .nil)) rfl (fun W S => ⟨rfl, S.below⟩)
  replace h := H.f q2 h
  refine c_skip ?_
  refine c_seq ?_
  refine r_start ?_
  refine xq rfl (y_load (.agg (eSign a0).toArray) 0 g0_0 0) ?_
  refine xq rfl (y_load (.agg (eSign a1).toArray) 1 g0_1 0) ?_
  obtain ⟨v3_2, hv3_2, h⟩ := H.call h
  refine xq rfl (y_call [.agg (eSign a0).toArray, .agg (eSign a1).toArray] (.int .i64 v3_2) func50 (fun W S => C.i_gap W hv3_2)) ?_
  refine p 2 ?_
  refine rend ?_
  replace h := H.done h
  subst h
  exact ret func16 rfl (vs := [.int .i64 v3_2, .bool true]) (.tmp (by kernel_rfl) (.tmp (by kernel_rfl) .nil)) rfl (fun W S => ⟨rfl, S.below⟩)
theorem C.s_feBoth {fu : Nat} {a0 : Sign} {a1 : Sign} {r : Bool} (w : World) (h : X.s_feBoth fu a0 a1 = some r) : Calls prog 51 #[.agg (eSign a0).toArray, .agg (eSign a1).toArray] w (Ret w (.bool r)) := by
  refine calls (M := no) (args := [.agg (eSign a0).toArray, .agg (eSign a1).toArray]) func51 rfl ?_
  replace h : H (X.s_feBoth fu a0 a1) (fun o => o = r) := H.mk h
  unfold X.s_feBoth at h
  refine c_seq ?_
  refine r_start ?_
  refine xx rfl (x_box (eSign a0) fun g0_0 => ?_)
  refine xx rfl (x_box (eSign a1) fun g0_1 => ?_)
  refine p 1 ?_
  refine rend ?_
  refine c_seq ?_
  refine r_start ?_
  refine xq rfl (y_load (.agg (eSign a0).toArray) 0 g0_0 0) ?_
  obtain ⟨v1_1, hv1_1, h⟩ := H.call h
  refine xq rfl (y_call [.agg (eSign a0).toArray] (.bool v1_1) func61 (fun W S => C.s_siGood W hv1_1)) ?_
  refine p 1 ?_
  refine br v1_1 (fun q1 => ?_) (fun q1 => ?_)
  · replace h := H.t q1 h
    refine o_set 7 (congrArg Value.bool q1) ?_
    refine xq rfl (y_load (.agg (eSign a1).toArray) 1 g0_1 0) ?_
    obtain ⟨v1_4, hv1_4, h⟩ := H.call h
    refine xq rfl (y_call [.agg (eSign a1).toArray] (.bool v1_4) func61 (fun W S => C.s_siGood W hv1_4)) ?_
    refine p 2 ?_
    refine rend ?_
    replace h := H.done h
    subst h
    exact ret func51 rfl (vs := [.bool v1_4]) (.tmp (by kernel_rfl) .nil) rfl (fun W S => ⟨rfl, S.below⟩)
  replace h := H.f q1 h
  refine o_set 7 (congrArg Value.bool q1) ?_
  refine p 4 ?_
  refine rend ?_
  replace h := H.done h
  subst h
  exact ret func51 rfl (vs := [.bool false]) (.tmp (by kernel_rfl) .nil) rfl (fun W S => ⟨rfl, S.below⟩)
theorem C.s_GapOfSigns {fu : Nat} {a0 : Sign} {a1 : Sign} {r : (Int × Bool)} (w : World) (h : X.s_GapOfSigns fu a0 a1 = some r) : Calls prog 17 #[.agg (eSign a0).toArray, .agg (eSign a1).toArray] w (Ret w (.tuple #[.int .i64 r.1, .bool r.2])) := by
  refine calls (M := no) (args := [.agg (eSign a0).toArray, .agg (eSign a1).toArray]) func17 rfl ?_
  replace h : H (X.s_GapOfSigns fu a0 a1) (fun o => o = r) := H.mk h
  unfold X.s_GapOfSigns at h
  refine c_seq ?_
  refine r_start ?_
  refine xx rfl (x_box (eSign a0) fun g0_0 => ?_)
  refine xx rfl (x_box (eSign a1) fun g0_1 => ?_)
  refine p 2 ?_
  refine rend ?_
  refine c_seq ?_
  refine c_seq ?_
  refine r_start ?_
  refine xq rfl (y_load (.agg (eSign a0).toArray) 0 g0_0 0) ?_
  refine xq rfl (y_load (.agg (eSign a1).toArray) 1 g0_1 0) ?_
  obtain ⟨v1_2, hv1_2, h⟩ := H.call h
  refine xq rfl (y_call [.agg (eSign a0).toArray, .agg (eSign a1).toArray] (.bool v1_2) func51 (fun W S => C.s_feBoth W hv1_2)) ?_
  refine p 1 ?_
  refine rend ?_
  refine c_or (!v1_2) (fun q1 => ?_) (fun q1 => ?_)
  · replace h := H.t q1 h
    refine c_seq ?_
    refine r_start ?_
    refine p 2 ?_
    refine rend ?_
    replace h := H.done h
    subst h
    exact ret func17 rfl (vs := [.int .i64 0, .bool false]) (.tmp (by kernel_rfl) (.tmp (by kernel_rfl) .nil)) rfl (fun W S => ⟨rfl, S.below⟩)
  replace h := H.f q1 h
  refine c_skip ?_
  refine c_seq ?_
  refine r_start ?_
  refine xq rfl (y_load (.agg (eSign a0).toArray) 0 g0_0 0) ?_
  refine xq rfl (y_load (.agg (eSign a1).toArray) 1 g0_1 0) ?_
  obtain ⟨v3_2, hv3_2, h⟩ := H.call h
  refine xq rfl (y_call [.agg (eSign a0).toArray, .agg (eSign a1).toArray] (.int .i64 v3_2) func42 (fun W S => C.s_cmGap W hv3_2)) ?_
  refine p 2 ?_
  refine rend ?_
  replace h := H.done h
  subst h
  exact ret func17 rfl (vs := [.int .i64 v3_2, .bool true]) (.tmp (by kernel_rfl) (.tmp (by kernel_rfl) .nil)) rfl (fun W S => ⟨rfl, S.below⟩)
theorem C.s_cmRoot {fu : Nat} {a0 : Str} {r : Str} (w : World) (h : X.s_cmRoot fu a0 = some r) : Calls prog 151 #[.string (bs a0)] w (Ret w (.string (bs r))) := by
  refine calls (M := no) (args := [.string (bs a0)]) func151 rfl ?_
  replace h : H (X.s_cmRoot fu a0) (fun o => o = r) := H.mk h
  unfold X.s_cmRoot at h
  refine c_seq ?_
  refine r_start ?_
  refine p 1 ?_
  refine rend ?_
  refine c_seq ?_
  refine c_seq ?_
  refine r_start ?_
  refine p 1 ?_
  refine rend ?_
  refine c_block ?_
  refine joinE (X := Unit) 0 (H.or h) (fun (x : Unit) => x) (fun _ => []) (fun _ u => (.string (bs a0) :: (jk u 1 30 []))) (fun h hj2 => ?_) ?_
  · skip
    refine loopR (X := Int) (fun (x : Int) => x) (fun n1 => []) (fun n1 u => (.string (bs a0) :: (jk u 1 2 (.int .i64 n1 :: (jk u 4 27 []))))) 1 h (by kernel_rfl) (by kernel_rfl) ?_
    intro n1 u h
    refine c_seq ?_
    refine c_seq ?_
    refine r_start ?_
    refine p 4 ?_
    refine rend ?_
    refine c_or (decide (n1 < (List.length a0 : Int))) (fun q3 => ?_) (fun q3 => ?_)
    · replace h := H.t q3 h
      refine c_skip ?_
      refine c_seq ?_
      refine c_block ?_
      refine c_seq ?_
      refine as_start 17 17 ?_
      refine ap 0 3 ?_
      obtain ⟨y4_3, hy4_3, h⟩ := H.call h
      refine aq 3 rfl (y_mod hy4_3) ?_
      refine ap 4 2 ?_
      refine br (y4_3 == 0) (fun q4 => ?_) (fun q4 => ?_)
      · replace h := H.t q4 h
        refine a_set 15 (congrArg Value.bool q4) ?_
        refine ap 6 2 ?_
        obtain ⟨y4_8, hy4_8, h⟩ := H.call h
        refine aq 8 rfl (y_cut hy4_8) ?_
        refine ap 9 3 ?_
        obtain ⟨y4_12, hy4_12, h⟩ := H.call h
        refine aq 12 rfl (y_div hy4_12) ?_
        obtain ⟨v4_13, hv4_13, h⟩ := H.call h
        refine aq 13 rfl (y_call [.string (bs y4_8), .int .i64 y4_12] (.string (bs v4_13)) func101 (fun W S => C.s_mvTimes W hv4_13)) ?_
        refine ap 14 3 ?_
        refine a_done ?_
        refine c_or (seq v4_13 a0) (fun q5 => ?_) (fun q5 => ?_)
        · replace h := H.t q5 h
          refine c_seq ?_
          refine r_start ?_
          refine p 2 ?_
          obtain ⟨y5_2, hy5_2, h⟩ := H.call h
          refine xq rfl (y_cut hy5_2) ?_
          refine p 1 ?_
          refine rend ?_
          replace h := H.inr h
          replace h := H.done h
          subst h
          exact ret func151 rfl (vs := [.string (bs y5_2)]) (.tmp (by kernel_rfl) .nil) rfl (fun W S => ⟨rfl, S.below⟩)
        replace h := H.f q5 h
        refine c_skip ?_
        refine c_inb ?_
        refine r_start ?_
        refine p 3 ?_
        refine rend ?_
        replace h := H.inl h
        exact h (wr (n1 + 1)) _ _ rfl (by kernel_rfl) (by kernel_rfl)
      replace h := H.f q4 h
      refine a_set 15 (congrArg Value.bool q4) ?_
      refine ap 6 11 ?_
      refine a_done ?_
      refine c_f (by kernel_rfl) ?_
      refine c_skip ?_
      refine c_inb ?_
      refine r_start ?_
      refine p 3 ?_
      refine rend ?_
      replace h := H.inl h
      exact h (wr (n1 + 1)) _ _ rfl (by kernel_rfl) (by kernel_rfl)
    replace h := H.f q3 h
    refine cx ?_
    replace h := H.inr h
    exact hj2 () _ _ h (by kernel_rfl) (by kernel_rfl)
  intro x u h
  refine c_seq ?_
  refine r_start ?_
  refine p 2 ?_
  refine rend ?_
  replace h := H.done h
  subst h
  exact ret func151 rfl (vs := [.string (bs a0)]) (.tmp (by kernel_rfl) .nil) rfl (fun W S => ⟨rfl, S.below⟩)
theorem C.s_cmReduce {fu : Nat} {a0 : Sign} {r : Sign} (w : World) (h : X.s_cmReduce fu a0 = some r) : Calls prog 94 #[.agg (eSign a0).toArray] w (Ret w (.agg (eSign r).toArray)) := by
  refine calls (M := no) (args := [.agg (eSign a0).toArray]) func94 rfl ?_
  replace h : H (X.s_cmReduce fu a0) (fun o => o = r) := H.mk h
  unfold X.s_cmReduce at h
  refine c_seq ?_
  refine r_start ?_
  refine xx rfl (x_box (eSign a0) fun g0_0 => ?_)
  refine xx rfl (x_new (eSign zSign) fun g0_1 => ?_)
  refine rend ?_
  refine c_seq ?_
  refine r_start ?_
  refine p 2 ?_
  refine xq rfl (y_load (.agg (eMove a0.Main.Move).toArray) 0 g0_0 11) ?_
  obtain ⟨v1_3, hv1_3, h⟩ := H.call h
  refine xq rfl (y_call [.agg (eMove a0.Main.Move).toArray] (.string (bs v1_3)) func63 (fun W S => C.s_mvAll W hv1_3)) ?_
  obtain ⟨v1_4, hv1_4, h⟩ := H.call h
  refine xq rfl (y_call [.string (bs v1_3)] (.string (bs v1_4)) func151 (fun W S => C.s_cmRoot W hv1_4)) ?_
  refine p 3 ?_
  refine xx rfl (x_sto 0 g0_0 11 (eSign ({ a0 with Main := { a0.Main with Move := (⟨v1_4, 1⟩ : Move) } })) ?_)
  refine rend ?_
  refine c_seq ?_
  refine c_seq ?_
  refine r_start ?_
  refine p 1 ?_
  refine xq rfl (y_load (.bool a0.Two) 0 g0_0 13) ?_
  refine rend ?_
  refine c_or a0.Two (fun q1 => ?_) (fun q1 => ?_)
  · replace h := H.t q1 h
    refine r_start ?_
    refine p 2 ?_
    refine xq rfl (y_load (.agg (eMove a0.Other.Move).toArray) 0 g0_0 25) ?_
    obtain ⟨v3_3, hv3_3, h⟩ := H.call h
    refine xq rfl (y_call [.agg (eMove a0.Other.Move).toArray] (.string (bs v3_3)) func63 (fun W S => C.s_mvAll W hv3_3)) ?_
    obtain ⟨v3_4, hv3_4, h⟩ := H.call h
    refine xq rfl (y_call [.string (bs v3_3)] (.string (bs v3_4)) func151 (fun W S => C.s_cmRoot W hv3_4)) ?_
    refine p 3 ?_
    refine xx rfl (x_sto 0 g0_0 25 (eSign (⟨{ a0.Main with Move := (⟨v1_4, 1⟩ : Move) }, a0.Two, { a0.Other with Move := (⟨v3_4, 1⟩ : Move) }⟩ : Sign)) ?_)
    refine rend ?_
    refine c_seq ?_
    refine r_start ?_
    refine xq rfl (y_load (.agg (eSign (⟨{ a0.Main with Move := (⟨v1_4, 1⟩ : Move) }, a0.Two, { a0.Other with Move := (⟨v3_4, 1⟩ : Move) }⟩ : Sign)).toArray) 0 g0_0 0) ?_
    refine xx rfl (x_sto 1 g0_1 0 (eSign (⟨{ a0.Main with Move := (⟨v1_4, 1⟩ : Move) }, a0.Two, { a0.Other with Move := (⟨v3_4, 1⟩ : Move) }⟩ : Sign)) ?_)
    refine rend ?_
    replace h := H.done h
    subst h
    exact ret func94 rfl (vs := [.agg (eSign (⟨{ a0.Main with Move := (⟨v1_4, 1⟩ : Move) }, a0.Two, { a0.Other with Move := (⟨v3_4, 1⟩ : Move) }⟩ : Sign)).toArray]) (.cell 1 g0_1 rfl (by kernel_rfl) (by kernel_rfl) .nil) rfl (fun W S => ⟨rfl, S.below⟩)
  replace h := H.f q1 h
  refine c_skip ?_
  refine c_seq ?_
  refine r_start ?_
  refine xq rfl (y_load (.agg (eSign ({ a0 with Main := { a0.Main with Move := (⟨v1_4, 1⟩ : Move) } })).toArray) 0 g0_0 0) ?_
  refine xx rfl (x_sto 1 g0_1 0 (eSign ({ a0 with Main := { a0.Main with Move := (⟨v1_4, 1⟩ : Move) } })) ?_)
  refine rend ?_
  replace h := H.done h
  subst h
  exact ret func94 rfl (vs := [.agg (eSign ({ a0 with Main := { a0.Main with Move := (⟨v1_4, 1⟩ : Move) } })).toArray]) (.cell 1 g0_1 rfl (by kernel_rfl) (by kernel_rfl) .nil) rfl (fun W S => ⟨rfl, S.below⟩)
theorem C.s_cmOf {fu : Nat} {a0 : (List Sign)} {A0 : Option Addr} {k0 : Nat} {r : (List Sign)} (w : World) (h : X.s_cmOf fu a0 = some r) (h0 : RdT nSign w (.slice A0 (List.length a0) k0) a0) : Calls prog 54 #[.slice A0 (List.length a0) k0] w (RetR nSign 46 w r (fun v => v)) := by
  refine calls (M := no) (args := [.slice A0 (List.length a0) k0]) func54 rfl ?_
  replace h : H (X.s_cmOf fu a0) (fun o => o = r) := H.mk h
  unfold X.s_cmOf at h
  refine c_seq ?_
  refine r_start ?_
  refine p 1 ?_
  refine rend ?_
  refine c_seq ?_
  refine r_start ?_
  refine p 1 ?_
  refine rend ?_
  refine c_seq ?_
  refine c_seq ?_
  refine r_start ?_
  refine p 3 ?_
  refine rend ?_
  refine c_block ?_
  refine c_nil nSign 46 ?_
  refine joinH (X := ((List Sign) × Option Addr × Nat)) 0 (H.bnd h) (fun ⟨l4, A5, k6⟩ => l4) (fun ⟨l4, A5, k6⟩ => [rowT nSign w.heap.size 46 (.slice A5 (List.length l4) k6) l4]) (fun ⟨l4, A5, k6⟩ u => (jk u 0 3 (.slice A5 (List.length l4) k6 :: (jk u 4 22 [])))) (fun h hj7 => ?_) ?_
  · skip
    refine rangeR (X := ((List Sign) × Option Addr × Nat)) (s_arg h0) (fun ⟨l1, A2, k3⟩ => l1) (fun ⟨l1, A2, k3⟩ => [rowT nSign w.heap.size 46 (.slice A2 (List.length l1) k3) l1]) (fun (j8 : Nat) ⟨l1, A2, k3⟩ u => (.slice A0 (List.length a0) k0 :: (jk u 1 2 (.slice A2 (List.length l1) k3 :: (jk u 4 2 (.slice A0 (List.length a0) k0 :: .int .i64 (List.length a0 : Int) :: .int .i64 (j8 : Int) :: (jk u 9 17 []))))))) (([] : List Sign), none, 0) h (by kernel_rfl) (by kernel_rfl) ?_ ?_
    · intro j8 x u x9 q10 hg11 hw12 h
      obtain ⟨l1, A2, k3⟩ := x
      refine c_seq ?_
      refine r_start ?_
      refine p 1 ?_
      refine rend ?_
      refine c_seq ?_
      refine c_yes q10 ?_
      refine c_skip ?_
      refine c_seq ?_
      refine c_block ?_
      refine c_seq ?_
      refine r_start ?_
      refine p 1 ?_
      refine xq rfl (y_idx (e := nSign) (el := 46) hg11 (s_arg h0)) ?_
      refine xq rfl (y_el (e := nSign) 0 (.agg (eSign x9).toArray) hg11 (s_arg h0)) ?_
      refine xx rfl (x_new (eSign zSign) fun g4_3 => ?_)
      refine p 1 ?_
      refine xx rfl (x_sto 1 g4_3 0 (eSign x9) ?_)
      refine rend ?_
      refine c_seq ?_
      refine c_seq ?_
      refine r_start ?_
      refine p 5 ?_
      refine rend ?_
      refine c_or (decide ((wr ((j8 : Int) + 1)) < (List.length a0 : Int))) (fun q13 => ?_) (fun q13 => ?_)
      · replace h := H.t q13 h
        refine r_start ?_
        refine xq rfl (y_load (.agg (eSign x9).toArray) 1 g4_3 0) ?_
        obtain ⟨v6_1, hv6_1, h⟩ := H.call h
        refine xq rfl (y_call [.agg (eSign x9).toArray] (.agg (eSign v6_1).toArray) func94 (fun W S => C.s_cmReduce W hv6_1)) ?_
        refine xx rfl (x_sto 1 g4_3 0 (eSign v6_1) ?_)
        refine rend ?_
        refine r_start ?_
        refine p 1 ?_
        refine xq rfl (y_load (.agg (eSign v6_1).toArray) 1 g4_3 0) ?_
        refine xx rfl (e_lit (e := nSign) (el := 46) [.agg (eSign v6_1).toArray] ([v6_1] : List Sign) fun A7_2 k7_2 => ?_)
        obtain ⟨y7_3, hy7_3, h⟩ := H.call h
        refine xx rfl (e_app 0 hy7_3 (s_own 2) fun A7_3 k7_3 => ?_)
        refine p 1 ?_
        refine rend ?_
        refine c_inb ?_
        refine r_start ?_
        refine p 2 ?_
        refine rend ?_
        refine c_set 8 (ci hw12) ?_
        replace h := H.inl h
        exact h (y7_3, A7_3, k7_3) _ _ rfl (by kernel_rfl) (by kernel_rfl)
      replace h := H.f q13 h
      refine c_skip ?_
      refine r_start ?_
      refine p 1 ?_
      refine xq rfl (y_load (.agg (eSign x9).toArray) 1 g4_3 0) ?_
      refine xx rfl (e_lit (e := nSign) (el := 46) [.agg (eSign x9).toArray] ([x9] : List Sign) fun A7_2 k7_2 => ?_)
      obtain ⟨y7_3, hy7_3, h⟩ := H.call h
      refine xx rfl (e_app 0 hy7_3 (s_own 2) fun A7_3 k7_3 => ?_)
      refine p 1 ?_
      refine rend ?_
      refine c_inb ?_
      refine r_start ?_
      refine p 2 ?_
      refine rend ?_
      refine c_set 8 (ci hw12) ?_
      replace h := H.inl h
      exact h (y7_3, A7_3, k7_3) _ _ rfl (by kernel_rfl) (by kernel_rfl)
    · intro x u q10 h
      obtain ⟨l1, A2, k3⟩ := x
      refine c_seq ?_
      refine r_start ?_
      refine p 1 ?_
      refine rend ?_
      refine c_seq ?_
      refine c_no q10 ?_
      refine cx ?_
      replace h := H.done h
      exact hj7 (l1, A2, k3) _ _ h (by kernel_rfl) (by kernel_rfl)
  intro x u h
  obtain ⟨l4, A5, k6⟩ := x
  refine c_seq ?_
  refine r_start ?_
  refine p 2 ?_
  refine rend ?_
  replace h := H.done h
  subst h
  exact ret func54 rfl (vs := [.slice A5 (List.length l4) k6]) (.tmp (by kernel_rfl) .nil) rfl (fun W S => ⟨_, _, rfl, S.row 0, S.below⟩)
theorem C.s_noHand {fu : Nat} {a0 : Hand} {r : Hand} (w : World) (h : X.s_noHand fu a0 = some r) : Calls prog 95 #[.agg (eHand a0).toArray] w (Ret w (.agg (eHand r).toArray)) := by
  refine calls (M := no) (args := [.agg (eHand a0).toArray]) func95 rfl ?_
  replace h : H (X.s_noHand fu a0) (fun o => o = r) := H.mk h
  unfold X.s_noHand at h
  refine c_seq ?_
  refine r_start ?_
  refine xx rfl (x_box (eHand a0) fun g0_0 => ?_)
  refine xx rfl (x_new (eHand zHand) fun g0_1 => ?_)
  refine rend ?_
  refine c_seq ?_
  refine r_start ?_
  refine p 1 ?_
  refine xq rfl (y_load (.agg (eMove a0.Move).toArray) 0 g0_0 11) ?_
  obtain ⟨v1_2, hv1_2, h⟩ := H.call h
  refine xq rfl (y_call [.agg (eMove a0.Move).toArray] (.agg (eMove v1_2).toArray) func152 (fun W S => C.s_mvNormal W hv1_2)) ?_
  refine p 1 ?_
  refine xx rfl (x_sto 0 g0_0 11 (eHand ({ a0 with Move := v1_2 })) ?_)
  refine rend ?_
  refine c_seq ?_
  refine r_start ?_
  refine xq rfl (y_load (.agg (eHand ({ a0 with Move := v1_2 })).toArray) 0 g0_0 0) ?_
  refine xx rfl (x_sto 1 g0_1 0 (eHand ({ a0 with Move := v1_2 })) ?_)
  refine rend ?_
  replace h := H.done h
  subst h
  exact ret func95 rfl (vs := [.agg (eHand ({ a0 with Move := v1_2 })).toArray]) (.cell 1 g0_1 rfl (by kernel_rfl) (by kernel_rfl) .nil) rfl (fun W S => ⟨rfl, S.below⟩)
theorem C.s_siKind {a0 : Sign} {r : Int} (w : World) (h : X.s_siKind a0 = some r) : Calls prog 96 #[.agg (eSign a0).toArray] w (Ret w (.int .i64 r)) := by
  refine calls (M := no) (args := [.agg (eSign a0).toArray]) func96 rfl ?_
  replace h : H (X.s_siKind a0) (fun o => o = r) := H.mk h
  unfold X.s_siKind at h
  refine c_seq ?_
  refine r_start ?_
  refine xx rfl (x_box (eSign a0) fun g0_0 => ?_)
  refine p 1 ?_
  refine rend ?_
  refine c_seq ?_
  refine c_block ?_
  refine c_seq ?_
  refine r_start ?_
  refine p 1 ?_
  refine xq rfl (y_load (.bool a0.Two) 0 g0_0 13) ?_
  refine p 2 ?_
  refine rend ?_
  refine c_or (!a0.Two) (fun q1 => ?_) (fun q1 => ?_)
  · replace h := H.t q1 h
    refine c_seq ?_
    refine r_start ?_
    refine p 1 ?_
    refine rend ?_
    replace h := H.done h
    subst h
    exact ret func96 rfl (vs := [.int .i64 0]) (.tmp (by kernel_rfl) .nil) rfl (fun W S => ⟨rfl, S.below⟩)
  replace h := H.f q1 h
  refine c_seq ?_
  refine r_start ?_
  refine p 3 ?_
  refine xq rfl (y_load (.string (bs a0.Other.Move.Steps)) 0 g0_0 25) ?_
  refine p 2 ?_
  refine rend ?_
  refine c_or (!seq a0.Other.Move.Steps ([] : Str)) (fun q2 => ?_) (fun q2 => ?_)
  · replace h := H.t q2 h
    refine c_seq ?_
    refine r_start ?_
    refine p 1 ?_
    refine rend ?_
    replace h := H.done h
    subst h
    exact ret func96 rfl (vs := [.int .i64 1]) (.tmp (by kernel_rfl) .nil) rfl (fun W S => ⟨rfl, S.below⟩)
  replace h := H.f q2 h
  refine c_seq ?_
  refine r_start ?_
  refine p 2 ?_
  refine xq rfl (y_load (.agg (eShape a0.Main.Shape).toArray) 0 g0_0 0) ?_
  refine p 2 ?_
  refine xq rfl (y_load (.agg (eShape a0.Other.Shape).toArray) 0 g0_0 14) ?_
  refine p 2 ?_
  refine rend ?_
  refine c_or (qShape a0.Main.Shape a0.Other.Shape) (fun q3 => ?_) (fun q3 => ?_)
  · replace h := H.t q3 h
    refine c_seq ?_
    refine r_start ?_
    refine p 1 ?_
    refine rend ?_
    replace h := H.done h
    subst h
    exact ret func96 rfl (vs := [.int .i64 2]) (.tmp (by kernel_rfl) .nil) rfl (fun W S => ⟨rfl, S.below⟩)
  replace h := H.f q3 h
  refine c_skip ?_
  refine c_inb ?_
  refine c_seq ?_
  refine r_start ?_
  refine p 1 ?_
  refine rend ?_
  replace h := H.done h
  subst h
  exact ret func96 rfl (vs := [.int .i64 3]) (.tmp (by kernel_rfl) .nil) rfl (fun W S => ⟨rfl, S.below⟩)
theorem C.s_noForm {fu : Nat} {a0 : Sign} {r : Sign} (w : World) (h : X.s_noForm fu a0 = some r) : Calls prog 55 #[.agg (eSign a0).toArray] w (Ret w (.agg (eSign r).toArray)) := by
  refine calls (M := no) (args := [.agg (eSign a0).toArray]) func55 rfl ?_
  replace h : H (X.s_noForm fu a0) (fun o => o = r) := H.mk h
  unfold X.s_noForm at h
  refine c_seq ?_
  refine r_start ?_
  refine xx rfl (x_box (eSign a0) fun g0_0 => ?_)
  refine xx rfl (x_new (eSign zSign) fun g0_1 => ?_)
  refine rend ?_
  refine c_seq ?_
  refine r_start ?_
  refine p 1 ?_
  refine xq rfl (y_load (.agg (eHand a0.Main).toArray) 0 g0_0 0) ?_
  obtain ⟨v1_2, hv1_2, h⟩ := H.call h
  refine xq rfl (y_call [.agg (eHand a0.Main).toArray] (.agg (eHand v1_2).toArray) func95 (fun W S => C.s_noHand W hv1_2)) ?_
  refine p 1 ?_
  refine xx rfl (x_new (eSign zSign) fun g1_4 => ?_)
  refine xx rfl (x_sto 2 g1_4 0 (eSign ({ zSign with Main := v1_2 })) ?_)
  refine rend ?_
  refine c_seq ?_
  refine c_seq ?_
  refine r_start ?_
  refine p 1 ?_
  refine xq rfl (y_load (.bool a0.Two) 0 g0_0 13) ?_
  refine p 1 ?_
  refine rend ?_
  refine c_or (!a0.Two) (fun q1 => ?_) (fun q1 => ?_)
  · replace h := H.t q1 h
    refine c_seq ?_
    refine r_start ?_
    refine xq rfl (y_load (.agg (eSign ({ zSign with Main := v1_2 })).toArray) 2 g1_4 0) ?_
    refine xx rfl (x_sto 1 g0_1 0 (eSign ({ zSign with Main := v1_2 })) ?_)
    refine rend ?_
    replace h := H.done h
    subst h
    exact ret func55 rfl (vs := [.agg (eSign ({ zSign with Main := v1_2 })).toArray]) (.cell 1 g0_1 rfl (by kernel_rfl) (by kernel_rfl) .nil) rfl (fun W S => ⟨rfl, S.below⟩)
  replace h := H.f q1 h
  refine c_skip ?_
  refine c_seq ?_
  refine r_start ?_
  refine p 1 ?_
  refine xx rfl (x_sto 2 g1_4 13 (eSign (⟨v1_2, true, zSign.Other⟩ : Sign)) ?_)
  refine rend ?_
  refine c_seq ?_
  refine r_start ?_
  refine p 1 ?_
  refine xq rfl (y_load (.agg (eHand a0.Other).toArray) 0 g0_0 14) ?_
  obtain ⟨v5_2, hv5_2, h⟩ := H.call h
  refine xq rfl (y_call [.agg (eHand a0.Other).toArray] (.agg (eHand v5_2).toArray) func95 (fun W S => C.s_noHand W hv5_2)) ?_
  refine p 1 ?_
  refine xx rfl (x_sto 2 g1_4 14 (eSign (⟨v1_2, true, v5_2⟩ : Sign)) ?_)
  refine rend ?_
  refine c_seq ?_
  refine c_seq ?_
  refine as_start 12 12 ?_
  refine aq 0 rfl (y_load (.agg (eSign (⟨v1_2, true, v5_2⟩ : Sign)).toArray) 2 g1_4 0) ?_
  obtain ⟨v6_1, hv6_1, h⟩ := H.call h
  refine aq 1 rfl (y_call [.agg (eSign (⟨v1_2, true, v5_2⟩ : Sign)).toArray] (.int .i64 v6_1) func96 (fun W S => C.s_siKind W hv6_1)) ?_
  refine ap 2 2 ?_
  refine br (v6_1 == 1) (fun q2 => ?_) (fun q2 => ?_)
  · replace h := H.t q2 h
    refine a_set 21 (congrArg Value.bool q2) ?_
    refine ap 4 1 ?_
    refine aq 5 rfl (y_load (.agg (eHand v5_2).toArray) 2 g1_4 14) ?_
    obtain ⟨v6_6, hv6_6, h⟩ := H.call h
    refine aq 6 rfl (y_call [.agg (eHand v5_2).toArray] (.string (bs v6_6)) func87 (fun W S => C.s_siText W hv6_6)) ?_
    refine ap 7 1 ?_
    refine aq 8 rfl (y_load (.agg (eHand v1_2).toArray) 2 g1_4 0) ?_
    obtain ⟨v6_9, hv6_9, h⟩ := H.call h
    refine aq 9 rfl (y_call [.agg (eHand v1_2).toArray] (.string (bs v6_9)) func87 (fun W S => C.s_siText W hv6_9)) ?_
    refine ap 10 2 ?_
    refine a_done ?_
    refine c_or (slt v6_6 v6_9) (fun q3 => ?_) (fun q3 => ?_)
    · replace h := H.t q3 h
      refine c_seq ?_
      refine r_start ?_
      refine p 1 ?_
      refine xq rfl (y_load (.agg (eHand v1_2).toArray) 2 g1_4 0) ?_
      refine xx rfl (x_new (eHand zHand) fun g7_2 => ?_)
      refine xx rfl (x_sto 3 g7_2 0 (eHand v1_2) ?_)
      refine rend ?_
      refine c_seq ?_
      refine r_start ?_
      refine p 1 ?_
      refine xq rfl (y_load (.agg (eHand v5_2).toArray) 2 g1_4 14) ?_
      refine p 1 ?_
      refine xx rfl (x_sto 2 g1_4 0 (eSign (⟨v5_2, true, v5_2⟩ : Sign)) ?_)
      refine rend ?_
      refine r_start ?_
      refine xq rfl (y_load (.agg (eHand v1_2).toArray) 3 g7_2 0) ?_
      refine p 1 ?_
      refine xx rfl (x_sto 2 g1_4 14 (eSign (⟨v5_2, true, v1_2⟩ : Sign)) ?_)
      refine rend ?_
      refine c_seq ?_
      refine r_start ?_
      refine xq rfl (y_load (.agg (eSign (⟨v5_2, true, v1_2⟩ : Sign)).toArray) 2 g1_4 0) ?_
      refine xx rfl (x_sto 1 g0_1 0 (eSign (⟨v5_2, true, v1_2⟩ : Sign)) ?_)
      refine rend ?_
      replace h := H.done h
      subst h
      exact ret func55 rfl (vs := [.agg (eSign (⟨v5_2, true, v1_2⟩ : Sign)).toArray]) (.cell 1 g0_1 rfl (by kernel_rfl) (by kernel_rfl) .nil) rfl (fun W S => ⟨rfl, S.below⟩)
    replace h := H.f q3 h
    refine c_skip ?_
    refine c_seq ?_
    refine r_start ?_
    refine xq rfl (y_load (.agg (eSign (⟨v1_2, true, v5_2⟩ : Sign)).toArray) 2 g1_4 0) ?_
    refine xx rfl (x_sto 1 g0_1 0 (eSign (⟨v1_2, true, v5_2⟩ : Sign)) ?_)
    refine rend ?_
    replace h := H.done h
    subst h
    exact ret func55 rfl (vs := [.agg (eSign (⟨v1_2, true, v5_2⟩ : Sign)).toArray]) (.cell 1 g0_1 rfl (by kernel_rfl) (by kernel_rfl) .nil) rfl (fun W S => ⟨rfl, S.below⟩)
  replace h := H.f q2 h
  refine a_set 21 (congrArg Value.bool q2) ?_
  refine ap 4 8 ?_
  refine a_done ?_
  refine c_f (by kernel_rfl) ?_
  refine c_skip ?_
  refine c_seq ?_
  refine r_start ?_
  refine xq rfl (y_load (.agg (eSign (⟨v1_2, true, v5_2⟩ : Sign)).toArray) 2 g1_4 0) ?_
  refine xx rfl (x_sto 1 g0_1 0 (eSign (⟨v1_2, true, v5_2⟩ : Sign)) ?_)
  refine rend ?_
  replace h := H.done h
  subst h
  exact ret func55 rfl (vs := [.agg (eSign (⟨v1_2, true, v5_2⟩ : Sign)).toArray]) (.cell 1 g0_1 rfl (by kernel_rfl) (by kernel_rfl) .nil) rfl (fun W S => ⟨rfl, S.below⟩)
theorem C.s_DrawCompoundsAlike {fu : Nat} {a0 : (List Int)} {A0 : Option Addr} {k0 : Nat} {r : ((List Sign) × (List Sign))} (w : World) (h : X.s_DrawCompoundsAlike fu a0 = some r) (h0 : RdT (eI .u8) w (.slice A0 (List.length a0) k0) a0) : Calls prog 18 #[.slice A0 (List.length a0) k0] w (RetR2 nSign 46 nSign 46 w r.1 r.2 (fun v u => .tuple #[v, u])) := by
  refine calls (M := no) (args := [.slice A0 (List.length a0) k0]) func18 rfl ?_
  replace h : H (X.s_DrawCompoundsAlike fu a0) (fun o => o = r) := H.mk h
  unfold X.s_DrawCompoundsAlike at h
  refine c_seq ?_
  refine r_start ?_
  refine p 2 ?_
  refine rend ?_
  refine c_seq ?_
  refine r_start ?_
  refine p 2 ?_
  refine xx rfl (x_box [.slice A0 (List.length a0) k0, .int .i64 0, .int .u64 0] fun g1_2 => ?_)
  refine p 1 ?_
  refine rend ?_
  refine c_seq ?_
  refine r_start ?_
  refine p 1 ?_
  obtain ⟨v2_1, hv2_1, h⟩ := H.call h
  refine xx rfl (e_cqR (cs' := [.slice A0 (List.length a0) k0, .int .i64 v2_1.2.1, .int .u64 v2_1.2.2]) 0 [.pointer (some ⟨g1_2, 0, none⟩)] (fun v => v) func52 (fun W S => C.s_l1Cur_compound W hv2_1 (S.bx 0) ((s_arg h0).out W S) (ap_arg h0 S 0)) fun A2_1 k2_1 => ?_)
  refine p 1 ?_
  refine rend ?_
  refine c_seq ?_
  refine c_seq ?_
  refine r_start ?_
  refine p 1 ?_
  obtain ⟨v3_1, hv3_1, h⟩ := H.call h
  refine xq rfl (y_call [.slice A2_1 (List.length v2_1.1) k2_1] (.bool v3_1) func40 (fun W S => C.s_cmGood W hv3_1 ((s_own 1).out W S))) ?_
  refine p 1 ?_
  refine br v3_1 (fun q1 => ?_) (fun q1 => ?_)
  · replace h := H.t q1 h
    refine o_set 14 (congrArg Value.bool q1) ?_
    refine p 1 ?_
    obtain ⟨v3_4, hv3_4, h⟩ := H.call h
    refine xx rfl (e_cq (cs' := [.slice A0 (List.length a0) k0, .int .i64 v3_4.2.1, .int .u64 v3_4.2.2]) (v := .bool v3_4.1) 0 [.pointer (some ⟨g1_2, 0, none⟩), .int .i64 2] func53 (fun W S => C.s_l1Cur_one W hv3_4 (S.bx 0) ((s_arg h0).out W S) (ap_arg h0 S 0)) ?_)
    refine p 1 ?_
    refine rend ?_
    refine c_or v3_4.1 (fun q2 => ?_) (fun q2 => ?_)
    · replace h := H.t q2 h
      refine c_seq ?_
      refine r_start ?_
      refine p 1 ?_
      obtain ⟨v4_1, hv4_1, h⟩ := H.call h
      refine xx rfl (e_cr [.slice A2_1 (List.length v2_1.1) k2_1] (fun v => v) func54 (fun W S => C.s_cmOf W hv4_1 ((s_own 1).out W S)) fun A4_1 k4_1 => ?_)
      refine p 1 ?_
      refine rend ?_
      refine c_seq ?_
      refine r_start ?_
      refine p 2 ?_
      obtain ⟨y5_2, hy5_2, h⟩ := H.call h
      refine xq rfl (y_idx (e := nSign) (el := 46) hy5_2 (s_own 2)) ?_
      refine xq rfl (y_el (e := nSign) 0 (.agg (eSign y5_2).toArray) hy5_2 (s_own 2)) ?_
      obtain ⟨v5_4, hv5_4, h⟩ := H.call h
      refine xq rfl (y_call [.agg (eSign y5_2).toArray] (.agg (eSign v5_4).toArray) func55 (fun W S => C.s_noForm W hv5_4)) ?_
      refine xq rfl (y_idx (e := nSign) (el := 46) hy5_2 (s_own 2)) ?_
      refine xx rfl (e_stel (e := nSign) (b := v5_4) 2 0 (eSign v5_4) hy5_2 (by kernel_rfl) ?_)
      refine o_set 6 (sl_set (A := A4_1) (c := k4_1) (l := v4_1) (n := Int.toNat 0) (b := v5_4)) ?_
      refine rend ?_
      refine c_seq ?_
      refine r_start ?_
      refine p 4 ?_
      refine rend ?_
      replace h := H.done h
      subst h
      exact ret func18 rfl (vs := [.slice A2_1 (List.length v2_1.1) k2_1, .slice A4_1 (List.length (List.set v4_1 (Int.toNat 0) v5_4)) k4_1]) (.tmp (by kernel_rfl) (.tmp (by kernel_rfl) .nil)) rfl (fun W S => ⟨_, _, _, _, rfl, (S.row 1), (S.row 2), (S.two2 1 2 (by decide)), S.below⟩)
    replace h := H.f q2 h
    refine c_skip ?_
    refine c_seq ?_
    refine r_start ?_
    refine p 2 ?_
    obtain ⟨v7_2, hv7_2, h⟩ := H.call h
    refine xx rfl (e_cqR (cs' := [.slice A0 (List.length a0) k0, .int .i64 v7_2.2.1, .int .u64 v7_2.2.2]) 0 [.pointer (some ⟨g1_2, 0, none⟩)] (fun v => v) func52 (fun W S => C.s_l1Cur_compound W hv7_2 (S.bx 0) ((s_arg h0).out W S) (ap_arg h0 S 0)) fun A7_2 k7_2 => ?_)
    refine p 2 ?_
    refine rend ?_
    replace h := H.done h
    subst h
    exact ret func18 rfl (vs := [.slice A2_1 (List.length v2_1.1) k2_1, .slice A7_2 (List.length v7_2.1) k7_2]) (.tmp (by kernel_rfl) (.tmp (by kernel_rfl) .nil)) rfl (fun W S => ⟨_, _, _, _, rfl, (S.row 1), (S.row 2), (S.two2 1 2 (by decide)), S.below⟩)
  replace h := H.f q1 h
  refine o_set 14 (congrArg Value.bool q1) ?_
  refine p 3 ?_
  refine rend ?_
  refine c_f (by kernel_rfl) ?_
  refine c_skip ?_
  refine c_seq ?_
  refine r_start ?_
  refine p 2 ?_
  obtain ⟨v7_2, hv7_2, h⟩ := H.call h
  refine xx rfl (e_cqR (cs' := [.slice A0 (List.length a0) k0, .int .i64 v7_2.2.1, .int .u64 v7_2.2.2]) 0 [.pointer (some ⟨g1_2, 0, none⟩)] (fun v => v) func52 (fun W S => C.s_l1Cur_compound W hv7_2 (S.bx 0) ((s_arg h0).out W S) (ap_arg h0 S 0)) fun A7_2 k7_2 => ?_)
  refine p 2 ?_
  refine rend ?_
  replace h := H.done h
  subst h
  exact ret func18 rfl (vs := [.slice A2_1 (List.length v2_1.1) k2_1, .slice A7_2 (List.length v7_2.1) k7_2]) (.tmp (by kernel_rfl) (.tmp (by kernel_rfl) .nil)) rfl (fun W S => ⟨_, _, _, _, rfl, (S.row 1), (S.row 2), (S.two2 1 2 (by decide)), S.below⟩)
theorem C.slices_EqualFunc_i_Sign_i_Sign_i_Sign_i_Sign {a0 : (List Sign)} {A0 : Option Addr} {k0 : Nat} {a1 : (List Sign)} {A1 : Option Addr} {k1 : Nat} {a2 : (Sign → Sign → Option Bool)} {g2 : Nat} {cp2 : List Value} {r : Bool} (w : World) (h : X.slices_EqualFunc_i_Sign_i_Sign_i_Sign_i_Sign a0 a1 a2 = some r) (h0 : RdT nSign w (.slice A0 (List.length a0) k0) a0) (h1 : RdT nSign w (.slice A1 (List.length a1) k1) a1) (hg2 : isFn prog g2 = true) (hF2 : ∀ (x0 : Sign) (x1 : Sign) (r : Bool) (W : World), Up w W → a2 x0 x1 = some r → Calls prog g2 (([.agg (eSign x0).toArray, .agg (eSign x1).toArray] : List Value) ++ cp2).toArray W (Ret W (.bool r))) : Calls prog 56 #[.slice A0 (List.length a0) k0, .slice A1 (List.length a1) k1, .func (.func g2) #[] cp2.toArray] w (Ret w (.bool r)) := by
  refine calls (M := no) (args := [.slice A0 (List.length a0) k0, .slice A1 (List.length a1) k1, .func (.func g2) #[] cp2.toArray]) func56 rfl ?_
  replace h : H (X.slices_EqualFunc_i_Sign_i_Sign_i_Sign_i_Sign a0 a1 a2) (fun o => o = r) := H.mk h
  unfold X.slices_EqualFunc_i_Sign_i_Sign_i_Sign_i_Sign at h
  refine c_seq ?_
  refine r_start ?_
  refine p 1 ?_
  refine rend ?_
  refine c_seq ?_
  refine c_seq ?_
  refine r_start ?_
  refine p 5 ?_
  refine rend ?_
  refine c_or ((List.length a0 : Int) != (List.length a1 : Int)) (fun q1 => ?_) (fun q1 => ?_)
  · replace h := H.t q1 h
    refine c_seq ?_
    refine r_start ?_
    refine p 1 ?_
    refine rend ?_
    replace h := H.done h
    subst h
    exact ret func56 rfl (vs := [.bool false]) (.tmp (by kernel_rfl) .nil) rfl (fun W S => ⟨rfl, S.below⟩)
  replace h := H.f q1 h
  refine c_skip ?_
  refine c_seq ?_
  refine c_seq ?_
  refine r_start ?_
  refine p 3 ?_
  refine rend ?_
  refine c_block ?_
  refine joinE (X := Unit) 0 (H.or h) (fun (x : Unit) => x) (fun _ => []) (fun _ u => (jk u 0 32 [])) (fun h hj2 => ?_) ?_
  · skip
    refine rangeR (X := Unit) (s_arg h0) (fun (x : Unit) => x) (fun _ => []) (fun (j3 : Nat) _ u => (jk u 0 1 (.slice A1 (List.length a1) k1 :: .func (.func g2) #[] cp2.toArray :: (jk u 3 12 (.slice A0 (List.length a0) k0 :: .int .i64 (List.length a0 : Int) :: .int .i64 (j3 : Int) :: (jk u 18 14 [])))))) () h (by kernel_rfl) (by kernel_rfl) ?_ ?_
    · intro j3 x u x4 q5 hg6 hw7 h
      refine c_seq ?_
      refine r_start ?_
      refine p 1 ?_
      refine rend ?_
      refine c_seq ?_
      refine c_yes q5 ?_
      refine c_skip ?_
      refine c_seq ?_
      refine c_block ?_
      refine c_seq ?_
      refine r_start ?_
      refine p 1 ?_
      refine xq rfl (y_idx (e := nSign) (el := 46) hg6 (s_arg h0)) ?_
      refine xq rfl (y_el (e := nSign) 0 (.agg (eSign x4).toArray) hg6 (s_arg h0)) ?_
      refine xx rfl (x_new (eSign zSign) fun g5_3 => ?_)
      refine p 1 ?_
      refine xx rfl (x_sto 0 g5_3 0 (eSign x4) ?_)
      refine rend ?_
      refine c_seq ?_
      refine r_start ?_
      refine p 2 ?_
      obtain ⟨y6_2, hy6_2, h⟩ := H.call h
      refine xq rfl (y_idx (e := nSign) (el := 46) hy6_2 (s_arg h1)) ?_
      refine xq rfl (y_el (e := nSign) 0 (.agg (eSign y6_2).toArray) hy6_2 (s_arg h1)) ?_
      refine xx rfl (x_new (eSign zSign) fun g6_4 => ?_)
      refine xx rfl (x_sto 1 g6_4 0 (eSign y6_2) ?_)
      refine rend ?_
      refine c_seq ?_
      refine r_start ?_
      refine p 1 ?_
      refine xq rfl (y_load (.agg (eSign x4).toArray) 0 g5_3 0) ?_
      refine xq rfl (y_load (.agg (eSign y6_2).toArray) 1 g6_4 0) ?_
      obtain ⟨v7_3, hv7_3, h⟩ := H.call h
      refine xq rfl (y_cf cp2 [.agg (eSign x4).toArray, .agg (eSign y6_2).toArray] (.bool v7_3) hg2 (fun W S => hF2 _ _ _ W S.below hv7_3)) ?_
      refine p 1 ?_
      refine rend ?_
      refine c_or (!v7_3) (fun q8 => ?_) (fun q8 => ?_)
      · replace h := H.t q8 h
        refine c_seq ?_
        refine r_start ?_
        refine p 1 ?_
        refine rend ?_
        replace h := H.inr h
        replace h := H.done h
        subst h
        exact ret func56 rfl (vs := [.bool false]) (.tmp (by kernel_rfl) .nil) rfl (fun W S => ⟨rfl, S.below⟩)
      replace h := H.f q8 h
      refine c_skip ?_
      refine c_inb ?_
      refine r_start ?_
      refine p 2 ?_
      refine rend ?_
      refine c_set 17 (ci hw7) ?_
      replace h := H.inl h
      exact h () _ _ rfl (by kernel_rfl) (by kernel_rfl)
    · intro x u q5 h
      refine c_seq ?_
      refine r_start ?_
      refine p 1 ?_
      refine rend ?_
      refine c_seq ?_
      refine c_no q5 ?_
      refine cx ?_
      replace h := H.done h
      exact hj2 () _ _ h (by kernel_rfl) (by kernel_rfl)
  intro x u h
  refine c_seq ?_
  refine r_start ?_
  refine p 1 ?_
  refine rend ?_
  replace h := H.done h
  subst h
  exact ret func56 rfl (vs := [.bool true]) (.tmp (by kernel_rfl) .nil) rfl (fun W S => ⟨rfl, S.below⟩)
theorem C.i_Move_reduced {fu : Nat} {a0 : Move} {r : Move} (w : World) (h : X.i_Move_reduced fu a0 = some r) : Calls prog 153 #[.agg (eMove a0).toArray] w (Ret w (.agg (eMove r).toArray)) := by
  refine calls (M := no) (args := [.agg (eMove a0).toArray]) func153 rfl ?_
  replace h : H (X.i_Move_reduced fu a0) (fun o => o = r) := H.mk h
  unfold X.i_Move_reduced at h
  refine c_seq ?_
  refine r_start ?_
  refine xx rfl (x_box (eMove a0) fun g0_0 => ?_)
  refine xx rfl (x_new (eMove zMove) fun g0_1 => ?_)
  refine rend ?_
  refine c_seq ?_
  refine r_start ?_
  refine xq rfl (y_load (.agg (eMove a0).toArray) 0 g0_0 0) ?_
  obtain ⟨v1_1, hv1_1, h⟩ := H.call h
  refine xq rfl (y_call [.agg (eMove a0).toArray] (.string (bs v1_1)) func82 (fun W S => C.i_Move_all W hv1_1)) ?_
  refine p 1 ?_
  refine rend ?_
  refine c_seq ?_
  refine c_seq ?_
  refine r_start ?_
  refine p 1 ?_
  refine rend ?_
  refine c_block ?_
  refine joinE (X := Unit) 0 (H.or h) (fun (x : Unit) => x) (fun _ => [box g0_0 42 (eMove a0), box g0_1 42 (eMove zMove)]) (fun _ u => (jk u 0 1 (.pointer (some ⟨g0_0, 0, none⟩) :: .pointer (some ⟨g0_1, 0, none⟩) :: (jk u 3 32 [])))) (fun h hj2 => ?_) ?_
  · skip
    refine loopR (X := Int) (fun (x : Int) => x) (fun n1 => [box g0_0 42 (eMove a0), box g0_1 42 (eMove zMove)]) (fun n1 u => (jk u 0 1 (.pointer (some ⟨g0_0, 0, none⟩) :: .pointer (some ⟨g0_1, 0, none⟩) :: .string (bs v1_1) :: .int .i64 n1 :: (jk u 5 30 [])))) 1 h (by kernel_rfl) (by kernel_rfl) ?_
    intro n1 u h
    refine c_seq ?_
    refine c_seq ?_
    refine r_start ?_
    refine p 4 ?_
    refine rend ?_
    refine c_or (decide (n1 ≤ (List.length v1_1 : Int))) (fun q3 => ?_) (fun q3 => ?_)
    · replace h := H.t q3 h
      refine c_skip ?_
      refine c_seq ?_
      refine c_block ?_
      refine c_seq ?_
      refine as_start 17 17 ?_
      refine ap 0 3 ?_
      obtain ⟨y5_3, hy5_3, h⟩ := H.call h
      refine aq 3 rfl (y_mod hy5_3) ?_
      refine ap 4 2 ?_
      refine br (y5_3 == 0) (fun q4 => ?_) (fun q4 => ?_)
      · replace h := H.t q4 h
        refine a_set 18 (congrArg Value.bool q4) ?_
        refine ap 6 2 ?_
        obtain ⟨y5_8, hy5_8, h⟩ := H.call h
        refine aq 8 rfl (y_cut hy5_8) ?_
        refine ap 9 3 ?_
        obtain ⟨y5_12, hy5_12, h⟩ := H.call h
        refine aq 12 rfl (y_div hy5_12) ?_
        obtain ⟨v5_13, hv5_13, h⟩ := H.call h
        refine aq 13 rfl (y_call [.string (bs y5_8), .int .i64 y5_12] (.string (bs v5_13)) func128 (fun W S => C.strings_Repeat W hv5_13)) ?_
        refine ap 14 3 ?_
        refine a_done ?_
        refine c_or (seq v5_13 v1_1) (fun q5 => ?_) (fun q5 => ?_)
        · replace h := H.t q5 h
          refine c_seq ?_
          refine r_start ?_
          refine p 2 ?_
          obtain ⟨y6_2, hy6_2, h⟩ := H.call h
          refine xq rfl (y_cut hy6_2) ?_
          refine p 1 ?_
          refine xx rfl (x_sto 1 g0_1 0 (eMove (⟨y6_2, 1⟩ : Move)) ?_)
          refine rend ?_
          replace h := H.inr h
          replace h := H.done h
          subst h
          exact ret func153 rfl (vs := [.agg (eMove (⟨y6_2, 1⟩ : Move)).toArray]) (.cell 1 g0_1 rfl (by kernel_rfl) (by kernel_rfl) .nil) rfl (fun W S => ⟨rfl, S.below⟩)
        replace h := H.f q5 h
        refine c_skip ?_
        refine c_inb ?_
        refine r_start ?_
        refine p 3 ?_
        refine rend ?_
        replace h := H.inl h
        exact h (wr (n1 + 1)) _ _ rfl (by kernel_rfl) (by kernel_rfl)
      replace h := H.f q4 h
      refine a_set 18 (congrArg Value.bool q4) ?_
      refine ap 6 11 ?_
      refine a_done ?_
      refine c_f (by kernel_rfl) ?_
      refine c_skip ?_
      refine c_inb ?_
      refine r_start ?_
      refine p 3 ?_
      refine rend ?_
      replace h := H.inl h
      exact h (wr (n1 + 1)) _ _ rfl (by kernel_rfl) (by kernel_rfl)
    replace h := H.f q3 h
    refine cx ?_
    replace h := H.inr h
    exact hj2 () _ _ h (by kernel_rfl) (by kernel_rfl)
  intro x u h
  refine c_seq ?_
  refine r_start ?_
  refine xq rfl (y_load (.agg (eMove a0).toArray) 0 g0_0 0) ?_
  refine xx rfl (x_sto 1 g0_1 0 (eMove a0) ?_)
  refine rend ?_
  replace h := H.done h
  subst h
  exact ret func153 rfl (vs := [.agg (eMove a0).toArray]) (.cell 1 g0_1 rfl (by kernel_rfl) (by kernel_rfl) .nil) rfl (fun W S => ⟨rfl, S.below⟩)
theorem C.i_Sign_reduced {fu : Nat} {a0 : Sign} {r : Sign} (w : World) (h : X.i_Sign_reduced fu a0 = some r) : Calls prog 97 #[.agg (eSign a0).toArray] w (Ret w (.agg (eSign r).toArray)) := by
  refine calls (M := no) (args := [.agg (eSign a0).toArray]) func97 rfl ?_
  replace h : H (X.i_Sign_reduced fu a0) (fun o => o = r) := H.mk h
  unfold X.i_Sign_reduced at h
  refine c_seq ?_
  refine r_start ?_
  refine xx rfl (x_box (eSign a0) fun g0_0 => ?_)
  refine xx rfl (x_new (eSign zSign) fun g0_1 => ?_)
  refine rend ?_
  refine c_seq ?_
  refine r_start ?_
  refine p 2 ?_
  refine xq rfl (y_load (.agg (eMove a0.Main.Move).toArray) 0 g0_0 11) ?_
  obtain ⟨v1_3, hv1_3, h⟩ := H.call h
  refine xq rfl (y_call [.agg (eMove a0.Main.Move).toArray] (.agg (eMove v1_3).toArray) func153 (fun W S => C.i_Move_reduced W hv1_3)) ?_
  refine p 2 ?_
  refine xx rfl (x_sto 0 g0_0 11 (eSign ({ a0 with Main := { a0.Main with Move := v1_3 } })) ?_)
  refine rend ?_
  refine c_seq ?_
  refine c_seq ?_
  refine r_start ?_
  refine p 1 ?_
  refine xq rfl (y_load (.bool a0.Two) 0 g0_0 13) ?_
  refine rend ?_
  refine c_or a0.Two (fun q1 => ?_) (fun q1 => ?_)
  · replace h := H.t q1 h
    refine r_start ?_
    refine p 2 ?_
    refine xq rfl (y_load (.agg (eMove a0.Other.Move).toArray) 0 g0_0 25) ?_
    obtain ⟨v3_3, hv3_3, h⟩ := H.call h
    refine xq rfl (y_call [.agg (eMove a0.Other.Move).toArray] (.agg (eMove v3_3).toArray) func153 (fun W S => C.i_Move_reduced W hv3_3)) ?_
    refine p 2 ?_
    refine xx rfl (x_sto 0 g0_0 25 (eSign (⟨{ a0.Main with Move := v1_3 }, a0.Two, { a0.Other with Move := v3_3 }⟩ : Sign)) ?_)
    refine rend ?_
    refine c_seq ?_
    refine r_start ?_
    refine xq rfl (y_load (.agg (eSign (⟨{ a0.Main with Move := v1_3 }, a0.Two, { a0.Other with Move := v3_3 }⟩ : Sign)).toArray) 0 g0_0 0) ?_
    refine xx rfl (x_sto 1 g0_1 0 (eSign (⟨{ a0.Main with Move := v1_3 }, a0.Two, { a0.Other with Move := v3_3 }⟩ : Sign)) ?_)
    refine rend ?_
    replace h := H.done h
    subst h
    exact ret func97 rfl (vs := [.agg (eSign (⟨{ a0.Main with Move := v1_3 }, a0.Two, { a0.Other with Move := v3_3 }⟩ : Sign)).toArray]) (.cell 1 g0_1 rfl (by kernel_rfl) (by kernel_rfl) .nil) rfl (fun W S => ⟨rfl, S.below⟩)
  replace h := H.f q1 h
  refine c_skip ?_
  refine c_seq ?_
  refine r_start ?_
  refine xq rfl (y_load (.agg (eSign ({ a0 with Main := { a0.Main with Move := v1_3 } })).toArray) 0 g0_0 0) ?_
  refine xx rfl (x_sto 1 g0_1 0 (eSign ({ a0 with Main := { a0.Main with Move := v1_3 } })) ?_)
  refine rend ?_
  replace h := H.done h
  subst h
  exact ret func97 rfl (vs := [.agg (eSign ({ a0 with Main := { a0.Main with Move := v1_3 } })).toArray]) (.cell 1 g0_1 rfl (by kernel_rfl) (by kernel_rfl) .nil) rfl (fun W S => ⟨rfl, S.below⟩)
theorem C.i_compound {fu : Nat} {a0 : (List Sign)} {A0 : Option Addr} {k0 : Nat} {r : (List Sign)} (w : World) (h : X.i_compound fu a0 = some r) (h0 : RdT nSign w (.slice A0 (List.length a0) k0) a0) : Calls prog 57 #[.slice A0 (List.length a0) k0] w (RetR nSign 46 w r (fun v => v)) := by
  refine calls (M := no) (args := [.slice A0 (List.length a0) k0]) func57 rfl ?_
  replace h : H (X.i_compound fu a0) (fun o => o = r) := H.mk h
  unfold X.i_compound at h
  refine c_seq ?_
  refine r_start ?_
  refine p 1 ?_
  refine rend ?_
  refine c_seq ?_
  refine r_start ?_
  refine p 1 ?_
  obtain ⟨v1_1, hv1_1, h⟩ := H.call h
  refine xx rfl (e_cr [.slice A0 (List.length a0) k0] (fun v => v) func39 (fun W S => C.slices_Clone_i_Sign_i_Sign W hv1_1 ((s_arg h0).out W S)) fun A1_1 k1_1 => ?_)
  refine p 1 ?_
  refine rend ?_
  refine c_seq ?_
  refine c_seq ?_
  refine r_start ?_
  refine p 4 ?_
  refine rend ?_
  refine c_block ?_
  refine joinH (X := ((List Sign) × Option Addr × Nat)) 0 (H.bnd h) (fun ⟨l4, A5, k6⟩ => l4) (fun ⟨l4, A5, k6⟩ => [rowT nSign w.heap.size 46 (.slice A5 (List.length l4) k6) l4]) (fun ⟨l4, A5, k6⟩ u => (jk u 0 3 (.slice A5 (List.length l4) k6 :: (jk u 4 19 [])))) (fun h hj7 => ?_) ?_
  · skip
    refine rangeNR (X := ((List Sign) × Option Addr × Nat)) (fun ⟨l1, A2, k3⟩ => l1) (fun ⟨l1, A2, k3⟩ => [rowT nSign w.heap.size 46 (.slice A2 (List.length l1) k3) l1]) (fun (j8 : Int) ⟨l1, A2, k3⟩ u => (jk u 0 3 (.slice A2 (List.length l1) k3 :: (jk u 4 5 (.int .i64 (wr ((List.length v1_1 : Int) - 1)) :: .int .i64 j8 :: (jk u 11 12 [])))))) (v1_1, A1_1, k1_1) h (by kernel_rfl) (by kernel_rfl) ?_ ?_
    · intro j8 x u q9 hw10 h
      obtain ⟨l1, A2, k3⟩ := x
      refine c_seq ?_
      refine r_start ?_
      refine p 1 ?_
      refine rend ?_
      refine c_seq ?_
      refine c_yes q9 ?_
      refine c_skip ?_
      refine c_seq ?_
      refine c_block ?_
      refine c_seq ?_
      refine r_start ?_
      refine p 2 ?_
      refine rend ?_
      refine r_start ?_
      refine p 4 ?_
      obtain ⟨y5_4, hy5_4, h⟩ := H.call h
      refine xq rfl (y_idx (e := nSign) (el := 46) hy5_4 (s_own 0)) ?_
      refine xq rfl (y_el (e := nSign) 0 (.agg (eSign y5_4).toArray) hy5_4 (s_own 0)) ?_
      obtain ⟨v5_6, hv5_6, h⟩ := H.call h
      refine xq rfl (y_call [.agg (eSign y5_4).toArray] (.agg (eSign v5_6).toArray) func97 (fun W S => C.i_Sign_reduced W hv5_6)) ?_
      refine xq rfl (y_idx (e := nSign) (el := 46) hy5_4 (s_own 0)) ?_
      refine xx rfl (e_stel (e := nSign) (b := v5_6) 0 0 (eSign v5_6) hy5_4 (by kernel_rfl) ?_)
      refine o_set 3 (sl_set (A := A2) (c := k3) (l := l1) (n := Int.toNat (j8 : Int)) (b := v5_6)) ?_
      refine rend ?_
      refine c_inb ?_
      refine r_start ?_
      refine p 2 ?_
      refine rend ?_
      refine c_set 10 (ci hw10) ?_
      replace h := H.inl h
      exact h ((List.set l1 (Int.toNat (j8 : Int)) v5_6), A2, k3) _ _ rfl (by kernel_rfl) (by kernel_rfl)
    · intro j11 x u q9 h
      obtain ⟨l1, A2, k3⟩ := x
      refine c_seq ?_
      refine r_start ?_
      refine p 1 ?_
      refine rend ?_
      refine c_seq ?_
      refine c_no q9 ?_
      refine cx ?_
      replace h := H.done h
      exact hj7 (l1, A2, k3) _ _ h (by kernel_rfl) (by kernel_rfl)
  intro x u h
  obtain ⟨l4, A5, k6⟩ := x
  refine c_seq ?_
  refine r_start ?_
  refine p 2 ?_
  refine rend ?_
  replace h := H.done h
  subst h
  exact ret func57 rfl (vs := [.slice A5 (List.length l4) k6]) (.tmp (by kernel_rfl) .nil) rfl (fun W S => ⟨_, _, rfl, S.row 0, S.below⟩)
theorem C.i_moveOf {fu : Nat} {a0 : Str} {r : (Move × Bool)} (w : World) (h : X.i_moveOf fu a0 = some r) : Calls prog 205 #[.string (bs a0)] w (Ret w (.tuple #[.agg (eMove r.1).toArray, .bool r.2])) := by
  refine calls (M := no) (args := [.string (bs a0)]) func205 rfl ?_
  replace h : H (X.i_moveOf fu a0) (fun o => o = r) := H.mk h
  unfold X.i_moveOf at h
  refine c_seq ?_
  refine r_start ?_
  refine xx rfl (x_new (eMove zMove) fun g0_0 => ?_)
  refine p 1 ?_
  refine rend ?_
  refine c_seq ?_
  refine c_seq ?_
  refine r_start ?_
  refine p 2 ?_
  refine rend ?_
  refine c_or (seq a0 ([] : Str)) (fun q1 => ?_) (fun q1 => ?_)
  · replace h := H.t q1 h
    refine c_seq ?_
    refine r_start ?_
    refine p 1 ?_
    refine xx rfl (x_sto 0 g0_0 0 (eMove ({ zMove with Repeat := 1 })) ?_)
    refine p 1 ?_
    refine rend ?_
    replace h := H.done h
    subst h
    exact ret func205 rfl (vs := [.agg (eMove ({ zMove with Repeat := 1 })).toArray, .bool true]) (.cell 0 g0_0 rfl (by kernel_rfl) (by kernel_rfl) (.tmp (by kernel_rfl) .nil)) rfl (fun W S => ⟨rfl, S.below⟩)
  replace h := H.f q1 h
  refine c_skip ?_
  refine c_seq ?_
  refine c_seq ?_
  refine r_start ?_
  refine p 1 ?_
  refine rend ?_
  refine c_block ?_
  refine joinE (X := Unit) 0 (H.or h) (fun (x : Unit) => x) (fun _ => [box g0_0 42 (eMove zMove)]) (fun _ u => (jk u 0 2 (.pointer (some ⟨g0_0, 0, none⟩) :: (jk u 3 30 [])))) (fun h hj3 => ?_) ?_
  · skip
    refine loopR (X := Int) (fun (x : Int) => x) (fun n2 => [box g0_0 42 (eMove zMove)]) (fun n2 u => (.string (bs a0) :: (jk u 1 1 (.pointer (some ⟨g0_0, 0, none⟩) :: (jk u 3 1 (.int .i64 n2 :: (jk u 5 28 []))))))) 3 h (by kernel_rfl) (by kernel_rfl) ?_
    intro n2 u h
    refine c_seq ?_
    refine c_seq ?_
    refine r_start ?_
    refine p 2 ?_
    refine rend ?_
    refine c_or (decide (n2 ≥ 1)) (fun q4 => ?_) (fun q4 => ?_)
    · replace h := H.t q4 h
      refine c_skip ?_
      refine c_seq ?_
      refine c_block ?_
      refine c_seq ?_
      refine r_start ?_
      refine p 4 ?_
      obtain ⟨y6_4, hy6_4, h⟩ := H.call h
      refine xq rfl (y_div hy6_4) ?_
      obtain ⟨y6_5, hy6_5, h⟩ := H.call h
      refine xq rfl (y_cut hy6_5) ?_
      refine p 1 ?_
      refine rend ?_
      refine c_seq ?_
      refine r_start ?_
      refine p 4 ?_
      refine br (decide ((List.length y6_5 : Int) ≤ 6)) (fun q5 => ?_) (fun q5 => ?_)
      · replace h := H.t q5 h
        refine o_set 22 (congrArg Value.bool q5) ?_
        refine p 2 ?_
        obtain ⟨v7_6, hv7_6, h⟩ := H.call h
        refine xq rfl (y_call [.string (bs y6_5), .int .i64 n2] (.string (bs v7_6)) func128 (fun W S => C.strings_Repeat W hv7_6)) ?_
        refine p 3 ?_
        refine rend ?_
        refine c_or (seq v7_6 a0) (fun q6 => ?_) (fun q6 => ?_)
        · replace h := H.t q6 h
          refine c_seq ?_
          refine r_start ?_
          refine p 3 ?_
          refine xx rfl (x_sto 0 g0_0 0 (eMove (⟨y6_5, n2⟩ : Move)) ?_)
          refine p 1 ?_
          refine rend ?_
          replace h := H.inr h
          replace h := H.done h
          subst h
          exact ret func205 rfl (vs := [.agg (eMove (⟨y6_5, n2⟩ : Move)).toArray, .bool true]) (.cell 0 g0_0 rfl (by kernel_rfl) (by kernel_rfl) (.tmp (by kernel_rfl) .nil)) rfl (fun W S => ⟨rfl, S.below⟩)
        replace h := H.f q6 h
        refine c_skip ?_
        refine c_inb ?_
        refine r_start ?_
        refine p 3 ?_
        refine rend ?_
        replace h := H.inl h
        exact h (wr (n2 - 1)) _ _ rfl (by kernel_rfl) (by kernel_rfl)
      replace h := H.f q5 h
      refine o_set 22 (congrArg Value.bool q5) ?_
      refine p 6 ?_
      refine rend ?_
      refine c_f (by kernel_rfl) ?_
      refine c_skip ?_
      refine c_inb ?_
      refine r_start ?_
      refine p 3 ?_
      refine rend ?_
      replace h := H.inl h
      exact h (wr (n2 - 1)) _ _ rfl (by kernel_rfl) (by kernel_rfl)
    replace h := H.f q4 h
    refine cx ?_
    replace h := H.inr h
    exact hj3 () _ _ h (by kernel_rfl) (by kernel_rfl)
  intro x u h
  refine c_seq ?_
  refine r_start ?_
  refine p 1 ?_
  refine xx rfl (x_sto 0 g0_0 0 (eMove zMove) ?_)
  refine p 1 ?_
  refine rend ?_
  replace h := H.done h
  subst h
  exact ret func205 rfl (vs := [.agg (eMove zMove).toArray, .bool false]) (.cell 0 g0_0 rfl (by kernel_rfl) (by kernel_rfl) (.tmp (by kernel_rfl) .nil)) rfl (fun W S => ⟨rfl, S.below⟩)
theorem C.i_Move_normal {fu : Nat} {a0 : Move} {r : Move} (w : World) (h : X.i_Move_normal fu a0 = some r) : Calls prog 154 #[.agg (eMove a0).toArray] w (Ret w (.agg (eMove r).toArray)) := by
  refine calls (M := no) (args := [.agg (eMove a0).toArray]) func154 rfl ?_
  replace h : H (X.i_Move_normal fu a0) (fun o => o = r) := H.mk h
  unfold X.i_Move_normal at h
  refine c_seq ?_
  refine r_start ?_
  refine xx rfl (x_box (eMove a0) fun g0_0 => ?_)
  refine xx rfl (x_new (eMove zMove) fun g0_1 => ?_)
  refine rend ?_
  refine c_seq ?_
  refine r_start ?_
  refine xq rfl (y_load (.agg (eMove a0).toArray) 0 g0_0 0) ?_
  obtain ⟨v1_1, hv1_1, h⟩ := H.call h
  refine xq rfl (y_call [.agg (eMove a0).toArray] (.string (bs v1_1)) func82 (fun W S => C.i_Move_all W hv1_1)) ?_
  obtain ⟨v1_2, hv1_2, h⟩ := H.call h
  refine xq rfl (y_call [.string (bs v1_1)] (.tuple #[.agg (eMove v1_2.1).toArray, .bool v1_2.2]) func205 (fun W S => C.i_moveOf W hv1_2)) ?_
  refine p 3 ?_
  refine xx rfl (x_new (eMove zMove) fun g1_6 => ?_)
  refine xx rfl (x_sto 2 g1_6 0 (eMove v1_2.1) ?_)
  refine p 1 ?_
  refine rend ?_
  refine c_seq ?_
  refine r_start ?_
  refine xq rfl (y_load (.agg (eMove v1_2.1).toArray) 2 g1_6 0) ?_
  refine xx rfl (x_sto 1 g0_1 0 (eMove v1_2.1) ?_)
  refine rend ?_
  replace h := H.done h
  subst h
  exact ret func154 rfl (vs := [.agg (eMove v1_2.1).toArray]) (.cell 1 g0_1 rfl (by kernel_rfl) (by kernel_rfl) .nil) rfl (fun W S => ⟨rfl, S.below⟩)
theorem C.i_Hand_normal {fu : Nat} {a0 : Hand} {r : Hand} (w : World) (h : X.i_Hand_normal fu a0 = some r) : Calls prog 98 #[.agg (eHand a0).toArray] w (Ret w (.agg (eHand r).toArray)) := by
  refine calls (M := no) (args := [.agg (eHand a0).toArray]) func98 rfl ?_
  replace h : H (X.i_Hand_normal fu a0) (fun o => o = r) := H.mk h
  unfold X.i_Hand_normal at h
  refine c_seq ?_
  refine r_start ?_
  refine xx rfl (x_box (eHand a0) fun g0_0 => ?_)
  refine xx rfl (x_new (eHand zHand) fun g0_1 => ?_)
  refine rend ?_
  refine c_seq ?_
  refine r_start ?_
  refine p 1 ?_
  refine xq rfl (y_load (.agg (eMove a0.Move).toArray) 0 g0_0 11) ?_
  obtain ⟨v1_2, hv1_2, h⟩ := H.call h
  refine xq rfl (y_call [.agg (eMove a0.Move).toArray] (.agg (eMove v1_2).toArray) func154 (fun W S => C.i_Move_normal W hv1_2)) ?_
  refine p 1 ?_
  refine xx rfl (x_sto 0 g0_0 11 (eHand ({ a0 with Move := v1_2 })) ?_)
  refine rend ?_
  refine c_seq ?_
  refine r_start ?_
  refine xq rfl (y_load (.agg (eHand ({ a0 with Move := v1_2 })).toArray) 0 g0_0 0) ?_
  refine xx rfl (x_sto 1 g0_1 0 (eHand ({ a0 with Move := v1_2 })) ?_)
  refine rend ?_
  replace h := H.done h
  subst h
  exact ret func98 rfl (vs := [.agg (eHand ({ a0 with Move := v1_2 })).toArray]) (.cell 1 g0_1 rfl (by kernel_rfl) (by kernel_rfl) .nil) rfl (fun W S => ⟨rfl, S.below⟩)
theorem C.i_Sign_kind {a0 : Sign} {r : Int} (w : World) (h : X.i_Sign_kind a0 = some r) : Calls prog 99 #[.agg (eSign a0).toArray] w (Ret w (.int .i64 r)) := by
  refine calls (M := no) (args := [.agg (eSign a0).toArray]) func99 rfl ?_
  replace h : H (X.i_Sign_kind a0) (fun o => o = r) := H.mk h
  unfold X.i_Sign_kind at h
  refine c_seq ?_
  refine r_start ?_
  refine xx rfl (x_box (eSign a0) fun g0_0 => ?_)
  refine p 1 ?_
  refine rend ?_
  refine c_seq ?_
  refine c_block ?_
  refine c_seq ?_
  refine r_start ?_
  refine p 1 ?_
  refine xq rfl (y_load (.bool a0.Two) 0 g0_0 13) ?_
  refine p 2 ?_
  refine rend ?_
  refine c_or (!a0.Two) (fun q1 => ?_) (fun q1 => ?_)
  · replace h := H.t q1 h
    refine c_seq ?_
    refine r_start ?_
    refine p 1 ?_
    refine rend ?_
    replace h := H.done h
    subst h
    exact ret func99 rfl (vs := [.int .i64 0]) (.tmp (by kernel_rfl) .nil) rfl (fun W S => ⟨rfl, S.below⟩)
  replace h := H.f q1 h
  refine c_seq ?_
  refine r_start ?_
  refine p 1 ?_
  refine xq rfl (y_load (.agg (eHand a0.Other).toArray) 0 g0_0 14) ?_
  obtain ⟨v3_2, hv3_2, h⟩ := H.call h
  refine xq rfl (y_call [.agg (eHand a0.Other).toArray] (.bool v3_2) func121 (fun W S => C.i_Hand_moves W hv3_2)) ?_
  refine p 1 ?_
  refine rend ?_
  refine c_or v3_2 (fun q2 => ?_) (fun q2 => ?_)
  · replace h := H.t q2 h
    refine c_seq ?_
    refine r_start ?_
    refine p 1 ?_
    refine rend ?_
    replace h := H.done h
    subst h
    exact ret func99 rfl (vs := [.int .i64 1]) (.tmp (by kernel_rfl) .nil) rfl (fun W S => ⟨rfl, S.below⟩)
  replace h := H.f q2 h
  refine c_seq ?_
  refine r_start ?_
  refine p 2 ?_
  refine xq rfl (y_load (.agg (eShape a0.Other.Shape).toArray) 0 g0_0 14) ?_
  refine p 2 ?_
  refine xq rfl (y_load (.agg (eShape a0.Main.Shape).toArray) 0 g0_0 0) ?_
  refine p 2 ?_
  refine rend ?_
  refine c_or (qShape a0.Other.Shape a0.Main.Shape) (fun q3 => ?_) (fun q3 => ?_)
  · replace h := H.t q3 h
    refine c_seq ?_
    refine r_start ?_
    refine p 1 ?_
    refine rend ?_
    replace h := H.done h
    subst h
    exact ret func99 rfl (vs := [.int .i64 2]) (.tmp (by kernel_rfl) .nil) rfl (fun W S => ⟨rfl, S.below⟩)
  replace h := H.f q3 h
  refine c_skip ?_
  refine c_inb ?_
  refine c_seq ?_
  refine r_start ?_
  refine p 1 ?_
  refine rend ?_
  replace h := H.done h
  subst h
  exact ret func99 rfl (vs := [.int .i64 3]) (.tmp (by kernel_rfl) .nil) rfl (fun W S => ⟨rfl, S.below⟩)
theorem C.i_Sign_normal {fu : Nat} {a0 : Sign} {r : Sign} (w : World) (h : X.i_Sign_normal fu a0 = some r) : Calls prog 59 #[.agg (eSign a0).toArray] w (Ret w (.agg (eSign r).toArray)) := by
  refine calls (M := no) (args := [.agg (eSign a0).toArray]) func59 rfl ?_
  replace h : H (X.i_Sign_normal fu a0) (fun o => o = r) := H.mk h
  unfold X.i_Sign_normal at h
  refine c_seq ?_
  refine r_start ?_
  refine xx rfl (x_box (eSign a0) fun g0_0 => ?_)
  refine xx rfl (x_new (eSign zSign) fun g0_1 => ?_)
  refine rend ?_
  refine c_seq ?_
  refine r_start ?_
  refine p 1 ?_
  refine xq rfl (y_load (.agg (eHand a0.Main).toArray) 0 g0_0 0) ?_
  obtain ⟨v1_2, hv1_2, h⟩ := H.call h
  refine xq rfl (y_call [.agg (eHand a0.Main).toArray] (.agg (eHand v1_2).toArray) func98 (fun W S => C.i_Hand_normal W hv1_2)) ?_
  refine p 1 ?_
  refine xx rfl (x_sto 0 g0_0 0 (eSign ({ a0 with Main := v1_2 })) ?_)
  refine rend ?_
  refine c_seq ?_
  refine c_seq ?_
  refine r_start ?_
  refine p 1 ?_
  refine xq rfl (y_load (.bool a0.Two) 0 g0_0 13) ?_
  refine p 1 ?_
  refine rend ?_
  refine c_or (!a0.Two) (fun q1 => ?_) (fun q1 => ?_)
  · replace h := H.t q1 h
    refine c_seq ?_
    refine r_start ?_
    refine xq rfl (y_load (.agg (eSign ({ a0 with Main := v1_2 })).toArray) 0 g0_0 0) ?_
    refine xx rfl (x_sto 1 g0_1 0 (eSign ({ a0 with Main := v1_2 })) ?_)
    refine rend ?_
    replace h := H.done h
    subst h
    exact ret func59 rfl (vs := [.agg (eSign ({ a0 with Main := v1_2 })).toArray]) (.cell 1 g0_1 rfl (by kernel_rfl) (by kernel_rfl) .nil) rfl (fun W S => ⟨rfl, S.below⟩)
  replace h := H.f q1 h
  refine c_skip ?_
  refine c_seq ?_
  refine r_start ?_
  refine p 1 ?_
  refine xq rfl (y_load (.agg (eHand a0.Other).toArray) 0 g0_0 14) ?_
  obtain ⟨v4_2, hv4_2, h⟩ := H.call h
  refine xq rfl (y_call [.agg (eHand a0.Other).toArray] (.agg (eHand v4_2).toArray) func98 (fun W S => C.i_Hand_normal W hv4_2)) ?_
  refine p 1 ?_
  refine xx rfl (x_sto 0 g0_0 14 (eSign (⟨v1_2, a0.Two, v4_2⟩ : Sign)) ?_)
  refine rend ?_
  refine c_seq ?_
  refine c_seq ?_
  refine as_start 12 12 ?_
  refine aq 0 rfl (y_load (.agg (eSign (⟨v1_2, a0.Two, v4_2⟩ : Sign)).toArray) 0 g0_0 0) ?_
  obtain ⟨v5_1, hv5_1, h⟩ := H.call h
  refine aq 1 rfl (y_call [.agg (eSign (⟨v1_2, a0.Two, v4_2⟩ : Sign)).toArray] (.int .i64 v5_1) func99 (fun W S => C.i_Sign_kind W hv5_1)) ?_
  refine ap 2 2 ?_
  refine br (v5_1 == 1) (fun q2 => ?_) (fun q2 => ?_)
  · replace h := H.t q2 h
    refine a_set 18 (congrArg Value.bool q2) ?_
    refine ap 4 1 ?_
    refine aq 5 rfl (y_load (.agg (eHand v4_2).toArray) 0 g0_0 14) ?_
    obtain ⟨v5_6, hv5_6, h⟩ := H.call h
    refine aq 6 rfl (y_call [.agg (eHand v4_2).toArray] (.string (bs v5_6)) func83 (fun W S => C.i_Hand_text W hv5_6)) ?_
    refine ap 7 1 ?_
    refine aq 8 rfl (y_load (.agg (eHand v1_2).toArray) 0 g0_0 0) ?_
    obtain ⟨v5_9, hv5_9, h⟩ := H.call h
    refine aq 9 rfl (y_call [.agg (eHand v1_2).toArray] (.string (bs v5_9)) func83 (fun W S => C.i_Hand_text W hv5_9)) ?_
    refine ap 10 2 ?_
    refine a_done ?_
    refine c_or (slt v5_6 v5_9) (fun q3 => ?_) (fun q3 => ?_)
    · replace h := H.t q3 h
      refine r_start ?_
      refine p 1 ?_
      refine xq rfl (y_load (.agg (eHand v4_2).toArray) 0 g0_0 14) ?_
      refine p 1 ?_
      refine xq rfl (y_load (.agg (eHand v1_2).toArray) 0 g0_0 0) ?_
      refine p 1 ?_
      refine xx rfl (x_sto 0 g0_0 0 (eSign (⟨v4_2, a0.Two, v4_2⟩ : Sign)) ?_)
      refine p 1 ?_
      refine xx rfl (x_sto 0 g0_0 14 (eSign (⟨v4_2, a0.Two, v1_2⟩ : Sign)) ?_)
      refine rend ?_
      refine c_seq ?_
      refine r_start ?_
      refine xq rfl (y_load (.agg (eSign (⟨v4_2, a0.Two, v1_2⟩ : Sign)).toArray) 0 g0_0 0) ?_
      refine xx rfl (x_sto 1 g0_1 0 (eSign (⟨v4_2, a0.Two, v1_2⟩ : Sign)) ?_)
      refine rend ?_
      replace h := H.done h
      subst h
      exact ret func59 rfl (vs := [.agg (eSign (⟨v4_2, a0.Two, v1_2⟩ : Sign)).toArray]) (.cell 1 g0_1 rfl (by kernel_rfl) (by kernel_rfl) .nil) rfl (fun W S => ⟨rfl, S.below⟩)
    replace h := H.f q3 h
    refine c_skip ?_
    refine c_seq ?_
    refine r_start ?_
    refine xq rfl (y_load (.agg (eSign (⟨v1_2, a0.Two, v4_2⟩ : Sign)).toArray) 0 g0_0 0) ?_
    refine xx rfl (x_sto 1 g0_1 0 (eSign (⟨v1_2, a0.Two, v4_2⟩ : Sign)) ?_)
    refine rend ?_
    replace h := H.done h
    subst h
    exact ret func59 rfl (vs := [.agg (eSign (⟨v1_2, a0.Two, v4_2⟩ : Sign)).toArray]) (.cell 1 g0_1 rfl (by kernel_rfl) (by kernel_rfl) .nil) rfl (fun W S => ⟨rfl, S.below⟩)
  replace h := H.f q2 h
  refine a_set 18 (congrArg Value.bool q2) ?_
  refine ap 4 8 ?_
  refine a_done ?_
  refine c_f (by kernel_rfl) ?_
  refine c_skip ?_
  refine c_seq ?_
  refine r_start ?_
  refine xq rfl (y_load (.agg (eSign (⟨v1_2, a0.Two, v4_2⟩ : Sign)).toArray) 0 g0_0 0) ?_
  refine xx rfl (x_sto 1 g0_1 0 (eSign (⟨v1_2, a0.Two, v4_2⟩ : Sign)) ?_)
  refine rend ?_
  replace h := H.done h
  subst h
  exact ret func59 rfl (vs := [.agg (eSign (⟨v1_2, a0.Two, v4_2⟩ : Sign)).toArray]) (.cell 1 g0_1 rfl (by kernel_rfl) (by kernel_rfl) .nil) rfl (fun W S => ⟨rfl, S.below⟩)
theorem C.i_CompoundsAlike_1 {fu : Nat} {a0 : Sign} {a1 : Sign} {r : Bool} (w : World) (h : X.i_CompoundsAlike_1 fu a0 a1 = some r) : Calls prog 58 #[.agg (eSign a0).toArray, .agg (eSign a1).toArray] w (Ret w (.bool r)) := by
  refine calls (M := no) (args := [.agg (eSign a0).toArray, .agg (eSign a1).toArray]) func58 rfl ?_
  replace h : H (X.i_CompoundsAlike_1 fu a0 a1) (fun o => o = r) := H.mk h
  unfold X.i_CompoundsAlike_1 at h
  refine c_seq ?_
  refine r_start ?_
  refine xx rfl (x_box (eSign a0) fun g0_0 => ?_)
  refine xx rfl (x_box (eSign a1) fun g0_1 => ?_)
  refine p 1 ?_
  refine rend ?_
  refine c_seq ?_
  refine as_start 6 6 ?_
  refine aq 0 rfl (y_load (.agg (eSign a0).toArray) 0 g0_0 0) ?_
  obtain ⟨v1_1, hv1_1, h⟩ := H.call h
  refine aq 1 rfl (y_call [.agg (eSign a0).toArray] (.agg (eSign v1_1).toArray) func59 (fun W S => C.i_Sign_normal W hv1_1)) ?_
  refine aq 2 rfl (y_load (.agg (eSign a1).toArray) 1 g0_1 0) ?_
  obtain ⟨v1_3, hv1_3, h⟩ := H.call h
  refine aq 3 rfl (y_call [.agg (eSign a1).toArray] (.agg (eSign v1_3).toArray) func59 (fun W S => C.i_Sign_normal W hv1_3)) ?_
  refine ap 4 2 ?_
  refine a_done ?_
  replace h := H.done h
  subst h
  exact ret func58 rfl (vs := [.bool (qSign v1_1 v1_3)]) (.tmp (by kernel_rfl) .nil) rfl (fun W S => ⟨rfl, S.below⟩)
theorem C.i_CompoundsAlike {fu : Nat} {a0 : (List Sign)} {A0 : Option Addr} {k0 : Nat} {a1 : (List Sign)} {A1 : Option Addr} {k1 : Nat} {r : (Bool × Bool)} (w : World) (h : X.i_CompoundsAlike fu a0 a1 = some r) (h0 : RdT nSign w (.slice A0 (List.length a0) k0) a0) (h1 : RdT nSign w (.slice A1 (List.length a1) k1) a1) : Calls prog 19 #[.slice A0 (List.length a0) k0, .slice A1 (List.length a1) k1] w (Ret w (.tuple #[.bool r.1, .bool r.2])) := by
  refine calls (M := no) (args := [.slice A0 (List.length a0) k0, .slice A1 (List.length a1) k1]) func19 rfl ?_
  replace h : H (X.i_CompoundsAlike fu a0 a1) (fun o => o = r) := H.mk h
  unfold X.i_CompoundsAlike at h
  refine c_seq ?_
  refine r_start ?_
  refine p 2 ?_
  refine rend ?_
  refine c_seq ?_
  refine c_seq ?_
  refine r_start ?_
  refine p 1 ?_
  obtain ⟨v1_1, hv1_1, h⟩ := H.call h
  refine xq rfl (y_call [.slice A0 (List.length a0) k0] (.bool v1_1) func34 (fun W S => C.i_isMade W hv1_1 ((s_arg h0).out W S))) ?_
  refine p 2 ?_
  refine br (!v1_1) (fun q1 => ?_) (fun q1 => ?_)
  · replace h := H.t q1 h
    refine o_set 10 (congrArg Value.bool q1) ?_
    refine p 4 ?_
    refine rend ?_
    refine c_t (by kernel_rfl) ?_
    refine c_seq ?_
    refine r_start ?_
    refine p 2 ?_
    refine rend ?_
    replace h := H.done h
    subst h
    exact ret func19 rfl (vs := [.bool false, .bool false]) (.tmp (by kernel_rfl) (.tmp (by kernel_rfl) .nil)) rfl (fun W S => ⟨rfl, S.below⟩)
  replace h := H.f q1 h
  refine o_set 10 (congrArg Value.bool q1) ?_
  refine p 1 ?_
  obtain ⟨v1_5, hv1_5, h⟩ := H.call h
  refine xq rfl (y_call [.slice A1 (List.length a1) k1] (.bool v1_5) func34 (fun W S => C.i_isMade W hv1_5 ((s_arg h1).out W S))) ?_
  refine p 2 ?_
  refine rend ?_
  refine c_or (!v1_5) (fun q2 => ?_) (fun q2 => ?_)
  · replace h := H.t q2 h
    refine c_seq ?_
    refine r_start ?_
    refine p 2 ?_
    refine rend ?_
    replace h := H.done h
    subst h
    exact ret func19 rfl (vs := [.bool false, .bool false]) (.tmp (by kernel_rfl) (.tmp (by kernel_rfl) .nil)) rfl (fun W S => ⟨rfl, S.below⟩)
  replace h := H.f q2 h
  refine c_skip ?_
  refine c_seq ?_
  refine r_start ?_
  refine p 1 ?_
  obtain ⟨v3_1, hv3_1, h⟩ := H.call h
  refine xx rfl (e_cr [.slice A0 (List.length a0) k0] (fun v => v) func57 (fun W S => C.i_compound W hv3_1 ((s_arg h0).out W S)) fun A3_1 k3_1 => ?_)
  refine p 1 ?_
  obtain ⟨v3_3, hv3_3, h⟩ := H.call h
  refine xx rfl (e_cr [.slice A1 (List.length a1) k1] (fun v => v) func57 (fun W S => C.i_compound W hv3_3 ((s_arg h1).out W S)) fun A3_3 k3_3 => ?_)
  obtain ⟨v3_4, hv3_4, h⟩ := H.call h
  refine xq rfl (y_call [.slice A3_1 (List.length v3_1) k3_1, .slice A3_3 (List.length v3_3) k3_3, .func (.func 58) #[] #[]] (.bool v3_4) func56 (fun W S => C.slices_EqualFunc_i_Sign_i_Sign_i_Sign_i_Sign W hv3_4 ((s_own 0).out W S) ((s_own 1).out W S) (isFn_of func58) (fun x0_2 x1_2 r W2 hu2 hx2 => C.i_CompoundsAlike_1 W2 hx2))) ?_
  refine p 1 ?_
  refine rend ?_
  refine c_seq ?_
  refine r_start ?_
  refine p 3 ?_
  refine rend ?_
  replace h := H.done h
  subst h
  exact ret func19 rfl (vs := [.bool v3_4, .bool true]) (.tmp (by kernel_rfl) (.tmp (by kernel_rfl) .nil)) rfl (fun W S => ⟨rfl, S.below⟩)
theorem C.s_CompoundOf {fu : Nat} {a0 : (List Sign)} {A0 : Option Addr} {k0 : Nat} {r : ((List Sign) × Bool)} (w : World) (h : X.s_CompoundOf fu a0 = some r) (h0 : RdT nSign w (.slice A0 (List.length a0) k0) a0) : Calls prog 60 #[.slice A0 (List.length a0) k0] w (RetR nSign 46 w r.1 (fun v => .tuple #[v, .bool r.2])) := by
  refine calls (M := no) (args := [.slice A0 (List.length a0) k0]) func60 rfl ?_
  replace h : H (X.s_CompoundOf fu a0) (fun o => o = r) := H.mk h
  unfold X.s_CompoundOf at h
  refine c_seq ?_
  refine r_start ?_
  refine p 2 ?_
  refine rend ?_
  refine c_seq ?_
  refine c_seq ?_
  refine r_start ?_
  refine p 1 ?_
  obtain ⟨v1_1, hv1_1, h⟩ := H.call h
  refine xq rfl (y_call [.slice A0 (List.length a0) k0] (.bool v1_1) func40 (fun W S => C.s_cmGood W hv1_1 ((s_arg h0).out W S))) ?_
  refine p 1 ?_
  refine rend ?_
  refine c_or (!v1_1) (fun q1 => ?_) (fun q1 => ?_)
  · replace h := H.t q1 h
    refine c_seq ?_
    refine r_start ?_
    refine p 2 ?_
    refine rend ?_
    replace h := H.done h
    subst h
    exact ret func60 rfl (vs := [.slice none 0 0, .bool false]) (.tmp (by kernel_rfl) (.tmp (by kernel_rfl) .nil)) rfl (fun W S => ⟨none, 0, rfl, World.ownsRow_nil _ _ _ _, S.below⟩)
  replace h := H.f q1 h
  refine c_skip ?_
  refine c_seq ?_
  refine r_start ?_
  refine p 1 ?_
  obtain ⟨v3_1, hv3_1, h⟩ := H.call h
  refine xx rfl (e_cr [.slice A0 (List.length a0) k0] (fun v => v) func54 (fun W S => C.s_cmOf W hv3_1 ((s_arg h0).out W S)) fun A3_1 k3_1 => ?_)
  refine p 2 ?_
  refine rend ?_
  replace h := H.done h
  subst h
  exact ret func60 rfl (vs := [.slice A3_1 (List.length v3_1) k3_1, .bool true]) (.tmp (by kernel_rfl) (.tmp (by kernel_rfl) .nil)) rfl (fun W S => ⟨_, _, rfl, S.row 0, S.below⟩)
theorem C.s_CompoundsAlike {fu : Nat} {a0 : (List Sign)} {A0 : Option Addr} {k0 : Nat} {a1 : (List Sign)} {A1 : Option Addr} {k1 : Nat} {r : (Bool × Bool)} (w : World) (h : X.s_CompoundsAlike fu a0 a1 = some r) (h0 : RdT nSign w (.slice A0 (List.length a0) k0) a0) (h1 : RdT nSign w (.slice A1 (List.length a1) k1) a1) : Calls prog 20 #[.slice A0 (List.length a0) k0, .slice A1 (List.length a1) k1] w (Ret w (.tuple #[.bool r.1, .bool r.2])) := by
  refine calls (M := no) (args := [.slice A0 (List.length a0) k0, .slice A1 (List.length a1) k1]) func20 rfl ?_
  replace h : H (X.s_CompoundsAlike fu a0 a1) (fun o => o = r) := H.mk h
  unfold X.s_CompoundsAlike at h
  refine c_seq ?_
  refine r_start ?_
  refine p 2 ?_
  refine rend ?_
  refine c_seq ?_
  refine r_start ?_
  refine p 1 ?_
  obtain ⟨v1_1, hv1_1, h⟩ := H.call h
  refine xx rfl (e_cr [.slice A0 (List.length a0) k0] (fun v => .tuple #[v, .bool v1_1.2]) func60 (fun W S => C.s_CompoundOf W hv1_1 ((s_arg h0).out W S)) fun A1_1 k1_1 => ?_)
  refine p 5 ?_
  refine rend ?_
  refine c_seq ?_
  refine r_start ?_
  refine p 1 ?_
  obtain ⟨v2_1, hv2_1, h⟩ := H.call h
  refine xx rfl (e_cr [.slice A1 (List.length a1) k1] (fun v => .tuple #[v, .bool v2_1.2]) func60 (fun W S => C.s_CompoundOf W hv2_1 ((s_arg h1).out W S)) fun A2_1 k2_1 => ?_)
  refine p 5 ?_
  refine rend ?_
  refine c_seq ?_
  refine c_seq ?_
  refine r_start ?_
  refine p 3 ?_
  refine br (!v1_1.2) (fun q1 => ?_) (fun q1 => ?_)
  · replace h := H.t q1 h
    refine o_set 24 (congrArg Value.bool q1) ?_
    refine p 3 ?_
    refine rend ?_
    refine c_t (by kernel_rfl) ?_
    refine c_seq ?_
    refine r_start ?_
    refine p 2 ?_
    refine rend ?_
    replace h := H.done h
    subst h
    exact ret func20 rfl (vs := [.bool false, .bool false]) (.tmp (by kernel_rfl) (.tmp (by kernel_rfl) .nil)) rfl (fun W S => ⟨rfl, S.below⟩)
  replace h := H.f q1 h
  refine o_set 24 (congrArg Value.bool q1) ?_
  refine p 3 ?_
  refine rend ?_
  refine c_or (!v2_1.2) (fun q2 => ?_) (fun q2 => ?_)
  · replace h := H.t q2 h
    refine c_seq ?_
    refine r_start ?_
    refine p 2 ?_
    refine rend ?_
    replace h := H.done h
    subst h
    exact ret func20 rfl (vs := [.bool false, .bool false]) (.tmp (by kernel_rfl) (.tmp (by kernel_rfl) .nil)) rfl (fun W S => ⟨rfl, S.below⟩)
  replace h := H.f q2 h
  refine c_skip ?_
  refine c_seq ?_
  refine c_seq ?_
  refine r_start ?_
  refine p 5 ?_
  refine rend ?_
  refine c_or ((List.length v1_1.1 : Int) != (List.length v2_1.1 : Int)) (fun q3 => ?_) (fun q3 => ?_)
  · replace h := H.t q3 h
    refine c_seq ?_
    refine r_start ?_
    refine p 2 ?_
    refine rend ?_
    replace h := H.done h
    subst h
    exact ret func20 rfl (vs := [.bool false, .bool true]) (.tmp (by kernel_rfl) (.tmp (by kernel_rfl) .nil)) rfl (fun W S => ⟨rfl, S.below⟩)
  replace h := H.f q3 h
  refine c_skip ?_
  refine c_seq ?_
  refine c_seq ?_
  refine r_start ?_
  refine p 3 ?_
  refine rend ?_
  refine c_block ?_
  refine joinE (X := Unit) 0 (H.or h) (fun (x : Unit) => x) (fun _ => [rowT nSign w.heap.size 46 (.slice A1_1 (List.length v1_1.1) k1_1) v1_1.1, rowT nSign w.heap.size 46 (.slice A2_1 (List.length v2_1.1) k2_1) v2_1.1]) (fun _ u => (jk u 0 49 [])) (fun h hj4 => ?_) ?_
  · skip
    refine rangeR (X := Unit) (s_own 0) (fun (x : Unit) => x) (fun _ => [rowT nSign w.heap.size 46 (.slice A1_1 (List.length v1_1.1) k1_1) v1_1.1, rowT nSign w.heap.size 46 (.slice A2_1 (List.length v2_1.1) k2_1) v2_1.1]) (fun (j5 : Nat) _ u => (jk u 0 8 (.slice A2_1 (List.length v2_1.1) k2_1 :: (jk u 9 24 (.slice A1_1 (List.length v1_1.1) k1_1 :: .int .i64 (List.length v1_1.1 : Int) :: .int .i64 (j5 : Int) :: (jk u 36 13 [])))))) () h (by kernel_rfl) (by kernel_rfl) ?_ ?_
    · intro j5 x u x6 q7 hg8 hw9 h
      refine c_seq ?_
      refine r_start ?_
      refine p 1 ?_
      refine rend ?_
      refine c_seq ?_
      refine c_yes q7 ?_
      refine c_skip ?_
      refine c_seq ?_
      refine c_block ?_
      refine c_seq ?_
      refine r_start ?_
      refine p 1 ?_
      refine xq rfl (y_idx (e := nSign) (el := 46) hg8 (s_own 0)) ?_
      refine xq rfl (y_el (e := nSign) 0 (.agg (eSign x6).toArray) hg8 (s_own 0)) ?_
      refine xx rfl (x_new (eSign zSign) fun g9_3 => ?_)
      refine p 1 ?_
      refine xx rfl (x_sto 2 g9_3 0 (eSign x6) ?_)
      refine rend ?_
      refine c_seq ?_
      refine as_start 8 8 ?_
      refine aq 0 rfl (y_load (.agg (eSign x6).toArray) 2 g9_3 0) ?_
      obtain ⟨v10_1, hv10_1, h⟩ := H.call h
      refine aq 1 rfl (y_call [.agg (eSign x6).toArray] (.agg (eSign v10_1).toArray) func55 (fun W S => C.s_noForm W hv10_1)) ?_
      refine ap 2 2 ?_
      obtain ⟨y10_4, hy10_4, h⟩ := H.call h
      refine aq 4 rfl (y_idx (e := nSign) (el := 46) hy10_4 (s_own 1)) ?_
      refine aq 5 rfl (y_el (e := nSign) 0 (.agg (eSign y10_4).toArray) hy10_4 (s_own 1)) ?_
      obtain ⟨v10_6, hv10_6, h⟩ := H.call h
      refine aq 6 rfl (y_call [.agg (eSign y10_4).toArray] (.agg (eSign v10_6).toArray) func55 (fun W S => C.s_noForm W hv10_6)) ?_
      refine ap 7 1 ?_
      refine a_done ?_
      refine c_or (!qSign v10_1 v10_6) (fun q10 => ?_) (fun q10 => ?_)
      · replace h := H.t q10 h
        refine c_seq ?_
        refine r_start ?_
        refine p 2 ?_
        refine rend ?_
        replace h := H.inr h
        replace h := H.done h
        subst h
        exact ret func20 rfl (vs := [.bool false, .bool true]) (.tmp (by kernel_rfl) (.tmp (by kernel_rfl) .nil)) rfl (fun W S => ⟨rfl, S.below⟩)
      replace h := H.f q10 h
      refine c_skip ?_
      refine c_inb ?_
      refine r_start ?_
      refine p 2 ?_
      refine rend ?_
      refine c_set 35 (ci hw9) ?_
      replace h := H.inl h
      exact h () _ _ rfl (by kernel_rfl) (by kernel_rfl)
    · intro x u q7 h
      refine c_seq ?_
      refine r_start ?_
      refine p 1 ?_
      refine rend ?_
      refine c_seq ?_
      refine c_no q7 ?_
      refine cx ?_
      replace h := H.done h
      exact hj4 () _ _ h (by kernel_rfl) (by kernel_rfl)
  intro x u h
  refine c_seq ?_
  refine r_start ?_
  refine p 2 ?_
  refine rend ?_
  replace h := H.done h
  subst h
  exact ret func20 rfl (vs := [.bool true, .bool true]) (.tmp (by kernel_rfl) (.tmp (by kernel_rfl) .nil)) rfl (fun W S => ⟨rfl, S.below⟩)
theorem C.l_qInts {a0 : (List Int)} {A0 : Option Addr} {k0 : Nat} {a1 : (List Int)} {A1 : Option Addr} {k1 : Nat} {r : Bool} (w : World) (h : X.l_qInts a0 a1 = some r) (h0 : RdT (eI .i64) w (.slice A0 (List.length a0) k0) a0) (h1 : RdT (eI .i64) w (.slice A1 (List.length a1) k1) a1) : Calls prog 21 #[.slice A0 (List.length a0) k0, .slice A1 (List.length a1) k1] w (Ret w (.bool r)) := by
  refine calls (M := no) (args := [.slice A0 (List.length a0) k0, .slice A1 (List.length a1) k1]) func21 rfl ?_
  replace h : H (X.l_qInts a0 a1) (fun o => o = r) := H.mk h
  unfold X.l_qInts at h
  refine c_seq ?_
  refine r_start ?_
  refine p 1 ?_
  refine rend ?_
  refine c_seq ?_
  refine c_seq ?_
  refine r_start ?_
  refine p 5 ?_
  refine rend ?_
  refine c_or ((List.length a0 : Int) != (List.length a1 : Int)) (fun q1 => ?_) (fun q1 => ?_)
  · replace h := H.t q1 h
    refine c_seq ?_
    refine r_start ?_
    refine p 1 ?_
    refine rend ?_
    replace h := H.done h
    subst h
    exact ret func21 rfl (vs := [.bool false]) (.tmp (by kernel_rfl) .nil) rfl (fun W S => ⟨rfl, S.below⟩)
  replace h := H.f q1 h
  refine c_skip ?_
  refine c_seq ?_
  refine c_seq ?_
  refine r_start ?_
  refine p 3 ?_
  refine rend ?_
  refine c_block ?_
  refine joinE (X := Unit) 0 (H.or h) (fun (x : Unit) => x) (fun _ => []) (fun _ u => (jk u 0 26 [])) (fun h hj2 => ?_) ?_
  · skip
    refine rangeR (X := Unit) (s_arg h0) (fun (x : Unit) => x) (fun _ => []) (fun (j3 : Nat) _ u => (.slice A0 (List.length a0) k0 :: .slice A1 (List.length a1) k1 :: (jk u 2 10 (.int .i64 (List.length a0 : Int) :: .int .i64 (j3 : Int) :: (jk u 14 12 []))))) () h (by kernel_rfl) (by kernel_rfl) ?_ ?_
    · intro j3 x u x4 q5 hg6 hw7 h
      refine c_seq ?_
      refine r_start ?_
      refine p 1 ?_
      refine rend ?_
      refine c_seq ?_
      refine c_yes q5 ?_
      refine c_skip ?_
      refine c_seq ?_
      refine c_block ?_
      refine c_seq ?_
      refine r_start ?_
      refine p 2 ?_
      refine rend ?_
      refine c_seq ?_
      refine as_start 9 9 ?_
      refine ap 0 2 ?_
      refine aq 2 rfl (y_idx (e := (eI .i64)) (el := 3) hg6 (s_arg h0)) ?_
      refine aq 3 rfl (y_el (e := (eI .i64)) 0 (.int .i64 x4) hg6 (s_arg h0)) ?_
      refine ap 4 2 ?_
      obtain ⟨y6_6, hy6_6, h⟩ := H.call h
      refine aq 6 rfl (y_idx (e := (eI .i64)) (el := 3) hy6_6 (s_arg h1)) ?_
      refine aq 7 rfl (y_el (e := (eI .i64)) 0 (.int .i64 y6_6) hy6_6 (s_arg h1)) ?_
      refine ap 8 1 ?_
      refine a_done ?_
      refine c_or (x4 != y6_6) (fun q8 => ?_) (fun q8 => ?_)
      · replace h := H.t q8 h
        refine c_seq ?_
        refine r_start ?_
        refine p 1 ?_
        refine rend ?_
        replace h := H.inr h
        replace h := H.done h
        subst h
        exact ret func21 rfl (vs := [.bool false]) (.tmp (by kernel_rfl) .nil) rfl (fun W S => ⟨rfl, S.below⟩)
      replace h := H.f q8 h
      refine c_skip ?_
      refine c_inb ?_
      refine r_start ?_
      refine p 2 ?_
      refine rend ?_
      refine c_set 13 (ci hw7) ?_
      replace h := H.inl h
      exact h () _ _ rfl (by kernel_rfl) (by kernel_rfl)
    · intro x u q5 h
      refine c_seq ?_
      refine r_start ?_
      refine p 1 ?_
      refine rend ?_
      refine c_seq ?_
      refine c_no q5 ?_
      refine cx ?_
      replace h := H.done h
      exact hj2 () _ _ h (by kernel_rfl) (by kernel_rfl)
  intro x u h
  refine c_seq ?_
  refine r_start ?_
  refine p 1 ?_
  refine rend ?_
  replace h := H.done h
  subst h
  exact ret func21 rfl (vs := [.bool true]) (.tmp (by kernel_rfl) .nil) rfl (fun W S => ⟨rfl, S.below⟩)
theorem C.s_StepsOfSign {fu : Nat} {a0 : Sign} {r : (Int × Bool)} (w : World) (h : X.s_StepsOfSign fu a0 = some r) : Calls prog 22 #[.agg (eSign a0).toArray] w (Ret w (.tuple #[.int .i64 r.1, .bool r.2])) := by
  refine calls (M := no) (args := [.agg (eSign a0).toArray]) func22 rfl ?_
  replace h : H (X.s_StepsOfSign fu a0) (fun o => o = r) := H.mk h
  unfold X.s_StepsOfSign at h
  refine c_seq ?_
  refine r_start ?_
  refine xx rfl (x_box (eSign a0) fun g0_0 => ?_)
  refine p 2 ?_
  refine rend ?_
  refine c_seq ?_
  refine c_seq ?_
  refine r_start ?_
  refine xq rfl (y_load (.agg (eSign a0).toArray) 0 g0_0 0) ?_
  obtain ⟨v1_1, hv1_1, h⟩ := H.call h
  refine xq rfl (y_call [.agg (eSign a0).toArray] (.bool v1_1) func61 (fun W S => C.s_siGood W hv1_1)) ?_
  refine p 1 ?_
  refine rend ?_
  refine c_or (!v1_1) (fun q1 => ?_) (fun q1 => ?_)
  · replace h := H.t q1 h
    refine c_seq ?_
    refine r_start ?_
    refine p 2 ?_
    refine rend ?_
    replace h := H.done h
    subst h
    exact ret func22 rfl (vs := [.int .i64 0, .bool false]) (.tmp (by kernel_rfl) (.tmp (by kernel_rfl) .nil)) rfl (fun W S => ⟨rfl, S.below⟩)
  replace h := H.f q1 h
  refine c_skip ?_
  refine c_seq ?_
  refine as_start 13 13 ?_
  refine ap 0 2 ?_
  refine aq 2 rfl (y_load (.agg (eMove a0.Main.Move).toArray) 0 g0_0 11) ?_
  obtain ⟨v3_3, hv3_3, h⟩ := H.call h
  refine aq 3 rfl (y_call [.agg (eMove a0.Main.Move).toArray] (.string (bs v3_3)) func63 (fun W S => C.s_mvAll W hv3_3)) ?_
  refine ap 4 3 ?_
  refine aq 7 rfl (y_load (.agg (eMove a0.Other.Move).toArray) 0 g0_0 25) ?_
  obtain ⟨v3_8, hv3_8, h⟩ := H.call h
  refine aq 8 rfl (y_call [.agg (eMove a0.Other.Move).toArray] (.string (bs v3_8)) func63 (fun W S => C.s_mvAll W hv3_8)) ?_
  refine ap 9 1 ?_
  obtain ⟨v3_10, hv3_10, h⟩ := H.call h
  refine aq 10 rfl (y_call [.int .i64 (List.length v3_3 : Int), .int .i64 (List.length v3_8 : Int)] (.int .i64 v3_10) func62 (fun W S => C.s_l1Most W hv3_10)) ?_
  refine ap 11 2 ?_
  refine a_done ?_
  replace h := H.done h
  subst h
  exact ret func22 rfl (vs := [.int .i64 v3_10, .bool true]) (.tmp (by kernel_rfl) (.tmp (by kernel_rfl) .nil)) rfl (fun W S => ⟨rfl, S.below⟩)
theorem C.l_FnSmooth {fu : Nat} {a0 : (List Int)} {A0 : Option Addr} {k0 : Nat} {a1 : (List Int)} {A1 : Option Addr} {k1 : Nat} {r : Bool} (w : World) (h : X.l_FnSmooth fu a0 a1 = some r) (h0 : RdT (eI .u8) w (.slice A0 (List.length a0) k0) a0) (h1 : RdT (eI .u8) w (.slice A1 (List.length a1) k1) a1) : Calls prog 4 #[.slice A0 (List.length a0) k0, .slice A1 (List.length a1) k1] w (Ret w (.bool r)) := by
  refine calls (M := no) (args := [.slice A0 (List.length a0) k0, .slice A1 (List.length a1) k1]) func4 rfl ?_
  replace h : H (X.l_FnSmooth fu a0 a1) (fun o => o = r) := H.mk h
  unfold X.l_FnSmooth at h
  refine c_seq ?_
  refine r_start ?_
  refine p 1 ?_
  refine rend ?_
  refine c_seq ?_
  refine c_seq ?_
  refine r_start ?_
  refine p 6 ?_
  refine rend ?_
  refine c_or (decide ((wr ((List.length a0 : Int) + (List.length a1 : Int))) > 1048576)) (fun q1 => ?_) (fun q1 => ?_)
  · replace h := H.t q1 h
    refine c_seq ?_
    refine r_start ?_
    refine p 1 ?_
    refine rend ?_
    replace h := H.done h
    subst h
    exact ret func4 rfl (vs := [.bool true]) (.tmp (by kernel_rfl) .nil) rfl (fun W S => ⟨rfl, S.below⟩)
  replace h := H.f q1 h
  refine c_skip ?_
  refine c_seq ?_
  refine r_start ?_
  refine p 1 ?_
  obtain ⟨v3_1, hv3_1, h⟩ := H.call h
  refine xx rfl (e_cr [.slice A0 (List.length a0) k0] (fun v => v) func8 (fun W S => C.s_DrawSmoothestOrder W hv3_1 ((s_arg h0).out W S)) fun A3_1 k3_1 => ?_)
  refine p 1 ?_
  refine rend ?_
  refine c_seq ?_
  refine r_start ?_
  refine p 1 ?_
  obtain ⟨v4_1, hv4_1, h⟩ := H.call h
  refine xx rfl (e_cr [.slice A3_1 (List.length v3_1) k3_1] (fun v => .tuple #[v, .int .i64 v4_1.2.1, .bool v4_1.2.2]) func9 (fun W S => C.i_SmoothestOrder W hv4_1 ((s_own 0).out W S)) fun A4_1 k4_1 => ?_)
  refine p 7 ?_
  refine rend ?_
  refine c_seq ?_
  refine r_start ?_
  refine p 1 ?_
  obtain ⟨v5_1, hv5_1, h⟩ := H.call h
  refine xx rfl (e_crO [.slice A3_1 (List.length v3_1) k3_1] (fun v => .tuple #[v, .int .i64 v5_1.2.1, .bool v5_1.2.2]) func10 (fun W S => C.s_SmoothestOrder W hv5_1 ((s_own 0).out W S)) fun A5_1 k5_1 => ?_)
  refine p 7 ?_
  refine rend ?_
  refine c_seq ?_
  refine r_start ?_
  refine p 1 ?_
  obtain ⟨v6_1, hv6_1, h⟩ := H.call h
  refine xq rfl (y_call [.slice A3_1 (List.length v3_1) k3_1] (.tuple #[.int .i64 v6_1.1, .bool v6_1.2]) func11 (fun W S => C.i_CompoundTime W hv6_1 ((s_own 0).out W S))) ?_
  refine p 5 ?_
  refine rend ?_
  refine c_seq ?_
  refine r_start ?_
  refine p 1 ?_
  obtain ⟨v7_1, hv7_1, h⟩ := H.call h
  refine xq rfl (y_call [.slice A3_1 (List.length v3_1) k3_1] (.tuple #[.int .i64 v7_1.1, .bool v7_1.2]) func12 (fun W S => C.s_CompoundTime W hv7_1 ((s_own 0).out W S))) ?_
  refine p 5 ?_
  refine rend ?_
  refine c_seq ?_
  refine r_start ?_
  refine p 1 ?_
  obtain ⟨v8_1, hv8_1, h⟩ := H.call h
  refine xq rfl (y_call [.slice A3_1 (List.length v3_1) k3_1] (.tuple #[.string (bs v8_1.1), .bool v8_1.2]) func13 (fun W S => C.i_CompoundText W hv8_1 ((s_own 0).out W S))) ?_
  refine p 5 ?_
  refine rend ?_
  refine c_seq ?_
  refine r_start ?_
  refine p 1 ?_
  obtain ⟨v9_1, hv9_1, h⟩ := H.call h
  refine xq rfl (y_call [.slice A3_1 (List.length v3_1) k3_1] (.tuple #[.string (bs v9_1.1), .bool v9_1.2]) func14 (fun W S => C.s_CompoundText W hv9_1 ((s_own 0).out W S))) ?_
  refine p 5 ?_
  refine rend ?_
  refine c_seq ?_
  refine r_start ?_
  refine p 1 ?_
  obtain ⟨v10_1, hv10_1, h⟩ := H.call h
  refine xq rfl (y_call [.slice A1 (List.length a1) k1] (.tuple #[.agg (eSign v10_1.1).toArray, .agg (eSign v10_1.2).toArray]) func15 (fun W S => C.s_DrawGapOfSigns W hv10_1 ((s_arg h1).out W S))) ?_
  refine p 3 ?_
  refine xx rfl (x_new (eSign zSign) fun g10_5 => ?_)
  refine xx rfl (x_new (eSign zSign) fun g10_6 => ?_)
  refine xx rfl (x_sto 3 g10_5 0 (eSign v10_1.1) ?_)
  refine xx rfl (x_sto 4 g10_6 0 (eSign v10_1.2) ?_)
  refine rend ?_
  refine c_seq ?_
  refine r_start ?_
  refine xq rfl (y_load (.agg (eSign v10_1.1).toArray) 3 g10_5 0) ?_
  refine xq rfl (y_load (.agg (eSign v10_1.2).toArray) 4 g10_6 0) ?_
  obtain ⟨v11_2, hv11_2, h⟩ := H.call h
  refine xq rfl (y_call [.agg (eSign v10_1.1).toArray, .agg (eSign v10_1.2).toArray] (.tuple #[.int .i64 v11_2.1, .bool v11_2.2]) func16 (fun W S => C.i_GapOfSigns W hv11_2)) ?_
  refine p 5 ?_
  refine rend ?_
  refine c_seq ?_
  refine r_start ?_
  refine xq rfl (y_load (.agg (eSign v10_1.1).toArray) 3 g10_5 0) ?_
  refine xq rfl (y_load (.agg (eSign v10_1.2).toArray) 4 g10_6 0) ?_
  obtain ⟨v12_2, hv12_2, h⟩ := H.call h
  refine xq rfl (y_call [.agg (eSign v10_1.1).toArray, .agg (eSign v10_1.2).toArray] (.tuple #[.int .i64 v12_2.1, .bool v12_2.2]) func17 (fun W S => C.s_GapOfSigns W hv12_2)) ?_
  refine p 5 ?_
  refine rend ?_
  refine frg (fun u => (jk u 0 1 (.slice A1 (List.length a1) k1 :: (jk u 2 3 (.slice A3_1 (List.length v3_1) k3_1 :: .slice A4_1 (List.length v4_1.1) k4_1 :: .int .i64 v4_1.2.1 :: .bool v4_1.2.2 :: .slice A5_1 (List.length v5_1.1) k5_1 :: .int .i64 v5_1.2.1 :: .bool v5_1.2.2 :: .int .i64 v6_1.1 :: .bool v6_1.2 :: .int .i64 v7_1.1 :: .bool v7_1.2 :: .string (bs v8_1.1) :: .bool v8_1.2 :: .string (bs v9_1.1) :: .bool v9_1.2 :: .pointer (some ⟨g10_5, 0, none⟩) :: .pointer (some ⟨g10_6, 0, none⟩) :: .int .i64 v11_2.1 :: .bool v11_2.2 :: .int .i64 v12_2.1 :: .bool v12_2.2 :: (jk u 26 264 [])))))) (by kernel_rfl) fun u => ?_
  refine keep 5 (its' := [rowT nSign w.heap.size 46 (.slice A3_1 (List.length v3_1) k3_1) v3_1, rowT (eI .i64) w.heap.size 3 (.slice A4_1 (List.length v4_1.1) k4_1) v4_1.1, rdO (eI .i64) (.slice A5_1 (List.length v5_1.1) k5_1) v5_1.1, box g10_5 46 (eSign v10_1.1), box g10_6 46 (eSign v10_1.2)]) (by kernel_rfl) ?_
  refine c_seq ?_
  refine r_start ?_
  refine p 1 ?_
  obtain ⟨v13_1, hv13_1, h⟩ := H.call h
  refine xx rfl (e_cr2 [.slice A1 (List.length a1) k1] (fun v u => .tuple #[v, u]) func18 (fun W S => C.s_DrawCompoundsAlike W hv13_1 ((s_arg h1).out W S)) fun A13_1 k13_1 AA13_1 kk13_1 => ?_)
  refine p 5 ?_
  refine rend ?_
  refine c_seq ?_
  refine r_start ?_
  refine p 2 ?_
  obtain ⟨v14_2, hv14_2, h⟩ := H.call h
  refine xq rfl (y_call [.slice A13_1 (List.length v13_1.1) k13_1, .slice AA13_1 (List.length v13_1.2) kk13_1] (.tuple #[.bool v14_2.1, .bool v14_2.2]) func19 (fun W S => C.i_CompoundsAlike W hv14_2 ((s_own 5).out W S) ((s_own 6).out W S))) ?_
  refine p 5 ?_
  refine rend ?_
  refine c_seq ?_
  refine r_start ?_
  refine p 2 ?_
  obtain ⟨v15_2, hv15_2, h⟩ := H.call h
  refine xq rfl (y_call [.slice A13_1 (List.length v13_1.1) k13_1, .slice AA13_1 (List.length v13_1.2) kk13_1] (.tuple #[.bool v15_2.1, .bool v15_2.2]) func20 (fun W S => C.s_CompoundsAlike W hv15_2 ((s_own 5).out W S) ((s_own 6).out W S))) ?_
  refine p 5 ?_
  refine rend ?_
  refine c_seq ?_
  refine c_seq ?_
  refine joinT (X := Bool) (H.bnd h) (fun (x : Bool) => x) (fun b2 => [rowT nSign w.heap.size 46 (.slice A3_1 (List.length v3_1) k3_1) v3_1, rowT (eI .i64) w.heap.size 3 (.slice A4_1 (List.length v4_1.1) k4_1) v4_1.1, rdO (eI .i64) (.slice A5_1 (List.length v5_1.1) k5_1) v5_1.1, box g10_5 46 (eSign v10_1.1), box g10_6 46 (eSign v10_1.2), rowT nSign w.heap.size 46 (.slice A13_1 (List.length v13_1.1) k13_1) v13_1.1, rowT nSign w.heap.size 46 (.slice AA13_1 (List.length v13_1.2) kk13_1) v13_1.2]) (fun b2 u => (jk u 0 5 (.slice A3_1 (List.length v3_1) k3_1 :: (jk u 6 2 (.bool v4_1.2.2 :: .slice A5_1 (List.length v5_1.1) k5_1 :: .int .i64 v5_1.2.1 :: (jk u 11 3 (.int .i64 v7_1.1 :: (jk u 15 5 (.pointer (some ⟨g10_5, 0, none⟩) :: .pointer (some ⟨g10_6, 0, none⟩) :: (jk u 22 1 (.bool v11_2.2 :: .int .i64 v12_2.1 :: (jk u 25 1 (.slice A13_1 (List.length v13_1.1) k13_1 :: .slice AA13_1 (List.length v13_1.2) kk13_1 :: (jk u 28 1 (.bool v14_2.2 :: .bool v15_2.1 :: (jk u 31 153 (.bool b2 :: (jk u 185 105 [])))))))))))))))))) (fun h hj3 => ?_) ?_
  · skip
    refine r_start ?_
    refine p 4 ?_
    refine br (!(v4_1.2.2 == v5_1.2.2)) (fun q4 => ?_) (fun q4 => ?_)
    · replace h := H.t q4 h
      refine o_set 124 (congrArg Value.bool q4) ?_
      refine p 60 ?_
      refine rend ?_
      replace h := H.done h
      exact hj3 true _ _ h (by kernel_rfl) (by kernel_rfl)
    replace h := H.f q4 h
    refine o_set 124 (congrArg Value.bool q4) ?_
    refine p 2 ?_
    obtain ⟨v16_6, hv16_6, h⟩ := H.call h
    refine xq rfl (y_call [.slice A4_1 (List.length v4_1.1) k4_1, .slice A5_1 (List.length v5_1.1) k5_1] (.bool v16_6) func21 (fun W S => C.l_qInts W hv16_6 ((s_own 1).out W S) ((s_ownO 2).out W S))) ?_
    refine p 3 ?_
    refine br (!v16_6) (fun q5 => ?_) (fun q5 => ?_)
    · replace h := H.t q5 h
      refine o_set 130 (congrArg Value.bool q5) ?_
      refine p 54 ?_
      refine rend ?_
      replace h := H.done h
      exact hj3 true _ _ h (by kernel_rfl) (by kernel_rfl)
    replace h := H.f q5 h
    refine o_set 130 (congrArg Value.bool q5) ?_
    refine p 5 ?_
    refine br (v4_1.2.1 != v5_1.2.1) (fun q6 => ?_) (fun q6 => ?_)
    · replace h := H.t q6 h
      refine o_set 135 (congrArg Value.bool q6) ?_
      refine p 49 ?_
      refine rend ?_
      replace h := H.done h
      exact hj3 true _ _ h (by kernel_rfl) (by kernel_rfl)
    replace h := H.f q6 h
    refine o_set 135 (congrArg Value.bool q6) ?_
    refine p 5 ?_
    refine br (!(v6_1.2 == v7_1.2)) (fun q7 => ?_) (fun q7 => ?_)
    · replace h := H.t q7 h
      refine o_set 140 (congrArg Value.bool q7) ?_
      refine p 44 ?_
      refine rend ?_
      replace h := H.done h
      exact hj3 true _ _ h (by kernel_rfl) (by kernel_rfl)
    replace h := H.f q7 h
    refine o_set 140 (congrArg Value.bool q7) ?_
    refine p 5 ?_
    refine br (v6_1.1 != v7_1.1) (fun q8 => ?_) (fun q8 => ?_)
    · replace h := H.t q8 h
      refine o_set 145 (congrArg Value.bool q8) ?_
      refine p 39 ?_
      refine rend ?_
      replace h := H.done h
      exact hj3 true _ _ h (by kernel_rfl) (by kernel_rfl)
    replace h := H.f q8 h
    refine o_set 145 (congrArg Value.bool q8) ?_
    refine p 5 ?_
    refine br (!(v8_1.2 == v9_1.2)) (fun q9 => ?_) (fun q9 => ?_)
    · replace h := H.t q9 h
      refine o_set 150 (congrArg Value.bool q9) ?_
      refine p 34 ?_
      refine rend ?_
      replace h := H.done h
      exact hj3 true _ _ h (by kernel_rfl) (by kernel_rfl)
    replace h := H.f q9 h
    refine o_set 150 (congrArg Value.bool q9) ?_
    refine p 5 ?_
    refine br (!seq v8_1.1 v9_1.1) (fun q10 => ?_) (fun q10 => ?_)
    · replace h := H.t q10 h
      refine o_set 155 (congrArg Value.bool q10) ?_
      refine p 29 ?_
      refine rend ?_
      replace h := H.done h
      exact hj3 true _ _ h (by kernel_rfl) (by kernel_rfl)
    replace h := H.f q10 h
    refine o_set 155 (congrArg Value.bool q10) ?_
    refine p 5 ?_
    refine br (!(v11_2.2 == v12_2.2)) (fun q11 => ?_) (fun q11 => ?_)
    · replace h := H.t q11 h
      refine o_set 160 (congrArg Value.bool q11) ?_
      refine p 24 ?_
      refine rend ?_
      replace h := H.done h
      exact hj3 true _ _ h (by kernel_rfl) (by kernel_rfl)
    replace h := H.f q11 h
    refine o_set 160 (congrArg Value.bool q11) ?_
    refine p 5 ?_
    refine br (v11_2.1 != v12_2.1) (fun q12 => ?_) (fun q12 => ?_)
    · replace h := H.t q12 h
      refine o_set 165 (congrArg Value.bool q12) ?_
      refine p 19 ?_
      refine rend ?_
      replace h := H.done h
      exact hj3 true _ _ h (by kernel_rfl) (by kernel_rfl)
    replace h := H.f q12 h
    refine o_set 165 (congrArg Value.bool q12) ?_
    refine p 5 ?_
    refine br (!(v14_2.2 == v15_2.2)) (fun q13 => ?_) (fun q13 => ?_)
    · replace h := H.t q13 h
      refine o_set 170 (congrArg Value.bool q13) ?_
      refine p 14 ?_
      refine rend ?_
      replace h := H.done h
      exact hj3 true _ _ h (by kernel_rfl) (by kernel_rfl)
    replace h := H.f q13 h
    refine o_set 170 (congrArg Value.bool q13) ?_
    refine p 5 ?_
    refine br (!(v14_2.1 == v15_2.1)) (fun q14 => ?_) (fun q14 => ?_)
    · replace h := H.t q14 h
      refine o_set 175 (congrArg Value.bool q14) ?_
      refine p 9 ?_
      refine rend ?_
      replace h := H.done h
      exact hj3 true _ _ h (by kernel_rfl) (by kernel_rfl)
    replace h := H.f q14 h
    refine o_set 175 (congrArg Value.bool q14) ?_
    refine p 5 ?_
    refine br (!(v6_1.2 == v4_1.2.2)) (fun q15 => ?_) (fun q15 => ?_)
    · replace h := H.t q15 h
      refine o_set 180 (congrArg Value.bool q15) ?_
      refine p 4 ?_
      refine rend ?_
      replace h := H.done h
      exact hj3 true _ _ h (by kernel_rfl) (by kernel_rfl)
    replace h := H.f q15 h
    refine o_set 180 (congrArg Value.bool q15) ?_
    refine p 4 ?_
    refine rend ?_
    replace h := H.done h
    exact hj3 (!(v8_1.2 == v4_1.2.2)) _ _ h (by kernel_rfl) (by kernel_rfl)
  intro b2 u h
  refine c_or b2 (fun q16 => ?_) (fun q16 => ?_)
  · replace h := H.t q16 h
    refine c_seq ?_
    refine r_start ?_
    refine p 1 ?_
    refine rend ?_
    replace h := H.done h
    subst h
    exact ret func4 rfl (vs := [.bool false]) (.tmp (by kernel_rfl) .nil) rfl (fun W S => ⟨rfl, S.below⟩)
  replace h := H.f q16 h
  refine c_skip ?_
  refine c_seq ?_
  refine c_seq ?_
  refine r_start ?_
  refine p 1 ?_
  refine rend ?_
  refine joinTE (X := Unit) (H.or h) (fun (x : Unit) => x) (fun _ => [rowT nSign w.heap.size 46 (.slice A3_1 (List.length v3_1) k3_1) v3_1, rowT (eI .i64) w.heap.size 3 (.slice A4_1 (List.length v4_1.1) k4_1) v4_1.1, rdO (eI .i64) (.slice A5_1 (List.length v5_1.1) k5_1) v5_1.1, box g10_5 46 (eSign v10_1.1), box g10_6 46 (eSign v10_1.2), rowT nSign w.heap.size 46 (.slice A13_1 (List.length v13_1.1) k13_1) v13_1.1, rowT nSign w.heap.size 46 (.slice AA13_1 (List.length v13_1.2) kk13_1) v13_1.2]) (fun _ u => (jk u 0 20 (.pointer (some ⟨g10_5, 0, none⟩) :: .pointer (some ⟨g10_6, 0, none⟩) :: (jk u 22 1 (.bool v11_2.2 :: .int .i64 v12_2.1 :: (jk u 25 1 (.slice A13_1 (List.length v13_1.1) k13_1 :: .slice AA13_1 (List.length v13_1.2) kk13_1 :: (jk u 28 1 (.bool v14_2.2 :: .bool v15_2.1 :: (jk u 31 259 [])))))))))) (fun h hj17 => ?_) ?_
  · skip
    refine c_or v4_1.2.2 (fun q18 => ?_) (fun q18 => ?_)
    · replace h := H.t q18 h
      refine c_seq ?_
      refine r_start ?_
      refine p 3 ?_
      refine rend ?_
      refine c_seq ?_
      refine c_seq ?_
      refine r_start ?_
      refine p 3 ?_
      refine rend ?_
      refine c_block ?_
      refine joinE (X := (Int × Int × Int)) 0 (H.or h) (fun (x : (Int × Int × Int)) => x) (fun ⟨n22, n23, n24⟩ => [rowT nSign w.heap.size 46 (.slice A3_1 (List.length v3_1) k3_1) v3_1, rowT (eI .i64) w.heap.size 3 (.slice A4_1 (List.length v4_1.1) k4_1) v4_1.1, rdO (eI .i64) (.slice A5_1 (List.length v5_1.1) k5_1) v5_1.1, box g10_5 46 (eSign v10_1.1), box g10_6 46 (eSign v10_1.2), rowT nSign w.heap.size 46 (.slice A13_1 (List.length v13_1.1) k13_1) v13_1.1, rowT nSign w.heap.size 46 (.slice AA13_1 (List.length v13_1.2) kk13_1) v13_1.2]) (fun ⟨n22, n23, n24⟩ u => (jk u 0 10 (.int .i64 v5_1.2.1 :: (jk u 11 3 (.int .i64 v7_1.1 :: (jk u 15 5 (.pointer (some ⟨g10_5, 0, none⟩) :: .pointer (some ⟨g10_6, 0, none⟩) :: (jk u 22 1 (.bool v11_2.2 :: .int .i64 v12_2.1 :: (jk u 25 1 (.slice A13_1 (List.length v13_1.1) k13_1 :: .slice AA13_1 (List.length v13_1.2) kk13_1 :: (jk u 28 1 (.bool v14_2.2 :: .bool v15_2.1 :: (jk u 31 1 (.int .i64 n22 :: .int .i64 n23 :: .int .i64 n24 :: (jk u 35 255 [])))))))))))))))) (fun h hj25 => ?_) ?_
      · skip
        refine rangeR (X := (Int × Int × Int)) (s_own 0) (fun (x : (Int × Int × Int)) => x) (fun ⟨n19, n20, n21⟩ => [rowT nSign w.heap.size 46 (.slice A3_1 (List.length v3_1) k3_1) v3_1, rowT (eI .i64) w.heap.size 3 (.slice A4_1 (List.length v4_1.1) k4_1) v4_1.1, rdO (eI .i64) (.slice A5_1 (List.length v5_1.1) k5_1) v5_1.1, box g10_5 46 (eSign v10_1.1), box g10_6 46 (eSign v10_1.2), rowT nSign w.heap.size 46 (.slice A13_1 (List.length v13_1.1) k13_1) v13_1.1, rowT nSign w.heap.size 46 (.slice AA13_1 (List.length v13_1.2) kk13_1) v13_1.2]) (fun (j26 : Nat) ⟨n19, n20, n21⟩ u => (jk u 0 5 (.slice A3_1 (List.length v3_1) k3_1 :: (jk u 6 3 (.slice A5_1 (List.length v5_1.1) k5_1 :: .int .i64 v5_1.2.1 :: (jk u 11 3 (.int .i64 v7_1.1 :: (jk u 15 5 (.pointer (some ⟨g10_5, 0, none⟩) :: .pointer (some ⟨g10_6, 0, none⟩) :: (jk u 22 1 (.bool v11_2.2 :: .int .i64 v12_2.1 :: (jk u 25 1 (.slice A13_1 (List.length v13_1.1) k13_1 :: .slice AA13_1 (List.length v13_1.2) kk13_1 :: (jk u 28 1 (.bool v14_2.2 :: .bool v15_2.1 :: (jk u 31 1 (.int .i64 n19 :: .int .i64 n20 :: .int .i64 n21 :: (jk u 35 151 (.slice A3_1 (List.length v3_1) k3_1 :: .int .i64 (List.length v3_1 : Int) :: .int .i64 (j26 : Int) :: (jk u 189 101 [])))))))))))))))))))) (0, 0, 0) h (by kernel_rfl) (by kernel_rfl) ?_ ?_
        · intro j26 x u x27 q28 hg29 hw30 h
          obtain ⟨n19, n20, n21⟩ := x
          refine c_seq ?_
          refine r_start ?_
          refine p 1 ?_
          refine rend ?_
          refine c_seq ?_
          refine c_yes q28 ?_
          refine c_skip ?_
          refine c_seq ?_
          refine c_block ?_
          refine c_seq ?_
          refine r_start ?_
          refine p 1 ?_
          refine xq rfl (y_idx (e := nSign) (el := 46) hg29 (s_own 0)) ?_
          refine xq rfl (y_el (e := nSign) 0 (.agg (eSign x27).toArray) hg29 (s_own 0)) ?_
          refine xx rfl (x_new (eSign zSign) fun g22_3 => ?_)
          refine p 1 ?_
          refine xx rfl (x_sto 7 g22_3 0 (eSign x27) ?_)
          refine rend ?_
          refine c_seq ?_
          refine r_start ?_
          refine xq rfl (y_load (.agg (eSign x27).toArray) 7 g22_3 0) ?_
          obtain ⟨v23_1, hv23_1, h⟩ := H.call h
          refine xq rfl (y_call [.agg (eSign x27).toArray] (.tuple #[.int .i64 v23_1.1, .bool v23_1.2]) func22 (fun W S => C.s_StepsOfSign W hv23_1)) ?_
          refine p 5 ?_
          refine rend ?_
          refine c_seq ?_
          refine c_seq ?_
          refine r_start ?_
          refine p 2 ?_
          refine rend ?_
          refine c_or (!v23_1.2) (fun q31 => ?_) (fun q31 => ?_)
          · replace h := H.t q31 h
            refine c_seq ?_
            refine r_start ?_
            refine p 1 ?_
            refine rend ?_
            refine frg (fun u => (jk u 0 4 (.bool false :: (jk u 5 285 [])))) (by kernel_rfl) fun u => ?_
            refine keep 8 (its' := [rowT nSign w.heap.size 46 (.slice A3_1 (List.length v3_1) k3_1) v3_1, rowT (eI .i64) w.heap.size 3 (.slice A4_1 (List.length v4_1.1) k4_1) v4_1.1, rdO (eI .i64) (.slice A5_1 (List.length v5_1.1) k5_1) v5_1.1, box g10_5 46 (eSign v10_1.1), box g10_6 46 (eSign v10_1.2), rowT nSign w.heap.size 46 (.slice A13_1 (List.length v13_1.1) k13_1) v13_1.1, rowT nSign w.heap.size 46 (.slice AA13_1 (List.length v13_1.2) kk13_1) v13_1.2, box g22_3 46 (eSign x27)]) (by kernel_rfl) ?_
            replace h := H.inr h
            replace h := H.inl h
            replace h := H.done h
            subst h
            exact ret func4 rfl (vs := [.bool false]) (.tmp (by kernel_rfl) .nil) rfl (fun W S => ⟨rfl, S.below⟩)
          replace h := H.f q31 h
          refine c_skip ?_
          refine c_seq ?_
          refine r_start ?_
          refine p 5 ?_
          refine rend ?_
          refine frg (fun u => (jk u 0 5 (.slice A3_1 (List.length v3_1) k3_1 :: (jk u 6 3 (.slice A5_1 (List.length v5_1.1) k5_1 :: .int .i64 v5_1.2.1 :: (jk u 11 3 (.int .i64 v7_1.1 :: (jk u 15 5 (.pointer (some ⟨g10_5, 0, none⟩) :: .pointer (some ⟨g10_6, 0, none⟩) :: (jk u 22 1 (.bool v11_2.2 :: .int .i64 v12_2.1 :: (jk u 25 1 (.slice A13_1 (List.length v13_1.1) k13_1 :: .slice AA13_1 (List.length v13_1.2) kk13_1 :: (jk u 28 1 (.bool v14_2.2 :: .bool v15_2.1 :: (jk u 31 1 (.int .i64 n19 :: .int .i64 n20 :: .int .i64 (wr (n21 + (wr (v23_1.1 + 1)))) :: .int .i64 (j26 : Int) :: .pointer (some ⟨g22_3, 0, none⟩) :: (jk u 37 149 (.slice A3_1 (List.length v3_1) k3_1 :: .int .i64 (List.length v3_1 : Int) :: .int .i64 (j26 : Int) :: (jk u 189 101 [])))))))))))))))))))) (by kernel_rfl) fun u => ?_
          refine keep 8 (its' := [rowT nSign w.heap.size 46 (.slice A3_1 (List.length v3_1) k3_1) v3_1, rowT (eI .i64) w.heap.size 3 (.slice A4_1 (List.length v4_1.1) k4_1) v4_1.1, rdO (eI .i64) (.slice A5_1 (List.length v5_1.1) k5_1) v5_1.1, box g10_5 46 (eSign v10_1.1), box g10_6 46 (eSign v10_1.2), rowT nSign w.heap.size 46 (.slice A13_1 (List.length v13_1.1) k13_1) v13_1.1, rowT nSign w.heap.size 46 (.slice AA13_1 (List.length v13_1.2) kk13_1) v13_1.2, box g22_3 46 (eSign x27)]) (by kernel_rfl) ?_
          refine c_seq ?_
          refine r_start ?_
          refine p 2 ?_
          refine rend ?_
          refine c_or (decide ((j26 : Int) > 0)) (fun q32 => ?_) (fun q32 => ?_)
          · replace h := H.t q32 h
            refine c_seq ?_
            refine as_start 12 12 ?_
            refine ap 0 3 ?_
            obtain ⟨y28_3, hy28_3, h⟩ := H.call h
            refine aq 3 rfl (y_idx (e := nSign) (el := 46) hy28_3 (s_own 0)) ?_
            refine aq 4 rfl (y_el (e := nSign) 0 (.agg (eSign y28_3).toArray) hy28_3 (s_own 0)) ?_
            refine aq 5 rfl (y_load (.agg (eSign x27).toArray) 7 g22_3 0) ?_
            obtain ⟨v28_6, hv28_6, h⟩ := H.call h
            refine aq 6 rfl (y_call [.agg (eSign y28_3).toArray, .agg (eSign x27).toArray] (.tuple #[.int .i64 v28_6.1, .bool v28_6.2]) func16 (fun W S => C.i_GapOfSigns W hv28_6)) ?_
            refine ap 7 5 ?_
            refine a_done ?_
            refine c_seq ?_
            refine as_start 21 21 ?_
            refine ap 0 4 ?_
            obtain ⟨y29_4, hy29_4, h⟩ := H.call h
            refine aq 4 rfl (y_idx (e := (eI .i64)) (el := 3) hy29_4 (s_ownO 2)) ?_
            refine aq 5 rfl (y_el (e := (eI .i64)) 0 (.int .i64 y29_4) hy29_4 (s_ownO 2)) ?_
            obtain ⟨y29_6, hy29_6, h⟩ := H.call h
            refine aq 6 rfl (y_idx (e := nSign) (el := 46) hy29_6 (s_own 0)) ?_
            refine aq 7 rfl (y_el (e := nSign) 0 (.agg (eSign y29_6).toArray) hy29_6 (s_own 0)) ?_
            refine ap 8 3 ?_
            obtain ⟨y29_11, hy29_11, h⟩ := H.call h
            refine aq 11 rfl (y_idx (e := (eI .i64)) (el := 3) hy29_11 (s_ownO 2)) ?_
            refine aq 12 rfl (y_el (e := (eI .i64)) 0 (.int .i64 y29_11) hy29_11 (s_ownO 2)) ?_
            obtain ⟨y29_13, hy29_13, h⟩ := H.call h
            refine aq 13 rfl (y_idx (e := nSign) (el := 46) hy29_13 (s_own 0)) ?_
            refine aq 14 rfl (y_el (e := nSign) 0 (.agg (eSign y29_13).toArray) hy29_13 (s_own 0)) ?_
            obtain ⟨v29_15, hv29_15, h⟩ := H.call h
            refine aq 15 rfl (y_call [.agg (eSign y29_6).toArray, .agg (eSign y29_13).toArray] (.tuple #[.int .i64 v29_15.1, .bool v29_15.2]) func16 (fun W S => C.i_GapOfSigns W hv29_15)) ?_
            refine ap 16 5 ?_
            refine a_done ?_
            refine c_seq ?_
            refine c_seq ?_
            refine r_start ?_
            refine p 3 ?_
            refine br (!v28_6.2) (fun q33 => ?_) (fun q33 => ?_)
            · replace h := H.t q33 h
              refine o_set 237 (congrArg Value.bool q33) ?_
              refine p 3 ?_
              refine rend ?_
              refine c_t (by kernel_rfl) ?_
              refine c_seq ?_
              refine r_start ?_
              refine p 1 ?_
              refine rend ?_
              replace h := H.inr h
              replace h := H.inl h
              replace h := H.done h
              subst h
              exact ret func4 rfl (vs := [.bool false]) (.tmp (by kernel_rfl) .nil) rfl (fun W S => ⟨rfl, S.below⟩)
            replace h := H.f q33 h
            refine o_set 237 (congrArg Value.bool q33) ?_
            refine p 3 ?_
            refine rend ?_
            refine c_or (!v29_15.2) (fun q34 => ?_) (fun q34 => ?_)
            · replace h := H.t q34 h
              refine c_seq ?_
              refine r_start ?_
              refine p 1 ?_
              refine rend ?_
              replace h := H.inr h
              replace h := H.inl h
              replace h := H.done h
              subst h
              exact ret func4 rfl (vs := [.bool false]) (.tmp (by kernel_rfl) .nil) rfl (fun W S => ⟨rfl, S.below⟩)
            replace h := H.f q34 h
            refine c_skip ?_
            refine c_seq ?_
            refine r_start ?_
            refine p 4 ?_
            refine rend ?_
            refine r_start ?_
            refine p 4 ?_
            refine rend ?_
            refine c_inb ?_
            refine r_start ?_
            refine p 2 ?_
            refine rend ?_
            refine c_set 188 (ci hw30) ?_
            replace h := H.inl h
            exact h ((wr (n19 + v29_15.1)), (wr (n20 + v28_6.1)), (wr (n21 + (wr (v23_1.1 + 1))))) _ _ rfl (by kernel_rfl) (by kernel_rfl)
          replace h := H.f q32 h
          refine c_skip ?_
          refine c_inb ?_
          refine r_start ?_
          refine p 2 ?_
          refine rend ?_
          refine c_set 188 (ci hw30) ?_
          replace h := H.inl h
          exact h (n19, n20, (wr (n21 + (wr (v23_1.1 + 1))))) _ _ rfl (by kernel_rfl) (by kernel_rfl)
        · intro x u q28 h
          obtain ⟨n19, n20, n21⟩ := x
          refine c_seq ?_
          refine r_start ?_
          refine p 1 ?_
          refine rend ?_
          refine c_seq ?_
          refine c_no q28 ?_
          refine cx ?_
          replace h := H.done h
          exact hj25 (n19, n20, n21) _ _ h (by kernel_rfl) (by kernel_rfl)
      intro x u h
      obtain ⟨n22, n23, n24⟩ := x
      refine c_seq ?_
      refine r_start ?_
      refine p 4 ?_
      refine br (n22 != v5_1.2.1) (fun q35 => ?_) (fun q35 => ?_)
      · replace h := H.t q35 h
        refine o_set 251 (congrArg Value.bool q35) ?_
        refine p 11 ?_
        refine rend ?_
        refine c_t (by kernel_rfl) ?_
        refine c_seq ?_
        refine r_start ?_
        refine p 1 ?_
        refine rend ?_
        replace h := H.inl h
        replace h := H.done h
        subst h
        exact ret func4 rfl (vs := [.bool false]) (.tmp (by kernel_rfl) .nil) rfl (fun W S => ⟨rfl, S.below⟩)
      replace h := H.f q35 h
      refine o_set 251 (congrArg Value.bool q35) ?_
      refine p 5 ?_
      refine br (decide (n23 < v5_1.2.1)) (fun q36 => ?_) (fun q36 => ?_)
      · replace h := H.t q36 h
        refine o_set 256 (congrArg Value.bool q36) ?_
        refine p 6 ?_
        refine rend ?_
        refine c_t (by kernel_rfl) ?_
        refine c_seq ?_
        refine r_start ?_
        refine p 1 ?_
        refine rend ?_
        replace h := H.inl h
        replace h := H.done h
        subst h
        exact ret func4 rfl (vs := [.bool false]) (.tmp (by kernel_rfl) .nil) rfl (fun W S => ⟨rfl, S.below⟩)
      replace h := H.f q36 h
      refine o_set 256 (congrArg Value.bool q36) ?_
      refine p 6 ?_
      refine rend ?_
      refine c_or (v7_1.1 != (wr (n24 + n23))) (fun q37 => ?_) (fun q37 => ?_)
      · replace h := H.t q37 h
        refine c_seq ?_
        refine r_start ?_
        refine p 1 ?_
        refine rend ?_
        replace h := H.inl h
        replace h := H.done h
        subst h
        exact ret func4 rfl (vs := [.bool false]) (.tmp (by kernel_rfl) .nil) rfl (fun W S => ⟨rfl, S.below⟩)
      replace h := H.f q37 h
      refine c_skip ?_
      replace h := H.inr h
      exact hj17 () _ _ h (by kernel_rfl) (by kernel_rfl)
    replace h := H.f q18 h
    refine c_skip ?_
    replace h := H.inr h
    exact hj17 () _ _ h (by kernel_rfl) (by kernel_rfl)
  intro x u h
  refine c_seq ?_
  refine c_seq ?_
  refine r_start ?_
  refine p 1 ?_
  refine rend ?_
  refine joinTE (X := Unit) (H.or h) (fun (x : Unit) => x) (fun _ => [rowT nSign w.heap.size 46 (.slice A3_1 (List.length v3_1) k3_1) v3_1, rowT (eI .i64) w.heap.size 3 (.slice A4_1 (List.length v4_1.1) k4_1) v4_1.1, rdO (eI .i64) (.slice A5_1 (List.length v5_1.1) k5_1) v5_1.1, box g10_5 46 (eSign v10_1.1), box g10_6 46 (eSign v10_1.2), rowT nSign w.heap.size 46 (.slice A13_1 (List.length v13_1.1) k13_1) v13_1.1, rowT nSign w.heap.size 46 (.slice AA13_1 (List.length v13_1.2) kk13_1) v13_1.2]) (fun _ u => (jk u 0 26 (.slice A13_1 (List.length v13_1.1) k13_1 :: .slice AA13_1 (List.length v13_1.2) kk13_1 :: (jk u 28 1 (.bool v14_2.2 :: .bool v15_2.1 :: (jk u 31 259 [])))))) (fun h hj38 => ?_) ?_
  · skip
    refine c_or v11_2.2 (fun q39 => ?_) (fun q39 => ?_)
    · replace h := H.t q39 h
      refine c_seq ?_
      refine r_start ?_
      refine xq rfl (y_load (.agg (eSign v10_1.2).toArray) 4 g10_6 0) ?_
      refine xq rfl (y_load (.agg (eSign v10_1.1).toArray) 3 g10_5 0) ?_
      obtain ⟨v38_2, hv38_2, h⟩ := H.call h
      refine xq rfl (y_call [.agg (eSign v10_1.2).toArray, .agg (eSign v10_1.1).toArray] (.tuple #[.int .i64 v38_2.1, .bool v38_2.2]) func16 (fun W S => C.i_GapOfSigns W hv38_2)) ?_
      refine p 5 ?_
      refine rend ?_
      refine c_seq ?_
      refine r_start ?_
      refine p 3 ?_
      refine br (!v38_2.2) (fun q40 => ?_) (fun q40 => ?_)
      · replace h := H.t q40 h
        refine o_set 272 (congrArg Value.bool q40) ?_
        refine p 4 ?_
        refine rend ?_
        refine frg (fun u => (jk u 0 26 (.slice A13_1 (List.length v13_1.1) k13_1 :: .slice AA13_1 (List.length v13_1.2) kk13_1 :: (jk u 28 1 (.bool v14_2.2 :: .bool v15_2.1 :: (jk u 31 245 (.bool true :: (jk u 277 13 [])))))))) (by kernel_rfl) fun u => ?_
        refine keep 7 (its' := [rowT nSign w.heap.size 46 (.slice A3_1 (List.length v3_1) k3_1) v3_1, rowT (eI .i64) w.heap.size 3 (.slice A4_1 (List.length v4_1.1) k4_1) v4_1.1, rdO (eI .i64) (.slice A5_1 (List.length v5_1.1) k5_1) v5_1.1, box g10_5 46 (eSign v10_1.1), box g10_6 46 (eSign v10_1.2), rowT nSign w.heap.size 46 (.slice A13_1 (List.length v13_1.1) k13_1) v13_1.1, rowT nSign w.heap.size 46 (.slice AA13_1 (List.length v13_1.2) kk13_1) v13_1.2]) (by kernel_rfl) ?_
        refine c_t (by kernel_rfl) ?_
        refine c_seq ?_
        refine r_start ?_
        refine p 1 ?_
        refine rend ?_
        replace h := H.inl h
        replace h := H.done h
        subst h
        exact ret func4 rfl (vs := [.bool false]) (.tmp (by kernel_rfl) .nil) rfl (fun W S => ⟨rfl, S.below⟩)
      replace h := H.f q40 h
      refine o_set 272 (congrArg Value.bool q40) ?_
      refine p 4 ?_
      refine rend ?_
      refine frg (fun u => (jk u 0 26 (.slice A13_1 (List.length v13_1.1) k13_1 :: .slice AA13_1 (List.length v13_1.2) kk13_1 :: (jk u 28 1 (.bool v14_2.2 :: .bool v15_2.1 :: (jk u 31 245 (.bool (v38_2.1 != v12_2.1) :: (jk u 277 13 [])))))))) (by kernel_rfl) fun u => ?_
      refine keep 7 (its' := [rowT nSign w.heap.size 46 (.slice A3_1 (List.length v3_1) k3_1) v3_1, rowT (eI .i64) w.heap.size 3 (.slice A4_1 (List.length v4_1.1) k4_1) v4_1.1, rdO (eI .i64) (.slice A5_1 (List.length v5_1.1) k5_1) v5_1.1, box g10_5 46 (eSign v10_1.1), box g10_6 46 (eSign v10_1.2), rowT nSign w.heap.size 46 (.slice A13_1 (List.length v13_1.1) k13_1) v13_1.1, rowT nSign w.heap.size 46 (.slice AA13_1 (List.length v13_1.2) kk13_1) v13_1.2]) (by kernel_rfl) ?_
      refine c_or (v38_2.1 != v12_2.1) (fun q41 => ?_) (fun q41 => ?_)
      · replace h := H.t q41 h
        refine c_seq ?_
        refine r_start ?_
        refine p 1 ?_
        refine rend ?_
        replace h := H.inl h
        replace h := H.done h
        subst h
        exact ret func4 rfl (vs := [.bool false]) (.tmp (by kernel_rfl) .nil) rfl (fun W S => ⟨rfl, S.below⟩)
      replace h := H.f q41 h
      refine c_skip ?_
      replace h := H.inr h
      exact hj38 () _ _ h (by kernel_rfl) (by kernel_rfl)
    replace h := H.f q39 h
    refine c_skip ?_
    replace h := H.inr h
    exact hj38 () _ _ h (by kernel_rfl) (by kernel_rfl)
  intro x u h
  refine c_seq ?_
  refine c_seq ?_
  refine r_start ?_
  refine p 1 ?_
  refine rend ?_
  refine c_or v14_2.2 (fun q42 => ?_) (fun q42 => ?_)
  · replace h := H.t q42 h
    refine c_seq ?_
    refine r_start ?_
    refine p 2 ?_
    obtain ⟨v42_2, hv42_2, h⟩ := H.call h
    refine xq rfl (y_call [.slice AA13_1 (List.length v13_1.2) kk13_1, .slice A13_1 (List.length v13_1.1) k13_1] (.tuple #[.bool v42_2.1, .bool v42_2.2]) func19 (fun W S => C.i_CompoundsAlike W hv42_2 ((s_own 6).out W S) ((s_own 5).out W S))) ?_
    refine p 5 ?_
    refine rend ?_
    refine c_seq ?_
    refine r_start ?_
    refine p 2 ?_
    refine br v42_2.2 (fun q43 => ?_) (fun q43 => ?_)
    · replace h := H.t q43 h
      refine o_set 285 (congrArg Value.bool q43) ?_
      refine p 5 ?_
      refine rend ?_
      replace h := H.done h
      subst h
      exact ret func4 rfl (vs := [.bool (v42_2.1 == v15_2.1)]) (.tmp (by kernel_rfl) .nil) rfl (fun W S => ⟨rfl, S.below⟩)
    replace h := H.f q43 h
    refine o_set 285 (congrArg Value.bool q43) ?_
    refine p 5 ?_
    refine rend ?_
    replace h := H.done h
    subst h
    exact ret func4 rfl (vs := [.bool false]) (.tmp (by kernel_rfl) .nil) rfl (fun W S => ⟨rfl, S.below⟩)
  replace h := H.f q42 h
  refine c_skip ?_
  refine c_seq ?_
  refine r_start ?_
  refine p 1 ?_
  refine rend ?_
  replace h := H.done h
  subst h
  exact ret func4 rfl (vs := [.bool true]) (.tmp (by kernel_rfl) .nil) rfl (fun W S => ⟨rfl, S.below⟩)
end Go.Proofs.XC
