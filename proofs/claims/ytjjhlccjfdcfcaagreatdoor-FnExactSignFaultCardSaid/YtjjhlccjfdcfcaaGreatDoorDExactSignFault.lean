/- Contracts: each function, called where its plain function gives an answer, returns just that answer and changes nothing that was there. By AI agents; no person has read it. -/
import Derived.Test.YtjjhlccjfdcfcaaGreatDoorC0
set_option linter.unusedVariables false
set_option linter.unusedSimpArgs false
set_option maxRecDepth 100000
set_option maxHeartbeats 40000000
namespace Go.Proofs.XC
open Go Go.RowKit
open Tryz
theorem C.s_paGiven {a0 : Str} {r : Bool} (w : World) (h : X.s_paGiven a0 = some r) : Calls prog 30 #[.string (bs a0)] w (Ret w (.bool r)) := by
  refine calls (M := no) (args := [.string (bs a0)]) func30 rfl ?_
  replace h : H (X.s_paGiven a0) (fun o => o = r) := H.mk h
  unfold X.s_paGiven at h
  refine c_seq ?_
  refine r_start ?_
  refine p 1 ?_
  refine rend ?_
  refine c_seq ?_
  refine r_start ?_
  refine p 4 ?_
  refine rend ?_
  replace h := H.done h
  subst h
  exact ret func30 rfl (vs := [.bool (decide ((List.length a0 : Int) ≤ 200))]) (.tmp (by kernel_rfl) .nil) rfl (fun W S => ⟨rfl, S.below⟩)
theorem C.s_l1Split {fu : Nat} {a0 : Str} {a1 : Int} {r : (List Str)} (w : World) (h : X.s_l1Split fu a0 a1 = some r) : Calls prog 68 #[.string (bs a0), .int .u8 a1] w (RetR eS 9 w r (fun v => v)) := by
  refine calls (M := no) (args := [.string (bs a0), .int .u8 a1]) func68 rfl ?_
  replace h : H (X.s_l1Split fu a0 a1) (fun o => o = r) := H.mk h
  unfold X.s_l1Split at h
  refine c_seq ?_
  refine r_start ?_
  refine p 1 ?_
  refine rend ?_
  refine c_seq ?_
  refine r_start ?_
  refine p 1 ?_
  refine rend ?_
  refine c_seq ?_
  refine r_start ?_
  refine p 1 ?_
  refine rend ?_
  refine c_seq ?_
  refine c_seq ?_
  refine r_start ?_
  refine p 1 ?_
  refine rend ?_
  refine c_block ?_
  refine c_nil eS 9 ?_
  refine joinH (X := (Int × (List Str) × Option Addr × Nat)) 0 (H.bnd h) (fun ⟨n6, l7, A8, k9⟩ => (n6, l7)) (fun ⟨n6, l7, A8, k9⟩ => [rowT eS w.heap.size 9 (.slice A8 (List.length l7) k9) l7]) (fun ⟨n6, l7, A8, k9⟩ u => (.string (bs a0) :: (jk u 1 4 (.slice A8 (List.length l7) k9 :: .int .i64 n6 :: (jk u 7 27 []))))) (fun h hj10 => ?_) ?_
  · skip
    refine loopR (X := (Int × Int × (List Str) × Option Addr × Nat)) (fun ⟨n1, n2, l3, A4, k5⟩ => (n1, n2, l3)) (fun ⟨n1, n2, l3, A4, k5⟩ => [rowT eS w.heap.size 9 (.slice A4 (List.length l3) k5) l3]) (fun ⟨n1, n2, l3, A4, k5⟩ u => (.string (bs a0) :: .int .u8 a1 :: (jk u 2 3 (.slice A4 (List.length l3) k5 :: .int .i64 n1 :: .int .i64 n2 :: (jk u 8 26 []))))) (0, 0, ([] : List Str), none, 0) h (by kernel_rfl) (by kernel_rfl) ?_
    intro x u h
    obtain ⟨n1, n2, l3, A4, k5⟩ := x
    refine c_seq ?_
    refine c_seq ?_
    refine r_start ?_
    refine p 4 ?_
    refine rend ?_
    refine c_or (decide (n2 < (List.length a0 : Int))) (fun q11 => ?_) (fun q11 => ?_)
    · replace h := H.t q11 h
      refine c_skip ?_
      refine c_seq ?_
      refine c_block ?_
      refine c_seq ?_
      refine r_start ?_
      refine p 2 ?_
      obtain ⟨y6_2, hy6_2, h⟩ := H.call h
      refine xq rfl (y_byte hy6_2) ?_
      refine p 2 ?_
      refine rend ?_
      refine c_or (y6_2 == a1) (fun q12 => ?_) (fun q12 => ?_)
      · replace h := H.t q12 h
        refine c_seq ?_
        refine r_start ?_
        refine p 4 ?_
        obtain ⟨y7_4, hy7_4, h⟩ := H.call h
        refine xq rfl (y_cut hy7_4) ?_
        refine xx rfl (e_lit (e := eS) (el := 9) [.string (bs y7_4)] ([y7_4] : List Str) fun A7_5 k7_5 => ?_)
        obtain ⟨y7_6, hy7_6, h⟩ := H.call h
        refine xx rfl (e_app 0 hy7_6 (s_own 1) fun A7_6 k7_6 => ?_)
        refine p 1 ?_
        refine rend ?_
        refine r_start ?_
        refine p 3 ?_
        refine rend ?_
        refine c_inb ?_
        refine r_start ?_
        refine p 3 ?_
        refine rend ?_
        replace h := H.inl h
        exact h ((wr (n2 + 1)), (wr (n2 + 1)), y7_6, A7_6, k7_6) _ _ rfl (by kernel_rfl) (by kernel_rfl)
      replace h := H.f q12 h
      refine c_skip ?_
      refine c_inb ?_
      refine r_start ?_
      refine p 3 ?_
      refine rend ?_
      replace h := H.inl h
      exact h (n1, (wr (n2 + 1)), l3, A4, k5) _ _ rfl (by kernel_rfl) (by kernel_rfl)
    replace h := H.f q11 h
    refine cx ?_
    replace h := H.inr h
    exact hj10 (n1, l3, A4, k5) _ _ h (by kernel_rfl) (by kernel_rfl)
  intro x u h
  obtain ⟨n6, l7, A8, k9⟩ := x
  refine c_seq ?_
  refine r_start ?_
  refine p 3 ?_
  obtain ⟨y9_3, hy9_3, h⟩ := H.call h
  refine xq rfl (y_cut hy9_3) ?_
  refine xx rfl (e_lit (e := eS) (el := 9) [.string (bs y9_3)] ([y9_3] : List Str) fun A9_4 k9_4 => ?_)
  obtain ⟨y9_5, hy9_5, h⟩ := H.call h
  refine xx rfl (e_app 0 hy9_5 (s_own 1) fun A9_5 k9_5 => ?_)
  refine p 1 ?_
  refine rend ?_
  replace h := H.done h
  subst h
  exact ret func68 rfl (vs := [.slice A9_5 (List.length y9_5) k9_5]) (.tmp (by kernel_rfl) .nil) rfl (fun W S => ⟨_, _, rfl, S.row 0, S.below⟩)
theorem C.s_l1In {a0 : Int} {a1 : Int} {a2 : Int} {r : Bool} (w : World) (h : X.s_l1In a0 a1 a2 = some r) : Calls prog 77 #[.int .i64 a0, .int .i64 a1, .int .i64 a2] w (Ret w (.bool r)) := by
  refine calls (M := no) (args := [.int .i64 a0, .int .i64 a1, .int .i64 a2]) func77 rfl ?_
  replace h : H (X.s_l1In a0 a1 a2) (fun o => o = r) := H.mk h
  unfold X.s_l1In at h
  refine c_seq ?_
  refine r_start ?_
  refine p 1 ?_
  refine rend ?_
  refine c_seq ?_
  refine r_start ?_
  refine p 4 ?_
  refine br (decide (a0 ≥ a1)) (fun q1 => ?_) (fun q1 => ?_)
  · replace h := H.t q1 h
    refine o_set 10 (congrArg Value.bool q1) ?_
    refine p 5 ?_
    refine rend ?_
    replace h := H.done h
    subst h
    exact ret func77 rfl (vs := [.bool (decide (a0 ≤ a2))]) (.tmp (by kernel_rfl) .nil) rfl (fun W S => ⟨rfl, S.below⟩)
  replace h := H.f q1 h
  refine o_set 10 (congrArg Value.bool q1) ?_
  refine p 5 ?_
  refine rend ?_
  replace h := H.done h
  subst h
  exact ret func77 rfl (vs := [.bool false]) (.tmp (by kernel_rfl) .nil) rfl (fun W S => ⟨rfl, S.below⟩)
theorem C.s_shFingers {a0 : Shape} {r : (List Int)} (w : World) (h : X.s_shFingers a0 = some r) : Calls prog 193 #[.agg (eShape a0).toArray] w (RetR (eI .i64) 3 w r (fun v => v)) := by
  refine calls (M := no) (args := [.agg (eShape a0).toArray]) func193 rfl ?_
  replace h : H (X.s_shFingers a0) (fun o => o = r) := H.mk h
  unfold X.s_shFingers at h
  refine c_seq ?_
  refine r_start ?_
  refine xx rfl (x_box (eShape a0) fun g0_0 => ?_)
  refine p 1 ?_
  refine rend ?_
  refine c_seq ?_
  refine r_start ?_
  refine p 1 ?_
  refine xq rfl (y_load (.int .i64 a0.Index) 0 g0_0 1) ?_
  refine p 1 ?_
  refine xq rfl (y_load (.int .i64 a0.Middle) 0 g0_0 2) ?_
  refine p 1 ?_
  refine xq rfl (y_load (.int .i64 a0.Ring) 0 g0_0 3) ?_
  refine p 1 ?_
  refine xq rfl (y_load (.int .i64 a0.Little) 0 g0_0 4) ?_
  refine xx rfl (e_lit (e := (eI .i64)) (el := 3) [.int .i64 a0.Index, .int .i64 a0.Middle, .int .i64 a0.Ring, .int .i64 a0.Little] ([a0.Index, a0.Middle, a0.Ring, a0.Little] : List Int) fun A1_8 k1_8 => ?_)
  refine p 1 ?_
  refine rend ?_
  replace h := H.done h
  subst h
  exact ret func193 rfl (vs := [.slice A1_8 (List.length ([a0.Index, a0.Middle, a0.Ring, a0.Little] : List Int)) k1_8]) (.tmp (by kernel_rfl) .nil) rfl (fun W S => ⟨_, _, rfl, S.row 1, S.below⟩)
theorem C.s_l1All {a0 : (List Int)} {A0 : Option Addr} {k0 : Nat} {a1 : Int} {a2 : Int} {r : Bool} (w : World) (h : X.s_l1All a0 a1 a2 = some r) (h0 : RdT (eI .i64) w (.slice A0 (List.length a0) k0) a0) : Calls prog 206 #[.slice A0 (List.length a0) k0, .int .i64 a1, .int .i64 a2] w (Ret w (.bool r)) := by
  refine calls (M := no) (args := [.slice A0 (List.length a0) k0, .int .i64 a1, .int .i64 a2]) func206 rfl ?_
  replace h : H (X.s_l1All a0 a1 a2) (fun o => o = r) := H.mk h
  unfold X.s_l1All at h
  refine c_seq ?_
  refine r_start ?_
  refine p 1 ?_
  refine rend ?_
  refine c_seq ?_
  refine c_seq ?_
  refine r_start ?_
  refine p 3 ?_
  refine rend ?_
  refine c_block ?_
  refine joinE (X := Unit) 0 (H.or h) (fun (x : Unit) => x) (fun _ => []) (fun _ u => (jk u 0 21 [])) (fun h hj1 => ?_) ?_
  · skip
    refine rangeR (X := Unit) (s_arg h0) (fun (x : Unit) => x) (fun _ => []) (fun (j2 : Nat) _ u => (jk u 0 1 (.int .i64 a1 :: .int .i64 a2 :: (jk u 3 6 (.slice A0 (List.length a0) k0 :: .int .i64 (List.length a0 : Int) :: .int .i64 (j2 : Int) :: (jk u 12 9 [])))))) () h (by kernel_rfl) (by kernel_rfl) ?_ ?_
    · intro j2 x u x3 q4 hg5 hw6 h
      refine c_seq ?_
      refine r_start ?_
      refine p 1 ?_
      refine rend ?_
      refine c_seq ?_
      refine c_yes q4 ?_
      refine c_skip ?_
      refine c_seq ?_
      refine c_block ?_
      refine c_seq ?_
      refine r_start ?_
      refine xq rfl (y_idx (e := (eI .i64)) (el := 3) hg5 (s_arg h0)) ?_
      refine xq rfl (y_el (e := (eI .i64)) 0 (.int .i64 x3) hg5 (s_arg h0)) ?_
      refine p 1 ?_
      refine rend ?_
      refine c_seq ?_
      refine r_start ?_
      refine p 3 ?_
      obtain ⟨v4_3, hv4_3, h⟩ := H.call h
      refine xq rfl (y_call [.int .i64 x3, .int .i64 a1, .int .i64 a2] (.bool v4_3) func77 (fun W S => C.s_l1In W hv4_3)) ?_
      refine p 1 ?_
      refine rend ?_
      refine c_or (!v4_3) (fun q7 => ?_) (fun q7 => ?_)
      · replace h := H.t q7 h
        refine c_seq ?_
        refine r_start ?_
        refine p 1 ?_
        refine rend ?_
        replace h := H.inr h
        replace h := H.done h
        subst h
        exact ret func206 rfl (vs := [.bool false]) (.tmp (by kernel_rfl) .nil) rfl (fun W S => ⟨rfl, S.below⟩)
      replace h := H.f q7 h
      refine c_skip ?_
      refine c_inb ?_
      refine r_start ?_
      refine p 2 ?_
      refine rend ?_
      refine c_set 11 (ci hw6) ?_
      replace h := H.inl h
      exact h () _ _ rfl (by kernel_rfl) (by kernel_rfl)
    · intro x u q4 h
      refine c_seq ?_
      refine r_start ?_
      refine p 1 ?_
      refine rend ?_
      refine c_seq ?_
      refine c_no q4 ?_
      refine cx ?_
      replace h := H.done h
      exact hj1 () _ _ h (by kernel_rfl) (by kernel_rfl)
  intro x u h
  refine c_seq ?_
  refine r_start ?_
  refine p 1 ?_
  refine rend ?_
  replace h := H.done h
  subst h
  exact ret func206 rfl (vs := [.bool true]) (.tmp (by kernel_rfl) .nil) rfl (fun W S => ⟨rfl, S.below⟩)
theorem C.s_shWide {fu : Nat} {a0 : Shape} {r : Bool} (w : World) (h : X.s_shWide fu a0 = some r) : Calls prog 207 #[.agg (eShape a0).toArray] w (Ret w (.bool r)) := by
  refine calls (M := no) (args := [.agg (eShape a0).toArray]) func207 rfl ?_
  replace h : H (X.s_shWide fu a0) (fun o => o = r) := H.mk h
  unfold X.s_shWide at h
  refine c_seq ?_
  refine r_start ?_
  refine xx rfl (x_box (eShape a0) fun g0_0 => ?_)
  refine p 1 ?_
  refine rend ?_
  refine c_seq ?_
  refine r_start ?_
  refine xq rfl (y_load (.agg (eShape a0).toArray) 0 g0_0 0) ?_
  obtain ⟨v1_1, hv1_1, h⟩ := H.call h
  refine xx rfl (e_cr [.agg (eShape a0).toArray] (fun v => v) func193 (fun W S => C.s_shFingers W hv1_1) fun A1_1 k1_1 => ?_)
  refine p 1 ?_
  refine rend ?_
  refine c_seq ?_
  refine c_seq ?_
  refine r_start ?_
  refine p 1 ?_
  refine rend ?_
  refine c_block ?_
  refine joinE (X := Unit) 0 (H.or h) (fun (x : Unit) => x) (fun _ => [box g0_0 36 (eShape a0), rowT (eI .i64) w.heap.size 3 (.slice A1_1 (List.length v1_1) k1_1) v1_1]) (fun _ u => (jk u 0 24 [])) (fun h hj2 => ?_) ?_
  · skip
    refine loopR (X := Int) (fun (x : Int) => x) (fun n1 => [box g0_0 36 (eShape a0), rowT (eI .i64) w.heap.size 3 (.slice A1_1 (List.length v1_1) k1_1) v1_1]) (fun n1 u => (jk u 0 3 (.slice A1_1 (List.length v1_1) k1_1 :: .int .i64 n1 :: (jk u 5 19 [])))) 1 h (by kernel_rfl) (by kernel_rfl) ?_
    intro n1 u h
    refine c_seq ?_
    refine c_seq ?_
    refine r_start ?_
    refine p 2 ?_
    refine rend ?_
    refine c_or (decide (n1 < 4)) (fun q3 => ?_) (fun q3 => ?_)
    · replace h := H.t q3 h
      refine c_skip ?_
      refine c_seq ?_
      refine c_block ?_
      refine c_seq ?_
      refine r_start ?_
      refine p 3 ?_
      obtain ⟨y5_3, hy5_3, h⟩ := H.call h
      refine xq rfl (y_idx (e := (eI .i64)) (el := 3) hy5_3 (s_own 1)) ?_
      refine xq rfl (y_el (e := (eI .i64)) 0 (.int .i64 y5_3) hy5_3 (s_own 1)) ?_
      refine p 2 ?_
      refine br (y5_3 == 0) (fun q4 => ?_) (fun q4 => ?_)
      · replace h := H.t q4 h
        refine o_set 17 (congrArg Value.bool q4) ?_
        refine p 2 ?_
        obtain ⟨y5_9, hy5_9, h⟩ := H.call h
        refine xq rfl (y_idx (e := (eI .i64)) (el := 3) hy5_9 (s_own 1)) ?_
        refine xq rfl (y_el (e := (eI .i64)) 0 (.int .i64 y5_9) hy5_9 (s_own 1)) ?_
        refine p 2 ?_
        refine rend ?_
        refine c_or (y5_9 == 0) (fun q5 => ?_) (fun q5 => ?_)
        · replace h := H.t q5 h
          refine c_seq ?_
          refine r_start ?_
          refine p 1 ?_
          refine rend ?_
          replace h := H.inr h
          replace h := H.done h
          subst h
          exact ret func207 rfl (vs := [.bool true]) (.tmp (by kernel_rfl) .nil) rfl (fun W S => ⟨rfl, S.below⟩)
        replace h := H.f q5 h
        refine c_skip ?_
        refine c_inb ?_
        refine r_start ?_
        refine p 3 ?_
        refine rend ?_
        replace h := H.inl h
        exact h (wr (n1 + 1)) _ _ rfl (by kernel_rfl) (by kernel_rfl)
      replace h := H.f q4 h
      refine o_set 17 (congrArg Value.bool q4) ?_
      refine p 6 ?_
      refine rend ?_
      refine c_f (by kernel_rfl) ?_
      refine c_skip ?_
      refine c_inb ?_
      refine r_start ?_
      refine p 3 ?_
      refine rend ?_
      replace h := H.inl h
      exact h (wr (n1 + 1)) _ _ rfl (by kernel_rfl) (by kernel_rfl)
    replace h := H.f q3 h
    refine cx ?_
    replace h := H.inr h
    exact hj2 () _ _ h (by kernel_rfl) (by kernel_rfl)
  intro x u h
  refine c_seq ?_
  refine r_start ?_
  refine p 1 ?_
  refine rend ?_
  replace h := H.done h
  subst h
  exact ret func207 rfl (vs := [.bool false]) (.tmp (by kernel_rfl) .nil) rfl (fun W S => ⟨rfl, S.below⟩)
theorem C.s_shGood {fu : Nat} {a0 : Shape} {r : Bool} (w : World) (h : X.s_shGood fu a0 = some r) : Calls prog 155 #[.agg (eShape a0).toArray] w (Ret w (.bool r)) := by
  refine calls (M := no) (args := [.agg (eShape a0).toArray]) func155 rfl ?_
  replace h : H (X.s_shGood fu a0) (fun o => o = r) := H.mk h
  unfold X.s_shGood at h
  refine c_seq ?_
  refine r_start ?_
  refine xx rfl (x_box (eShape a0) fun g0_0 => ?_)
  refine p 1 ?_
  refine rend ?_
  refine c_seq ?_
  refine r_start ?_
  refine p 1 ?_
  refine xq rfl (y_load (.int .i64 a0.Thumb) 0 g0_0 0) ?_
  obtain ⟨v1_2, hv1_2, h⟩ := H.call h
  refine xq rfl (y_call [.int .i64 a0.Thumb, .int .i64 0, .int .i64 2] (.bool v1_2) func77 (fun W S => C.s_l1In W hv1_2)) ?_
  refine p 1 ?_
  refine br v1_2 (fun q1 => ?_) (fun q1 => ?_)
  · replace h := H.t q1 h
    refine o_set 6 (congrArg Value.bool q1) ?_
    refine xq rfl (y_load (.agg (eShape a0).toArray) 0 g0_0 0) ?_
    obtain ⟨v1_5, hv1_5, h⟩ := H.call h
    refine xx rfl (e_cr [.agg (eShape a0).toArray] (fun v => v) func193 (fun W S => C.s_shFingers W hv1_5) fun A1_5 k1_5 => ?_)
    obtain ⟨v1_6, hv1_6, h⟩ := H.call h
    refine xq rfl (y_call [.slice A1_5 (List.length v1_5) k1_5, .int .i64 0, .int .i64 2] (.bool v1_6) func206 (fun W S => C.s_l1All W hv1_6 ((s_own 1).out W S))) ?_
    refine p 2 ?_
    refine br v1_6 (fun q2 => ?_) (fun q2 => ?_)
    · replace h := H.t q2 h
      refine o_set 11 (congrArg Value.bool q2) ?_
      refine p 1 ?_
      refine xq rfl (y_load (.bool a0.Spread) 0 g0_0 5) ?_
      refine p 2 ?_
      refine br (!a0.Spread) (fun q3 => ?_) (fun q3 => ?_)
      · replace h := H.t q3 h
        refine o_set 15 (congrArg Value.bool q3) ?_
        refine p 5 ?_
        refine rend ?_
        replace h := H.done h
        subst h
        exact ret func155 rfl (vs := [.bool true]) (.tmp (by kernel_rfl) .nil) rfl (fun W S => ⟨rfl, S.below⟩)
      replace h := H.f q3 h
      refine o_set 15 (congrArg Value.bool q3) ?_
      refine xq rfl (y_load (.agg (eShape a0).toArray) 0 g0_0 0) ?_
      obtain ⟨v1_14, hv1_14, h⟩ := H.call h
      refine xq rfl (y_call [.agg (eShape a0).toArray] (.bool v1_14) func207 (fun W S => C.s_shWide W hv1_14)) ?_
      refine p 3 ?_
      refine rend ?_
      replace h := H.done h
      subst h
      exact ret func155 rfl (vs := [.bool v1_14]) (.tmp (by kernel_rfl) .nil) rfl (fun W S => ⟨rfl, S.below⟩)
    replace h := H.f q2 h
    refine o_set 11 (congrArg Value.bool q2) ?_
    refine p 9 ?_
    refine rend ?_
    replace h := H.done h
    subst h
    exact ret func155 rfl (vs := [.bool false]) (.tmp (by kernel_rfl) .nil) rfl (fun W S => ⟨rfl, S.below⟩)
  replace h := H.f q1 h
  refine o_set 6 (congrArg Value.bool q1) ?_
  refine p 14 ?_
  refine rend ?_
  replace h := H.done h
  subst h
  exact ret func155 rfl (vs := [.bool false]) (.tmp (by kernel_rfl) .nil) rfl (fun W S => ⟨rfl, S.below⟩)
theorem C.s_shParse {fu : Nat} {a0 : Str} {r : (Shape × Bool)} (w : World) (h : X.s_shParse fu a0 = some r) : Calls prog 105 #[.string (bs a0)] w (Ret w (.tuple #[.agg (eShape r.1).toArray, .bool r.2])) := by
  refine calls (M := no) (args := [.string (bs a0)]) func105 rfl ?_
  replace h : H (X.s_shParse fu a0) (fun o => o = r) := H.mk h
  unfold X.s_shParse at h
  refine c_seq ?_
  refine r_start ?_
  refine xx rfl (x_new (eShape zShape) fun g0_0 => ?_)
  refine p 1 ?_
  refine rend ?_
  refine c_seq ?_
  refine c_seq ?_
  refine r_start ?_
  refine p 2 ?_
  obtain ⟨v1_2, hv1_2, h⟩ := H.call h
  refine xq rfl (y_call [.int .i64 (List.length a0 : Int), .int .i64 5, .int .i64 6] (.bool v1_2) func77 (fun W S => C.s_l1In W hv1_2)) ?_
  refine p 2 ?_
  refine br (!v1_2) (fun q1 => ?_) (fun q1 => ?_)
  · replace h := H.t q1 h
    refine o_set 11 (congrArg Value.bool q1) ?_
    refine p 9 ?_
    refine rend ?_
    refine c_t (by kernel_rfl) ?_
    refine c_seq ?_
    refine r_start ?_
    refine p 1 ?_
    refine xx rfl (x_sto 0 g0_0 0 (eShape zShape) ?_)
    refine p 1 ?_
    refine rend ?_
    replace h := H.done h
    subst h
    exact ret func105 rfl (vs := [.agg (eShape zShape).toArray, .bool false]) (.cell 0 g0_0 rfl (by kernel_rfl) (by kernel_rfl) (.tmp (by kernel_rfl) .nil)) rfl (fun W S => ⟨rfl, S.below⟩)
  replace h := H.f q1 h
  refine o_set 11 (congrArg Value.bool q1) ?_
  refine p 4 ?_
  refine br ((List.length a0 : Int) == 6) (fun q2 => ?_) (fun q2 => ?_)
  · replace h := H.t q2 h
    refine o_set 15 (congrArg Value.bool q2) ?_
    refine p 1 ?_
    obtain ⟨y1_10, hy1_10, h⟩ := H.call h
    refine xq rfl (y_byte hy1_10) ?_
    refine p 3 ?_
    refine rend ?_
    refine c_or (y1_10 != 115) (fun q3 => ?_) (fun q3 => ?_)
    · replace h := H.t q3 h
      refine c_seq ?_
      refine r_start ?_
      refine p 1 ?_
      refine xx rfl (x_sto 0 g0_0 0 (eShape zShape) ?_)
      refine p 1 ?_
      refine rend ?_
      replace h := H.done h
      subst h
      exact ret func105 rfl (vs := [.agg (eShape zShape).toArray, .bool false]) (.cell 0 g0_0 rfl (by kernel_rfl) (by kernel_rfl) (.tmp (by kernel_rfl) .nil)) rfl (fun W S => ⟨rfl, S.below⟩)
    replace h := H.f q3 h
    refine c_skip ?_
    refine c_seq ?_
    refine r_start ?_
    refine p 1 ?_
    refine rend ?_
    refine c_seq ?_
    refine c_seq ?_
    refine r_start ?_
    refine p 1 ?_
    refine rend ?_
    refine c_block ?_
    refine c_nil (eI .i64) 3 ?_
    refine joinH (X := ((List Int) × Option Addr × Nat)) 0 (H.bnd h) (fun ⟨l8, A9, k10⟩ => l8) (fun ⟨l8, A9, k10⟩ => [box g0_0 36 (eShape zShape), rowT (eI .i64) w.heap.size 3 (.slice A9 (List.length l8) k10) l8]) (fun ⟨l8, A9, k10⟩ u => (.string (bs a0) :: (jk u 1 1 (.pointer (some ⟨g0_0, 0, none⟩) :: (jk u 3 1 (.slice A9 (List.length l8) k10 :: (jk u 5 53 []))))))) (fun h hj11 => ?_) ?_
    · skip
      refine loopR (X := (Int × (List Int) × Option Addr × Nat)) (fun ⟨n4, l5, A6, k7⟩ => (n4, l5)) (fun ⟨n4, l5, A6, k7⟩ => [box g0_0 36 (eShape zShape), rowT (eI .i64) w.heap.size 3 (.slice A6 (List.length l5) k7) l5]) (fun ⟨n4, l5, A6, k7⟩ u => (.string (bs a0) :: (jk u 1 1 (.pointer (some ⟨g0_0, 0, none⟩) :: (jk u 3 1 (.slice A6 (List.length l5) k7 :: .int .i64 n4 :: (jk u 6 52 []))))))) (0, ([] : List Int), none, 0) h (by kernel_rfl) (by kernel_rfl) ?_
      intro x u h
      obtain ⟨n4, l5, A6, k7⟩ := x
      refine c_seq ?_
      refine c_seq ?_
      refine r_start ?_
      refine p 2 ?_
      refine rend ?_
      refine c_or (decide (n4 < 5)) (fun q12 => ?_) (fun q12 => ?_)
      · replace h := H.t q12 h
        refine c_skip ?_
        refine c_seq ?_
        refine c_block ?_
        refine r_start ?_
        refine p 3 ?_
        obtain ⟨y7_3, hy7_3, h⟩ := H.call h
        refine xq rfl (y_byte hy7_3) ?_
        refine p 2 ?_
        refine xx rfl (e_lit (e := (eI .i64)) (el := 3) [.int .i64 (wr ((wr y7_3) - 48))] ([(wr ((wr y7_3) - 48))] : List Int) fun A7_6 k7_6 => ?_)
        obtain ⟨y7_7, hy7_7, h⟩ := H.call h
        refine xx rfl (e_app 1 hy7_7 (s_own 2) fun A7_7 k7_7 => ?_)
        refine p 1 ?_
        refine rend ?_
        refine c_inb ?_
        refine r_start ?_
        refine p 3 ?_
        refine rend ?_
        replace h := H.inl h
        exact h ((wr (n4 + 1)), y7_7, A7_7, k7_7) _ _ rfl (by kernel_rfl) (by kernel_rfl)
      replace h := H.f q12 h
      refine cx ?_
      replace h := H.inr h
      exact hj11 (l5, A6, k7) _ _ h (by kernel_rfl) (by kernel_rfl)
    intro x u h
    obtain ⟨l8, A9, k10⟩ := x
    refine c_seq ?_
    refine as_start 21 21 ?_
    refine ap 0 1 ?_
    obtain ⟨y8_1, hy8_1, h⟩ := H.call h
    refine aq 1 rfl (y_idx (e := (eI .i64)) (el := 3) hy8_1 (s_own 1)) ?_
    refine aq 2 rfl (y_el (e := (eI .i64)) 0 (.int .i64 y8_1) hy8_1 (s_own 1)) ?_
    refine ap 3 1 ?_
    obtain ⟨y8_4, hy8_4, h⟩ := H.call h
    refine aq 4 rfl (y_idx (e := (eI .i64)) (el := 3) hy8_4 (s_own 1)) ?_
    refine aq 5 rfl (y_el (e := (eI .i64)) 0 (.int .i64 y8_4) hy8_4 (s_own 1)) ?_
    refine ap 6 1 ?_
    obtain ⟨y8_7, hy8_7, h⟩ := H.call h
    refine aq 7 rfl (y_idx (e := (eI .i64)) (el := 3) hy8_7 (s_own 1)) ?_
    refine aq 8 rfl (y_el (e := (eI .i64)) 0 (.int .i64 y8_7) hy8_7 (s_own 1)) ?_
    refine ap 9 1 ?_
    obtain ⟨y8_10, hy8_10, h⟩ := H.call h
    refine aq 10 rfl (y_idx (e := (eI .i64)) (el := 3) hy8_10 (s_own 1)) ?_
    refine aq 11 rfl (y_el (e := (eI .i64)) 0 (.int .i64 y8_10) hy8_10 (s_own 1)) ?_
    refine ap 12 1 ?_
    obtain ⟨y8_13, hy8_13, h⟩ := H.call h
    refine aq 13 rfl (y_idx (e := (eI .i64)) (el := 3) hy8_13 (s_own 1)) ?_
    refine aq 14 rfl (y_el (e := (eI .i64)) 0 (.int .i64 y8_13) hy8_13 (s_own 1)) ?_
    refine ap 15 4 ?_
    refine ax 19 rfl (x_new (eShape zShape) fun g8_19 => ⟨.inr (by kernel_rfl), ?_⟩)
    refine ax 20 rfl (x_sto 2 g8_19 0 (eShape (⟨y8_1, y8_4, y8_7, y8_10, y8_13, ((List.length a0 : Int) == 6)⟩ : Shape)) ⟨.inr (by kernel_rfl), ?_⟩)
    refine a_done ?_
    refine c_seq ?_
    refine c_seq ?_
    refine r_start ?_
    refine xq rfl (y_load (.agg (eShape (⟨y8_1, y8_4, y8_7, y8_10, y8_13, ((List.length a0 : Int) == 6)⟩ : Shape)).toArray) 2 g8_19 0) ?_
    obtain ⟨v9_1, hv9_1, h⟩ := H.call h
    refine xq rfl (y_call [.agg (eShape (⟨y8_1, y8_4, y8_7, y8_10, y8_13, ((List.length a0 : Int) == 6)⟩ : Shape)).toArray] (.bool v9_1) func155 (fun W S => C.s_shGood W hv9_1)) ?_
    refine p 1 ?_
    refine rend ?_
    refine c_or (!v9_1) (fun q13 => ?_) (fun q13 => ?_)
    · replace h := H.t q13 h
      refine c_seq ?_
      refine r_start ?_
      refine p 1 ?_
      refine xx rfl (x_sto 0 g0_0 0 (eShape zShape) ?_)
      refine p 1 ?_
      refine rend ?_
      replace h := H.done h
      subst h
      exact ret func105 rfl (vs := [.agg (eShape zShape).toArray, .bool false]) (.cell 0 g0_0 rfl (by kernel_rfl) (by kernel_rfl) (.tmp (by kernel_rfl) .nil)) rfl (fun W S => ⟨rfl, S.below⟩)
    replace h := H.f q13 h
    refine c_skip ?_
    refine c_seq ?_
    refine r_start ?_
    refine xq rfl (y_load (.agg (eShape (⟨y8_1, y8_4, y8_7, y8_10, y8_13, ((List.length a0 : Int) == 6)⟩ : Shape)).toArray) 2 g8_19 0) ?_
    refine xx rfl (x_sto 0 g0_0 0 (eShape (⟨y8_1, y8_4, y8_7, y8_10, y8_13, ((List.length a0 : Int) == 6)⟩ : Shape)) ?_)
    refine p 1 ?_
    refine rend ?_
    replace h := H.done h
    subst h
    exact ret func105 rfl (vs := [.agg (eShape (⟨y8_1, y8_4, y8_7, y8_10, y8_13, ((List.length a0 : Int) == 6)⟩ : Shape)).toArray, .bool true]) (.cell 0 g0_0 rfl (by kernel_rfl) (by kernel_rfl) (.tmp (by kernel_rfl) .nil)) rfl (fun W S => ⟨rfl, S.below⟩)
  replace h := H.f q2 h
  refine o_set 15 (congrArg Value.bool q2) ?_
  refine p 5 ?_
  refine rend ?_
  refine c_f (by kernel_rfl) ?_
  refine c_skip ?_
  refine c_seq ?_
  refine r_start ?_
  refine p 1 ?_
  refine rend ?_
  refine c_seq ?_
  refine c_seq ?_
  refine r_start ?_
  refine p 1 ?_
  refine rend ?_
  refine c_block ?_
  refine c_nil (eI .i64) 3 ?_
  refine joinH (X := ((List Int) × Option Addr × Nat)) 0 (H.bnd h) (fun ⟨l18, A19, k20⟩ => l18) (fun ⟨l18, A19, k20⟩ => [box g0_0 36 (eShape zShape), rowT (eI .i64) w.heap.size 3 (.slice A19 (List.length l18) k20) l18]) (fun ⟨l18, A19, k20⟩ u => (.string (bs a0) :: (jk u 1 1 (.pointer (some ⟨g0_0, 0, none⟩) :: (jk u 3 1 (.slice A19 (List.length l18) k20 :: (jk u 5 53 []))))))) (fun h hj21 => ?_) ?_
  · skip
    refine loopR (X := (Int × (List Int) × Option Addr × Nat)) (fun ⟨n14, l15, A16, k17⟩ => (n14, l15)) (fun ⟨n14, l15, A16, k17⟩ => [box g0_0 36 (eShape zShape), rowT (eI .i64) w.heap.size 3 (.slice A16 (List.length l15) k17) l15]) (fun ⟨n14, l15, A16, k17⟩ u => (.string (bs a0) :: (jk u 1 1 (.pointer (some ⟨g0_0, 0, none⟩) :: (jk u 3 1 (.slice A16 (List.length l15) k17 :: .int .i64 n14 :: (jk u 6 52 []))))))) (0, ([] : List Int), none, 0) h (by kernel_rfl) (by kernel_rfl) ?_
    intro x u h
    obtain ⟨n14, l15, A16, k17⟩ := x
    refine c_seq ?_
    refine c_seq ?_
    refine r_start ?_
    refine p 2 ?_
    refine rend ?_
    refine c_or (decide (n14 < 5)) (fun q22 => ?_) (fun q22 => ?_)
    · replace h := H.t q22 h
      refine c_skip ?_
      refine c_seq ?_
      refine c_block ?_
      refine r_start ?_
      refine p 3 ?_
      obtain ⟨y7_3, hy7_3, h⟩ := H.call h
      refine xq rfl (y_byte hy7_3) ?_
      refine p 2 ?_
      refine xx rfl (e_lit (e := (eI .i64)) (el := 3) [.int .i64 (wr ((wr y7_3) - 48))] ([(wr ((wr y7_3) - 48))] : List Int) fun A7_6 k7_6 => ?_)
      obtain ⟨y7_7, hy7_7, h⟩ := H.call h
      refine xx rfl (e_app 1 hy7_7 (s_own 2) fun A7_7 k7_7 => ?_)
      refine p 1 ?_
      refine rend ?_
      refine c_inb ?_
      refine r_start ?_
      refine p 3 ?_
      refine rend ?_
      replace h := H.inl h
      exact h ((wr (n14 + 1)), y7_7, A7_7, k7_7) _ _ rfl (by kernel_rfl) (by kernel_rfl)
    replace h := H.f q22 h
    refine cx ?_
    replace h := H.inr h
    exact hj21 (l15, A16, k17) _ _ h (by kernel_rfl) (by kernel_rfl)
  intro x u h
  obtain ⟨l18, A19, k20⟩ := x
  refine c_seq ?_
  refine as_start 21 21 ?_
  refine ap 0 1 ?_
  obtain ⟨y8_1, hy8_1, h⟩ := H.call h
  refine aq 1 rfl (y_idx (e := (eI .i64)) (el := 3) hy8_1 (s_own 1)) ?_
  refine aq 2 rfl (y_el (e := (eI .i64)) 0 (.int .i64 y8_1) hy8_1 (s_own 1)) ?_
  refine ap 3 1 ?_
  obtain ⟨y8_4, hy8_4, h⟩ := H.call h
  refine aq 4 rfl (y_idx (e := (eI .i64)) (el := 3) hy8_4 (s_own 1)) ?_
  refine aq 5 rfl (y_el (e := (eI .i64)) 0 (.int .i64 y8_4) hy8_4 (s_own 1)) ?_
  refine ap 6 1 ?_
  obtain ⟨y8_7, hy8_7, h⟩ := H.call h
  refine aq 7 rfl (y_idx (e := (eI .i64)) (el := 3) hy8_7 (s_own 1)) ?_
  refine aq 8 rfl (y_el (e := (eI .i64)) 0 (.int .i64 y8_7) hy8_7 (s_own 1)) ?_
  refine ap 9 1 ?_
  obtain ⟨y8_10, hy8_10, h⟩ := H.call h
  refine aq 10 rfl (y_idx (e := (eI .i64)) (el := 3) hy8_10 (s_own 1)) ?_
  refine aq 11 rfl (y_el (e := (eI .i64)) 0 (.int .i64 y8_10) hy8_10 (s_own 1)) ?_
  refine ap 12 1 ?_
  obtain ⟨y8_13, hy8_13, h⟩ := H.call h
  refine aq 13 rfl (y_idx (e := (eI .i64)) (el := 3) hy8_13 (s_own 1)) ?_
  refine aq 14 rfl (y_el (e := (eI .i64)) 0 (.int .i64 y8_13) hy8_13 (s_own 1)) ?_
  refine ap 15 4 ?_
  refine ax 19 rfl (x_new (eShape zShape) fun g8_19 => ⟨.inr (by kernel_rfl), ?_⟩)
  refine ax 20 rfl (x_sto 2 g8_19 0 (eShape (⟨y8_1, y8_4, y8_7, y8_10, y8_13, ((List.length a0 : Int) == 6)⟩ : Shape)) ⟨.inr (by kernel_rfl), ?_⟩)
  refine a_done ?_
  refine c_seq ?_
  refine c_seq ?_
  refine r_start ?_
  refine xq rfl (y_load (.agg (eShape (⟨y8_1, y8_4, y8_7, y8_10, y8_13, ((List.length a0 : Int) == 6)⟩ : Shape)).toArray) 2 g8_19 0) ?_
  obtain ⟨v9_1, hv9_1, h⟩ := H.call h
  refine xq rfl (y_call [.agg (eShape (⟨y8_1, y8_4, y8_7, y8_10, y8_13, ((List.length a0 : Int) == 6)⟩ : Shape)).toArray] (.bool v9_1) func155 (fun W S => C.s_shGood W hv9_1)) ?_
  refine p 1 ?_
  refine rend ?_
  refine c_or (!v9_1) (fun q23 => ?_) (fun q23 => ?_)
  · replace h := H.t q23 h
    refine c_seq ?_
    refine r_start ?_
    refine p 1 ?_
    refine xx rfl (x_sto 0 g0_0 0 (eShape zShape) ?_)
    refine p 1 ?_
    refine rend ?_
    replace h := H.done h
    subst h
    exact ret func105 rfl (vs := [.agg (eShape zShape).toArray, .bool false]) (.cell 0 g0_0 rfl (by kernel_rfl) (by kernel_rfl) (.tmp (by kernel_rfl) .nil)) rfl (fun W S => ⟨rfl, S.below⟩)
  replace h := H.f q23 h
  refine c_skip ?_
  refine c_seq ?_
  refine r_start ?_
  refine xq rfl (y_load (.agg (eShape (⟨y8_1, y8_4, y8_7, y8_10, y8_13, ((List.length a0 : Int) == 6)⟩ : Shape)).toArray) 2 g8_19 0) ?_
  refine xx rfl (x_sto 0 g0_0 0 (eShape (⟨y8_1, y8_4, y8_7, y8_10, y8_13, ((List.length a0 : Int) == 6)⟩ : Shape)) ?_)
  refine p 1 ?_
  refine rend ?_
  replace h := H.done h
  subst h
  exact ret func105 rfl (vs := [.agg (eShape (⟨y8_1, y8_4, y8_7, y8_10, y8_13, ((List.length a0 : Int) == 6)⟩ : Shape)).toArray, .bool true]) (.cell 0 g0_0 rfl (by kernel_rfl) (by kernel_rfl) (.tmp (by kernel_rfl) .nil)) rfl (fun W S => ⟨rfl, S.below⟩)
theorem C.s_orDir {a0 : Int} {r : Bool} (w : World) (h : X.s_orDir a0 = some r) : Calls prog 208 #[.int .i64 a0] w (Ret w (.bool r)) := by
  refine calls (M := no) (args := [.int .i64 a0]) func208 rfl ?_
  replace h : H (X.s_orDir a0) (fun o => o = r) := H.mk h
  unfold X.s_orDir at h
  refine c_seq ?_
  refine r_start ?_
  refine p 1 ?_
  refine rend ?_
  refine c_seq ?_
  refine r_start ?_
  refine p 1 ?_
  obtain ⟨v1_1, hv1_1, h⟩ := H.call h
  refine xq rfl (y_call [.int .i64 a0, .int .i64 0, .int .i64 5] (.bool v1_1) func77 (fun W S => C.s_l1In W hv1_1)) ?_
  refine p 1 ?_
  refine rend ?_
  replace h := H.done h
  subst h
  exact ret func208 rfl (vs := [.bool v1_1]) (.tmp (by kernel_rfl) .nil) rfl (fun W S => ⟨rfl, S.below⟩)
theorem C.s_orOpposite {a0 : Int} {r : Int} (w : World) (h : X.s_orOpposite a0 = some r) : Calls prog 209 #[.int .i64 a0] w (Ret w (.int .i64 r)) := by
  refine calls (M := no) (args := [.int .i64 a0]) func209 rfl ?_
  replace h : H (X.s_orOpposite a0) (fun o => o = r) := H.mk h
  unfold X.s_orOpposite at h
  refine c_seq ?_
  refine r_start ?_
  refine p 1 ?_
  refine rend ?_
  refine c_seq ?_
  refine c_seq ?_
  refine r_start ?_
  refine p 3 ?_
  refine rend ?_
  refine c_or ((Int.tmod a0 2) == 0) (fun q1 => ?_) (fun q1 => ?_)
  · replace h := H.t q1 h
    refine c_seq ?_
    refine r_start ?_
    refine p 3 ?_
    refine rend ?_
    replace h := H.done h
    subst h
    exact ret func209 rfl (vs := [.int .i64 (wr (a0 + 1))]) (.tmp (by kernel_rfl) .nil) rfl (fun W S => ⟨rfl, S.below⟩)
  replace h := H.f q1 h
  refine c_skip ?_
  refine c_seq ?_
  refine r_start ?_
  refine p 3 ?_
  refine rend ?_
  replace h := H.done h
  subst h
  exact ret func209 rfl (vs := [.int .i64 (wr (a0 - 1))]) (.tmp (by kernel_rfl) .nil) rfl (fun W S => ⟨rfl, S.below⟩)
theorem C.s_orGood {a0 : Orient} {r : Bool} (w : World) (h : X.s_orGood a0 = some r) : Calls prog 156 #[.agg (eOrient a0).toArray] w (Ret w (.bool r)) := by
  refine calls (M := no) (args := [.agg (eOrient a0).toArray]) func156 rfl ?_
  replace h : H (X.s_orGood a0) (fun o => o = r) := H.mk h
  unfold X.s_orGood at h
  refine c_seq ?_
  refine r_start ?_
  refine xx rfl (x_box (eOrient a0) fun g0_0 => ?_)
  refine p 1 ?_
  refine rend ?_
  refine c_seq ?_
  refine as_start 24 24 ?_
  refine ap 0 1 ?_
  refine aq 1 rfl (y_load (.int .i64 a0.Palm) 0 g0_0 0) ?_
  obtain ⟨v1_2, hv1_2, h⟩ := H.call h
  refine aq 2 rfl (y_call [.int .i64 a0.Palm] (.bool v1_2) func208 (fun W S => C.s_orDir W hv1_2)) ?_
  refine ap 3 1 ?_
  refine br v1_2 (fun q1 => ?_) (fun q1 => ?_)
  · replace h := H.t q1 h
    refine a_set 6 (congrArg Value.bool q1) ?_
    refine ap 4 1 ?_
    refine aq 5 rfl (y_load (.int .i64 a0.Fingers) 0 g0_0 1) ?_
    obtain ⟨v1_6, hv1_6, h⟩ := H.call h
    refine aq 6 rfl (y_call [.int .i64 a0.Fingers] (.bool v1_6) func208 (fun W S => C.s_orDir W hv1_6)) ?_
    refine ap 7 2 ?_
    refine br v1_6 (fun q2 => ?_) (fun q2 => ?_)
    · replace h := H.t q2 h
      refine a_set 11 (congrArg Value.bool q2) ?_
      refine ap 9 1 ?_
      refine aq 10 rfl (y_load (.int .i64 a0.Palm) 0 g0_0 0) ?_
      refine ap 11 1 ?_
      refine aq 12 rfl (y_load (.int .i64 a0.Fingers) 0 g0_0 1) ?_
      refine ap 13 3 ?_
      refine br (a0.Palm != a0.Fingers) (fun q3 => ?_) (fun q3 => ?_)
      · replace h := H.t q3 h
        refine a_set 18 (congrArg Value.bool q3) ?_
        refine ap 16 1 ?_
        refine aq 17 rfl (y_load (.int .i64 a0.Palm) 0 g0_0 0) ?_
        refine ap 18 1 ?_
        refine aq 19 rfl (y_load (.int .i64 a0.Fingers) 0 g0_0 1) ?_
        obtain ⟨v1_20, hv1_20, h⟩ := H.call h
        refine aq 20 rfl (y_call [.int .i64 a0.Fingers] (.int .i64 v1_20) func209 (fun W S => C.s_orOpposite W hv1_20)) ?_
        refine ap 21 3 ?_
        refine a_done ?_
        replace h := H.done h
        subst h
        exact ret func156 rfl (vs := [.bool (a0.Palm != v1_20)]) (.tmp (by kernel_rfl) .nil) rfl (fun W S => ⟨rfl, S.below⟩)
      replace h := H.f q3 h
      refine a_set 18 (congrArg Value.bool q3) ?_
      refine ap 16 8 ?_
      refine a_done ?_
      replace h := H.done h
      subst h
      exact ret func156 rfl (vs := [.bool false]) (.tmp (by kernel_rfl) .nil) rfl (fun W S => ⟨rfl, S.below⟩)
    replace h := H.f q2 h
    refine a_set 11 (congrArg Value.bool q2) ?_
    refine ap 9 15 ?_
    refine a_done ?_
    replace h := H.done h
    subst h
    exact ret func156 rfl (vs := [.bool false]) (.tmp (by kernel_rfl) .nil) rfl (fun W S => ⟨rfl, S.below⟩)
  replace h := H.f q1 h
  refine a_set 6 (congrArg Value.bool q1) ?_
  refine ap 4 20 ?_
  refine a_done ?_
  replace h := H.done h
  subst h
  exact ret func156 rfl (vs := [.bool false]) (.tmp (by kernel_rfl) .nil) rfl (fun W S => ⟨rfl, S.below⟩)
theorem C.s_orLetter {fu : Nat} {a0 : Int} {r : Int} (w : World) (h : X.s_orLetter fu a0 = some r) : Calls prog 168 #[.int .u8 a0] w (Ret w (.int .i64 r)) := by
  refine calls (M := no) (args := [.int .u8 a0]) func168 rfl ?_
  replace h : H (X.s_orLetter fu a0) (fun o => o = r) := H.mk h
  unfold X.s_orLetter at h
  refine c_seq ?_
  refine r_start ?_
  refine p 1 ?_
  refine rend ?_
  refine c_seq ?_
  refine c_seq ?_
  refine r_start ?_
  refine p 1 ?_
  refine rend ?_
  refine c_block ?_
  refine joinE (X := Unit) 0 (H.or h) (fun (x : Unit) => x) (fun _ => []) (fun _ u => (jk u 0 13 [])) (fun h hj2 => ?_) ?_
  · skip
    refine loopR (X := Int) (fun (x : Int) => x) (fun n1 => []) (fun n1 u => (.int .u8 a0 :: (jk u 1 2 (.int .i64 n1 :: (jk u 4 9 []))))) 0 h (by kernel_rfl) (by kernel_rfl) ?_
    intro n1 u h
    refine c_seq ?_
    refine c_seq ?_
    refine r_start ?_
    refine p 2 ?_
    refine rend ?_
    refine c_or (decide (n1 < 6)) (fun q3 => ?_) (fun q3 => ?_)
    · replace h := H.t q3 h
      refine c_skip ?_
      refine c_seq ?_
      refine c_block ?_
      refine c_seq ?_
      refine r_start ?_
      refine p 1 ?_
      obtain ⟨y4_1, hy4_1, h⟩ := H.call h
      refine xq rfl (y_byte hy4_1) ?_
      refine p 2 ?_
      refine rend ?_
      refine c_or (y4_1 == a0) (fun q4 => ?_) (fun q4 => ?_)
      · replace h := H.t q4 h
        refine c_seq ?_
        refine r_start ?_
        refine p 2 ?_
        refine rend ?_
        replace h := H.inr h
        replace h := H.done h
        subst h
        exact ret func168 rfl (vs := [.int .i64 n1]) (.tmp (by kernel_rfl) .nil) rfl (fun W S => ⟨rfl, S.below⟩)
      replace h := H.f q4 h
      refine c_skip ?_
      refine c_inb ?_
      refine r_start ?_
      refine p 3 ?_
      refine rend ?_
      replace h := H.inl h
      exact h (wr (n1 + 1)) _ _ rfl (by kernel_rfl) (by kernel_rfl)
    replace h := H.f q3 h
    refine cx ?_
    replace h := H.inr h
    exact hj2 () _ _ h (by kernel_rfl) (by kernel_rfl)
  intro x u h
  refine c_seq ?_
  refine r_start ?_
  refine p 1 ?_
  refine rend ?_
  replace h := H.done h
  subst h
  exact ret func168 rfl (vs := [.int .i64 (-1)]) (.tmp (by kernel_rfl) .nil) rfl (fun W S => ⟨rfl, S.below⟩)
theorem C.s_orParse {fu : Nat} {a0 : Str} {r : (Orient × Bool)} (w : World) (h : X.s_orParse fu a0 = some r) : Calls prog 106 #[.string (bs a0)] w (Ret w (.tuple #[.agg (eOrient r.1).toArray, .bool r.2])) := by
  refine calls (M := no) (args := [.string (bs a0)]) func106 rfl ?_
  replace h : H (X.s_orParse fu a0) (fun o => o = r) := H.mk h
  unfold X.s_orParse at h
  refine c_seq ?_
  refine r_start ?_
  refine xx rfl (x_new (eOrient zOrient) fun g0_0 => ?_)
  refine p 1 ?_
  refine rend ?_
  refine c_seq ?_
  refine c_seq ?_
  refine r_start ?_
  refine p 3 ?_
  refine rend ?_
  refine c_or ((List.length a0 : Int) != 2) (fun q1 => ?_) (fun q1 => ?_)
  · replace h := H.t q1 h
    refine c_seq ?_
    refine r_start ?_
    refine p 1 ?_
    refine xx rfl (x_sto 0 g0_0 0 (eOrient zOrient) ?_)
    refine p 1 ?_
    refine rend ?_
    replace h := H.done h
    subst h
    exact ret func106 rfl (vs := [.agg (eOrient zOrient).toArray, .bool false]) (.cell 0 g0_0 rfl (by kernel_rfl) (by kernel_rfl) (.tmp (by kernel_rfl) .nil)) rfl (fun W S => ⟨rfl, S.below⟩)
  replace h := H.f q1 h
  refine c_skip ?_
  refine c_seq ?_
  refine as_start 9 9 ?_
  refine ap 0 1 ?_
  obtain ⟨y3_1, hy3_1, h⟩ := H.call h
  refine aq 1 rfl (y_byte hy3_1) ?_
  obtain ⟨v3_2, hv3_2, h⟩ := H.call h
  refine aq 2 rfl (y_call [.int .u8 y3_1] (.int .i64 v3_2) func168 (fun W S => C.s_orLetter W hv3_2)) ?_
  refine ap 3 1 ?_
  obtain ⟨y3_4, hy3_4, h⟩ := H.call h
  refine aq 4 rfl (y_byte hy3_4) ?_
  obtain ⟨v3_5, hv3_5, h⟩ := H.call h
  refine aq 5 rfl (y_call [.int .u8 y3_4] (.int .i64 v3_5) func168 (fun W S => C.s_orLetter W hv3_5)) ?_
  refine ap 6 1 ?_
  refine ax 7 rfl (x_new (eOrient zOrient) fun g3_7 => ⟨.inr (by kernel_rfl), ?_⟩)
  refine ax 8 rfl (x_sto 1 g3_7 0 (eOrient (⟨v3_2, v3_5⟩ : Orient)) ⟨.inr (by kernel_rfl), ?_⟩)
  refine a_done ?_
  refine c_seq ?_
  refine c_seq ?_
  refine r_start ?_
  refine xq rfl (y_load (.agg (eOrient (⟨v3_2, v3_5⟩ : Orient)).toArray) 1 g3_7 0) ?_
  obtain ⟨v4_1, hv4_1, h⟩ := H.call h
  refine xq rfl (y_call [.agg (eOrient (⟨v3_2, v3_5⟩ : Orient)).toArray] (.bool v4_1) func156 (fun W S => C.s_orGood W hv4_1)) ?_
  refine p 1 ?_
  refine rend ?_
  refine c_or (!v4_1) (fun q2 => ?_) (fun q2 => ?_)
  · replace h := H.t q2 h
    refine c_seq ?_
    refine r_start ?_
    refine p 1 ?_
    refine xx rfl (x_sto 0 g0_0 0 (eOrient zOrient) ?_)
    refine p 1 ?_
    refine rend ?_
    replace h := H.done h
    subst h
    exact ret func106 rfl (vs := [.agg (eOrient zOrient).toArray, .bool false]) (.cell 0 g0_0 rfl (by kernel_rfl) (by kernel_rfl) (.tmp (by kernel_rfl) .nil)) rfl (fun W S => ⟨rfl, S.below⟩)
  replace h := H.f q2 h
  refine c_skip ?_
  refine c_seq ?_
  refine r_start ?_
  refine xq rfl (y_load (.agg (eOrient (⟨v3_2, v3_5⟩ : Orient)).toArray) 1 g3_7 0) ?_
  refine xx rfl (x_sto 0 g0_0 0 (eOrient (⟨v3_2, v3_5⟩ : Orient)) ?_)
  refine p 1 ?_
  refine rend ?_
  replace h := H.done h
  subst h
  exact ret func106 rfl (vs := [.agg (eOrient (⟨v3_2, v3_5⟩ : Orient)).toArray, .bool true]) (.cell 0 g0_0 rfl (by kernel_rfl) (by kernel_rfl) (.tmp (by kernel_rfl) .nil)) rfl (fun W S => ⟨rfl, S.below⟩)
theorem C.s_plNames {r : (List Str)} (w : World) (h : X.s_plNames = some r) : Calls prog 194 #[] w (RetR eS 9 w r (fun v => v)) := by
  refine calls (M := no) (args := []) func194 rfl ?_
  replace h : H (X.s_plNames) (fun o => o = r) := H.mk h
  unfold X.s_plNames at h
  refine c_seq ?_
  refine r_start ?_
  refine p 1 ?_
  refine rend ?_
  refine c_seq ?_
  refine r_start ?_
  refine xx rfl (e_lit (e := eS) (el := 9) [.string (bs ([115, 112, 97, 99, 101] : Str)), .string (bs ([104, 101, 97, 100] : Str)), .string (bs ([101, 121, 101] : Str)), .string (bs ([99, 104, 101, 101, 107] : Str)), .string (bs ([109, 111, 117, 116, 104] : Str)), .string (bs ([99, 104, 105, 110] : Str)), .string (bs ([110, 101, 99, 107] : Str)), .string (bs ([99, 104, 101, 115, 116] : Str)), .string (bs ([119, 97, 105, 115, 116] : Str)), .string (bs ([104, 105, 112] : Str))] ([([115, 112, 97, 99, 101] : Str), ([104, 101, 97, 100] : Str), ([101, 121, 101] : Str), ([99, 104, 101, 101, 107] : Str), ([109, 111, 117, 116, 104] : Str), ([99, 104, 105, 110] : Str), ([110, 101, 99, 107] : Str), ([99, 104, 101, 115, 116] : Str), ([119, 97, 105, 115, 116] : Str), ([104, 105, 112] : Str)] : List Str) fun A1_0 k1_0 => ?_)
  refine p 1 ?_
  refine rend ?_
  replace h := H.done h
  subst h
  exact ret func194 rfl (vs := [.slice A1_0 (List.length ([([115, 112, 97, 99, 101] : Str), ([104, 101, 97, 100] : Str), ([101, 121, 101] : Str), ([99, 104, 101, 101, 107] : Str), ([109, 111, 117, 116, 104] : Str), ([99, 104, 105, 110] : Str), ([110, 101, 99, 107] : Str), ([99, 104, 101, 115, 116] : Str), ([119, 97, 105, 115, 116] : Str), ([104, 105, 112] : Str)] : List Str)) k1_0]) (.tmp (by kernel_rfl) .nil) rfl (fun W S => ⟨_, _, rfl, S.row 0, S.below⟩)
theorem C.s_plText {a0 : Place} {r : Str} (w : World) (h : X.s_plText a0 = some r) : Calls prog 137 #[.agg (ePlace a0).toArray] w (Ret w (.string (bs r))) := by
  refine calls (M := no) (args := [.agg (ePlace a0).toArray]) func137 rfl ?_
  replace h : H (X.s_plText a0) (fun o => o = r) := H.mk h
  unfold X.s_plText at h
  refine c_seq ?_
  refine r_start ?_
  refine xx rfl (x_box (ePlace a0) fun g0_0 => ?_)
  refine p 1 ?_
  refine rend ?_
  refine c_seq ?_
  refine as_start 6 6 ?_
  refine ap 1 1 ?_
  refine aq 2 rfl (y_load (.int .i64 a0.Region) 0 g0_0 0) ?_
  obtain ⟨v1_0, hv1_0, h⟩ := H.call h
  refine ax 0 rfl (e_cr [] (fun v => v) func194 (fun W S => C.s_plNames W hv1_0) fun A1_0 k1_0 => ⟨.inr (by kernel_rfl), ?_⟩)
  obtain ⟨y1_3, hy1_3, h⟩ := H.call h
  refine ax 3 rfl (e_y (y_idx (e := eS) (el := 9) hy1_3 (s_own 1)) ⟨.inr (by kernel_rfl), ?_⟩)
  refine ax 4 rfl (e_y (y_el (e := eS) 0 (.string (bs y1_3)) hy1_3 (s_own 1)) ⟨.inr (by kernel_rfl), ?_⟩)
  refine ap 5 1 ?_
  refine a_done ?_
  refine c_seq ?_
  refine c_seq ?_
  refine r_start ?_
  refine p 1 ?_
  refine xq rfl (y_load (.int .i64 a0.Side) 0 g0_0 1) ?_
  refine rend ?_
  refine c_block ?_
  refine c_seq ?_
  refine r_start ?_
  refine p 2 ?_
  refine rend ?_
  refine c_or (a0.Side == (-1)) (fun q1 => ?_) (fun q1 => ?_)
  · replace h := H.t q1 h
    refine r_start ?_
    refine p 1 ?_
    obtain ⟨y4_1, hy4_1, h⟩ := H.call h
    refine xq rfl (y_cat hy4_1) ?_
    refine p 1 ?_
    refine rend ?_
    refine c_inb ?_
    refine c_seq ?_
    refine c_seq ?_
    refine r_start ?_
    refine p 1 ?_
    refine xq rfl (y_load (.bool a0.Contact) 0 g0_0 2) ?_
    refine rend ?_
    refine c_or a0.Contact (fun q2 => ?_) (fun q2 => ?_)
    · replace h := H.t q2 h
      refine r_start ?_
      refine p 1 ?_
      obtain ⟨y8_1, hy8_1, h⟩ := H.call h
      refine xq rfl (y_cat hy8_1) ?_
      refine p 1 ?_
      refine rend ?_
      refine c_seq ?_
      refine r_start ?_
      refine p 2 ?_
      refine rend ?_
      replace h := H.done h
      subst h
      exact ret func137 rfl (vs := [.string (bs y8_1)]) (.tmp (by kernel_rfl) .nil) rfl (fun W S => ⟨rfl, S.below⟩)
    replace h := H.f q2 h
    refine c_skip ?_
    refine c_seq ?_
    refine r_start ?_
    refine p 2 ?_
    refine rend ?_
    replace h := H.done h
    subst h
    exact ret func137 rfl (vs := [.string (bs y4_1)]) (.tmp (by kernel_rfl) .nil) rfl (fun W S => ⟨rfl, S.below⟩)
  replace h := H.f q1 h
  refine c_seq ?_
  refine r_start ?_
  refine p 2 ?_
  refine rend ?_
  refine c_or (a0.Side == 1) (fun q3 => ?_) (fun q3 => ?_)
  · replace h := H.t q3 h
    refine r_start ?_
    refine p 1 ?_
    obtain ⟨y6_1, hy6_1, h⟩ := H.call h
    refine xq rfl (y_cat hy6_1) ?_
    refine p 1 ?_
    refine rend ?_
    refine c_inb ?_
    refine c_seq ?_
    refine c_seq ?_
    refine r_start ?_
    refine p 1 ?_
    refine xq rfl (y_load (.bool a0.Contact) 0 g0_0 2) ?_
    refine rend ?_
    refine c_or a0.Contact (fun q4 => ?_) (fun q4 => ?_)
    · replace h := H.t q4 h
      refine r_start ?_
      refine p 1 ?_
      obtain ⟨y8_1, hy8_1, h⟩ := H.call h
      refine xq rfl (y_cat hy8_1) ?_
      refine p 1 ?_
      refine rend ?_
      refine c_seq ?_
      refine r_start ?_
      refine p 2 ?_
      refine rend ?_
      replace h := H.done h
      subst h
      exact ret func137 rfl (vs := [.string (bs y8_1)]) (.tmp (by kernel_rfl) .nil) rfl (fun W S => ⟨rfl, S.below⟩)
    replace h := H.f q4 h
    refine c_skip ?_
    refine c_seq ?_
    refine r_start ?_
    refine p 2 ?_
    refine rend ?_
    replace h := H.done h
    subst h
    exact ret func137 rfl (vs := [.string (bs y6_1)]) (.tmp (by kernel_rfl) .nil) rfl (fun W S => ⟨rfl, S.below⟩)
  replace h := H.f q3 h
  refine c_skip ?_
  refine c_inb ?_
  refine c_seq ?_
  refine c_seq ?_
  refine r_start ?_
  refine p 1 ?_
  refine xq rfl (y_load (.bool a0.Contact) 0 g0_0 2) ?_
  refine rend ?_
  refine c_or a0.Contact (fun q5 => ?_) (fun q5 => ?_)
  · replace h := H.t q5 h
    refine r_start ?_
    refine p 1 ?_
    obtain ⟨y8_1, hy8_1, h⟩ := H.call h
    refine xq rfl (y_cat hy8_1) ?_
    refine p 1 ?_
    refine rend ?_
    refine c_seq ?_
    refine r_start ?_
    refine p 2 ?_
    refine rend ?_
    replace h := H.done h
    subst h
    exact ret func137 rfl (vs := [.string (bs y8_1)]) (.tmp (by kernel_rfl) .nil) rfl (fun W S => ⟨rfl, S.below⟩)
  replace h := H.f q5 h
  refine c_skip ?_
  refine c_seq ?_
  refine r_start ?_
  refine p 2 ?_
  refine rend ?_
  replace h := H.done h
  subst h
  exact ret func137 rfl (vs := [.string (bs y1_3)]) (.tmp (by kernel_rfl) .nil) rfl (fun W S => ⟨rfl, S.below⟩)
theorem C.s_plGood {a0 : Place} {r : Bool} (w : World) (h : X.s_plGood a0 = some r) : Calls prog 157 #[.agg (ePlace a0).toArray] w (Ret w (.bool r)) := by
  refine calls (M := no) (args := [.agg (ePlace a0).toArray]) func157 rfl ?_
  replace h : H (X.s_plGood a0) (fun o => o = r) := H.mk h
  unfold X.s_plGood at h
  refine c_seq ?_
  refine r_start ?_
  refine xx rfl (x_box (ePlace a0) fun g0_0 => ?_)
  refine p 1 ?_
  refine rend ?_
  refine c_seq ?_
  refine r_start ?_
  refine p 1 ?_
  refine xq rfl (y_load (.int .i64 a0.Region) 0 g0_0 0) ?_
  obtain ⟨v1_2, hv1_2, h⟩ := H.call h
  refine xq rfl (y_call [.int .i64 a0.Region, .int .i64 0, .int .i64 9] (.bool v1_2) func77 (fun W S => C.s_l1In W hv1_2)) ?_
  refine p 1 ?_
  refine br v1_2 (fun q1 => ?_) (fun q1 => ?_)
  · replace h := H.t q1 h
    refine o_set 6 (congrArg Value.bool q1) ?_
    refine p 1 ?_
    refine xq rfl (y_load (.int .i64 a0.Side) 0 g0_0 1) ?_
    obtain ⟨v1_6, hv1_6, h⟩ := H.call h
    refine xq rfl (y_call [.int .i64 a0.Side, .int .i64 (-1), .int .i64 1] (.bool v1_6) func77 (fun W S => C.s_l1In W hv1_6)) ?_
    refine p 2 ?_
    refine br v1_6 (fun q2 => ?_) (fun q2 => ?_)
    · replace h := H.t q2 h
      refine o_set 11 (congrArg Value.bool q2) ?_
      refine p 1 ?_
      refine xq rfl (y_load (.int .i64 a0.Region) 0 g0_0 0) ?_
      refine p 2 ?_
      refine br (decide (a0.Region > 0)) (fun q3 => ?_) (fun q3 => ?_)
      · replace h := H.t q3 h
        refine o_set 15 (congrArg Value.bool q3) ?_
        refine p 6 ?_
        refine rend ?_
        replace h := H.done h
        subst h
        exact ret func157 rfl (vs := [.bool true]) (.tmp (by kernel_rfl) .nil) rfl (fun W S => ⟨rfl, S.below⟩)
      replace h := H.f q3 h
      refine o_set 15 (congrArg Value.bool q3) ?_
      refine p 1 ?_
      refine xq rfl (y_load (.bool a0.Contact) 0 g0_0 2) ?_
      refine p 4 ?_
      refine rend ?_
      replace h := H.done h
      subst h
      exact ret func157 rfl (vs := [.bool (!a0.Contact)]) (.tmp (by kernel_rfl) .nil) rfl (fun W S => ⟨rfl, S.below⟩)
    replace h := H.f q2 h
    refine o_set 11 (congrArg Value.bool q2) ?_
    refine p 10 ?_
    refine rend ?_
    replace h := H.done h
    subst h
    exact ret func157 rfl (vs := [.bool false]) (.tmp (by kernel_rfl) .nil) rfl (fun W S => ⟨rfl, S.below⟩)
  replace h := H.f q1 h
  refine o_set 6 (congrArg Value.bool q1) ?_
  refine p 15 ?_
  refine rend ?_
  replace h := H.done h
  subst h
  exact ret func157 rfl (vs := [.bool false]) (.tmp (by kernel_rfl) .nil) rfl (fun W S => ⟨rfl, S.below⟩)
theorem C.s_plAll {fu : Nat} {r : (List Place)} (w : World) (h : X.s_plAll fu = some r) : Calls prog 169 #[] w (RetR nPlace 40 w r (fun v => v)) := by
  refine calls (M := no) (args := []) func169 rfl ?_
  replace h : H (X.s_plAll fu) (fun o => o = r) := H.mk h
  unfold X.s_plAll at h
  refine c_seq ?_
  refine r_start ?_
  refine p 1 ?_
  refine rend ?_
  refine c_seq ?_
  refine r_start ?_
  refine p 1 ?_
  refine rend ?_
  refine c_seq ?_
  refine c_seq ?_
  refine r_start ?_
  refine p 1 ?_
  refine rend ?_
  refine c_block ?_
  refine c_nil nPlace 40 ?_
  refine joinH (X := ((List Place) × Option Addr × Nat)) 0 (H.bnd h) (fun ⟨l5, A6, k7⟩ => l5) (fun ⟨l5, A6, k7⟩ => [rowT nPlace w.heap.size 40 (.slice A6 (List.length l5) k7) l5]) (fun ⟨l5, A6, k7⟩ u => (jk u 0 1 (.slice A6 (List.length l5) k7 :: (jk u 2 31 [])))) (fun h hj8 => ?_) ?_
  · skip
    refine loopR (X := (Int × (List Place) × Option Addr × Nat)) (fun ⟨n1, l2, A3, k4⟩ => (n1, l2)) (fun ⟨n1, l2, A3, k4⟩ => [rowT nPlace w.heap.size 40 (.slice A3 (List.length l2) k4) l2]) (fun ⟨n1, l2, A3, k4⟩ u => (jk u 0 1 (.slice A3 (List.length l2) k4 :: .int .i64 n1 :: (jk u 3 30 [])))) (0, ([] : List Place), none, 0) h (by kernel_rfl) (by kernel_rfl) ?_
    intro x u h
    obtain ⟨n1, l2, A3, k4⟩ := x
    refine c_seq ?_
    refine c_seq ?_
    refine r_start ?_
    refine p 2 ?_
    refine rend ?_
    refine c_or (decide (n1 < 10)) (fun q9 => ?_) (fun q9 => ?_)
    · replace h := H.t q9 h
      refine c_skip ?_
      refine c_seq ?_
      refine c_block ?_
      refine c_seq ?_
      refine r_start ?_
      refine p 1 ?_
      refine rend ?_
      refine c_block ?_
      refine joinH (X := ((List Place) × Option Addr × Nat)) 2 (H.bnd h) (fun ⟨l14, A15, k16⟩ => l14) (fun ⟨l14, A15, k16⟩ => [rowT nPlace w.heap.size 40 (.slice A15 (List.length l14) k16) l14]) (fun ⟨l14, A15, k16⟩ u => (jk u 0 1 (.slice A15 (List.length l14) k16 :: .int .i64 n1 :: (jk u 3 30 [])))) (fun h hj17 => ?_) ?_
      · skip
        refine loopR (X := (Int × (List Place) × Option Addr × Nat)) (fun ⟨n10, l11, A12, k13⟩ => (n10, l11)) (fun ⟨n10, l11, A12, k13⟩ => [rowT nPlace w.heap.size 40 (.slice A12 (List.length l11) k13) l11]) (fun ⟨n10, l11, A12, k13⟩ u => (jk u 0 1 (.slice A12 (List.length l11) k13 :: .int .i64 n1 :: .int .i64 n10 :: (jk u 4 29 [])))) ((-1), l2, A3, k4) h (by kernel_rfl) (by kernel_rfl) ?_
        intro x u h
        obtain ⟨n10, l11, A12, k13⟩ := x
        refine c_seq ?_
        refine c_seq ?_
        refine r_start ?_
        refine p 2 ?_
        refine rend ?_
        refine c_or (decide (n10 ≤ 1)) (fun q18 => ?_) (fun q18 => ?_)
        · replace h := H.t q18 h
          refine c_skip ?_
          refine c_seq ?_
          refine c_block ?_
          refine c_seq ?_
          refine r_start ?_
          refine xx rfl (e_lit (e := eB) (el := 4) [.bool false, .bool true] ([false, true] : List Bool) fun A8_0 k8_0 => ?_)
          refine p 2 ?_
          refine rend ?_
          refine c_block ?_
          refine joinH (X := ((List Place) × Option Addr × Nat)) 4 (H.bnd h) (fun ⟨l22, A23, k24⟩ => l22) (fun ⟨l22, A23, k24⟩ => [rowT nPlace w.heap.size 40 (.slice A23 (List.length l22) k24) l22, rowT eB w.heap.size 4 (.slice A8_0 (List.length ([false, true] : List Bool)) k8_0) ([false, true] : List Bool)]) (fun ⟨l22, A23, k24⟩ u => (jk u 0 1 (.slice A23 (List.length l22) k24 :: .int .i64 n1 :: .int .i64 n10 :: (jk u 4 29 [])))) (fun h hj25 => ?_) ?_
          · skip
            refine rangeR (X := ((List Place) × Option Addr × Nat)) (s_own 1) (fun ⟨l19, A20, k21⟩ => l19) (fun ⟨l19, A20, k21⟩ => [rowT nPlace w.heap.size 40 (.slice A20 (List.length l19) k21) l19, rowT eB w.heap.size 4 (.slice A8_0 (List.length ([false, true] : List Bool)) k8_0) ([false, true] : List Bool)]) (fun (j26 : Nat) ⟨l19, A20, k21⟩ u => (jk u 0 1 (.slice A20 (List.length l19) k21 :: .int .i64 n1 :: .int .i64 n10 :: (jk u 4 11 (.slice A8_0 (List.length ([false, true] : List Bool)) k8_0 :: .int .i64 (List.length ([false, true] : List Bool) : Int) :: .int .i64 (j26 : Int) :: (jk u 18 15 [])))))) (l11, A12, k13) h (by kernel_rfl) (by kernel_rfl) ?_ ?_
            · intro j26 x u x27 q28 hg29 hw30 h
              obtain ⟨l19, A20, k21⟩ := x
              refine c_seq ?_
              refine r_start ?_
              refine p 1 ?_
              refine rend ?_
              refine c_seq ?_
              refine c_yes q28 ?_
              refine c_skip ?_
              refine c_seq ?_
              refine c_block ?_
              refine c_seq ?_
              refine r_start ?_
              refine xq rfl (y_idx (e := eB) (el := 4) hg29 (s_own 1)) ?_
              refine xq rfl (y_el (e := eB) 0 (.bool x27) hg29 (s_own 1)) ?_
              refine p 1 ?_
              refine rend ?_
              refine c_seq ?_
              refine r_start ?_
              refine p 4 ?_
              refine xx rfl (x_new (ePlace zPlace) fun g11_4 => ?_)
              refine xx rfl (x_sto 2 g11_4 0 (ePlace (⟨n1, n10, x27⟩ : Place)) ?_)
              refine rend ?_
              refine c_seq ?_
              refine r_start ?_
              refine xq rfl (y_load (.agg (ePlace (⟨n1, n10, x27⟩ : Place)).toArray) 2 g11_4 0) ?_
              obtain ⟨v12_1, hv12_1, h⟩ := H.call h
              refine xq rfl (y_call [.agg (ePlace (⟨n1, n10, x27⟩ : Place)).toArray] (.bool v12_1) func157 (fun W S => C.s_plGood W hv12_1)) ?_
              refine rend ?_
              refine c_or v12_1 (fun q31 => ?_) (fun q31 => ?_)
              · replace h := H.t q31 h
                refine r_start ?_
                refine p 1 ?_
                refine xq rfl (y_load (.agg (ePlace (⟨n1, n10, x27⟩ : Place)).toArray) 2 g11_4 0) ?_
                refine xx rfl (e_lit (e := nPlace) (el := 40) [.agg (ePlace (⟨n1, n10, x27⟩ : Place)).toArray] ([(⟨n1, n10, x27⟩ : Place)] : List Place) fun A13_2 k13_2 => ?_)
                obtain ⟨y13_3, hy13_3, h⟩ := H.call h
                refine xx rfl (e_app 0 hy13_3 (s_own 3) fun A13_3 k13_3 => ?_)
                refine p 1 ?_
                refine rend ?_
                refine frg (fun u => (jk u 0 1 (.slice A13_3 (List.length y13_3) k13_3 :: .int .i64 n1 :: .int .i64 n10 :: (jk u 4 11 (.slice A8_0 (List.length ([false, true] : List Bool)) k8_0 :: .int .i64 (List.length ([false, true] : List Bool) : Int) :: .int .i64 (j26 : Int) :: (jk u 18 15 [])))))) (by kernel_rfl) fun u => ?_
                refine keep 4 (its' := [rowT nPlace w.heap.size 40 (.slice A13_3 (List.length y13_3) k13_3) y13_3, rowT eB w.heap.size 4 (.slice A8_0 (List.length ([false, true] : List Bool)) k8_0) ([false, true] : List Bool), box g11_4 40 (ePlace (⟨n1, n10, x27⟩ : Place)), rowT nPlace w.heap.size 40 (.slice A13_2 (List.length ([(⟨n1, n10, x27⟩ : Place)] : List Place)) k13_2) ([(⟨n1, n10, x27⟩ : Place)] : List Place)]) (by kernel_rfl) ?_
                refine c_inb ?_
                refine r_start ?_
                refine p 2 ?_
                refine rend ?_
                refine c_set 17 (ci hw30) ?_
                replace h := H.inl h
                exact h (y13_3, A13_3, k13_3) _ _ rfl (by kernel_rfl) (by kernel_rfl)
              replace h := H.f q31 h
              refine c_skip ?_
              refine c_inb ?_
              refine r_start ?_
              refine p 2 ?_
              refine rend ?_
              refine c_set 17 (ci hw30) ?_
              replace h := H.inl h
              exact h (l19, A20, k21) _ _ rfl (by kernel_rfl) (by kernel_rfl)
            · intro x u q28 h
              obtain ⟨l19, A20, k21⟩ := x
              refine c_seq ?_
              refine r_start ?_
              refine p 1 ?_
              refine rend ?_
              refine c_seq ?_
              refine c_no q28 ?_
              refine cx ?_
              replace h := H.done h
              exact hj25 (l19, A20, k21) _ _ h (by kernel_rfl) (by kernel_rfl)
          intro x u h
          obtain ⟨l22, A23, k24⟩ := x
          refine c_inb ?_
          refine r_start ?_
          refine p 3 ?_
          refine rend ?_
          replace h := H.inl h
          exact h ((wr (n10 + 1)), l22, A23, k24) _ _ rfl (by kernel_rfl) (by kernel_rfl)
        replace h := H.f q18 h
        refine cx ?_
        replace h := H.inr h
        exact hj17 (l11, A12, k13) _ _ h (by kernel_rfl) (by kernel_rfl)
      intro x u h
      obtain ⟨l14, A15, k16⟩ := x
      refine c_inb ?_
      refine r_start ?_
      refine p 3 ?_
      refine rend ?_
      replace h := H.inl h
      exact h ((wr (n1 + 1)), l14, A15, k16) _ _ rfl (by kernel_rfl) (by kernel_rfl)
    replace h := H.f q9 h
    refine cx ?_
    replace h := H.inr h
    exact hj8 (l2, A3, k4) _ _ h (by kernel_rfl) (by kernel_rfl)
  intro x u h
  obtain ⟨l5, A6, k7⟩ := x
  refine c_seq ?_
  refine r_start ?_
  refine p 2 ?_
  refine rend ?_
  replace h := H.done h
  subst h
  exact ret func169 rfl (vs := [.slice A6 (List.length l5) k7]) (.tmp (by kernel_rfl) .nil) rfl (fun W S => ⟨_, _, rfl, S.row 0, S.below⟩)
theorem C.s_plParse {fu : Nat} {a0 : Str} {r : (Place × Bool)} (w : World) (h : X.s_plParse fu a0 = some r) : Calls prog 107 #[.string (bs a0)] w (Ret w (.tuple #[.agg (ePlace r.1).toArray, .bool r.2])) := by
  refine calls (M := no) (args := [.string (bs a0)]) func107 rfl ?_
  replace h : H (X.s_plParse fu a0) (fun o => o = r) := H.mk h
  unfold X.s_plParse at h
  refine c_seq ?_
  refine r_start ?_
  refine xx rfl (x_new (ePlace zPlace) fun g0_0 => ?_)
  refine p 1 ?_
  refine rend ?_
  refine c_seq ?_
  refine c_seq ?_
  refine r_start ?_
  obtain ⟨v1_0, hv1_0, h⟩ := H.call h
  refine xx rfl (e_cr [] (fun v => v) func169 (fun W S => C.s_plAll W hv1_0) fun A1_0 k1_0 => ?_)
  refine p 2 ?_
  refine rend ?_
  refine c_block ?_
  refine joinE (X := Unit) 0 (H.or h) (fun (x : Unit) => x) (fun _ => [box g0_0 40 (ePlace zPlace), rowT nPlace w.heap.size 40 (.slice A1_0 (List.length v1_0) k1_0) v1_0]) (fun _ u => (jk u 0 2 (.pointer (some ⟨g0_0, 0, none⟩) :: (jk u 3 16 [])))) (fun h hj1 => ?_) ?_
  · skip
    refine rangeR (X := Unit) (s_own 1) (fun (x : Unit) => x) (fun _ => [box g0_0 40 (ePlace zPlace), rowT nPlace w.heap.size 40 (.slice A1_0 (List.length v1_0) k1_0) v1_0]) (fun (j2 : Nat) _ u => (.string (bs a0) :: (jk u 1 1 (.pointer (some ⟨g0_0, 0, none⟩) :: (jk u 3 3 (.slice A1_0 (List.length v1_0) k1_0 :: .int .i64 (List.length v1_0 : Int) :: .int .i64 (j2 : Int) :: (jk u 9 10 []))))))) () h (by kernel_rfl) (by kernel_rfl) ?_ ?_
    · intro j2 x u x3 q4 hg5 hw6 h
      refine c_seq ?_
      refine r_start ?_
      refine p 1 ?_
      refine rend ?_
      refine c_seq ?_
      refine c_yes q4 ?_
      refine c_skip ?_
      refine c_seq ?_
      refine c_block ?_
      refine c_seq ?_
      refine r_start ?_
      refine xq rfl (y_idx (e := nPlace) (el := 40) hg5 (s_own 1)) ?_
      refine xq rfl (y_el (e := nPlace) 0 (.agg (ePlace x3).toArray) hg5 (s_own 1)) ?_
      refine xx rfl (x_new (ePlace zPlace) fun g3_2 => ?_)
      refine xx rfl (x_sto 2 g3_2 0 (ePlace x3) ?_)
      refine rend ?_
      refine c_seq ?_
      refine r_start ?_
      refine xq rfl (y_load (.agg (ePlace x3).toArray) 2 g3_2 0) ?_
      obtain ⟨v4_1, hv4_1, h⟩ := H.call h
      refine xq rfl (y_call [.agg (ePlace x3).toArray] (.string (bs v4_1)) func137 (fun W S => C.s_plText W hv4_1)) ?_
      refine p 2 ?_
      refine rend ?_
      refine c_or (seq v4_1 a0) (fun q7 => ?_) (fun q7 => ?_)
      · replace h := H.t q7 h
        refine c_seq ?_
        refine r_start ?_
        refine xq rfl (y_load (.agg (ePlace x3).toArray) 2 g3_2 0) ?_
        refine xx rfl (x_sto 0 g0_0 0 (ePlace x3) ?_)
        refine p 1 ?_
        refine rend ?_
        replace h := H.inr h
        replace h := H.done h
        subst h
        exact ret func107 rfl (vs := [.agg (ePlace x3).toArray, .bool true]) (.cell 0 g0_0 rfl (by kernel_rfl) (by kernel_rfl) (.tmp (by kernel_rfl) .nil)) rfl (fun W S => ⟨rfl, S.below⟩)
      replace h := H.f q7 h
      refine c_skip ?_
      refine c_inb ?_
      refine r_start ?_
      refine p 2 ?_
      refine rend ?_
      refine c_set 8 (ci hw6) ?_
      replace h := H.inl h
      exact h () _ _ rfl (by kernel_rfl) (by kernel_rfl)
    · intro x u q4 h
      refine c_seq ?_
      refine r_start ?_
      refine p 1 ?_
      refine rend ?_
      refine c_seq ?_
      refine c_no q4 ?_
      refine cx ?_
      replace h := H.done h
      exact hj1 () _ _ h (by kernel_rfl) (by kernel_rfl)
  intro x u h
  refine c_seq ?_
  refine r_start ?_
  refine p 1 ?_
  refine xx rfl (x_sto 0 g0_0 0 (ePlace zPlace) ?_)
  refine p 1 ?_
  refine rend ?_
  replace h := H.done h
  subst h
  exact ret func107 rfl (vs := [.agg (ePlace zPlace).toArray, .bool false]) (.cell 0 g0_0 rfl (by kernel_rfl) (by kernel_rfl) (.tmp (by kernel_rfl) .nil)) rfl (fun W S => ⟨rfl, S.below⟩)
theorem C.s_l1Num {fu : Nat} {a0 : Int} {r : Str} (w : World) (h : X.s_l1Num fu a0 = some r) : Calls prog 192 #[.int .i64 a0] w (Ret w (.string (bs r))) := by
  induction fu generalizing a0 r w with
  | zero => cases h
  | succ fu ih =>
  refine calls (M := no) (args := [.int .i64 a0]) func192 rfl ?_
  replace h : H (X.s_l1Num (fu + 1) a0) (fun o => o = r) := H.mk h
  rw [X.s_l1Num] at h
  refine c_seq ?_
  refine r_start ?_
  refine p 1 ?_
  refine rend ?_
  refine c_seq ?_
  refine c_seq ?_
  refine r_start ?_
  refine p 2 ?_
  refine rend ?_
  refine c_or (decide (a0 < 10)) (fun q1 => ?_) (fun q1 => ?_)
  · replace h := H.t q1 h
    refine c_seq ?_
    refine r_start ?_
    refine p 3 ?_
    refine xx rfl (e_lit (e := (eI .u8)) (el := 5) [.int .u8 (wk .u8 (wr (48 + a0)))] ([(wk .u8 (wr (48 + a0)))] : List Int) fun A2_3 k2_3 => ?_)
    refine xq rfl (y_conv (el := 5) (s_own 0)) ?_
    refine p 1 ?_
    refine rend ?_
    replace h := H.done h
    subst h
    exact ret func192 rfl (vs := [.string (bs (strOf ([(wk .u8 (wr (48 + a0)))] : List Int)))]) (.tmp (by kernel_rfl) .nil) rfl (fun W S => ⟨rfl, S.below⟩)
  replace h := H.f q1 h
  refine c_skip ?_
  refine c_seq ?_
  refine as_start 11 11 ?_
  refine ap 0 2 ?_
  obtain ⟨v3_2, hv3_2, h⟩ := H.call h
  refine aq 2 rfl (y_call [.int .i64 (wr (Int.tdiv a0 10))] (.string (bs v3_2)) func192 (fun W S => ih W hv3_2)) ?_
  refine ap 3 4 ?_
  refine ax 7 rfl (e_lit (e := (eI .u8)) (el := 5) [.int .u8 (wk .u8 (wr (48 + (Int.tmod a0 10))))] ([(wk .u8 (wr (48 + (Int.tmod a0 10))))] : List Int) fun A3_7 k3_7 => ⟨.inr (by kernel_rfl), ?_⟩)
  refine ax 8 rfl (e_y (y_conv (el := 5) (s_own 0)) ⟨.inr (by kernel_rfl), ?_⟩)
  obtain ⟨y3_9, hy3_9, h⟩ := H.call h
  refine aq 9 rfl (y_cat hy3_9) ?_
  refine ap 10 1 ?_
  refine a_done ?_
  replace h := H.done h
  subst h
  exact ret func192 rfl (vs := [.string (bs y3_9)]) (.tmp (by kernel_rfl) .nil) rfl (fun W S => ⟨rfl, S.below⟩)
theorem C.s_mvText {fu : Nat} {a0 : Move} {r : Str} (w : World) (h : X.s_mvText fu a0 = some r) : Calls prog 138 #[.agg (eMove a0).toArray] w (Ret w (.string (bs r))) := by
  refine calls (M := no) (args := [.agg (eMove a0).toArray]) func138 rfl ?_
  replace h : H (X.s_mvText fu a0) (fun o => o = r) := H.mk h
  unfold X.s_mvText at h
  refine c_seq ?_
  refine r_start ?_
  refine xx rfl (x_box (eMove a0) fun g0_0 => ?_)
  refine p 1 ?_
  refine rend ?_
  refine c_seq ?_
  refine c_block ?_
  refine c_seq ?_
  refine r_start ?_
  refine p 1 ?_
  refine xq rfl (y_load (.string (bs a0.Steps)) 0 g0_0 0) ?_
  refine p 2 ?_
  refine rend ?_
  refine c_or (seq a0.Steps ([] : Str)) (fun q1 => ?_) (fun q1 => ?_)
  · replace h := H.t q1 h
    refine c_seq ?_
    refine r_start ?_
    refine p 1 ?_
    refine rend ?_
    replace h := H.done h
    subst h
    exact ret func138 rfl (vs := [.string (bs ([45] : Str))]) (.tmp (by kernel_rfl) .nil) rfl (fun W S => ⟨rfl, S.below⟩)
  replace h := H.f q1 h
  refine c_seq ?_
  refine r_start ?_
  refine p 1 ?_
  refine xq rfl (y_load (.int .i64 a0.Repeat) 0 g0_0 1) ?_
  refine p 2 ?_
  refine rend ?_
  refine c_or (decide (a0.Repeat > 1)) (fun q2 => ?_) (fun q2 => ?_)
  · replace h := H.t q2 h
    refine c_seq ?_
    refine as_start 8 8 ?_
    refine ap 0 1 ?_
    refine aq 1 rfl (y_load (.string (bs a0.Steps)) 0 g0_0 0) ?_
    obtain ⟨y4_2, hy4_2, h⟩ := H.call h
    refine aq 2 rfl (y_cat hy4_2) ?_
    refine ap 3 1 ?_
    refine aq 4 rfl (y_load (.int .i64 a0.Repeat) 0 g0_0 1) ?_
    obtain ⟨v4_5, hv4_5, h⟩ := H.call h
    refine aq 5 rfl (y_call [.int .i64 a0.Repeat] (.string (bs v4_5)) func192 (fun W S => C.s_l1Num W hv4_5)) ?_
    obtain ⟨y4_6, hy4_6, h⟩ := H.call h
    refine aq 6 rfl (y_cat hy4_6) ?_
    refine ap 7 1 ?_
    refine a_done ?_
    replace h := H.done h
    subst h
    exact ret func138 rfl (vs := [.string (bs y4_6)]) (.tmp (by kernel_rfl) .nil) rfl (fun W S => ⟨rfl, S.below⟩)
  replace h := H.f q2 h
  refine c_skip ?_
  refine c_inb ?_
  refine c_seq ?_
  refine r_start ?_
  refine p 1 ?_
  refine xq rfl (y_load (.string (bs a0.Steps)) 0 g0_0 0) ?_
  refine p 1 ?_
  refine rend ?_
  replace h := H.done h
  subst h
  exact ret func138 rfl (vs := [.string (bs a0.Steps)]) (.tmp (by kernel_rfl) .nil) rfl (fun W S => ⟨rfl, S.below⟩)
theorem C.s_mvLetters {r : Str} (w : World) (h : X.s_mvLetters = some r) : Calls prog 239 #[] w (Ret w (.string (bs r))) := by
  refine calls (M := no) (args := []) func239 rfl ?_
  replace h : H (X.s_mvLetters) (fun o => o = r) := H.mk h
  unfold X.s_mvLetters at h
  refine c_seq ?_
  refine r_start ?_
  refine p 1 ?_
  refine rend ?_
  refine c_seq ?_
  refine r_start ?_
  refine p 1 ?_
  refine rend ?_
  replace h := H.done h
  subst h
  exact ret func239 rfl (vs := [.string (bs ([117, 100, 108, 114, 102, 98] : Str))]) (.tmp (by kernel_rfl) .nil) rfl (fun W S => ⟨rfl, S.below⟩)
theorem C.s_mvIndex {fu : Nat} {a0 : Int} {r : Int} (w : World) (h : X.s_mvIndex fu a0 = some r) : Calls prog 228 #[.int .u8 a0] w (Ret w (.int .i64 r)) := by
  refine calls (M := no) (args := [.int .u8 a0]) func228 rfl ?_
  replace h : H (X.s_mvIndex fu a0) (fun o => o = r) := H.mk h
  unfold X.s_mvIndex at h
  refine c_seq ?_
  refine r_start ?_
  refine p 1 ?_
  refine rend ?_
  refine c_seq ?_
  refine c_seq ?_
  refine r_start ?_
  refine p 1 ?_
  refine rend ?_
  refine c_block ?_
  refine joinE (X := Unit) 0 (H.or h) (fun (x : Unit) => x) (fun _ => []) (fun _ u => (jk u 0 16 [])) (fun h hj2 => ?_) ?_
  · skip
    refine loopR (X := Int) (fun (x : Int) => x) (fun n1 => []) (fun n1 u => (.int .u8 a0 :: (jk u 1 2 (.int .i64 n1 :: (jk u 4 12 []))))) 0 h (by kernel_rfl) (by kernel_rfl) ?_
    intro n1 u h
    refine c_seq ?_
    refine c_seq ?_
    refine r_start ?_
    refine p 1 ?_
    obtain ⟨v2_1, hv2_1, h⟩ := H.call h
    refine xq rfl (y_call [] (.string (bs v2_1)) func239 (fun W S => C.s_mvLetters W hv2_1)) ?_
    refine p 2 ?_
    refine rend ?_
    refine c_or (decide (n1 < (List.length v2_1 : Int))) (fun q3 => ?_) (fun q3 => ?_)
    · replace h := H.t q3 h
      refine c_skip ?_
      refine c_seq ?_
      refine c_block ?_
      refine c_seq ?_
      refine r_start ?_
      obtain ⟨v4_0, hv4_0, h⟩ := H.call h
      refine xq rfl (y_call [] (.string (bs v4_0)) func239 (fun W S => C.s_mvLetters W hv4_0)) ?_
      refine p 1 ?_
      obtain ⟨y4_2, hy4_2, h⟩ := H.call h
      refine xq rfl (y_byte hy4_2) ?_
      refine p 2 ?_
      refine rend ?_
      refine c_or (y4_2 == a0) (fun q4 => ?_) (fun q4 => ?_)
      · replace h := H.t q4 h
        refine c_seq ?_
        refine r_start ?_
        refine p 2 ?_
        refine rend ?_
        replace h := H.inr h
        replace h := H.done h
        subst h
        exact ret func228 rfl (vs := [.int .i64 n1]) (.tmp (by kernel_rfl) .nil) rfl (fun W S => ⟨rfl, S.below⟩)
      replace h := H.f q4 h
      refine c_skip ?_
      refine c_inb ?_
      refine r_start ?_
      refine p 3 ?_
      refine rend ?_
      replace h := H.inl h
      exact h (wr (n1 + 1)) _ _ rfl (by kernel_rfl) (by kernel_rfl)
    replace h := H.f q3 h
    refine cx ?_
    replace h := H.inr h
    exact hj2 () _ _ h (by kernel_rfl) (by kernel_rfl)
  intro x u h
  refine c_seq ?_
  refine r_start ?_
  refine p 1 ?_
  refine rend ?_
  replace h := H.done h
  subst h
  exact ret func228 rfl (vs := [.int .i64 (-1)]) (.tmp (by kernel_rfl) .nil) rfl (fun W S => ⟨rfl, S.below⟩)
theorem C.s_mvSteps {fu : Nat} {a0 : Str} {r : Bool} (w : World) (h : X.s_mvSteps fu a0 = some r) : Calls prog 210 #[.string (bs a0)] w (Ret w (.bool r)) := by
  refine calls (M := no) (args := [.string (bs a0)]) func210 rfl ?_
  replace h : H (X.s_mvSteps fu a0) (fun o => o = r) := H.mk h
  unfold X.s_mvSteps at h
  refine c_seq ?_
  refine r_start ?_
  refine p 1 ?_
  refine rend ?_
  refine c_seq ?_
  refine c_seq ?_
  refine r_start ?_
  refine p 1 ?_
  refine rend ?_
  refine c_block ?_
  refine joinE (X := Unit) 0 (H.or h) (fun (x : Unit) => x) (fun _ => []) (fun _ u => (jk u 0 15 [])) (fun h hj2 => ?_) ?_
  · skip
    refine loopR (X := Int) (fun (x : Int) => x) (fun n1 => []) (fun n1 u => (.string (bs a0) :: (jk u 1 2 (.int .i64 n1 :: (jk u 4 11 []))))) 0 h (by kernel_rfl) (by kernel_rfl) ?_
    intro n1 u h
    refine c_seq ?_
    refine c_seq ?_
    refine r_start ?_
    refine p 4 ?_
    refine rend ?_
    refine c_or (decide (n1 < (List.length a0 : Int))) (fun q3 => ?_) (fun q3 => ?_)
    · replace h := H.t q3 h
      refine c_skip ?_
      refine c_seq ?_
      refine c_block ?_
      refine c_seq ?_
      refine r_start ?_
      refine p 2 ?_
      obtain ⟨y4_2, hy4_2, h⟩ := H.call h
      refine xq rfl (y_byte hy4_2) ?_
      obtain ⟨v4_3, hv4_3, h⟩ := H.call h
      refine xq rfl (y_call [.int .u8 y4_2] (.int .i64 v4_3) func228 (fun W S => C.s_mvIndex W hv4_3)) ?_
      refine p 1 ?_
      refine rend ?_
      refine c_or (decide (v4_3 < 0)) (fun q4 => ?_) (fun q4 => ?_)
      · replace h := H.t q4 h
        refine c_seq ?_
        refine r_start ?_
        refine p 1 ?_
        refine rend ?_
        replace h := H.inr h
        replace h := H.done h
        subst h
        exact ret func210 rfl (vs := [.bool false]) (.tmp (by kernel_rfl) .nil) rfl (fun W S => ⟨rfl, S.below⟩)
      replace h := H.f q4 h
      refine c_skip ?_
      refine c_inb ?_
      refine r_start ?_
      refine p 3 ?_
      refine rend ?_
      replace h := H.inl h
      exact h (wr (n1 + 1)) _ _ rfl (by kernel_rfl) (by kernel_rfl)
    replace h := H.f q3 h
    refine cx ?_
    replace h := H.inr h
    exact hj2 () _ _ h (by kernel_rfl) (by kernel_rfl)
  intro x u h
  refine c_seq ?_
  refine r_start ?_
  refine p 1 ?_
  refine rend ?_
  replace h := H.done h
  subst h
  exact ret func210 rfl (vs := [.bool true]) (.tmp (by kernel_rfl) .nil) rfl (fun W S => ⟨rfl, S.below⟩)
theorem C.s_mvGood {fu : Nat} {a0 : Move} {r : Bool} (w : World) (h : X.s_mvGood fu a0 = some r) : Calls prog 158 #[.agg (eMove a0).toArray] w (Ret w (.bool r)) := by
  refine calls (M := no) (args := [.agg (eMove a0).toArray]) func158 rfl ?_
  replace h : H (X.s_mvGood fu a0) (fun o => o = r) := H.mk h
  unfold X.s_mvGood at h
  refine c_seq ?_
  refine r_start ?_
  refine xx rfl (x_box (eMove a0) fun g0_0 => ?_)
  refine p 1 ?_
  refine rend ?_
  refine c_seq ?_
  refine r_start ?_
  refine p 1 ?_
  refine xq rfl (y_load (.string (bs a0.Steps)) 0 g0_0 0) ?_
  refine p 3 ?_
  refine br (decide ((List.length a0.Steps : Int) ≤ 6)) (fun q1 => ?_) (fun q1 => ?_)
  · replace h := H.t q1 h
    refine o_set 7 (congrArg Value.bool q1) ?_
    refine p 1 ?_
    refine xq rfl (y_load (.string (bs a0.Steps)) 0 g0_0 0) ?_
    obtain ⟨v1_7, hv1_7, h⟩ := H.call h
    refine xq rfl (y_call [.string (bs a0.Steps)] (.bool v1_7) func210 (fun W S => C.s_mvSteps W hv1_7)) ?_
    refine p 2 ?_
    refine br v1_7 (fun q2 => ?_) (fun q2 => ?_)
    · replace h := H.t q2 h
      refine o_set 12 (congrArg Value.bool q2) ?_
      refine p 1 ?_
      refine xq rfl (y_load (.int .i64 a0.Repeat) 0 g0_0 1) ?_
      obtain ⟨v1_12, hv1_12, h⟩ := H.call h
      refine xq rfl (y_call [.int .i64 a0.Repeat, .int .i64 1, .int .i64 3] (.bool v1_12) func77 (fun W S => C.s_l1In W hv1_12)) ?_
      refine p 2 ?_
      refine br v1_12 (fun q3 => ?_) (fun q3 => ?_)
      · replace h := H.t q3 h
        refine o_set 17 (congrArg Value.bool q3) ?_
        refine p 1 ?_
        refine xq rfl (y_load (.string (bs a0.Steps)) 0 g0_0 0) ?_
        refine p 2 ?_
        refine br (!seq a0.Steps ([] : Str)) (fun q4 => ?_) (fun q4 => ?_)
        · replace h := H.t q4 h
          refine o_set 21 (congrArg Value.bool q4) ?_
          refine p 6 ?_
          refine rend ?_
          replace h := H.done h
          subst h
          exact ret func158 rfl (vs := [.bool true]) (.tmp (by kernel_rfl) .nil) rfl (fun W S => ⟨rfl, S.below⟩)
        replace h := H.f q4 h
        refine o_set 21 (congrArg Value.bool q4) ?_
        refine p 1 ?_
        refine xq rfl (y_load (.int .i64 a0.Repeat) 0 g0_0 1) ?_
        refine p 4 ?_
        refine rend ?_
        replace h := H.done h
        subst h
        exact ret func158 rfl (vs := [.bool (a0.Repeat == 1)]) (.tmp (by kernel_rfl) .nil) rfl (fun W S => ⟨rfl, S.below⟩)
      replace h := H.f q3 h
      refine o_set 17 (congrArg Value.bool q3) ?_
      refine p 10 ?_
      refine rend ?_
      replace h := H.done h
      subst h
      exact ret func158 rfl (vs := [.bool false]) (.tmp (by kernel_rfl) .nil) rfl (fun W S => ⟨rfl, S.below⟩)
    replace h := H.f q2 h
    refine o_set 12 (congrArg Value.bool q2) ?_
    refine p 15 ?_
    refine rend ?_
    replace h := H.done h
    subst h
    exact ret func158 rfl (vs := [.bool false]) (.tmp (by kernel_rfl) .nil) rfl (fun W S => ⟨rfl, S.below⟩)
  replace h := H.f q1 h
  refine o_set 7 (congrArg Value.bool q1) ?_
  refine p 20 ?_
  refine rend ?_
  replace h := H.done h
  subst h
  exact ret func158 rfl (vs := [.bool false]) (.tmp (by kernel_rfl) .nil) rfl (fun W S => ⟨rfl, S.below⟩)
theorem C.s_l1Read {fu : Nat} {a0 : Str} {r : Int} (w : World) (h : X.s_l1Read fu a0 = some r) : Calls prog 170 #[.string (bs a0)] w (Ret w (.int .i64 r)) := by
  refine calls (M := no) (args := [.string (bs a0)]) func170 rfl ?_
  replace h : H (X.s_l1Read fu a0) (fun o => o = r) := H.mk h
  unfold X.s_l1Read at h
  refine c_seq ?_
  refine r_start ?_
  refine p 1 ?_
  refine rend ?_
  refine c_seq ?_
  refine c_seq ?_
  refine r_start ?_
  refine p 2 ?_
  obtain ⟨v1_2, hv1_2, h⟩ := H.call h
  refine xq rfl (y_call [.int .i64 (List.length a0 : Int), .int .i64 1, .int .i64 6] (.bool v1_2) func77 (fun W S => C.s_l1In W hv1_2)) ?_
  refine p 2 ?_
  refine br (!v1_2) (fun q1 => ?_) (fun q1 => ?_)
  · replace h := H.t q1 h
    refine o_set 9 (congrArg Value.bool q1) ?_
    refine p 9 ?_
    refine rend ?_
    refine c_t (by kernel_rfl) ?_
    refine c_seq ?_
    refine r_start ?_
    refine p 1 ?_
    refine rend ?_
    replace h := H.done h
    subst h
    exact ret func170 rfl (vs := [.int .i64 (-1)]) (.tmp (by kernel_rfl) .nil) rfl (fun W S => ⟨rfl, S.below⟩)
  replace h := H.f q1 h
  refine o_set 9 (congrArg Value.bool q1) ?_
  refine p 1 ?_
  obtain ⟨y1_6, hy1_6, h⟩ := H.call h
  refine xq rfl (y_byte hy1_6) ?_
  refine p 2 ?_
  refine br (y1_6 == 48) (fun q2 => ?_) (fun q2 => ?_)
  · replace h := H.t q2 h
    refine o_set 13 (congrArg Value.bool q2) ?_
    refine p 5 ?_
    refine rend ?_
    refine c_or (decide ((List.length a0 : Int) > 1)) (fun q3 => ?_) (fun q3 => ?_)
    · replace h := H.t q3 h
      refine c_seq ?_
      refine r_start ?_
      refine p 1 ?_
      refine rend ?_
      replace h := H.done h
      subst h
      exact ret func170 rfl (vs := [.int .i64 (-1)]) (.tmp (by kernel_rfl) .nil) rfl (fun W S => ⟨rfl, S.below⟩)
    replace h := H.f q3 h
    refine c_skip ?_
    refine c_seq ?_
    refine r_start ?_
    refine p 1 ?_
    refine rend ?_
    refine c_seq ?_
    refine c_seq ?_
    refine r_start ?_
    refine p 1 ?_
    refine rend ?_
    refine c_block ?_
    refine joinE (X := Int) 0 (H.or h) (fun (x : Int) => x) (fun n6 => []) (fun n6 u => (jk u 0 3 (.int .i64 n6 :: (jk u 4 40 [])))) (fun h hj7 => ?_) ?_
    · skip
      refine loopR (X := (Int × Int)) (fun (x : (Int × Int)) => x) (fun ⟨n4, n5⟩ => []) (fun ⟨n4, n5⟩ u => (.string (bs a0) :: (jk u 1 2 (.int .i64 n4 :: .int .i64 n5 :: (jk u 5 39 []))))) (0, 0) h (by kernel_rfl) (by kernel_rfl) ?_
      intro x u h
      obtain ⟨n4, n5⟩ := x
      refine c_seq ?_
      refine c_seq ?_
      refine r_start ?_
      refine p 4 ?_
      refine rend ?_
      refine c_or (decide (n5 < (List.length a0 : Int))) (fun q8 => ?_) (fun q8 => ?_)
      · replace h := H.t q8 h
        refine c_skip ?_
        refine c_seq ?_
        refine c_block ?_
        refine c_seq ?_
        refine c_seq ?_
        refine r_start ?_
        refine p 2 ?_
        obtain ⟨y7_2, hy7_2, h⟩ := H.call h
        refine xq rfl (y_byte hy7_2) ?_
        refine p 2 ?_
        refine br (decide (y7_2 < 48)) (fun q9 => ?_) (fun q9 => ?_)
        · replace h := H.t q9 h
          refine o_set 29 (congrArg Value.bool q9) ?_
          refine p 5 ?_
          refine rend ?_
          refine c_t (by kernel_rfl) ?_
          refine c_seq ?_
          refine r_start ?_
          refine p 1 ?_
          refine rend ?_
          replace h := H.inr h
          replace h := H.done h
          subst h
          exact ret func170 rfl (vs := [.int .i64 (-1)]) (.tmp (by kernel_rfl) .nil) rfl (fun W S => ⟨rfl, S.below⟩)
        replace h := H.f q9 h
        refine o_set 29 (congrArg Value.bool q9) ?_
        refine p 2 ?_
        refine xq rfl (y_byte hy7_2) ?_
        refine p 2 ?_
        refine rend ?_
        refine c_or (decide (y7_2 > 57)) (fun q10 => ?_) (fun q10 => ?_)
        · replace h := H.t q10 h
          refine c_seq ?_
          refine r_start ?_
          refine p 1 ?_
          refine rend ?_
          replace h := H.inr h
          replace h := H.done h
          subst h
          exact ret func170 rfl (vs := [.int .i64 (-1)]) (.tmp (by kernel_rfl) .nil) rfl (fun W S => ⟨rfl, S.below⟩)
        replace h := H.f q10 h
        refine c_skip ?_
        refine r_start ?_
        refine p 4 ?_
        refine xq rfl (y_byte hy7_2) ?_
        refine p 4 ?_
        refine rend ?_
        refine c_inb ?_
        refine r_start ?_
        refine p 3 ?_
        refine rend ?_
        replace h := H.inl h
        exact h ((wr ((wr (10 * n4)) + (wr (wk .u8 (y7_2 - 48))))), (wr (n5 + 1))) _ _ rfl (by kernel_rfl) (by kernel_rfl)
      replace h := H.f q8 h
      refine cx ?_
      replace h := H.inr h
      exact hj7 n4 _ _ h (by kernel_rfl) (by kernel_rfl)
    intro n6 u h
    refine c_seq ?_
    refine r_start ?_
    refine p 2 ?_
    refine rend ?_
    replace h := H.done h
    subst h
    exact ret func170 rfl (vs := [.int .i64 n6]) (.tmp (by kernel_rfl) .nil) rfl (fun W S => ⟨rfl, S.below⟩)
  replace h := H.f q2 h
  refine o_set 13 (congrArg Value.bool q2) ?_
  refine p 5 ?_
  refine rend ?_
  refine c_f (by kernel_rfl) ?_
  refine c_skip ?_
  refine c_seq ?_
  refine r_start ?_
  refine p 1 ?_
  refine rend ?_
  refine c_seq ?_
  refine c_seq ?_
  refine r_start ?_
  refine p 1 ?_
  refine rend ?_
  refine c_block ?_
  refine joinE (X := Int) 0 (H.or h) (fun (x : Int) => x) (fun n13 => []) (fun n13 u => (jk u 0 3 (.int .i64 n13 :: (jk u 4 40 [])))) (fun h hj14 => ?_) ?_
  · skip
    refine loopR (X := (Int × Int)) (fun (x : (Int × Int)) => x) (fun ⟨n11, n12⟩ => []) (fun ⟨n11, n12⟩ u => (.string (bs a0) :: (jk u 1 2 (.int .i64 n11 :: .int .i64 n12 :: (jk u 5 39 []))))) (0, 0) h (by kernel_rfl) (by kernel_rfl) ?_
    intro x u h
    obtain ⟨n11, n12⟩ := x
    refine c_seq ?_
    refine c_seq ?_
    refine r_start ?_
    refine p 4 ?_
    refine rend ?_
    refine c_or (decide (n12 < (List.length a0 : Int))) (fun q15 => ?_) (fun q15 => ?_)
    · replace h := H.t q15 h
      refine c_skip ?_
      refine c_seq ?_
      refine c_block ?_
      refine c_seq ?_
      refine c_seq ?_
      refine r_start ?_
      refine p 2 ?_
      obtain ⟨y7_2, hy7_2, h⟩ := H.call h
      refine xq rfl (y_byte hy7_2) ?_
      refine p 2 ?_
      refine br (decide (y7_2 < 48)) (fun q16 => ?_) (fun q16 => ?_)
      · replace h := H.t q16 h
        refine o_set 29 (congrArg Value.bool q16) ?_
        refine p 5 ?_
        refine rend ?_
        refine c_t (by kernel_rfl) ?_
        refine c_seq ?_
        refine r_start ?_
        refine p 1 ?_
        refine rend ?_
        replace h := H.inr h
        replace h := H.done h
        subst h
        exact ret func170 rfl (vs := [.int .i64 (-1)]) (.tmp (by kernel_rfl) .nil) rfl (fun W S => ⟨rfl, S.below⟩)
      replace h := H.f q16 h
      refine o_set 29 (congrArg Value.bool q16) ?_
      refine p 2 ?_
      refine xq rfl (y_byte hy7_2) ?_
      refine p 2 ?_
      refine rend ?_
      refine c_or (decide (y7_2 > 57)) (fun q17 => ?_) (fun q17 => ?_)
      · replace h := H.t q17 h
        refine c_seq ?_
        refine r_start ?_
        refine p 1 ?_
        refine rend ?_
        replace h := H.inr h
        replace h := H.done h
        subst h
        exact ret func170 rfl (vs := [.int .i64 (-1)]) (.tmp (by kernel_rfl) .nil) rfl (fun W S => ⟨rfl, S.below⟩)
      replace h := H.f q17 h
      refine c_skip ?_
      refine r_start ?_
      refine p 4 ?_
      refine xq rfl (y_byte hy7_2) ?_
      refine p 4 ?_
      refine rend ?_
      refine c_inb ?_
      refine r_start ?_
      refine p 3 ?_
      refine rend ?_
      replace h := H.inl h
      exact h ((wr ((wr (10 * n11)) + (wr (wk .u8 (y7_2 - 48))))), (wr (n12 + 1))) _ _ rfl (by kernel_rfl) (by kernel_rfl)
    replace h := H.f q15 h
    refine cx ?_
    replace h := H.inr h
    exact hj14 n11 _ _ h (by kernel_rfl) (by kernel_rfl)
  intro n13 u h
  refine c_seq ?_
  refine r_start ?_
  refine p 2 ?_
  refine rend ?_
  replace h := H.done h
  subst h
  exact ret func170 rfl (vs := [.int .i64 n13]) (.tmp (by kernel_rfl) .nil) rfl (fun W S => ⟨rfl, S.below⟩)
theorem C.s_mvParse {fu : Nat} {a0 : Str} {r : (Move × Bool)} (w : World) (h : X.s_mvParse fu a0 = some r) : Calls prog 108 #[.string (bs a0)] w (Ret w (.tuple #[.agg (eMove r.1).toArray, .bool r.2])) := by
  refine calls (M := no) (args := [.string (bs a0)]) func108 rfl ?_
  replace h : H (X.s_mvParse fu a0) (fun o => o = r) := H.mk h
  unfold X.s_mvParse at h
  refine c_seq ?_
  refine r_start ?_
  refine xx rfl (x_new (eMove zMove) fun g0_0 => ?_)
  refine p 1 ?_
  refine rend ?_
  refine c_seq ?_
  refine r_start ?_
  refine p 1 ?_
  obtain ⟨v1_1, hv1_1, h⟩ := H.call h
  refine xx rfl (e_cr [.string (bs a0), .int .u8 42] (fun v => v) func68 (fun W S => C.s_l1Split W hv1_1) fun A1_1 k1_1 => ?_)
  refine p 1 ?_
  refine rend ?_
  refine c_seq ?_
  refine r_start ?_
  refine p 1 ?_
  obtain ⟨y2_1, hy2_1, h⟩ := H.call h
  refine xq rfl (y_idx (e := eS) (el := 9) hy2_1 (s_own 1)) ?_
  refine xq rfl (y_el (e := eS) 0 (.string (bs y2_1)) hy2_1 (s_own 1)) ?_
  refine p 1 ?_
  refine xx rfl (x_new (eMove zMove) fun g2_4 => ?_)
  refine xx rfl (x_sto 2 g2_4 0 (eMove (⟨y2_1, 1⟩ : Move)) ?_)
  refine rend ?_
  refine c_seq ?_
  refine c_seq ?_
  refine r_start ?_
  refine p 2 ?_
  refine rend ?_
  refine c_or (seq a0 ([45] : Str)) (fun q1 => ?_) (fun q1 => ?_)
  · replace h := H.t q1 h
    refine r_start ?_
    refine p 1 ?_
    refine xx rfl (x_sto 2 g2_4 0 (eMove (⟨([] : Str), 1⟩ : Move)) ?_)
    refine rend ?_
    refine c_seq ?_
    refine c_seq ?_
    refine r_start ?_
    refine p 3 ?_
    refine rend ?_
    refine c_or ((List.length v1_1 : Int) == 2) (fun q2 => ?_) (fun q2 => ?_)
    · replace h := H.t q2 h
      refine r_start ?_
      refine p 1 ?_
      obtain ⟨y6_1, hy6_1, h⟩ := H.call h
      refine xq rfl (y_idx (e := eS) (el := 9) hy6_1 (s_own 1)) ?_
      refine xq rfl (y_el (e := eS) 0 (.string (bs y6_1)) hy6_1 (s_own 1)) ?_
      obtain ⟨v6_3, hv6_3, h⟩ := H.call h
      refine xq rfl (y_call [.string (bs y6_1)] (.int .i64 v6_3) func170 (fun W S => C.s_l1Read W hv6_3)) ?_
      refine p 1 ?_
      refine xx rfl (x_sto 2 g2_4 1 (eMove (⟨([] : Str), v6_3⟩ : Move)) ?_)
      refine rend ?_
      refine c_seq ?_
      refine c_seq ?_
      refine r_start ?_
      refine p 4 ?_
      refine br (decide ((List.length v1_1 : Int) > 2)) (fun q3 => ?_) (fun q3 => ?_)
      · replace h := H.t q3 h
        refine o_set 26 (congrArg Value.bool q3) ?_
        refine p 10 ?_
        refine rend ?_
        refine c_t (by kernel_rfl) ?_
        refine c_seq ?_
        refine r_start ?_
        refine p 1 ?_
        refine xx rfl (x_sto 0 g0_0 0 (eMove zMove) ?_)
        refine p 1 ?_
        refine rend ?_
        replace h := H.done h
        subst h
        exact ret func108 rfl (vs := [.agg (eMove zMove).toArray, .bool false]) (.cell 0 g0_0 rfl (by kernel_rfl) (by kernel_rfl) (.tmp (by kernel_rfl) .nil)) rfl (fun W S => ⟨rfl, S.below⟩)
      replace h := H.f q3 h
      refine o_set 26 (congrArg Value.bool q3) ?_
      refine xq rfl (y_load (.agg (eMove (⟨([] : Str), v6_3⟩ : Move)).toArray) 2 g2_4 0) ?_
      obtain ⟨v7_5, hv7_5, h⟩ := H.call h
      refine xq rfl (y_call [.agg (eMove (⟨([] : Str), v6_3⟩ : Move)).toArray] (.bool v7_5) func158 (fun W S => C.s_mvGood W hv7_5)) ?_
      refine p 3 ?_
      refine br (!v7_5) (fun q4 => ?_) (fun q4 => ?_)
      · replace h := H.t q4 h
        refine o_set 31 (congrArg Value.bool q4) ?_
        refine p 5 ?_
        refine rend ?_
        refine c_t (by kernel_rfl) ?_
        refine c_seq ?_
        refine r_start ?_
        refine p 1 ?_
        refine xx rfl (x_sto 0 g0_0 0 (eMove zMove) ?_)
        refine p 1 ?_
        refine rend ?_
        replace h := H.done h
        subst h
        exact ret func108 rfl (vs := [.agg (eMove zMove).toArray, .bool false]) (.cell 0 g0_0 rfl (by kernel_rfl) (by kernel_rfl) (.tmp (by kernel_rfl) .nil)) rfl (fun W S => ⟨rfl, S.below⟩)
      replace h := H.f q4 h
      refine o_set 31 (congrArg Value.bool q4) ?_
      refine xq rfl (y_load (.agg (eMove (⟨([] : Str), v6_3⟩ : Move)).toArray) 2 g2_4 0) ?_
      obtain ⟨v7_10, hv7_10, h⟩ := H.call h
      refine xq rfl (y_call [.agg (eMove (⟨([] : Str), v6_3⟩ : Move)).toArray] (.string (bs v7_10)) func138 (fun W S => C.s_mvText W hv7_10)) ?_
      refine p 3 ?_
      refine rend ?_
      refine c_or (!seq v7_10 a0) (fun q5 => ?_) (fun q5 => ?_)
      · replace h := H.t q5 h
        refine c_seq ?_
        refine r_start ?_
        refine p 1 ?_
        refine xx rfl (x_sto 0 g0_0 0 (eMove zMove) ?_)
        refine p 1 ?_
        refine rend ?_
        replace h := H.done h
        subst h
        exact ret func108 rfl (vs := [.agg (eMove zMove).toArray, .bool false]) (.cell 0 g0_0 rfl (by kernel_rfl) (by kernel_rfl) (.tmp (by kernel_rfl) .nil)) rfl (fun W S => ⟨rfl, S.below⟩)
      replace h := H.f q5 h
      refine c_skip ?_
      refine c_seq ?_
      refine r_start ?_
      refine xq rfl (y_load (.agg (eMove (⟨([] : Str), v6_3⟩ : Move)).toArray) 2 g2_4 0) ?_
      refine xx rfl (x_sto 0 g0_0 0 (eMove (⟨([] : Str), v6_3⟩ : Move)) ?_)
      refine p 1 ?_
      refine rend ?_
      replace h := H.done h
      subst h
      exact ret func108 rfl (vs := [.agg (eMove (⟨([] : Str), v6_3⟩ : Move)).toArray, .bool true]) (.cell 0 g0_0 rfl (by kernel_rfl) (by kernel_rfl) (.tmp (by kernel_rfl) .nil)) rfl (fun W S => ⟨rfl, S.below⟩)
    replace h := H.f q2 h
    refine c_skip ?_
    refine c_seq ?_
    refine c_seq ?_
    refine r_start ?_
    refine p 4 ?_
    refine br (decide ((List.length v1_1 : Int) > 2)) (fun q6 => ?_) (fun q6 => ?_)
    · replace h := H.t q6 h
      refine o_set 26 (congrArg Value.bool q6) ?_
      refine p 10 ?_
      refine rend ?_
      refine c_t (by kernel_rfl) ?_
      refine c_seq ?_
      refine r_start ?_
      refine p 1 ?_
      refine xx rfl (x_sto 0 g0_0 0 (eMove zMove) ?_)
      refine p 1 ?_
      refine rend ?_
      replace h := H.done h
      subst h
      exact ret func108 rfl (vs := [.agg (eMove zMove).toArray, .bool false]) (.cell 0 g0_0 rfl (by kernel_rfl) (by kernel_rfl) (.tmp (by kernel_rfl) .nil)) rfl (fun W S => ⟨rfl, S.below⟩)
    replace h := H.f q6 h
    refine o_set 26 (congrArg Value.bool q6) ?_
    refine xq rfl (y_load (.agg (eMove (⟨([] : Str), 1⟩ : Move)).toArray) 2 g2_4 0) ?_
    obtain ⟨v7_5, hv7_5, h⟩ := H.call h
    refine xq rfl (y_call [.agg (eMove (⟨([] : Str), 1⟩ : Move)).toArray] (.bool v7_5) func158 (fun W S => C.s_mvGood W hv7_5)) ?_
    refine p 3 ?_
    refine br (!v7_5) (fun q7 => ?_) (fun q7 => ?_)
    · replace h := H.t q7 h
      refine o_set 31 (congrArg Value.bool q7) ?_
      refine p 5 ?_
      refine rend ?_
      refine c_t (by kernel_rfl) ?_
      refine c_seq ?_
      refine r_start ?_
      refine p 1 ?_
      refine xx rfl (x_sto 0 g0_0 0 (eMove zMove) ?_)
      refine p 1 ?_
      refine rend ?_
      replace h := H.done h
      subst h
      exact ret func108 rfl (vs := [.agg (eMove zMove).toArray, .bool false]) (.cell 0 g0_0 rfl (by kernel_rfl) (by kernel_rfl) (.tmp (by kernel_rfl) .nil)) rfl (fun W S => ⟨rfl, S.below⟩)
    replace h := H.f q7 h
    refine o_set 31 (congrArg Value.bool q7) ?_
    refine xq rfl (y_load (.agg (eMove (⟨([] : Str), 1⟩ : Move)).toArray) 2 g2_4 0) ?_
    obtain ⟨v7_10, hv7_10, h⟩ := H.call h
    refine xq rfl (y_call [.agg (eMove (⟨([] : Str), 1⟩ : Move)).toArray] (.string (bs v7_10)) func138 (fun W S => C.s_mvText W hv7_10)) ?_
    refine p 3 ?_
    refine rend ?_
    refine c_or (!seq v7_10 a0) (fun q8 => ?_) (fun q8 => ?_)
    · replace h := H.t q8 h
      refine c_seq ?_
      refine r_start ?_
      refine p 1 ?_
      refine xx rfl (x_sto 0 g0_0 0 (eMove zMove) ?_)
      refine p 1 ?_
      refine rend ?_
      replace h := H.done h
      subst h
      exact ret func108 rfl (vs := [.agg (eMove zMove).toArray, .bool false]) (.cell 0 g0_0 rfl (by kernel_rfl) (by kernel_rfl) (.tmp (by kernel_rfl) .nil)) rfl (fun W S => ⟨rfl, S.below⟩)
    replace h := H.f q8 h
    refine c_skip ?_
    refine c_seq ?_
    refine r_start ?_
    refine xq rfl (y_load (.agg (eMove (⟨([] : Str), 1⟩ : Move)).toArray) 2 g2_4 0) ?_
    refine xx rfl (x_sto 0 g0_0 0 (eMove (⟨([] : Str), 1⟩ : Move)) ?_)
    refine p 1 ?_
    refine rend ?_
    replace h := H.done h
    subst h
    exact ret func108 rfl (vs := [.agg (eMove (⟨([] : Str), 1⟩ : Move)).toArray, .bool true]) (.cell 0 g0_0 rfl (by kernel_rfl) (by kernel_rfl) (.tmp (by kernel_rfl) .nil)) rfl (fun W S => ⟨rfl, S.below⟩)
  replace h := H.f q1 h
  refine c_skip ?_
  refine c_seq ?_
  refine c_seq ?_
  refine r_start ?_
  refine p 3 ?_
  refine rend ?_
  refine c_or ((List.length v1_1 : Int) == 2) (fun q9 => ?_) (fun q9 => ?_)
  · replace h := H.t q9 h
    refine r_start ?_
    refine p 1 ?_
    obtain ⟨y6_1, hy6_1, h⟩ := H.call h
    refine xq rfl (y_idx (e := eS) (el := 9) hy6_1 (s_own 1)) ?_
    refine xq rfl (y_el (e := eS) 0 (.string (bs y6_1)) hy6_1 (s_own 1)) ?_
    obtain ⟨v6_3, hv6_3, h⟩ := H.call h
    refine xq rfl (y_call [.string (bs y6_1)] (.int .i64 v6_3) func170 (fun W S => C.s_l1Read W hv6_3)) ?_
    refine p 1 ?_
    refine xx rfl (x_sto 2 g2_4 1 (eMove (⟨y2_1, v6_3⟩ : Move)) ?_)
    refine rend ?_
    refine c_seq ?_
    refine c_seq ?_
    refine r_start ?_
    refine p 4 ?_
    refine br (decide ((List.length v1_1 : Int) > 2)) (fun q10 => ?_) (fun q10 => ?_)
    · replace h := H.t q10 h
      refine o_set 26 (congrArg Value.bool q10) ?_
      refine p 10 ?_
      refine rend ?_
      refine c_t (by kernel_rfl) ?_
      refine c_seq ?_
      refine r_start ?_
      refine p 1 ?_
      refine xx rfl (x_sto 0 g0_0 0 (eMove zMove) ?_)
      refine p 1 ?_
      refine rend ?_
      replace h := H.done h
      subst h
      exact ret func108 rfl (vs := [.agg (eMove zMove).toArray, .bool false]) (.cell 0 g0_0 rfl (by kernel_rfl) (by kernel_rfl) (.tmp (by kernel_rfl) .nil)) rfl (fun W S => ⟨rfl, S.below⟩)
    replace h := H.f q10 h
    refine o_set 26 (congrArg Value.bool q10) ?_
    refine xq rfl (y_load (.agg (eMove (⟨y2_1, v6_3⟩ : Move)).toArray) 2 g2_4 0) ?_
    obtain ⟨v7_5, hv7_5, h⟩ := H.call h
    refine xq rfl (y_call [.agg (eMove (⟨y2_1, v6_3⟩ : Move)).toArray] (.bool v7_5) func158 (fun W S => C.s_mvGood W hv7_5)) ?_
    refine p 3 ?_
    refine br (!v7_5) (fun q11 => ?_) (fun q11 => ?_)
    · replace h := H.t q11 h
      refine o_set 31 (congrArg Value.bool q11) ?_
      refine p 5 ?_
      refine rend ?_
      refine c_t (by kernel_rfl) ?_
      refine c_seq ?_
      refine r_start ?_
      refine p 1 ?_
      refine xx rfl (x_sto 0 g0_0 0 (eMove zMove) ?_)
      refine p 1 ?_
      refine rend ?_
      replace h := H.done h
      subst h
      exact ret func108 rfl (vs := [.agg (eMove zMove).toArray, .bool false]) (.cell 0 g0_0 rfl (by kernel_rfl) (by kernel_rfl) (.tmp (by kernel_rfl) .nil)) rfl (fun W S => ⟨rfl, S.below⟩)
    replace h := H.f q11 h
    refine o_set 31 (congrArg Value.bool q11) ?_
    refine xq rfl (y_load (.agg (eMove (⟨y2_1, v6_3⟩ : Move)).toArray) 2 g2_4 0) ?_
    obtain ⟨v7_10, hv7_10, h⟩ := H.call h
    refine xq rfl (y_call [.agg (eMove (⟨y2_1, v6_3⟩ : Move)).toArray] (.string (bs v7_10)) func138 (fun W S => C.s_mvText W hv7_10)) ?_
    refine p 3 ?_
    refine rend ?_
    refine c_or (!seq v7_10 a0) (fun q12 => ?_) (fun q12 => ?_)
    · replace h := H.t q12 h
      refine c_seq ?_
      refine r_start ?_
      refine p 1 ?_
      refine xx rfl (x_sto 0 g0_0 0 (eMove zMove) ?_)
      refine p 1 ?_
      refine rend ?_
      replace h := H.done h
      subst h
      exact ret func108 rfl (vs := [.agg (eMove zMove).toArray, .bool false]) (.cell 0 g0_0 rfl (by kernel_rfl) (by kernel_rfl) (.tmp (by kernel_rfl) .nil)) rfl (fun W S => ⟨rfl, S.below⟩)
    replace h := H.f q12 h
    refine c_skip ?_
    refine c_seq ?_
    refine r_start ?_
    refine xq rfl (y_load (.agg (eMove (⟨y2_1, v6_3⟩ : Move)).toArray) 2 g2_4 0) ?_
    refine xx rfl (x_sto 0 g0_0 0 (eMove (⟨y2_1, v6_3⟩ : Move)) ?_)
    refine p 1 ?_
    refine rend ?_
    replace h := H.done h
    subst h
    exact ret func108 rfl (vs := [.agg (eMove (⟨y2_1, v6_3⟩ : Move)).toArray, .bool true]) (.cell 0 g0_0 rfl (by kernel_rfl) (by kernel_rfl) (.tmp (by kernel_rfl) .nil)) rfl (fun W S => ⟨rfl, S.below⟩)
  replace h := H.f q9 h
  refine c_skip ?_
  refine c_seq ?_
  refine c_seq ?_
  refine r_start ?_
  refine p 4 ?_
  refine br (decide ((List.length v1_1 : Int) > 2)) (fun q13 => ?_) (fun q13 => ?_)
  · replace h := H.t q13 h
    refine o_set 26 (congrArg Value.bool q13) ?_
    refine p 10 ?_
    refine rend ?_
    refine c_t (by kernel_rfl) ?_
    refine c_seq ?_
    refine r_start ?_
    refine p 1 ?_
    refine xx rfl (x_sto 0 g0_0 0 (eMove zMove) ?_)
    refine p 1 ?_
    refine rend ?_
    replace h := H.done h
    subst h
    exact ret func108 rfl (vs := [.agg (eMove zMove).toArray, .bool false]) (.cell 0 g0_0 rfl (by kernel_rfl) (by kernel_rfl) (.tmp (by kernel_rfl) .nil)) rfl (fun W S => ⟨rfl, S.below⟩)
  replace h := H.f q13 h
  refine o_set 26 (congrArg Value.bool q13) ?_
  refine xq rfl (y_load (.agg (eMove (⟨y2_1, 1⟩ : Move)).toArray) 2 g2_4 0) ?_
  obtain ⟨v7_5, hv7_5, h⟩ := H.call h
  refine xq rfl (y_call [.agg (eMove (⟨y2_1, 1⟩ : Move)).toArray] (.bool v7_5) func158 (fun W S => C.s_mvGood W hv7_5)) ?_
  refine p 3 ?_
  refine br (!v7_5) (fun q14 => ?_) (fun q14 => ?_)
  · replace h := H.t q14 h
    refine o_set 31 (congrArg Value.bool q14) ?_
    refine p 5 ?_
    refine rend ?_
    refine c_t (by kernel_rfl) ?_
    refine c_seq ?_
    refine r_start ?_
    refine p 1 ?_
    refine xx rfl (x_sto 0 g0_0 0 (eMove zMove) ?_)
    refine p 1 ?_
    refine rend ?_
    replace h := H.done h
    subst h
    exact ret func108 rfl (vs := [.agg (eMove zMove).toArray, .bool false]) (.cell 0 g0_0 rfl (by kernel_rfl) (by kernel_rfl) (.tmp (by kernel_rfl) .nil)) rfl (fun W S => ⟨rfl, S.below⟩)
  replace h := H.f q14 h
  refine o_set 31 (congrArg Value.bool q14) ?_
  refine xq rfl (y_load (.agg (eMove (⟨y2_1, 1⟩ : Move)).toArray) 2 g2_4 0) ?_
  obtain ⟨v7_10, hv7_10, h⟩ := H.call h
  refine xq rfl (y_call [.agg (eMove (⟨y2_1, 1⟩ : Move)).toArray] (.string (bs v7_10)) func138 (fun W S => C.s_mvText W hv7_10)) ?_
  refine p 3 ?_
  refine rend ?_
  refine c_or (!seq v7_10 a0) (fun q15 => ?_) (fun q15 => ?_)
  · replace h := H.t q15 h
    refine c_seq ?_
    refine r_start ?_
    refine p 1 ?_
    refine xx rfl (x_sto 0 g0_0 0 (eMove zMove) ?_)
    refine p 1 ?_
    refine rend ?_
    replace h := H.done h
    subst h
    exact ret func108 rfl (vs := [.agg (eMove zMove).toArray, .bool false]) (.cell 0 g0_0 rfl (by kernel_rfl) (by kernel_rfl) (.tmp (by kernel_rfl) .nil)) rfl (fun W S => ⟨rfl, S.below⟩)
  replace h := H.f q15 h
  refine c_skip ?_
  refine c_seq ?_
  refine r_start ?_
  refine xq rfl (y_load (.agg (eMove (⟨y2_1, 1⟩ : Move)).toArray) 2 g2_4 0) ?_
  refine xx rfl (x_sto 0 g0_0 0 (eMove (⟨y2_1, 1⟩ : Move)) ?_)
  refine p 1 ?_
  refine rend ?_
  replace h := H.done h
  subst h
  exact ret func108 rfl (vs := [.agg (eMove (⟨y2_1, 1⟩ : Move)).toArray, .bool true]) (.cell 0 g0_0 rfl (by kernel_rfl) (by kernel_rfl) (.tmp (by kernel_rfl) .nil)) rfl (fun W S => ⟨rfl, S.below⟩)
theorem C.s_paHand {fu : Nat} {a0 : Str} {r : (Hand × Int × Int)} (w : World) (h : X.s_paHand fu a0 = some r) : Calls prog 69 #[.string (bs a0)] w (Ret w (.tuple #[.agg (eHand r.1).toArray, .int .i64 r.2.1, .int .i64 r.2.2])) := by
  refine calls (M := no) (args := [.string (bs a0)]) func69 rfl ?_
  replace h : H (X.s_paHand fu a0) (fun o => o = r) := H.mk h
  unfold X.s_paHand at h
  refine c_seq ?_
  refine r_start ?_
  refine xx rfl (x_new (eHand zHand) fun g0_0 => ?_)
  refine p 2 ?_
  refine rend ?_
  refine c_seq ?_
  refine r_start ?_
  refine p 1 ?_
  obtain ⟨v1_1, hv1_1, h⟩ := H.call h
  refine xx rfl (e_cr [.string (bs a0), .int .u8 47] (fun v => v) func68 (fun W S => C.s_l1Split W hv1_1) fun A1_1 k1_1 => ?_)
  refine p 1 ?_
  refine rend ?_
  refine c_seq ?_
  refine c_seq ?_
  refine r_start ?_
  refine p 3 ?_
  refine rend ?_
  refine c_or ((List.length v1_1 : Int) != 4) (fun q1 => ?_) (fun q1 => ?_)
  · replace h := H.t q1 h
    refine c_seq ?_
    refine r_start ?_
    refine p 1 ?_
    refine xx rfl (x_sto 0 g0_0 0 (eHand zHand) ?_)
    refine p 2 ?_
    refine rend ?_
    replace h := H.done h
    subst h
    exact ret func69 rfl (vs := [.agg (eHand zHand).toArray, .int .i64 2, .int .i64 0]) (.cell 0 g0_0 rfl (by kernel_rfl) (by kernel_rfl) (.tmp (by kernel_rfl) (.tmp (by kernel_rfl) .nil))) rfl (fun W S => ⟨rfl, S.below⟩)
  replace h := H.f q1 h
  refine c_skip ?_
  refine c_seq ?_
  refine r_start ?_
  refine p 1 ?_
  refine xx rfl (x_new (eHand zHand) fun g4_1 => ?_)
  refine xx rfl (x_sto 2 g4_1 0 (eHand zHand) ?_)
  refine p 1 ?_
  refine rend ?_
  refine c_seq ?_
  refine r_start ?_
  refine p 1 ?_
  obtain ⟨y5_1, hy5_1, h⟩ := H.call h
  refine xq rfl (y_idx (e := eS) (el := 9) hy5_1 (s_own 1)) ?_
  refine xq rfl (y_el (e := eS) 0 (.string (bs y5_1)) hy5_1 (s_own 1)) ?_
  obtain ⟨v5_3, hv5_3, h⟩ := H.call h
  refine xq rfl (y_call [.string (bs y5_1)] (.tuple #[.agg (eShape v5_3.1).toArray, .bool v5_3.2]) func105 (fun W S => C.s_shParse W hv5_3)) ?_
  refine p 3 ?_
  refine xx rfl (x_new (eShape zShape) fun g5_7 => ?_)
  refine xx rfl (x_sto 3 g5_7 0 (eShape v5_3.1) ?_)
  refine p 1 ?_
  refine rend ?_
  refine c_seq ?_
  refine c_seq ?_
  refine r_start ?_
  refine p 2 ?_
  refine rend ?_
  refine c_or (!v5_3.2) (fun q2 => ?_) (fun q2 => ?_)
  · replace h := H.t q2 h
    refine c_seq ?_
    refine r_start ?_
    refine p 2 ?_
    refine xx rfl (x_sto 0 g0_0 0 (eHand zHand) ?_)
    refine p 2 ?_
    refine rend ?_
    replace h := H.done h
    subst h
    exact ret func69 rfl (vs := [.agg (eHand zHand).toArray, .int .i64 3, .int .i64 0]) (.cell 0 g0_0 rfl (by kernel_rfl) (by kernel_rfl) (.tmp (by kernel_rfl) (.tmp (by kernel_rfl) .nil))) rfl (fun W S => ⟨rfl, S.below⟩)
  replace h := H.f q2 h
  refine c_skip ?_
  refine c_seq ?_
  refine r_start ?_
  refine p 2 ?_
  refine xq rfl (y_idx (e := eS) (el := 9) hy5_1 (s_own 1)) ?_
  refine xq rfl (y_el (e := eS) 0 (.string (bs y5_1)) hy5_1 (s_own 1)) ?_
  refine p 4 ?_
  refine rend ?_
  refine c_seq ?_
  refine r_start ?_
  refine p 1 ?_
  obtain ⟨y9_1, hy9_1, h⟩ := H.call h
  refine xq rfl (y_idx (e := eS) (el := 9) hy9_1 (s_own 1)) ?_
  refine xq rfl (y_el (e := eS) 0 (.string (bs y9_1)) hy9_1 (s_own 1)) ?_
  obtain ⟨v9_3, hv9_3, h⟩ := H.call h
  refine xq rfl (y_call [.string (bs y9_1)] (.tuple #[.agg (eOrient v9_3.1).toArray, .bool v9_3.2]) func106 (fun W S => C.s_orParse W hv9_3)) ?_
  refine p 3 ?_
  refine xx rfl (x_new (eOrient zOrient) fun g9_7 => ?_)
  refine xx rfl (x_sto 4 g9_7 0 (eOrient v9_3.1) ?_)
  refine p 1 ?_
  refine rend ?_
  refine c_seq ?_
  refine c_seq ?_
  refine r_start ?_
  refine p 2 ?_
  refine rend ?_
  refine c_or (!v9_3.2) (fun q3 => ?_) (fun q3 => ?_)
  · replace h := H.t q3 h
    refine c_seq ?_
    refine r_start ?_
    refine p 2 ?_
    refine xx rfl (x_sto 0 g0_0 0 (eHand zHand) ?_)
    refine p 2 ?_
    refine rend ?_
    replace h := H.done h
    subst h
    exact ret func69 rfl (vs := [.agg (eHand zHand).toArray, .int .i64 4, .int .i64 (wr (0 + (wr ((List.length y5_1 : Int) + 1))))]) (.cell 0 g0_0 rfl (by kernel_rfl) (by kernel_rfl) (.tmp (by kernel_rfl) (.tmp (by kernel_rfl) .nil))) rfl (fun W S => ⟨rfl, S.below⟩)
  replace h := H.f q3 h
  refine c_skip ?_
  refine c_seq ?_
  refine r_start ?_
  refine p 2 ?_
  refine xq rfl (y_idx (e := eS) (el := 9) hy9_1 (s_own 1)) ?_
  refine xq rfl (y_el (e := eS) 0 (.string (bs y9_1)) hy9_1 (s_own 1)) ?_
  refine p 4 ?_
  refine rend ?_
  refine c_seq ?_
  refine r_start ?_
  refine p 1 ?_
  obtain ⟨y13_1, hy13_1, h⟩ := H.call h
  refine xq rfl (y_idx (e := eS) (el := 9) hy13_1 (s_own 1)) ?_
  refine xq rfl (y_el (e := eS) 0 (.string (bs y13_1)) hy13_1 (s_own 1)) ?_
  obtain ⟨v13_3, hv13_3, h⟩ := H.call h
  refine xq rfl (y_call [.string (bs y13_1)] (.tuple #[.agg (ePlace v13_3.1).toArray, .bool v13_3.2]) func107 (fun W S => C.s_plParse W hv13_3)) ?_
  refine p 3 ?_
  refine xx rfl (x_new (ePlace zPlace) fun g13_7 => ?_)
  refine xx rfl (x_sto 5 g13_7 0 (ePlace v13_3.1) ?_)
  refine p 1 ?_
  refine rend ?_
  refine c_seq ?_
  refine c_seq ?_
  refine r_start ?_
  refine p 2 ?_
  refine rend ?_
  refine frg (fun u => (jk u 0 2 (.pointer (some ⟨g0_0, 0, none⟩) :: (jk u 3 2 (.slice A1_1 (List.length v1_1) k1_1 :: .pointer (some ⟨g4_1, 0, none⟩) :: .int .i64 (wr ((wr (0 + (wr ((List.length y5_1 : Int) + 1)))) + (wr ((List.length y9_1 : Int) + 1)))) :: .pointer (some ⟨g5_7, 0, none⟩) :: (jk u 9 1 (.pointer (some ⟨g9_7, 0, none⟩) :: .pointer (some ⟨g13_7, 0, none⟩) :: (jk u 12 52 (.bool (!v13_3.2) :: (jk u 65 26 [])))))))))) (by kernel_rfl) fun u => ?_
  refine keep 6 (its' := [box g0_0 44 (eHand zHand), rowT eS w.heap.size 9 (.slice A1_1 (List.length v1_1) k1_1) v1_1, box g4_1 44 (eHand zHand), box g5_7 36 (eShape v5_3.1), box g9_7 38 (eOrient v9_3.1), box g13_7 40 (ePlace v13_3.1)]) (by kernel_rfl) ?_
  refine c_or (!v13_3.2) (fun q4 => ?_) (fun q4 => ?_)
  · replace h := H.t q4 h
    refine c_seq ?_
    refine r_start ?_
    refine p 2 ?_
    refine xx rfl (x_sto 0 g0_0 0 (eHand zHand) ?_)
    refine p 2 ?_
    refine rend ?_
    replace h := H.done h
    subst h
    exact ret func69 rfl (vs := [.agg (eHand zHand).toArray, .int .i64 5, .int .i64 (wr ((wr (0 + (wr ((List.length y5_1 : Int) + 1)))) + (wr ((List.length y9_1 : Int) + 1))))]) (.cell 0 g0_0 rfl (by kernel_rfl) (by kernel_rfl) (.tmp (by kernel_rfl) (.tmp (by kernel_rfl) .nil))) rfl (fun W S => ⟨rfl, S.below⟩)
  replace h := H.f q4 h
  refine c_skip ?_
  refine c_seq ?_
  refine r_start ?_
  refine p 2 ?_
  refine xq rfl (y_idx (e := eS) (el := 9) hy13_1 (s_own 1)) ?_
  refine xq rfl (y_el (e := eS) 0 (.string (bs y13_1)) hy13_1 (s_own 1)) ?_
  refine p 4 ?_
  refine rend ?_
  refine c_seq ?_
  refine r_start ?_
  refine p 1 ?_
  obtain ⟨y17_1, hy17_1, h⟩ := H.call h
  refine xq rfl (y_idx (e := eS) (el := 9) hy17_1 (s_own 1)) ?_
  refine xq rfl (y_el (e := eS) 0 (.string (bs y17_1)) hy17_1 (s_own 1)) ?_
  obtain ⟨v17_3, hv17_3, h⟩ := H.call h
  refine xq rfl (y_call [.string (bs y17_1)] (.tuple #[.agg (eMove v17_3.1).toArray, .bool v17_3.2]) func108 (fun W S => C.s_mvParse W hv17_3)) ?_
  refine p 3 ?_
  refine xx rfl (x_new (eMove zMove) fun g17_7 => ?_)
  refine xx rfl (x_sto 6 g17_7 0 (eMove v17_3.1) ?_)
  refine p 1 ?_
  refine rend ?_
  refine c_seq ?_
  refine c_seq ?_
  refine r_start ?_
  refine p 2 ?_
  refine rend ?_
  refine c_or (!v17_3.2) (fun q5 => ?_) (fun q5 => ?_)
  · replace h := H.t q5 h
    refine c_seq ?_
    refine r_start ?_
    refine p 2 ?_
    refine xx rfl (x_sto 0 g0_0 0 (eHand zHand) ?_)
    refine p 2 ?_
    refine rend ?_
    replace h := H.done h
    subst h
    exact ret func69 rfl (vs := [.agg (eHand zHand).toArray, .int .i64 6, .int .i64 (wr ((wr ((wr (0 + (wr ((List.length y5_1 : Int) + 1)))) + (wr ((List.length y9_1 : Int) + 1)))) + (wr ((List.length y13_1 : Int) + 1))))]) (.cell 0 g0_0 rfl (by kernel_rfl) (by kernel_rfl) (.tmp (by kernel_rfl) (.tmp (by kernel_rfl) .nil))) rfl (fun W S => ⟨rfl, S.below⟩)
  replace h := H.f q5 h
  refine c_skip ?_
  refine c_seq ?_
  refine r_start ?_
  refine xq rfl (y_load (.agg (eShape v5_3.1).toArray) 3 g5_7 0) ?_
  refine xq rfl (y_load (.agg (eOrient v9_3.1).toArray) 4 g9_7 0) ?_
  refine xq rfl (y_load (.agg (ePlace v13_3.1).toArray) 5 g13_7 0) ?_
  refine xq rfl (y_load (.agg (eMove v17_3.1).toArray) 6 g17_7 0) ?_
  refine p 1 ?_
  refine xx rfl (x_sto 2 g4_1 0 (eHand (⟨v5_3.1, v9_3.1, v13_3.1, v17_3.1⟩ : Hand)) ?_)
  refine rend ?_
  refine c_seq ?_
  refine r_start ?_
  refine xq rfl (y_load (.agg (eHand (⟨v5_3.1, v9_3.1, v13_3.1, v17_3.1⟩ : Hand)).toArray) 2 g4_1 0) ?_
  refine xx rfl (x_sto 0 g0_0 0 (eHand (⟨v5_3.1, v9_3.1, v13_3.1, v17_3.1⟩ : Hand)) ?_)
  refine p 2 ?_
  refine rend ?_
  replace h := H.done h
  subst h
  exact ret func69 rfl (vs := [.agg (eHand (⟨v5_3.1, v9_3.1, v13_3.1, v17_3.1⟩ : Hand)).toArray, .int .i64 0, .int .i64 0]) (.cell 0 g0_0 rfl (by kernel_rfl) (by kernel_rfl) (.tmp (by kernel_rfl) (.tmp (by kernel_rfl) .nil))) rfl (fun W S => ⟨rfl, S.below⟩)
theorem C.s_mvTimes {fu : Nat} {a0 : Str} {a1 : Int} {r : Str} (w : World) (h : X.s_mvTimes fu a0 a1 = some r) : Calls prog 101 #[.string (bs a0), .int .i64 a1] w (Ret w (.string (bs r))) := by
  refine calls (M := no) (args := [.string (bs a0), .int .i64 a1]) func101 rfl ?_
  replace h : H (X.s_mvTimes fu a0 a1) (fun o => o = r) := H.mk h
  unfold X.s_mvTimes at h
  refine c_seq ?_
  refine r_start ?_
  refine p 1 ?_
  refine rend ?_
  refine c_seq ?_
  refine r_start ?_
  refine p 1 ?_
  refine rend ?_
  refine c_seq ?_
  refine c_block ?_
  refine joinH (X := Str) 0 (H.bnd h) (fun (x : Str) => x) (fun t3 => []) (fun t3 u => (jk u 0 5 (.string (bs t3) :: (jk u 6 8 [])))) (fun h hj4 => ?_) ?_
  · skip
    refine loopR (X := (Int × Str)) (fun (x : (Int × Str)) => x) (fun ⟨n1, t2⟩ => []) (fun ⟨n1, t2⟩ u => (.string (bs a0) :: .int .i64 n1 :: (jk u 2 3 (.string (bs t2) :: (jk u 6 8 []))))) (a1, ([] : Str)) h (by kernel_rfl) (by kernel_rfl) ?_
    intro x u h
    obtain ⟨n1, t2⟩ := x
    refine c_seq ?_
    refine c_seq ?_
    refine r_start ?_
    refine p 2 ?_
    refine rend ?_
    refine c_or (decide (n1 > 0)) (fun q5 => ?_) (fun q5 => ?_)
    · replace h := H.t q5 h
      refine c_skip ?_
      refine c_seq ?_
      refine c_block ?_
      refine r_start ?_
      refine p 2 ?_
      obtain ⟨y4_2, hy4_2, h⟩ := H.call h
      refine xq rfl (y_cat hy4_2) ?_
      refine p 1 ?_
      refine rend ?_
      refine c_inb ?_
      refine r_start ?_
      refine p 3 ?_
      refine rend ?_
      replace h := H.inl h
      exact h ((wr (n1 - 1)), y4_2) _ _ rfl (by kernel_rfl) (by kernel_rfl)
    replace h := H.f q5 h
    refine cx ?_
    replace h := H.inr h
    exact hj4 t2 _ _ h (by kernel_rfl) (by kernel_rfl)
  intro t3 u h
  refine c_seq ?_
  refine r_start ?_
  refine p 2 ?_
  refine rend ?_
  replace h := H.done h
  subst h
  exact ret func101 rfl (vs := [.string (bs t3)]) (.tmp (by kernel_rfl) .nil) rfl (fun W S => ⟨rfl, S.below⟩)
theorem C.s_mvAll {fu : Nat} {a0 : Move} {r : Str} (w : World) (h : X.s_mvAll fu a0 = some r) : Calls prog 63 #[.agg (eMove a0).toArray] w (Ret w (.string (bs r))) := by
  refine calls (M := no) (args := [.agg (eMove a0).toArray]) func63 rfl ?_
  replace h : H (X.s_mvAll fu a0) (fun o => o = r) := H.mk h
  unfold X.s_mvAll at h
  refine c_seq ?_
  refine r_start ?_
  refine xx rfl (x_box (eMove a0) fun g0_0 => ?_)
  refine p 1 ?_
  refine rend ?_
  refine c_seq ?_
  refine r_start ?_
  refine p 1 ?_
  refine xq rfl (y_load (.string (bs a0.Steps)) 0 g0_0 0) ?_
  refine p 1 ?_
  refine xq rfl (y_load (.int .i64 a0.Repeat) 0 g0_0 1) ?_
  obtain ⟨v1_4, hv1_4, h⟩ := H.call h
  refine xq rfl (y_call [.string (bs a0.Steps), .int .i64 a0.Repeat] (.string (bs v1_4)) func101 (fun W S => C.s_mvTimes W hv1_4)) ?_
  refine p 1 ?_
  refine rend ?_
  replace h := H.done h
  subst h
  exact ret func63 rfl (vs := [.string (bs v1_4)]) (.tmp (by kernel_rfl) .nil) rfl (fun W S => ⟨rfl, S.below⟩)
theorem C.s_siPlain {fu : Nat} {r : (List Shape)} (w : World) (h : X.s_siPlain fu = some r) : Calls prog 109 #[] w (RetR nShape 36 w r (fun v => v)) := by
  refine calls (M := no) (args := []) func109 rfl ?_
  replace h : H (X.s_siPlain fu) (fun o => o = r) := H.mk h
  unfold X.s_siPlain at h
  refine c_seq ?_
  refine r_start ?_
  refine p 1 ?_
  refine rend ?_
  refine c_seq ?_
  refine r_start ?_
  refine p 1 ?_
  refine rend ?_
  refine c_seq ?_
  refine c_seq ?_
  refine r_start ?_
  refine xx rfl (e_lit (e := eS) (el := 9) [.string (bs ([48, 48, 48, 48, 48] : Str)), .string (bs ([48, 48, 48, 48, 48, 115] : Str)), .string (bs ([50, 50, 50, 50, 50] : Str)), .string (bs ([49, 48, 48, 48, 48] : Str)), .string (bs ([49, 48, 50, 50, 50] : Str)), .string (bs ([48, 48, 50, 50, 50] : Str))] ([([48, 48, 48, 48, 48] : Str), ([48, 48, 48, 48, 48, 115] : Str), ([50, 50, 50, 50, 50] : Str), ([49, 48, 48, 48, 48] : Str), ([49, 48, 50, 50, 50] : Str), ([48, 48, 50, 50, 50] : Str)] : List Str) fun A2_0 k2_0 => ?_)
  refine p 2 ?_
  refine rend ?_
  refine c_block ?_
  refine c_nil nShape 36 ?_
  refine joinH (X := ((List Shape) × Option Addr × Nat)) 0 (H.bnd h) (fun ⟨l4, A5, k6⟩ => l4) (fun ⟨l4, A5, k6⟩ => [rowT eS w.heap.size 9 (.slice A2_0 (List.length ([([48, 48, 48, 48, 48] : Str), ([48, 48, 48, 48, 48, 115] : Str), ([50, 50, 50, 50, 50] : Str), ([49, 48, 48, 48, 48] : Str), ([49, 48, 50, 50, 50] : Str), ([48, 48, 50, 50, 50] : Str)] : List Str)) k2_0) ([([48, 48, 48, 48, 48] : Str), ([48, 48, 48, 48, 48, 115] : Str), ([50, 50, 50, 50, 50] : Str), ([49, 48, 48, 48, 48] : Str), ([49, 48, 50, 50, 50] : Str), ([48, 48, 50, 50, 50] : Str)] : List Str), rowT nShape w.heap.size 36 (.slice A5 (List.length l4) k6) l4]) (fun ⟨l4, A5, k6⟩ u => (jk u 0 1 (.slice A5 (List.length l4) k6 :: (jk u 2 21 [])))) (fun h hj7 => ?_) ?_
  · skip
    refine rangeR (X := ((List Shape) × Option Addr × Nat)) (s_own 0) (fun ⟨l1, A2, k3⟩ => l1) (fun ⟨l1, A2, k3⟩ => [rowT eS w.heap.size 9 (.slice A2_0 (List.length ([([48, 48, 48, 48, 48] : Str), ([48, 48, 48, 48, 48, 115] : Str), ([50, 50, 50, 50, 50] : Str), ([49, 48, 48, 48, 48] : Str), ([49, 48, 50, 50, 50] : Str), ([48, 48, 50, 50, 50] : Str)] : List Str)) k2_0) ([([48, 48, 48, 48, 48] : Str), ([48, 48, 48, 48, 48, 115] : Str), ([50, 50, 50, 50, 50] : Str), ([49, 48, 48, 48, 48] : Str), ([49, 48, 50, 50, 50] : Str), ([48, 48, 50, 50, 50] : Str)] : List Str), rowT nShape w.heap.size 36 (.slice A2 (List.length l1) k3) l1]) (fun (j8 : Nat) ⟨l1, A2, k3⟩ u => (jk u 0 1 (.slice A2 (List.length l1) k3 :: (jk u 2 4 (.slice A2_0 (List.length ([([48, 48, 48, 48, 48] : Str), ([48, 48, 48, 48, 48, 115] : Str), ([50, 50, 50, 50, 50] : Str), ([49, 48, 48, 48, 48] : Str), ([49, 48, 50, 50, 50] : Str), ([48, 48, 50, 50, 50] : Str)] : List Str)) k2_0 :: .int .i64 (List.length ([([48, 48, 48, 48, 48] : Str), ([48, 48, 48, 48, 48, 115] : Str), ([50, 50, 50, 50, 50] : Str), ([49, 48, 48, 48, 48] : Str), ([49, 48, 50, 50, 50] : Str), ([48, 48, 50, 50, 50] : Str)] : List Str) : Int) :: .int .i64 (j8 : Int) :: (jk u 9 14 [])))))) (([] : List Shape), none, 0) h (by kernel_rfl) (by kernel_rfl) ?_ ?_
    · intro j8 x u x9 q10 hg11 hw12 h
      obtain ⟨l1, A2, k3⟩ := x
      refine c_seq ?_
      refine r_start ?_
      refine p 1 ?_
      refine rend ?_
      refine c_seq ?_
      refine c_yes q10 ?_
      refine c_skip ?_
      refine c_seq ?_
      refine c_block ?_
      refine c_seq ?_
      refine r_start ?_
      refine xq rfl (y_idx (e := eS) (el := 9) hg11 (s_own 0)) ?_
      refine xq rfl (y_el (e := eS) 0 (.string (bs x9)) hg11 (s_own 0)) ?_
      refine p 1 ?_
      refine rend ?_
      refine c_seq ?_
      refine r_start ?_
      refine p 1 ?_
      obtain ⟨v5_1, hv5_1, h⟩ := H.call h
      refine xq rfl (y_call [.string (bs x9)] (.tuple #[.agg (eShape v5_1.1).toArray, .bool v5_1.2]) func105 (fun W S => C.s_shParse W hv5_1)) ?_
      refine p 3 ?_
      refine xx rfl (x_new (eShape zShape) fun g5_5 => ?_)
      refine xx rfl (x_sto 2 g5_5 0 (eShape v5_1.1) ?_)
      refine p 1 ?_
      refine rend ?_
      refine r_start ?_
      refine p 1 ?_
      refine xq rfl (y_load (.agg (eShape v5_1.1).toArray) 2 g5_5 0) ?_
      refine xx rfl (e_lit (e := nShape) (el := 36) [.agg (eShape v5_1.1).toArray] ([v5_1.1] : List Shape) fun A6_2 k6_2 => ?_)
      obtain ⟨y6_3, hy6_3, h⟩ := H.call h
      refine xx rfl (e_app 1 hy6_3 (s_own 3) fun A6_3 k6_3 => ?_)
      refine p 1 ?_
      refine rend ?_
      refine c_inb ?_
      refine r_start ?_
      refine p 2 ?_
      refine rend ?_
      refine c_set 8 (ci hw12) ?_
      replace h := H.inl h
      exact h (y6_3, A6_3, k6_3) _ _ rfl (by kernel_rfl) (by kernel_rfl)
    · intro x u q10 h
      obtain ⟨l1, A2, k3⟩ := x
      refine c_seq ?_
      refine r_start ?_
      refine p 1 ?_
      refine rend ?_
      refine c_seq ?_
      refine c_no q10 ?_
      refine cx ?_
      replace h := H.done h
      exact hj7 (l1, A2, k3) _ _ h (by kernel_rfl) (by kernel_rfl)
  intro x u h
  obtain ⟨l4, A5, k6⟩ := x
  refine c_seq ?_
  refine r_start ?_
  refine p 2 ?_
  refine rend ?_
  replace h := H.done h
  subst h
  exact ret func109 rfl (vs := [.slice A5 (List.length l4) k6]) (.tmp (by kernel_rfl) .nil) rfl (fun W S => ⟨_, _, rfl, S.row 1, S.below⟩)
theorem C.s_orSwap {a0 : Int} {r : Int} (w : World) (h : X.s_orSwap a0 = some r) : Calls prog 171 #[.int .i64 a0] w (Ret w (.int .i64 r)) := by
  refine calls (M := no) (args := [.int .i64 a0]) func171 rfl ?_
  replace h : H (X.s_orSwap a0) (fun o => o = r) := H.mk h
  unfold X.s_orSwap at h
  refine c_seq ?_
  refine r_start ?_
  refine p 1 ?_
  refine rend ?_
  refine c_seq ?_
  refine c_seq ?_
  refine r_start ?_
  refine p 3 ?_
  refine br (a0 == 2) (fun q1 => ?_) (fun q1 => ?_)
  · replace h := H.t q1 h
    refine o_set 5 (congrArg Value.bool q1) ?_
    refine p 3 ?_
    refine rend ?_
    refine c_t (by kernel_rfl) ?_
    refine c_seq ?_
    refine r_start ?_
    refine p 1 ?_
    obtain ⟨v2_1, hv2_1, h⟩ := H.call h
    refine xq rfl (y_call [.int .i64 a0] (.int .i64 v2_1) func209 (fun W S => C.s_orOpposite W hv2_1)) ?_
    refine p 1 ?_
    refine rend ?_
    replace h := H.done h
    subst h
    exact ret func171 rfl (vs := [.int .i64 v2_1]) (.tmp (by kernel_rfl) .nil) rfl (fun W S => ⟨rfl, S.below⟩)
  replace h := H.f q1 h
  refine o_set 5 (congrArg Value.bool q1) ?_
  refine p 3 ?_
  refine rend ?_
  refine c_or (a0 == 3) (fun q2 => ?_) (fun q2 => ?_)
  · replace h := H.t q2 h
    refine c_seq ?_
    refine r_start ?_
    refine p 1 ?_
    obtain ⟨v2_1, hv2_1, h⟩ := H.call h
    refine xq rfl (y_call [.int .i64 a0] (.int .i64 v2_1) func209 (fun W S => C.s_orOpposite W hv2_1)) ?_
    refine p 1 ?_
    refine rend ?_
    replace h := H.done h
    subst h
    exact ret func171 rfl (vs := [.int .i64 v2_1]) (.tmp (by kernel_rfl) .nil) rfl (fun W S => ⟨rfl, S.below⟩)
  replace h := H.f q2 h
  refine c_skip ?_
  refine c_seq ?_
  refine r_start ?_
  refine p 2 ?_
  refine rend ?_
  replace h := H.done h
  subst h
  exact ret func171 rfl (vs := [.int .i64 a0]) (.tmp (by kernel_rfl) .nil) rfl (fun W S => ⟨rfl, S.below⟩)
theorem C.s_orMirror {a0 : Orient} {r : Orient} (w : World) (h : X.s_orMirror a0 = some r) : Calls prog 110 #[.agg (eOrient a0).toArray] w (Ret w (.agg (eOrient r).toArray)) := by
  refine calls (M := no) (args := [.agg (eOrient a0).toArray]) func110 rfl ?_
  replace h : H (X.s_orMirror a0) (fun o => o = r) := H.mk h
  unfold X.s_orMirror at h
  refine c_seq ?_
  refine r_start ?_
  refine xx rfl (x_box (eOrient a0) fun g0_0 => ?_)
  refine xx rfl (x_new (eOrient zOrient) fun g0_1 => ?_)
  refine rend ?_
  refine c_seq ?_
  refine pick [0, 1] [box g0_0 38 (eOrient a0), box g0_1 38 (eOrient zOrient)] ?_
  refine as_startN 8 1 8 ?_
  refine ap 0 1 ?_
  refine aq 1 rfl (y_load (.int .i64 a0.Palm) 0 g0_0 0) ?_
  obtain ⟨v1_2, hv1_2, h⟩ := H.call h
  refine aq 2 rfl (y_call [.int .i64 a0.Palm] (.int .i64 v1_2) func171 (fun W S => C.s_orSwap W hv1_2)) ?_
  refine ap 3 1 ?_
  refine aq 4 rfl (y_load (.int .i64 a0.Fingers) 0 g0_0 1) ?_
  obtain ⟨v1_5, hv1_5, h⟩ := H.call h
  refine aq 5 rfl (y_call [.int .i64 a0.Fingers] (.int .i64 v1_5) func171 (fun W S => C.s_orSwap W hv1_5)) ?_
  refine ap 6 1 ?_
  refine ax 7 rfl (x_sto 1 g0_1 0 (eOrient (⟨v1_2, v1_5⟩ : Orient)) ⟨.inr (by kernel_rfl), ?_⟩)
  refine a_done ?_
  refine pick [0, 1] [box g0_0 38 (eOrient a0), box g0_1 38 (eOrient (⟨v1_2, v1_5⟩ : Orient))] ?_
  replace h := H.done h
  subst h
  exact ret func110 rfl (vs := [.agg (eOrient (⟨v1_2, v1_5⟩ : Orient)).toArray]) (.cell 1 g0_1 rfl (by kernel_rfl) (by kernel_rfl) .nil) rfl (fun W S => ⟨rfl, S.below⟩)
theorem C.s_mvMirror {fu : Nat} {a0 : Move} {r : Move} (w : World) (h : X.s_mvMirror fu a0 = some r) : Calls prog 111 #[.agg (eMove a0).toArray] w (Ret w (.agg (eMove r).toArray)) := by
  refine calls (M := no) (args := [.agg (eMove a0).toArray]) func111 rfl ?_
  replace h : H (X.s_mvMirror fu a0) (fun o => o = r) := H.mk h
  unfold X.s_mvMirror at h
  refine c_seq ?_
  refine r_start ?_
  refine xx rfl (x_box (eMove a0) fun g0_0 => ?_)
  refine xx rfl (x_new (eMove zMove) fun g0_1 => ?_)
  refine rend ?_
  refine c_seq ?_
  refine r_start ?_
  refine p 1 ?_
  refine rend ?_
  refine c_seq ?_
  refine c_seq ?_
  refine r_start ?_
  refine p 1 ?_
  refine rend ?_
  refine c_block ?_
  refine joinH (X := Str) 0 (H.bnd h) (fun (x : Str) => x) (fun t3 => [box g0_0 42 (eMove a0), box g0_1 42 (eMove zMove)]) (fun t3 u => (jk u 0 1 (.pointer (some ⟨g0_0, 0, none⟩) :: .pointer (some ⟨g0_1, 0, none⟩) :: .string (bs t3) :: (jk u 4 32 [])))) (fun h hj4 => ?_) ?_
  · skip
    refine loopR (X := (Str × Int)) (fun (x : (Str × Int)) => x) (fun ⟨t1, n2⟩ => [box g0_0 42 (eMove a0), box g0_1 42 (eMove zMove)]) (fun ⟨t1, n2⟩ u => (jk u 0 1 (.pointer (some ⟨g0_0, 0, none⟩) :: .pointer (some ⟨g0_1, 0, none⟩) :: .string (bs t1) :: .int .i64 n2 :: (jk u 5 31 [])))) (([] : Str), 0) h (by kernel_rfl) (by kernel_rfl) ?_
    intro x u h
    obtain ⟨t1, n2⟩ := x
    refine c_seq ?_
    refine c_seq ?_
    refine r_start ?_
    refine p 2 ?_
    refine xq rfl (y_load (.string (bs a0.Steps)) 0 g0_0 0) ?_
    refine p 2 ?_
    refine rend ?_
    refine c_or (decide (n2 < (List.length a0.Steps : Int))) (fun q5 => ?_) (fun q5 => ?_)
    · replace h := H.t q5 h
      refine c_skip ?_
      refine c_seq ?_
      refine c_block ?_
      refine c_seq ?_
      refine r_start ?_
      refine p 1 ?_
      refine xq rfl (y_load (.string (bs a0.Steps)) 0 g0_0 0) ?_
      refine p 1 ?_
      obtain ⟨y5_3, hy5_3, h⟩ := H.call h
      refine xq rfl (y_byte hy5_3) ?_
      refine rend ?_
      refine c_block ?_
      refine c_seq ?_
      refine r_start ?_
      refine p 2 ?_
      refine rend ?_
      refine c_or (y5_3 == 108) (fun q6 => ?_) (fun q6 => ?_)
      · replace h := H.t q6 h
        refine r_start ?_
        refine p 1 ?_
        obtain ⟨y8_1, hy8_1, h⟩ := H.call h
        refine xq rfl (y_cat hy8_1) ?_
        refine p 1 ?_
        refine rend ?_
        refine c_inb ?_
        refine c_inb ?_
        refine r_start ?_
        refine p 3 ?_
        refine rend ?_
        replace h := H.inl h
        exact h (y8_1, (wr (n2 + 1))) _ _ rfl (by kernel_rfl) (by kernel_rfl)
      replace h := H.f q6 h
      refine c_seq ?_
      refine r_start ?_
      refine p 2 ?_
      refine rend ?_
      refine c_or (y5_3 == 114) (fun q7 => ?_) (fun q7 => ?_)
      · replace h := H.t q7 h
        refine r_start ?_
        refine p 1 ?_
        obtain ⟨y10_1, hy10_1, h⟩ := H.call h
        refine xq rfl (y_cat hy10_1) ?_
        refine p 1 ?_
        refine rend ?_
        refine c_inb ?_
        refine c_inb ?_
        refine r_start ?_
        refine p 3 ?_
        refine rend ?_
        replace h := H.inl h
        exact h (y10_1, (wr (n2 + 1))) _ _ rfl (by kernel_rfl) (by kernel_rfl)
      replace h := H.f q7 h
      refine r_start ?_
      refine p 2 ?_
      refine xq rfl (y_load (.string (bs a0.Steps)) 0 g0_0 0) ?_
      refine p 3 ?_
      obtain ⟨y6_6, hy6_6, h⟩ := H.call h
      refine xq rfl (y_cut hy6_6) ?_
      obtain ⟨y6_7, hy6_7, h⟩ := H.call h
      refine xq rfl (y_cat hy6_7) ?_
      refine p 1 ?_
      refine rend ?_
      refine c_inb ?_
      refine c_inb ?_
      refine r_start ?_
      refine p 3 ?_
      refine rend ?_
      replace h := H.inl h
      exact h (y6_7, (wr (n2 + 1))) _ _ rfl (by kernel_rfl) (by kernel_rfl)
    replace h := H.f q5 h
    refine cx ?_
    replace h := H.inr h
    exact hj4 t1 _ _ h (by kernel_rfl) (by kernel_rfl)
  intro t3 u h
  refine c_seq ?_
  refine r_start ?_
  refine p 2 ?_
  refine xq rfl (y_load (.int .i64 a0.Repeat) 0 g0_0 1) ?_
  refine p 1 ?_
  refine xx rfl (x_sto 1 g0_1 0 (eMove ({ a0 with Steps := t3 })) ?_)
  refine rend ?_
  replace h := H.done h
  subst h
  exact ret func111 rfl (vs := [.agg (eMove ({ a0 with Steps := t3 })).toArray]) (.cell 1 g0_1 rfl (by kernel_rfl) (by kernel_rfl) .nil) rfl (fun W S => ⟨rfl, S.below⟩)
theorem C.s_siBroken {fu : Nat} {a0 : Hand} {a1 : Hand} {r : Int} (w : World) (h : X.s_siBroken fu a0 a1 = some r) : Calls prog 70 #[.agg (eHand a0).toArray, .agg (eHand a1).toArray] w (Ret w (.int .i64 r)) := by
  refine calls (M := no) (args := [.agg (eHand a0).toArray, .agg (eHand a1).toArray]) func70 rfl ?_
  replace h : H (X.s_siBroken fu a0 a1) (fun o => o = r) := H.mk h
  unfold X.s_siBroken at h
  refine c_seq ?_
  refine r_start ?_
  refine xx rfl (x_box (eHand a0) fun g0_0 => ?_)
  refine xx rfl (x_box (eHand a1) fun g0_1 => ?_)
  refine p 1 ?_
  refine rend ?_
  refine c_seq ?_
  refine c_seq ?_
  refine r_start ?_
  refine p 2 ?_
  refine xq rfl (y_load (.string (bs a1.Move.Steps)) 1 g0_1 11) ?_
  refine p 1 ?_
  refine rend ?_
  refine c_or (seq a1.Move.Steps ([] : Str)) (fun q1 => ?_) (fun q1 => ?_)
  · replace h := H.t q1 h
    refine c_seq ?_
    refine c_seq ?_
    refine r_start ?_
    refine p 1 ?_
    refine xq rfl (y_load (.agg (eShape a0.Shape).toArray) 0 g0_0 0) ?_
    refine p 1 ?_
    refine xq rfl (y_load (.agg (eShape a1.Shape).toArray) 1 g0_1 0) ?_
    refine p 1 ?_
    refine rend ?_
    refine c_or (qShape a0.Shape a1.Shape) (fun q2 => ?_) (fun q2 => ?_)
    · replace h := H.t q2 h
      refine c_seq ?_
      refine r_start ?_
      refine p 1 ?_
      refine rend ?_
      replace h := H.done h
      subst h
      exact ret func70 rfl (vs := [.int .i64 0]) (.tmp (by kernel_rfl) .nil) rfl (fun W S => ⟨rfl, S.below⟩)
    replace h := H.f q2 h
    refine c_skip ?_
    refine c_seq ?_
    refine c_seq ?_
    refine r_start ?_
    obtain ⟨v4_0, hv4_0, h⟩ := H.call h
    refine xx rfl (e_cr [] (fun v => v) func109 (fun W S => C.s_siPlain W hv4_0) fun A4_0 k4_0 => ?_)
    refine p 2 ?_
    refine rend ?_
    refine c_block ?_
    refine joinE (X := Unit) 0 (H.or h) (fun (x : Unit) => x) (fun _ => [box g0_0 44 (eHand a0), box g0_1 44 (eHand a1), rowT nShape w.heap.size 36 (.slice A4_0 (List.length v4_0) k4_0) v4_0]) (fun _ u => (jk u 0 70 [])) (fun h hj3 => ?_) ?_
    · skip
      refine rangeR (X := Unit) (s_own 2) (fun (x : Unit) => x) (fun _ => [box g0_0 44 (eHand a0), box g0_1 44 (eHand a1), rowT nShape w.heap.size 36 (.slice A4_0 (List.length v4_0) k4_0) v4_0]) (fun (j4 : Nat) _ u => (jk u 0 3 (.pointer (some ⟨g0_1, 0, none⟩) :: (jk u 4 12 (.slice A4_0 (List.length v4_0) k4_0 :: .int .i64 (List.length v4_0 : Int) :: .int .i64 (j4 : Int) :: (jk u 19 51 [])))))) () h (by kernel_rfl) (by kernel_rfl) ?_ ?_
      · intro j4 x u x5 q6 hg7 hw8 h
        refine c_seq ?_
        refine r_start ?_
        refine p 1 ?_
        refine rend ?_
        refine c_seq ?_
        refine c_yes q6 ?_
        refine c_skip ?_
        refine c_seq ?_
        refine c_block ?_
        refine c_seq ?_
        refine r_start ?_
        refine xq rfl (y_idx (e := nShape) (el := 36) hg7 (s_own 2)) ?_
        refine xq rfl (y_el (e := nShape) 0 (.agg (eShape x5).toArray) hg7 (s_own 2)) ?_
        refine xx rfl (x_new (eShape zShape) fun g6_2 => ?_)
        refine xx rfl (x_sto 3 g6_2 0 (eShape x5) ?_)
        refine rend ?_
        refine c_seq ?_
        refine r_start ?_
        refine xq rfl (y_load (.agg (eShape x5).toArray) 3 g6_2 0) ?_
        refine p 1 ?_
        refine xq rfl (y_load (.agg (eShape a1.Shape).toArray) 1 g0_1 0) ?_
        refine p 1 ?_
        refine rend ?_
        refine c_or (qShape x5 a1.Shape) (fun q9 => ?_) (fun q9 => ?_)
        · replace h := H.t q9 h
          refine c_seq ?_
          refine r_start ?_
          refine p 1 ?_
          refine rend ?_
          replace h := H.inr h
          replace h := H.done h
          subst h
          exact ret func70 rfl (vs := [.int .i64 0]) (.tmp (by kernel_rfl) .nil) rfl (fun W S => ⟨rfl, S.below⟩)
        replace h := H.f q9 h
        refine c_skip ?_
        refine c_inb ?_
        refine r_start ?_
        refine p 2 ?_
        refine rend ?_
        refine c_set 18 (ci hw8) ?_
        replace h := H.inl h
        exact h () _ _ rfl (by kernel_rfl) (by kernel_rfl)
      · intro x u q6 h
        refine c_seq ?_
        refine r_start ?_
        refine p 1 ?_
        refine rend ?_
        refine c_seq ?_
        refine c_no q6 ?_
        refine cx ?_
        replace h := H.done h
        exact hj3 () _ _ h (by kernel_rfl) (by kernel_rfl)
    intro x u h
    refine c_seq ?_
    refine r_start ?_
    refine p 1 ?_
    refine rend ?_
    replace h := H.done h
    subst h
    exact ret func70 rfl (vs := [.int .i64 4]) (.tmp (by kernel_rfl) .nil) rfl (fun W S => ⟨rfl, S.below⟩)
  replace h := H.f q1 h
  refine c_skip ?_
  refine c_seq ?_
  refine c_block ?_
  refine c_seq ?_
  refine r_start ?_
  refine p 2 ?_
  refine xq rfl (y_load (.string (bs a0.Move.Steps)) 0 g0_0 11) ?_
  refine p 2 ?_
  refine rend ?_
  refine c_or (seq a0.Move.Steps ([] : Str)) (fun q10 => ?_) (fun q10 => ?_)
  · replace h := H.t q10 h
    refine c_seq ?_
    refine r_start ?_
    refine p 1 ?_
    refine rend ?_
    replace h := H.done h
    subst h
    exact ret func70 rfl (vs := [.int .i64 3]) (.tmp (by kernel_rfl) .nil) rfl (fun W S => ⟨rfl, S.below⟩)
  replace h := H.f q10 h
  refine c_seq ?_
  refine r_start ?_
  refine p 1 ?_
  refine xq rfl (y_load (.agg (eShape a0.Shape).toArray) 0 g0_0 0) ?_
  refine p 1 ?_
  refine xq rfl (y_load (.agg (eShape a1.Shape).toArray) 1 g0_1 0) ?_
  refine p 2 ?_
  refine rend ?_
  refine c_or (!qShape a0.Shape a1.Shape) (fun q11 => ?_) (fun q11 => ?_)
  · replace h := H.t q11 h
    refine c_seq ?_
    refine r_start ?_
    refine p 1 ?_
    refine rend ?_
    replace h := H.done h
    subst h
    exact ret func70 rfl (vs := [.int .i64 1]) (.tmp (by kernel_rfl) .nil) rfl (fun W S => ⟨rfl, S.below⟩)
  replace h := H.f q11 h
  refine c_seq ?_
  refine as_start 14 14 ?_
  refine ap 0 1 ?_
  refine aq 1 rfl (y_load (.agg (eOrient a0.Orient).toArray) 0 g0_0 6) ?_
  refine ap 2 1 ?_
  refine aq 3 rfl (y_load (.agg (eOrient a1.Orient).toArray) 1 g0_1 6) ?_
  refine ap 4 2 ?_
  refine br (!qOrient a0.Orient a1.Orient) (fun q12 => ?_) (fun q12 => ?_)
  · replace h := H.t q12 h
    refine a_set 44 (congrArg Value.bool q12) ?_
    refine ap 6 1 ?_
    refine aq 7 rfl (y_load (.agg (eOrient a0.Orient).toArray) 0 g0_0 6) ?_
    refine ap 8 1 ?_
    refine aq 9 rfl (y_load (.agg (eOrient a1.Orient).toArray) 1 g0_1 6) ?_
    obtain ⟨v15_10, hv15_10, h⟩ := H.call h
    refine aq 10 rfl (y_call [.agg (eOrient a1.Orient).toArray] (.agg (eOrient v15_10).toArray) func110 (fun W S => C.s_orMirror W hv15_10)) ?_
    refine ap 11 3 ?_
    refine a_done ?_
    refine c_or (!qOrient a0.Orient v15_10) (fun q13 => ?_) (fun q13 => ?_)
    · replace h := H.t q13 h
      refine c_seq ?_
      refine r_start ?_
      refine p 1 ?_
      refine rend ?_
      replace h := H.done h
      subst h
      exact ret func70 rfl (vs := [.int .i64 2]) (.tmp (by kernel_rfl) .nil) rfl (fun W S => ⟨rfl, S.below⟩)
    replace h := H.f q13 h
    refine c_seq ?_
    refine as_start 18 18 ?_
    refine ap 0 1 ?_
    refine aq 1 rfl (y_load (.agg (eMove a0.Move).toArray) 0 g0_0 11) ?_
    obtain ⟨v17_2, hv17_2, h⟩ := H.call h
    refine aq 2 rfl (y_call [.agg (eMove a0.Move).toArray] (.string (bs v17_2)) func63 (fun W S => C.s_mvAll W hv17_2)) ?_
    refine ap 3 1 ?_
    refine aq 4 rfl (y_load (.agg (eMove a1.Move).toArray) 1 g0_1 11) ?_
    obtain ⟨v17_5, hv17_5, h⟩ := H.call h
    refine aq 5 rfl (y_call [.agg (eMove a1.Move).toArray] (.string (bs v17_5)) func63 (fun W S => C.s_mvAll W hv17_5)) ?_
    refine ap 6 2 ?_
    refine br (!seq v17_2 v17_5) (fun q14 => ?_) (fun q14 => ?_)
    · replace h := H.t q14 h
      refine a_set 60 (congrArg Value.bool q14) ?_
      refine ap 8 1 ?_
      refine aq 9 rfl (y_load (.agg (eMove a0.Move).toArray) 0 g0_0 11) ?_
      obtain ⟨v17_10, hv17_10, h⟩ := H.call h
      refine aq 10 rfl (y_call [.agg (eMove a0.Move).toArray] (.agg (eMove v17_10).toArray) func111 (fun W S => C.s_mvMirror W hv17_10)) ?_
      obtain ⟨v17_11, hv17_11, h⟩ := H.call h
      refine aq 11 rfl (y_call [.agg (eMove v17_10).toArray] (.string (bs v17_11)) func63 (fun W S => C.s_mvAll W hv17_11)) ?_
      refine ap 12 1 ?_
      refine aq 13 rfl (y_load (.agg (eMove a1.Move).toArray) 1 g0_1 11) ?_
      obtain ⟨v17_14, hv17_14, h⟩ := H.call h
      refine aq 14 rfl (y_call [.agg (eMove a1.Move).toArray] (.string (bs v17_14)) func63 (fun W S => C.s_mvAll W hv17_14)) ?_
      refine ap 15 3 ?_
      refine a_done ?_
      refine c_or (!seq v17_11 v17_14) (fun q15 => ?_) (fun q15 => ?_)
      · replace h := H.t q15 h
        refine c_seq ?_
        refine r_start ?_
        refine p 1 ?_
        refine rend ?_
        replace h := H.done h
        subst h
        exact ret func70 rfl (vs := [.int .i64 3]) (.tmp (by kernel_rfl) .nil) rfl (fun W S => ⟨rfl, S.below⟩)
      replace h := H.f q15 h
      refine c_skip ?_
      refine c_inb ?_
      refine c_seq ?_
      refine r_start ?_
      refine p 1 ?_
      refine rend ?_
      replace h := H.done h
      subst h
      exact ret func70 rfl (vs := [.int .i64 0]) (.tmp (by kernel_rfl) .nil) rfl (fun W S => ⟨rfl, S.below⟩)
    replace h := H.f q14 h
    refine a_set 60 (congrArg Value.bool q14) ?_
    refine ap 8 10 ?_
    refine a_done ?_
    refine c_f (by kernel_rfl) ?_
    refine c_skip ?_
    refine c_inb ?_
    refine c_seq ?_
    refine r_start ?_
    refine p 1 ?_
    refine rend ?_
    replace h := H.done h
    subst h
    exact ret func70 rfl (vs := [.int .i64 0]) (.tmp (by kernel_rfl) .nil) rfl (fun W S => ⟨rfl, S.below⟩)
  replace h := H.f q12 h
  refine a_set 44 (congrArg Value.bool q12) ?_
  refine ap 6 8 ?_
  refine a_done ?_
  refine c_f (by kernel_rfl) ?_
  refine c_seq ?_
  refine as_start 18 18 ?_
  refine ap 0 1 ?_
  refine aq 1 rfl (y_load (.agg (eMove a0.Move).toArray) 0 g0_0 11) ?_
  obtain ⟨v17_2, hv17_2, h⟩ := H.call h
  refine aq 2 rfl (y_call [.agg (eMove a0.Move).toArray] (.string (bs v17_2)) func63 (fun W S => C.s_mvAll W hv17_2)) ?_
  refine ap 3 1 ?_
  refine aq 4 rfl (y_load (.agg (eMove a1.Move).toArray) 1 g0_1 11) ?_
  obtain ⟨v17_5, hv17_5, h⟩ := H.call h
  refine aq 5 rfl (y_call [.agg (eMove a1.Move).toArray] (.string (bs v17_5)) func63 (fun W S => C.s_mvAll W hv17_5)) ?_
  refine ap 6 2 ?_
  refine br (!seq v17_2 v17_5) (fun q16 => ?_) (fun q16 => ?_)
  · replace h := H.t q16 h
    refine a_set 60 (congrArg Value.bool q16) ?_
    refine ap 8 1 ?_
    refine aq 9 rfl (y_load (.agg (eMove a0.Move).toArray) 0 g0_0 11) ?_
    obtain ⟨v17_10, hv17_10, h⟩ := H.call h
    refine aq 10 rfl (y_call [.agg (eMove a0.Move).toArray] (.agg (eMove v17_10).toArray) func111 (fun W S => C.s_mvMirror W hv17_10)) ?_
    obtain ⟨v17_11, hv17_11, h⟩ := H.call h
    refine aq 11 rfl (y_call [.agg (eMove v17_10).toArray] (.string (bs v17_11)) func63 (fun W S => C.s_mvAll W hv17_11)) ?_
    refine ap 12 1 ?_
    refine aq 13 rfl (y_load (.agg (eMove a1.Move).toArray) 1 g0_1 11) ?_
    obtain ⟨v17_14, hv17_14, h⟩ := H.call h
    refine aq 14 rfl (y_call [.agg (eMove a1.Move).toArray] (.string (bs v17_14)) func63 (fun W S => C.s_mvAll W hv17_14)) ?_
    refine ap 15 3 ?_
    refine a_done ?_
    refine c_or (!seq v17_11 v17_14) (fun q17 => ?_) (fun q17 => ?_)
    · replace h := H.t q17 h
      refine c_seq ?_
      refine r_start ?_
      refine p 1 ?_
      refine rend ?_
      replace h := H.done h
      subst h
      exact ret func70 rfl (vs := [.int .i64 3]) (.tmp (by kernel_rfl) .nil) rfl (fun W S => ⟨rfl, S.below⟩)
    replace h := H.f q17 h
    refine c_skip ?_
    refine c_inb ?_
    refine c_seq ?_
    refine r_start ?_
    refine p 1 ?_
    refine rend ?_
    replace h := H.done h
    subst h
    exact ret func70 rfl (vs := [.int .i64 0]) (.tmp (by kernel_rfl) .nil) rfl (fun W S => ⟨rfl, S.below⟩)
  replace h := H.f q16 h
  refine a_set 60 (congrArg Value.bool q16) ?_
  refine ap 8 10 ?_
  refine a_done ?_
  refine c_f (by kernel_rfl) ?_
  refine c_skip ?_
  refine c_inb ?_
  refine c_seq ?_
  refine r_start ?_
  refine p 1 ?_
  refine rend ?_
  replace h := H.done h
  subst h
  exact ret func70 rfl (vs := [.int .i64 0]) (.tmp (by kernel_rfl) .nil) rfl (fun W S => ⟨rfl, S.below⟩)
theorem C.s_paParse {fu : Nat} {a0 : Str} {r : (Sign × Int × Int)} (w : World) (h : X.s_paParse fu a0 = some r) : Calls prog 31 #[.string (bs a0)] w (Ret w (.tuple #[.agg (eSign r.1).toArray, .int .i64 r.2.1, .int .i64 r.2.2])) := by
  refine calls (M := no) (args := [.string (bs a0)]) func31 rfl ?_
  replace h : H (X.s_paParse fu a0) (fun o => o = r) := H.mk h
  unfold X.s_paParse at h
  refine c_seq ?_
  refine r_start ?_
  refine xx rfl (x_new (eSign zSign) fun g0_0 => ?_)
  refine p 2 ?_
  refine rend ?_
  refine c_seq ?_
  refine r_start ?_
  refine p 1 ?_
  obtain ⟨v1_1, hv1_1, h⟩ := H.call h
  refine xx rfl (e_cr [.string (bs a0), .int .u8 43] (fun v => v) func68 (fun W S => C.s_l1Split W hv1_1) fun A1_1 k1_1 => ?_)
  refine p 1 ?_
  refine rend ?_
  refine c_seq ?_
  refine c_seq ?_
  refine r_start ?_
  refine p 3 ?_
  refine rend ?_
  refine c_or (decide ((List.length v1_1 : Int) > 2)) (fun q1 => ?_) (fun q1 => ?_)
  · replace h := H.t q1 h
    refine c_seq ?_
    refine r_start ?_
    refine p 1 ?_
    refine xx rfl (x_sto 0 g0_0 0 (eSign zSign) ?_)
    refine p 2 ?_
    refine rend ?_
    replace h := H.done h
    subst h
    exact ret func31 rfl (vs := [.agg (eSign zSign).toArray, .int .i64 1, .int .i64 0]) (.cell 0 g0_0 rfl (by kernel_rfl) (by kernel_rfl) (.tmp (by kernel_rfl) (.tmp (by kernel_rfl) .nil))) rfl (fun W S => ⟨rfl, S.below⟩)
  replace h := H.f q1 h
  refine c_skip ?_
  refine c_seq ?_
  refine r_start ?_
  refine p 1 ?_
  obtain ⟨y4_1, hy4_1, h⟩ := H.call h
  refine xq rfl (y_idx (e := eS) (el := 9) hy4_1 (s_own 1)) ?_
  refine xq rfl (y_el (e := eS) 0 (.string (bs y4_1)) hy4_1 (s_own 1)) ?_
  obtain ⟨v4_3, hv4_3, h⟩ := H.call h
  refine xq rfl (y_call [.string (bs y4_1)] (.tuple #[.agg (eHand v4_3.1).toArray, .int .i64 v4_3.2.1, .int .i64 v4_3.2.2]) func69 (fun W S => C.s_paHand W hv4_3)) ?_
  refine p 4 ?_
  refine xx rfl (x_new (eHand zHand) fun g4_8 => ?_)
  refine xx rfl (x_sto 2 g4_8 0 (eHand v4_3.1) ?_)
  refine p 2 ?_
  refine rend ?_
  refine c_seq ?_
  refine c_seq ?_
  refine r_start ?_
  refine p 2 ?_
  refine rend ?_
  refine c_or (v4_3.2.1 != 0) (fun q2 => ?_) (fun q2 => ?_)
  · replace h := H.t q2 h
    refine c_seq ?_
    refine r_start ?_
    refine p 3 ?_
    refine xx rfl (x_sto 0 g0_0 0 (eSign zSign) ?_)
    refine p 2 ?_
    refine rend ?_
    replace h := H.done h
    subst h
    exact ret func31 rfl (vs := [.agg (eSign zSign).toArray, .int .i64 v4_3.2.1, .int .i64 v4_3.2.2]) (.cell 0 g0_0 rfl (by kernel_rfl) (by kernel_rfl) (.tmp (by kernel_rfl) (.tmp (by kernel_rfl) .nil))) rfl (fun W S => ⟨rfl, S.below⟩)
  replace h := H.f q2 h
  refine c_skip ?_
  refine c_seq ?_
  refine c_seq ?_
  refine r_start ?_
  refine p 3 ?_
  refine rend ?_
  refine c_or ((List.length v1_1 : Int) == 1) (fun q3 => ?_) (fun q3 => ?_)
  · replace h := H.t q3 h
    refine c_seq ?_
    refine r_start ?_
    refine xq rfl (y_load (.agg (eHand v4_3.1).toArray) 2 g4_8 0) ?_
    refine p 1 ?_
    refine xx rfl (x_sto 0 g0_0 0 (eSign ({ zSign with Main := v4_3.1 })) ?_)
    refine p 2 ?_
    refine rend ?_
    replace h := H.done h
    subst h
    exact ret func31 rfl (vs := [.agg (eSign ({ zSign with Main := v4_3.1 })).toArray, .int .i64 0, .int .i64 0]) (.cell 0 g0_0 rfl (by kernel_rfl) (by kernel_rfl) (.tmp (by kernel_rfl) (.tmp (by kernel_rfl) .nil))) rfl (fun W S => ⟨rfl, S.below⟩)
  replace h := H.f q3 h
  refine c_skip ?_
  refine c_seq ?_
  refine r_start ?_
  refine p 1 ?_
  refine xq rfl (y_idx (e := eS) (el := 9) hy4_1 (s_own 1)) ?_
  refine xq rfl (y_el (e := eS) 0 (.string (bs y4_1)) hy4_1 (s_own 1)) ?_
  refine p 3 ?_
  refine rend ?_
  refine c_seq ?_
  refine r_start ?_
  refine p 1 ?_
  obtain ⟨y10_1, hy10_1, h⟩ := H.call h
  refine xq rfl (y_idx (e := eS) (el := 9) hy10_1 (s_own 1)) ?_
  refine xq rfl (y_el (e := eS) 0 (.string (bs y10_1)) hy10_1 (s_own 1)) ?_
  obtain ⟨v10_3, hv10_3, h⟩ := H.call h
  refine xq rfl (y_call [.string (bs y10_1)] (.tuple #[.agg (eHand v10_3.1).toArray, .int .i64 v10_3.2.1, .int .i64 v10_3.2.2]) func69 (fun W S => C.s_paHand W hv10_3)) ?_
  refine p 4 ?_
  refine xx rfl (x_new (eHand zHand) fun g10_8 => ?_)
  refine xx rfl (x_sto 3 g10_8 0 (eHand v10_3.1) ?_)
  refine p 2 ?_
  refine rend ?_
  refine c_seq ?_
  refine c_seq ?_
  refine r_start ?_
  refine p 2 ?_
  refine rend ?_
  refine c_or (v10_3.2.1 != 0) (fun q4 => ?_) (fun q4 => ?_)
  · replace h := H.t q4 h
    refine c_seq ?_
    refine r_start ?_
    refine p 5 ?_
    refine xx rfl (x_sto 0 g0_0 0 (eSign zSign) ?_)
    refine p 2 ?_
    refine rend ?_
    replace h := H.done h
    subst h
    exact ret func31 rfl (vs := [.agg (eSign zSign).toArray, .int .i64 v10_3.2.1, .int .i64 (wr ((wr ((List.length y4_1 : Int) + 1)) + v10_3.2.2))]) (.cell 0 g0_0 rfl (by kernel_rfl) (by kernel_rfl) (.tmp (by kernel_rfl) (.tmp (by kernel_rfl) .nil))) rfl (fun W S => ⟨rfl, S.below⟩)
  replace h := H.f q4 h
  refine c_skip ?_
  refine c_seq ?_
  refine c_seq ?_
  refine r_start ?_
  refine xq rfl (y_load (.agg (eHand v4_3.1).toArray) 2 g4_8 0) ?_
  refine xq rfl (y_load (.agg (eHand v10_3.1).toArray) 3 g10_8 0) ?_
  obtain ⟨v13_2, hv13_2, h⟩ := H.call h
  refine xq rfl (y_call [.agg (eHand v4_3.1).toArray, .agg (eHand v10_3.1).toArray] (.int .i64 v13_2) func70 (fun W S => C.s_siBroken W hv13_2)) ?_
  refine p 1 ?_
  refine rend ?_
  refine c_or (v13_2 != 0) (fun q5 => ?_) (fun q5 => ?_)
  · replace h := H.t q5 h
    refine c_seq ?_
    refine r_start ?_
    refine p 2 ?_
    refine xx rfl (x_sto 0 g0_0 0 (eSign zSign) ?_)
    refine p 2 ?_
    refine rend ?_
    replace h := H.done h
    subst h
    exact ret func31 rfl (vs := [.agg (eSign zSign).toArray, .int .i64 7, .int .i64 (wr ((List.length y4_1 : Int) + 1))]) (.cell 0 g0_0 rfl (by kernel_rfl) (by kernel_rfl) (.tmp (by kernel_rfl) (.tmp (by kernel_rfl) .nil))) rfl (fun W S => ⟨rfl, S.below⟩)
  replace h := H.f q5 h
  refine c_skip ?_
  refine c_seq ?_
  refine r_start ?_
  refine xq rfl (y_load (.agg (eHand v4_3.1).toArray) 2 g4_8 0) ?_
  refine xq rfl (y_load (.agg (eHand v10_3.1).toArray) 3 g10_8 0) ?_
  refine p 1 ?_
  refine xx rfl (x_sto 0 g0_0 0 (eSign (⟨v4_3.1, true, v10_3.1⟩ : Sign)) ?_)
  refine p 2 ?_
  refine rend ?_
  replace h := H.done h
  subst h
  exact ret func31 rfl (vs := [.agg (eSign (⟨v4_3.1, true, v10_3.1⟩ : Sign)).toArray, .int .i64 0, .int .i64 0]) (.cell 0 g0_0 rfl (by kernel_rfl) (by kernel_rfl) (.tmp (by kernel_rfl) (.tmp (by kernel_rfl) .nil))) rfl (fun W S => ⟨rfl, S.below⟩)
theorem C.s_SignFault {fu : Nat} {a0 : Str} {r : (Int × Int × Bool)} (w : World) (h : X.s_SignFault fu a0 = some r) : Calls prog 6 #[.string (bs a0)] w (Ret w (.tuple #[.int .i64 r.1, .int .i64 r.2.1, .bool r.2.2])) := by
  refine calls (M := no) (args := [.string (bs a0)]) func6 rfl ?_
  replace h : H (X.s_SignFault fu a0) (fun o => o = r) := H.mk h
  unfold X.s_SignFault at h
  refine c_seq ?_
  refine r_start ?_
  refine p 3 ?_
  refine rend ?_
  refine c_seq ?_
  refine c_seq ?_
  refine r_start ?_
  refine p 1 ?_
  obtain ⟨v1_1, hv1_1, h⟩ := H.call h
  refine xq rfl (y_call [.string (bs a0)] (.bool v1_1) func30 (fun W S => C.s_paGiven W hv1_1)) ?_
  refine p 1 ?_
  refine rend ?_
  refine c_or (!v1_1) (fun q1 => ?_) (fun q1 => ?_)
  · replace h := H.t q1 h
    refine c_seq ?_
    refine r_start ?_
    refine p 3 ?_
    refine rend ?_
    replace h := H.done h
    subst h
    exact ret func6 rfl (vs := [.int .i64 0, .int .i64 0, .bool false]) (.tmp (by kernel_rfl) (.tmp (by kernel_rfl) (.tmp (by kernel_rfl) .nil))) rfl (fun W S => ⟨rfl, S.below⟩)
  replace h := H.f q1 h
  refine c_skip ?_
  refine c_seq ?_
  refine r_start ?_
  refine p 1 ?_
  obtain ⟨v3_1, hv3_1, h⟩ := H.call h
  refine xq rfl (y_call [.string (bs a0)] (.tuple #[.agg (eSign v3_1.1).toArray, .int .i64 v3_1.2.1, .int .i64 v3_1.2.2]) func31 (fun W S => C.s_paParse W hv3_1)) ?_
  refine p 4 ?_
  refine xx rfl (x_new (eSign zSign) fun g3_6 => ?_)
  refine xx rfl (x_sto 0 g3_6 0 (eSign v3_1.1) ?_)
  refine p 2 ?_
  refine rend ?_
  refine c_seq ?_
  refine r_start ?_
  refine p 5 ?_
  refine rend ?_
  replace h := H.done h
  subst h
  exact ret func6 rfl (vs := [.int .i64 v3_1.2.1, .int .i64 v3_1.2.2, .bool true]) (.tmp (by kernel_rfl) (.tmp (by kernel_rfl) (.tmp (by kernel_rfl) .nil))) rfl (fun W S => ⟨rfl, S.below⟩)
theorem C.strings_Count {a0 a1 : Str} {r : Int} (w : World) (h : X.strings_Count a0 a1 = some r) : Calls prog 71 #[.string (bs a0), .string (bs a1)] w (Ret w (.int .i64 r)) := by
  unfold X.strings_Count at h
  by_cases h1 : List.length a1 = 1
  case neg => simp [h1] at h
  simp only [h1, decide_true, cond_true, Option.some.injEq] at h
  subst h
  obtain ⟨c, rfl⟩ : ∃ c, a1 = [c] := by
    match a1, h1 with
    | [c], _ => exact ⟨c, rfl⟩
  refine (Any.strings_Count_one { Tryz.lays221 with } (bs a0) c w).mono ?_
  rintro e w' ⟨rfl, rfl⟩
  exact ⟨rfl, Below.refl _ _⟩
theorem C.internal_stringslite_Index {a0 a1 : Str} {r : Int} (w : World) (h : X.internal_stringslite_Index a0 a1 = some r) : Calls prog 172 #[.string (bs a0), .string (bs a1)] w (Ret w (.int .i64 r)) := by
  unfold X.internal_stringslite_Index at h
  by_cases h1 : List.length a1 = 1
  case neg => simp [h1] at h
  simp only [h1, decide_true, cond_true, Option.some.injEq] at h
  subst h
  obtain ⟨c, rfl⟩ : ∃ c, a1 = [c] := by
    match a1, h1 with
    | [c], _ => exact ⟨c, rfl⟩
  refine (Any.stringslite_Index_one { Tryz.lays221 with } (bs a0) c w).mono ?_
  rintro e w' ⟨rfl, rfl⟩
  exact ⟨rfl, Below.refl _ _⟩
theorem C.internal_stringslite_Cut {a0 : Str} {a1 : Str} {r : (Str × Str × Bool)} (w : World) (h : X.internal_stringslite_Cut a0 a1 = some r) : Calls prog 115 #[.string (bs a0), .string (bs a1)] w (Ret w (.tuple #[.string (bs r.1), .string (bs r.2.1), .bool r.2.2])) := by
  refine calls (M := no) (args := [.string (bs a0), .string (bs a1)]) func115 rfl ?_
  replace h : H (X.internal_stringslite_Cut a0 a1) (fun o => o = r) := H.mk h
  unfold X.internal_stringslite_Cut at h
  refine c_seq ?_
  refine r_start ?_
  refine p 3 ?_
  refine rend ?_
  refine c_seq ?_
  refine c_seq ?_
  refine r_start ?_
  refine p 2 ?_
  obtain ⟨v1_2, hv1_2, h⟩ := H.call h
  refine xq rfl (y_call [.string (bs a0), .string (bs a1)] (.int .i64 v1_2) func172 (fun W S => C.internal_stringslite_Index W hv1_2)) ?_
  refine p 1 ?_
  refine rend ?_
  refine c_seq ?_
  refine r_start ?_
  refine p 2 ?_
  refine rend ?_
  refine c_or (decide (v1_2 ≥ 0)) (fun q1 => ?_) (fun q1 => ?_)
  · replace h := H.t q1 h
    refine c_seq ?_
    refine as_start 12 12 ?_
    refine ap 0 2 ?_
    obtain ⟨y3_2, hy3_2, h⟩ := H.call h
    refine aq 2 rfl (y_cut hy3_2) ?_
    refine ap 3 5 ?_
    obtain ⟨y3_8, hy3_8, h⟩ := H.call h
    refine aq 8 rfl (y_cut hy3_8) ?_
    refine ap 9 3 ?_
    refine a_done ?_
    replace h := H.done h
    subst h
    exact ret func115 rfl (vs := [.string (bs y3_2), .string (bs y3_8), .bool true]) (.tmp (by kernel_rfl) (.tmp (by kernel_rfl) (.tmp (by kernel_rfl) .nil))) rfl (fun W S => ⟨rfl, S.below⟩)
  replace h := H.f q1 h
  refine c_skip ?_
  refine c_seq ?_
  refine r_start ?_
  refine p 4 ?_
  refine rend ?_
  replace h := H.done h
  subst h
  exact ret func115 rfl (vs := [.string (bs a0), .string (bs ([] : Str)), .bool false]) (.tmp (by kernel_rfl) (.tmp (by kernel_rfl) (.tmp (by kernel_rfl) .nil))) rfl (fun W S => ⟨rfl, S.below⟩)
theorem C.strings_Cut {a0 : Str} {a1 : Str} {r : (Str × Str × Bool)} (w : World) (h : X.strings_Cut a0 a1 = some r) : Calls prog 72 #[.string (bs a0), .string (bs a1)] w (Ret w (.tuple #[.string (bs r.1), .string (bs r.2.1), .bool r.2.2])) := by
  refine calls (M := no) (args := [.string (bs a0), .string (bs a1)]) func72 rfl ?_
  replace h : H (X.strings_Cut a0 a1) (fun o => o = r) := H.mk h
  unfold X.strings_Cut at h
  refine c_seq ?_
  refine r_start ?_
  refine p 3 ?_
  refine rend ?_
  refine c_seq ?_
  refine r_start ?_
  refine p 2 ?_
  obtain ⟨v1_2, hv1_2, h⟩ := H.call h
  refine xq rfl (y_call [.string (bs a0), .string (bs a1)] (.tuple #[.string (bs v1_2.1), .string (bs v1_2.2.1), .bool v1_2.2.2]) func115 (fun W S => C.internal_stringslite_Cut W hv1_2)) ?_
  refine p 6 ?_
  refine rend ?_
  replace h := H.done h
  subst h
  exact ret func72 rfl (vs := [.string (bs v1_2.1), .string (bs v1_2.2.1), .bool v1_2.2.2]) (.tmp (by kernel_rfl) (.tmp (by kernel_rfl) (.tmp (by kernel_rfl) .nil))) rfl (fun W S => ⟨rfl, S.below⟩)
theorem C.strings_genSplit {a0 a1 : Str} {a2 a3 : Int} {r : (List Str)} (w : World) (h : X.strings_genSplit a0 a1 a2 a3 = some r) : Calls prog 173 #[.string (bs a0), .string (bs a1), .int .i64 a2, .int .i64 a3] w (RetR eS 9 w r (fun v => v)) := by
  unfold X.strings_genSplit at h
  by_cases h1 : List.length a1 = 1
  case neg => simp [h1] at h
  by_cases h2 : a2 = 0
  case neg => simp [h2] at h
  by_cases h3 : a3 = -1
  case neg => simp [h3] at h
  by_cases h4 : List.length a0 < 4294967281
  case neg => simp [h4] at h
  simp only [h1, h2, h3, h4, decide_true, Bool.and_self, cond_true, Option.some.injEq] at h
  subst h
  subst h2
  subst h3
  obtain ⟨c, rfl⟩ : ∃ c, a1 = [c] := by
    match a1, h1 with
    | [c], _ => exact ⟨c, rfl⟩
  have hsz : 1 ≤ (bs [c]).size := Nat.le_refl 1
  have hcb : Lib.countB (bs a0) (bs [c]) ≤ (bs a0).size := Lib.countB_le (bs [c]) hsz _ (bs a0) (Nat.le_refl _)
  have hall := Lib.splitB_all (bs [c]) hsz 0 _ (bs a0) rfl
  have hd := Lib.splitB_data (bs [c]) 0 (Lib.countB (bs a0) (bs [c])) (bs a0)
  have hs4 : (bs a0).size < 4294967281 := h4
  have key := Any.strings_genSplit_core Tryz.lays221 (by kernel_rfl) (bs a0) (bs [c]) 0 (-1) (Lib.countB (bs a0) (bs [c]) + 1) w hs4 hsz (Nat.zero_le _)
    (fun x d hx => (Any.strings_Index_one { Tryz.lays221 with } x c _).mono fun e w' ⟨he, hw⟩ => ⟨by
      rw [he]
      show _ = Ending.returned (Value.int .i64 (Lib.index x.data.toList [c]))
      rw [Lib.index_one], hw⟩)
    ((Any.strings_Count_one { Tryz.lays221 with } (bs a0) c w).mono fun e w' ⟨he, hw⟩ => ⟨by
      rw [he]
      show _ = Ending.returned (Value.int .i64 ((Lib.count (bs a0).data.toList [c] : Nat) : Int))
      rw [Lib.count_one]
      rfl, hw⟩) (by decide) (by decide) (by rw [if_pos (by decide)]; omega)
  rw [Nat.add_sub_cancel, hall] at key
  refine key.mono ?_
  rintro en W' ⟨rfl, rfl⟩
  have hlen : (Lib.split a0 [c]).length = Lib.countB (bs a0) (bs [c]) + 1 := by
    have : (Lib.splitB (bs [c]) 0 (Lib.countB (bs a0) (bs [c])) (bs a0)).map (·.data.toList) = Lib.split a0 [c] := hd
    rw [← this, List.length_map, hall]
  have hcells : (Lib.cellsOf (Lib.splitB (bs [c]) 0 (Lib.countB (bs a0) (bs [c])) (bs a0)) (Lib.countB (bs a0) (bs [c]) + 1)).toList = eS.flat (Lib.split a0 [c]) := by
    have e2 : Lib.split a0 [c] = (Lib.splitB (bs [c]) 0 (Lib.countB (bs a0) (bs [c])) (bs a0)).map (·.data.toList) := hd.symm
    rw [flat_str, e2, Lib.map_encStr, ← hall, Lib.cellsOf_full]
  refine ⟨some ⟨w.heap.size, 0, none⟩, Lib.countB (bs a0) (bs [c]) + 1, by rw [hlen], ?_, ?_⟩
  · refine ⟨by rw [eS.flat_length], .inr ⟨w.heap.size, _, _, rfl, Nat.le_refl _, by show (w.heap.push _)[w.heap.size]? = some _; exact Array.getElem?_push_size, by rw [hlen]; exact Nat.le_refl _, ?_, ?_, ?_⟩⟩
    · simp only [maxLen]
      omega
    · rw [Lib.cellsOf_size (by rw [hall]; exact Nat.le_refl _)]
      exact (Nat.mul_one _).symm
    · rw [hcells, List.take_of_length_le]
      rw [eS.flat_length]
      exact Nat.le_refl _
  · refine ⟨rfl, rfl, rfl, by show w.heap.size ≤ (w.heap.push _).size; rw [Array.size_push]; omega, fun k hk => ?_⟩
    show (w.heap.push _)[k]? = w.heap[k]?
    rw [Array.getElem?_push, if_neg (by omega)]
theorem C.strings_Split {a0 : Str} {a1 : Str} {r : (List Str)} (w : World) (h : X.strings_Split a0 a1 = some r) : Calls prog 116 #[.string (bs a0), .string (bs a1)] w (RetR eS 9 w r (fun v => v)) := by
  refine calls (M := no) (args := [.string (bs a0), .string (bs a1)]) func116 rfl ?_
  replace h : H (X.strings_Split a0 a1) (fun o => o = r) := H.mk h
  unfold X.strings_Split at h
  refine c_seq ?_
  refine r_start ?_
  refine p 1 ?_
  refine rend ?_
  refine c_seq ?_
  refine r_start ?_
  refine p 2 ?_
  obtain ⟨v1_2, hv1_2, h⟩ := H.call h
  refine xx rfl (e_cr [.string (bs a0), .string (bs a1), .int .i64 0, .int .i64 (-1)] (fun v => v) func173 (fun W S => C.strings_genSplit W hv1_2) fun A1_2 k1_2 => ?_)
  refine p 1 ?_
  refine rend ?_
  replace h := H.done h
  subst h
  exact ret func116 rfl (vs := [.slice A1_2 (List.length v1_2) k1_2]) (.tmp (by kernel_rfl) .nil) rfl (fun W S => ⟨_, _, rfl, S.row 0, S.below⟩)
theorem C.strconv_Itoa {a0 : Int} {r : Str} (w : World) (h : X.strconv_Itoa a0 = some r) : Calls prog 188 #[.int .i64 a0] w (Ret w (.string (bs r))) := by
  unfold X.strconv_Itoa at h
  split at h
  · rename_i hc
    obtain rfl := Option.some.inj h
    have := Tryz.strconv_Itoa_small a0.toNat (by omega) w
    have e : ((a0.toNat : Nat) : Int) = a0 := by omega
    rw [e] at this
    refine this.mono ?_
    rintro e w' ⟨rfl, rfl⟩
    exact ⟨rfl, Below.refl _ _⟩
  · cases h
theorem C.i_Shape_bends {a0 : Shape} {r : (List Int)} (w : World) (h : X.i_Shape_bends a0 = some r) : Calls prog 189 #[.agg (eShape a0).toArray] w (RetR (eI .i64) 3 w r (fun v => v)) := by
  refine calls (M := no) (args := [.agg (eShape a0).toArray]) func189 rfl ?_
  replace h : H (X.i_Shape_bends a0) (fun o => o = r) := H.mk h
  unfold X.i_Shape_bends at h
  refine c_seq ?_
  refine r_start ?_
  refine xx rfl (x_box (eShape a0) fun g0_0 => ?_)
  refine p 1 ?_
  refine rend ?_
  refine c_seq ?_
  refine r_start ?_
  refine p 1 ?_
  refine xq rfl (y_load (.int .i64 a0.Index) 0 g0_0 1) ?_
  refine p 1 ?_
  refine xq rfl (y_load (.int .i64 a0.Middle) 0 g0_0 2) ?_
  refine p 1 ?_
  refine xq rfl (y_load (.int .i64 a0.Ring) 0 g0_0 3) ?_
  refine p 1 ?_
  refine xq rfl (y_load (.int .i64 a0.Little) 0 g0_0 4) ?_
  refine xx rfl (e_lit (e := (eI .i64)) (el := 3) [.int .i64 a0.Index, .int .i64 a0.Middle, .int .i64 a0.Ring, .int .i64 a0.Little] ([a0.Index, a0.Middle, a0.Ring, a0.Little] : List Int) fun A1_8 k1_8 => ?_)
  refine p 1 ?_
  refine rend ?_
  replace h := H.done h
  subst h
  exact ret func189 rfl (vs := [.slice A1_8 (List.length ([a0.Index, a0.Middle, a0.Ring, a0.Little] : List Int)) k1_8]) (.tmp (by kernel_rfl) .nil) rfl (fun W S => ⟨_, _, rfl, S.row 1, S.below⟩)
theorem C.i_Shape_text {a0 : Shape} {r : Str} (w : World) (h : X.i_Shape_text a0 = some r) : Calls prog 129 #[.agg (eShape a0).toArray] w (Ret w (.string (bs r))) := by
  refine calls (M := no) (args := [.agg (eShape a0).toArray]) func129 rfl ?_
  replace h : H (X.i_Shape_text a0) (fun o => o = r) := H.mk h
  unfold X.i_Shape_text at h
  refine c_seq ?_
  refine r_start ?_
  refine xx rfl (x_box (eShape a0) fun g0_0 => ?_)
  refine p 1 ?_
  refine rend ?_
  refine c_seq ?_
  refine r_start ?_
  refine p 1 ?_
  refine xq rfl (y_load (.int .i64 a0.Thumb) 0 g0_0 0) ?_
  obtain ⟨v1_2, hv1_2, h⟩ := H.call h
  refine xq rfl (y_call [.int .i64 a0.Thumb] (.string (bs v1_2)) func188 (fun W S => C.strconv_Itoa W hv1_2)) ?_
  refine p 1 ?_
  refine rend ?_
  refine c_seq ?_
  refine c_seq ?_
  refine r_start ?_
  refine xq rfl (y_load (.agg (eShape a0).toArray) 0 g0_0 0) ?_
  obtain ⟨v2_1, hv2_1, h⟩ := H.call h
  refine xx rfl (e_cr [.agg (eShape a0).toArray] (fun v => v) func189 (fun W S => C.i_Shape_bends W hv2_1) fun A2_1 k2_1 => ?_)
  refine p 2 ?_
  refine rend ?_
  refine c_block ?_
  refine joinH (X := Str) 0 (H.bnd h) (fun (x : Str) => x) (fun t2 => [box g0_0 36 (eShape a0), rowT (eI .i64) w.heap.size 3 (.slice A2_1 (List.length v2_1) k2_1) v2_1]) (fun t2 u => (jk u 0 1 (.pointer (some ⟨g0_0, 0, none⟩) :: (jk u 2 1 (.string (bs t2) :: (jk u 4 22 [])))))) (fun h hj3 => ?_) ?_
  · skip
    refine rangeR (X := Str) (s_own 1) (fun (x : Str) => x) (fun t1 => [box g0_0 36 (eShape a0), rowT (eI .i64) w.heap.size 3 (.slice A2_1 (List.length v2_1) k2_1) v2_1]) (fun (j4 : Nat) t1 u => (jk u 0 1 (.pointer (some ⟨g0_0, 0, none⟩) :: (jk u 2 1 (.string (bs t1) :: (jk u 4 6 (.slice A2_1 (List.length v2_1) k2_1 :: .int .i64 (List.length v2_1 : Int) :: .int .i64 (j4 : Int) :: (jk u 13 13 [])))))))) v1_2 h (by kernel_rfl) (by kernel_rfl) ?_ ?_
    · intro j4 t1 u x5 q6 hg7 hw8 h
      refine c_seq ?_
      refine r_start ?_
      refine p 1 ?_
      refine rend ?_
      refine c_seq ?_
      refine c_yes q6 ?_
      refine c_skip ?_
      refine c_seq ?_
      refine c_block ?_
      refine c_seq ?_
      refine r_start ?_
      refine xq rfl (y_idx (e := (eI .i64)) (el := 3) hg7 (s_own 1)) ?_
      refine xq rfl (y_el (e := (eI .i64)) 0 (.int .i64 x5) hg7 (s_own 1)) ?_
      refine p 1 ?_
      refine rend ?_
      refine r_start ?_
      refine p 2 ?_
      obtain ⟨v5_2, hv5_2, h⟩ := H.call h
      refine xq rfl (y_call [.int .i64 x5] (.string (bs v5_2)) func188 (fun W S => C.strconv_Itoa W hv5_2)) ?_
      obtain ⟨y5_3, hy5_3, h⟩ := H.call h
      refine xq rfl (y_cat hy5_3) ?_
      refine p 1 ?_
      refine rend ?_
      refine c_inb ?_
      refine r_start ?_
      refine p 2 ?_
      refine rend ?_
      refine c_set 12 (ci hw8) ?_
      replace h := H.inl h
      exact h y5_3 _ _ rfl (by kernel_rfl) (by kernel_rfl)
    · intro t1 u q6 h
      refine c_seq ?_
      refine r_start ?_
      refine p 1 ?_
      refine rend ?_
      refine c_seq ?_
      refine c_no q6 ?_
      refine cx ?_
      replace h := H.done h
      exact hj3 t1 _ _ h (by kernel_rfl) (by kernel_rfl)
  intro t2 u h
  refine c_seq ?_
  refine c_seq ?_
  refine r_start ?_
  refine p 1 ?_
  refine xq rfl (y_load (.bool a0.Spread) 0 g0_0 5) ?_
  refine rend ?_
  refine c_or a0.Spread (fun q9 => ?_) (fun q9 => ?_)
  · replace h := H.t q9 h
    refine r_start ?_
    refine p 1 ?_
    obtain ⟨y8_1, hy8_1, h⟩ := H.call h
    refine xq rfl (y_cat hy8_1) ?_
    refine p 1 ?_
    refine rend ?_
    refine c_seq ?_
    refine r_start ?_
    refine p 2 ?_
    refine rend ?_
    replace h := H.done h
    subst h
    exact ret func129 rfl (vs := [.string (bs y8_1)]) (.tmp (by kernel_rfl) .nil) rfl (fun W S => ⟨rfl, S.below⟩)
  replace h := H.f q9 h
  refine c_skip ?_
  refine c_seq ?_
  refine r_start ?_
  refine p 2 ?_
  refine rend ?_
  replace h := H.done h
  subst h
  exact ret func129 rfl (vs := [.string (bs t2)]) (.tmp (by kernel_rfl) .nil) rfl (fun W S => ⟨rfl, S.below⟩)
theorem C.slices_IndexFunc_int_int {a0 : (List Int)} {A0 : Option Addr} {k0 : Nat} {a1 : (Int → Option Bool)} {g1 : Nat} {cp1 : List Value} {r : Int} (w : World) (h : X.slices_IndexFunc_int_int a0 a1 = some r) (h0 : RdT (eI .i64) w (.slice A0 (List.length a0) k0) a0) (hg1 : isFn prog g1 = true) (hF1 : ∀ (x0 : Int) (r : Bool) (W : World), Up w W → a1 x0 = some r → Calls prog g1 (([.int .i64 x0] : List Value) ++ cp1).toArray W (Ret W (.bool r))) : Calls prog 238 #[.slice A0 (List.length a0) k0, .func (.func g1) #[] cp1.toArray] w (Ret w (.int .i64 r)) := by
  refine calls (M := no) (args := [.slice A0 (List.length a0) k0, .func (.func g1) #[] cp1.toArray]) func238 rfl ?_
  replace h : H (X.slices_IndexFunc_int_int a0 a1) (fun o => o = r) := H.mk h
  unfold X.slices_IndexFunc_int_int at h
  refine c_seq ?_
  refine r_start ?_
  refine p 1 ?_
  refine rend ?_
  refine c_seq ?_
  refine c_seq ?_
  refine r_start ?_
  refine p 3 ?_
  refine rend ?_
  refine c_block ?_
  refine joinE (X := Unit) 0 (H.or h) (fun (x : Unit) => x) (fun _ => []) (fun _ u => (jk u 0 19 [])) (fun h hj1 => ?_) ?_
  · skip
    refine rangeR (X := Unit) (s_arg h0) (fun (x : Unit) => x) (fun _ => []) (fun (j2 : Nat) _ u => (.slice A0 (List.length a0) k0 :: .func (.func g1) #[] cp1.toArray :: (jk u 2 5 (.int .i64 (List.length a0 : Int) :: .int .i64 (j2 : Int) :: (jk u 9 10 []))))) () h (by kernel_rfl) (by kernel_rfl) ?_ ?_
    · intro j2 x u x3 q4 hg5 hw6 h
      refine c_seq ?_
      refine r_start ?_
      refine p 1 ?_
      refine rend ?_
      refine c_seq ?_
      refine c_yes q4 ?_
      refine c_skip ?_
      refine c_seq ?_
      refine c_block ?_
      refine c_seq ?_
      refine r_start ?_
      refine p 2 ?_
      refine rend ?_
      refine c_seq ?_
      refine r_start ?_
      refine p 3 ?_
      refine xq rfl (y_idx (e := (eI .i64)) (el := 3) hg5 (s_arg h0)) ?_
      refine xq rfl (y_el (e := (eI .i64)) 0 (.int .i64 x3) hg5 (s_arg h0)) ?_
      obtain ⟨v4_5, hv4_5, h⟩ := H.call h
      refine xq rfl (y_cf cp1 [.int .i64 x3] (.bool v4_5) hg1 (fun W S => hF1 _ _ W S.below hv4_5)) ?_
      refine rend ?_
      refine c_or v4_5 (fun q7 => ?_) (fun q7 => ?_)
      · replace h := H.t q7 h
        refine c_seq ?_
        refine r_start ?_
        refine p 2 ?_
        refine rend ?_
        replace h := H.inr h
        replace h := H.done h
        subst h
        exact ret func238 rfl (vs := [.int .i64 (j2 : Int)]) (.tmp (by kernel_rfl) .nil) rfl (fun W S => ⟨rfl, S.below⟩)
      replace h := H.f q7 h
      refine c_skip ?_
      refine c_inb ?_
      refine r_start ?_
      refine p 2 ?_
      refine rend ?_
      refine c_set 8 (ci hw6) ?_
      replace h := H.inl h
      exact h () _ _ rfl (by kernel_rfl) (by kernel_rfl)
    · intro x u q4 h
      refine c_seq ?_
      refine r_start ?_
      refine p 1 ?_
      refine rend ?_
      refine c_seq ?_
      refine c_no q4 ?_
      refine cx ?_
      replace h := H.done h
      exact hj1 () _ _ h (by kernel_rfl) (by kernel_rfl)
  intro x u h
  refine c_seq ?_
  refine r_start ?_
  refine p 1 ?_
  refine rend ?_
  replace h := H.done h
  subst h
  exact ret func238 rfl (vs := [.int .i64 (-1)]) (.tmp (by kernel_rfl) .nil) rfl (fun W S => ⟨rfl, S.below⟩)
theorem C.slices_ContainsFunc_int_int {a0 : (List Int)} {A0 : Option Addr} {k0 : Nat} {a1 : (Int → Option Bool)} {g1 : Nat} {cp1 : List Value} {r : Bool} (w : World) (h : X.slices_ContainsFunc_int_int a0 a1 = some r) (h0 : RdT (eI .i64) w (.slice A0 (List.length a0) k0) a0) (hg1 : isFn prog g1 = true) (hF1 : ∀ (x0 : Int) (r : Bool) (W : World), Up w W → a1 x0 = some r → Calls prog g1 (([.int .i64 x0] : List Value) ++ cp1).toArray W (Ret W (.bool r))) : Calls prog 226 #[.slice A0 (List.length a0) k0, .func (.func g1) #[] cp1.toArray] w (Ret w (.bool r)) := by
  refine calls (M := no) (args := [.slice A0 (List.length a0) k0, .func (.func g1) #[] cp1.toArray]) func226 rfl ?_
  replace h : H (X.slices_ContainsFunc_int_int a0 a1) (fun o => o = r) := H.mk h
  unfold X.slices_ContainsFunc_int_int at h
  refine c_seq ?_
  refine r_start ?_
  refine p 1 ?_
  refine rend ?_
  refine c_seq ?_
  refine r_start ?_
  refine p 2 ?_
  obtain ⟨v1_2, hv1_2, h⟩ := H.call h
  refine xq rfl (y_call [.slice A0 (List.length a0) k0, .func (.func g1) #[] cp1.toArray] (.int .i64 v1_2) func238 (fun W S => C.slices_IndexFunc_int_int W hv1_2 ((s_arg h0).out W S) hg1 (fun x0_2 r W2 hu2 hx2 => hF1 x0_2 r W2 (Up.trans S.below hu2) hx2))) ?_
  refine p 2 ?_
  refine rend ?_
  replace h := H.done h
  subst h
  exact ret func226 rfl (vs := [.bool (decide (v1_2 ≥ 0))]) (.tmp (by kernel_rfl) .nil) rfl (fun W S => ⟨rfl, S.below⟩)
theorem C.i_within {a0 : Int} {a1 : Int} {a2 : Int} {r : Bool} (w : World) (h : X.i_within a0 a1 a2 = some r) : Calls prog 174 #[.int .i64 a0, .int .i64 a1, .int .i64 a2] w (Ret w (.bool r)) := by
  refine calls (M := no) (args := [.int .i64 a0, .int .i64 a1, .int .i64 a2]) func174 rfl ?_
  replace h : H (X.i_within a0 a1 a2) (fun o => o = r) := H.mk h
  unfold X.i_within at h
  refine c_seq ?_
  refine r_start ?_
  refine p 1 ?_
  refine rend ?_
  refine c_seq ?_
  refine r_start ?_
  refine p 4 ?_
  refine br (decide (a0 ≥ a1)) (fun q1 => ?_) (fun q1 => ?_)
  · replace h := H.t q1 h
    refine o_set 10 (congrArg Value.bool q1) ?_
    refine p 5 ?_
    refine rend ?_
    replace h := H.done h
    subst h
    exact ret func174 rfl (vs := [.bool (decide (a0 ≤ a2))]) (.tmp (by kernel_rfl) .nil) rfl (fun W S => ⟨rfl, S.below⟩)
  replace h := H.f q1 h
  refine o_set 10 (congrArg Value.bool q1) ?_
  refine p 5 ?_
  refine rend ?_
  replace h := H.done h
  subst h
  exact ret func174 rfl (vs := [.bool false]) (.tmp (by kernel_rfl) .nil) rfl (fun W S => ⟨rfl, S.below⟩)
theorem C.i_allWithin_1 {a0 : Int} {a1 : Int} {p1 : Nat} {a2 : Int} {p2 : Nat} {r : Bool} (w : World) (h : X.i_allWithin_1 a1 a2 a0 = some r) (hp1 : w.heap[p1]? = some (.cells ([.int .i64 a1] : List Value).toArray 3 (0, 0))) (hp2 : w.heap[p2]? = some (.cells ([.int .i64 a2] : List Value).toArray 3 (0, 0))) : Calls prog 227 #[.int .i64 a0, .pointer (some ⟨p1, 0, none⟩), .pointer (some ⟨p2, 0, none⟩)] w (Ret w (.bool r)) := by
  refine calls (M := no) (args := [.int .i64 a0, .pointer (some ⟨p1, 0, none⟩), .pointer (some ⟨p2, 0, none⟩)]) func227 rfl ?_
  replace h : H (X.i_allWithin_1 a1 a2 a0) (fun o => o = r) := H.mk h
  unfold X.i_allWithin_1 at h
  refine c_seq ?_
  refine r_start ?_
  refine p 1 ?_
  refine rend ?_
  refine c_seq ?_
  refine r_start ?_
  refine p 1 ?_
  refine xq rfl (y_ld0 (.int .i64 a1) p1 0 hp1) ?_
  refine xq rfl (y_ld0 (.int .i64 a2) p2 0 hp2) ?_
  obtain ⟨v1_3, hv1_3, h⟩ := H.call h
  refine xq rfl (y_call [.int .i64 a0, .int .i64 a1, .int .i64 a2] (.bool v1_3) func174 (fun W S => C.i_within W hv1_3)) ?_
  refine p 2 ?_
  refine rend ?_
  replace h := H.done h
  subst h
  exact ret func227 rfl (vs := [.bool (!v1_3)]) (.tmp (by kernel_rfl) .nil) rfl (fun W S => ⟨rfl, S.below⟩)
theorem C.i_allWithin {a0 : (List Int)} {A0 : Option Addr} {k0 : Nat} {a1 : Int} {a2 : Int} {r : Bool} (w : World) (h : X.i_allWithin a0 a1 a2 = some r) (h0 : RdT (eI .i64) w (.slice A0 (List.length a0) k0) a0) : Calls prog 201 #[.slice A0 (List.length a0) k0, .int .i64 a1, .int .i64 a2] w (Ret w (.bool r)) := by
  refine calls (M := no) (args := [.slice A0 (List.length a0) k0, .int .i64 a1, .int .i64 a2]) func201 rfl ?_
  replace h : H (X.i_allWithin a0 a1 a2) (fun o => o = r) := H.mk h
  unfold X.i_allWithin at h
  refine c_seq ?_
  refine r_start ?_
  refine xx rfl (x_box [.int .i64 a1] fun g0_0 => ?_)
  refine xx rfl (x_box [.int .i64 a2] fun g0_1 => ?_)
  refine p 1 ?_
  refine rend ?_
  refine c_seq ?_
  refine r_start ?_
  refine p 2 ?_
  obtain ⟨v1_2, hv1_2, h⟩ := H.call h
  refine xq rfl (y_call [.slice A0 (List.length a0) k0, .func (.func 227) #[] #[.pointer (some ⟨g0_0, 0, none⟩), .pointer (some ⟨g0_1, 0, none⟩)]] (.bool v1_2) func226 (fun W S => C.slices_ContainsFunc_int_int W hv1_2 ((s_arg h0).out W S) (isFn_of func227) (fun x0_2 r W2 hu2 hx2 => C.i_allWithin_1 W2 hx2 (bx_up (S.bx 0) hu2) (bx_up (S.bx 1) hu2)))) ?_
  refine p 2 ?_
  refine rend ?_
  replace h := H.done h
  subst h
  exact ret func201 rfl (vs := [.bool (!v1_2)]) (.tmp (by kernel_rfl) .nil) rfl (fun W S => ⟨rfl, S.below⟩)
theorem C.i_Shape_maySpread {a0 : Shape} {r : Bool} (w : World) (h : X.i_Shape_maySpread a0 = some r) : Calls prog 202 #[.agg (eShape a0).toArray] w (Ret w (.bool r)) := by
  refine calls (M := no) (args := [.agg (eShape a0).toArray]) func202 rfl ?_
  replace h : H (X.i_Shape_maySpread a0) (fun o => o = r) := H.mk h
  unfold X.i_Shape_maySpread at h
  refine c_seq ?_
  refine r_start ?_
  refine xx rfl (x_box (eShape a0) fun g0_0 => ?_)
  refine p 1 ?_
  refine rend ?_
  refine c_seq ?_
  refine r_start ?_
  refine p 1 ?_
  refine xq rfl (y_load (.int .i64 a0.Middle) 0 g0_0 2) ?_
  refine p 2 ?_
  refine br (a0.Middle == 0) (fun q1 => ?_) (fun q1 => ?_)
  · replace h := H.t q1 h
    refine o_set 6 (congrArg Value.bool q1) ?_
    refine p 1 ?_
    refine xq rfl (y_load (.int .i64 a0.Index) 0 g0_0 1) ?_
    refine p 2 ?_
    refine br (a0.Index == 0) (fun q2 => ?_) (fun q2 => ?_)
    · replace h := H.t q2 h
      refine o_set 10 (congrArg Value.bool q2) ?_
      refine p 16 ?_
      refine rend ?_
      replace h := H.done h
      subst h
      exact ret func202 rfl (vs := [.bool true]) (.tmp (by kernel_rfl) .nil) rfl (fun W S => ⟨rfl, S.below⟩)
    replace h := H.f q2 h
    refine o_set 10 (congrArg Value.bool q2) ?_
    refine p 1 ?_
    refine xq rfl (y_load (.int .i64 a0.Ring) 0 g0_0 3) ?_
    refine p 4 ?_
    refine br (a0.Ring == 0) (fun q3 => ?_) (fun q3 => ?_)
    · replace h := H.t q3 h
      refine o_set 16 (congrArg Value.bool q3) ?_
      refine p 10 ?_
      refine rend ?_
      replace h := H.done h
      subst h
      exact ret func202 rfl (vs := [.bool true]) (.tmp (by kernel_rfl) .nil) rfl (fun W S => ⟨rfl, S.below⟩)
    replace h := H.f q3 h
    refine o_set 16 (congrArg Value.bool q3) ?_
    refine p 1 ?_
    refine xq rfl (y_load (.int .i64 a0.Ring) 0 g0_0 3) ?_
    refine p 2 ?_
    refine o_set 20 (congrArg Value.bool q3) ?_
    refine p 6 ?_
    refine rend ?_
    replace h := H.done h
    subst h
    exact ret func202 rfl (vs := [.bool false]) (.tmp (by kernel_rfl) .nil) rfl (fun W S => ⟨rfl, S.below⟩)
  replace h := H.f q1 h
  refine o_set 6 (congrArg Value.bool q1) ?_
  refine p 11 ?_
  refine xq rfl (y_load (.int .i64 a0.Ring) 0 g0_0 3) ?_
  refine p 2 ?_
  refine br (a0.Ring == 0) (fun q4 => ?_) (fun q4 => ?_)
  · replace h := H.t q4 h
    refine o_set 20 (congrArg Value.bool q4) ?_
    refine p 1 ?_
    refine xq rfl (y_load (.int .i64 a0.Little) 0 g0_0 4) ?_
    refine p 4 ?_
    refine rend ?_
    replace h := H.done h
    subst h
    exact ret func202 rfl (vs := [.bool (a0.Little == 0)]) (.tmp (by kernel_rfl) .nil) rfl (fun W S => ⟨rfl, S.below⟩)
  replace h := H.f q4 h
  refine o_set 20 (congrArg Value.bool q4) ?_
  refine p 6 ?_
  refine rend ?_
  replace h := H.done h
  subst h
  exact ret func202 rfl (vs := [.bool false]) (.tmp (by kernel_rfl) .nil) rfl (fun W S => ⟨rfl, S.below⟩)
theorem C.i_IsShape {a0 : Shape} {r : Bool} (w : World) (h : X.i_IsShape a0 = some r) : Calls prog 146 #[.agg (eShape a0).toArray] w (Ret w (.bool r)) := by
  refine calls (M := no) (args := [.agg (eShape a0).toArray]) func146 rfl ?_
  replace h : H (X.i_IsShape a0) (fun o => o = r) := H.mk h
  unfold X.i_IsShape at h
  refine c_seq ?_
  refine r_start ?_
  refine xx rfl (x_box (eShape a0) fun g0_0 => ?_)
  refine p 1 ?_
  refine rend ?_
  refine c_seq ?_
  refine c_seq ?_
  refine joinT (X := (Bool × (List Int) × (List Int) × Option Addr × Nat × Option Addr × Nat)) (H.bnd h) (fun ⟨b1, l2, l5, A3, k4, A6, k7⟩ => (b1, l2, l5)) (fun ⟨b1, l2, l5, A3, k4, A6, k7⟩ => [box g0_0 36 (eShape a0), rowT (eI .i64) w.heap.size 3 (.slice A3 (List.length l2) k4) l2, rowT (eI .i64) w.heap.size 3 (.slice A6 (List.length l5) k7) l5]) (fun ⟨b1, l2, l5, A3, k4, A6, k7⟩ u => (jk u 0 1 (.pointer (some ⟨g0_0, 0, none⟩) :: (jk u 2 8 (.bool b1 :: (jk u 11 7 [])))))) (fun h hj8 => ?_) ?_
  · skip
    refine as_start 8 8 ?_
    refine ap 0 1 ?_
    refine aq 1 rfl (y_load (.int .i64 a0.Thumb) 0 g0_0 0) ?_
    refine aq 3 rfl (y_load (.agg (eShape a0).toArray) 0 g0_0 0) ?_
    refine a_two 2 4 rfl rfl ?_ ?_
    · skip
      refine (e_lit (e := (eI .i64)) (el := 3) [.int .i64 a0.Thumb] ([a0.Thumb] : List Int) fun A1_2 k1_2 => ⟨.inr (by kernel_rfl), ?_⟩)
      obtain ⟨v1_4, hv1_4, h⟩ := H.call h
      refine ax 4 rfl (e_cr [.agg (eShape a0).toArray] (fun v => v) func189 (fun W S => C.i_Shape_bends W hv1_4) fun A1_4 k1_4 => ⟨.inr (by kernel_rfl), ?_⟩)
      obtain ⟨y1_5, hy1_5, h⟩ := H.call h
      refine ax 5 rfl (e_app 1 hy1_5 (s_own 2) fun A1_5 k1_5 => ⟨.inr (by kernel_rfl), ?_⟩)
      obtain ⟨v1_6, hv1_6, h⟩ := H.call h
      refine ax 6 rfl (e_y (y_call [.slice A1_5 (List.length y1_5) k1_5, .int .i64 0, .int .i64 2] (.bool v1_6) func201 (fun W S => C.i_allWithin W hv1_6 ((s_own 1).out W S))) ⟨.inr (by kernel_rfl), ?_⟩)
      refine ap 7 1 ?_
      refine a_done ?_
      replace h := H.done h
      exact hj8 ((!v1_6), y1_5, v1_4, A1_5, k1_5, A1_4, k1_4) _ _ h (by kernel_rfl) (by kernel_rfl)
    obtain ⟨v1_4, hv1_4, h⟩ := H.call h
    refine (e_cr [.agg (eShape a0).toArray] (fun v => v) func189 (fun W S => C.i_Shape_bends W hv1_4) fun A1_4 k1_4 => ⟨.inr (by kernel_rfl), ?_⟩)
    refine ax 2 rfl (e_lit (e := (eI .i64)) (el := 3) [.int .i64 a0.Thumb] ([a0.Thumb] : List Int) fun A1_2 k1_2 => ⟨.inr (by kernel_rfl), ?_⟩)
    obtain ⟨y1_5, hy1_5, h⟩ := H.call h
    refine ax 5 rfl (e_app 2 hy1_5 (s_own 1) fun A1_5 k1_5 => ⟨.inr (by kernel_rfl), ?_⟩)
    obtain ⟨v1_6, hv1_6, h⟩ := H.call h
    refine ax 6 rfl (e_y (y_call [.slice A1_5 (List.length y1_5) k1_5, .int .i64 0, .int .i64 2] (.bool v1_6) func201 (fun W S => C.i_allWithin W hv1_6 ((s_own 2).out W S))) ⟨.inr (by kernel_rfl), ?_⟩)
    refine ap 7 1 ?_
    refine a_done ?_
    refine swp [box g0_0 36 (eShape a0)] (rowT (eI .i64) w.heap.size 3 (.slice A1_4 (List.length v1_4) k1_4) v1_4) (rowT (eI .i64) w.heap.size 3 (.slice A1_5 (List.length y1_5) k1_5) y1_5) ?_
    replace h := H.done h
    exact hj8 ((!v1_6), y1_5, v1_4, A1_5, k1_5, A1_4, k1_4) _ _ h (by kernel_rfl) (by kernel_rfl)
  intro x u h
  obtain ⟨b1, l2, l5, A3, k4, A6, k7⟩ := x
  refine c_or b1 (fun q9 => ?_) (fun q9 => ?_)
  · replace h := H.t q9 h
    refine c_seq ?_
    refine r_start ?_
    refine p 1 ?_
    refine rend ?_
    replace h := H.done h
    subst h
    exact ret func146 rfl (vs := [.bool false]) (.tmp (by kernel_rfl) .nil) rfl (fun W S => ⟨rfl, S.below⟩)
  replace h := H.f q9 h
  refine c_skip ?_
  refine c_seq ?_
  refine r_start ?_
  refine p 1 ?_
  refine xq rfl (y_load (.bool a0.Spread) 0 g0_0 5) ?_
  refine p 2 ?_
  refine br (!a0.Spread) (fun q10 => ?_) (fun q10 => ?_)
  · replace h := H.t q10 h
    refine o_set 14 (congrArg Value.bool q10) ?_
    refine p 4 ?_
    refine rend ?_
    replace h := H.done h
    subst h
    exact ret func146 rfl (vs := [.bool true]) (.tmp (by kernel_rfl) .nil) rfl (fun W S => ⟨rfl, S.below⟩)
  replace h := H.f q10 h
  refine o_set 14 (congrArg Value.bool q10) ?_
  refine xq rfl (y_load (.agg (eShape a0).toArray) 0 g0_0 0) ?_
  obtain ⟨v3_5, hv3_5, h⟩ := H.call h
  refine xq rfl (y_call [.agg (eShape a0).toArray] (.bool v3_5) func202 (fun W S => C.i_Shape_maySpread W hv3_5)) ?_
  refine p 2 ?_
  refine rend ?_
  replace h := H.done h
  subst h
  exact ret func146 rfl (vs := [.bool v3_5]) (.tmp (by kernel_rfl) .nil) rfl (fun W S => ⟨rfl, S.below⟩)
theorem C.i_Shape_with {a0 : Shape} {a1 : Int} {a2 : Int} {r : Shape} (w : World) (h : X.i_Shape_with a0 a1 a2 = some r) : Calls prog 175 #[.agg (eShape a0).toArray, .int .i64 a1, .int .i64 a2] w (Ret w (.agg (eShape r).toArray)) := by
  refine calls (M := no) (args := [.agg (eShape a0).toArray, .int .i64 a1, .int .i64 a2]) func175 rfl ?_
  replace h : H (X.i_Shape_with a0 a1 a2) (fun o => o = r) := H.mk h
  unfold X.i_Shape_with at h
  refine c_seq ?_
  refine r_start ?_
  refine xx rfl (x_box (eShape a0) fun g0_0 => ?_)
  refine xx rfl (x_new (eShape zShape) fun g0_1 => ?_)
  refine rend ?_
  refine c_seq ?_
  refine c_seq ?_
  refine r_start ?_
  refine p 1 ?_
  refine rend ?_
  refine c_block ?_
  refine c_seq ?_
  refine r_start ?_
  refine p 2 ?_
  refine rend ?_
  refine c_or (a1 == 0) (fun q1 => ?_) (fun q1 => ?_)
  · replace h := H.t q1 h
    refine r_start ?_
    refine p 2 ?_
    refine xx rfl (x_sto 0 g0_0 0 (eShape ({ a0 with Thumb := a2 })) ?_)
    refine rend ?_
    refine c_inb ?_
    refine c_seq ?_
    refine r_start ?_
    refine p 1 ?_
    refine xq rfl (y_load (.bool a0.Spread) 0 g0_0 5) ?_
    refine p 1 ?_
    refine br a0.Spread (fun q2 => ?_) (fun q2 => ?_)
    · replace h := H.t q2 h
      refine o_set 28 (congrArg Value.bool q2) ?_
      refine xq rfl (y_load (.agg (eShape ({ a0 with Thumb := a2 })).toArray) 0 g0_0 0) ?_
      obtain ⟨v11_4, hv11_4, h⟩ := H.call h
      refine xq rfl (y_call [.agg (eShape ({ a0 with Thumb := a2 })).toArray] (.bool v11_4) func202 (fun W S => C.i_Shape_maySpread W hv11_4)) ?_
      refine p 2 ?_
      refine xx rfl (x_sto 0 g0_0 5 (eShape ({ a0 with Thumb := a2, Spread := v11_4 })) ?_)
      refine rend ?_
      refine c_seq ?_
      refine r_start ?_
      refine xq rfl (y_load (.agg (eShape ({ a0 with Thumb := a2, Spread := v11_4 })).toArray) 0 g0_0 0) ?_
      refine xx rfl (x_sto 1 g0_1 0 (eShape ({ a0 with Thumb := a2, Spread := v11_4 })) ?_)
      refine rend ?_
      replace h := H.done h
      subst h
      exact ret func175 rfl (vs := [.agg (eShape ({ a0 with Thumb := a2, Spread := v11_4 })).toArray]) (.cell 1 g0_1 rfl (by kernel_rfl) (by kernel_rfl) .nil) rfl (fun W S => ⟨rfl, S.below⟩)
    replace h := H.f q2 h
    refine o_set 28 (congrArg Value.bool q2) ?_
    refine p 4 ?_
    refine xx rfl (x_sto 0 g0_0 5 (eShape ({ a0 with Thumb := a2, Spread := false })) ?_)
    refine rend ?_
    refine c_seq ?_
    refine r_start ?_
    refine xq rfl (y_load (.agg (eShape ({ a0 with Thumb := a2, Spread := false })).toArray) 0 g0_0 0) ?_
    refine xx rfl (x_sto 1 g0_1 0 (eShape ({ a0 with Thumb := a2, Spread := false })) ?_)
    refine rend ?_
    replace h := H.done h
    subst h
    exact ret func175 rfl (vs := [.agg (eShape ({ a0 with Thumb := a2, Spread := false })).toArray]) (.cell 1 g0_1 rfl (by kernel_rfl) (by kernel_rfl) .nil) rfl (fun W S => ⟨rfl, S.below⟩)
  replace h := H.f q1 h
  refine c_seq ?_
  refine r_start ?_
  refine p 2 ?_
  refine rend ?_
  refine c_or (a1 == 1) (fun q3 => ?_) (fun q3 => ?_)
  · replace h := H.t q3 h
    refine r_start ?_
    refine p 2 ?_
    refine xx rfl (x_sto 0 g0_0 1 (eShape ({ a0 with Index := a2 })) ?_)
    refine rend ?_
    refine c_inb ?_
    refine c_seq ?_
    refine r_start ?_
    refine p 1 ?_
    refine xq rfl (y_load (.bool a0.Spread) 0 g0_0 5) ?_
    refine p 1 ?_
    refine br a0.Spread (fun q4 => ?_) (fun q4 => ?_)
    · replace h := H.t q4 h
      refine o_set 28 (congrArg Value.bool q4) ?_
      refine xq rfl (y_load (.agg (eShape ({ a0 with Index := a2 })).toArray) 0 g0_0 0) ?_
      obtain ⟨v11_4, hv11_4, h⟩ := H.call h
      refine xq rfl (y_call [.agg (eShape ({ a0 with Index := a2 })).toArray] (.bool v11_4) func202 (fun W S => C.i_Shape_maySpread W hv11_4)) ?_
      refine p 2 ?_
      refine xx rfl (x_sto 0 g0_0 5 (eShape ({ a0 with Index := a2, Spread := v11_4 })) ?_)
      refine rend ?_
      refine c_seq ?_
      refine r_start ?_
      refine xq rfl (y_load (.agg (eShape ({ a0 with Index := a2, Spread := v11_4 })).toArray) 0 g0_0 0) ?_
      refine xx rfl (x_sto 1 g0_1 0 (eShape ({ a0 with Index := a2, Spread := v11_4 })) ?_)
      refine rend ?_
      replace h := H.done h
      subst h
      exact ret func175 rfl (vs := [.agg (eShape ({ a0 with Index := a2, Spread := v11_4 })).toArray]) (.cell 1 g0_1 rfl (by kernel_rfl) (by kernel_rfl) .nil) rfl (fun W S => ⟨rfl, S.below⟩)
    replace h := H.f q4 h
    refine o_set 28 (congrArg Value.bool q4) ?_
    refine p 4 ?_
    refine xx rfl (x_sto 0 g0_0 5 (eShape ({ a0 with Index := a2, Spread := false })) ?_)
    refine rend ?_
    refine c_seq ?_
    refine r_start ?_
    refine xq rfl (y_load (.agg (eShape ({ a0 with Index := a2, Spread := false })).toArray) 0 g0_0 0) ?_
    refine xx rfl (x_sto 1 g0_1 0 (eShape ({ a0 with Index := a2, Spread := false })) ?_)
    refine rend ?_
    replace h := H.done h
    subst h
    exact ret func175 rfl (vs := [.agg (eShape ({ a0 with Index := a2, Spread := false })).toArray]) (.cell 1 g0_1 rfl (by kernel_rfl) (by kernel_rfl) .nil) rfl (fun W S => ⟨rfl, S.below⟩)
  replace h := H.f q3 h
  refine c_seq ?_
  refine r_start ?_
  refine p 2 ?_
  refine rend ?_
  refine c_or (a1 == 2) (fun q5 => ?_) (fun q5 => ?_)
  · replace h := H.t q5 h
    refine r_start ?_
    refine p 2 ?_
    refine xx rfl (x_sto 0 g0_0 2 (eShape ({ a0 with Middle := a2 })) ?_)
    refine rend ?_
    refine c_inb ?_
    refine c_seq ?_
    refine r_start ?_
    refine p 1 ?_
    refine xq rfl (y_load (.bool a0.Spread) 0 g0_0 5) ?_
    refine p 1 ?_
    refine br a0.Spread (fun q6 => ?_) (fun q6 => ?_)
    · replace h := H.t q6 h
      refine o_set 28 (congrArg Value.bool q6) ?_
      refine xq rfl (y_load (.agg (eShape ({ a0 with Middle := a2 })).toArray) 0 g0_0 0) ?_
      obtain ⟨v11_4, hv11_4, h⟩ := H.call h
      refine xq rfl (y_call [.agg (eShape ({ a0 with Middle := a2 })).toArray] (.bool v11_4) func202 (fun W S => C.i_Shape_maySpread W hv11_4)) ?_
      refine p 2 ?_
      refine xx rfl (x_sto 0 g0_0 5 (eShape ({ a0 with Middle := a2, Spread := v11_4 })) ?_)
      refine rend ?_
      refine c_seq ?_
      refine r_start ?_
      refine xq rfl (y_load (.agg (eShape ({ a0 with Middle := a2, Spread := v11_4 })).toArray) 0 g0_0 0) ?_
      refine xx rfl (x_sto 1 g0_1 0 (eShape ({ a0 with Middle := a2, Spread := v11_4 })) ?_)
      refine rend ?_
      replace h := H.done h
      subst h
      exact ret func175 rfl (vs := [.agg (eShape ({ a0 with Middle := a2, Spread := v11_4 })).toArray]) (.cell 1 g0_1 rfl (by kernel_rfl) (by kernel_rfl) .nil) rfl (fun W S => ⟨rfl, S.below⟩)
    replace h := H.f q6 h
    refine o_set 28 (congrArg Value.bool q6) ?_
    refine p 4 ?_
    refine xx rfl (x_sto 0 g0_0 5 (eShape ({ a0 with Middle := a2, Spread := false })) ?_)
    refine rend ?_
    refine c_seq ?_
    refine r_start ?_
    refine xq rfl (y_load (.agg (eShape ({ a0 with Middle := a2, Spread := false })).toArray) 0 g0_0 0) ?_
    refine xx rfl (x_sto 1 g0_1 0 (eShape ({ a0 with Middle := a2, Spread := false })) ?_)
    refine rend ?_
    replace h := H.done h
    subst h
    exact ret func175 rfl (vs := [.agg (eShape ({ a0 with Middle := a2, Spread := false })).toArray]) (.cell 1 g0_1 rfl (by kernel_rfl) (by kernel_rfl) .nil) rfl (fun W S => ⟨rfl, S.below⟩)
  replace h := H.f q5 h
  refine c_seq ?_
  refine r_start ?_
  refine p 2 ?_
  refine rend ?_
  refine c_or (a1 == 3) (fun q7 => ?_) (fun q7 => ?_)
  · replace h := H.t q7 h
    refine r_start ?_
    refine p 2 ?_
    refine xx rfl (x_sto 0 g0_0 3 (eShape ({ a0 with Ring := a2 })) ?_)
    refine rend ?_
    refine c_inb ?_
    refine c_seq ?_
    refine r_start ?_
    refine p 1 ?_
    refine xq rfl (y_load (.bool a0.Spread) 0 g0_0 5) ?_
    refine p 1 ?_
    refine br a0.Spread (fun q8 => ?_) (fun q8 => ?_)
    · replace h := H.t q8 h
      refine o_set 28 (congrArg Value.bool q8) ?_
      refine xq rfl (y_load (.agg (eShape ({ a0 with Ring := a2 })).toArray) 0 g0_0 0) ?_
      obtain ⟨v11_4, hv11_4, h⟩ := H.call h
      refine xq rfl (y_call [.agg (eShape ({ a0 with Ring := a2 })).toArray] (.bool v11_4) func202 (fun W S => C.i_Shape_maySpread W hv11_4)) ?_
      refine p 2 ?_
      refine xx rfl (x_sto 0 g0_0 5 (eShape ({ a0 with Ring := a2, Spread := v11_4 })) ?_)
      refine rend ?_
      refine c_seq ?_
      refine r_start ?_
      refine xq rfl (y_load (.agg (eShape ({ a0 with Ring := a2, Spread := v11_4 })).toArray) 0 g0_0 0) ?_
      refine xx rfl (x_sto 1 g0_1 0 (eShape ({ a0 with Ring := a2, Spread := v11_4 })) ?_)
      refine rend ?_
      replace h := H.done h
      subst h
      exact ret func175 rfl (vs := [.agg (eShape ({ a0 with Ring := a2, Spread := v11_4 })).toArray]) (.cell 1 g0_1 rfl (by kernel_rfl) (by kernel_rfl) .nil) rfl (fun W S => ⟨rfl, S.below⟩)
    replace h := H.f q8 h
    refine o_set 28 (congrArg Value.bool q8) ?_
    refine p 4 ?_
    refine xx rfl (x_sto 0 g0_0 5 (eShape ({ a0 with Ring := a2, Spread := false })) ?_)
    refine rend ?_
    refine c_seq ?_
    refine r_start ?_
    refine xq rfl (y_load (.agg (eShape ({ a0 with Ring := a2, Spread := false })).toArray) 0 g0_0 0) ?_
    refine xx rfl (x_sto 1 g0_1 0 (eShape ({ a0 with Ring := a2, Spread := false })) ?_)
    refine rend ?_
    replace h := H.done h
    subst h
    exact ret func175 rfl (vs := [.agg (eShape ({ a0 with Ring := a2, Spread := false })).toArray]) (.cell 1 g0_1 rfl (by kernel_rfl) (by kernel_rfl) .nil) rfl (fun W S => ⟨rfl, S.below⟩)
  replace h := H.f q7 h
  refine r_start ?_
  refine p 2 ?_
  refine xx rfl (x_sto 0 g0_0 4 (eShape ({ a0 with Little := a2 })) ?_)
  refine rend ?_
  refine c_inb ?_
  refine c_seq ?_
  refine r_start ?_
  refine p 1 ?_
  refine xq rfl (y_load (.bool a0.Spread) 0 g0_0 5) ?_
  refine p 1 ?_
  refine br a0.Spread (fun q9 => ?_) (fun q9 => ?_)
  · replace h := H.t q9 h
    refine o_set 28 (congrArg Value.bool q9) ?_
    refine xq rfl (y_load (.agg (eShape ({ a0 with Little := a2 })).toArray) 0 g0_0 0) ?_
    obtain ⟨v11_4, hv11_4, h⟩ := H.call h
    refine xq rfl (y_call [.agg (eShape ({ a0 with Little := a2 })).toArray] (.bool v11_4) func202 (fun W S => C.i_Shape_maySpread W hv11_4)) ?_
    refine p 2 ?_
    refine xx rfl (x_sto 0 g0_0 5 (eShape ({ a0 with Little := a2, Spread := v11_4 })) ?_)
    refine rend ?_
    refine c_seq ?_
    refine r_start ?_
    refine xq rfl (y_load (.agg (eShape ({ a0 with Little := a2, Spread := v11_4 })).toArray) 0 g0_0 0) ?_
    refine xx rfl (x_sto 1 g0_1 0 (eShape ({ a0 with Little := a2, Spread := v11_4 })) ?_)
    refine rend ?_
    replace h := H.done h
    subst h
    exact ret func175 rfl (vs := [.agg (eShape ({ a0 with Little := a2, Spread := v11_4 })).toArray]) (.cell 1 g0_1 rfl (by kernel_rfl) (by kernel_rfl) .nil) rfl (fun W S => ⟨rfl, S.below⟩)
  replace h := H.f q9 h
  refine o_set 28 (congrArg Value.bool q9) ?_
  refine p 4 ?_
  refine xx rfl (x_sto 0 g0_0 5 (eShape ({ a0 with Little := a2, Spread := false })) ?_)
  refine rend ?_
  refine c_seq ?_
  refine r_start ?_
  refine xq rfl (y_load (.agg (eShape ({ a0 with Little := a2, Spread := false })).toArray) 0 g0_0 0) ?_
  refine xx rfl (x_sto 1 g0_1 0 (eShape ({ a0 with Little := a2, Spread := false })) ?_)
  refine rend ?_
  replace h := H.done h
  subst h
  exact ret func175 rfl (vs := [.agg (eShape ({ a0 with Little := a2, Spread := false })).toArray]) (.cell 1 g0_1 rfl (by kernel_rfl) (by kernel_rfl) .nil) rfl (fun W S => ⟨rfl, S.below⟩)
theorem C.i_ParseShape {fu : Nat} {a0 : Str} {r : (Shape × Bool)} (w : World) (h : X.i_ParseShape fu a0 = some r) : Calls prog 117 #[.string (bs a0)] w (Ret w (.tuple #[.agg (eShape r.1).toArray, .bool r.2])) := by
  refine calls (M := no) (args := [.string (bs a0)]) func117 rfl ?_
  replace h : H (X.i_ParseShape fu a0) (fun o => o = r) := H.mk h
  unfold X.i_ParseShape at h
  refine c_seq ?_
  refine r_start ?_
  refine xx rfl (x_new (eShape zShape) fun g0_0 => ?_)
  refine p 1 ?_
  refine rend ?_
  refine c_seq ?_
  refine c_seq ?_
  refine r_start ?_
  refine p 2 ?_
  obtain ⟨v1_2, hv1_2, h⟩ := H.call h
  refine xq rfl (y_call [.int .i64 (List.length a0 : Int), .int .i64 5, .int .i64 6] (.bool v1_2) func174 (fun W S => C.i_within W hv1_2)) ?_
  refine p 1 ?_
  refine rend ?_
  refine c_or (!v1_2) (fun q1 => ?_) (fun q1 => ?_)
  · replace h := H.t q1 h
    refine c_seq ?_
    refine r_start ?_
    refine p 1 ?_
    refine xx rfl (x_sto 0 g0_0 0 (eShape zShape) ?_)
    refine p 1 ?_
    refine rend ?_
    replace h := H.done h
    subst h
    exact ret func117 rfl (vs := [.agg (eShape zShape).toArray, .bool false]) (.cell 0 g0_0 rfl (by kernel_rfl) (by kernel_rfl) (.tmp (by kernel_rfl) .nil)) rfl (fun W S => ⟨rfl, S.below⟩)
  replace h := H.f q1 h
  refine c_skip ?_
  refine c_seq ?_
  refine r_start ?_
  refine xx rfl (x_new (eShape zShape) fun g3_0 => ?_)
  refine rend ?_
  refine c_seq ?_
  refine c_seq ?_
  refine r_start ?_
  refine p 1 ?_
  refine rend ?_
  refine c_block ?_
  refine joinH (X := Shape) 0 (H.bnd h) (fun (x : Shape) => x) (fun s4 => [box g0_0 36 (eShape zShape), box g3_0 36 (eShape s4)]) (fun s4 u => (.string (bs a0) :: (jk u 1 1 (.pointer (some ⟨g0_0, 0, none⟩) :: (jk u 3 1 (.pointer (some ⟨g3_0, 0, none⟩) :: (jk u 5 33 []))))))) (fun h hj5 => ?_) ?_
  · skip
    refine loopR (X := (Int × Shape)) (fun (x : (Int × Shape)) => x) (fun ⟨n2, s3⟩ => [box g0_0 36 (eShape zShape), box g3_0 36 (eShape s3)]) (fun ⟨n2, s3⟩ u => (.string (bs a0) :: (jk u 1 1 (.pointer (some ⟨g0_0, 0, none⟩) :: (jk u 3 1 (.pointer (some ⟨g3_0, 0, none⟩) :: (jk u 5 6 (.int .i64 n2 :: (jk u 12 26 []))))))))) (0, zShape) h (by kernel_rfl) (by kernel_rfl) ?_
    intro x u h
    obtain ⟨n2, s3⟩ := x
    refine c_seq ?_
    refine r_start ?_
    refine p 1 ?_
    refine rend ?_
    refine c_seq ?_
    refine c_or (decide (n2 < 5)) (fun q6 => ?_) (fun q6 => ?_)
    · replace h := H.t q6 h
      refine c_skip ?_
      refine c_seq ?_
      refine c_block ?_
      refine c_seq ?_
      refine r_start ?_
      refine p 2 ?_
      refine rend ?_
      refine as_start 8 9 ?_
      refine aq 0 rfl (y_load (.agg (eShape s3).toArray) 1 g3_0 0) ?_
      refine ap 1 3 ?_
      obtain ⟨y7_4, hy7_4, h⟩ := H.call h
      refine aq 4 rfl (y_byte hy7_4) ?_
      refine ap 5 2 ?_
      obtain ⟨v7_7, hv7_7, h⟩ := H.call h
      refine aq 7 rfl (y_call [.agg (eShape s3).toArray, .int .i64 n2, .int .i64 (wr ((wr y7_4) - 48))] (.agg (eShape v7_7).toArray) func175 (fun W S => C.i_Shape_with W hv7_7)) ?_
      refine ax 8 rfl (x_sto 1 g3_0 0 (eShape v7_7) ⟨.inl (by kernel_rfl), ?_⟩)
      refine a_done ?_
      refine c_inb ?_
      refine r_start ?_
      refine p 2 ?_
      refine rend ?_
      replace h := H.inl h
      exact h ((wr (n2 + 1)), v7_7) _ _ rfl (by kernel_rfl) (by kernel_rfl)
    replace h := H.f q6 h
    refine cx ?_
    replace h := H.inr h
    exact hj5 s3 _ _ h (by kernel_rfl) (by kernel_rfl)
  intro s4 u h
  refine c_seq ?_
  refine r_start ?_
  refine p 4 ?_
  refine xx rfl (x_sto 1 g3_0 5 (eShape ({ s4 with Spread := ((List.length a0 : Int) == 6) })) ?_)
  refine rend ?_
  refine c_seq ?_
  refine c_seq ?_
  refine r_start ?_
  refine xq rfl (y_load (.agg (eShape ({ s4 with Spread := ((List.length a0 : Int) == 6) })).toArray) 1 g3_0 0) ?_
  obtain ⟨v10_1, hv10_1, h⟩ := H.call h
  refine xq rfl (y_call [.agg (eShape ({ s4 with Spread := ((List.length a0 : Int) == 6) })).toArray] (.bool v10_1) func146 (fun W S => C.i_IsShape W hv10_1)) ?_
  refine p 2 ?_
  refine br (!v10_1) (fun q7 => ?_) (fun q7 => ?_)
  · replace h := H.t q7 h
    refine o_set 30 (congrArg Value.bool q7) ?_
    refine p 5 ?_
    refine rend ?_
    refine c_t (by kernel_rfl) ?_
    refine c_seq ?_
    refine r_start ?_
    refine p 1 ?_
    refine xx rfl (x_sto 0 g0_0 0 (eShape zShape) ?_)
    refine p 1 ?_
    refine rend ?_
    replace h := H.done h
    subst h
    exact ret func117 rfl (vs := [.agg (eShape zShape).toArray, .bool false]) (.cell 0 g0_0 rfl (by kernel_rfl) (by kernel_rfl) (.tmp (by kernel_rfl) .nil)) rfl (fun W S => ⟨rfl, S.below⟩)
  replace h := H.f q7 h
  refine o_set 30 (congrArg Value.bool q7) ?_
  refine xq rfl (y_load (.agg (eShape ({ s4 with Spread := ((List.length a0 : Int) == 6) })).toArray) 1 g3_0 0) ?_
  obtain ⟨v10_5, hv10_5, h⟩ := H.call h
  refine xq rfl (y_call [.agg (eShape ({ s4 with Spread := ((List.length a0 : Int) == 6) })).toArray] (.string (bs v10_5)) func129 (fun W S => C.i_Shape_text W hv10_5)) ?_
  refine p 3 ?_
  refine rend ?_
  refine c_or (!seq v10_5 a0) (fun q8 => ?_) (fun q8 => ?_)
  · replace h := H.t q8 h
    refine c_seq ?_
    refine r_start ?_
    refine p 1 ?_
    refine xx rfl (x_sto 0 g0_0 0 (eShape zShape) ?_)
    refine p 1 ?_
    refine rend ?_
    replace h := H.done h
    subst h
    exact ret func117 rfl (vs := [.agg (eShape zShape).toArray, .bool false]) (.cell 0 g0_0 rfl (by kernel_rfl) (by kernel_rfl) (.tmp (by kernel_rfl) .nil)) rfl (fun W S => ⟨rfl, S.below⟩)
  replace h := H.f q8 h
  refine c_skip ?_
  refine c_seq ?_
  refine r_start ?_
  refine xq rfl (y_load (.agg (eShape ({ s4 with Spread := ((List.length a0 : Int) == 6) })).toArray) 1 g3_0 0) ?_
  refine xx rfl (x_sto 0 g0_0 0 (eShape ({ s4 with Spread := ((List.length a0 : Int) == 6) })) ?_)
  refine p 1 ?_
  refine rend ?_
  replace h := H.done h
  subst h
  exact ret func117 rfl (vs := [.agg (eShape ({ s4 with Spread := ((List.length a0 : Int) == 6) })).toArray, .bool true]) (.cell 0 g0_0 rfl (by kernel_rfl) (by kernel_rfl) (.tmp (by kernel_rfl) .nil)) rfl (fun W S => ⟨rfl, S.below⟩)
theorem C.i_IsOrient {a0 : Orient} {r : Bool} (w : World) (h : X.i_IsOrient a0 = some r) : Calls prog 147 #[.agg (eOrient a0).toArray] w (Ret w (.bool r)) := by
  refine calls (M := no) (args := [.agg (eOrient a0).toArray]) func147 rfl ?_
  replace h : H (X.i_IsOrient a0) (fun o => o = r) := H.mk h
  unfold X.i_IsOrient at h
  refine c_seq ?_
  refine r_start ?_
  refine xx rfl (x_box (eOrient a0) fun g0_0 => ?_)
  refine p 1 ?_
  refine rend ?_
  refine c_seq ?_
  refine r_start ?_
  refine p 1 ?_
  refine xq rfl (y_load (.int .i64 a0.Palm) 0 g0_0 0) ?_
  obtain ⟨v1_2, hv1_2, h⟩ := H.call h
  refine xq rfl (y_call [.int .i64 a0.Palm, .int .i64 0, .int .i64 5] (.bool v1_2) func174 (fun W S => C.i_within W hv1_2)) ?_
  refine p 1 ?_
  refine br v1_2 (fun q1 => ?_) (fun q1 => ?_)
  · replace h := H.t q1 h
    refine o_set 6 (congrArg Value.bool q1) ?_
    refine p 1 ?_
    refine xq rfl (y_load (.int .i64 a0.Fingers) 0 g0_0 1) ?_
    obtain ⟨v1_6, hv1_6, h⟩ := H.call h
    refine xq rfl (y_call [.int .i64 a0.Fingers, .int .i64 0, .int .i64 5] (.bool v1_6) func174 (fun W S => C.i_within W hv1_6)) ?_
    refine p 2 ?_
    refine br v1_6 (fun q2 => ?_) (fun q2 => ?_)
    · replace h := H.t q2 h
      refine o_set 11 (congrArg Value.bool q2) ?_
      refine p 1 ?_
      refine xq rfl (y_load (.int .i64 a0.Palm) 0 g0_0 0) ?_
      refine p 2 ?_
      refine xq rfl (y_load (.int .i64 a0.Fingers) 0 g0_0 1) ?_
      refine p 4 ?_
      refine rend ?_
      replace h := H.done h
      subst h
      exact ret func147 rfl (vs := [.bool ((wr (Int.tdiv a0.Palm 2)) != (wr (Int.tdiv a0.Fingers 2)))]) (.tmp (by kernel_rfl) .nil) rfl (fun W S => ⟨rfl, S.below⟩)
    replace h := H.f q2 h
    refine o_set 11 (congrArg Value.bool q2) ?_
    refine p 9 ?_
    refine rend ?_
    replace h := H.done h
    subst h
    exact ret func147 rfl (vs := [.bool false]) (.tmp (by kernel_rfl) .nil) rfl (fun W S => ⟨rfl, S.below⟩)
  replace h := H.f q1 h
  refine o_set 6 (congrArg Value.bool q1) ?_
  refine p 14 ?_
  refine rend ?_
  replace h := H.done h
  subst h
  exact ret func147 rfl (vs := [.bool false]) (.tmp (by kernel_rfl) .nil) rfl (fun W S => ⟨rfl, S.below⟩)
theorem C.strings_IndexByte {a0 : Str} {a1 r : Int} (w : World) (h : X.strings_IndexByte a0 a1 = some r) : Calls prog 176 #[.string (bs a0), .int .u8 a1] w (Ret w (.int .i64 r)) := by
  obtain rfl := Option.some.inj h
  refine (Tryz.strings_IndexByte (bs a0) a1 w).mono ?_
  rintro e w' ⟨rfl, rfl⟩
  exact ⟨rfl, Below.refl _ _⟩
theorem C.i_ParseOrient {a0 : Str} {r : (Orient × Bool)} (w : World) (h : X.i_ParseOrient a0 = some r) : Calls prog 118 #[.string (bs a0)] w (Ret w (.tuple #[.agg (eOrient r.1).toArray, .bool r.2])) := by
  refine calls (M := no) (args := [.string (bs a0)]) func118 rfl ?_
  replace h : H (X.i_ParseOrient a0) (fun o => o = r) := H.mk h
  unfold X.i_ParseOrient at h
  refine c_seq ?_
  refine r_start ?_
  refine xx rfl (x_new (eOrient zOrient) fun g0_0 => ?_)
  refine p 1 ?_
  refine rend ?_
  refine c_seq ?_
  refine c_seq ?_
  refine r_start ?_
  refine p 3 ?_
  refine rend ?_
  refine c_or ((List.length a0 : Int) != 2) (fun q1 => ?_) (fun q1 => ?_)
  · replace h := H.t q1 h
    refine c_seq ?_
    refine r_start ?_
    refine p 1 ?_
    refine xx rfl (x_sto 0 g0_0 0 (eOrient zOrient) ?_)
    refine p 1 ?_
    refine rend ?_
    replace h := H.done h
    subst h
    exact ret func118 rfl (vs := [.agg (eOrient zOrient).toArray, .bool false]) (.cell 0 g0_0 rfl (by kernel_rfl) (by kernel_rfl) (.tmp (by kernel_rfl) .nil)) rfl (fun W S => ⟨rfl, S.below⟩)
  replace h := H.f q1 h
  refine c_skip ?_
  refine c_seq ?_
  refine as_start 9 9 ?_
  refine ap 0 1 ?_
  obtain ⟨y3_1, hy3_1, h⟩ := H.call h
  refine aq 1 rfl (y_byte hy3_1) ?_
  obtain ⟨v3_2, hv3_2, h⟩ := H.call h
  refine aq 2 rfl (y_call [.string (bs ([117, 100, 108, 114, 102, 98] : Str)), .int .u8 y3_1] (.int .i64 v3_2) func176 (fun W S => C.strings_IndexByte W hv3_2)) ?_
  refine ap 3 1 ?_
  obtain ⟨y3_4, hy3_4, h⟩ := H.call h
  refine aq 4 rfl (y_byte hy3_4) ?_
  obtain ⟨v3_5, hv3_5, h⟩ := H.call h
  refine aq 5 rfl (y_call [.string (bs ([117, 100, 108, 114, 102, 98] : Str)), .int .u8 y3_4] (.int .i64 v3_5) func176 (fun W S => C.strings_IndexByte W hv3_5)) ?_
  refine ap 6 1 ?_
  refine ax 7 rfl (x_new (eOrient zOrient) fun g3_7 => ⟨.inr (by kernel_rfl), ?_⟩)
  refine ax 8 rfl (x_sto 1 g3_7 0 (eOrient (⟨v3_2, v3_5⟩ : Orient)) ⟨.inr (by kernel_rfl), ?_⟩)
  refine a_done ?_
  refine c_seq ?_
  refine c_seq ?_
  refine r_start ?_
  refine xq rfl (y_load (.agg (eOrient (⟨v3_2, v3_5⟩ : Orient)).toArray) 1 g3_7 0) ?_
  obtain ⟨v4_1, hv4_1, h⟩ := H.call h
  refine xq rfl (y_call [.agg (eOrient (⟨v3_2, v3_5⟩ : Orient)).toArray] (.bool v4_1) func147 (fun W S => C.i_IsOrient W hv4_1)) ?_
  refine p 1 ?_
  refine rend ?_
  refine c_or (!v4_1) (fun q2 => ?_) (fun q2 => ?_)
  · replace h := H.t q2 h
    refine c_seq ?_
    refine r_start ?_
    refine p 1 ?_
    refine xx rfl (x_sto 0 g0_0 0 (eOrient zOrient) ?_)
    refine p 1 ?_
    refine rend ?_
    replace h := H.done h
    subst h
    exact ret func118 rfl (vs := [.agg (eOrient zOrient).toArray, .bool false]) (.cell 0 g0_0 rfl (by kernel_rfl) (by kernel_rfl) (.tmp (by kernel_rfl) .nil)) rfl (fun W S => ⟨rfl, S.below⟩)
  replace h := H.f q2 h
  refine c_skip ?_
  refine c_seq ?_
  refine r_start ?_
  refine xq rfl (y_load (.agg (eOrient (⟨v3_2, v3_5⟩ : Orient)).toArray) 1 g3_7 0) ?_
  refine xx rfl (x_sto 0 g0_0 0 (eOrient (⟨v3_2, v3_5⟩ : Orient)) ?_)
  refine p 1 ?_
  refine rend ?_
  replace h := H.done h
  subst h
  exact ret func118 rfl (vs := [.agg (eOrient (⟨v3_2, v3_5⟩ : Orient)).toArray, .bool true]) (.cell 0 g0_0 rfl (by kernel_rfl) (by kernel_rfl) (.tmp (by kernel_rfl) .nil)) rfl (fun W S => ⟨rfl, S.below⟩)
theorem C.i_Place_text {a0 : Place} {r : Str} (w : World) (h : X.i_Place_text a0 = some r) : Calls prog 131 #[.agg (ePlace a0).toArray] w (Ret w (.string (bs r))) := by
  refine calls (M := no) (args := [.agg (ePlace a0).toArray]) func131 rfl ?_
  replace h : H (X.i_Place_text a0) (fun o => o = r) := H.mk h
  unfold X.i_Place_text at h
  refine c_seq ?_
  refine r_start ?_
  refine xx rfl (x_box (ePlace a0) fun g0_0 => ?_)
  refine p 1 ?_
  refine rend ?_
  refine c_seq ?_
  refine r_start ?_
  refine p 1 ?_
  refine xx rfl (x_new (Enc.flat eS ([([] : Str), ([] : Str), ([] : Str), ([] : Str), ([] : Str), ([] : Str), ([] : Str), ([] : Str), ([] : Str), ([] : Str)] : List Str)) fun g1_1 => ?_)
  refine xx rfl (x_sto 1 g1_1 0 (Enc.flat eS ([([115, 112, 97, 99, 101] : Str), ([104, 101, 97, 100] : Str), ([101, 121, 101] : Str), ([99, 104, 101, 101, 107] : Str), ([109, 111, 117, 116, 104] : Str), ([99, 104, 105, 110] : Str), ([110, 101, 99, 107] : Str), ([99, 104, 101, 115, 116] : Str), ([119, 97, 105, 115, 116] : Str), ([104, 105, 112] : Str)] : List Str)) ?_)
  refine rend ?_
  refine c_seq ?_
  refine as_start 11 11 ?_
  refine ap 0 1 ?_
  refine aq 1 rfl (y_load (.int .i64 a0.Region) 0 g0_0 0) ?_
  obtain ⟨y2_2, hy2_2, h⟩ := H.call h
  refine aq 2 rfl (y_arp (e := eS) (el := 9) (g := g1_1) hy2_2) ?_
  refine aq 3 rfl (y_arl (e := eS) 1 (.string (bs y2_2)) hy2_2) ?_
  refine ap 4 2 ?_
  refine aq 6 rfl (y_load (.int .i64 a0.Side) 0 g0_0 1) ?_
  refine ap 7 1 ?_
  obtain ⟨y2_8, hy2_8, h⟩ := H.call h
  refine aq 8 rfl (y_arr (e := eS) (el := 9) (.string (bs y2_8)) hy2_8) ?_
  obtain ⟨y2_9, hy2_9, h⟩ := H.call h
  refine aq 9 rfl (y_cat hy2_9) ?_
  refine ap 10 1 ?_
  refine a_done ?_
  refine c_seq ?_
  refine c_seq ?_
  refine r_start ?_
  refine p 1 ?_
  refine xq rfl (y_load (.bool a0.Contact) 0 g0_0 2) ?_
  refine rend ?_
  refine c_or a0.Contact (fun q1 => ?_) (fun q1 => ?_)
  · replace h := H.t q1 h
    refine r_start ?_
    refine p 1 ?_
    obtain ⟨y4_1, hy4_1, h⟩ := H.call h
    refine xq rfl (y_cat hy4_1) ?_
    refine p 1 ?_
    refine rend ?_
    refine c_seq ?_
    refine r_start ?_
    refine p 2 ?_
    refine rend ?_
    replace h := H.done h
    subst h
    exact ret func131 rfl (vs := [.string (bs y4_1)]) (.tmp (by kernel_rfl) .nil) rfl (fun W S => ⟨rfl, S.below⟩)
  replace h := H.f q1 h
  refine c_skip ?_
  refine c_seq ?_
  refine r_start ?_
  refine p 2 ?_
  refine rend ?_
  replace h := H.done h
  subst h
  exact ret func131 rfl (vs := [.string (bs y2_9)]) (.tmp (by kernel_rfl) .nil) rfl (fun W S => ⟨rfl, S.below⟩)
theorem C.i_IsPlace {a0 : Place} {r : Bool} (w : World) (h : X.i_IsPlace a0 = some r) : Calls prog 148 #[.agg (ePlace a0).toArray] w (Ret w (.bool r)) := by
  refine calls (M := no) (args := [.agg (ePlace a0).toArray]) func148 rfl ?_
  replace h : H (X.i_IsPlace a0) (fun o => o = r) := H.mk h
  unfold X.i_IsPlace at h
  refine c_seq ?_
  refine r_start ?_
  refine xx rfl (x_box (ePlace a0) fun g0_0 => ?_)
  refine p 1 ?_
  refine rend ?_
  refine c_seq ?_
  refine r_start ?_
  refine p 1 ?_
  refine xq rfl (y_load (.int .i64 a0.Region) 0 g0_0 0) ?_
  obtain ⟨v1_2, hv1_2, h⟩ := H.call h
  refine xq rfl (y_call [.int .i64 a0.Region, .int .i64 0, .int .i64 9] (.bool v1_2) func174 (fun W S => C.i_within W hv1_2)) ?_
  refine p 1 ?_
  refine br v1_2 (fun q1 => ?_) (fun q1 => ?_)
  · replace h := H.t q1 h
    refine o_set 6 (congrArg Value.bool q1) ?_
    refine p 1 ?_
    refine xq rfl (y_load (.int .i64 a0.Side) 0 g0_0 1) ?_
    obtain ⟨v1_6, hv1_6, h⟩ := H.call h
    refine xq rfl (y_call [.int .i64 a0.Side, .int .i64 (-1), .int .i64 1] (.bool v1_6) func174 (fun W S => C.i_within W hv1_6)) ?_
    refine p 2 ?_
    refine br v1_6 (fun q2 => ?_) (fun q2 => ?_)
    · replace h := H.t q2 h
      refine o_set 11 (congrArg Value.bool q2) ?_
      refine p 1 ?_
      refine xq rfl (y_load (.bool a0.Contact) 0 g0_0 2) ?_
      refine p 1 ?_
      refine br a0.Contact (fun q3 => ?_) (fun q3 => ?_)
      · replace h := H.t q3 h
        refine o_set 14 (congrArg Value.bool q3) ?_
        refine p 1 ?_
        refine xq rfl (y_load (.int .i64 a0.Region) 0 g0_0 0) ?_
        refine p 5 ?_
        refine rend ?_
        replace h := H.done h
        subst h
        exact ret func148 rfl (vs := [.bool (!(a0.Region == 0))]) (.tmp (by kernel_rfl) .nil) rfl (fun W S => ⟨rfl, S.below⟩)
      replace h := H.f q3 h
      refine o_set 14 (congrArg Value.bool q3) ?_
      refine p 7 ?_
      refine rend ?_
      replace h := H.done h
      subst h
      exact ret func148 rfl (vs := [.bool true]) (.tmp (by kernel_rfl) .nil) rfl (fun W S => ⟨rfl, S.below⟩)
    replace h := H.f q2 h
    refine o_set 11 (congrArg Value.bool q2) ?_
    refine p 10 ?_
    refine rend ?_
    replace h := H.done h
    subst h
    exact ret func148 rfl (vs := [.bool false]) (.tmp (by kernel_rfl) .nil) rfl (fun W S => ⟨rfl, S.below⟩)
  replace h := H.f q1 h
  refine o_set 6 (congrArg Value.bool q1) ?_
  refine p 15 ?_
  refine rend ?_
  replace h := H.done h
  subst h
  exact ret func148 rfl (vs := [.bool false]) (.tmp (by kernel_rfl) .nil) rfl (fun W S => ⟨rfl, S.below⟩)
theorem C.i_PlaceOfCode {a0 : Int} {r : (Place × Bool)} (w : World) (h : X.i_PlaceOfCode a0 = some r) : Calls prog 177 #[.int .i64 a0] w (Ret w (.tuple #[.agg (ePlace r.1).toArray, .bool r.2])) := by
  refine calls (M := no) (args := [.int .i64 a0]) func177 rfl ?_
  replace h : H (X.i_PlaceOfCode a0) (fun o => o = r) := H.mk h
  unfold X.i_PlaceOfCode at h
  refine c_seq ?_
  refine r_start ?_
  refine xx rfl (x_new (ePlace zPlace) fun g0_0 => ?_)
  refine p 1 ?_
  refine rend ?_
  refine c_seq ?_
  refine c_seq ?_
  refine r_start ?_
  refine p 1 ?_
  obtain ⟨v1_1, hv1_1, h⟩ := H.call h
  refine xq rfl (y_call [.int .i64 a0, .int .i64 0, .int .i64 59] (.bool v1_1) func174 (fun W S => C.i_within W hv1_1)) ?_
  refine p 1 ?_
  refine rend ?_
  refine c_or (!v1_1) (fun q1 => ?_) (fun q1 => ?_)
  · replace h := H.t q1 h
    refine c_seq ?_
    refine r_start ?_
    refine p 1 ?_
    refine xx rfl (x_sto 0 g0_0 0 (ePlace zPlace) ?_)
    refine p 1 ?_
    refine rend ?_
    replace h := H.done h
    subst h
    exact ret func177 rfl (vs := [.agg (ePlace zPlace).toArray, .bool false]) (.cell 0 g0_0 rfl (by kernel_rfl) (by kernel_rfl) (.tmp (by kernel_rfl) .nil)) rfl (fun W S => ⟨rfl, S.below⟩)
  replace h := H.f q1 h
  refine c_skip ?_
  refine c_seq ?_
  refine r_start ?_
  refine p 10 ?_
  refine xx rfl (x_new (ePlace zPlace) fun g3_10 => ?_)
  refine xx rfl (x_sto 1 g3_10 0 (ePlace (⟨(wr (Int.tdiv a0 6)), (wr ((wr (Int.tdiv (Int.tmod a0 6) 2)) - 1)), ((Int.tmod a0 2) == 1)⟩ : Place)) ?_)
  refine rend ?_
  refine c_seq ?_
  refine c_seq ?_
  refine r_start ?_
  refine xq rfl (y_load (.agg (ePlace (⟨(wr (Int.tdiv a0 6)), (wr ((wr (Int.tdiv (Int.tmod a0 6) 2)) - 1)), ((Int.tmod a0 2) == 1)⟩ : Place)).toArray) 1 g3_10 0) ?_
  obtain ⟨v4_1, hv4_1, h⟩ := H.call h
  refine xq rfl (y_call [.agg (ePlace (⟨(wr (Int.tdiv a0 6)), (wr ((wr (Int.tdiv (Int.tmod a0 6) 2)) - 1)), ((Int.tmod a0 2) == 1)⟩ : Place)).toArray] (.bool v4_1) func148 (fun W S => C.i_IsPlace W hv4_1)) ?_
  refine p 1 ?_
  refine rend ?_
  refine c_or (!v4_1) (fun q2 => ?_) (fun q2 => ?_)
  · replace h := H.t q2 h
    refine c_seq ?_
    refine r_start ?_
    refine p 1 ?_
    refine xx rfl (x_sto 0 g0_0 0 (ePlace zPlace) ?_)
    refine p 1 ?_
    refine rend ?_
    replace h := H.done h
    subst h
    exact ret func177 rfl (vs := [.agg (ePlace zPlace).toArray, .bool false]) (.cell 0 g0_0 rfl (by kernel_rfl) (by kernel_rfl) (.tmp (by kernel_rfl) .nil)) rfl (fun W S => ⟨rfl, S.below⟩)
  replace h := H.f q2 h
  refine c_skip ?_
  refine c_seq ?_
  refine r_start ?_
  refine xq rfl (y_load (.agg (ePlace (⟨(wr (Int.tdiv a0 6)), (wr ((wr (Int.tdiv (Int.tmod a0 6) 2)) - 1)), ((Int.tmod a0 2) == 1)⟩ : Place)).toArray) 1 g3_10 0) ?_
  refine xx rfl (x_sto 0 g0_0 0 (ePlace (⟨(wr (Int.tdiv a0 6)), (wr ((wr (Int.tdiv (Int.tmod a0 6) 2)) - 1)), ((Int.tmod a0 2) == 1)⟩ : Place)) ?_)
  refine p 1 ?_
  refine rend ?_
  replace h := H.done h
  subst h
  exact ret func177 rfl (vs := [.agg (ePlace (⟨(wr (Int.tdiv a0 6)), (wr ((wr (Int.tdiv (Int.tmod a0 6) 2)) - 1)), ((Int.tmod a0 2) == 1)⟩ : Place)).toArray, .bool true]) (.cell 0 g0_0 rfl (by kernel_rfl) (by kernel_rfl) (.tmp (by kernel_rfl) .nil)) rfl (fun W S => ⟨rfl, S.below⟩)
theorem C.i_ParsePlace {fu : Nat} {a0 : Str} {r : (Place × Bool)} (w : World) (h : X.i_ParsePlace fu a0 = some r) : Calls prog 119 #[.string (bs a0)] w (Ret w (.tuple #[.agg (ePlace r.1).toArray, .bool r.2])) := by
  refine calls (M := no) (args := [.string (bs a0)]) func119 rfl ?_
  replace h : H (X.i_ParsePlace fu a0) (fun o => o = r) := H.mk h
  unfold X.i_ParsePlace at h
  refine c_seq ?_
  refine r_start ?_
  refine xx rfl (x_new (ePlace zPlace) fun g0_0 => ?_)
  refine p 1 ?_
  refine rend ?_
  refine c_seq ?_
  refine c_seq ?_
  refine r_start ?_
  refine p 1 ?_
  refine rend ?_
  refine c_block ?_
  refine joinE (X := Unit) 0 (H.or h) (fun (x : Unit) => x) (fun _ => [box g0_0 40 (ePlace zPlace)]) (fun _ u => (jk u 0 2 (.pointer (some ⟨g0_0, 0, none⟩) :: (jk u 3 22 [])))) (fun h hj2 => ?_) ?_
  · skip
    refine loopR (X := Int) (fun (x : Int) => x) (fun n1 => [box g0_0 40 (ePlace zPlace)]) (fun n1 u => (.string (bs a0) :: (jk u 1 1 (.pointer (some ⟨g0_0, 0, none⟩) :: (jk u 3 4 (.int .i64 n1 :: (jk u 8 17 []))))))) 0 h (by kernel_rfl) (by kernel_rfl) ?_
    intro n1 u h
    refine c_seq ?_
    refine r_start ?_
    refine p 1 ?_
    refine rend ?_
    refine c_seq ?_
    refine c_or (decide (n1 < 60)) (fun q3 => ?_) (fun q3 => ?_)
    · replace h := H.t q3 h
      refine c_skip ?_
      refine c_seq ?_
      refine c_block ?_
      refine c_seq ?_
      refine r_start ?_
      refine p 2 ?_
      refine rend ?_
      refine c_seq ?_
      refine r_start ?_
      refine p 1 ?_
      obtain ⟨v4_1, hv4_1, h⟩ := H.call h
      refine xq rfl (y_call [.int .i64 n1] (.tuple #[.agg (ePlace v4_1.1).toArray, .bool v4_1.2]) func177 (fun W S => C.i_PlaceOfCode W hv4_1)) ?_
      refine p 3 ?_
      refine xx rfl (x_new (ePlace zPlace) fun g4_5 => ?_)
      refine xx rfl (x_sto 1 g4_5 0 (ePlace v4_1.1) ?_)
      refine p 1 ?_
      refine rend ?_
      refine c_seq ?_
      refine r_start ?_
      refine p 2 ?_
      refine br v4_1.2 (fun q4 => ?_) (fun q4 => ?_)
      · replace h := H.t q4 h
        refine o_set 16 (congrArg Value.bool q4) ?_
        refine xq rfl (y_load (.agg (ePlace v4_1.1).toArray) 1 g4_5 0) ?_
        obtain ⟨v5_3, hv5_3, h⟩ := H.call h
        refine xq rfl (y_call [.agg (ePlace v4_1.1).toArray] (.string (bs v5_3)) func131 (fun W S => C.i_Place_text W hv5_3)) ?_
        refine p 3 ?_
        refine rend ?_
        refine c_or (seq v5_3 a0) (fun q5 => ?_) (fun q5 => ?_)
        · replace h := H.t q5 h
          refine c_seq ?_
          refine r_start ?_
          refine xq rfl (y_load (.agg (ePlace v4_1.1).toArray) 1 g4_5 0) ?_
          refine xx rfl (x_sto 0 g0_0 0 (ePlace v4_1.1) ?_)
          refine p 1 ?_
          refine rend ?_
          replace h := H.inr h
          replace h := H.done h
          subst h
          exact ret func119 rfl (vs := [.agg (ePlace v4_1.1).toArray, .bool true]) (.cell 0 g0_0 rfl (by kernel_rfl) (by kernel_rfl) (.tmp (by kernel_rfl) .nil)) rfl (fun W S => ⟨rfl, S.below⟩)
        replace h := H.f q5 h
        refine c_skip ?_
        refine c_inb ?_
        refine r_start ?_
        refine p 2 ?_
        refine rend ?_
        replace h := H.inl h
        exact h (wr (n1 + 1)) _ _ rfl (by kernel_rfl) (by kernel_rfl)
      replace h := H.f q4 h
      refine o_set 16 (congrArg Value.bool q4) ?_
      refine p 5 ?_
      refine rend ?_
      refine c_f (by kernel_rfl) ?_
      refine c_skip ?_
      refine c_inb ?_
      refine r_start ?_
      refine p 2 ?_
      refine rend ?_
      replace h := H.inl h
      exact h (wr (n1 + 1)) _ _ rfl (by kernel_rfl) (by kernel_rfl)
    replace h := H.f q3 h
    refine cx ?_
    replace h := H.inr h
    exact hj2 () _ _ h (by kernel_rfl) (by kernel_rfl)
  intro x u h
  refine c_seq ?_
  refine r_start ?_
  refine p 1 ?_
  refine xx rfl (x_sto 0 g0_0 0 (ePlace zPlace) ?_)
  refine p 1 ?_
  refine rend ?_
  replace h := H.done h
  subst h
  exact ret func119 rfl (vs := [.agg (ePlace zPlace).toArray, .bool false]) (.cell 0 g0_0 rfl (by kernel_rfl) (by kernel_rfl) (.tmp (by kernel_rfl) .nil)) rfl (fun W S => ⟨rfl, S.below⟩)
theorem C.i_Move_text {a0 : Move} {r : Str} (w : World) (h : X.i_Move_text a0 = some r) : Calls prog 132 #[.agg (eMove a0).toArray] w (Ret w (.string (bs r))) := by
  refine calls (M := no) (args := [.agg (eMove a0).toArray]) func132 rfl ?_
  replace h : H (X.i_Move_text a0) (fun o => o = r) := H.mk h
  unfold X.i_Move_text at h
  refine c_seq ?_
  refine r_start ?_
  refine xx rfl (x_box (eMove a0) fun g0_0 => ?_)
  refine p 1 ?_
  refine rend ?_
  refine c_seq ?_
  refine c_block ?_
  refine c_seq ?_
  refine r_start ?_
  refine p 1 ?_
  refine xq rfl (y_load (.string (bs a0.Steps)) 0 g0_0 0) ?_
  refine p 2 ?_
  refine rend ?_
  refine c_or (seq a0.Steps ([] : Str)) (fun q1 => ?_) (fun q1 => ?_)
  · replace h := H.t q1 h
    refine c_seq ?_
    refine r_start ?_
    refine p 1 ?_
    refine rend ?_
    replace h := H.done h
    subst h
    exact ret func132 rfl (vs := [.string (bs ([45] : Str))]) (.tmp (by kernel_rfl) .nil) rfl (fun W S => ⟨rfl, S.below⟩)
  replace h := H.f q1 h
  refine c_seq ?_
  refine r_start ?_
  refine p 1 ?_
  refine xq rfl (y_load (.int .i64 a0.Repeat) 0 g0_0 1) ?_
  refine p 2 ?_
  refine rend ?_
  refine c_or (a0.Repeat == 1) (fun q2 => ?_) (fun q2 => ?_)
  · replace h := H.t q2 h
    refine c_seq ?_
    refine r_start ?_
    refine p 1 ?_
    refine xq rfl (y_load (.string (bs a0.Steps)) 0 g0_0 0) ?_
    refine p 1 ?_
    refine rend ?_
    replace h := H.done h
    subst h
    exact ret func132 rfl (vs := [.string (bs a0.Steps)]) (.tmp (by kernel_rfl) .nil) rfl (fun W S => ⟨rfl, S.below⟩)
  replace h := H.f q2 h
  refine c_skip ?_
  refine c_inb ?_
  refine c_seq ?_
  refine as_start 8 8 ?_
  refine ap 0 1 ?_
  refine aq 1 rfl (y_load (.string (bs a0.Steps)) 0 g0_0 0) ?_
  obtain ⟨y5_2, hy5_2, h⟩ := H.call h
  refine aq 2 rfl (y_cat hy5_2) ?_
  refine ap 3 1 ?_
  refine aq 4 rfl (y_load (.int .i64 a0.Repeat) 0 g0_0 1) ?_
  obtain ⟨v5_5, hv5_5, h⟩ := H.call h
  refine aq 5 rfl (y_call [.int .i64 a0.Repeat] (.string (bs v5_5)) func188 (fun W S => C.strconv_Itoa W hv5_5)) ?_
  obtain ⟨y5_6, hy5_6, h⟩ := H.call h
  refine aq 6 rfl (y_cat hy5_6) ?_
  refine ap 7 1 ?_
  refine a_done ?_
  replace h := H.done h
  subst h
  exact ret func132 rfl (vs := [.string (bs y5_6)]) (.tmp (by kernel_rfl) .nil) rfl (fun W S => ⟨rfl, S.below⟩)
theorem C.i_hasOnly {a0 : Str} {a1 : Str} {r : Bool} (w : World) (h : X.i_hasOnly a0 a1 = some r) : Calls prog 203 #[.string (bs a0), .string (bs a1)] w (Ret w (.bool r)) := by
  refine calls (M := no) (args := [.string (bs a0), .string (bs a1)]) func203 rfl ?_
  replace h : H (X.i_hasOnly a0 a1) (fun o => o = r) := H.mk h
  unfold X.i_hasOnly at h
  refine c_seq ?_
  refine r_start ?_
  refine p 1 ?_
  refine rend ?_
  refine c_seq ?_
  refine c_seq ?_
  refine r_start ?_
  refine p 3 ?_
  refine rend ?_
  refine c_block ?_
  refine joinE (X := Unit) 0 (H.or h) (fun (x : Unit) => x) (fun _ => []) (fun _ u => (jk u 0 18 [])) (fun h hj1 => ?_) ?_
  · skip
    refine rangeNR (X := Unit) (fun (x : Unit) => x) (fun _ => []) (fun (j2 : Int) _ u => (.string (bs a0) :: .string (bs a1) :: (jk u 2 5 (.int .i64 (List.length a0 : Int) :: .int .i64 j2 :: (jk u 9 9 []))))) () h (by kernel_rfl) (by kernel_rfl) ?_ ?_
    · intro j2 x u q3 hw4 h
      refine c_seq ?_
      refine r_start ?_
      refine p 1 ?_
      refine rend ?_
      refine c_seq ?_
      refine c_yes q3 ?_
      refine c_skip ?_
      refine c_seq ?_
      refine c_block ?_
      refine c_seq ?_
      refine r_start ?_
      refine p 2 ?_
      refine rend ?_
      refine c_seq ?_
      refine r_start ?_
      refine p 3 ?_
      obtain ⟨y4_3, hy4_3, h⟩ := H.call h
      refine xq rfl (y_byte hy4_3) ?_
      obtain ⟨v4_4, hv4_4, h⟩ := H.call h
      refine xq rfl (y_call [.string (bs a1), .int .u8 y4_3] (.int .i64 v4_4) func176 (fun W S => C.strings_IndexByte W hv4_4)) ?_
      refine p 1 ?_
      refine rend ?_
      refine c_or (decide (v4_4 < 0)) (fun q6 => ?_) (fun q6 => ?_)
      · replace h := H.t q6 h
        refine c_seq ?_
        refine r_start ?_
        refine p 1 ?_
        refine rend ?_
        replace h := H.inr h
        replace h := H.done h
        subst h
        exact ret func203 rfl (vs := [.bool false]) (.tmp (by kernel_rfl) .nil) rfl (fun W S => ⟨rfl, S.below⟩)
      replace h := H.f q6 h
      refine c_skip ?_
      refine c_inb ?_
      refine r_start ?_
      refine p 2 ?_
      refine rend ?_
      refine c_set 8 (ci hw4) ?_
      replace h := H.inl h
      exact h () _ _ rfl (by kernel_rfl) (by kernel_rfl)
    · intro j5 x u q3 h
      refine c_seq ?_
      refine r_start ?_
      refine p 1 ?_
      refine rend ?_
      refine c_seq ?_
      refine c_no q3 ?_
      refine cx ?_
      replace h := H.done h
      exact hj1 () _ _ h (by kernel_rfl) (by kernel_rfl)
  intro x u h
  refine c_seq ?_
  refine r_start ?_
  refine p 1 ?_
  refine rend ?_
  replace h := H.done h
  subst h
  exact ret func203 rfl (vs := [.bool true]) (.tmp (by kernel_rfl) .nil) rfl (fun W S => ⟨rfl, S.below⟩)
theorem C.i_IsMove {a0 : Move} {r : Bool} (w : World) (h : X.i_IsMove a0 = some r) : Calls prog 149 #[.agg (eMove a0).toArray] w (Ret w (.bool r)) := by
  refine calls (M := no) (args := [.agg (eMove a0).toArray]) func149 rfl ?_
  replace h : H (X.i_IsMove a0) (fun o => o = r) := H.mk h
  unfold X.i_IsMove at h
  refine c_seq ?_
  refine r_start ?_
  refine xx rfl (x_box (eMove a0) fun g0_0 => ?_)
  refine p 1 ?_
  refine rend ?_
  refine c_seq ?_
  refine r_start ?_
  refine p 1 ?_
  refine xq rfl (y_load (.string (bs a0.Steps)) 0 g0_0 0) ?_
  refine p 3 ?_
  refine br (decide ((List.length a0.Steps : Int) ≤ 6)) (fun q1 => ?_) (fun q1 => ?_)
  · replace h := H.t q1 h
    refine o_set 7 (congrArg Value.bool q1) ?_
    refine p 1 ?_
    refine xq rfl (y_load (.string (bs a0.Steps)) 0 g0_0 0) ?_
    obtain ⟨v1_7, hv1_7, h⟩ := H.call h
    refine xq rfl (y_call [.string (bs a0.Steps), .string (bs ([117, 100, 108, 114, 102, 98] : Str))] (.bool v1_7) func203 (fun W S => C.i_hasOnly W hv1_7)) ?_
    refine p 2 ?_
    refine br v1_7 (fun q2 => ?_) (fun q2 => ?_)
    · replace h := H.t q2 h
      refine o_set 12 (congrArg Value.bool q2) ?_
      refine p 1 ?_
      refine xq rfl (y_load (.int .i64 a0.Repeat) 0 g0_0 1) ?_
      obtain ⟨v1_12, hv1_12, h⟩ := H.call h
      refine xq rfl (y_call [.int .i64 a0.Repeat, .int .i64 1, .int .i64 3] (.bool v1_12) func174 (fun W S => C.i_within W hv1_12)) ?_
      refine p 2 ?_
      refine br v1_12 (fun q3 => ?_) (fun q3 => ?_)
      · replace h := H.t q3 h
        refine o_set 17 (congrArg Value.bool q3) ?_
        refine p 1 ?_
        refine xq rfl (y_load (.string (bs a0.Steps)) 0 g0_0 0) ?_
        refine p 2 ?_
        refine br (!seq a0.Steps ([] : Str)) (fun q4 => ?_) (fun q4 => ?_)
        · replace h := H.t q4 h
          refine o_set 21 (congrArg Value.bool q4) ?_
          refine p 6 ?_
          refine rend ?_
          replace h := H.done h
          subst h
          exact ret func149 rfl (vs := [.bool true]) (.tmp (by kernel_rfl) .nil) rfl (fun W S => ⟨rfl, S.below⟩)
        replace h := H.f q4 h
        refine o_set 21 (congrArg Value.bool q4) ?_
        refine p 1 ?_
        refine xq rfl (y_load (.int .i64 a0.Repeat) 0 g0_0 1) ?_
        refine p 4 ?_
        refine rend ?_
        replace h := H.done h
        subst h
        exact ret func149 rfl (vs := [.bool (a0.Repeat == 1)]) (.tmp (by kernel_rfl) .nil) rfl (fun W S => ⟨rfl, S.below⟩)
      replace h := H.f q3 h
      refine o_set 17 (congrArg Value.bool q3) ?_
      refine p 10 ?_
      refine rend ?_
      replace h := H.done h
      subst h
      exact ret func149 rfl (vs := [.bool false]) (.tmp (by kernel_rfl) .nil) rfl (fun W S => ⟨rfl, S.below⟩)
    replace h := H.f q2 h
    refine o_set 12 (congrArg Value.bool q2) ?_
    refine p 15 ?_
    refine rend ?_
    replace h := H.done h
    subst h
    exact ret func149 rfl (vs := [.bool false]) (.tmp (by kernel_rfl) .nil) rfl (fun W S => ⟨rfl, S.below⟩)
  replace h := H.f q1 h
  refine o_set 7 (congrArg Value.bool q1) ?_
  refine p 20 ?_
  refine rend ?_
  replace h := H.done h
  subst h
  exact ret func149 rfl (vs := [.bool false]) (.tmp (by kernel_rfl) .nil) rfl (fun W S => ⟨rfl, S.below⟩)
theorem C.i_decimal {a0 : Str} {r : (Int × Bool)} (w : World) (h : X.i_decimal a0 = some r) (hE : EV prog w) : Calls prog 178 #[.string (bs a0)] w (Ret w (.tuple #[.int .i64 r.1, .bool r.2])) := by
  unfold X.i_decimal at h
  by_cases hl : List.length a0 ≤ 281474976710656
  case neg => simp [hl] at h
  simp only [hl, decide_true, cond_true] at h
  have hlim : (bs a0).size ≤ 281474976710656 := hl
  refine calls (M := no) (args := [.string (bs a0)]) func178 rfl ?_
  refine c_seq ?_
  refine r_start ?_
  refine p 2 ?_
  refine rend ?_
  refine c_seq ?_
  refine r_start ?_
  refine p 1 ?_
  rcases hv : Lib.atoiAll a0 with v | _ | _
  · rw [hv] at h
    have hb := Lib.atoiAll_bounds hv
    refine xq rfl (y_call [.string (bs a0)] (.tuple #[.int .i64 v, .nilIface]) func216 (fun W S => (Tryz.strconv_Atoi_ok (bs a0) (by omega) v hv W).mono fun e w' hh => ⟨hh.1, by
      rcases hh.2 with rfl | ⟨t, rfl⟩
      · exact Below.refl _ _
      · exact Lib.bytesWorld_below _ _ _⟩)) ?_
    refine p 5 ?_
    refine rend ?_
    refine c_seq ?_
    refine c_seq ?_
    refine r_start ?_
    refine p 1 ?_
    refine xq rfl y_nei0 ?_
    refine p 2 ?_
    refine xq rfl (y_call [.int .i64 v] (.string (bs (Lib.itoa v))) func188 (fun W S => (Tryz.strconv_Itoa v hb.1 hb.2 W (hE.up S).2.2).mono fun e w' hh => ⟨hh.1, by
      obtain ⟨k, os, rfl⟩ := hh.2
      exact ⟨rfl, rfl, rfl, by show W.heap.size ≤ (W.heap ++ os).size; rw [Array.size_append]; omega, fun j hj => Array.getElem?_append_left hj⟩⟩)) ?_
    refine p 3 ?_
    refine rend ?_
    refine c_or (!seq (Lib.itoa v) a0) (fun q => ?_) (fun q => ?_)
    · have hs : seq (Lib.itoa v) a0 = false := by simpa using q
      simp only [hs, cond_false, Option.some.injEq] at h
      subst h
      refine c_seq ?_
      refine r_start ?_
      refine p 2 ?_
      refine rend ?_
      exact ret func178 rfl (vs := [.int .i64 0, .bool false]) (.tmp (by kernel_rfl) (.tmp (by kernel_rfl) .nil)) rfl (fun W S => ⟨rfl, S.below⟩)
    have hs : seq (Lib.itoa v) a0 = true := by simpa using q
    simp only [hs, cond_true, Option.some.injEq] at h
    subst h
    refine c_skip ?_
    refine c_seq ?_
    refine r_start ?_
    refine p 3 ?_
    refine rend ?_
    exact ret func178 rfl (vs := [.int .i64 v, .bool true]) (.tmp (by kernel_rfl) (.tmp (by kernel_rfl) .nil)) rfl (fun W S => ⟨rfl, S.below⟩)
  · rw [hv] at h
    simp only [Option.some.injEq] at h
    subst h
    refine xx rfl (e_callE (fun v => ∃ (n : Int) (t : TypeId) (q : Value), v = .tuple #[.int .i64 n, .iface t q]) [.string (bs a0)] func216 (fun W S => by
      obtain ⟨⟨tp, pp, h1⟩, _, _⟩ := hE.up S
      refine (Any.strconv_Atoi_syntax_var Tryz.laysC172 (bs a0) hlim hv tp pp W h1).mono ?_
      rintro e w' ⟨N, rfl, _, _, hb⟩
      exact ⟨_, ⟨_, _, _, rfl⟩, rfl, hb⟩) fun v hv' => ?_)
    obtain ⟨n, t, q, rfl⟩ := hv'
    refine p 5 ?_
    refine rend ?_
    refine c_seq ?_
    refine c_seq ?_
    refine r_start ?_
    refine p 1 ?_
    refine xq rfl (y_nei1 (ti := t) (v := q)) ?_
    refine p 6 ?_
    refine rend ?_
    refine c_t (by kernel_rfl) ?_
    refine c_seq ?_
    refine r_start ?_
    refine p 2 ?_
    refine rend ?_
    exact ret func178 rfl (vs := [.int .i64 0, .bool false]) (.tmp (by kernel_rfl) (.tmp (by kernel_rfl) .nil)) rfl (fun W S => ⟨rfl, S.below⟩)
  · rw [hv] at h
    simp only [Option.some.injEq] at h
    subst h
    refine xx rfl (e_callE (fun v => ∃ (n : Int) (t : TypeId) (q : Value), v = .tuple #[.int .i64 n, .iface t q]) [.string (bs a0)] func216 (fun W S => by
      obtain ⟨_, ⟨tp, pp, h1⟩, _⟩ := hE.up S
      refine (Tryz.strconv_Atoi_range_var (bs a0) hlim hv tp pp W h1).mono ?_
      rintro e w' ⟨N, rfl, _, _, hb⟩
      exact ⟨_, ⟨_, _, _, rfl⟩, rfl, hb⟩) fun v hv' => ?_)
    obtain ⟨n, t, q, rfl⟩ := hv'
    refine p 5 ?_
    refine rend ?_
    refine c_seq ?_
    refine c_seq ?_
    refine r_start ?_
    refine p 1 ?_
    refine xq rfl (y_nei1 (ti := t) (v := q)) ?_
    refine p 6 ?_
    refine rend ?_
    refine c_t (by kernel_rfl) ?_
    refine c_seq ?_
    refine r_start ?_
    refine p 2 ?_
    refine rend ?_
    exact ret func178 rfl (vs := [.int .i64 0, .bool false]) (.tmp (by kernel_rfl) (.tmp (by kernel_rfl) .nil)) rfl (fun W S => ⟨rfl, S.below⟩)
end Go.Proofs.XC
