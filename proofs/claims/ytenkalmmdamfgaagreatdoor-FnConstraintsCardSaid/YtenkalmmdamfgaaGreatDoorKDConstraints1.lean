/- Contracts: each function, called where its plain function gives an answer, returns just that answer and changes nothing that was there. By AI agents; no person has read it. -/
import Derived.Test.YtenkalmmdamfgaaGreatDoorKDConstraints
set_option linter.unusedVariables false
set_option linter.unusedSimpArgs false
set_option maxRecDepth 100000
set_option maxHeartbeats 40000000
namespace Go.Proofs.XC
open Go Go.RowKit
open Tryz
theorem C.i_IsHand {a0 : Hand} {r : Bool} (w : World) (h : X.i_IsHand a0 = some r) : Calls prog 86 #[.agg (eHand a0).toArray] w (Ret w (.bool r)) := by
  refine calls (M := no) (args := [.agg (eHand a0).toArray]) func86 rfl ?_
  replace h : H (X.i_IsHand a0) (fun o => o = r) := H.mk h
  unfold X.i_IsHand at h
  refine c_seq ?_
  refine r_start ?_
  refine xx rfl (x_box (eHand a0) fun g0_0 => ?_)
  refine p 1 ?_
  refine rend ?_
  refine c_seq ?_
  refine r_start ?_
  refine p 1 ?_
  refine xq rfl (y_load (.agg (eShape a0.Shape).toArray) 0 g0_0 0) ?_
  obtain ⟨v1_2, hv1_2, h⟩ := H.call h
  refine xq rfl (y_call [.agg (eShape a0.Shape).toArray] (.bool v1_2) func153 (fun W S => C.i_IsShape W hv1_2)) ?_
  refine p 1 ?_
  refine br v1_2 (fun q1 => ?_) (fun q1 => ?_)
  · replace h := H.t q1 h
    refine o_set 6 (congrArg Value.bool q1) ?_
    refine p 1 ?_
    refine xq rfl (y_load (.agg (eOrient a0.Orient).toArray) 0 g0_0 6) ?_
    obtain ⟨v1_6, hv1_6, h⟩ := H.call h
    refine xq rfl (y_call [.agg (eOrient a0.Orient).toArray] (.bool v1_6) func154 (fun W S => C.i_IsOrient W hv1_6)) ?_
    refine p 2 ?_
    refine br v1_6 (fun q2 => ?_) (fun q2 => ?_)
    · replace h := H.t q2 h
      refine o_set 11 (congrArg Value.bool q2) ?_
      refine p 1 ?_
      refine xq rfl (y_load (.agg (ePlace a0.Place).toArray) 0 g0_0 8) ?_
      obtain ⟨v1_11, hv1_11, h⟩ := H.call h
      refine xq rfl (y_call [.agg (ePlace a0.Place).toArray] (.bool v1_11) func155 (fun W S => C.i_IsPlace W hv1_11)) ?_
      refine p 2 ?_
      refine br v1_11 (fun q3 => ?_) (fun q3 => ?_)
      · replace h := H.t q3 h
        refine o_set 16 (congrArg Value.bool q3) ?_
        refine p 1 ?_
        refine xq rfl (y_load (.agg (eMove a0.Move).toArray) 0 g0_0 11) ?_
        obtain ⟨v1_16, hv1_16, h⟩ := H.call h
        refine xq rfl (y_call [.agg (eMove a0.Move).toArray] (.bool v1_16) func156 (fun W S => C.i_IsMove W hv1_16)) ?_
        refine p 2 ?_
        refine rend ?_
        replace h := H.done h
        subst h
        exact ret func86 rfl (vs := [.bool v1_16]) (.tmp (by kernel_rfl) .nil) rfl (fun W S => ⟨rfl, S.below⟩)
      replace h := H.f q3 h
      refine o_set 16 (congrArg Value.bool q3) ?_
      refine p 5 ?_
      refine rend ?_
      replace h := H.done h
      subst h
      exact ret func86 rfl (vs := [.bool false]) (.tmp (by kernel_rfl) .nil) rfl (fun W S => ⟨rfl, S.below⟩)
    replace h := H.f q2 h
    refine o_set 11 (congrArg Value.bool q2) ?_
    refine p 10 ?_
    refine rend ?_
    replace h := H.done h
    subst h
    exact ret func86 rfl (vs := [.bool false]) (.tmp (by kernel_rfl) .nil) rfl (fun W S => ⟨rfl, S.below⟩)
  replace h := H.f q1 h
  refine o_set 6 (congrArg Value.bool q1) ?_
  refine p 15 ?_
  refine rend ?_
  replace h := H.done h
  subst h
  exact ret func86 rfl (vs := [.bool false]) (.tmp (by kernel_rfl) .nil) rfl (fun W S => ⟨rfl, S.below⟩)
theorem C.i_Hand_moves {a0 : Hand} {r : Bool} (w : World) (h : X.i_Hand_moves a0 = some r) : Calls prog 157 #[.agg (eHand a0).toArray] w (Ret w (.bool r)) := by
  refine calls (M := no) (args := [.agg (eHand a0).toArray]) func157 rfl ?_
  replace h : H (X.i_Hand_moves a0) (fun o => o = r) := H.mk h
  unfold X.i_Hand_moves at h
  refine c_seq ?_
  refine r_start ?_
  refine xx rfl (x_box (eHand a0) fun g0_0 => ?_)
  refine p 1 ?_
  refine rend ?_
  refine c_seq ?_
  refine r_start ?_
  refine p 2 ?_
  refine xq rfl (y_load (.string (bs a0.Move.Steps)) 0 g0_0 11) ?_
  refine p 2 ?_
  refine rend ?_
  replace h := H.done h
  subst h
  exact ret func157 rfl (vs := [.bool (!seq a0.Move.Steps ([] : Str))]) (.tmp (by kernel_rfl) .nil) rfl (fun W S => ⟨rfl, S.below⟩)
theorem C.slices_Index_i_Shape_i_Shape {a0 : (List Shape)} {A0 : Option Addr} {k0 : Nat} {a1 : Shape} {r : Int} (w : World) (h : X.slices_Index_i_Shape_i_Shape a0 a1 = some r) (h0 : RdT nShape w (.slice A0 (List.length a0) k0) a0) : Calls prog 209 #[.slice A0 (List.length a0) k0, .agg (eShape a1).toArray] w (Ret w (.int .i64 r)) := by
  refine calls (M := no) (args := [.slice A0 (List.length a0) k0, .agg (eShape a1).toArray]) func209 rfl ?_
  replace h : H (X.slices_Index_i_Shape_i_Shape a0 a1) (fun o => o = r) := H.mk h
  unfold X.slices_Index_i_Shape_i_Shape at h
  refine c_seq ?_
  refine r_start ?_
  refine xx rfl (x_box (eShape a1) fun g0_0 => ?_)
  refine p 1 ?_
  refine rend ?_
  refine c_seq ?_
  refine c_seq ?_
  refine r_start ?_
  refine p 3 ?_
  refine rend ?_
  refine c_block ?_
  refine joinE (X := Unit) 0 (H.or h) (fun (x : Unit) => x) (fun _ => [box g0_0 28 (eShape a1)]) (fun _ u => (jk u 0 19 [])) (fun h hj1 => ?_) ?_
  · skip
    refine rangeR (X := Unit) (s_arg h0) (fun (x : Unit) => x) (fun _ => [box g0_0 28 (eShape a1)]) (fun (j2 : Nat) _ u => (.slice A0 (List.length a0) k0 :: (jk u 1 2 (.pointer (some ⟨g0_0, 0, none⟩) :: (jk u 4 3 (.int .i64 (List.length a0 : Int) :: .int .i64 (j2 : Int) :: (jk u 9 10 []))))))) () h (by kernel_rfl) (by kernel_rfl) ?_ ?_
    · intro j2 x u x3 q4 hg5 hw6 h
      refine c_seq ?_
      refine r_start ?_
      refine p 1 ?_
      refine rend ?_
      refine c_seq ?_
      refine c_yes q4 ?_
      refine c_skip ?_
      refine c_seq ?_
      refine c_block ?_
      refine c_seq ?_
      refine r_start ?_
      refine p 2 ?_
      refine rend ?_
      refine c_seq ?_
      refine as_start 6 6 ?_
      refine aq 0 rfl (y_load (.agg (eShape a1).toArray) 0 g0_0 0) ?_
      refine ap 1 2 ?_
      refine aq 3 rfl (y_idx (e := nShape) (el := 28) hg5 (s_arg h0)) ?_
      refine aq 4 rfl (y_el (e := nShape) 0 (.agg (eShape x3).toArray) hg5 (s_arg h0)) ?_
      refine ap 5 1 ?_
      refine a_done ?_
      refine c_or (qShape a1 x3) (fun q7 => ?_) (fun q7 => ?_)
      · replace h := H.t q7 h
        refine c_seq ?_
        refine r_start ?_
        refine p 2 ?_
        refine rend ?_
        replace h := H.inr h
        replace h := H.done h
        subst h
        exact ret func209 rfl (vs := [.int .i64 (j2 : Int)]) (.tmp (by kernel_rfl) .nil) rfl (fun W S => ⟨rfl, S.below⟩)
      replace h := H.f q7 h
      refine c_skip ?_
      refine c_inb ?_
      refine r_start ?_
      refine p 2 ?_
      refine rend ?_
      refine c_set 8 (ci hw6) ?_
      replace h := H.inl h
      exact h () _ _ rfl (by kernel_rfl) (by kernel_rfl)
    · intro x u q4 h
      refine c_seq ?_
      refine r_start ?_
      refine p 1 ?_
      refine rend ?_
      refine c_seq ?_
      refine c_no q4 ?_
      refine cx ?_
      replace h := H.done h
      exact hj1 () _ _ h (by kernel_rfl) (by kernel_rfl)
  intro x u h
  refine c_seq ?_
  refine r_start ?_
  refine p 1 ?_
  refine rend ?_
  replace h := H.done h
  subst h
  exact ret func209 rfl (vs := [.int .i64 (-1)]) (.tmp (by kernel_rfl) .nil) rfl (fun W S => ⟨rfl, S.below⟩)
theorem C.slices_Contains_i_Shape_i_Shape {a0 : (List Shape)} {A0 : Option Addr} {k0 : Nat} {a1 : Shape} {r : Bool} (w : World) (h : X.slices_Contains_i_Shape_i_Shape a0 a1 = some r) (h0 : RdT nShape w (.slice A0 (List.length a0) k0) a0) : Calls prog 158 #[.slice A0 (List.length a0) k0, .agg (eShape a1).toArray] w (Ret w (.bool r)) := by
  refine calls (M := no) (args := [.slice A0 (List.length a0) k0, .agg (eShape a1).toArray]) func158 rfl ?_
  replace h : H (X.slices_Contains_i_Shape_i_Shape a0 a1) (fun o => o = r) := H.mk h
  unfold X.slices_Contains_i_Shape_i_Shape at h
  refine c_seq ?_
  refine r_start ?_
  refine xx rfl (x_box (eShape a1) fun g0_0 => ?_)
  refine p 1 ?_
  refine rend ?_
  refine c_seq ?_
  refine r_start ?_
  refine p 1 ?_
  refine xq rfl (y_load (.agg (eShape a1).toArray) 0 g0_0 0) ?_
  obtain ⟨v1_2, hv1_2, h⟩ := H.call h
  refine xq rfl (y_call [.slice A0 (List.length a0) k0, .agg (eShape a1).toArray] (.int .i64 v1_2) func209 (fun W S => C.slices_Index_i_Shape_i_Shape W hv1_2 ((s_arg h0).out W S))) ?_
  refine p 2 ?_
  refine rend ?_
  replace h := H.done h
  subst h
  exact ret func158 rfl (vs := [.bool (decide (v1_2 ≥ 0))]) (.tmp (by kernel_rfl) .nil) rfl (fun W S => ⟨rfl, S.below⟩)
theorem C.strconv_Itoa {a0 : Int} {r : Str} (w : World) (h : X.strconv_Itoa a0 = some r) : Calls prog 173 #[.int .i64 a0] w (Ret w (.string (bs r))) := by
  unfold X.strconv_Itoa at h
  split at h
  · rename_i hc
    obtain rfl := Option.some.inj h
    have := Tryz.strconv_Itoa_small a0.toNat (by omega) w
    have e : ((a0.toNat : Nat) : Int) = a0 := by omega
    rw [e] at this
    refine this.mono ?_
    rintro e w' ⟨rfl, rfl⟩
    exact ⟨rfl, Below.refl _ _⟩
  · cases h
theorem C.i_Shape_text {a0 : Shape} {r : Str} (w : World) (h : X.i_Shape_text a0 = some r) : Calls prog 181 #[.agg (eShape a0).toArray] w (Ret w (.string (bs r))) := by
  refine calls (M := no) (args := [.agg (eShape a0).toArray]) func181 rfl ?_
  replace h : H (X.i_Shape_text a0) (fun o => o = r) := H.mk h
  unfold X.i_Shape_text at h
  refine c_seq ?_
  refine r_start ?_
  refine xx rfl (x_box (eShape a0) fun g0_0 => ?_)
  refine p 1 ?_
  refine rend ?_
  refine c_seq ?_
  refine r_start ?_
  refine p 1 ?_
  refine xq rfl (y_load (.int .i64 a0.Thumb) 0 g0_0 0) ?_
  obtain ⟨v1_2, hv1_2, h⟩ := H.call h
  refine xq rfl (y_call [.int .i64 a0.Thumb] (.string (bs v1_2)) func173 (fun W S => C.strconv_Itoa W hv1_2)) ?_
  refine p 1 ?_
  refine rend ?_
  refine c_seq ?_
  refine c_seq ?_
  refine r_start ?_
  refine xq rfl (y_load (.agg (eShape a0).toArray) 0 g0_0 0) ?_
  obtain ⟨v2_1, hv2_1, h⟩ := H.call h
  refine xx rfl (e_cr [.agg (eShape a0).toArray] (fun v => v) func164 (fun W S => C.i_Shape_bends W hv2_1) fun A2_1 k2_1 => ?_)
  refine p 2 ?_
  refine rend ?_
  refine c_block ?_
  refine joinH (X := Str) 0 (H.bnd h) (fun (x : Str) => x) (fun t2 => [box g0_0 28 (eShape a0), rowT (eI .i64) w.heap.size 3 (.slice A2_1 (List.length v2_1) k2_1) v2_1]) (fun t2 u => (jk u 0 1 (.pointer (some ⟨g0_0, 0, none⟩) :: (jk u 2 1 (.string (bs t2) :: (jk u 4 22 [])))))) (fun h hj3 => ?_) ?_
  · skip
    refine rangeR (X := Str) (s_own 1) (fun (x : Str) => x) (fun t1 => [box g0_0 28 (eShape a0), rowT (eI .i64) w.heap.size 3 (.slice A2_1 (List.length v2_1) k2_1) v2_1]) (fun (j4 : Nat) t1 u => (jk u 0 1 (.pointer (some ⟨g0_0, 0, none⟩) :: (jk u 2 1 (.string (bs t1) :: (jk u 4 6 (.slice A2_1 (List.length v2_1) k2_1 :: .int .i64 (List.length v2_1 : Int) :: .int .i64 (j4 : Int) :: (jk u 13 13 [])))))))) v1_2 h (by kernel_rfl) (by kernel_rfl) ?_ ?_
    · intro j4 t1 u x5 q6 hg7 hw8 h
      refine c_seq ?_
      refine r_start ?_
      refine p 1 ?_
      refine rend ?_
      refine c_seq ?_
      refine c_yes q6 ?_
      refine c_skip ?_
      refine c_seq ?_
      refine c_block ?_
      refine c_seq ?_
      refine r_start ?_
      refine xq rfl (y_idx (e := (eI .i64)) (el := 3) hg7 (s_own 1)) ?_
      refine xq rfl (y_el (e := (eI .i64)) 0 (.int .i64 x5) hg7 (s_own 1)) ?_
      refine p 1 ?_
      refine rend ?_
      refine r_start ?_
      refine p 2 ?_
      obtain ⟨v5_2, hv5_2, h⟩ := H.call h
      refine xq rfl (y_call [.int .i64 x5] (.string (bs v5_2)) func173 (fun W S => C.strconv_Itoa W hv5_2)) ?_
      obtain ⟨y5_3, hy5_3, h⟩ := H.call h
      refine xq rfl (y_cat hy5_3) ?_
      refine p 1 ?_
      refine rend ?_
      refine c_inb ?_
      refine r_start ?_
      refine p 2 ?_
      refine rend ?_
      refine c_set 12 (ci hw8) ?_
      replace h := H.inl h
      exact h y5_3 _ _ rfl (by kernel_rfl) (by kernel_rfl)
    · intro t1 u q6 h
      refine c_seq ?_
      refine r_start ?_
      refine p 1 ?_
      refine rend ?_
      refine c_seq ?_
      refine c_no q6 ?_
      refine cx ?_
      replace h := H.done h
      exact hj3 t1 _ _ h (by kernel_rfl) (by kernel_rfl)
  intro t2 u h
  refine c_seq ?_
  refine c_seq ?_
  refine r_start ?_
  refine p 1 ?_
  refine xq rfl (y_load (.bool a0.Spread) 0 g0_0 5) ?_
  refine rend ?_
  refine c_or a0.Spread (fun q9 => ?_) (fun q9 => ?_)
  · replace h := H.t q9 h
    refine r_start ?_
    refine p 1 ?_
    obtain ⟨y8_1, hy8_1, h⟩ := H.call h
    refine xq rfl (y_cat hy8_1) ?_
    refine p 1 ?_
    refine rend ?_
    refine c_seq ?_
    refine r_start ?_
    refine p 2 ?_
    refine rend ?_
    replace h := H.done h
    subst h
    exact ret func181 rfl (vs := [.string (bs y8_1)]) (.tmp (by kernel_rfl) .nil) rfl (fun W S => ⟨rfl, S.below⟩)
  replace h := H.f q9 h
  refine c_skip ?_
  refine c_seq ?_
  refine r_start ?_
  refine p 2 ?_
  refine rend ?_
  replace h := H.done h
  subst h
  exact ret func181 rfl (vs := [.string (bs t2)]) (.tmp (by kernel_rfl) .nil) rfl (fun W S => ⟨rfl, S.below⟩)
theorem C.i_Shape_with {a0 : Shape} {a1 : Int} {a2 : Int} {r : Shape} (w : World) (h : X.i_Shape_with a0 a1 a2 = some r) : Calls prog 241 #[.agg (eShape a0).toArray, .int .i64 a1, .int .i64 a2] w (Ret w (.agg (eShape r).toArray)) := by
  refine calls (M := no) (args := [.agg (eShape a0).toArray, .int .i64 a1, .int .i64 a2]) func241 rfl ?_
  replace h : H (X.i_Shape_with a0 a1 a2) (fun o => o = r) := H.mk h
  unfold X.i_Shape_with at h
  refine c_seq ?_
  refine r_start ?_
  refine xx rfl (x_box (eShape a0) fun g0_0 => ?_)
  refine xx rfl (x_new (eShape zShape) fun g0_1 => ?_)
  refine rend ?_
  refine c_seq ?_
  refine c_seq ?_
  refine r_start ?_
  refine p 1 ?_
  refine rend ?_
  refine c_block ?_
  refine c_seq ?_
  refine r_start ?_
  refine p 2 ?_
  refine rend ?_
  refine c_or (a1 == 0) (fun q1 => ?_) (fun q1 => ?_)
  · replace h := H.t q1 h
    refine r_start ?_
    refine p 2 ?_
    refine xx rfl (x_sto 0 g0_0 0 (eShape ({ a0 with Thumb := a2 })) ?_)
    refine rend ?_
    refine c_inb ?_
    refine c_seq ?_
    refine r_start ?_
    refine p 1 ?_
    refine xq rfl (y_load (.bool a0.Spread) 0 g0_0 5) ?_
    refine p 1 ?_
    refine br a0.Spread (fun q2 => ?_) (fun q2 => ?_)
    · replace h := H.t q2 h
      refine o_set 28 (congrArg Value.bool q2) ?_
      refine xq rfl (y_load (.agg (eShape ({ a0 with Thumb := a2 })).toArray) 0 g0_0 0) ?_
      obtain ⟨v11_4, hv11_4, h⟩ := H.call h
      refine xq rfl (y_call [.agg (eShape ({ a0 with Thumb := a2 })).toArray] (.bool v11_4) func208 (fun W S => C.i_Shape_maySpread W hv11_4)) ?_
      refine p 2 ?_
      refine xx rfl (x_sto 0 g0_0 5 (eShape ({ a0 with Thumb := a2, Spread := v11_4 })) ?_)
      refine rend ?_
      refine c_seq ?_
      refine r_start ?_
      refine xq rfl (y_load (.agg (eShape ({ a0 with Thumb := a2, Spread := v11_4 })).toArray) 0 g0_0 0) ?_
      refine xx rfl (x_sto 1 g0_1 0 (eShape ({ a0 with Thumb := a2, Spread := v11_4 })) ?_)
      refine rend ?_
      replace h := H.done h
      subst h
      exact ret func241 rfl (vs := [.agg (eShape ({ a0 with Thumb := a2, Spread := v11_4 })).toArray]) (.cell 1 g0_1 rfl (by kernel_rfl) (by kernel_rfl) .nil) rfl (fun W S => ⟨rfl, S.below⟩)
    replace h := H.f q2 h
    refine o_set 28 (congrArg Value.bool q2) ?_
    refine p 4 ?_
    refine xx rfl (x_sto 0 g0_0 5 (eShape ({ a0 with Thumb := a2, Spread := false })) ?_)
    refine rend ?_
    refine c_seq ?_
    refine r_start ?_
    refine xq rfl (y_load (.agg (eShape ({ a0 with Thumb := a2, Spread := false })).toArray) 0 g0_0 0) ?_
    refine xx rfl (x_sto 1 g0_1 0 (eShape ({ a0 with Thumb := a2, Spread := false })) ?_)
    refine rend ?_
    replace h := H.done h
    subst h
    exact ret func241 rfl (vs := [.agg (eShape ({ a0 with Thumb := a2, Spread := false })).toArray]) (.cell 1 g0_1 rfl (by kernel_rfl) (by kernel_rfl) .nil) rfl (fun W S => ⟨rfl, S.below⟩)
  replace h := H.f q1 h
  refine c_seq ?_
  refine r_start ?_
  refine p 2 ?_
  refine rend ?_
  refine c_or (a1 == 1) (fun q3 => ?_) (fun q3 => ?_)
  · replace h := H.t q3 h
    refine r_start ?_
    refine p 2 ?_
    refine xx rfl (x_sto 0 g0_0 1 (eShape ({ a0 with Index := a2 })) ?_)
    refine rend ?_
    refine c_inb ?_
    refine c_seq ?_
    refine r_start ?_
    refine p 1 ?_
    refine xq rfl (y_load (.bool a0.Spread) 0 g0_0 5) ?_
    refine p 1 ?_
    refine br a0.Spread (fun q4 => ?_) (fun q4 => ?_)
    · replace h := H.t q4 h
      refine o_set 28 (congrArg Value.bool q4) ?_
      refine xq rfl (y_load (.agg (eShape ({ a0 with Index := a2 })).toArray) 0 g0_0 0) ?_
      obtain ⟨v11_4, hv11_4, h⟩ := H.call h
      refine xq rfl (y_call [.agg (eShape ({ a0 with Index := a2 })).toArray] (.bool v11_4) func208 (fun W S => C.i_Shape_maySpread W hv11_4)) ?_
      refine p 2 ?_
      refine xx rfl (x_sto 0 g0_0 5 (eShape ({ a0 with Index := a2, Spread := v11_4 })) ?_)
      refine rend ?_
      refine c_seq ?_
      refine r_start ?_
      refine xq rfl (y_load (.agg (eShape ({ a0 with Index := a2, Spread := v11_4 })).toArray) 0 g0_0 0) ?_
      refine xx rfl (x_sto 1 g0_1 0 (eShape ({ a0 with Index := a2, Spread := v11_4 })) ?_)
      refine rend ?_
      replace h := H.done h
      subst h
      exact ret func241 rfl (vs := [.agg (eShape ({ a0 with Index := a2, Spread := v11_4 })).toArray]) (.cell 1 g0_1 rfl (by kernel_rfl) (by kernel_rfl) .nil) rfl (fun W S => ⟨rfl, S.below⟩)
    replace h := H.f q4 h
    refine o_set 28 (congrArg Value.bool q4) ?_
    refine p 4 ?_
    refine xx rfl (x_sto 0 g0_0 5 (eShape ({ a0 with Index := a2, Spread := false })) ?_)
    refine rend ?_
    refine c_seq ?_
    refine r_start ?_
    refine xq rfl (y_load (.agg (eShape ({ a0 with Index := a2, Spread := false })).toArray) 0 g0_0 0) ?_
    refine xx rfl (x_sto 1 g0_1 0 (eShape ({ a0 with Index := a2, Spread := false })) ?_)
    refine rend ?_
    replace h := H.done h
    subst h
    exact ret func241 rfl (vs := [.agg (eShape ({ a0 with Index := a2, Spread := false })).toArray]) (.cell 1 g0_1 rfl (by kernel_rfl) (by kernel_rfl) .nil) rfl (fun W S => ⟨rfl, S.below⟩)
  replace h := H.f q3 h
  refine c_seq ?_
  refine r_start ?_
  refine p 2 ?_
  refine rend ?_
  refine c_or (a1 == 2) (fun q5 => ?_) (fun q5 => ?_)
  · replace h := H.t q5 h
    refine r_start ?_
    refine p 2 ?_
    refine xx rfl (x_sto 0 g0_0 2 (eShape ({ a0 with Middle := a2 })) ?_)
    refine rend ?_
    refine c_inb ?_
    refine c_seq ?_
    refine r_start ?_
    refine p 1 ?_
    refine xq rfl (y_load (.bool a0.Spread) 0 g0_0 5) ?_
    refine p 1 ?_
    refine br a0.Spread (fun q6 => ?_) (fun q6 => ?_)
    · replace h := H.t q6 h
      refine o_set 28 (congrArg Value.bool q6) ?_
      refine xq rfl (y_load (.agg (eShape ({ a0 with Middle := a2 })).toArray) 0 g0_0 0) ?_
      obtain ⟨v11_4, hv11_4, h⟩ := H.call h
      refine xq rfl (y_call [.agg (eShape ({ a0 with Middle := a2 })).toArray] (.bool v11_4) func208 (fun W S => C.i_Shape_maySpread W hv11_4)) ?_
      refine p 2 ?_
      refine xx rfl (x_sto 0 g0_0 5 (eShape ({ a0 with Middle := a2, Spread := v11_4 })) ?_)
      refine rend ?_
      refine c_seq ?_
      refine r_start ?_
      refine xq rfl (y_load (.agg (eShape ({ a0 with Middle := a2, Spread := v11_4 })).toArray) 0 g0_0 0) ?_
      refine xx rfl (x_sto 1 g0_1 0 (eShape ({ a0 with Middle := a2, Spread := v11_4 })) ?_)
      refine rend ?_
      replace h := H.done h
      subst h
      exact ret func241 rfl (vs := [.agg (eShape ({ a0 with Middle := a2, Spread := v11_4 })).toArray]) (.cell 1 g0_1 rfl (by kernel_rfl) (by kernel_rfl) .nil) rfl (fun W S => ⟨rfl, S.below⟩)
    replace h := H.f q6 h
    refine o_set 28 (congrArg Value.bool q6) ?_
    refine p 4 ?_
    refine xx rfl (x_sto 0 g0_0 5 (eShape ({ a0 with Middle := a2, Spread := false })) ?_)
    refine rend ?_
    refine c_seq ?_
    refine r_start ?_
    refine xq rfl (y_load (.agg (eShape ({ a0 with Middle := a2, Spread := false })).toArray) 0 g0_0 0) ?_
    refine xx rfl (x_sto 1 g0_1 0 (eShape ({ a0 with Middle := a2, Spread := false })) ?_)
    refine rend ?_
    replace h := H.done h
    subst h
    exact ret func241 rfl (vs := [.agg (eShape ({ a0 with Middle := a2, Spread := false })).toArray]) (.cell 1 g0_1 rfl (by kernel_rfl) (by kernel_rfl) .nil) rfl (fun W S => ⟨rfl, S.below⟩)
  replace h := H.f q5 h
  refine c_seq ?_
  refine r_start ?_
  refine p 2 ?_
  refine rend ?_
  refine c_or (a1 == 3) (fun q7 => ?_) (fun q7 => ?_)
  · replace h := H.t q7 h
    refine r_start ?_
    refine p 2 ?_
    refine xx rfl (x_sto 0 g0_0 3 (eShape ({ a0 with Ring := a2 })) ?_)
    refine rend ?_
    refine c_inb ?_
    refine c_seq ?_
    refine r_start ?_
    refine p 1 ?_
    refine xq rfl (y_load (.bool a0.Spread) 0 g0_0 5) ?_
    refine p 1 ?_
    refine br a0.Spread (fun q8 => ?_) (fun q8 => ?_)
    · replace h := H.t q8 h
      refine o_set 28 (congrArg Value.bool q8) ?_
      refine xq rfl (y_load (.agg (eShape ({ a0 with Ring := a2 })).toArray) 0 g0_0 0) ?_
      obtain ⟨v11_4, hv11_4, h⟩ := H.call h
      refine xq rfl (y_call [.agg (eShape ({ a0 with Ring := a2 })).toArray] (.bool v11_4) func208 (fun W S => C.i_Shape_maySpread W hv11_4)) ?_
      refine p 2 ?_
      refine xx rfl (x_sto 0 g0_0 5 (eShape ({ a0 with Ring := a2, Spread := v11_4 })) ?_)
      refine rend ?_
      refine c_seq ?_
      refine r_start ?_
      refine xq rfl (y_load (.agg (eShape ({ a0 with Ring := a2, Spread := v11_4 })).toArray) 0 g0_0 0) ?_
      refine xx rfl (x_sto 1 g0_1 0 (eShape ({ a0 with Ring := a2, Spread := v11_4 })) ?_)
      refine rend ?_
      replace h := H.done h
      subst h
      exact ret func241 rfl (vs := [.agg (eShape ({ a0 with Ring := a2, Spread := v11_4 })).toArray]) (.cell 1 g0_1 rfl (by kernel_rfl) (by kernel_rfl) .nil) rfl (fun W S => ⟨rfl, S.below⟩)
    replace h := H.f q8 h
    refine o_set 28 (congrArg Value.bool q8) ?_
    refine p 4 ?_
    refine xx rfl (x_sto 0 g0_0 5 (eShape ({ a0 with Ring := a2, Spread := false })) ?_)
    refine rend ?_
    refine c_seq ?_
    refine r_start ?_
    refine xq rfl (y_load (.agg (eShape ({ a0 with Ring := a2, Spread := false })).toArray) 0 g0_0 0) ?_
    refine xx rfl (x_sto 1 g0_1 0 (eShape ({ a0 with Ring := a2, Spread := false })) ?_)
    refine rend ?_
    replace h := H.done h
    subst h
    exact ret func241 rfl (vs := [.agg (eShape ({ a0 with Ring := a2, Spread := false })).toArray]) (.cell 1 g0_1 rfl (by kernel_rfl) (by kernel_rfl) .nil) rfl (fun W S => ⟨rfl, S.below⟩)
  replace h := H.f q7 h
  refine r_start ?_
  refine p 2 ?_
  refine xx rfl (x_sto 0 g0_0 4 (eShape ({ a0 with Little := a2 })) ?_)
  refine rend ?_
  refine c_inb ?_
  refine c_seq ?_
  refine r_start ?_
  refine p 1 ?_
  refine xq rfl (y_load (.bool a0.Spread) 0 g0_0 5) ?_
  refine p 1 ?_
  refine br a0.Spread (fun q9 => ?_) (fun q9 => ?_)
  · replace h := H.t q9 h
    refine o_set 28 (congrArg Value.bool q9) ?_
    refine xq rfl (y_load (.agg (eShape ({ a0 with Little := a2 })).toArray) 0 g0_0 0) ?_
    obtain ⟨v11_4, hv11_4, h⟩ := H.call h
    refine xq rfl (y_call [.agg (eShape ({ a0 with Little := a2 })).toArray] (.bool v11_4) func208 (fun W S => C.i_Shape_maySpread W hv11_4)) ?_
    refine p 2 ?_
    refine xx rfl (x_sto 0 g0_0 5 (eShape ({ a0 with Little := a2, Spread := v11_4 })) ?_)
    refine rend ?_
    refine c_seq ?_
    refine r_start ?_
    refine xq rfl (y_load (.agg (eShape ({ a0 with Little := a2, Spread := v11_4 })).toArray) 0 g0_0 0) ?_
    refine xx rfl (x_sto 1 g0_1 0 (eShape ({ a0 with Little := a2, Spread := v11_4 })) ?_)
    refine rend ?_
    replace h := H.done h
    subst h
    exact ret func241 rfl (vs := [.agg (eShape ({ a0 with Little := a2, Spread := v11_4 })).toArray]) (.cell 1 g0_1 rfl (by kernel_rfl) (by kernel_rfl) .nil) rfl (fun W S => ⟨rfl, S.below⟩)
  replace h := H.f q9 h
  refine o_set 28 (congrArg Value.bool q9) ?_
  refine p 4 ?_
  refine xx rfl (x_sto 0 g0_0 5 (eShape ({ a0 with Little := a2, Spread := false })) ?_)
  refine rend ?_
  refine c_seq ?_
  refine r_start ?_
  refine xq rfl (y_load (.agg (eShape ({ a0 with Little := a2, Spread := false })).toArray) 0 g0_0 0) ?_
  refine xx rfl (x_sto 1 g0_1 0 (eShape ({ a0 with Little := a2, Spread := false })) ?_)
  refine rend ?_
  replace h := H.done h
  subst h
  exact ret func241 rfl (vs := [.agg (eShape ({ a0 with Little := a2, Spread := false })).toArray]) (.cell 1 g0_1 rfl (by kernel_rfl) (by kernel_rfl) .nil) rfl (fun W S => ⟨rfl, S.below⟩)
theorem C.i_ParseShape {fu : Nat} {a0 : Str} {r : (Shape × Bool)} (w : World) (h : X.i_ParseShape fu a0 = some r) : Calls prog 210 #[.string (bs a0)] w (Ret w (.tuple #[.agg (eShape r.1).toArray, .bool r.2])) := by
  refine calls (M := no) (args := [.string (bs a0)]) func210 rfl ?_
  replace h : H (X.i_ParseShape fu a0) (fun o => o = r) := H.mk h
  unfold X.i_ParseShape at h
  refine c_seq ?_
  refine r_start ?_
  refine xx rfl (x_new (eShape zShape) fun g0_0 => ?_)
  refine p 1 ?_
  refine rend ?_
  refine c_seq ?_
  refine c_seq ?_
  refine r_start ?_
  refine p 2 ?_
  obtain ⟨v1_2, hv1_2, h⟩ := H.call h
  refine xq rfl (y_call [.int .i64 (List.length a0 : Int), .int .i64 5, .int .i64 6] (.bool v1_2) func120 (fun W S => C.i_within W hv1_2)) ?_
  refine p 1 ?_
  refine rend ?_
  refine c_or (!v1_2) (fun q1 => ?_) (fun q1 => ?_)
  · replace h := H.t q1 h
    refine c_seq ?_
    refine r_start ?_
    refine p 1 ?_
    refine xx rfl (x_sto 0 g0_0 0 (eShape zShape) ?_)
    refine p 1 ?_
    refine rend ?_
    replace h := H.done h
    subst h
    exact ret func210 rfl (vs := [.agg (eShape zShape).toArray, .bool false]) (.cell 0 g0_0 rfl (by kernel_rfl) (by kernel_rfl) (.tmp (by kernel_rfl) .nil)) rfl (fun W S => ⟨rfl, S.below⟩)
  replace h := H.f q1 h
  refine c_skip ?_
  refine c_seq ?_
  refine r_start ?_
  refine xx rfl (x_new (eShape zShape) fun g3_0 => ?_)
  refine rend ?_
  refine c_seq ?_
  refine c_seq ?_
  refine r_start ?_
  refine p 1 ?_
  refine rend ?_
  refine c_block ?_
  refine joinH (X := Shape) 0 (H.bnd h) (fun (x : Shape) => x) (fun s4 => [box g0_0 28 (eShape zShape), box g3_0 28 (eShape s4)]) (fun s4 u => (.string (bs a0) :: (jk u 1 1 (.pointer (some ⟨g0_0, 0, none⟩) :: (jk u 3 1 (.pointer (some ⟨g3_0, 0, none⟩) :: (jk u 5 33 []))))))) (fun h hj5 => ?_) ?_
  · skip
    refine loopR (X := (Int × Shape)) (fun (x : (Int × Shape)) => x) (fun ⟨n2, s3⟩ => [box g0_0 28 (eShape zShape), box g3_0 28 (eShape s3)]) (fun ⟨n2, s3⟩ u => (.string (bs a0) :: (jk u 1 1 (.pointer (some ⟨g0_0, 0, none⟩) :: (jk u 3 1 (.pointer (some ⟨g3_0, 0, none⟩) :: (jk u 5 6 (.int .i64 n2 :: (jk u 12 26 []))))))))) (0, zShape) h (by kernel_rfl) (by kernel_rfl) ?_
    intro x u h
    obtain ⟨n2, s3⟩ := x
    refine c_seq ?_
    refine r_start ?_
    refine p 1 ?_
    refine rend ?_
    refine c_seq ?_
    refine c_or (decide (n2 < 5)) (fun q6 => ?_) (fun q6 => ?_)
    · replace h := H.t q6 h
      refine c_skip ?_
      refine c_seq ?_
      refine c_block ?_
      refine c_seq ?_
      refine r_start ?_
      refine p 2 ?_
      refine rend ?_
      refine as_start 8 9 ?_
      refine aq 0 rfl (y_load (.agg (eShape s3).toArray) 1 g3_0 0) ?_
      refine ap 1 3 ?_
      obtain ⟨y7_4, hy7_4, h⟩ := H.call h
      refine aq 4 rfl (y_byte hy7_4) ?_
      refine ap 5 2 ?_
      obtain ⟨v7_7, hv7_7, h⟩ := H.call h
      refine aq 7 rfl (y_call [.agg (eShape s3).toArray, .int .i64 n2, .int .i64 (wr ((wr y7_4) - 48))] (.agg (eShape v7_7).toArray) func241 (fun W S => C.i_Shape_with W hv7_7)) ?_
      refine ax 8 rfl (x_sto 1 g3_0 0 (eShape v7_7) ⟨.inl (by kernel_rfl), ?_⟩)
      refine a_done ?_
      refine c_inb ?_
      refine r_start ?_
      refine p 2 ?_
      refine rend ?_
      replace h := H.inl h
      exact h ((wr (n2 + 1)), v7_7) _ _ rfl (by kernel_rfl) (by kernel_rfl)
    replace h := H.f q6 h
    refine cx ?_
    replace h := H.inr h
    exact hj5 s3 _ _ h (by kernel_rfl) (by kernel_rfl)
  intro s4 u h
  refine c_seq ?_
  refine r_start ?_
  refine p 4 ?_
  refine xx rfl (x_sto 1 g3_0 5 (eShape ({ s4 with Spread := ((List.length a0 : Int) == 6) })) ?_)
  refine rend ?_
  refine c_seq ?_
  refine c_seq ?_
  refine r_start ?_
  refine xq rfl (y_load (.agg (eShape ({ s4 with Spread := ((List.length a0 : Int) == 6) })).toArray) 1 g3_0 0) ?_
  obtain ⟨v10_1, hv10_1, h⟩ := H.call h
  refine xq rfl (y_call [.agg (eShape ({ s4 with Spread := ((List.length a0 : Int) == 6) })).toArray] (.bool v10_1) func153 (fun W S => C.i_IsShape W hv10_1)) ?_
  refine p 2 ?_
  refine br (!v10_1) (fun q7 => ?_) (fun q7 => ?_)
  · replace h := H.t q7 h
    refine o_set 30 (congrArg Value.bool q7) ?_
    refine p 5 ?_
    refine rend ?_
    refine c_t (by kernel_rfl) ?_
    refine c_seq ?_
    refine r_start ?_
    refine p 1 ?_
    refine xx rfl (x_sto 0 g0_0 0 (eShape zShape) ?_)
    refine p 1 ?_
    refine rend ?_
    replace h := H.done h
    subst h
    exact ret func210 rfl (vs := [.agg (eShape zShape).toArray, .bool false]) (.cell 0 g0_0 rfl (by kernel_rfl) (by kernel_rfl) (.tmp (by kernel_rfl) .nil)) rfl (fun W S => ⟨rfl, S.below⟩)
  replace h := H.f q7 h
  refine o_set 30 (congrArg Value.bool q7) ?_
  refine xq rfl (y_load (.agg (eShape ({ s4 with Spread := ((List.length a0 : Int) == 6) })).toArray) 1 g3_0 0) ?_
  obtain ⟨v10_5, hv10_5, h⟩ := H.call h
  refine xq rfl (y_call [.agg (eShape ({ s4 with Spread := ((List.length a0 : Int) == 6) })).toArray] (.string (bs v10_5)) func181 (fun W S => C.i_Shape_text W hv10_5)) ?_
  refine p 3 ?_
  refine rend ?_
  refine c_or (!seq v10_5 a0) (fun q8 => ?_) (fun q8 => ?_)
  · replace h := H.t q8 h
    refine c_seq ?_
    refine r_start ?_
    refine p 1 ?_
    refine xx rfl (x_sto 0 g0_0 0 (eShape zShape) ?_)
    refine p 1 ?_
    refine rend ?_
    replace h := H.done h
    subst h
    exact ret func210 rfl (vs := [.agg (eShape zShape).toArray, .bool false]) (.cell 0 g0_0 rfl (by kernel_rfl) (by kernel_rfl) (.tmp (by kernel_rfl) .nil)) rfl (fun W S => ⟨rfl, S.below⟩)
  replace h := H.f q8 h
  refine c_skip ?_
  refine c_seq ?_
  refine r_start ?_
  refine xq rfl (y_load (.agg (eShape ({ s4 with Spread := ((List.length a0 : Int) == 6) })).toArray) 1 g3_0 0) ?_
  refine xx rfl (x_sto 0 g0_0 0 (eShape ({ s4 with Spread := ((List.length a0 : Int) == 6) })) ?_)
  refine p 1 ?_
  refine rend ?_
  replace h := H.done h
  subst h
  exact ret func210 rfl (vs := [.agg (eShape ({ s4 with Spread := ((List.length a0 : Int) == 6) })).toArray, .bool true]) (.cell 0 g0_0 rfl (by kernel_rfl) (by kernel_rfl) (.tmp (by kernel_rfl) .nil)) rfl (fun W S => ⟨rfl, S.below⟩)
theorem C.i_PlainShapes {fu : Nat} {r : (List Shape)} (w : World) (h : X.i_PlainShapes fu = some r) : Calls prog 159 #[] w (RetR nShape 28 w r (fun v => v)) := by
  refine calls (M := no) (args := []) func159 rfl ?_
  replace h : H (X.i_PlainShapes fu) (fun o => o = r) := H.mk h
  unfold X.i_PlainShapes at h
  refine c_seq ?_
  refine r_start ?_
  refine p 1 ?_
  refine rend ?_
  refine c_seq ?_
  refine r_start ?_
  refine p 1 ?_
  refine rend ?_
  refine c_seq ?_
  refine c_seq ?_
  refine r_start ?_
  refine xx rfl (e_lit (e := eS) (el := 9) [.string (bs ([48, 48, 48, 48, 48] : Str)), .string (bs ([48, 48, 48, 48, 48, 115] : Str)), .string (bs ([50, 50, 50, 50, 50] : Str)), .string (bs ([49, 48, 48, 48, 48] : Str)), .string (bs ([49, 48, 50, 50, 50] : Str)), .string (bs ([48, 48, 50, 50, 50] : Str))] ([([48, 48, 48, 48, 48] : Str), ([48, 48, 48, 48, 48, 115] : Str), ([50, 50, 50, 50, 50] : Str), ([49, 48, 48, 48, 48] : Str), ([49, 48, 50, 50, 50] : Str), ([48, 48, 50, 50, 50] : Str)] : List Str) fun A2_0 k2_0 => ?_)
  refine p 2 ?_
  refine rend ?_
  refine c_block ?_
  refine c_nil nShape 28 ?_
  refine joinH (X := ((List Shape) × Option Addr × Nat)) 0 (H.bnd h) (fun ⟨l4, A5, k6⟩ => l4) (fun ⟨l4, A5, k6⟩ => [rowT eS w.heap.size 9 (.slice A2_0 (List.length ([([48, 48, 48, 48, 48] : Str), ([48, 48, 48, 48, 48, 115] : Str), ([50, 50, 50, 50, 50] : Str), ([49, 48, 48, 48, 48] : Str), ([49, 48, 50, 50, 50] : Str), ([48, 48, 50, 50, 50] : Str)] : List Str)) k2_0) ([([48, 48, 48, 48, 48] : Str), ([48, 48, 48, 48, 48, 115] : Str), ([50, 50, 50, 50, 50] : Str), ([49, 48, 48, 48, 48] : Str), ([49, 48, 50, 50, 50] : Str), ([48, 48, 50, 50, 50] : Str)] : List Str), rowT nShape w.heap.size 28 (.slice A5 (List.length l4) k6) l4]) (fun ⟨l4, A5, k6⟩ u => (jk u 0 1 (.slice A5 (List.length l4) k6 :: (jk u 2 21 [])))) (fun h hj7 => ?_) ?_
  · skip
    refine rangeR (X := ((List Shape) × Option Addr × Nat)) (s_own 0) (fun ⟨l1, A2, k3⟩ => l1) (fun ⟨l1, A2, k3⟩ => [rowT eS w.heap.size 9 (.slice A2_0 (List.length ([([48, 48, 48, 48, 48] : Str), ([48, 48, 48, 48, 48, 115] : Str), ([50, 50, 50, 50, 50] : Str), ([49, 48, 48, 48, 48] : Str), ([49, 48, 50, 50, 50] : Str), ([48, 48, 50, 50, 50] : Str)] : List Str)) k2_0) ([([48, 48, 48, 48, 48] : Str), ([48, 48, 48, 48, 48, 115] : Str), ([50, 50, 50, 50, 50] : Str), ([49, 48, 48, 48, 48] : Str), ([49, 48, 50, 50, 50] : Str), ([48, 48, 50, 50, 50] : Str)] : List Str), rowT nShape w.heap.size 28 (.slice A2 (List.length l1) k3) l1]) (fun (j8 : Nat) ⟨l1, A2, k3⟩ u => (jk u 0 1 (.slice A2 (List.length l1) k3 :: (jk u 2 4 (.slice A2_0 (List.length ([([48, 48, 48, 48, 48] : Str), ([48, 48, 48, 48, 48, 115] : Str), ([50, 50, 50, 50, 50] : Str), ([49, 48, 48, 48, 48] : Str), ([49, 48, 50, 50, 50] : Str), ([48, 48, 50, 50, 50] : Str)] : List Str)) k2_0 :: .int .i64 (List.length ([([48, 48, 48, 48, 48] : Str), ([48, 48, 48, 48, 48, 115] : Str), ([50, 50, 50, 50, 50] : Str), ([49, 48, 48, 48, 48] : Str), ([49, 48, 50, 50, 50] : Str), ([48, 48, 50, 50, 50] : Str)] : List Str) : Int) :: .int .i64 (j8 : Int) :: (jk u 9 14 [])))))) (([] : List Shape), none, 0) h (by kernel_rfl) (by kernel_rfl) ?_ ?_
    · intro j8 x u x9 q10 hg11 hw12 h
      obtain ⟨l1, A2, k3⟩ := x
      refine c_seq ?_
      refine r_start ?_
      refine p 1 ?_
      refine rend ?_
      refine c_seq ?_
      refine c_yes q10 ?_
      refine c_skip ?_
      refine c_seq ?_
      refine c_block ?_
      refine c_seq ?_
      refine r_start ?_
      refine xq rfl (y_idx (e := eS) (el := 9) hg11 (s_own 0)) ?_
      refine xq rfl (y_el (e := eS) 0 (.string (bs x9)) hg11 (s_own 0)) ?_
      refine p 1 ?_
      refine rend ?_
      refine c_seq ?_
      refine r_start ?_
      refine p 1 ?_
      obtain ⟨v5_1, hv5_1, h⟩ := H.call h
      refine xq rfl (y_call [.string (bs x9)] (.tuple #[.agg (eShape v5_1.1).toArray, .bool v5_1.2]) func210 (fun W S => C.i_ParseShape W hv5_1)) ?_
      refine p 3 ?_
      refine xx rfl (x_new (eShape zShape) fun g5_5 => ?_)
      refine xx rfl (x_sto 2 g5_5 0 (eShape v5_1.1) ?_)
      refine p 1 ?_
      refine rend ?_
      refine r_start ?_
      refine p 1 ?_
      refine xq rfl (y_load (.agg (eShape v5_1.1).toArray) 2 g5_5 0) ?_
      refine xx rfl (e_lit (e := nShape) (el := 28) [.agg (eShape v5_1.1).toArray] ([v5_1.1] : List Shape) fun A6_2 k6_2 => ?_)
      obtain ⟨y6_3, hy6_3, h⟩ := H.call h
      refine xx rfl (e_app 1 hy6_3 (s_own 3) fun A6_3 k6_3 => ?_)
      refine p 1 ?_
      refine rend ?_
      refine c_inb ?_
      refine r_start ?_
      refine p 2 ?_
      refine rend ?_
      refine c_set 8 (ci hw12) ?_
      replace h := H.inl h
      exact h (y6_3, A6_3, k6_3) _ _ rfl (by kernel_rfl) (by kernel_rfl)
    · intro x u q10 h
      obtain ⟨l1, A2, k3⟩ := x
      refine c_seq ?_
      refine r_start ?_
      refine p 1 ?_
      refine rend ?_
      refine c_seq ?_
      refine c_no q10 ?_
      refine cx ?_
      replace h := H.done h
      exact hj7 (l1, A2, k3) _ _ h (by kernel_rfl) (by kernel_rfl)
  intro x u h
  obtain ⟨l4, A5, k6⟩ := x
  refine c_seq ?_
  refine r_start ?_
  refine p 2 ?_
  refine rend ?_
  replace h := H.done h
  subst h
  exact ret func159 rfl (vs := [.slice A5 (List.length l4) k6]) (.tmp (by kernel_rfl) .nil) rfl (fun W S => ⟨_, _, rfl, S.row 1, S.below⟩)
theorem C.i_Orient_mirrored_1 {a0 : Int} {r : Int} (w : World) (h : X.i_Orient_mirrored_1 a0 = some r) : Calls prog 211 #[.int .i64 a0] w (Ret w (.int .i64 r)) := by
  refine calls (M := no) (args := [.int .i64 a0]) func211 rfl ?_
  replace h : H (X.i_Orient_mirrored_1 a0) (fun o => o = r) := H.mk h
  unfold X.i_Orient_mirrored_1 at h
  refine c_seq ?_
  refine r_start ?_
  refine p 1 ?_
  refine rend ?_
  refine c_seq ?_
  refine c_seq ?_
  refine r_start ?_
  refine p 3 ?_
  refine br (a0 == 2) (fun q1 => ?_) (fun q1 => ?_)
  · replace h := H.t q1 h
    refine o_set 5 (congrArg Value.bool q1) ?_
    refine p 3 ?_
    refine rend ?_
    refine c_t (by kernel_rfl) ?_
    refine c_seq ?_
    refine r_start ?_
    refine p 3 ?_
    refine rend ?_
    replace h := H.done h
    subst h
    exact ret func211 rfl (vs := [.int .i64 (wr (Int.ofNat (BitVec.ofInt (IntKind.bits .i64) a0 ^^^ BitVec.ofInt (IntKind.bits .i64) 1).toNat))]) (.tmp (by kernel_rfl) .nil) rfl (fun W S => ⟨rfl, S.below⟩)
  replace h := H.f q1 h
  refine o_set 5 (congrArg Value.bool q1) ?_
  refine p 3 ?_
  refine rend ?_
  refine c_or (a0 == 3) (fun q2 => ?_) (fun q2 => ?_)
  · replace h := H.t q2 h
    refine c_seq ?_
    refine r_start ?_
    refine p 3 ?_
    refine rend ?_
    replace h := H.done h
    subst h
    exact ret func211 rfl (vs := [.int .i64 (wr (Int.ofNat (BitVec.ofInt (IntKind.bits .i64) a0 ^^^ BitVec.ofInt (IntKind.bits .i64) 1).toNat))]) (.tmp (by kernel_rfl) .nil) rfl (fun W S => ⟨rfl, S.below⟩)
  replace h := H.f q2 h
  refine c_skip ?_
  refine c_seq ?_
  refine r_start ?_
  refine p 2 ?_
  refine rend ?_
  replace h := H.done h
  subst h
  exact ret func211 rfl (vs := [.int .i64 a0]) (.tmp (by kernel_rfl) .nil) rfl (fun W S => ⟨rfl, S.below⟩)
theorem C.i_Orient_mirrored {a0 : Orient} {r : Orient} (w : World) (h : X.i_Orient_mirrored a0 = some r) : Calls prog 160 #[.agg (eOrient a0).toArray] w (Ret w (.agg (eOrient r).toArray)) := by
  refine calls (M := no) (args := [.agg (eOrient a0).toArray]) func160 rfl ?_
  replace h : H (X.i_Orient_mirrored a0) (fun o => o = r) := H.mk h
  unfold X.i_Orient_mirrored at h
  refine c_seq ?_
  refine r_start ?_
  refine xx rfl (x_box (eOrient a0) fun g0_0 => ?_)
  refine xx rfl (x_new (eOrient zOrient) fun g0_1 => ?_)
  refine rend ?_
  refine c_seq ?_
  refine r_start ?_
  refine p 1 ?_
  refine rend ?_
  refine c_seq ?_
  refine pick [0, 1] [box g0_0 30 (eOrient a0), box g0_1 30 (eOrient zOrient)] ?_
  refine as_startN 10 1 10 ?_
  refine ap 0 2 ?_
  refine aq 2 rfl (y_load (.int .i64 a0.Palm) 0 g0_0 0) ?_
  obtain ⟨v2_3, hv2_3, h⟩ := H.call h
  refine aq 3 rfl (y_callv [] [.int .i64 a0.Palm] (.int .i64 v2_3) func211 (fun W S => C.i_Orient_mirrored_1 W hv2_3)) ?_
  refine ap 4 2 ?_
  refine aq 6 rfl (y_load (.int .i64 a0.Fingers) 0 g0_0 1) ?_
  obtain ⟨v2_7, hv2_7, h⟩ := H.call h
  refine aq 7 rfl (y_callv [] [.int .i64 a0.Fingers] (.int .i64 v2_7) func211 (fun W S => C.i_Orient_mirrored_1 W hv2_7)) ?_
  refine ap 8 1 ?_
  refine ax 9 rfl (x_sto 1 g0_1 0 (eOrient (⟨v2_3, v2_7⟩ : Orient)) ⟨.inr (by kernel_rfl), ?_⟩)
  refine a_done ?_
  refine pick [0, 1] [box g0_0 30 (eOrient a0), box g0_1 30 (eOrient (⟨v2_3, v2_7⟩ : Orient))] ?_
  replace h := H.done h
  subst h
  exact ret func160 rfl (vs := [.agg (eOrient (⟨v2_3, v2_7⟩ : Orient)).toArray]) (.cell 1 g0_1 rfl (by kernel_rfl) (by kernel_rfl) .nil) rfl (fun W S => ⟨rfl, S.below⟩)
theorem C.strings_Repeat {a0 : Str} {a1 : Int} {r : Str} (w : World) (h : X.strings_Repeat a0 a1 = some r) : Calls prog 197 #[.string (bs a0), .int .i64 a1] w (Ret w (.string (bs r))) := by
  unfold X.strings_Repeat at h
  split at h
  · rename_i hc
    obtain ⟨h0, h1, h2⟩ := hc
    obtain rfl := Option.some.inj h
    have := Tryz.strings_Repeat (bs a0) a1.toNat w (by omega) h2
    have e : ((a1.toNat : Nat) : Int) = a1 := by omega
    rw [e] at this
    exact this
  · cases h
theorem C.i_Move_all {a0 : Move} {r : Str} (w : World) (h : X.i_Move_all a0 = some r) : Calls prog 161 #[.agg (eMove a0).toArray] w (Ret w (.string (bs r))) := by
  refine calls (M := no) (args := [.agg (eMove a0).toArray]) func161 rfl ?_
  replace h : H (X.i_Move_all a0) (fun o => o = r) := H.mk h
  unfold X.i_Move_all at h
  refine c_seq ?_
  refine r_start ?_
  refine xx rfl (x_box (eMove a0) fun g0_0 => ?_)
  refine p 1 ?_
  refine rend ?_
  refine c_seq ?_
  refine r_start ?_
  refine p 1 ?_
  refine xq rfl (y_load (.string (bs a0.Steps)) 0 g0_0 0) ?_
  refine p 1 ?_
  refine xq rfl (y_load (.int .i64 a0.Repeat) 0 g0_0 1) ?_
  obtain ⟨v1_4, hv1_4, h⟩ := H.call h
  refine xq rfl (y_call [.string (bs a0.Steps), .int .i64 a0.Repeat] (.string (bs v1_4)) func197 (fun W S => C.strings_Repeat W hv1_4)) ?_
  refine p 1 ?_
  refine rend ?_
  replace h := H.done h
  subst h
  exact ret func161 rfl (vs := [.string (bs v1_4)]) (.tmp (by kernel_rfl) .nil) rfl (fun W S => ⟨rfl, S.below⟩)
theorem C.i_keepRules {fu : Nat} {a0 : Hand} {a1 : Hand} {r : Bool} (w : World) (h : X.i_keepRules fu a0 a1 = some r) : Calls prog 87 #[.agg (eHand a0).toArray, .agg (eHand a1).toArray] w (Ret w (.bool r)) := by
  refine calls (M := no) (args := [.agg (eHand a0).toArray, .agg (eHand a1).toArray]) func87 rfl ?_
  replace h : H (X.i_keepRules fu a0 a1) (fun o => o = r) := H.mk h
  unfold X.i_keepRules at h
  refine c_seq ?_
  refine r_start ?_
  refine xx rfl (x_box (eHand a0) fun g0_0 => ?_)
  refine xx rfl (x_box (eHand a1) fun g0_1 => ?_)
  refine p 1 ?_
  refine rend ?_
  refine c_seq ?_
  refine c_seq ?_
  refine r_start ?_
  refine xq rfl (y_load (.agg (eHand a1).toArray) 1 g0_1 0) ?_
  obtain ⟨v1_1, hv1_1, h⟩ := H.call h
  refine xq rfl (y_call [.agg (eHand a1).toArray] (.bool v1_1) func157 (fun W S => C.i_Hand_moves W hv1_1)) ?_
  refine p 1 ?_
  refine rend ?_
  refine c_or (!v1_1) (fun q1 => ?_) (fun q1 => ?_)
  · replace h := H.t q1 h
    refine c_seq ?_
    refine as_start 12 12 ?_
    refine ap 0 1 ?_
    refine aq 1 rfl (y_load (.agg (eShape a1.Shape).toArray) 1 g0_1 0) ?_
    refine ap 2 1 ?_
    refine aq 3 rfl (y_load (.agg (eShape a0.Shape).toArray) 0 g0_0 0) ?_
    refine ap 4 2 ?_
    refine br (qShape a1.Shape a0.Shape) (fun q2 => ?_) (fun q2 => ?_)
    · replace h := H.t q2 h
      refine a_set 15 (congrArg Value.bool q2) ?_
      refine ap 6 6 ?_
      refine a_done ?_
      replace h := H.done h
      subst h
      exact ret func87 rfl (vs := [.bool true]) (.tmp (by kernel_rfl) .nil) rfl (fun W S => ⟨rfl, S.below⟩)
    replace h := H.f q2 h
    refine a_set 15 (congrArg Value.bool q2) ?_
    refine ap 7 1 ?_
    refine aq 8 rfl (y_load (.agg (eShape a1.Shape).toArray) 1 g0_1 0) ?_
    obtain ⟨v2_6, hv2_6, h⟩ := H.call h
    refine ax 6 rfl (e_cr [] (fun v => v) func159 (fun W S => C.i_PlainShapes W hv2_6) fun A2_6 k2_6 => ⟨.inr (by kernel_rfl), ?_⟩)
    obtain ⟨v2_9, hv2_9, h⟩ := H.call h
    refine ax 9 rfl (e_y (y_call [.slice A2_6 (List.length v2_6) k2_6, .agg (eShape a1.Shape).toArray] (.bool v2_9) func158 (fun W S => C.slices_Contains_i_Shape_i_Shape W hv2_9 ((s_own 2).out W S))) ⟨.inr (by kernel_rfl), ?_⟩)
    refine ap 10 2 ?_
    refine a_done ?_
    replace h := H.done h
    subst h
    exact ret func87 rfl (vs := [.bool v2_9]) (.tmp (by kernel_rfl) .nil) rfl (fun W S => ⟨rfl, S.below⟩)
  replace h := H.f q1 h
  refine c_skip ?_
  refine c_seq ?_
  refine as_start 14 14 ?_
  refine ap 0 1 ?_
  refine aq 1 rfl (y_load (.agg (eOrient a1.Orient).toArray) 1 g0_1 6) ?_
  refine ap 2 1 ?_
  refine aq 3 rfl (y_load (.agg (eOrient a0.Orient).toArray) 0 g0_0 6) ?_
  refine ap 4 2 ?_
  refine br (qOrient a1.Orient a0.Orient) (fun q3 => ?_) (fun q3 => ?_)
  · replace h := H.t q3 h
    refine a_set 26 (congrArg Value.bool q3) ?_
    refine ap 6 8 ?_
    refine a_done ?_
    refine c_seq ?_
    refine as_start 18 18 ?_
    refine ap 0 1 ?_
    refine aq 1 rfl (y_load (.agg (eMove a1.Move).toArray) 1 g0_1 11) ?_
    obtain ⟨v4_2, hv4_2, h⟩ := H.call h
    refine aq 2 rfl (y_call [.agg (eMove a1.Move).toArray] (.string (bs v4_2)) func161 (fun W S => C.i_Move_all W hv4_2)) ?_
    refine ap 3 1 ?_
    refine aq 4 rfl (y_load (.agg (eMove a0.Move).toArray) 0 g0_0 11) ?_
    obtain ⟨v4_5, hv4_5, h⟩ := H.call h
    refine aq 5 rfl (y_call [.agg (eMove a0.Move).toArray] (.string (bs v4_5)) func161 (fun W S => C.i_Move_all W hv4_5)) ?_
    refine ap 6 2 ?_
    refine br (seq v4_2 v4_5) (fun q4 => ?_) (fun q4 => ?_)
    · replace h := H.t q4 h
      refine a_set 41 (congrArg Value.bool q4) ?_
      refine ap 8 10 ?_
      refine a_done ?_
      refine c_seq ?_
      refine r_start ?_
      refine xq rfl (y_load (.agg (eHand a0).toArray) 0 g0_0 0) ?_
      obtain ⟨v5_1, hv5_1, h⟩ := H.call h
      refine xq rfl (y_call [.agg (eHand a0).toArray] (.bool v5_1) func157 (fun W S => C.i_Hand_moves W hv5_1)) ?_
      refine p 1 ?_
      refine br v5_1 (fun q5 => ?_) (fun q5 => ?_)
      · replace h := H.t q5 h
        refine o_set 53 (congrArg Value.bool q5) ?_
        refine p 1 ?_
        refine xq rfl (y_load (.agg (eShape a0.Shape).toArray) 0 g0_0 0) ?_
        refine p 1 ?_
        refine xq rfl (y_load (.agg (eShape a1.Shape).toArray) 1 g0_1 0) ?_
        refine p 3 ?_
        refine br (qShape a0.Shape a1.Shape) (fun q6 => ?_) (fun q6 => ?_)
        · replace h := H.t q6 h
          refine o_set 60 (congrArg Value.bool q6) ?_
          refine p 6 ?_
          refine rend ?_
          replace h := H.done h
          subst h
          exact ret func87 rfl (vs := [.bool true]) (.tmp (by kernel_rfl) .nil) rfl (fun W S => ⟨rfl, S.below⟩)
        replace h := H.f q6 h
        refine o_set 60 (congrArg Value.bool q6) ?_
        refine p 6 ?_
        refine rend ?_
        replace h := H.done h
        subst h
        exact ret func87 rfl (vs := [.bool false]) (.tmp (by kernel_rfl) .nil) rfl (fun W S => ⟨rfl, S.below⟩)
      replace h := H.f q5 h
      refine o_set 53 (congrArg Value.bool q5) ?_
      refine p 13 ?_
      refine rend ?_
      replace h := H.done h
      subst h
      exact ret func87 rfl (vs := [.bool false]) (.tmp (by kernel_rfl) .nil) rfl (fun W S => ⟨rfl, S.below⟩)
    replace h := H.f q4 h
    refine a_set 41 (congrArg Value.bool q4) ?_
    refine ap 8 1 ?_
    refine aq 9 rfl (y_load (.agg (eMove a1.Move).toArray) 1 g0_1 11) ?_
    obtain ⟨v4_10, hv4_10, h⟩ := H.call h
    refine aq 10 rfl (y_call [.agg (eMove a1.Move).toArray] (.string (bs v4_10)) func161 (fun W S => C.i_Move_all W hv4_10)) ?_
    refine ap 11 1 ?_
    refine aq 12 rfl (y_load (.agg (eMove a0.Move).toArray) 0 g0_0 11) ?_
    obtain ⟨v4_13, hv4_13, h⟩ := H.call h
    refine aq 13 rfl (y_call [.agg (eMove a0.Move).toArray] (.agg (eMove v4_13).toArray) func162 (fun W S => C.i_Move_mirrored W hv4_13)) ?_
    obtain ⟨v4_14, hv4_14, h⟩ := H.call h
    refine aq 14 rfl (y_call [.agg (eMove v4_13).toArray] (.string (bs v4_14)) func161 (fun W S => C.i_Move_all W hv4_14)) ?_
    refine ap 15 3 ?_
    refine a_done ?_
    refine c_seq ?_
    refine r_start ?_
    refine xq rfl (y_load (.agg (eHand a0).toArray) 0 g0_0 0) ?_
    obtain ⟨v5_1, hv5_1, h⟩ := H.call h
    refine xq rfl (y_call [.agg (eHand a0).toArray] (.bool v5_1) func157 (fun W S => C.i_Hand_moves W hv5_1)) ?_
    refine p 1 ?_
    refine br v5_1 (fun q7 => ?_) (fun q7 => ?_)
    · replace h := H.t q7 h
      refine o_set 53 (congrArg Value.bool q7) ?_
      refine p 1 ?_
      refine xq rfl (y_load (.agg (eShape a0.Shape).toArray) 0 g0_0 0) ?_
      refine p 1 ?_
      refine xq rfl (y_load (.agg (eShape a1.Shape).toArray) 1 g0_1 0) ?_
      refine p 3 ?_
      refine br (qShape a0.Shape a1.Shape) (fun q8 => ?_) (fun q8 => ?_)
      · replace h := H.t q8 h
        refine o_set 60 (congrArg Value.bool q8) ?_
        refine p 6 ?_
        refine rend ?_
        replace h := H.done h
        subst h
        exact ret func87 rfl (vs := [.bool (seq v4_10 v4_14)]) (.tmp (by kernel_rfl) .nil) rfl (fun W S => ⟨rfl, S.below⟩)
      replace h := H.f q8 h
      refine o_set 60 (congrArg Value.bool q8) ?_
      refine p 6 ?_
      refine rend ?_
      replace h := H.done h
      subst h
      exact ret func87 rfl (vs := [.bool false]) (.tmp (by kernel_rfl) .nil) rfl (fun W S => ⟨rfl, S.below⟩)
    replace h := H.f q7 h
    refine o_set 53 (congrArg Value.bool q7) ?_
    refine p 13 ?_
    refine rend ?_
    replace h := H.done h
    subst h
    exact ret func87 rfl (vs := [.bool false]) (.tmp (by kernel_rfl) .nil) rfl (fun W S => ⟨rfl, S.below⟩)
  replace h := H.f q3 h
  refine a_set 26 (congrArg Value.bool q3) ?_
  refine ap 6 1 ?_
  refine aq 7 rfl (y_load (.agg (eOrient a1.Orient).toArray) 1 g0_1 6) ?_
  refine ap 8 1 ?_
  refine aq 9 rfl (y_load (.agg (eOrient a0.Orient).toArray) 0 g0_0 6) ?_
  obtain ⟨v3_10, hv3_10, h⟩ := H.call h
  refine aq 10 rfl (y_call [.agg (eOrient a0.Orient).toArray] (.agg (eOrient v3_10).toArray) func160 (fun W S => C.i_Orient_mirrored W hv3_10)) ?_
  refine ap 11 3 ?_
  refine a_done ?_
  refine c_seq ?_
  refine as_start 18 18 ?_
  refine ap 0 1 ?_
  refine aq 1 rfl (y_load (.agg (eMove a1.Move).toArray) 1 g0_1 11) ?_
  obtain ⟨v4_2, hv4_2, h⟩ := H.call h
  refine aq 2 rfl (y_call [.agg (eMove a1.Move).toArray] (.string (bs v4_2)) func161 (fun W S => C.i_Move_all W hv4_2)) ?_
  refine ap 3 1 ?_
  refine aq 4 rfl (y_load (.agg (eMove a0.Move).toArray) 0 g0_0 11) ?_
  obtain ⟨v4_5, hv4_5, h⟩ := H.call h
  refine aq 5 rfl (y_call [.agg (eMove a0.Move).toArray] (.string (bs v4_5)) func161 (fun W S => C.i_Move_all W hv4_5)) ?_
  refine ap 6 2 ?_
  refine br (seq v4_2 v4_5) (fun q9 => ?_) (fun q9 => ?_)
  · replace h := H.t q9 h
    refine a_set 41 (congrArg Value.bool q9) ?_
    refine ap 8 10 ?_
    refine a_done ?_
    refine c_seq ?_
    refine r_start ?_
    refine xq rfl (y_load (.agg (eHand a0).toArray) 0 g0_0 0) ?_
    obtain ⟨v5_1, hv5_1, h⟩ := H.call h
    refine xq rfl (y_call [.agg (eHand a0).toArray] (.bool v5_1) func157 (fun W S => C.i_Hand_moves W hv5_1)) ?_
    refine p 1 ?_
    refine br v5_1 (fun q10 => ?_) (fun q10 => ?_)
    · replace h := H.t q10 h
      refine o_set 53 (congrArg Value.bool q10) ?_
      refine p 1 ?_
      refine xq rfl (y_load (.agg (eShape a0.Shape).toArray) 0 g0_0 0) ?_
      refine p 1 ?_
      refine xq rfl (y_load (.agg (eShape a1.Shape).toArray) 1 g0_1 0) ?_
      refine p 3 ?_
      refine br (qShape a0.Shape a1.Shape) (fun q11 => ?_) (fun q11 => ?_)
      · replace h := H.t q11 h
        refine o_set 60 (congrArg Value.bool q11) ?_
        refine p 3 ?_
        refine br (qOrient a1.Orient v3_10) (fun q12 => ?_) (fun q12 => ?_)
        · replace h := H.t q12 h
          refine o_set 63 (congrArg Value.bool q12) ?_
          refine p 3 ?_
          refine rend ?_
          replace h := H.done h
          subst h
          exact ret func87 rfl (vs := [.bool true]) (.tmp (by kernel_rfl) .nil) rfl (fun W S => ⟨rfl, S.below⟩)
        replace h := H.f q12 h
        refine o_set 63 (congrArg Value.bool q12) ?_
        refine p 3 ?_
        refine rend ?_
        replace h := H.done h
        subst h
        exact ret func87 rfl (vs := [.bool false]) (.tmp (by kernel_rfl) .nil) rfl (fun W S => ⟨rfl, S.below⟩)
      replace h := H.f q11 h
      refine o_set 60 (congrArg Value.bool q11) ?_
      refine p 6 ?_
      refine rend ?_
      replace h := H.done h
      subst h
      exact ret func87 rfl (vs := [.bool false]) (.tmp (by kernel_rfl) .nil) rfl (fun W S => ⟨rfl, S.below⟩)
    replace h := H.f q10 h
    refine o_set 53 (congrArg Value.bool q10) ?_
    refine p 13 ?_
    refine rend ?_
    replace h := H.done h
    subst h
    exact ret func87 rfl (vs := [.bool false]) (.tmp (by kernel_rfl) .nil) rfl (fun W S => ⟨rfl, S.below⟩)
  replace h := H.f q9 h
  refine a_set 41 (congrArg Value.bool q9) ?_
  refine ap 8 1 ?_
  refine aq 9 rfl (y_load (.agg (eMove a1.Move).toArray) 1 g0_1 11) ?_
  obtain ⟨v4_10, hv4_10, h⟩ := H.call h
  refine aq 10 rfl (y_call [.agg (eMove a1.Move).toArray] (.string (bs v4_10)) func161 (fun W S => C.i_Move_all W hv4_10)) ?_
  refine ap 11 1 ?_
  refine aq 12 rfl (y_load (.agg (eMove a0.Move).toArray) 0 g0_0 11) ?_
  obtain ⟨v4_13, hv4_13, h⟩ := H.call h
  refine aq 13 rfl (y_call [.agg (eMove a0.Move).toArray] (.agg (eMove v4_13).toArray) func162 (fun W S => C.i_Move_mirrored W hv4_13)) ?_
  obtain ⟨v4_14, hv4_14, h⟩ := H.call h
  refine aq 14 rfl (y_call [.agg (eMove v4_13).toArray] (.string (bs v4_14)) func161 (fun W S => C.i_Move_all W hv4_14)) ?_
  refine ap 15 3 ?_
  refine a_done ?_
  refine c_seq ?_
  refine r_start ?_
  refine xq rfl (y_load (.agg (eHand a0).toArray) 0 g0_0 0) ?_
  obtain ⟨v5_1, hv5_1, h⟩ := H.call h
  refine xq rfl (y_call [.agg (eHand a0).toArray] (.bool v5_1) func157 (fun W S => C.i_Hand_moves W hv5_1)) ?_
  refine p 1 ?_
  refine br v5_1 (fun q13 => ?_) (fun q13 => ?_)
  · replace h := H.t q13 h
    refine o_set 53 (congrArg Value.bool q13) ?_
    refine p 1 ?_
    refine xq rfl (y_load (.agg (eShape a0.Shape).toArray) 0 g0_0 0) ?_
    refine p 1 ?_
    refine xq rfl (y_load (.agg (eShape a1.Shape).toArray) 1 g0_1 0) ?_
    refine p 3 ?_
    refine br (qShape a0.Shape a1.Shape) (fun q14 => ?_) (fun q14 => ?_)
    · replace h := H.t q14 h
      refine o_set 60 (congrArg Value.bool q14) ?_
      refine p 3 ?_
      refine br (qOrient a1.Orient v3_10) (fun q15 => ?_) (fun q15 => ?_)
      · replace h := H.t q15 h
        refine o_set 63 (congrArg Value.bool q15) ?_
        refine p 3 ?_
        refine rend ?_
        replace h := H.done h
        subst h
        exact ret func87 rfl (vs := [.bool (seq v4_10 v4_14)]) (.tmp (by kernel_rfl) .nil) rfl (fun W S => ⟨rfl, S.below⟩)
      replace h := H.f q15 h
      refine o_set 63 (congrArg Value.bool q15) ?_
      refine p 3 ?_
      refine rend ?_
      replace h := H.done h
      subst h
      exact ret func87 rfl (vs := [.bool false]) (.tmp (by kernel_rfl) .nil) rfl (fun W S => ⟨rfl, S.below⟩)
    replace h := H.f q14 h
    refine o_set 60 (congrArg Value.bool q14) ?_
    refine p 6 ?_
    refine rend ?_
    replace h := H.done h
    subst h
    exact ret func87 rfl (vs := [.bool false]) (.tmp (by kernel_rfl) .nil) rfl (fun W S => ⟨rfl, S.below⟩)
  replace h := H.f q13 h
  refine o_set 53 (congrArg Value.bool q13) ?_
  refine p 13 ?_
  refine rend ?_
  replace h := H.done h
  subst h
  exact ret func87 rfl (vs := [.bool false]) (.tmp (by kernel_rfl) .nil) rfl (fun W S => ⟨rfl, S.below⟩)
theorem C.i_IsSign {fu : Nat} {a0 : Sign} {r : Bool} (w : World) (h : X.i_IsSign fu a0 = some r) : Calls prog 21 #[.agg (eSign a0).toArray] w (Ret w (.bool r)) := by
  refine calls (M := no) (args := [.agg (eSign a0).toArray]) func21 rfl ?_
  replace h : H (X.i_IsSign fu a0) (fun o => o = r) := H.mk h
  unfold X.i_IsSign at h
  refine c_seq ?_
  refine r_start ?_
  refine xx rfl (x_box (eSign a0) fun g0_0 => ?_)
  refine p 1 ?_
  refine rend ?_
  refine c_seq ?_
  refine c_seq ?_
  refine r_start ?_
  refine p 1 ?_
  refine xq rfl (y_load (.agg (eHand a0.Main).toArray) 0 g0_0 0) ?_
  obtain ⟨v1_2, hv1_2, h⟩ := H.call h
  refine xq rfl (y_call [.agg (eHand a0.Main).toArray] (.bool v1_2) func86 (fun W S => C.i_IsHand W hv1_2)) ?_
  refine p 1 ?_
  refine rend ?_
  refine c_or (!v1_2) (fun q1 => ?_) (fun q1 => ?_)
  · replace h := H.t q1 h
    refine c_seq ?_
    refine r_start ?_
    refine p 1 ?_
    refine rend ?_
    replace h := H.done h
    subst h
    exact ret func21 rfl (vs := [.bool false]) (.tmp (by kernel_rfl) .nil) rfl (fun W S => ⟨rfl, S.below⟩)
  replace h := H.f q1 h
  refine c_skip ?_
  refine c_seq ?_
  refine c_seq ?_
  refine r_start ?_
  refine p 1 ?_
  refine xq rfl (y_load (.bool a0.Two) 0 g0_0 13) ?_
  refine p 1 ?_
  refine rend ?_
  refine c_or (!a0.Two) (fun q2 => ?_) (fun q2 => ?_)
  · replace h := H.t q2 h
    refine c_seq ?_
    refine r_start ?_
    refine p 1 ?_
    refine xq rfl (y_load (.agg (eHand a0.Other).toArray) 0 g0_0 14) ?_
    refine p 3 ?_
    refine rend ?_
    replace h := H.done h
    subst h
    exact ret func21 rfl (vs := [.bool (qHand a0.Other zHand)]) (.tmp (by kernel_rfl) .nil) rfl (fun W S => ⟨rfl, S.below⟩)
  replace h := H.f q2 h
  refine c_skip ?_
  refine c_seq ?_
  refine r_start ?_
  refine p 1 ?_
  refine xq rfl (y_load (.agg (eHand a0.Other).toArray) 0 g0_0 14) ?_
  obtain ⟨v5_2, hv5_2, h⟩ := H.call h
  refine xq rfl (y_call [.agg (eHand a0.Other).toArray] (.bool v5_2) func86 (fun W S => C.i_IsHand W hv5_2)) ?_
  refine p 1 ?_
  refine br v5_2 (fun q3 => ?_) (fun q3 => ?_)
  · replace h := H.t q3 h
    refine o_set 17 (congrArg Value.bool q3) ?_
    refine p 1 ?_
    refine xq rfl (y_load (.agg (eHand a0.Main).toArray) 0 g0_0 0) ?_
    refine p 1 ?_
    refine xq rfl (y_load (.agg (eHand a0.Other).toArray) 0 g0_0 14) ?_
    obtain ⟨v5_8, hv5_8, h⟩ := H.call h
    refine xq rfl (y_call [.agg (eHand a0.Main).toArray, .agg (eHand a0.Other).toArray] (.bool v5_8) func87 (fun W S => C.i_keepRules W hv5_8)) ?_
    refine p 2 ?_
    refine rend ?_
    replace h := H.done h
    subst h
    exact ret func21 rfl (vs := [.bool v5_8]) (.tmp (by kernel_rfl) .nil) rfl (fun W S => ⟨rfl, S.below⟩)
  replace h := H.f q3 h
  refine o_set 17 (congrArg Value.bool q3) ?_
  refine p 7 ?_
  refine rend ?_
  replace h := H.done h
  subst h
  exact ret func21 rfl (vs := [.bool false]) (.tmp (by kernel_rfl) .nil) rfl (fun W S => ⟨rfl, S.below⟩)
theorem C.slices_IndexFunc_i_Sign_i_Sign {a0 : (List Sign)} {A0 : Option Addr} {k0 : Nat} {a1 : (Sign → Option Bool)} {g1 : Nat} {cp1 : List Value} {r : Int} (w : World) (h : X.slices_IndexFunc_i_Sign_i_Sign a0 a1 = some r) (h0 : RdT nSign w (.slice A0 (List.length a0) k0) a0) (hg1 : isFn prog g1 = true) (hF1 : ∀ (x0 : Sign) (r : Bool) (W : World), Up w W → a1 x0 = some r → Calls prog g1 (([.agg (eSign x0).toArray] : List Value) ++ cp1).toArray W (Ret W (.bool r))) : Calls prog 81 #[.slice A0 (List.length a0) k0, .func (.func g1) #[] cp1.toArray] w (Ret w (.int .i64 r)) := by
  refine calls (M := no) (args := [.slice A0 (List.length a0) k0, .func (.func g1) #[] cp1.toArray]) func81 rfl ?_
  replace h : H (X.slices_IndexFunc_i_Sign_i_Sign a0 a1) (fun o => o = r) := H.mk h
  unfold X.slices_IndexFunc_i_Sign_i_Sign at h
  refine c_seq ?_
  refine r_start ?_
  refine p 1 ?_
  refine rend ?_
  refine c_seq ?_
  refine c_seq ?_
  refine r_start ?_
  refine p 3 ?_
  refine rend ?_
  refine c_block ?_
  refine joinE (X := Unit) 0 (H.or h) (fun (x : Unit) => x) (fun _ => []) (fun _ u => (jk u 0 19 [])) (fun h hj1 => ?_) ?_
  · skip
    refine rangeR (X := Unit) (s_arg h0) (fun (x : Unit) => x) (fun _ => []) (fun (j2 : Nat) _ u => (.slice A0 (List.length a0) k0 :: .func (.func g1) #[] cp1.toArray :: (jk u 2 5 (.int .i64 (List.length a0 : Int) :: .int .i64 (j2 : Int) :: (jk u 9 10 []))))) () h (by kernel_rfl) (by kernel_rfl) ?_ ?_
    · intro j2 x u x3 q4 hg5 hw6 h
      refine c_seq ?_
      refine r_start ?_
      refine p 1 ?_
      refine rend ?_
      refine c_seq ?_
      refine c_yes q4 ?_
      refine c_skip ?_
      refine c_seq ?_
      refine c_block ?_
      refine c_seq ?_
      refine r_start ?_
      refine p 2 ?_
      refine rend ?_
      refine c_seq ?_
      refine r_start ?_
      refine p 3 ?_
      refine xq rfl (y_idx (e := nSign) (el := 38) hg5 (s_arg h0)) ?_
      refine xq rfl (y_el (e := nSign) 0 (.agg (eSign x3).toArray) hg5 (s_arg h0)) ?_
      obtain ⟨v4_5, hv4_5, h⟩ := H.call h
      refine xq rfl (y_cf cp1 [.agg (eSign x3).toArray] (.bool v4_5) hg1 (fun W S => hF1 _ _ W S.below hv4_5)) ?_
      refine rend ?_
      refine c_or v4_5 (fun q7 => ?_) (fun q7 => ?_)
      · replace h := H.t q7 h
        refine c_seq ?_
        refine r_start ?_
        refine p 2 ?_
        refine rend ?_
        replace h := H.inr h
        replace h := H.done h
        subst h
        exact ret func81 rfl (vs := [.int .i64 (j2 : Int)]) (.tmp (by kernel_rfl) .nil) rfl (fun W S => ⟨rfl, S.below⟩)
      replace h := H.f q7 h
      refine c_skip ?_
      refine c_inb ?_
      refine r_start ?_
      refine p 2 ?_
      refine rend ?_
      refine c_set 8 (ci hw6) ?_
      replace h := H.inl h
      exact h () _ _ rfl (by kernel_rfl) (by kernel_rfl)
    · intro x u q4 h
      refine c_seq ?_
      refine r_start ?_
      refine p 1 ?_
      refine rend ?_
      refine c_seq ?_
      refine c_no q4 ?_
      refine cx ?_
      replace h := H.done h
      exact hj1 () _ _ h (by kernel_rfl) (by kernel_rfl)
  intro x u h
  refine c_seq ?_
  refine r_start ?_
  refine p 1 ?_
  refine rend ?_
  replace h := H.done h
  subst h
  exact ret func81 rfl (vs := [.int .i64 (-1)]) (.tmp (by kernel_rfl) .nil) rfl (fun W S => ⟨rfl, S.below⟩)
theorem C.slices_ContainsFunc_i_Sign_i_Sign {a0 : (List Sign)} {A0 : Option Addr} {k0 : Nat} {a1 : (Sign → Option Bool)} {g1 : Nat} {cp1 : List Value} {r : Bool} (w : World) (h : X.slices_ContainsFunc_i_Sign_i_Sign a0 a1 = some r) (h0 : RdT nSign w (.slice A0 (List.length a0) k0) a0) (hg1 : isFn prog g1 = true) (hF1 : ∀ (x0 : Sign) (r : Bool) (W : World), Up w W → a1 x0 = some r → Calls prog g1 (([.agg (eSign x0).toArray] : List Value) ++ cp1).toArray W (Ret W (.bool r))) : Calls prog 205 #[.slice A0 (List.length a0) k0, .func (.func g1) #[] cp1.toArray] w (Ret w (.bool r)) := by
  refine calls (M := no) (args := [.slice A0 (List.length a0) k0, .func (.func g1) #[] cp1.toArray]) func205 rfl ?_
  replace h : H (X.slices_ContainsFunc_i_Sign_i_Sign a0 a1) (fun o => o = r) := H.mk h
  unfold X.slices_ContainsFunc_i_Sign_i_Sign at h
  refine c_seq ?_
  refine r_start ?_
  refine p 1 ?_
  refine rend ?_
  refine c_seq ?_
  refine r_start ?_
  refine p 2 ?_
  obtain ⟨v1_2, hv1_2, h⟩ := H.call h
  refine xq rfl (y_call [.slice A0 (List.length a0) k0, .func (.func g1) #[] cp1.toArray] (.int .i64 v1_2) func81 (fun W S => C.slices_IndexFunc_i_Sign_i_Sign W hv1_2 ((s_arg h0).out W S) hg1 (fun x0_2 r W2 hu2 hx2 => hF1 x0_2 r W2 (Up.trans S.below hu2) hx2))) ?_
  refine p 2 ?_
  refine rend ?_
  replace h := H.done h
  subst h
  exact ret func205 rfl (vs := [.bool (decide (v1_2 ≥ 0))]) (.tmp (by kernel_rfl) .nil) rfl (fun W S => ⟨rfl, S.below⟩)
theorem C.i_allOf_i_Sign_1 {a0 : Sign} {a1 : (Sign → Option Bool)} {g1 : Nat} {cp1 : List Value} {p1 : Nat} {r : Bool} (w : World) (h : X.i_allOf_i_Sign_1 a1 a0 = some r) (hg1 : isFn prog g1 = true) (hF1 : ∀ (x0 : Sign) (r : Bool) (W : World), Up w W → a1 x0 = some r → Calls prog g1 (([.agg (eSign x0).toArray] : List Value) ++ cp1).toArray W (Ret W (.bool r))) (hp1 : w.heap[p1]? = some (.cells ([.func (.func g1) #[] cp1.toArray] : List Value).toArray 51 (0, 0))) : Calls prog 206 #[.agg (eSign a0).toArray, .pointer (some ⟨p1, 0, none⟩)] w (Ret w (.bool r)) := by
  refine calls (M := no) (args := [.agg (eSign a0).toArray, .pointer (some ⟨p1, 0, none⟩)]) func206 rfl ?_
  replace h : H (X.i_allOf_i_Sign_1 a1 a0) (fun o => o = r) := H.mk h
  unfold X.i_allOf_i_Sign_1 at h
  refine c_seq ?_
  refine r_start ?_
  refine xx rfl (x_box (eSign a0) fun g0_0 => ?_)
  refine p 1 ?_
  refine rend ?_
  refine c_seq ?_
  refine r_start ?_
  refine xq rfl (y_ld0 (.func (.func g1) #[] cp1.toArray) p1 0 hp1) ?_
  refine xq rfl (y_load (.agg (eSign a0).toArray) 0 g0_0 0) ?_
  obtain ⟨v1_2, hv1_2, h⟩ := H.call h
  refine xq rfl (y_cf cp1 [.agg (eSign a0).toArray] (.bool v1_2) hg1 (fun W S => hF1 _ _ W S.below hv1_2)) ?_
  refine p 2 ?_
  refine rend ?_
  replace h := H.done h
  subst h
  exact ret func206 rfl (vs := [.bool (!v1_2)]) (.tmp (by kernel_rfl) .nil) rfl (fun W S => ⟨rfl, S.below⟩)
theorem C.i_allOf_i_Sign {a0 : (List Sign)} {A0 : Option Addr} {k0 : Nat} {a1 : (Sign → Option Bool)} {g1 : Nat} {cp1 : List Value} {r : Bool} (w : World) (h : X.i_allOf_i_Sign a0 a1 = some r) (h0 : RdT nSign w (.slice A0 (List.length a0) k0) a0) (hg1 : isFn prog g1 = true) (hF1 : ∀ (x0 : Sign) (r : Bool) (W : World), Up w W → a1 x0 = some r → Calls prog g1 (([.agg (eSign x0).toArray] : List Value) ++ cp1).toArray W (Ret W (.bool r))) : Calls prog 152 #[.slice A0 (List.length a0) k0, .func (.func g1) #[] cp1.toArray] w (Ret w (.bool r)) := by
  refine calls (M := no) (args := [.slice A0 (List.length a0) k0, .func (.func g1) #[] cp1.toArray]) func152 rfl ?_
  replace h : H (X.i_allOf_i_Sign a0 a1) (fun o => o = r) := H.mk h
  unfold X.i_allOf_i_Sign at h
  refine c_seq ?_
  refine r_start ?_
  refine xx rfl (x_box [.func (.func g1) #[] cp1.toArray] fun g0_0 => ?_)
  refine p 1 ?_
  refine rend ?_
  refine c_seq ?_
  refine r_start ?_
  refine p 2 ?_
  obtain ⟨v1_2, hv1_2, h⟩ := H.call h
  refine xq rfl (y_call [.slice A0 (List.length a0) k0, .func (.func 206) #[] #[.pointer (some ⟨g0_0, 0, none⟩)]] (.bool v1_2) func205 (fun W S => C.slices_ContainsFunc_i_Sign_i_Sign W hv1_2 ((s_arg h0).out W S) (isFn_of func206) (fun x0_2 r W2 hu2 hx2 => C.i_allOf_i_Sign_1 W2 hx2 hg1 (fun x0_3 r W3 hu3 hx3 => hF1 x0_3 r W3 (Up.trans (Up.trans S.below hu2) hu3) hx3) (bx_up (S.bx 0) hu2)))) ?_
  refine p 2 ?_
  refine rend ?_
  replace h := H.done h
  subst h
  exact ret func152 rfl (vs := [.bool (!v1_2)]) (.tmp (by kernel_rfl) .nil) rfl (fun W S => ⟨rfl, S.below⟩)
theorem C.i_areSigns {fu : Nat} {a0 : (List Sign)} {A0 : Option Addr} {k0 : Nat} {a1 : Int} {r : Bool} (w : World) (h : X.i_areSigns fu a0 a1 = some r) (h0 : RdT nSign w (.slice A0 (List.length a0) k0) a0) : Calls prog 80 #[.slice A0 (List.length a0) k0, .int .i64 a1] w (Ret w (.bool r)) := by
  refine calls (M := no) (args := [.slice A0 (List.length a0) k0, .int .i64 a1]) func80 rfl ?_
  replace h : H (X.i_areSigns fu a0 a1) (fun o => o = r) := H.mk h
  unfold X.i_areSigns at h
  refine c_seq ?_
  refine r_start ?_
  refine p 1 ?_
  refine rend ?_
  refine c_seq ?_
  refine r_start ?_
  refine p 5 ?_
  refine br (decide ((List.length a0 : Int) ≤ a1)) (fun q1 => ?_) (fun q1 => ?_)
  · replace h := H.t q1 h
    refine o_set 9 (congrArg Value.bool q1) ?_
    refine p 1 ?_
    obtain ⟨v1_6, hv1_6, h⟩ := H.call h
    refine xq rfl (y_call [.slice A0 (List.length a0) k0, .func (.func 21) #[] #[]] (.bool v1_6) func152 (fun W S => C.i_allOf_i_Sign W hv1_6 ((s_arg h0).out W S) (isFn_of func21) (fun x0_2 r W2 hu2 hx2 => C.i_IsSign W2 hx2))) ?_
    refine p 2 ?_
    refine rend ?_
    replace h := H.done h
    subst h
    exact ret func80 rfl (vs := [.bool v1_6]) (.tmp (by kernel_rfl) .nil) rfl (fun W S => ⟨rfl, S.below⟩)
  replace h := H.f q1 h
  refine o_set 9 (congrArg Value.bool q1) ?_
  refine p 4 ?_
  refine rend ?_
  replace h := H.done h
  subst h
  exact ret func80 rfl (vs := [.bool false]) (.tmp (by kernel_rfl) .nil) rfl (fun W S => ⟨rfl, S.below⟩)
theorem C.s_paList {fu : Nat} {a0 : (List Sign)} {A0 : Option Addr} {k0 : Nat} {r : Bool} (w : World) (h : X.s_paList fu a0 = some r) (h0 : RdT nSign w (.slice A0 (List.length a0) k0) a0) : Calls prog 83 #[.slice A0 (List.length a0) k0] w (Ret w (.bool r)) := by
  refine calls (M := no) (args := [.slice A0 (List.length a0) k0]) func83 rfl ?_
  replace h : H (X.s_paList fu a0) (fun o => o = r) := H.mk h
  unfold X.s_paList at h
  refine c_seq ?_
  refine r_start ?_
  refine p 1 ?_
  refine rend ?_
  refine c_seq ?_
  refine c_seq ?_
  refine r_start ?_
  refine p 3 ?_
  refine rend ?_
  refine c_block ?_
  refine joinE (X := Unit) 0 (H.or h) (fun (x : Unit) => x) (fun _ => []) (fun _ u => (.slice A0 (List.length a0) k0 :: (jk u 1 17 []))) (fun h hj1 => ?_) ?_
  · skip
    refine rangeR (X := Unit) (s_arg h0) (fun (x : Unit) => x) (fun _ => []) (fun (j2 : Nat) _ u => (.slice A0 (List.length a0) k0 :: (jk u 1 4 (.slice A0 (List.length a0) k0 :: .int .i64 (List.length a0 : Int) :: .int .i64 (j2 : Int) :: (jk u 8 10 []))))) () h (by kernel_rfl) (by kernel_rfl) ?_ ?_
    · intro j2 x u x3 q4 hg5 hw6 h
      refine c_seq ?_
      refine r_start ?_
      refine p 1 ?_
      refine rend ?_
      refine c_seq ?_
      refine c_yes q4 ?_
      refine c_skip ?_
      refine c_seq ?_
      refine c_block ?_
      refine c_seq ?_
      refine r_start ?_
      refine xq rfl (y_idx (e := nSign) (el := 38) hg5 (s_arg h0)) ?_
      refine xq rfl (y_el (e := nSign) 0 (.agg (eSign x3).toArray) hg5 (s_arg h0)) ?_
      refine xx rfl (x_new (eSign zSign) fun g3_2 => ?_)
      refine xx rfl (x_sto 0 g3_2 0 (eSign x3) ?_)
      refine rend ?_
      refine c_seq ?_
      refine r_start ?_
      refine xq rfl (y_load (.agg (eSign x3).toArray) 0 g3_2 0) ?_
      obtain ⟨v4_1, hv4_1, h⟩ := H.call h
      refine xq rfl (y_call [.agg (eSign x3).toArray] (.bool v4_1) func75 (fun W S => C.s_siGood W hv4_1)) ?_
      refine p 1 ?_
      refine rend ?_
      refine c_or (!v4_1) (fun q7 => ?_) (fun q7 => ?_)
      · replace h := H.t q7 h
        refine c_seq ?_
        refine r_start ?_
        refine p 1 ?_
        refine rend ?_
        replace h := H.inr h
        replace h := H.done h
        subst h
        exact ret func83 rfl (vs := [.bool false]) (.tmp (by kernel_rfl) .nil) rfl (fun W S => ⟨rfl, S.below⟩)
      replace h := H.f q7 h
      refine c_skip ?_
      refine c_inb ?_
      refine r_start ?_
      refine p 2 ?_
      refine rend ?_
      refine c_set 7 (ci hw6) ?_
      replace h := H.inl h
      exact h () _ _ rfl (by kernel_rfl) (by kernel_rfl)
    · intro x u q4 h
      refine c_seq ?_
      refine r_start ?_
      refine p 1 ?_
      refine rend ?_
      refine c_seq ?_
      refine c_no q4 ?_
      refine cx ?_
      replace h := H.done h
      exact hj1 () _ _ h (by kernel_rfl) (by kernel_rfl)
  intro x u h
  refine c_seq ?_
  refine r_start ?_
  refine p 4 ?_
  refine rend ?_
  replace h := H.done h
  subst h
  exact ret func83 rfl (vs := [.bool (decide ((List.length a0 : Int) ≤ 20))]) (.tmp (by kernel_rfl) .nil) rfl (fun W S => ⟨rfl, S.below⟩)
theorem C.s_l1Cur_signList {fu : Nat} {a0 : List Int} {A0 : Option Addr} {k0 g0 : Nat} {t0 s0 : Int} {r : ((List Sign) × Int × Int)} (w : World) (h : X.s_l1Cur_signList fu a0 t0 s0 = some r) (m0 : w.heap[g0]? = some (.cells ([.slice A0 (List.length a0) k0, .int .i64 t0, .int .u64 s0] : List Value).toArray 94 (0, 0))) (h0 : RdT (eI .u8) w (.slice A0 (List.length a0) k0) a0) (q0 : 0 < List.length a0 → ∀ k, (Value.slice A0 (List.length a0) k0).ownBlock = some k → ¬ k = g0) : Calls prog 77 #[.pointer (some ⟨g0, 0, none⟩)] w (RetQR nSign 38 g0 94 [.slice A0 (List.length a0) k0, .int .i64 r.2.1, .int .u64 r.2.2] w r.1 (fun v => v)) := by
  refine callsQ (args := [.pointer (some ⟨g0, 0, none⟩)]) m0 func77 rfl ?_
  replace h : H (X.s_l1Cur_signList fu a0 t0 s0) (fun o => o = r) := H.mk h
  unfold X.s_l1Cur_signList at h
  refine c_seq ?_
  refine r_start ?_
  refine p 1 ?_
  refine rend ?_
  refine c_seq ?_
  refine r_start ?_
  refine p 1 ?_
  refine rend ?_
  refine c_seq ?_
  refine r_start ?_
  refine p 1 ?_
  obtain ⟨v2_1, hv2_1, h⟩ := H.call h
  refine xx rfl (e_cq (cs' := [.slice A0 (List.length a0) k0, .int .i64 v2_1.2.1, .int .u64 v2_1.2.2]) (v := .int .i64 v2_1.1) 0 [.pointer (some ⟨g0, 0, none⟩), .int .i64 6] func79 (fun W S => C.s_l1Cur_pick W hv2_1 (S.bx 0) ((s_argN h0 q0).out W S) q0) ?_)
  refine p 1 ?_
  refine rend ?_
  refine c_seq ?_
  refine c_seq ?_
  refine r_start ?_
  refine p 1 ?_
  obtain ⟨v3_1, hv3_1, h⟩ := H.call h
  refine xx rfl (e_cq (cs' := [.slice A0 (List.length a0) k0, .int .i64 v3_1.2.1, .int .u64 v3_1.2.2]) (v := .bool v3_1.1) 0 [.pointer (some ⟨g0, 0, none⟩), .int .i64 12] func78 (fun W S => C.s_l1Cur_one W hv3_1 (S.bx 0) ((s_argN h0 q0).out W S) q0) ?_)
  refine rend ?_
  refine c_or v3_1.1 (fun q1 => ?_) (fun q1 => ?_)
  · replace h := H.t q1 h
    refine r_start ?_
    refine p 1 ?_
    obtain ⟨v4_1, hv4_1, h⟩ := H.call h
    refine xx rfl (e_cq (cs' := [.slice A0 (List.length a0) k0, .int .i64 v4_1.2.1, .int .u64 v4_1.2.2]) (v := .int .i64 v4_1.1) 0 [.pointer (some ⟨g0, 0, none⟩), .int .i64 2] func79 (fun W S => C.s_l1Cur_pick W hv4_1 (S.bx 0) ((s_argN h0 q0).out W S) q0) ?_)
    refine p 2 ?_
    refine rend ?_
    refine c_seq ?_
    refine c_block ?_
    refine c_nil nSign 38 ?_
    refine joinH (X := (Int × Int × (List Sign) × Option Addr × Nat)) 0 (H.bnd h) (fun ⟨n7, n8, l9, A10, k11⟩ => (n7, n8, l9)) (fun ⟨n7, n8, l9, A10, k11⟩ => [box g0 94 [.slice A0 (List.length a0) k0, .int .i64 n7, .int .u64 n8], rowT nSign w.heap.size 38 (.slice A10 (List.length l9) k11) l9]) (fun ⟨n7, n8, l9, A10, k11⟩ u => (.pointer (some ⟨g0, 0, none⟩) :: (jk u 1 2 (.slice A10 (List.length l9) k11 :: .int .i64 (wr (20 + v4_1.1)) :: (jk u 5 68 []))))) (fun h hj12 => ?_) ?_
    · skip
      refine loopR (X := (Int × Int × (List Sign) × Option Addr × Nat)) (fun ⟨n2, n3, l4, A5, k6⟩ => (n2, n3, l4)) (fun ⟨n2, n3, l4, A5, k6⟩ => [box g0 94 [.slice A0 (List.length a0) k0, .int .i64 n2, .int .u64 n3], rowT nSign w.heap.size 38 (.slice A5 (List.length l4) k6) l4]) (fun ⟨n2, n3, l4, A5, k6⟩ u => (.pointer (some ⟨g0, 0, none⟩) :: (jk u 1 2 (.slice A5 (List.length l4) k6 :: .int .i64 (wr (20 + v4_1.1)) :: (jk u 5 68 []))))) (v4_1.2.1, v4_1.2.2, ([] : List Sign), none, 0) h (by kernel_rfl) (by kernel_rfl) ?_
      intro x u h
      obtain ⟨n2, n3, l4, A5, k6⟩ := x
      refine c_seq ?_
      refine c_seq ?_
      refine r_start ?_
      refine p 4 ?_
      refine rend ?_
      refine c_or (decide ((List.length l4 : Int) < (wr (20 + v4_1.1)))) (fun q13 => ?_) (fun q13 => ?_)
      · replace h := H.t q13 h
        refine c_skip ?_
        refine c_block ?_
        refine c_seq ?_
        refine r_start ?_
        refine p 2 ?_
        obtain ⟨v6_2, hv6_2, h⟩ := H.call h
        refine xx rfl (e_cq (cs' := [.slice A0 (List.length a0) k0, .int .i64 v6_2.2.1, .int .u64 v6_2.2.2]) (v := .agg (eSign v6_2.1).toArray) 0 [.pointer (some ⟨g0, 0, none⟩)] func138 (fun W S => C.s_l1Cur_sign W hv6_2 (S.bx 0) ((s_argN h0 q0).out W S) q0) ?_)
        refine xx rfl (e_lit (e := nSign) (el := 38) [.agg (eSign v6_2.1).toArray] ([v6_2.1] : List Sign) fun A6_3 k6_3 => ?_)
        obtain ⟨y6_4, hy6_4, h⟩ := H.call h
        refine xx rfl (e_app 1 hy6_4 (s_own 2) fun A6_4 k6_4 => ?_)
        refine p 1 ?_
        refine rend ?_
        refine c_seq ?_
        refine r_start ?_
        refine p 3 ?_
        refine rend ?_
        refine c_seq ?_
        refine r_start ?_
        refine p 3 ?_
        refine br (decide ((List.length y6_4 : Int) > 1)) (fun q14 => ?_) (fun q14 => ?_)
        · replace h := H.t q14 h
          refine o_set 26 (congrArg Value.bool q14) ?_
          refine p 1 ?_
          obtain ⟨v8_4, hv8_4, h⟩ := H.call h
          refine xx rfl (e_cq (cs' := [.slice A0 (List.length a0) k0, .int .i64 v8_4.2.1, .int .u64 v8_4.2.2]) (v := .bool v8_4.1) 0 [.pointer (some ⟨g0, 0, none⟩), .int .i64 3] func78 (fun W S => C.s_l1Cur_one W hv8_4 (S.bx 0) ((s_argN h0 q0).out W S) q0) ?_)
          refine p 1 ?_
          refine rend ?_
          refine c_or v8_4.1 (fun q15 => ?_) (fun q15 => ?_)
          · replace h := H.t q15 h
            refine c_seq ?_
            refine r_start ?_
            refine p 6 ?_
            obtain ⟨y9_6, hy9_6, h⟩ := H.call h
            refine xq rfl (y_idx (e := nSign) (el := 38) hy9_6 (s_own 1)) ?_
            refine p 2 ?_
            refine xq rfl (y_el (e := nSign) 11 (.agg (eMove y9_6.Main.Move).toArray) hy9_6 (s_own 1)) ?_
            obtain ⟨y9_10, hy9_10, h⟩ := H.call h
            refine xq rfl (y_idx (e := nSign) (el := 38) hy9_10 (s_own 1)) ?_
            refine p 2 ?_
            refine xx rfl (e_stel (e := nSign) (b := { y9_10 with Main := { y9_10.Main with Move := y9_6.Main.Move } }) 1 11 (eMove y9_6.Main.Move) hy9_10 (by kernel_rfl) ?_)
            refine o_set 3 (sl_set (A := A6_4) (c := k6_4) (l := y6_4) (n := Int.toNat (wr ((List.length y6_4 : Int) - 1))) (b := { y9_10 with Main := { y9_10.Main with Move := y9_6.Main.Move } })) ?_
            refine rend ?_
            refine c_seq ?_
            refine r_start ?_
            refine p 3 ?_
            obtain ⟨y10_3, hy10_3, h⟩ := H.call h
            refine xq rfl (y_idx (e := nSign) (el := 38) hy10_3 (s_own 1)) ?_
            refine xq rfl (y_el (e := nSign) 0 (.agg (eSign y10_3).toArray) hy10_3 (s_own 1)) ?_
            obtain ⟨v10_5, hv10_5, h⟩ := H.call h
            refine xq rfl (y_call [.agg (eSign y10_3).toArray] (.bool v10_5) func75 (fun W S => C.s_siGood W hv10_5)) ?_
            refine p 1 ?_
            refine rend ?_
            refine c_or (!v10_5) (fun q16 => ?_) (fun q16 => ?_)
            · replace h := H.t q16 h
              refine r_start ?_
              refine p 6 ?_
              obtain ⟨y11_6, hy11_6, h⟩ := H.call h
              refine xq rfl (y_idx (e := nSign) (el := 38) hy11_6 (s_own 1)) ?_
              refine xq rfl (y_el (e := nSign) 0 (.agg (eSign y11_6).toArray) hy11_6 (s_own 1)) ?_
              refine xq rfl (y_idx (e := nSign) (el := 38) hy10_3 (s_own 1)) ?_
              refine xx rfl (e_stel (e := nSign) (b := y11_6) 1 0 (eSign y11_6) hy10_3 (by kernel_rfl) ?_)
              refine o_set 3 (sl_set (A := A6_4) (c := k6_4) (l := (List.set y6_4 (Int.toNat (wr ((List.length y6_4 : Int) - 1))) ({ y9_10 with Main := { y9_10.Main with Move := y9_6.Main.Move } }))) (n := Int.toNat (wr ((List.length y6_4 : Int) - 1))) (b := y11_6)) ?_
              refine rend ?_
              refine frg (fun u => (.pointer (some ⟨g0, 0, none⟩) :: (jk u 1 2 (.slice A6_4 (List.length (List.set (List.set y6_4 (Int.toNat (wr ((List.length y6_4 : Int) - 1))) ({ y9_10 with Main := { y9_10.Main with Move := y9_6.Main.Move } })) (Int.toNat (wr ((List.length y6_4 : Int) - 1))) y11_6)) k6_4 :: .int .i64 (wr (20 + v4_1.1)) :: (jk u 5 68 []))))) (by kernel_rfl) fun u => ?_
              refine keep 3 (its' := [box g0 94 [.slice A0 (List.length a0) k0, .int .i64 v8_4.2.1, .int .u64 v8_4.2.2], rowT nSign w.heap.size 38 (.slice A6_4 (List.length (List.set (List.set y6_4 (Int.toNat (wr ((List.length y6_4 : Int) - 1))) ({ y9_10 with Main := { y9_10.Main with Move := y9_6.Main.Move } })) (Int.toNat (wr ((List.length y6_4 : Int) - 1))) y11_6)) k6_4) (List.set (List.set y6_4 (Int.toNat (wr ((List.length y6_4 : Int) - 1))) ({ y9_10 with Main := { y9_10.Main with Move := y9_6.Main.Move } })) (Int.toNat (wr ((List.length y6_4 : Int) - 1))) y11_6), rowT nSign w.heap.size 38 (.slice A6_3 (List.length ([v6_2.1] : List Sign)) k6_3) ([v6_2.1] : List Sign)]) (by kernel_rfl) ?_
              refine c_inb ?_
              replace h := H.inl h
              exact h (v8_4.2.1, v8_4.2.2, (List.set (List.set y6_4 (Int.toNat (wr ((List.length y6_4 : Int) - 1))) ({ y9_10 with Main := { y9_10.Main with Move := y9_6.Main.Move } })) (Int.toNat (wr ((List.length y6_4 : Int) - 1))) y11_6), A6_4, k6_4) _ _ rfl (by kernel_rfl) (by kernel_rfl)
            replace h := H.f q16 h
            refine c_skip ?_
            refine c_inb ?_
            replace h := H.inl h
            exact h (v8_4.2.1, v8_4.2.2, (List.set y6_4 (Int.toNat (wr ((List.length y6_4 : Int) - 1))) ({ y9_10 with Main := { y9_10.Main with Move := y9_6.Main.Move } })), A6_4, k6_4) _ _ rfl (by kernel_rfl) (by kernel_rfl)
          replace h := H.f q15 h
          refine c_skip ?_
          refine c_inb ?_
          replace h := H.inl h
          exact h (v8_4.2.1, v8_4.2.2, y6_4, A6_4, k6_4) _ _ rfl (by kernel_rfl) (by kernel_rfl)
        replace h := H.f q14 h
        refine o_set 26 (congrArg Value.bool q14) ?_
        refine p 3 ?_
        refine rend ?_
        refine c_f (by kernel_rfl) ?_
        refine c_skip ?_
        refine c_inb ?_
        replace h := H.inl h
        exact h (v6_2.2.1, v6_2.2.2, y6_4, A6_4, k6_4) _ _ rfl (by kernel_rfl) (by kernel_rfl)
      replace h := H.f q13 h
      refine cx ?_
      replace h := H.inr h
      exact hj12 (n2, n3, l4, A5, k6) _ _ h (by kernel_rfl) (by kernel_rfl)
    intro x u h
    obtain ⟨n7, n8, l9, A10, k11⟩ := x
    refine c_seq ?_
    refine c_seq ?_
    refine r_start ?_
    refine p 3 ?_
    refine br (decide ((wr (20 + v4_1.1)) > 0)) (fun q17 => ?_) (fun q17 => ?_)
    · replace h := H.t q17 h
      refine o_set 61 (congrArg Value.bool q17) ?_
      refine p 1 ?_
      obtain ⟨v12_4, hv12_4, h⟩ := H.call h
      refine xx rfl (e_cq (cs' := [.slice A0 (List.length a0) k0, .int .i64 v12_4.2.1, .int .u64 v12_4.2.2]) (v := .bool v12_4.1) 0 [.pointer (some ⟨g0, 0, none⟩), .int .i64 20] func78 (fun W S => C.s_l1Cur_one W hv12_4 (S.bx 0) ((s_argN h0 q0).out W S) q0) ?_)
      refine p 1 ?_
      refine rend ?_
      refine c_or v12_4.1 (fun q18 => ?_) (fun q18 => ?_)
      · replace h := H.t q18 h
        refine r_start ?_
        refine p 3 ?_
        obtain ⟨v13_3, hv13_3, h⟩ := H.call h
        refine xx rfl (e_cq (cs' := [.slice A0 (List.length a0) k0, .int .i64 v13_3.2.1, .int .u64 v13_3.2.2]) (v := .int .i64 v13_3.1) 0 [.pointer (some ⟨g0, 0, none⟩), .int .i64 (wr (20 + v4_1.1))] func79 (fun W S => C.s_l1Cur_pick W hv13_3 (S.bx 0) ((s_argN h0 q0).out W S) q0) ?_)
        refine p 1 ?_
        obtain ⟨v13_5, hv13_5, h⟩ := H.call h
        refine xx rfl (e_cq (cs' := [.slice A0 (List.length a0) k0, .int .i64 v13_5.2.1, .int .u64 v13_5.2.2]) (v := .agg (eSign v13_5.1).toArray) 0 [.pointer (some ⟨g0, 0, none⟩)] func73 (fun W S => C.s_l1Cur_anySign W hv13_5 (S.bx 0) ((s_argN h0 q0).out W S) q0) ?_)
        obtain ⟨y13_6, hy13_6, h⟩ := H.call h
        refine xq rfl (y_idx (e := nSign) (el := 38) hy13_6 (s_own 1)) ?_
        refine xx rfl (e_stel (e := nSign) (b := v13_5.1) 1 0 (eSign v13_5.1) hy13_6 (by kernel_rfl) ?_)
        refine o_set 3 (sl_set (A := A10) (c := k11) (l := l9) (n := Int.toNat v13_3.1) (b := v13_5.1)) ?_
        refine rend ?_
        refine c_seq ?_
        refine r_start ?_
        refine p 2 ?_
        refine rend ?_
        replace h := H.done h
        subst h
        exact ret func77 rfl (vs := [.slice A10 (List.length (List.set l9 (Int.toNat v13_3.1) v13_5.1)) k11]) (.tmp (by kernel_rfl) .nil) rfl (fun W S => S.retQR (res := fun v => v) 1 (by decide))
      replace h := H.f q18 h
      refine c_skip ?_
      refine c_seq ?_
      refine r_start ?_
      refine p 2 ?_
      refine rend ?_
      replace h := H.done h
      subst h
      exact ret func77 rfl (vs := [.slice A10 (List.length l9) k11]) (.tmp (by kernel_rfl) .nil) rfl (fun W S => S.retQR (res := fun v => v) 1 (by decide))
    replace h := H.f q17 h
    refine o_set 61 (congrArg Value.bool q17) ?_
    refine p 3 ?_
    refine rend ?_
    refine c_f (by kernel_rfl) ?_
    refine c_skip ?_
    refine c_seq ?_
    refine r_start ?_
    refine p 2 ?_
    refine rend ?_
    replace h := H.done h
    subst h
    exact ret func77 rfl (vs := [.slice A10 (List.length l9) k11]) (.tmp (by kernel_rfl) .nil) rfl (fun W S => S.retQR (res := fun v => v) 1 (by decide))
  replace h := H.f q1 h
  refine c_skip ?_
  refine c_seq ?_
  refine c_block ?_
  refine c_nil nSign 38 ?_
  refine joinH (X := (Int × Int × (List Sign) × Option Addr × Nat)) 0 (H.bnd h) (fun ⟨n24, n25, l26, A27, k28⟩ => (n24, n25, l26)) (fun ⟨n24, n25, l26, A27, k28⟩ => [box g0 94 [.slice A0 (List.length a0) k0, .int .i64 n24, .int .u64 n25], rowT nSign w.heap.size 38 (.slice A27 (List.length l26) k28) l26]) (fun ⟨n24, n25, l26, A27, k28⟩ u => (.pointer (some ⟨g0, 0, none⟩) :: (jk u 1 2 (.slice A27 (List.length l26) k28 :: .int .i64 v2_1.1 :: (jk u 5 68 []))))) (fun h hj29 => ?_) ?_
  · skip
    refine loopR (X := (Int × Int × (List Sign) × Option Addr × Nat)) (fun ⟨n19, n20, l21, A22, k23⟩ => (n19, n20, l21)) (fun ⟨n19, n20, l21, A22, k23⟩ => [box g0 94 [.slice A0 (List.length a0) k0, .int .i64 n19, .int .u64 n20], rowT nSign w.heap.size 38 (.slice A22 (List.length l21) k23) l21]) (fun ⟨n19, n20, l21, A22, k23⟩ u => (.pointer (some ⟨g0, 0, none⟩) :: (jk u 1 2 (.slice A22 (List.length l21) k23 :: .int .i64 v2_1.1 :: (jk u 5 68 []))))) (v3_1.2.1, v3_1.2.2, ([] : List Sign), none, 0) h (by kernel_rfl) (by kernel_rfl) ?_
    intro x u h
    obtain ⟨n19, n20, l21, A22, k23⟩ := x
    refine c_seq ?_
    refine c_seq ?_
    refine r_start ?_
    refine p 4 ?_
    refine rend ?_
    refine c_or (decide ((List.length l21 : Int) < v2_1.1)) (fun q30 => ?_) (fun q30 => ?_)
    · replace h := H.t q30 h
      refine c_skip ?_
      refine c_block ?_
      refine c_seq ?_
      refine r_start ?_
      refine p 2 ?_
      obtain ⟨v6_2, hv6_2, h⟩ := H.call h
      refine xx rfl (e_cq (cs' := [.slice A0 (List.length a0) k0, .int .i64 v6_2.2.1, .int .u64 v6_2.2.2]) (v := .agg (eSign v6_2.1).toArray) 0 [.pointer (some ⟨g0, 0, none⟩)] func138 (fun W S => C.s_l1Cur_sign W hv6_2 (S.bx 0) ((s_argN h0 q0).out W S) q0) ?_)
      refine xx rfl (e_lit (e := nSign) (el := 38) [.agg (eSign v6_2.1).toArray] ([v6_2.1] : List Sign) fun A6_3 k6_3 => ?_)
      obtain ⟨y6_4, hy6_4, h⟩ := H.call h
      refine xx rfl (e_app 1 hy6_4 (s_own 2) fun A6_4 k6_4 => ?_)
      refine p 1 ?_
      refine rend ?_
      refine c_seq ?_
      refine r_start ?_
      refine p 3 ?_
      refine rend ?_
      refine c_seq ?_
      refine r_start ?_
      refine p 3 ?_
      refine br (decide ((List.length y6_4 : Int) > 1)) (fun q31 => ?_) (fun q31 => ?_)
      · replace h := H.t q31 h
        refine o_set 26 (congrArg Value.bool q31) ?_
        refine p 1 ?_
        obtain ⟨v8_4, hv8_4, h⟩ := H.call h
        refine xx rfl (e_cq (cs' := [.slice A0 (List.length a0) k0, .int .i64 v8_4.2.1, .int .u64 v8_4.2.2]) (v := .bool v8_4.1) 0 [.pointer (some ⟨g0, 0, none⟩), .int .i64 3] func78 (fun W S => C.s_l1Cur_one W hv8_4 (S.bx 0) ((s_argN h0 q0).out W S) q0) ?_)
        refine p 1 ?_
        refine rend ?_
        refine c_or v8_4.1 (fun q32 => ?_) (fun q32 => ?_)
        · replace h := H.t q32 h
          refine c_seq ?_
          refine r_start ?_
          refine p 6 ?_
          obtain ⟨y9_6, hy9_6, h⟩ := H.call h
          refine xq rfl (y_idx (e := nSign) (el := 38) hy9_6 (s_own 1)) ?_
          refine p 2 ?_
          refine xq rfl (y_el (e := nSign) 11 (.agg (eMove y9_6.Main.Move).toArray) hy9_6 (s_own 1)) ?_
          obtain ⟨y9_10, hy9_10, h⟩ := H.call h
          refine xq rfl (y_idx (e := nSign) (el := 38) hy9_10 (s_own 1)) ?_
          refine p 2 ?_
          refine xx rfl (e_stel (e := nSign) (b := { y9_10 with Main := { y9_10.Main with Move := y9_6.Main.Move } }) 1 11 (eMove y9_6.Main.Move) hy9_10 (by kernel_rfl) ?_)
          refine o_set 3 (sl_set (A := A6_4) (c := k6_4) (l := y6_4) (n := Int.toNat (wr ((List.length y6_4 : Int) - 1))) (b := { y9_10 with Main := { y9_10.Main with Move := y9_6.Main.Move } })) ?_
          refine rend ?_
          refine c_seq ?_
          refine r_start ?_
          refine p 3 ?_
          obtain ⟨y10_3, hy10_3, h⟩ := H.call h
          refine xq rfl (y_idx (e := nSign) (el := 38) hy10_3 (s_own 1)) ?_
          refine xq rfl (y_el (e := nSign) 0 (.agg (eSign y10_3).toArray) hy10_3 (s_own 1)) ?_
          obtain ⟨v10_5, hv10_5, h⟩ := H.call h
          refine xq rfl (y_call [.agg (eSign y10_3).toArray] (.bool v10_5) func75 (fun W S => C.s_siGood W hv10_5)) ?_
          refine p 1 ?_
          refine rend ?_
          refine c_or (!v10_5) (fun q33 => ?_) (fun q33 => ?_)
          · replace h := H.t q33 h
            refine r_start ?_
            refine p 6 ?_
            obtain ⟨y11_6, hy11_6, h⟩ := H.call h
            refine xq rfl (y_idx (e := nSign) (el := 38) hy11_6 (s_own 1)) ?_
            refine xq rfl (y_el (e := nSign) 0 (.agg (eSign y11_6).toArray) hy11_6 (s_own 1)) ?_
            refine xq rfl (y_idx (e := nSign) (el := 38) hy10_3 (s_own 1)) ?_
            refine xx rfl (e_stel (e := nSign) (b := y11_6) 1 0 (eSign y11_6) hy10_3 (by kernel_rfl) ?_)
            refine o_set 3 (sl_set (A := A6_4) (c := k6_4) (l := (List.set y6_4 (Int.toNat (wr ((List.length y6_4 : Int) - 1))) ({ y9_10 with Main := { y9_10.Main with Move := y9_6.Main.Move } }))) (n := Int.toNat (wr ((List.length y6_4 : Int) - 1))) (b := y11_6)) ?_
            refine rend ?_
            refine c_inb ?_
            replace h := H.inl h
            exact h (v8_4.2.1, v8_4.2.2, (List.set (List.set y6_4 (Int.toNat (wr ((List.length y6_4 : Int) - 1))) ({ y9_10 with Main := { y9_10.Main with Move := y9_6.Main.Move } })) (Int.toNat (wr ((List.length y6_4 : Int) - 1))) y11_6), A6_4, k6_4) _ _ rfl (by kernel_rfl) (by kernel_rfl)
          replace h := H.f q33 h
          refine c_skip ?_
          refine c_inb ?_
          replace h := H.inl h
          exact h (v8_4.2.1, v8_4.2.2, (List.set y6_4 (Int.toNat (wr ((List.length y6_4 : Int) - 1))) ({ y9_10 with Main := { y9_10.Main with Move := y9_6.Main.Move } })), A6_4, k6_4) _ _ rfl (by kernel_rfl) (by kernel_rfl)
        replace h := H.f q32 h
        refine c_skip ?_
        refine c_inb ?_
        replace h := H.inl h
        exact h (v8_4.2.1, v8_4.2.2, y6_4, A6_4, k6_4) _ _ rfl (by kernel_rfl) (by kernel_rfl)
      replace h := H.f q31 h
      refine o_set 26 (congrArg Value.bool q31) ?_
      refine p 3 ?_
      refine rend ?_
      refine c_f (by kernel_rfl) ?_
      refine c_skip ?_
      refine c_inb ?_
      replace h := H.inl h
      exact h (v6_2.2.1, v6_2.2.2, y6_4, A6_4, k6_4) _ _ rfl (by kernel_rfl) (by kernel_rfl)
    replace h := H.f q30 h
    refine cx ?_
    replace h := H.inr h
    exact hj29 (n19, n20, l21, A22, k23) _ _ h (by kernel_rfl) (by kernel_rfl)
  intro x u h
  obtain ⟨n24, n25, l26, A27, k28⟩ := x
  refine c_seq ?_
  refine c_seq ?_
  refine r_start ?_
  refine p 3 ?_
  refine br (decide (v2_1.1 > 0)) (fun q34 => ?_) (fun q34 => ?_)
  · replace h := H.t q34 h
    refine o_set 61 (congrArg Value.bool q34) ?_
    refine p 1 ?_
    obtain ⟨v12_4, hv12_4, h⟩ := H.call h
    refine xx rfl (e_cq (cs' := [.slice A0 (List.length a0) k0, .int .i64 v12_4.2.1, .int .u64 v12_4.2.2]) (v := .bool v12_4.1) 0 [.pointer (some ⟨g0, 0, none⟩), .int .i64 20] func78 (fun W S => C.s_l1Cur_one W hv12_4 (S.bx 0) ((s_argN h0 q0).out W S) q0) ?_)
    refine p 1 ?_
    refine rend ?_
    refine c_or v12_4.1 (fun q35 => ?_) (fun q35 => ?_)
    · replace h := H.t q35 h
      refine r_start ?_
      refine p 3 ?_
      obtain ⟨v13_3, hv13_3, h⟩ := H.call h
      refine xx rfl (e_cq (cs' := [.slice A0 (List.length a0) k0, .int .i64 v13_3.2.1, .int .u64 v13_3.2.2]) (v := .int .i64 v13_3.1) 0 [.pointer (some ⟨g0, 0, none⟩), .int .i64 v2_1.1] func79 (fun W S => C.s_l1Cur_pick W hv13_3 (S.bx 0) ((s_argN h0 q0).out W S) q0) ?_)
      refine p 1 ?_
      obtain ⟨v13_5, hv13_5, h⟩ := H.call h
      refine xx rfl (e_cq (cs' := [.slice A0 (List.length a0) k0, .int .i64 v13_5.2.1, .int .u64 v13_5.2.2]) (v := .agg (eSign v13_5.1).toArray) 0 [.pointer (some ⟨g0, 0, none⟩)] func73 (fun W S => C.s_l1Cur_anySign W hv13_5 (S.bx 0) ((s_argN h0 q0).out W S) q0) ?_)
      obtain ⟨y13_6, hy13_6, h⟩ := H.call h
      refine xq rfl (y_idx (e := nSign) (el := 38) hy13_6 (s_own 1)) ?_
      refine xx rfl (e_stel (e := nSign) (b := v13_5.1) 1 0 (eSign v13_5.1) hy13_6 (by kernel_rfl) ?_)
      refine o_set 3 (sl_set (A := A27) (c := k28) (l := l26) (n := Int.toNat v13_3.1) (b := v13_5.1)) ?_
      refine rend ?_
      refine c_seq ?_
      refine r_start ?_
      refine p 2 ?_
      refine rend ?_
      replace h := H.done h
      subst h
      exact ret func77 rfl (vs := [.slice A27 (List.length (List.set l26 (Int.toNat v13_3.1) v13_5.1)) k28]) (.tmp (by kernel_rfl) .nil) rfl (fun W S => S.retQR (res := fun v => v) 1 (by decide))
    replace h := H.f q35 h
    refine c_skip ?_
    refine c_seq ?_
    refine r_start ?_
    refine p 2 ?_
    refine rend ?_
    replace h := H.done h
    subst h
    exact ret func77 rfl (vs := [.slice A27 (List.length l26) k28]) (.tmp (by kernel_rfl) .nil) rfl (fun W S => S.retQR (res := fun v => v) 1 (by decide))
  replace h := H.f q34 h
  refine o_set 61 (congrArg Value.bool q34) ?_
  refine p 3 ?_
  refine rend ?_
  refine c_f (by kernel_rfl) ?_
  refine c_skip ?_
  refine c_seq ?_
  refine r_start ?_
  refine p 2 ?_
  refine rend ?_
  replace h := H.done h
  subst h
  exact ret func77 rfl (vs := [.slice A27 (List.length l26) k28]) (.tmp (by kernel_rfl) .nil) rfl (fun W S => S.retQR (res := fun v => v) 1 (by decide))
theorem C.l_qInts {a0 : (List Int)} {A0 : Option Addr} {k0 : Nat} {a1 : (List Int)} {A1 : Option Addr} {k1 : Nat} {r : Bool} (w : World) (h : X.l_qInts a0 a1 = some r) (h0 : RdT (eI .i64) w (.slice A0 (List.length a0) k0) a0) (h1 : RdT (eI .i64) w (.slice A1 (List.length a1) k1) a1) : Calls prog 20 #[.slice A0 (List.length a0) k0, .slice A1 (List.length a1) k1] w (Ret w (.bool r)) := by
  refine calls (M := no) (args := [.slice A0 (List.length a0) k0, .slice A1 (List.length a1) k1]) func20 rfl ?_
  replace h : H (X.l_qInts a0 a1) (fun o => o = r) := H.mk h
  unfold X.l_qInts at h
  refine c_seq ?_
  refine r_start ?_
  refine p 1 ?_
  refine rend ?_
  refine c_seq ?_
  refine c_seq ?_
  refine r_start ?_
  refine p 5 ?_
  refine rend ?_
  refine c_or ((List.length a0 : Int) != (List.length a1 : Int)) (fun q1 => ?_) (fun q1 => ?_)
  · replace h := H.t q1 h
    refine c_seq ?_
    refine r_start ?_
    refine p 1 ?_
    refine rend ?_
    replace h := H.done h
    subst h
    exact ret func20 rfl (vs := [.bool false]) (.tmp (by kernel_rfl) .nil) rfl (fun W S => ⟨rfl, S.below⟩)
  replace h := H.f q1 h
  refine c_skip ?_
  refine c_seq ?_
  refine c_seq ?_
  refine r_start ?_
  refine p 3 ?_
  refine rend ?_
  refine c_block ?_
  refine joinE (X := Unit) 0 (H.or h) (fun (x : Unit) => x) (fun _ => []) (fun _ u => (jk u 0 26 [])) (fun h hj2 => ?_) ?_
  · skip
    refine rangeR (X := Unit) (s_arg h0) (fun (x : Unit) => x) (fun _ => []) (fun (j3 : Nat) _ u => (.slice A0 (List.length a0) k0 :: .slice A1 (List.length a1) k1 :: (jk u 2 10 (.int .i64 (List.length a0 : Int) :: .int .i64 (j3 : Int) :: (jk u 14 12 []))))) () h (by kernel_rfl) (by kernel_rfl) ?_ ?_
    · intro j3 x u x4 q5 hg6 hw7 h
      refine c_seq ?_
      refine r_start ?_
      refine p 1 ?_
      refine rend ?_
      refine c_seq ?_
      refine c_yes q5 ?_
      refine c_skip ?_
      refine c_seq ?_
      refine c_block ?_
      refine c_seq ?_
      refine r_start ?_
      refine p 2 ?_
      refine rend ?_
      refine c_seq ?_
      refine as_start 9 9 ?_
      refine ap 0 2 ?_
      refine aq 2 rfl (y_idx (e := (eI .i64)) (el := 3) hg6 (s_arg h0)) ?_
      refine aq 3 rfl (y_el (e := (eI .i64)) 0 (.int .i64 x4) hg6 (s_arg h0)) ?_
      refine ap 4 2 ?_
      obtain ⟨y6_6, hy6_6, h⟩ := H.call h
      refine aq 6 rfl (y_idx (e := (eI .i64)) (el := 3) hy6_6 (s_arg h1)) ?_
      refine aq 7 rfl (y_el (e := (eI .i64)) 0 (.int .i64 y6_6) hy6_6 (s_arg h1)) ?_
      refine ap 8 1 ?_
      refine a_done ?_
      refine c_or (x4 != y6_6) (fun q8 => ?_) (fun q8 => ?_)
      · replace h := H.t q8 h
        refine c_seq ?_
        refine r_start ?_
        refine p 1 ?_
        refine rend ?_
        replace h := H.inr h
        replace h := H.done h
        subst h
        exact ret func20 rfl (vs := [.bool false]) (.tmp (by kernel_rfl) .nil) rfl (fun W S => ⟨rfl, S.below⟩)
      replace h := H.f q8 h
      refine c_skip ?_
      refine c_inb ?_
      refine r_start ?_
      refine p 2 ?_
      refine rend ?_
      refine c_set 13 (ci hw7) ?_
      replace h := H.inl h
      exact h () _ _ rfl (by kernel_rfl) (by kernel_rfl)
    · intro x u q5 h
      refine c_seq ?_
      refine r_start ?_
      refine p 1 ?_
      refine rend ?_
      refine c_seq ?_
      refine c_no q5 ?_
      refine cx ?_
      replace h := H.done h
      exact hj2 () _ _ h (by kernel_rfl) (by kernel_rfl)
  intro x u h
  refine c_seq ?_
  refine r_start ?_
  refine p 1 ?_
  refine rend ?_
  replace h := H.done h
  subst h
  exact ret func20 rfl (vs := [.bool true]) (.tmp (by kernel_rfl) .nil) rfl (fun W S => ⟨rfl, S.below⟩)
theorem C.i_Sign_steps {a0 : Sign} {r : Int} (w : World) (h : X.i_Sign_steps a0 = some r) : Calls prog 89 #[.agg (eSign a0).toArray] w (Ret w (.int .i64 r)) := by
  refine calls (M := no) (args := [.agg (eSign a0).toArray]) func89 rfl ?_
  replace h : H (X.i_Sign_steps a0) (fun o => o = r) := H.mk h
  unfold X.i_Sign_steps at h
  refine c_seq ?_
  refine r_start ?_
  refine xx rfl (x_box (eSign a0) fun g0_0 => ?_)
  refine p 1 ?_
  refine rend ?_
  refine c_seq ?_
  refine as_start 12 12 ?_
  refine ap 0 2 ?_
  refine aq 2 rfl (y_load (.agg (eMove a0.Main.Move).toArray) 0 g0_0 11) ?_
  obtain ⟨v1_3, hv1_3, h⟩ := H.call h
  refine aq 3 rfl (y_call [.agg (eMove a0.Main.Move).toArray] (.string (bs v1_3)) func161 (fun W S => C.i_Move_all W hv1_3)) ?_
  refine ap 4 3 ?_
  refine aq 7 rfl (y_load (.agg (eMove a0.Other.Move).toArray) 0 g0_0 25) ?_
  obtain ⟨v1_8, hv1_8, h⟩ := H.call h
  refine aq 8 rfl (y_call [.agg (eMove a0.Other.Move).toArray] (.string (bs v1_8)) func161 (fun W S => C.i_Move_all W hv1_8)) ?_
  refine ap 9 3 ?_
  refine a_done ?_
  replace h := H.done h
  subst h
  exact ret func89 rfl (vs := [.int .i64 (if (List.length v1_8 : Int) > (List.length v1_3 : Int) then (List.length v1_8 : Int) else (List.length v1_3 : Int))]) (.tmp (by kernel_rfl) .nil) rfl (fun W S => ⟨rfl, S.below⟩)
theorem C.s_l1Most {a0 : Int} {a1 : Int} {r : Int} (w : World) (h : X.s_l1Most a0 a1 = some r) : Calls prog 90 #[.int .i64 a0, .int .i64 a1] w (Ret w (.int .i64 r)) := by
  refine calls (M := no) (args := [.int .i64 a0, .int .i64 a1]) func90 rfl ?_
  replace h : H (X.s_l1Most a0 a1) (fun o => o = r) := H.mk h
  unfold X.s_l1Most at h
  refine c_seq ?_
  refine r_start ?_
  refine p 1 ?_
  refine rend ?_
  refine c_seq ?_
  refine c_seq ?_
  refine r_start ?_
  refine p 3 ?_
  refine rend ?_
  refine c_or (decide (a0 > a1)) (fun q1 => ?_) (fun q1 => ?_)
  · replace h := H.t q1 h
    refine c_seq ?_
    refine r_start ?_
    refine p 2 ?_
    refine rend ?_
    replace h := H.done h
    subst h
    exact ret func90 rfl (vs := [.int .i64 a0]) (.tmp (by kernel_rfl) .nil) rfl (fun W S => ⟨rfl, S.below⟩)
  replace h := H.f q1 h
  refine c_skip ?_
  refine c_seq ?_
  refine r_start ?_
  refine p 2 ?_
  refine rend ?_
  replace h := H.done h
  subst h
  exact ret func90 rfl (vs := [.int .i64 a1]) (.tmp (by kernel_rfl) .nil) rfl (fun W S => ⟨rfl, S.below⟩)
theorem C.s_ruSteps {fu : Nat} {a0 : Sign} {r : Int} (w : World) (h : X.s_ruSteps fu a0 = some r) : Calls prog 91 #[.agg (eSign a0).toArray] w (Ret w (.int .i64 r)) := by
  refine calls (M := no) (args := [.agg (eSign a0).toArray]) func91 rfl ?_
  replace h : H (X.s_ruSteps fu a0) (fun o => o = r) := H.mk h
  unfold X.s_ruSteps at h
  refine c_seq ?_
  refine r_start ?_
  refine xx rfl (x_box (eSign a0) fun g0_0 => ?_)
  refine p 1 ?_
  refine rend ?_
  refine c_seq ?_
  refine as_start 12 12 ?_
  refine ap 0 2 ?_
  refine aq 2 rfl (y_load (.agg (eMove a0.Main.Move).toArray) 0 g0_0 11) ?_
  obtain ⟨v1_3, hv1_3, h⟩ := H.call h
  refine aq 3 rfl (y_call [.agg (eMove a0.Main.Move).toArray] (.string (bs v1_3)) func135 (fun W S => C.s_mvAll W hv1_3)) ?_
  refine ap 4 3 ?_
  refine aq 7 rfl (y_load (.agg (eMove a0.Other.Move).toArray) 0 g0_0 25) ?_
  obtain ⟨v1_8, hv1_8, h⟩ := H.call h
  refine aq 8 rfl (y_call [.agg (eMove a0.Other.Move).toArray] (.string (bs v1_8)) func135 (fun W S => C.s_mvAll W hv1_8)) ?_
  refine ap 9 1 ?_
  obtain ⟨v1_10, hv1_10, h⟩ := H.call h
  refine aq 10 rfl (y_call [.int .i64 (List.length v1_3 : Int), .int .i64 (List.length v1_8 : Int)] (.int .i64 v1_10) func90 (fun W S => C.s_l1Most W hv1_10)) ?_
  refine ap 11 1 ?_
  refine a_done ?_
  replace h := H.done h
  subst h
  exact ret func91 rfl (vs := [.int .i64 v1_10]) (.tmp (by kernel_rfl) .nil) rfl (fun W S => ⟨rfl, S.below⟩)
theorem C.i_those_int {a0 : (List Int)} {A0 : Option Addr} {k0 : Nat} {a1 : (Int → Option Bool)} {g1 : Nat} {cp1 : List Value} {r : (List Int)} (w : World) (h : X.i_those_int a0 a1 = some r) (h0 : RdT (eI .i64) w (.slice A0 (List.length a0) k0) a0) (hg1 : isFn prog g1 = true) (hF1 : ∀ (x0 : Int) (r : Bool) (W : World), Up w W → a1 x0 = some r → Calls prog g1 (([.int .i64 x0] : List Value) ++ cp1).toArray W (Ret W (.bool r))) : Calls prog 163 #[.slice A0 (List.length a0) k0, .func (.func g1) #[] cp1.toArray] w (RetR (eI .i64) 3 w r (fun v => v)) := by
  refine calls (M := no) (args := [.slice A0 (List.length a0) k0, .func (.func g1) #[] cp1.toArray]) func163 rfl ?_
  replace h : H (X.i_those_int a0 a1) (fun o => o = r) := H.mk h
  unfold X.i_those_int at h
  refine c_seq ?_
  refine r_start ?_
  refine p 1 ?_
  refine rend ?_
  refine c_seq ?_
  refine r_start ?_
  refine p 1 ?_
  refine rend ?_
  refine c_seq ?_
  refine c_seq ?_
  refine r_start ?_
  refine p 3 ?_
  refine rend ?_
  refine c_block ?_
  refine c_nil (eI .i64) 3 ?_
  refine joinH (X := ((List Int) × Option Addr × Nat)) 0 (H.bnd h) (fun ⟨l4, A5, k6⟩ => l4) (fun ⟨l4, A5, k6⟩ => [rowT (eI .i64) w.heap.size 3 (.slice A5 (List.length l4) k6) l4]) (fun ⟨l4, A5, k6⟩ u => (jk u 0 5 (.slice A5 (List.length l4) k6 :: (jk u 6 18 [])))) (fun h hj7 => ?_) ?_
  · skip
    refine rangeR (X := ((List Int) × Option Addr × Nat)) (s_arg h0) (fun ⟨l1, A2, k3⟩ => l1) (fun ⟨l1, A2, k3⟩ => [rowT (eI .i64) w.heap.size 3 (.slice A2 (List.length l1) k3) l1]) (fun (j8 : Nat) ⟨l1, A2, k3⟩ u => (jk u 0 1 (.func (.func g1) #[] cp1.toArray :: (jk u 2 3 (.slice A2 (List.length l1) k3 :: (jk u 6 2 (.slice A0 (List.length a0) k0 :: .int .i64 (List.length a0 : Int) :: .int .i64 (j8 : Int) :: (jk u 11 13 [])))))))) (([] : List Int), none, 0) h (by kernel_rfl) (by kernel_rfl) ?_ ?_
    · intro j8 x u x9 q10 hg11 hw12 h
      obtain ⟨l1, A2, k3⟩ := x
      refine c_seq ?_
      refine r_start ?_
      refine p 1 ?_
      refine rend ?_
      refine c_seq ?_
      refine c_yes q10 ?_
      refine c_skip ?_
      refine c_seq ?_
      refine c_block ?_
      refine c_seq ?_
      refine r_start ?_
      refine p 1 ?_
      refine xq rfl (y_idx (e := (eI .i64)) (el := 3) hg11 (s_arg h0)) ?_
      refine xq rfl (y_el (e := (eI .i64)) 0 (.int .i64 x9) hg11 (s_arg h0)) ?_
      refine p 2 ?_
      refine rend ?_
      refine c_seq ?_
      refine r_start ?_
      refine p 2 ?_
      obtain ⟨v5_2, hv5_2, h⟩ := H.call h
      refine xq rfl (y_cf cp1 [.int .i64 x9] (.bool v5_2) hg1 (fun W S => hF1 _ _ W S.below hv5_2)) ?_
      refine rend ?_
      refine c_or v5_2 (fun q13 => ?_) (fun q13 => ?_)
      · replace h := H.t q13 h
        refine r_start ?_
        refine p 2 ?_
        refine xx rfl (e_lit (e := (eI .i64)) (el := 3) [.int .i64 (j8 : Int)] ([(j8 : Int)] : List Int) fun A6_2 k6_2 => ?_)
        obtain ⟨y6_3, hy6_3, h⟩ := H.call h
        refine xx rfl (e_app 0 hy6_3 (s_own 1) fun A6_3 k6_3 => ?_)
        refine p 1 ?_
        refine rend ?_
        refine c_inb ?_
        refine r_start ?_
        refine p 2 ?_
        refine rend ?_
        refine c_set 10 (ci hw12) ?_
        replace h := H.inl h
        exact h (y6_3, A6_3, k6_3) _ _ rfl (by kernel_rfl) (by kernel_rfl)
      replace h := H.f q13 h
      refine c_skip ?_
      refine c_inb ?_
      refine r_start ?_
      refine p 2 ?_
      refine rend ?_
      refine c_set 10 (ci hw12) ?_
      replace h := H.inl h
      exact h (l1, A2, k3) _ _ rfl (by kernel_rfl) (by kernel_rfl)
    · intro x u q10 h
      obtain ⟨l1, A2, k3⟩ := x
      refine c_seq ?_
      refine r_start ?_
      refine p 1 ?_
      refine rend ?_
      refine c_seq ?_
      refine c_no q10 ?_
      refine cx ?_
      replace h := H.done h
      exact hj7 (l1, A2, k3) _ _ h (by kernel_rfl) (by kernel_rfl)
  intro x u h
  obtain ⟨l4, A5, k6⟩ := x
  refine c_seq ?_
  refine r_start ?_
  refine p 2 ?_
  refine rend ?_
  replace h := H.done h
  subst h
  exact ret func163 rfl (vs := [.slice A5 (List.length l4) k6]) (.tmp (by kernel_rfl) .nil) rfl (fun W S => ⟨_, _, rfl, S.row 0, S.below⟩)
theorem C.i_Shape_open_1 {a0 : Int} {r : Bool} (w : World) (h : X.i_Shape_open_1 a0 = some r) : Calls prog 165 #[.int .i64 a0] w (Ret w (.bool r)) := by
  refine calls (M := no) (args := [.int .i64 a0]) func165 rfl ?_
  replace h : H (X.i_Shape_open_1 a0) (fun o => o = r) := H.mk h
  unfold X.i_Shape_open_1 at h
  refine c_seq ?_
  refine r_start ?_
  refine p 1 ?_
  refine rend ?_
  refine c_seq ?_
  refine r_start ?_
  refine p 3 ?_
  refine rend ?_
  replace h := H.done h
  subst h
  exact ret func165 rfl (vs := [.bool (a0 == 0)]) (.tmp (by kernel_rfl) .nil) rfl (fun W S => ⟨rfl, S.below⟩)
theorem C.i_Shape_open {a0 : Shape} {r : Int} (w : World) (h : X.i_Shape_open a0 = some r) : Calls prog 92 #[.agg (eShape a0).toArray] w (Ret w (.int .i64 r)) := by
  refine calls (M := no) (args := [.agg (eShape a0).toArray]) func92 rfl ?_
  replace h : H (X.i_Shape_open a0) (fun o => o = r) := H.mk h
  unfold X.i_Shape_open at h
  refine c_seq ?_
  refine r_start ?_
  refine xx rfl (x_box (eShape a0) fun g0_0 => ?_)
  refine p 1 ?_
  refine rend ?_
  refine c_seq ?_
  refine r_start ?_
  refine xq rfl (y_load (.agg (eShape a0).toArray) 0 g0_0 0) ?_
  obtain ⟨v1_1, hv1_1, h⟩ := H.call h
  refine xx rfl (e_cr [.agg (eShape a0).toArray] (fun v => v) func164 (fun W S => C.i_Shape_bends W hv1_1) fun A1_1 k1_1 => ?_)
  obtain ⟨v1_2, hv1_2, h⟩ := H.call h
  refine xx rfl (e_cr [.slice A1_1 (List.length v1_1) k1_1, .func (.func 165) #[] #[]] (fun v => v) func163 (fun W S => C.i_those_int W hv1_2 ((s_own 1).out W S) (isFn_of func165) (fun x0_2 r W2 hu2 hx2 => C.i_Shape_open_1 W2 hx2)) fun A1_2 k1_2 => ?_)
  refine p 2 ?_
  refine rend ?_
  replace h := H.done h
  subst h
  exact ret func92 rfl (vs := [.int .i64 (List.length v1_2 : Int)]) (.tmp (by kernel_rfl) .nil) rfl (fun W S => ⟨rfl, S.below⟩)
theorem C.s_ruOpen {a0 : Sign} {r : Int} (w : World) (h : X.s_ruOpen a0 = some r) : Calls prog 94 #[.agg (eSign a0).toArray] w (Ret w (.int .i64 r)) := by
  refine calls (M := no) (args := [.agg (eSign a0).toArray]) func94 rfl ?_
  replace h : H (X.s_ruOpen a0) (fun o => o = r) := H.mk h
  unfold X.s_ruOpen at h
  refine c_seq ?_
  refine r_start ?_
  refine xx rfl (x_box (eSign a0) fun g0_0 => ?_)
  refine p 1 ?_
  refine rend ?_
  refine c_seq ?_
  refine r_start ?_
  refine p 1 ?_
  refine rend ?_
  refine c_seq ?_
  refine c_seq ?_
  refine r_start ?_
  refine p 2 ?_
  refine xq rfl (y_load (.agg (eShape a0.Main.Shape).toArray) 0 g0_0 0) ?_
  obtain ⟨v2_3, hv2_3, h⟩ := H.call h
  refine xx rfl (e_cr [.agg (eShape a0.Main.Shape).toArray] (fun v => v) func166 (fun W S => C.s_shFingers W hv2_3) fun A2_3 k2_3 => ?_)
  refine p 2 ?_
  refine rend ?_
  refine c_block ?_
  refine joinH (X := Int) 0 (H.bnd h) (fun (x : Int) => x) (fun n2 => [box g0_0 38 (eSign a0), rowT (eI .i64) w.heap.size 3 (.slice A2_3 (List.length v2_3) k2_3) v2_3]) (fun n2 u => (jk u 0 3 (.int .i64 n2 :: (jk u 4 17 [])))) (fun h hj3 => ?_) ?_
  · skip
    refine rangeR (X := Int) (s_own 1) (fun (x : Int) => x) (fun n1 => [box g0_0 38 (eSign a0), rowT (eI .i64) w.heap.size 3 (.slice A2_3 (List.length v2_3) k2_3) v2_3]) (fun (j4 : Nat) n1 u => (jk u 0 3 (.int .i64 n1 :: (jk u 4 5 (.slice A2_3 (List.length v2_3) k2_3 :: .int .i64 (List.length v2_3 : Int) :: .int .i64 (j4 : Int) :: (jk u 12 9 [])))))) 0 h (by kernel_rfl) (by kernel_rfl) ?_ ?_
    · intro j4 n1 u x5 q6 hg7 hw8 h
      refine c_seq ?_
      refine r_start ?_
      refine p 1 ?_
      refine rend ?_
      refine c_seq ?_
      refine c_yes q6 ?_
      refine c_skip ?_
      refine c_seq ?_
      refine c_block ?_
      refine c_seq ?_
      refine r_start ?_
      refine xq rfl (y_idx (e := (eI .i64)) (el := 3) hg7 (s_own 1)) ?_
      refine xq rfl (y_el (e := (eI .i64)) 0 (.int .i64 x5) hg7 (s_own 1)) ?_
      refine p 1 ?_
      refine rend ?_
      refine c_seq ?_
      refine r_start ?_
      refine p 2 ?_
      refine rend ?_
      refine c_or (x5 == 0) (fun q9 => ?_) (fun q9 => ?_)
      · replace h := H.t q9 h
        refine r_start ?_
        refine p 3 ?_
        refine rend ?_
        refine c_inb ?_
        refine r_start ?_
        refine p 2 ?_
        refine rend ?_
        refine c_set 11 (ci hw8) ?_
        replace h := H.inl h
        exact h (wr (n1 + 1)) _ _ rfl (by kernel_rfl) (by kernel_rfl)
      replace h := H.f q9 h
      refine c_skip ?_
      refine c_inb ?_
      refine r_start ?_
      refine p 2 ?_
      refine rend ?_
      refine c_set 11 (ci hw8) ?_
      replace h := H.inl h
      exact h n1 _ _ rfl (by kernel_rfl) (by kernel_rfl)
    · intro n1 u q6 h
      refine c_seq ?_
      refine r_start ?_
      refine p 1 ?_
      refine rend ?_
      refine c_seq ?_
      refine c_no q6 ?_
      refine cx ?_
      replace h := H.done h
      exact hj3 n1 _ _ h (by kernel_rfl) (by kernel_rfl)
  intro n2 u h
  refine c_seq ?_
  refine r_start ?_
  refine p 2 ?_
  refine rend ?_
  replace h := H.done h
  subst h
  exact ret func94 rfl (vs := [.int .i64 n2]) (.tmp (by kernel_rfl) .nil) rfl (fun W S => ⟨rfl, S.below⟩)
theorem C.s_ruMost {a0 : Int} {r : Int} (w : World) (h : X.s_ruMost a0 = some r) : Calls prog 172 #[.int .i64 a0] w (Ret w (.int .i64 r)) := by
  refine calls (M := no) (args := [.int .i64 a0]) func172 rfl ?_
  replace h : H (X.s_ruMost a0) (fun o => o = r) := H.mk h
  unfold X.s_ruMost at h
  refine c_seq ?_
  refine r_start ?_
  refine p 1 ?_
  refine rend ?_
  refine c_seq ?_
  refine r_start ?_
  refine xx rfl (e_lit (e := (eI .i64)) (el := 3) [.int .i64 18, .int .i64 9, .int .i64 4, .int .i64 3, .int .i64 9] ([18, 9, 4, 3, 9] : List Int) fun A1_0 k1_0 => ?_)
  refine p 1 ?_
  obtain ⟨y1_2, hy1_2, h⟩ := H.call h
  refine xq rfl (y_idx (e := (eI .i64)) (el := 3) hy1_2 (s_own 0)) ?_
  refine xq rfl (y_el (e := (eI .i64)) 0 (.int .i64 y1_2) hy1_2 (s_own 0)) ?_
  refine p 1 ?_
  refine rend ?_
  replace h := H.done h
  subst h
  exact ret func172 rfl (vs := [.int .i64 y1_2]) (.tmp (by kernel_rfl) .nil) rfl (fun W S => ⟨rfl, S.below⟩)
theorem C.s_l1Cur_constraint {a0 : List Int} {A0 : Option Addr} {k0 g0 : Nat} {t0 s0 : Int} {r : (Constraint × Int × Int)} (w : World) (h : X.s_l1Cur_constraint a0 t0 s0 = some r) (m0 : w.heap[g0]? = some (.cells ([.slice A0 (List.length a0) k0, .int .i64 t0, .int .u64 s0] : List Value).toArray 94 (0, 0))) (h0 : RdT (eI .u8) w (.slice A0 (List.length a0) k0) a0) (q0 : 0 < List.length a0 → ∀ k, (Value.slice A0 (List.length a0) k0).ownBlock = some k → ¬ k = g0) : Calls prog 111 #[.pointer (some ⟨g0, 0, none⟩)] w (RetQ g0 94 [.slice A0 (List.length a0) k0, .int .i64 r.2.1, .int .u64 r.2.2] w (.agg (eConstraint r.1).toArray)) := by
  refine callsQ (args := [.pointer (some ⟨g0, 0, none⟩)]) m0 func111 rfl ?_
  replace h : H (X.s_l1Cur_constraint a0 t0 s0) (fun o => o = r) := H.mk h
  unfold X.s_l1Cur_constraint at h
  refine c_seq ?_
  refine r_start ?_
  refine xx rfl (x_new (eConstraint zConstraint) fun g0_0 => ?_)
  refine rend ?_
  refine c_seq ?_
  refine r_start ?_
  refine p 1 ?_
  obtain ⟨v1_1, hv1_1, h⟩ := H.call h
  refine xx rfl (e_cq (cs' := [.slice A0 (List.length a0) k0, .int .i64 v1_1.2.1, .int .u64 v1_1.2.2]) (v := .int .i64 v1_1.1) 0 [.pointer (some ⟨g0, 0, none⟩), .int .i64 5] func79 (fun W S => C.s_l1Cur_pick W hv1_1 (S.bx 0) ((s_argN h0 q0).out W S) q0) ?_)
  refine p 1 ?_
  refine rend ?_
  refine c_seq ?_
  refine r_start ?_
  refine p 3 ?_
  obtain ⟨v2_3, hv2_3, h⟩ := H.call h
  refine xq rfl (y_call [.int .i64 v1_1.1] (.int .i64 v2_3) func172 (fun W S => C.s_ruMost W hv2_3)) ?_
  refine p 1 ?_
  obtain ⟨v2_5, hv2_5, h⟩ := H.call h
  refine xx rfl (e_cq (cs' := [.slice A0 (List.length a0) k0, .int .i64 v2_5.2.1, .int .u64 v2_5.2.2]) (v := .int .i64 v2_5.1) 0 [.pointer (some ⟨g0, 0, none⟩), .int .i64 (wr (v2_3 + 1))] func79 (fun W S => C.s_l1Cur_pick W hv2_5 (S.bx 0) ((s_argN h0 q0).out W S) q0) ?_)
  refine p 1 ?_
  refine xx rfl (x_new (eConstraint zConstraint) fun g2_7 => ?_)
  refine xx rfl (x_sto 2 g2_7 0 (eConstraint (⟨v1_1.1, v2_5.1⟩ : Constraint)) ?_)
  refine rend ?_
  refine c_seq ?_
  refine c_seq ?_
  refine r_start ?_
  refine p 3 ?_
  refine br (v1_1.1 == 3) (fun q1 => ?_) (fun q1 => ?_)
  · replace h := H.t q1 h
    refine o_set 16 (congrArg Value.bool q1) ?_
    refine p 1 ?_
    refine xq rfl (y_load (.int .i64 v2_5.1) 2 g2_7 1) ?_
    refine p 2 ?_
    refine rend ?_
    refine c_or (decide (v2_5.1 < 0)) (fun q2 => ?_) (fun q2 => ?_)
    · replace h := H.t q2 h
      refine r_start ?_
      refine p 1 ?_
      refine xx rfl (x_sto 2 g2_7 1 (eConstraint (⟨v1_1.1, 0⟩ : Constraint)) ?_)
      refine rend ?_
      refine c_seq ?_
      refine c_seq ?_
      refine r_start ?_
      refine p 3 ?_
      refine br (v1_1.1 == 0) (fun q3 => ?_) (fun q3 => ?_)
      · replace h := H.t q3 h
        refine o_set 24 (congrArg Value.bool q3) ?_
        refine p 1 ?_
        obtain ⟨v5_4, hv5_4, h⟩ := H.call h
        refine xx rfl (e_cq (cs' := [.slice A0 (List.length a0) k0, .int .i64 v5_4.2.1, .int .u64 v5_4.2.2]) (v := .bool v5_4.1) 0 [.pointer (some ⟨g0, 0, none⟩), .int .i64 2] func78 (fun W S => C.s_l1Cur_one W hv5_4 (S.bx 0) ((s_argN h0 q0).out W S) q0) ?_)
        refine p 1 ?_
        refine rend ?_
        refine c_or v5_4.1 (fun q4 => ?_) (fun q4 => ?_)
        · replace h := H.t q4 h
          refine r_start ?_
          refine p 1 ?_
          obtain ⟨v6_1, hv6_1, h⟩ := H.call h
          refine xx rfl (e_cq (cs' := [.slice A0 (List.length a0) k0, .int .i64 v6_1.2.1, .int .u64 v6_1.2.2]) (v := .int .i64 v6_1.1) 0 [.pointer (some ⟨g0, 0, none⟩), .int .i64 5] func79 (fun W S => C.s_l1Cur_pick W hv6_1 (S.bx 0) ((s_argN h0 q0).out W S) q0) ?_)
          refine p 1 ?_
          refine xx rfl (x_sto 2 g2_7 1 (eConstraint (⟨v1_1.1, v6_1.1⟩ : Constraint)) ?_)
          refine rend ?_
          refine c_seq ?_
          refine c_seq ?_
          refine r_start ?_
          refine p 1 ?_
          obtain ⟨v7_1, hv7_1, h⟩ := H.call h
          refine xx rfl (e_cq (cs' := [.slice A0 (List.length a0) k0, .int .i64 v7_1.2.1, .int .u64 v7_1.2.2]) (v := .int .i64 v7_1.1) 0 [.pointer (some ⟨g0, 0, none⟩), .int .i64 40] func79 (fun W S => C.s_l1Cur_pick W hv7_1 (S.bx 0) ((s_argN h0 q0).out W S) q0) ?_)
          refine rend ?_
          refine c_block ?_
          refine c_seq ?_
          refine r_start ?_
          refine p 2 ?_
          refine rend ?_
          refine c_or (v7_1.1 == 0) (fun q5 => ?_) (fun q5 => ?_)
          · replace h := H.t q5 h
            refine r_start ?_
            refine p 1 ?_
            refine xx rfl (e_lit (e := (eI .i64)) (el := 3) [.int .i64 (-1), .int .i64 5] ([(-1), 5] : List Int) fun A9_1 k9_1 => ?_)
            obtain ⟨v9_2, hv9_2, h⟩ := H.call h
            refine xx rfl (e_cq (cs' := [.slice A0 (List.length a0) k0, .int .i64 v9_2.2.1, .int .u64 v9_2.2.2]) (v := .int .i64 v9_2.1) 0 [.pointer (some ⟨g0, 0, none⟩), .slice A9_1 (List.length ([(-1), 5] : List Int)) k9_1] func143 (fun W S => C.s_l1Cur_among W hv9_2 (S.bx 0) ((s_argN h0 q0).out W S) q0 ((s_own 3).out W S) (ap_row S 3 0 (by decide))) ?_)
            refine p 1 ?_
            refine xx rfl (x_sto 2 g2_7 0 (eConstraint (⟨v9_2.1, v6_1.1⟩ : Constraint)) ?_)
            refine rend ?_
            refine c_inb ?_
            refine c_seq ?_
            refine r_start ?_
            refine xq rfl (y_load (.agg (eConstraint (⟨v9_2.1, v6_1.1⟩ : Constraint)).toArray) 2 g2_7 0) ?_
            refine xx rfl (x_sto 1 g0_0 0 (eConstraint (⟨v9_2.1, v6_1.1⟩ : Constraint)) ?_)
            refine rend ?_
            replace h := H.done h
            subst h
            exact ret func111 rfl (vs := [.agg (eConstraint (⟨v9_2.1, v6_1.1⟩ : Constraint)).toArray]) (.cell 1 g0_0 rfl (by kernel_rfl) (by kernel_rfl) .nil) rfl (fun W S => S.retQ)
          replace h := H.f q5 h
          refine c_seq ?_
          refine r_start ?_
          refine p 2 ?_
          refine rend ?_
          refine c_or (v7_1.1 == 1) (fun q6 => ?_) (fun q6 => ?_)
          · replace h := H.t q6 h
            refine r_start ?_
            refine p 2 ?_
            obtain ⟨v11_2, hv11_2, h⟩ := H.call h
            refine xq rfl (y_call [.int .i64 v1_1.1] (.int .i64 v11_2) func172 (fun W S => C.s_ruMost W hv11_2)) ?_
            refine p 1 ?_
            refine xx rfl (e_lit (e := (eI .i64)) (el := 3) [.int .i64 (-1), .int .i64 (wr (v11_2 + 1)), .int .i64 (-9223372036854775808)] ([(-1), (wr (v11_2 + 1)), (-9223372036854775808)] : List Int) fun A11_4 k11_4 => ?_)
            obtain ⟨v11_5, hv11_5, h⟩ := H.call h
            refine xx rfl (e_cq (cs' := [.slice A0 (List.length a0) k0, .int .i64 v11_5.2.1, .int .u64 v11_5.2.2]) (v := .int .i64 v11_5.1) 0 [.pointer (some ⟨g0, 0, none⟩), .slice A11_4 (List.length ([(-1), (wr (v11_2 + 1)), (-9223372036854775808)] : List Int)) k11_4] func143 (fun W S => C.s_l1Cur_among W hv11_5 (S.bx 0) ((s_argN h0 q0).out W S) q0 ((s_own 3).out W S) (ap_row S 3 0 (by decide))) ?_)
            refine p 1 ?_
            refine xx rfl (x_sto 2 g2_7 1 (eConstraint (⟨v1_1.1, v11_5.1⟩ : Constraint)) ?_)
            refine rend ?_
            refine c_inb ?_
            refine c_seq ?_
            refine r_start ?_
            refine xq rfl (y_load (.agg (eConstraint (⟨v1_1.1, v11_5.1⟩ : Constraint)).toArray) 2 g2_7 0) ?_
            refine xx rfl (x_sto 1 g0_0 0 (eConstraint (⟨v1_1.1, v11_5.1⟩ : Constraint)) ?_)
            refine rend ?_
            refine frg (fun u => (jk u 0 2 (.pointer (some ⟨g0_0, 0, none⟩) :: (jk u 3 46 [])))) (by kernel_rfl) fun u => ?_
            refine keep 4 (its' := [box g0 94 [.slice A0 (List.length a0) k0, .int .i64 v11_5.2.1, .int .u64 v11_5.2.2], box g0_0 64 (eConstraint (⟨v1_1.1, v11_5.1⟩ : Constraint)), box g2_7 64 (eConstraint (⟨v1_1.1, v11_5.1⟩ : Constraint)), rowT (eI .i64) w.heap.size 3 (.slice A11_4 (List.length ([(-1), (wr (v11_2 + 1)), (-9223372036854775808)] : List Int)) k11_4) ([(-1), (wr (v11_2 + 1)), (-9223372036854775808)] : List Int)]) (by kernel_rfl) ?_
            replace h := H.done h
            subst h
            exact ret func111 rfl (vs := [.agg (eConstraint (⟨v1_1.1, v11_5.1⟩ : Constraint)).toArray]) (.cell 1 g0_0 rfl (by kernel_rfl) (by kernel_rfl) .nil) rfl (fun W S => S.retQ)
          replace h := H.f q6 h
          refine c_skip ?_
          refine c_inb ?_
          refine c_seq ?_
          refine r_start ?_
          refine xq rfl (y_load (.agg (eConstraint (⟨v1_1.1, v6_1.1⟩ : Constraint)).toArray) 2 g2_7 0) ?_
          refine xx rfl (x_sto 1 g0_0 0 (eConstraint (⟨v1_1.1, v6_1.1⟩ : Constraint)) ?_)
          refine rend ?_
          replace h := H.done h
          subst h
          exact ret func111 rfl (vs := [.agg (eConstraint (⟨v1_1.1, v6_1.1⟩ : Constraint)).toArray]) (.cell 1 g0_0 rfl (by kernel_rfl) (by kernel_rfl) .nil) rfl (fun W S => S.retQ)
        replace h := H.f q4 h
        refine c_skip ?_
        refine c_seq ?_
        refine c_seq ?_
        refine r_start ?_
        refine p 1 ?_
        obtain ⟨v7_1, hv7_1, h⟩ := H.call h
        refine xx rfl (e_cq (cs' := [.slice A0 (List.length a0) k0, .int .i64 v7_1.2.1, .int .u64 v7_1.2.2]) (v := .int .i64 v7_1.1) 0 [.pointer (some ⟨g0, 0, none⟩), .int .i64 40] func79 (fun W S => C.s_l1Cur_pick W hv7_1 (S.bx 0) ((s_argN h0 q0).out W S) q0) ?_)
        refine rend ?_
        refine c_block ?_
        refine c_seq ?_
        refine r_start ?_
        refine p 2 ?_
        refine rend ?_
        refine c_or (v7_1.1 == 0) (fun q7 => ?_) (fun q7 => ?_)
        · replace h := H.t q7 h
          refine r_start ?_
          refine p 1 ?_
          refine xx rfl (e_lit (e := (eI .i64)) (el := 3) [.int .i64 (-1), .int .i64 5] ([(-1), 5] : List Int) fun A9_1 k9_1 => ?_)
          obtain ⟨v9_2, hv9_2, h⟩ := H.call h
          refine xx rfl (e_cq (cs' := [.slice A0 (List.length a0) k0, .int .i64 v9_2.2.1, .int .u64 v9_2.2.2]) (v := .int .i64 v9_2.1) 0 [.pointer (some ⟨g0, 0, none⟩), .slice A9_1 (List.length ([(-1), 5] : List Int)) k9_1] func143 (fun W S => C.s_l1Cur_among W hv9_2 (S.bx 0) ((s_argN h0 q0).out W S) q0 ((s_own 3).out W S) (ap_row S 3 0 (by decide))) ?_)
          refine p 1 ?_
          refine xx rfl (x_sto 2 g2_7 0 (eConstraint (⟨v9_2.1, 0⟩ : Constraint)) ?_)
          refine rend ?_
          refine c_inb ?_
          refine c_seq ?_
          refine r_start ?_
          refine xq rfl (y_load (.agg (eConstraint (⟨v9_2.1, 0⟩ : Constraint)).toArray) 2 g2_7 0) ?_
          refine xx rfl (x_sto 1 g0_0 0 (eConstraint (⟨v9_2.1, 0⟩ : Constraint)) ?_)
          refine rend ?_
          replace h := H.done h
          subst h
          exact ret func111 rfl (vs := [.agg (eConstraint (⟨v9_2.1, 0⟩ : Constraint)).toArray]) (.cell 1 g0_0 rfl (by kernel_rfl) (by kernel_rfl) .nil) rfl (fun W S => S.retQ)
        replace h := H.f q7 h
        refine c_seq ?_
        refine r_start ?_
        refine p 2 ?_
        refine rend ?_
        refine c_or (v7_1.1 == 1) (fun q8 => ?_) (fun q8 => ?_)
        · replace h := H.t q8 h
          refine r_start ?_
          refine p 2 ?_
          obtain ⟨v11_2, hv11_2, h⟩ := H.call h
          refine xq rfl (y_call [.int .i64 v1_1.1] (.int .i64 v11_2) func172 (fun W S => C.s_ruMost W hv11_2)) ?_
          refine p 1 ?_
          refine xx rfl (e_lit (e := (eI .i64)) (el := 3) [.int .i64 (-1), .int .i64 (wr (v11_2 + 1)), .int .i64 (-9223372036854775808)] ([(-1), (wr (v11_2 + 1)), (-9223372036854775808)] : List Int) fun A11_4 k11_4 => ?_)
          obtain ⟨v11_5, hv11_5, h⟩ := H.call h
          refine xx rfl (e_cq (cs' := [.slice A0 (List.length a0) k0, .int .i64 v11_5.2.1, .int .u64 v11_5.2.2]) (v := .int .i64 v11_5.1) 0 [.pointer (some ⟨g0, 0, none⟩), .slice A11_4 (List.length ([(-1), (wr (v11_2 + 1)), (-9223372036854775808)] : List Int)) k11_4] func143 (fun W S => C.s_l1Cur_among W hv11_5 (S.bx 0) ((s_argN h0 q0).out W S) q0 ((s_own 3).out W S) (ap_row S 3 0 (by decide))) ?_)
          refine p 1 ?_
          refine xx rfl (x_sto 2 g2_7 1 (eConstraint (⟨v1_1.1, v11_5.1⟩ : Constraint)) ?_)
          refine rend ?_
          refine c_inb ?_
          refine c_seq ?_
          refine r_start ?_
          refine xq rfl (y_load (.agg (eConstraint (⟨v1_1.1, v11_5.1⟩ : Constraint)).toArray) 2 g2_7 0) ?_
          refine xx rfl (x_sto 1 g0_0 0 (eConstraint (⟨v1_1.1, v11_5.1⟩ : Constraint)) ?_)
          refine rend ?_
          replace h := H.done h
          subst h
          exact ret func111 rfl (vs := [.agg (eConstraint (⟨v1_1.1, v11_5.1⟩ : Constraint)).toArray]) (.cell 1 g0_0 rfl (by kernel_rfl) (by kernel_rfl) .nil) rfl (fun W S => S.retQ)
        replace h := H.f q8 h
        refine c_skip ?_
        refine c_inb ?_
        refine c_seq ?_
        refine r_start ?_
        refine xq rfl (y_load (.agg (eConstraint (⟨v1_1.1, 0⟩ : Constraint)).toArray) 2 g2_7 0) ?_
        refine xx rfl (x_sto 1 g0_0 0 (eConstraint (⟨v1_1.1, 0⟩ : Constraint)) ?_)
        refine rend ?_
        replace h := H.done h
        subst h
        exact ret func111 rfl (vs := [.agg (eConstraint (⟨v1_1.1, 0⟩ : Constraint)).toArray]) (.cell 1 g0_0 rfl (by kernel_rfl) (by kernel_rfl) .nil) rfl (fun W S => S.retQ)
      replace h := H.f q3 h
      refine o_set 24 (congrArg Value.bool q3) ?_
      refine p 3 ?_
      refine rend ?_
      refine c_f (by kernel_rfl) ?_
      refine c_skip ?_
      refine c_seq ?_
      refine c_seq ?_
      refine r_start ?_
      refine p 1 ?_
      obtain ⟨v7_1, hv7_1, h⟩ := H.call h
      refine xx rfl (e_cq (cs' := [.slice A0 (List.length a0) k0, .int .i64 v7_1.2.1, .int .u64 v7_1.2.2]) (v := .int .i64 v7_1.1) 0 [.pointer (some ⟨g0, 0, none⟩), .int .i64 40] func79 (fun W S => C.s_l1Cur_pick W hv7_1 (S.bx 0) ((s_argN h0 q0).out W S) q0) ?_)
      refine rend ?_
      refine c_block ?_
      refine c_seq ?_
      refine r_start ?_
      refine p 2 ?_
      refine rend ?_
      refine c_or (v7_1.1 == 0) (fun q9 => ?_) (fun q9 => ?_)
      · replace h := H.t q9 h
        refine r_start ?_
        refine p 1 ?_
        refine xx rfl (e_lit (e := (eI .i64)) (el := 3) [.int .i64 (-1), .int .i64 5] ([(-1), 5] : List Int) fun A9_1 k9_1 => ?_)
        obtain ⟨v9_2, hv9_2, h⟩ := H.call h
        refine xx rfl (e_cq (cs' := [.slice A0 (List.length a0) k0, .int .i64 v9_2.2.1, .int .u64 v9_2.2.2]) (v := .int .i64 v9_2.1) 0 [.pointer (some ⟨g0, 0, none⟩), .slice A9_1 (List.length ([(-1), 5] : List Int)) k9_1] func143 (fun W S => C.s_l1Cur_among W hv9_2 (S.bx 0) ((s_argN h0 q0).out W S) q0 ((s_own 3).out W S) (ap_row S 3 0 (by decide))) ?_)
        refine p 1 ?_
        refine xx rfl (x_sto 2 g2_7 0 (eConstraint (⟨v9_2.1, 0⟩ : Constraint)) ?_)
        refine rend ?_
        refine c_inb ?_
        refine c_seq ?_
        refine r_start ?_
        refine xq rfl (y_load (.agg (eConstraint (⟨v9_2.1, 0⟩ : Constraint)).toArray) 2 g2_7 0) ?_
        refine xx rfl (x_sto 1 g0_0 0 (eConstraint (⟨v9_2.1, 0⟩ : Constraint)) ?_)
        refine rend ?_
        replace h := H.done h
        subst h
        exact ret func111 rfl (vs := [.agg (eConstraint (⟨v9_2.1, 0⟩ : Constraint)).toArray]) (.cell 1 g0_0 rfl (by kernel_rfl) (by kernel_rfl) .nil) rfl (fun W S => S.retQ)
      replace h := H.f q9 h
      refine c_seq ?_
      refine r_start ?_
      refine p 2 ?_
      refine rend ?_
      refine c_or (v7_1.1 == 1) (fun q10 => ?_) (fun q10 => ?_)
      · replace h := H.t q10 h
        refine r_start ?_
        refine p 2 ?_
        obtain ⟨v11_2, hv11_2, h⟩ := H.call h
        refine xq rfl (y_call [.int .i64 v1_1.1] (.int .i64 v11_2) func172 (fun W S => C.s_ruMost W hv11_2)) ?_
        refine p 1 ?_
        refine xx rfl (e_lit (e := (eI .i64)) (el := 3) [.int .i64 (-1), .int .i64 (wr (v11_2 + 1)), .int .i64 (-9223372036854775808)] ([(-1), (wr (v11_2 + 1)), (-9223372036854775808)] : List Int) fun A11_4 k11_4 => ?_)
        obtain ⟨v11_5, hv11_5, h⟩ := H.call h
        refine xx rfl (e_cq (cs' := [.slice A0 (List.length a0) k0, .int .i64 v11_5.2.1, .int .u64 v11_5.2.2]) (v := .int .i64 v11_5.1) 0 [.pointer (some ⟨g0, 0, none⟩), .slice A11_4 (List.length ([(-1), (wr (v11_2 + 1)), (-9223372036854775808)] : List Int)) k11_4] func143 (fun W S => C.s_l1Cur_among W hv11_5 (S.bx 0) ((s_argN h0 q0).out W S) q0 ((s_own 3).out W S) (ap_row S 3 0 (by decide))) ?_)
        refine p 1 ?_
        refine xx rfl (x_sto 2 g2_7 1 (eConstraint (⟨v1_1.1, v11_5.1⟩ : Constraint)) ?_)
        refine rend ?_
        refine c_inb ?_
        refine c_seq ?_
        refine r_start ?_
        refine xq rfl (y_load (.agg (eConstraint (⟨v1_1.1, v11_5.1⟩ : Constraint)).toArray) 2 g2_7 0) ?_
        refine xx rfl (x_sto 1 g0_0 0 (eConstraint (⟨v1_1.1, v11_5.1⟩ : Constraint)) ?_)
        refine rend ?_
        replace h := H.done h
        subst h
        exact ret func111 rfl (vs := [.agg (eConstraint (⟨v1_1.1, v11_5.1⟩ : Constraint)).toArray]) (.cell 1 g0_0 rfl (by kernel_rfl) (by kernel_rfl) .nil) rfl (fun W S => S.retQ)
      replace h := H.f q10 h
      refine c_skip ?_
      refine c_inb ?_
      refine c_seq ?_
      refine r_start ?_
      refine xq rfl (y_load (.agg (eConstraint (⟨v1_1.1, 0⟩ : Constraint)).toArray) 2 g2_7 0) ?_
      refine xx rfl (x_sto 1 g0_0 0 (eConstraint (⟨v1_1.1, 0⟩ : Constraint)) ?_)
      refine rend ?_
      replace h := H.done h
      subst h
      exact ret func111 rfl (vs := [.agg (eConstraint (⟨v1_1.1, 0⟩ : Constraint)).toArray]) (.cell 1 g0_0 rfl (by kernel_rfl) (by kernel_rfl) .nil) rfl (fun W S => S.retQ)
    replace h := H.f q2 h
    refine c_skip ?_
    refine c_seq ?_
    refine c_seq ?_
    refine r_start ?_
    refine p 3 ?_
    refine br (v1_1.1 == 0) (fun q11 => ?_) (fun q11 => ?_)
    · replace h := H.t q11 h
      refine o_set 24 (congrArg Value.bool q11) ?_
      refine p 1 ?_
      obtain ⟨v5_4, hv5_4, h⟩ := H.call h
      refine xx rfl (e_cq (cs' := [.slice A0 (List.length a0) k0, .int .i64 v5_4.2.1, .int .u64 v5_4.2.2]) (v := .bool v5_4.1) 0 [.pointer (some ⟨g0, 0, none⟩), .int .i64 2] func78 (fun W S => C.s_l1Cur_one W hv5_4 (S.bx 0) ((s_argN h0 q0).out W S) q0) ?_)
      refine p 1 ?_
      refine rend ?_
      refine c_or v5_4.1 (fun q12 => ?_) (fun q12 => ?_)
      · replace h := H.t q12 h
        refine r_start ?_
        refine p 1 ?_
        obtain ⟨v6_1, hv6_1, h⟩ := H.call h
        refine xx rfl (e_cq (cs' := [.slice A0 (List.length a0) k0, .int .i64 v6_1.2.1, .int .u64 v6_1.2.2]) (v := .int .i64 v6_1.1) 0 [.pointer (some ⟨g0, 0, none⟩), .int .i64 5] func79 (fun W S => C.s_l1Cur_pick W hv6_1 (S.bx 0) ((s_argN h0 q0).out W S) q0) ?_)
        refine p 1 ?_
        refine xx rfl (x_sto 2 g2_7 1 (eConstraint (⟨v1_1.1, v6_1.1⟩ : Constraint)) ?_)
        refine rend ?_
        refine c_seq ?_
        refine c_seq ?_
        refine r_start ?_
        refine p 1 ?_
        obtain ⟨v7_1, hv7_1, h⟩ := H.call h
        refine xx rfl (e_cq (cs' := [.slice A0 (List.length a0) k0, .int .i64 v7_1.2.1, .int .u64 v7_1.2.2]) (v := .int .i64 v7_1.1) 0 [.pointer (some ⟨g0, 0, none⟩), .int .i64 40] func79 (fun W S => C.s_l1Cur_pick W hv7_1 (S.bx 0) ((s_argN h0 q0).out W S) q0) ?_)
        refine rend ?_
        refine c_block ?_
        refine c_seq ?_
        refine r_start ?_
        refine p 2 ?_
        refine rend ?_
        refine c_or (v7_1.1 == 0) (fun q13 => ?_) (fun q13 => ?_)
        · replace h := H.t q13 h
          refine r_start ?_
          refine p 1 ?_
          refine xx rfl (e_lit (e := (eI .i64)) (el := 3) [.int .i64 (-1), .int .i64 5] ([(-1), 5] : List Int) fun A9_1 k9_1 => ?_)
          obtain ⟨v9_2, hv9_2, h⟩ := H.call h
          refine xx rfl (e_cq (cs' := [.slice A0 (List.length a0) k0, .int .i64 v9_2.2.1, .int .u64 v9_2.2.2]) (v := .int .i64 v9_2.1) 0 [.pointer (some ⟨g0, 0, none⟩), .slice A9_1 (List.length ([(-1), 5] : List Int)) k9_1] func143 (fun W S => C.s_l1Cur_among W hv9_2 (S.bx 0) ((s_argN h0 q0).out W S) q0 ((s_own 3).out W S) (ap_row S 3 0 (by decide))) ?_)
          refine p 1 ?_
          refine xx rfl (x_sto 2 g2_7 0 (eConstraint (⟨v9_2.1, v6_1.1⟩ : Constraint)) ?_)
          refine rend ?_
          refine c_inb ?_
          refine c_seq ?_
          refine r_start ?_
          refine xq rfl (y_load (.agg (eConstraint (⟨v9_2.1, v6_1.1⟩ : Constraint)).toArray) 2 g2_7 0) ?_
          refine xx rfl (x_sto 1 g0_0 0 (eConstraint (⟨v9_2.1, v6_1.1⟩ : Constraint)) ?_)
          refine rend ?_
          replace h := H.done h
          subst h
          exact ret func111 rfl (vs := [.agg (eConstraint (⟨v9_2.1, v6_1.1⟩ : Constraint)).toArray]) (.cell 1 g0_0 rfl (by kernel_rfl) (by kernel_rfl) .nil) rfl (fun W S => S.retQ)
        replace h := H.f q13 h
        refine c_seq ?_
        refine r_start ?_
        refine p 2 ?_
        refine rend ?_
        refine c_or (v7_1.1 == 1) (fun q14 => ?_) (fun q14 => ?_)
        · replace h := H.t q14 h
          refine r_start ?_
          refine p 2 ?_
          obtain ⟨v11_2, hv11_2, h⟩ := H.call h
          refine xq rfl (y_call [.int .i64 v1_1.1] (.int .i64 v11_2) func172 (fun W S => C.s_ruMost W hv11_2)) ?_
          refine p 1 ?_
          refine xx rfl (e_lit (e := (eI .i64)) (el := 3) [.int .i64 (-1), .int .i64 (wr (v11_2 + 1)), .int .i64 (-9223372036854775808)] ([(-1), (wr (v11_2 + 1)), (-9223372036854775808)] : List Int) fun A11_4 k11_4 => ?_)
          obtain ⟨v11_5, hv11_5, h⟩ := H.call h
          refine xx rfl (e_cq (cs' := [.slice A0 (List.length a0) k0, .int .i64 v11_5.2.1, .int .u64 v11_5.2.2]) (v := .int .i64 v11_5.1) 0 [.pointer (some ⟨g0, 0, none⟩), .slice A11_4 (List.length ([(-1), (wr (v11_2 + 1)), (-9223372036854775808)] : List Int)) k11_4] func143 (fun W S => C.s_l1Cur_among W hv11_5 (S.bx 0) ((s_argN h0 q0).out W S) q0 ((s_own 3).out W S) (ap_row S 3 0 (by decide))) ?_)
          refine p 1 ?_
          refine xx rfl (x_sto 2 g2_7 1 (eConstraint (⟨v1_1.1, v11_5.1⟩ : Constraint)) ?_)
          refine rend ?_
          refine c_inb ?_
          refine c_seq ?_
          refine r_start ?_
          refine xq rfl (y_load (.agg (eConstraint (⟨v1_1.1, v11_5.1⟩ : Constraint)).toArray) 2 g2_7 0) ?_
          refine xx rfl (x_sto 1 g0_0 0 (eConstraint (⟨v1_1.1, v11_5.1⟩ : Constraint)) ?_)
          refine rend ?_
          replace h := H.done h
          subst h
          exact ret func111 rfl (vs := [.agg (eConstraint (⟨v1_1.1, v11_5.1⟩ : Constraint)).toArray]) (.cell 1 g0_0 rfl (by kernel_rfl) (by kernel_rfl) .nil) rfl (fun W S => S.retQ)
        replace h := H.f q14 h
        refine c_skip ?_
        refine c_inb ?_
        refine c_seq ?_
        refine r_start ?_
        refine xq rfl (y_load (.agg (eConstraint (⟨v1_1.1, v6_1.1⟩ : Constraint)).toArray) 2 g2_7 0) ?_
        refine xx rfl (x_sto 1 g0_0 0 (eConstraint (⟨v1_1.1, v6_1.1⟩ : Constraint)) ?_)
        refine rend ?_
        replace h := H.done h
        subst h
        exact ret func111 rfl (vs := [.agg (eConstraint (⟨v1_1.1, v6_1.1⟩ : Constraint)).toArray]) (.cell 1 g0_0 rfl (by kernel_rfl) (by kernel_rfl) .nil) rfl (fun W S => S.retQ)
      replace h := H.f q12 h
      refine c_skip ?_
      refine c_seq ?_
      refine c_seq ?_
      refine r_start ?_
      refine p 1 ?_
      obtain ⟨v7_1, hv7_1, h⟩ := H.call h
      refine xx rfl (e_cq (cs' := [.slice A0 (List.length a0) k0, .int .i64 v7_1.2.1, .int .u64 v7_1.2.2]) (v := .int .i64 v7_1.1) 0 [.pointer (some ⟨g0, 0, none⟩), .int .i64 40] func79 (fun W S => C.s_l1Cur_pick W hv7_1 (S.bx 0) ((s_argN h0 q0).out W S) q0) ?_)
      refine rend ?_
      refine c_block ?_
      refine c_seq ?_
      refine r_start ?_
      refine p 2 ?_
      refine rend ?_
      refine c_or (v7_1.1 == 0) (fun q15 => ?_) (fun q15 => ?_)
      · replace h := H.t q15 h
        refine r_start ?_
        refine p 1 ?_
        refine xx rfl (e_lit (e := (eI .i64)) (el := 3) [.int .i64 (-1), .int .i64 5] ([(-1), 5] : List Int) fun A9_1 k9_1 => ?_)
        obtain ⟨v9_2, hv9_2, h⟩ := H.call h
        refine xx rfl (e_cq (cs' := [.slice A0 (List.length a0) k0, .int .i64 v9_2.2.1, .int .u64 v9_2.2.2]) (v := .int .i64 v9_2.1) 0 [.pointer (some ⟨g0, 0, none⟩), .slice A9_1 (List.length ([(-1), 5] : List Int)) k9_1] func143 (fun W S => C.s_l1Cur_among W hv9_2 (S.bx 0) ((s_argN h0 q0).out W S) q0 ((s_own 3).out W S) (ap_row S 3 0 (by decide))) ?_)
        refine p 1 ?_
        refine xx rfl (x_sto 2 g2_7 0 (eConstraint (⟨v9_2.1, v2_5.1⟩ : Constraint)) ?_)
        refine rend ?_
        refine c_inb ?_
        refine c_seq ?_
        refine r_start ?_
        refine xq rfl (y_load (.agg (eConstraint (⟨v9_2.1, v2_5.1⟩ : Constraint)).toArray) 2 g2_7 0) ?_
        refine xx rfl (x_sto 1 g0_0 0 (eConstraint (⟨v9_2.1, v2_5.1⟩ : Constraint)) ?_)
        refine rend ?_
        replace h := H.done h
        subst h
        exact ret func111 rfl (vs := [.agg (eConstraint (⟨v9_2.1, v2_5.1⟩ : Constraint)).toArray]) (.cell 1 g0_0 rfl (by kernel_rfl) (by kernel_rfl) .nil) rfl (fun W S => S.retQ)
      replace h := H.f q15 h
      refine c_seq ?_
      refine r_start ?_
      refine p 2 ?_
      refine rend ?_
      refine c_or (v7_1.1 == 1) (fun q16 => ?_) (fun q16 => ?_)
      · replace h := H.t q16 h
        refine r_start ?_
        refine p 2 ?_
        obtain ⟨v11_2, hv11_2, h⟩ := H.call h
        refine xq rfl (y_call [.int .i64 v1_1.1] (.int .i64 v11_2) func172 (fun W S => C.s_ruMost W hv11_2)) ?_
        refine p 1 ?_
        refine xx rfl (e_lit (e := (eI .i64)) (el := 3) [.int .i64 (-1), .int .i64 (wr (v11_2 + 1)), .int .i64 (-9223372036854775808)] ([(-1), (wr (v11_2 + 1)), (-9223372036854775808)] : List Int) fun A11_4 k11_4 => ?_)
        obtain ⟨v11_5, hv11_5, h⟩ := H.call h
        refine xx rfl (e_cq (cs' := [.slice A0 (List.length a0) k0, .int .i64 v11_5.2.1, .int .u64 v11_5.2.2]) (v := .int .i64 v11_5.1) 0 [.pointer (some ⟨g0, 0, none⟩), .slice A11_4 (List.length ([(-1), (wr (v11_2 + 1)), (-9223372036854775808)] : List Int)) k11_4] func143 (fun W S => C.s_l1Cur_among W hv11_5 (S.bx 0) ((s_argN h0 q0).out W S) q0 ((s_own 3).out W S) (ap_row S 3 0 (by decide))) ?_)
        refine p 1 ?_
        refine xx rfl (x_sto 2 g2_7 1 (eConstraint (⟨v1_1.1, v11_5.1⟩ : Constraint)) ?_)
        refine rend ?_
        refine c_inb ?_
        refine c_seq ?_
        refine r_start ?_
        refine xq rfl (y_load (.agg (eConstraint (⟨v1_1.1, v11_5.1⟩ : Constraint)).toArray) 2 g2_7 0) ?_
        refine xx rfl (x_sto 1 g0_0 0 (eConstraint (⟨v1_1.1, v11_5.1⟩ : Constraint)) ?_)
        refine rend ?_
        replace h := H.done h
        subst h
        exact ret func111 rfl (vs := [.agg (eConstraint (⟨v1_1.1, v11_5.1⟩ : Constraint)).toArray]) (.cell 1 g0_0 rfl (by kernel_rfl) (by kernel_rfl) .nil) rfl (fun W S => S.retQ)
      replace h := H.f q16 h
      refine c_skip ?_
      refine c_inb ?_
      refine c_seq ?_
      refine r_start ?_
      refine xq rfl (y_load (.agg (eConstraint (⟨v1_1.1, v2_5.1⟩ : Constraint)).toArray) 2 g2_7 0) ?_
      refine xx rfl (x_sto 1 g0_0 0 (eConstraint (⟨v1_1.1, v2_5.1⟩ : Constraint)) ?_)
      refine rend ?_
      replace h := H.done h
      subst h
      exact ret func111 rfl (vs := [.agg (eConstraint (⟨v1_1.1, v2_5.1⟩ : Constraint)).toArray]) (.cell 1 g0_0 rfl (by kernel_rfl) (by kernel_rfl) .nil) rfl (fun W S => S.retQ)
    replace h := H.f q11 h
    refine o_set 24 (congrArg Value.bool q11) ?_
    refine p 3 ?_
    refine rend ?_
    refine c_f (by kernel_rfl) ?_
    refine c_skip ?_
    refine c_seq ?_
    refine c_seq ?_
    refine r_start ?_
    refine p 1 ?_
    obtain ⟨v7_1, hv7_1, h⟩ := H.call h
    refine xx rfl (e_cq (cs' := [.slice A0 (List.length a0) k0, .int .i64 v7_1.2.1, .int .u64 v7_1.2.2]) (v := .int .i64 v7_1.1) 0 [.pointer (some ⟨g0, 0, none⟩), .int .i64 40] func79 (fun W S => C.s_l1Cur_pick W hv7_1 (S.bx 0) ((s_argN h0 q0).out W S) q0) ?_)
    refine rend ?_
    refine c_block ?_
    refine c_seq ?_
    refine r_start ?_
    refine p 2 ?_
    refine rend ?_
    refine c_or (v7_1.1 == 0) (fun q17 => ?_) (fun q17 => ?_)
    · replace h := H.t q17 h
      refine r_start ?_
      refine p 1 ?_
      refine xx rfl (e_lit (e := (eI .i64)) (el := 3) [.int .i64 (-1), .int .i64 5] ([(-1), 5] : List Int) fun A9_1 k9_1 => ?_)
      obtain ⟨v9_2, hv9_2, h⟩ := H.call h
      refine xx rfl (e_cq (cs' := [.slice A0 (List.length a0) k0, .int .i64 v9_2.2.1, .int .u64 v9_2.2.2]) (v := .int .i64 v9_2.1) 0 [.pointer (some ⟨g0, 0, none⟩), .slice A9_1 (List.length ([(-1), 5] : List Int)) k9_1] func143 (fun W S => C.s_l1Cur_among W hv9_2 (S.bx 0) ((s_argN h0 q0).out W S) q0 ((s_own 3).out W S) (ap_row S 3 0 (by decide))) ?_)
      refine p 1 ?_
      refine xx rfl (x_sto 2 g2_7 0 (eConstraint (⟨v9_2.1, v2_5.1⟩ : Constraint)) ?_)
      refine rend ?_
      refine c_inb ?_
      refine c_seq ?_
      refine r_start ?_
      refine xq rfl (y_load (.agg (eConstraint (⟨v9_2.1, v2_5.1⟩ : Constraint)).toArray) 2 g2_7 0) ?_
      refine xx rfl (x_sto 1 g0_0 0 (eConstraint (⟨v9_2.1, v2_5.1⟩ : Constraint)) ?_)
      refine rend ?_
      replace h := H.done h
      subst h
      exact ret func111 rfl (vs := [.agg (eConstraint (⟨v9_2.1, v2_5.1⟩ : Constraint)).toArray]) (.cell 1 g0_0 rfl (by kernel_rfl) (by kernel_rfl) .nil) rfl (fun W S => S.retQ)
    replace h := H.f q17 h
    refine c_seq ?_
    refine r_start ?_
    refine p 2 ?_
    refine rend ?_
    refine c_or (v7_1.1 == 1) (fun q18 => ?_) (fun q18 => ?_)
    · replace h := H.t q18 h
      refine r_start ?_
      refine p 2 ?_
      obtain ⟨v11_2, hv11_2, h⟩ := H.call h
      refine xq rfl (y_call [.int .i64 v1_1.1] (.int .i64 v11_2) func172 (fun W S => C.s_ruMost W hv11_2)) ?_
      refine p 1 ?_
      refine xx rfl (e_lit (e := (eI .i64)) (el := 3) [.int .i64 (-1), .int .i64 (wr (v11_2 + 1)), .int .i64 (-9223372036854775808)] ([(-1), (wr (v11_2 + 1)), (-9223372036854775808)] : List Int) fun A11_4 k11_4 => ?_)
      obtain ⟨v11_5, hv11_5, h⟩ := H.call h
      refine xx rfl (e_cq (cs' := [.slice A0 (List.length a0) k0, .int .i64 v11_5.2.1, .int .u64 v11_5.2.2]) (v := .int .i64 v11_5.1) 0 [.pointer (some ⟨g0, 0, none⟩), .slice A11_4 (List.length ([(-1), (wr (v11_2 + 1)), (-9223372036854775808)] : List Int)) k11_4] func143 (fun W S => C.s_l1Cur_among W hv11_5 (S.bx 0) ((s_argN h0 q0).out W S) q0 ((s_own 3).out W S) (ap_row S 3 0 (by decide))) ?_)
      refine p 1 ?_
      refine xx rfl (x_sto 2 g2_7 1 (eConstraint (⟨v1_1.1, v11_5.1⟩ : Constraint)) ?_)
      refine rend ?_
      refine c_inb ?_
      refine c_seq ?_
      refine r_start ?_
      refine xq rfl (y_load (.agg (eConstraint (⟨v1_1.1, v11_5.1⟩ : Constraint)).toArray) 2 g2_7 0) ?_
      refine xx rfl (x_sto 1 g0_0 0 (eConstraint (⟨v1_1.1, v11_5.1⟩ : Constraint)) ?_)
      refine rend ?_
      replace h := H.done h
      subst h
      exact ret func111 rfl (vs := [.agg (eConstraint (⟨v1_1.1, v11_5.1⟩ : Constraint)).toArray]) (.cell 1 g0_0 rfl (by kernel_rfl) (by kernel_rfl) .nil) rfl (fun W S => S.retQ)
    replace h := H.f q18 h
    refine c_skip ?_
    refine c_inb ?_
    refine c_seq ?_
    refine r_start ?_
    refine xq rfl (y_load (.agg (eConstraint (⟨v1_1.1, v2_5.1⟩ : Constraint)).toArray) 2 g2_7 0) ?_
    refine xx rfl (x_sto 1 g0_0 0 (eConstraint (⟨v1_1.1, v2_5.1⟩ : Constraint)) ?_)
    refine rend ?_
    replace h := H.done h
    subst h
    exact ret func111 rfl (vs := [.agg (eConstraint (⟨v1_1.1, v2_5.1⟩ : Constraint)).toArray]) (.cell 1 g0_0 rfl (by kernel_rfl) (by kernel_rfl) .nil) rfl (fun W S => S.retQ)
  replace h := H.f q1 h
  refine o_set 16 (congrArg Value.bool q1) ?_
  refine p 4 ?_
  refine rend ?_
  refine c_f (by kernel_rfl) ?_
  refine c_skip ?_
  refine c_seq ?_
  refine c_seq ?_
  refine r_start ?_
  refine p 3 ?_
  refine br (v1_1.1 == 0) (fun q19 => ?_) (fun q19 => ?_)
  · replace h := H.t q19 h
    refine o_set 24 (congrArg Value.bool q19) ?_
    refine p 1 ?_
    obtain ⟨v5_4, hv5_4, h⟩ := H.call h
    refine xx rfl (e_cq (cs' := [.slice A0 (List.length a0) k0, .int .i64 v5_4.2.1, .int .u64 v5_4.2.2]) (v := .bool v5_4.1) 0 [.pointer (some ⟨g0, 0, none⟩), .int .i64 2] func78 (fun W S => C.s_l1Cur_one W hv5_4 (S.bx 0) ((s_argN h0 q0).out W S) q0) ?_)
    refine p 1 ?_
    refine rend ?_
    refine c_or v5_4.1 (fun q20 => ?_) (fun q20 => ?_)
    · replace h := H.t q20 h
      refine r_start ?_
      refine p 1 ?_
      obtain ⟨v6_1, hv6_1, h⟩ := H.call h
      refine xx rfl (e_cq (cs' := [.slice A0 (List.length a0) k0, .int .i64 v6_1.2.1, .int .u64 v6_1.2.2]) (v := .int .i64 v6_1.1) 0 [.pointer (some ⟨g0, 0, none⟩), .int .i64 5] func79 (fun W S => C.s_l1Cur_pick W hv6_1 (S.bx 0) ((s_argN h0 q0).out W S) q0) ?_)
      refine p 1 ?_
      refine xx rfl (x_sto 2 g2_7 1 (eConstraint (⟨v1_1.1, v6_1.1⟩ : Constraint)) ?_)
      refine rend ?_
      refine c_seq ?_
      refine c_seq ?_
      refine r_start ?_
      refine p 1 ?_
      obtain ⟨v7_1, hv7_1, h⟩ := H.call h
      refine xx rfl (e_cq (cs' := [.slice A0 (List.length a0) k0, .int .i64 v7_1.2.1, .int .u64 v7_1.2.2]) (v := .int .i64 v7_1.1) 0 [.pointer (some ⟨g0, 0, none⟩), .int .i64 40] func79 (fun W S => C.s_l1Cur_pick W hv7_1 (S.bx 0) ((s_argN h0 q0).out W S) q0) ?_)
      refine rend ?_
      refine c_block ?_
      refine c_seq ?_
      refine r_start ?_
      refine p 2 ?_
      refine rend ?_
      refine c_or (v7_1.1 == 0) (fun q21 => ?_) (fun q21 => ?_)
      · replace h := H.t q21 h
        refine r_start ?_
        refine p 1 ?_
        refine xx rfl (e_lit (e := (eI .i64)) (el := 3) [.int .i64 (-1), .int .i64 5] ([(-1), 5] : List Int) fun A9_1 k9_1 => ?_)
        obtain ⟨v9_2, hv9_2, h⟩ := H.call h
        refine xx rfl (e_cq (cs' := [.slice A0 (List.length a0) k0, .int .i64 v9_2.2.1, .int .u64 v9_2.2.2]) (v := .int .i64 v9_2.1) 0 [.pointer (some ⟨g0, 0, none⟩), .slice A9_1 (List.length ([(-1), 5] : List Int)) k9_1] func143 (fun W S => C.s_l1Cur_among W hv9_2 (S.bx 0) ((s_argN h0 q0).out W S) q0 ((s_own 3).out W S) (ap_row S 3 0 (by decide))) ?_)
        refine p 1 ?_
        refine xx rfl (x_sto 2 g2_7 0 (eConstraint (⟨v9_2.1, v6_1.1⟩ : Constraint)) ?_)
        refine rend ?_
        refine c_inb ?_
        refine c_seq ?_
        refine r_start ?_
        refine xq rfl (y_load (.agg (eConstraint (⟨v9_2.1, v6_1.1⟩ : Constraint)).toArray) 2 g2_7 0) ?_
        refine xx rfl (x_sto 1 g0_0 0 (eConstraint (⟨v9_2.1, v6_1.1⟩ : Constraint)) ?_)
        refine rend ?_
        replace h := H.done h
        subst h
        exact ret func111 rfl (vs := [.agg (eConstraint (⟨v9_2.1, v6_1.1⟩ : Constraint)).toArray]) (.cell 1 g0_0 rfl (by kernel_rfl) (by kernel_rfl) .nil) rfl (fun W S => S.retQ)
      replace h := H.f q21 h
      refine c_seq ?_
      refine r_start ?_
      refine p 2 ?_
      refine rend ?_
      refine c_or (v7_1.1 == 1) (fun q22 => ?_) (fun q22 => ?_)
      · replace h := H.t q22 h
        refine r_start ?_
        refine p 2 ?_
        obtain ⟨v11_2, hv11_2, h⟩ := H.call h
        refine xq rfl (y_call [.int .i64 v1_1.1] (.int .i64 v11_2) func172 (fun W S => C.s_ruMost W hv11_2)) ?_
        refine p 1 ?_
        refine xx rfl (e_lit (e := (eI .i64)) (el := 3) [.int .i64 (-1), .int .i64 (wr (v11_2 + 1)), .int .i64 (-9223372036854775808)] ([(-1), (wr (v11_2 + 1)), (-9223372036854775808)] : List Int) fun A11_4 k11_4 => ?_)
        obtain ⟨v11_5, hv11_5, h⟩ := H.call h
        refine xx rfl (e_cq (cs' := [.slice A0 (List.length a0) k0, .int .i64 v11_5.2.1, .int .u64 v11_5.2.2]) (v := .int .i64 v11_5.1) 0 [.pointer (some ⟨g0, 0, none⟩), .slice A11_4 (List.length ([(-1), (wr (v11_2 + 1)), (-9223372036854775808)] : List Int)) k11_4] func143 (fun W S => C.s_l1Cur_among W hv11_5 (S.bx 0) ((s_argN h0 q0).out W S) q0 ((s_own 3).out W S) (ap_row S 3 0 (by decide))) ?_)
        refine p 1 ?_
        refine xx rfl (x_sto 2 g2_7 1 (eConstraint (⟨v1_1.1, v11_5.1⟩ : Constraint)) ?_)
        refine rend ?_
        refine c_inb ?_
        refine c_seq ?_
        refine r_start ?_
        refine xq rfl (y_load (.agg (eConstraint (⟨v1_1.1, v11_5.1⟩ : Constraint)).toArray) 2 g2_7 0) ?_
        refine xx rfl (x_sto 1 g0_0 0 (eConstraint (⟨v1_1.1, v11_5.1⟩ : Constraint)) ?_)
        refine rend ?_
        replace h := H.done h
        subst h
        exact ret func111 rfl (vs := [.agg (eConstraint (⟨v1_1.1, v11_5.1⟩ : Constraint)).toArray]) (.cell 1 g0_0 rfl (by kernel_rfl) (by kernel_rfl) .nil) rfl (fun W S => S.retQ)
      replace h := H.f q22 h
      refine c_skip ?_
      refine c_inb ?_
      refine c_seq ?_
      refine r_start ?_
      refine xq rfl (y_load (.agg (eConstraint (⟨v1_1.1, v6_1.1⟩ : Constraint)).toArray) 2 g2_7 0) ?_
      refine xx rfl (x_sto 1 g0_0 0 (eConstraint (⟨v1_1.1, v6_1.1⟩ : Constraint)) ?_)
      refine rend ?_
      replace h := H.done h
      subst h
      exact ret func111 rfl (vs := [.agg (eConstraint (⟨v1_1.1, v6_1.1⟩ : Constraint)).toArray]) (.cell 1 g0_0 rfl (by kernel_rfl) (by kernel_rfl) .nil) rfl (fun W S => S.retQ)
    replace h := H.f q20 h
    refine c_skip ?_
    refine c_seq ?_
    refine c_seq ?_
    refine r_start ?_
    refine p 1 ?_
    obtain ⟨v7_1, hv7_1, h⟩ := H.call h
    refine xx rfl (e_cq (cs' := [.slice A0 (List.length a0) k0, .int .i64 v7_1.2.1, .int .u64 v7_1.2.2]) (v := .int .i64 v7_1.1) 0 [.pointer (some ⟨g0, 0, none⟩), .int .i64 40] func79 (fun W S => C.s_l1Cur_pick W hv7_1 (S.bx 0) ((s_argN h0 q0).out W S) q0) ?_)
    refine rend ?_
    refine c_block ?_
    refine c_seq ?_
    refine r_start ?_
    refine p 2 ?_
    refine rend ?_
    refine c_or (v7_1.1 == 0) (fun q23 => ?_) (fun q23 => ?_)
    · replace h := H.t q23 h
      refine r_start ?_
      refine p 1 ?_
      refine xx rfl (e_lit (e := (eI .i64)) (el := 3) [.int .i64 (-1), .int .i64 5] ([(-1), 5] : List Int) fun A9_1 k9_1 => ?_)
      obtain ⟨v9_2, hv9_2, h⟩ := H.call h
      refine xx rfl (e_cq (cs' := [.slice A0 (List.length a0) k0, .int .i64 v9_2.2.1, .int .u64 v9_2.2.2]) (v := .int .i64 v9_2.1) 0 [.pointer (some ⟨g0, 0, none⟩), .slice A9_1 (List.length ([(-1), 5] : List Int)) k9_1] func143 (fun W S => C.s_l1Cur_among W hv9_2 (S.bx 0) ((s_argN h0 q0).out W S) q0 ((s_own 3).out W S) (ap_row S 3 0 (by decide))) ?_)
      refine p 1 ?_
      refine xx rfl (x_sto 2 g2_7 0 (eConstraint (⟨v9_2.1, v2_5.1⟩ : Constraint)) ?_)
      refine rend ?_
      refine c_inb ?_
      refine c_seq ?_
      refine r_start ?_
      refine xq rfl (y_load (.agg (eConstraint (⟨v9_2.1, v2_5.1⟩ : Constraint)).toArray) 2 g2_7 0) ?_
      refine xx rfl (x_sto 1 g0_0 0 (eConstraint (⟨v9_2.1, v2_5.1⟩ : Constraint)) ?_)
      refine rend ?_
      replace h := H.done h
      subst h
      exact ret func111 rfl (vs := [.agg (eConstraint (⟨v9_2.1, v2_5.1⟩ : Constraint)).toArray]) (.cell 1 g0_0 rfl (by kernel_rfl) (by kernel_rfl) .nil) rfl (fun W S => S.retQ)
    replace h := H.f q23 h
    refine c_seq ?_
    refine r_start ?_
    refine p 2 ?_
    refine rend ?_
    refine c_or (v7_1.1 == 1) (fun q24 => ?_) (fun q24 => ?_)
    · replace h := H.t q24 h
      refine r_start ?_
      refine p 2 ?_
      obtain ⟨v11_2, hv11_2, h⟩ := H.call h
      refine xq rfl (y_call [.int .i64 v1_1.1] (.int .i64 v11_2) func172 (fun W S => C.s_ruMost W hv11_2)) ?_
      refine p 1 ?_
      refine xx rfl (e_lit (e := (eI .i64)) (el := 3) [.int .i64 (-1), .int .i64 (wr (v11_2 + 1)), .int .i64 (-9223372036854775808)] ([(-1), (wr (v11_2 + 1)), (-9223372036854775808)] : List Int) fun A11_4 k11_4 => ?_)
      obtain ⟨v11_5, hv11_5, h⟩ := H.call h
      refine xx rfl (e_cq (cs' := [.slice A0 (List.length a0) k0, .int .i64 v11_5.2.1, .int .u64 v11_5.2.2]) (v := .int .i64 v11_5.1) 0 [.pointer (some ⟨g0, 0, none⟩), .slice A11_4 (List.length ([(-1), (wr (v11_2 + 1)), (-9223372036854775808)] : List Int)) k11_4] func143 (fun W S => C.s_l1Cur_among W hv11_5 (S.bx 0) ((s_argN h0 q0).out W S) q0 ((s_own 3).out W S) (ap_row S 3 0 (by decide))) ?_)
      refine p 1 ?_
      refine xx rfl (x_sto 2 g2_7 1 (eConstraint (⟨v1_1.1, v11_5.1⟩ : Constraint)) ?_)
      refine rend ?_
      refine c_inb ?_
      refine c_seq ?_
      refine r_start ?_
      refine xq rfl (y_load (.agg (eConstraint (⟨v1_1.1, v11_5.1⟩ : Constraint)).toArray) 2 g2_7 0) ?_
      refine xx rfl (x_sto 1 g0_0 0 (eConstraint (⟨v1_1.1, v11_5.1⟩ : Constraint)) ?_)
      refine rend ?_
      replace h := H.done h
      subst h
      exact ret func111 rfl (vs := [.agg (eConstraint (⟨v1_1.1, v11_5.1⟩ : Constraint)).toArray]) (.cell 1 g0_0 rfl (by kernel_rfl) (by kernel_rfl) .nil) rfl (fun W S => S.retQ)
    replace h := H.f q24 h
    refine c_skip ?_
    refine c_inb ?_
    refine c_seq ?_
    refine r_start ?_
    refine xq rfl (y_load (.agg (eConstraint (⟨v1_1.1, v2_5.1⟩ : Constraint)).toArray) 2 g2_7 0) ?_
    refine xx rfl (x_sto 1 g0_0 0 (eConstraint (⟨v1_1.1, v2_5.1⟩ : Constraint)) ?_)
    refine rend ?_
    replace h := H.done h
    subst h
    exact ret func111 rfl (vs := [.agg (eConstraint (⟨v1_1.1, v2_5.1⟩ : Constraint)).toArray]) (.cell 1 g0_0 rfl (by kernel_rfl) (by kernel_rfl) .nil) rfl (fun W S => S.retQ)
  replace h := H.f q19 h
  refine o_set 24 (congrArg Value.bool q19) ?_
  refine p 3 ?_
  refine rend ?_
  refine c_f (by kernel_rfl) ?_
  refine c_skip ?_
  refine c_seq ?_
  refine c_seq ?_
  refine r_start ?_
  refine p 1 ?_
  obtain ⟨v7_1, hv7_1, h⟩ := H.call h
  refine xx rfl (e_cq (cs' := [.slice A0 (List.length a0) k0, .int .i64 v7_1.2.1, .int .u64 v7_1.2.2]) (v := .int .i64 v7_1.1) 0 [.pointer (some ⟨g0, 0, none⟩), .int .i64 40] func79 (fun W S => C.s_l1Cur_pick W hv7_1 (S.bx 0) ((s_argN h0 q0).out W S) q0) ?_)
  refine rend ?_
  refine c_block ?_
  refine c_seq ?_
  refine r_start ?_
  refine p 2 ?_
  refine rend ?_
  refine c_or (v7_1.1 == 0) (fun q25 => ?_) (fun q25 => ?_)
  · replace h := H.t q25 h
    refine r_start ?_
    refine p 1 ?_
    refine xx rfl (e_lit (e := (eI .i64)) (el := 3) [.int .i64 (-1), .int .i64 5] ([(-1), 5] : List Int) fun A9_1 k9_1 => ?_)
    obtain ⟨v9_2, hv9_2, h⟩ := H.call h
    refine xx rfl (e_cq (cs' := [.slice A0 (List.length a0) k0, .int .i64 v9_2.2.1, .int .u64 v9_2.2.2]) (v := .int .i64 v9_2.1) 0 [.pointer (some ⟨g0, 0, none⟩), .slice A9_1 (List.length ([(-1), 5] : List Int)) k9_1] func143 (fun W S => C.s_l1Cur_among W hv9_2 (S.bx 0) ((s_argN h0 q0).out W S) q0 ((s_own 3).out W S) (ap_row S 3 0 (by decide))) ?_)
    refine p 1 ?_
    refine xx rfl (x_sto 2 g2_7 0 (eConstraint (⟨v9_2.1, v2_5.1⟩ : Constraint)) ?_)
    refine rend ?_
    refine c_inb ?_
    refine c_seq ?_
    refine r_start ?_
    refine xq rfl (y_load (.agg (eConstraint (⟨v9_2.1, v2_5.1⟩ : Constraint)).toArray) 2 g2_7 0) ?_
    refine xx rfl (x_sto 1 g0_0 0 (eConstraint (⟨v9_2.1, v2_5.1⟩ : Constraint)) ?_)
    refine rend ?_
    replace h := H.done h
    subst h
    exact ret func111 rfl (vs := [.agg (eConstraint (⟨v9_2.1, v2_5.1⟩ : Constraint)).toArray]) (.cell 1 g0_0 rfl (by kernel_rfl) (by kernel_rfl) .nil) rfl (fun W S => S.retQ)
  replace h := H.f q25 h
  refine c_seq ?_
  refine r_start ?_
  refine p 2 ?_
  refine rend ?_
  refine c_or (v7_1.1 == 1) (fun q26 => ?_) (fun q26 => ?_)
  · replace h := H.t q26 h
    refine r_start ?_
    refine p 2 ?_
    obtain ⟨v11_2, hv11_2, h⟩ := H.call h
    refine xq rfl (y_call [.int .i64 v1_1.1] (.int .i64 v11_2) func172 (fun W S => C.s_ruMost W hv11_2)) ?_
    refine p 1 ?_
    refine xx rfl (e_lit (e := (eI .i64)) (el := 3) [.int .i64 (-1), .int .i64 (wr (v11_2 + 1)), .int .i64 (-9223372036854775808)] ([(-1), (wr (v11_2 + 1)), (-9223372036854775808)] : List Int) fun A11_4 k11_4 => ?_)
    obtain ⟨v11_5, hv11_5, h⟩ := H.call h
    refine xx rfl (e_cq (cs' := [.slice A0 (List.length a0) k0, .int .i64 v11_5.2.1, .int .u64 v11_5.2.2]) (v := .int .i64 v11_5.1) 0 [.pointer (some ⟨g0, 0, none⟩), .slice A11_4 (List.length ([(-1), (wr (v11_2 + 1)), (-9223372036854775808)] : List Int)) k11_4] func143 (fun W S => C.s_l1Cur_among W hv11_5 (S.bx 0) ((s_argN h0 q0).out W S) q0 ((s_own 3).out W S) (ap_row S 3 0 (by decide))) ?_)
    refine p 1 ?_
    refine xx rfl (x_sto 2 g2_7 1 (eConstraint (⟨v1_1.1, v11_5.1⟩ : Constraint)) ?_)
    refine rend ?_
    refine c_inb ?_
    refine c_seq ?_
    refine r_start ?_
    refine xq rfl (y_load (.agg (eConstraint (⟨v1_1.1, v11_5.1⟩ : Constraint)).toArray) 2 g2_7 0) ?_
    refine xx rfl (x_sto 1 g0_0 0 (eConstraint (⟨v1_1.1, v11_5.1⟩ : Constraint)) ?_)
    refine rend ?_
    replace h := H.done h
    subst h
    exact ret func111 rfl (vs := [.agg (eConstraint (⟨v1_1.1, v11_5.1⟩ : Constraint)).toArray]) (.cell 1 g0_0 rfl (by kernel_rfl) (by kernel_rfl) .nil) rfl (fun W S => S.retQ)
  replace h := H.f q26 h
  refine c_skip ?_
  refine c_inb ?_
  refine c_seq ?_
  refine r_start ?_
  refine xq rfl (y_load (.agg (eConstraint (⟨v1_1.1, v2_5.1⟩ : Constraint)).toArray) 2 g2_7 0) ?_
  refine xx rfl (x_sto 1 g0_0 0 (eConstraint (⟨v1_1.1, v2_5.1⟩ : Constraint)) ?_)
  refine rend ?_
  replace h := H.done h
  subst h
  exact ret func111 rfl (vs := [.agg (eConstraint (⟨v1_1.1, v2_5.1⟩ : Constraint)).toArray]) (.cell 1 g0_0 rfl (by kernel_rfl) (by kernel_rfl) .nil) rfl (fun W S => S.retQ)
theorem C.s_l1Cur_constraints {fu : Nat} {a0 : List Int} {A0 : Option Addr} {k0 g0 : Nat} {t0 s0 : Int} {r : ((List Constraint) × Int × Int)} (w : World) (h : X.s_l1Cur_constraints fu a0 t0 s0 = some r) (m0 : w.heap[g0]? = some (.cells ([.slice A0 (List.length a0) k0, .int .i64 t0, .int .u64 s0] : List Value).toArray 94 (0, 0))) (h0 : RdT (eI .u8) w (.slice A0 (List.length a0) k0) a0) (q0 : 0 < List.length a0 → ∀ k, (Value.slice A0 (List.length a0) k0).ownBlock = some k → ¬ k = g0) : Calls prog 95 #[.pointer (some ⟨g0, 0, none⟩)] w (RetQR nConstraint 64 g0 94 [.slice A0 (List.length a0) k0, .int .i64 r.2.1, .int .u64 r.2.2] w r.1 (fun v => v)) := by
  refine callsQ (args := [.pointer (some ⟨g0, 0, none⟩)]) m0 func95 rfl ?_
  replace h : H (X.s_l1Cur_constraints fu a0 t0 s0) (fun o => o = r) := H.mk h
  unfold X.s_l1Cur_constraints at h
  refine c_seq ?_
  refine r_start ?_
  refine p 1 ?_
  refine rend ?_
  refine c_seq ?_
  refine r_start ?_
  refine p 1 ?_
  refine rend ?_
  refine c_seq ?_
  refine r_start ?_
  refine p 1 ?_
  obtain ⟨v2_1, hv2_1, h⟩ := H.call h
  refine xx rfl (e_cq (cs' := [.slice A0 (List.length a0) k0, .int .i64 v2_1.2.1, .int .u64 v2_1.2.2]) (v := .int .i64 v2_1.1) 0 [.pointer (some ⟨g0, 0, none⟩), .int .i64 5] func79 (fun W S => C.s_l1Cur_pick W hv2_1 (S.bx 0) ((s_argN h0 q0).out W S) q0) ?_)
  refine p 1 ?_
  refine rend ?_
  refine c_seq ?_
  refine c_seq ?_
  refine r_start ?_
  refine p 1 ?_
  obtain ⟨v3_1, hv3_1, h⟩ := H.call h
  refine xx rfl (e_cq (cs' := [.slice A0 (List.length a0) k0, .int .i64 v3_1.2.1, .int .u64 v3_1.2.2]) (v := .bool v3_1.1) 0 [.pointer (some ⟨g0, 0, none⟩), .int .i64 12] func78 (fun W S => C.s_l1Cur_one W hv3_1 (S.bx 0) ((s_argN h0 q0).out W S) q0) ?_)
  refine rend ?_
  refine c_or v3_1.1 (fun q1 => ?_) (fun q1 => ?_)
  · replace h := H.t q1 h
    refine r_start ?_
    refine p 1 ?_
    obtain ⟨v4_1, hv4_1, h⟩ := H.call h
    refine xx rfl (e_cq (cs' := [.slice A0 (List.length a0) k0, .int .i64 v4_1.2.1, .int .u64 v4_1.2.2]) (v := .int .i64 v4_1.1) 0 [.pointer (some ⟨g0, 0, none⟩), .int .i64 2] func79 (fun W S => C.s_l1Cur_pick W hv4_1 (S.bx 0) ((s_argN h0 q0).out W S) q0) ?_)
    refine p 2 ?_
    refine rend ?_
    refine c_seq ?_
    refine c_block ?_
    refine c_nil nConstraint 64 ?_
    refine joinH (X := (Int × Int × (List Constraint) × Option Addr × Nat)) 0 (H.bnd h) (fun ⟨n7, n8, l9, A10, k11⟩ => (n7, n8, l9)) (fun ⟨n7, n8, l9, A10, k11⟩ => [box g0 94 [.slice A0 (List.length a0) k0, .int .i64 n7, .int .u64 n8], rowT nConstraint w.heap.size 64 (.slice A10 (List.length l9) k11) l9]) (fun ⟨n7, n8, l9, A10, k11⟩ u => (jk u 0 3 (.slice A10 (List.length l9) k11 :: (jk u 4 38 [])))) (fun h hj12 => ?_) ?_
    · skip
      refine loopR (X := (Int × Int × (List Constraint) × Option Addr × Nat)) (fun ⟨n2, n3, l4, A5, k6⟩ => (n2, n3, l4)) (fun ⟨n2, n3, l4, A5, k6⟩ => [box g0 94 [.slice A0 (List.length a0) k0, .int .i64 n2, .int .u64 n3], rowT nConstraint w.heap.size 64 (.slice A5 (List.length l4) k6) l4]) (fun ⟨n2, n3, l4, A5, k6⟩ u => (.pointer (some ⟨g0, 0, none⟩) :: (jk u 1 2 (.slice A5 (List.length l4) k6 :: .int .i64 (wr (10 + v4_1.1)) :: (jk u 5 37 []))))) (v4_1.2.1, v4_1.2.2, ([] : List Constraint), none, 0) h (by kernel_rfl) (by kernel_rfl) ?_
      intro x u h
      obtain ⟨n2, n3, l4, A5, k6⟩ := x
      refine c_seq ?_
      refine c_seq ?_
      refine r_start ?_
      refine p 4 ?_
      refine rend ?_
      refine c_or (decide ((List.length l4 : Int) < (wr (10 + v4_1.1)))) (fun q13 => ?_) (fun q13 => ?_)
      · replace h := H.t q13 h
        refine c_skip ?_
        refine c_block ?_
        refine c_seq ?_
        refine r_start ?_
        refine p 2 ?_
        obtain ⟨v6_2, hv6_2, h⟩ := H.call h
        refine xx rfl (e_cq (cs' := [.slice A0 (List.length a0) k0, .int .i64 v6_2.2.1, .int .u64 v6_2.2.2]) (v := .agg (eConstraint v6_2.1).toArray) 0 [.pointer (some ⟨g0, 0, none⟩)] func111 (fun W S => C.s_l1Cur_constraint W hv6_2 (S.bx 0) ((s_argN h0 q0).out W S) q0) ?_)
        refine xx rfl (e_lit (e := nConstraint) (el := 64) [.agg (eConstraint v6_2.1).toArray] ([v6_2.1] : List Constraint) fun A6_3 k6_3 => ?_)
        obtain ⟨y6_4, hy6_4, h⟩ := H.call h
        refine xx rfl (e_app 1 hy6_4 (s_own 2) fun A6_4 k6_4 => ?_)
        refine p 1 ?_
        refine rend ?_
        refine c_seq ?_
        refine r_start ?_
        refine p 3 ?_
        refine rend ?_
        refine c_seq ?_
        refine r_start ?_
        refine p 3 ?_
        refine br (decide ((List.length y6_4 : Int) > 1)) (fun q14 => ?_) (fun q14 => ?_)
        · replace h := H.t q14 h
          refine o_set 26 (congrArg Value.bool q14) ?_
          refine p 1 ?_
          obtain ⟨v8_4, hv8_4, h⟩ := H.call h
          refine xx rfl (e_cq (cs' := [.slice A0 (List.length a0) k0, .int .i64 v8_4.2.1, .int .u64 v8_4.2.2]) (v := .bool v8_4.1) 0 [.pointer (some ⟨g0, 0, none⟩), .int .i64 3] func78 (fun W S => C.s_l1Cur_one W hv8_4 (S.bx 0) ((s_argN h0 q0).out W S) q0) ?_)
          refine p 1 ?_
          refine rend ?_
          refine c_or v8_4.1 (fun q15 => ?_) (fun q15 => ?_)
          · replace h := H.t q15 h
            refine r_start ?_
            refine p 7 ?_
            obtain ⟨v9_7, hv9_7, h⟩ := H.call h
            refine xx rfl (e_cq (cs' := [.slice A0 (List.length a0) k0, .int .i64 v9_7.2.1, .int .u64 v9_7.2.2]) (v := .int .i64 v9_7.1) 0 [.pointer (some ⟨g0, 0, none⟩), .int .i64 (wr ((List.length y6_4 : Int) - 1))] func79 (fun W S => C.s_l1Cur_pick W hv9_7 (S.bx 0) ((s_argN h0 q0).out W S) q0) ?_)
            obtain ⟨y9_8, hy9_8, h⟩ := H.call h
            refine xq rfl (y_idx (e := nConstraint) (el := 64) hy9_8 (s_own 1)) ?_
            refine xq rfl (y_el (e := nConstraint) 0 (.agg (eConstraint y9_8).toArray) hy9_8 (s_own 1)) ?_
            obtain ⟨y9_10, hy9_10, h⟩ := H.call h
            refine xq rfl (y_idx (e := nConstraint) (el := 64) hy9_10 (s_own 1)) ?_
            refine xx rfl (e_stel (e := nConstraint) (b := y9_8) 1 0 (eConstraint y9_8) hy9_10 (by kernel_rfl) ?_)
            refine o_set 3 (sl_set (A := A6_4) (c := k6_4) (l := y6_4) (n := Int.toNat (wr ((List.length y6_4 : Int) - 1))) (b := y9_8)) ?_
            refine rend ?_
            refine c_inb ?_
            replace h := H.inl h
            exact h (v9_7.2.1, v9_7.2.2, (List.set y6_4 (Int.toNat (wr ((List.length y6_4 : Int) - 1))) y9_8), A6_4, k6_4) _ _ rfl (by kernel_rfl) (by kernel_rfl)
          replace h := H.f q15 h
          refine c_skip ?_
          refine c_inb ?_
          replace h := H.inl h
          exact h (v8_4.2.1, v8_4.2.2, y6_4, A6_4, k6_4) _ _ rfl (by kernel_rfl) (by kernel_rfl)
        replace h := H.f q14 h
        refine o_set 26 (congrArg Value.bool q14) ?_
        refine p 3 ?_
        refine rend ?_
        refine c_f (by kernel_rfl) ?_
        refine c_skip ?_
        refine c_inb ?_
        replace h := H.inl h
        exact h (v6_2.2.1, v6_2.2.2, y6_4, A6_4, k6_4) _ _ rfl (by kernel_rfl) (by kernel_rfl)
      replace h := H.f q13 h
      refine cx ?_
      replace h := H.inr h
      exact hj12 (n2, n3, l4, A5, k6) _ _ h (by kernel_rfl) (by kernel_rfl)
    intro x u h
    obtain ⟨n7, n8, l9, A10, k11⟩ := x
    refine c_seq ?_
    refine r_start ?_
    refine p 2 ?_
    refine rend ?_
    replace h := H.done h
    subst h
    exact ret func95 rfl (vs := [.slice A10 (List.length l9) k11]) (.tmp (by kernel_rfl) .nil) rfl (fun W S => S.retQR (res := fun v => v) 1 (by decide))
  replace h := H.f q1 h
  refine c_skip ?_
  refine c_seq ?_
  refine c_block ?_
  refine c_nil nConstraint 64 ?_
  refine joinH (X := (Int × Int × (List Constraint) × Option Addr × Nat)) 0 (H.bnd h) (fun ⟨n21, n22, l23, A24, k25⟩ => (n21, n22, l23)) (fun ⟨n21, n22, l23, A24, k25⟩ => [box g0 94 [.slice A0 (List.length a0) k0, .int .i64 n21, .int .u64 n22], rowT nConstraint w.heap.size 64 (.slice A24 (List.length l23) k25) l23]) (fun ⟨n21, n22, l23, A24, k25⟩ u => (jk u 0 3 (.slice A24 (List.length l23) k25 :: (jk u 4 38 [])))) (fun h hj26 => ?_) ?_
  · skip
    refine loopR (X := (Int × Int × (List Constraint) × Option Addr × Nat)) (fun ⟨n16, n17, l18, A19, k20⟩ => (n16, n17, l18)) (fun ⟨n16, n17, l18, A19, k20⟩ => [box g0 94 [.slice A0 (List.length a0) k0, .int .i64 n16, .int .u64 n17], rowT nConstraint w.heap.size 64 (.slice A19 (List.length l18) k20) l18]) (fun ⟨n16, n17, l18, A19, k20⟩ u => (.pointer (some ⟨g0, 0, none⟩) :: (jk u 1 2 (.slice A19 (List.length l18) k20 :: .int .i64 v2_1.1 :: (jk u 5 37 []))))) (v3_1.2.1, v3_1.2.2, ([] : List Constraint), none, 0) h (by kernel_rfl) (by kernel_rfl) ?_
    intro x u h
    obtain ⟨n16, n17, l18, A19, k20⟩ := x
    refine c_seq ?_
    refine c_seq ?_
    refine r_start ?_
    refine p 4 ?_
    refine rend ?_
    refine c_or (decide ((List.length l18 : Int) < v2_1.1)) (fun q27 => ?_) (fun q27 => ?_)
    · replace h := H.t q27 h
      refine c_skip ?_
      refine c_block ?_
      refine c_seq ?_
      refine r_start ?_
      refine p 2 ?_
      obtain ⟨v6_2, hv6_2, h⟩ := H.call h
      refine xx rfl (e_cq (cs' := [.slice A0 (List.length a0) k0, .int .i64 v6_2.2.1, .int .u64 v6_2.2.2]) (v := .agg (eConstraint v6_2.1).toArray) 0 [.pointer (some ⟨g0, 0, none⟩)] func111 (fun W S => C.s_l1Cur_constraint W hv6_2 (S.bx 0) ((s_argN h0 q0).out W S) q0) ?_)
      refine xx rfl (e_lit (e := nConstraint) (el := 64) [.agg (eConstraint v6_2.1).toArray] ([v6_2.1] : List Constraint) fun A6_3 k6_3 => ?_)
      obtain ⟨y6_4, hy6_4, h⟩ := H.call h
      refine xx rfl (e_app 1 hy6_4 (s_own 2) fun A6_4 k6_4 => ?_)
      refine p 1 ?_
      refine rend ?_
      refine c_seq ?_
      refine r_start ?_
      refine p 3 ?_
      refine rend ?_
      refine c_seq ?_
      refine r_start ?_
      refine p 3 ?_
      refine br (decide ((List.length y6_4 : Int) > 1)) (fun q28 => ?_) (fun q28 => ?_)
      · replace h := H.t q28 h
        refine o_set 26 (congrArg Value.bool q28) ?_
        refine p 1 ?_
        obtain ⟨v8_4, hv8_4, h⟩ := H.call h
        refine xx rfl (e_cq (cs' := [.slice A0 (List.length a0) k0, .int .i64 v8_4.2.1, .int .u64 v8_4.2.2]) (v := .bool v8_4.1) 0 [.pointer (some ⟨g0, 0, none⟩), .int .i64 3] func78 (fun W S => C.s_l1Cur_one W hv8_4 (S.bx 0) ((s_argN h0 q0).out W S) q0) ?_)
        refine p 1 ?_
        refine rend ?_
        refine c_or v8_4.1 (fun q29 => ?_) (fun q29 => ?_)
        · replace h := H.t q29 h
          refine r_start ?_
          refine p 7 ?_
          obtain ⟨v9_7, hv9_7, h⟩ := H.call h
          refine xx rfl (e_cq (cs' := [.slice A0 (List.length a0) k0, .int .i64 v9_7.2.1, .int .u64 v9_7.2.2]) (v := .int .i64 v9_7.1) 0 [.pointer (some ⟨g0, 0, none⟩), .int .i64 (wr ((List.length y6_4 : Int) - 1))] func79 (fun W S => C.s_l1Cur_pick W hv9_7 (S.bx 0) ((s_argN h0 q0).out W S) q0) ?_)
          obtain ⟨y9_8, hy9_8, h⟩ := H.call h
          refine xq rfl (y_idx (e := nConstraint) (el := 64) hy9_8 (s_own 1)) ?_
          refine xq rfl (y_el (e := nConstraint) 0 (.agg (eConstraint y9_8).toArray) hy9_8 (s_own 1)) ?_
          obtain ⟨y9_10, hy9_10, h⟩ := H.call h
          refine xq rfl (y_idx (e := nConstraint) (el := 64) hy9_10 (s_own 1)) ?_
          refine xx rfl (e_stel (e := nConstraint) (b := y9_8) 1 0 (eConstraint y9_8) hy9_10 (by kernel_rfl) ?_)
          refine o_set 3 (sl_set (A := A6_4) (c := k6_4) (l := y6_4) (n := Int.toNat (wr ((List.length y6_4 : Int) - 1))) (b := y9_8)) ?_
          refine rend ?_
          refine c_inb ?_
          replace h := H.inl h
          exact h (v9_7.2.1, v9_7.2.2, (List.set y6_4 (Int.toNat (wr ((List.length y6_4 : Int) - 1))) y9_8), A6_4, k6_4) _ _ rfl (by kernel_rfl) (by kernel_rfl)
        replace h := H.f q29 h
        refine c_skip ?_
        refine c_inb ?_
        replace h := H.inl h
        exact h (v8_4.2.1, v8_4.2.2, y6_4, A6_4, k6_4) _ _ rfl (by kernel_rfl) (by kernel_rfl)
      replace h := H.f q28 h
      refine o_set 26 (congrArg Value.bool q28) ?_
      refine p 3 ?_
      refine rend ?_
      refine c_f (by kernel_rfl) ?_
      refine c_skip ?_
      refine c_inb ?_
      replace h := H.inl h
      exact h (v6_2.2.1, v6_2.2.2, y6_4, A6_4, k6_4) _ _ rfl (by kernel_rfl) (by kernel_rfl)
    replace h := H.f q27 h
    refine cx ?_
    replace h := H.inr h
    exact hj26 (n16, n17, l18, A19, k20) _ _ h (by kernel_rfl) (by kernel_rfl)
  intro x u h
  obtain ⟨n21, n22, l23, A24, k25⟩ := x
  refine c_seq ?_
  refine r_start ?_
  refine p 2 ?_
  refine rend ?_
  replace h := H.done h
  subst h
  exact ret func95 rfl (vs := [.slice A24 (List.length l23) k25]) (.tmp (by kernel_rfl) .nil) rfl (fun W S => S.retQR (res := fun v => v) 1 (by decide))
theorem C.i_IsConstraint {a0 : Constraint} {r : Bool} (w : World) (h : X.i_IsConstraint a0 = some r) : Calls prog 46 #[.agg (eConstraint a0).toArray] w (Ret w (.bool r)) := by
  refine calls (M := no) (args := [.agg (eConstraint a0).toArray]) func46 rfl ?_
  replace h : H (X.i_IsConstraint a0) (fun o => o = r) := H.mk h
  unfold X.i_IsConstraint at h
  refine c_seq ?_
  refine r_start ?_
  refine xx rfl (x_box (eConstraint a0) fun g0_0 => ?_)
  refine p 1 ?_
  refine rend ?_
  refine c_seq ?_
  refine r_start ?_
  refine p 1 ?_
  refine xx rfl (x_new (Enc.flat (eI .i64) ([0, 0, 0, 0, 0] : List Int)) fun g1_1 => ?_)
  refine xx rfl (x_sto 1 g1_1 0 (Enc.flat (eI .i64) ([18, 9, 4, 3, 9] : List Int)) ?_)
  refine rend ?_
  refine c_seq ?_
  refine as_start 13 13 ?_
  refine ap 0 1 ?_
  refine aq 1 rfl (y_load (.int .i64 a0.Kind) 0 g0_0 0) ?_
  obtain ⟨v2_2, hv2_2, h⟩ := H.call h
  refine aq 2 rfl (y_call [.int .i64 a0.Kind, .int .i64 0, .int .i64 4] (.bool v2_2) func120 (fun W S => C.i_within W hv2_2)) ?_
  refine ap 3 1 ?_
  refine br v2_2 (fun q1 => ?_) (fun q1 => ?_)
  · replace h := H.t q1 h
    refine a_set 8 (congrArg Value.bool q1) ?_
    refine ap 4 1 ?_
    refine aq 5 rfl (y_load (.int .i64 a0.Value) 0 g0_0 1) ?_
    refine ap 6 1 ?_
    refine aq 7 rfl (y_load (.int .i64 a0.Kind) 0 g0_0 0) ?_
    obtain ⟨y2_8, hy2_8, h⟩ := H.call h
    refine aq 8 rfl (y_arp (e := (eI .i64)) (el := 3) (g := g1_1) hy2_8) ?_
    refine aq 9 rfl (y_arl (e := (eI .i64)) 1 (.int .i64 y2_8) hy2_8) ?_
    obtain ⟨v2_10, hv2_10, h⟩ := H.call h
    refine aq 10 rfl (y_call [.int .i64 a0.Value, .int .i64 0, .int .i64 y2_8] (.bool v2_10) func120 (fun W S => C.i_within W hv2_10)) ?_
    refine ap 11 2 ?_
    refine a_done ?_
    replace h := H.done h
    subst h
    exact ret func46 rfl (vs := [.bool v2_10]) (.tmp (by kernel_rfl) .nil) rfl (fun W S => ⟨rfl, S.below⟩)
  replace h := H.f q1 h
  refine a_set 8 (congrArg Value.bool q1) ?_
  refine ap 4 9 ?_
  refine a_done ?_
  replace h := H.done h
  subst h
  exact ret func46 rfl (vs := [.bool false]) (.tmp (by kernel_rfl) .nil) rfl (fun W S => ⟨rfl, S.below⟩)
theorem C.slices_IndexFunc_i_Constraint_i_Constraint {a0 : (List Constraint)} {A0 : Option Addr} {k0 : Nat} {a1 : (Constraint → Option Bool)} {g1 : Nat} {cp1 : List Value} {r : Int} (w : World) (h : X.slices_IndexFunc_i_Constraint_i_Constraint a0 a1 = some r) (h0 : RdT nConstraint w (.slice A0 (List.length a0) k0) a0) (hg1 : isFn prog g1 = true) (hF1 : ∀ (x0 : Constraint) (r : Bool) (W : World), Up w W → a1 x0 = some r → Calls prog g1 (([.agg (eConstraint x0).toArray] : List Value) ++ cp1).toArray W (Ret W (.bool r))) : Calls prog 168 #[.slice A0 (List.length a0) k0, .func (.func g1) #[] cp1.toArray] w (Ret w (.int .i64 r)) := by
  refine calls (M := no) (args := [.slice A0 (List.length a0) k0, .func (.func g1) #[] cp1.toArray]) func168 rfl ?_
  replace h : H (X.slices_IndexFunc_i_Constraint_i_Constraint a0 a1) (fun o => o = r) := H.mk h
  unfold X.slices_IndexFunc_i_Constraint_i_Constraint at h
  refine c_seq ?_
  refine r_start ?_
  refine p 1 ?_
  refine rend ?_
  refine c_seq ?_
  refine c_seq ?_
  refine r_start ?_
  refine p 3 ?_
  refine rend ?_
  refine c_block ?_
  refine joinE (X := Unit) 0 (H.or h) (fun (x : Unit) => x) (fun _ => []) (fun _ u => (jk u 0 19 [])) (fun h hj1 => ?_) ?_
  · skip
    refine rangeR (X := Unit) (s_arg h0) (fun (x : Unit) => x) (fun _ => []) (fun (j2 : Nat) _ u => (.slice A0 (List.length a0) k0 :: .func (.func g1) #[] cp1.toArray :: (jk u 2 5 (.int .i64 (List.length a0 : Int) :: .int .i64 (j2 : Int) :: (jk u 9 10 []))))) () h (by kernel_rfl) (by kernel_rfl) ?_ ?_
    · intro j2 x u x3 q4 hg5 hw6 h
      refine c_seq ?_
      refine r_start ?_
      refine p 1 ?_
      refine rend ?_
      refine c_seq ?_
      refine c_yes q4 ?_
      refine c_skip ?_
      refine c_seq ?_
      refine c_block ?_
      refine c_seq ?_
      refine r_start ?_
      refine p 2 ?_
      refine rend ?_
      refine c_seq ?_
      refine r_start ?_
      refine p 3 ?_
      refine xq rfl (y_idx (e := nConstraint) (el := 64) hg5 (s_arg h0)) ?_
      refine xq rfl (y_el (e := nConstraint) 0 (.agg (eConstraint x3).toArray) hg5 (s_arg h0)) ?_
      obtain ⟨v4_5, hv4_5, h⟩ := H.call h
      refine xq rfl (y_cf cp1 [.agg (eConstraint x3).toArray] (.bool v4_5) hg1 (fun W S => hF1 _ _ W S.below hv4_5)) ?_
      refine rend ?_
      refine c_or v4_5 (fun q7 => ?_) (fun q7 => ?_)
      · replace h := H.t q7 h
        refine c_seq ?_
        refine r_start ?_
        refine p 2 ?_
        refine rend ?_
        replace h := H.inr h
        replace h := H.done h
        subst h
        exact ret func168 rfl (vs := [.int .i64 (j2 : Int)]) (.tmp (by kernel_rfl) .nil) rfl (fun W S => ⟨rfl, S.below⟩)
      replace h := H.f q7 h
      refine c_skip ?_
      refine c_inb ?_
      refine r_start ?_
      refine p 2 ?_
      refine rend ?_
      refine c_set 8 (ci hw6) ?_
      replace h := H.inl h
      exact h () _ _ rfl (by kernel_rfl) (by kernel_rfl)
    · intro x u q4 h
      refine c_seq ?_
      refine r_start ?_
      refine p 1 ?_
      refine rend ?_
      refine c_seq ?_
      refine c_no q4 ?_
      refine cx ?_
      replace h := H.done h
      exact hj1 () _ _ h (by kernel_rfl) (by kernel_rfl)
  intro x u h
  refine c_seq ?_
  refine r_start ?_
  refine p 1 ?_
  refine rend ?_
  replace h := H.done h
  subst h
  exact ret func168 rfl (vs := [.int .i64 (-1)]) (.tmp (by kernel_rfl) .nil) rfl (fun W S => ⟨rfl, S.below⟩)
theorem C.slices_ContainsFunc_i_Constraint_i_Constraint {a0 : (List Constraint)} {A0 : Option Addr} {k0 : Nat} {a1 : (Constraint → Option Bool)} {g1 : Nat} {cp1 : List Value} {r : Bool} (w : World) (h : X.slices_ContainsFunc_i_Constraint_i_Constraint a0 a1 = some r) (h0 : RdT nConstraint w (.slice A0 (List.length a0) k0) a0) (hg1 : isFn prog g1 = true) (hF1 : ∀ (x0 : Constraint) (r : Bool) (W : World), Up w W → a1 x0 = some r → Calls prog g1 (([.agg (eConstraint x0).toArray] : List Value) ++ cp1).toArray W (Ret W (.bool r))) : Calls prog 98 #[.slice A0 (List.length a0) k0, .func (.func g1) #[] cp1.toArray] w (Ret w (.bool r)) := by
  refine calls (M := no) (args := [.slice A0 (List.length a0) k0, .func (.func g1) #[] cp1.toArray]) func98 rfl ?_
  replace h : H (X.slices_ContainsFunc_i_Constraint_i_Constraint a0 a1) (fun o => o = r) := H.mk h
  unfold X.slices_ContainsFunc_i_Constraint_i_Constraint at h
  refine c_seq ?_
  refine r_start ?_
  refine p 1 ?_
  refine rend ?_
  refine c_seq ?_
  refine r_start ?_
  refine p 2 ?_
  obtain ⟨v1_2, hv1_2, h⟩ := H.call h
  refine xq rfl (y_call [.slice A0 (List.length a0) k0, .func (.func g1) #[] cp1.toArray] (.int .i64 v1_2) func168 (fun W S => C.slices_IndexFunc_i_Constraint_i_Constraint W hv1_2 ((s_arg h0).out W S) hg1 (fun x0_2 r W2 hu2 hx2 => hF1 x0_2 r W2 (Up.trans S.below hu2) hx2))) ?_
  refine p 2 ?_
  refine rend ?_
  replace h := H.done h
  subst h
  exact ret func98 rfl (vs := [.bool (decide (v1_2 ≥ 0))]) (.tmp (by kernel_rfl) .nil) rfl (fun W S => ⟨rfl, S.below⟩)
theorem C.i_allOf_i_Constraint_1 {a0 : Constraint} {a1 : (Constraint → Option Bool)} {g1 : Nat} {cp1 : List Value} {p1 : Nat} {r : Bool} (w : World) (h : X.i_allOf_i_Constraint_1 a1 a0 = some r) (hg1 : isFn prog g1 = true) (hF1 : ∀ (x0 : Constraint) (r : Bool) (W : World), Up w W → a1 x0 = some r → Calls prog g1 (([.agg (eConstraint x0).toArray] : List Value) ++ cp1).toArray W (Ret W (.bool r))) (hp1 : w.heap[p1]? = some (.cells ([.func (.func g1) #[] cp1.toArray] : List Value).toArray 75 (0, 0))) : Calls prog 171 #[.agg (eConstraint a0).toArray, .pointer (some ⟨p1, 0, none⟩)] w (Ret w (.bool r)) := by
  refine calls (M := no) (args := [.agg (eConstraint a0).toArray, .pointer (some ⟨p1, 0, none⟩)]) func171 rfl ?_
  replace h : H (X.i_allOf_i_Constraint_1 a1 a0) (fun o => o = r) := H.mk h
  unfold X.i_allOf_i_Constraint_1 at h
  refine c_seq ?_
  refine r_start ?_
  refine xx rfl (x_box (eConstraint a0) fun g0_0 => ?_)
  refine p 1 ?_
  refine rend ?_
  refine c_seq ?_
  refine r_start ?_
  refine xq rfl (y_ld0 (.func (.func g1) #[] cp1.toArray) p1 0 hp1) ?_
  refine xq rfl (y_load (.agg (eConstraint a0).toArray) 0 g0_0 0) ?_
  obtain ⟨v1_2, hv1_2, h⟩ := H.call h
  refine xq rfl (y_cf cp1 [.agg (eConstraint a0).toArray] (.bool v1_2) hg1 (fun W S => hF1 _ _ W S.below hv1_2)) ?_
  refine p 2 ?_
  refine rend ?_
  replace h := H.done h
  subst h
  exact ret func171 rfl (vs := [.bool (!v1_2)]) (.tmp (by kernel_rfl) .nil) rfl (fun W S => ⟨rfl, S.below⟩)
theorem C.i_allOf_i_Constraint {a0 : (List Constraint)} {A0 : Option Addr} {k0 : Nat} {a1 : (Constraint → Option Bool)} {g1 : Nat} {cp1 : List Value} {r : Bool} (w : World) (h : X.i_allOf_i_Constraint a0 a1 = some r) (h0 : RdT nConstraint w (.slice A0 (List.length a0) k0) a0) (hg1 : isFn prog g1 = true) (hF1 : ∀ (x0 : Constraint) (r : Bool) (W : World), Up w W → a1 x0 = some r → Calls prog g1 (([.agg (eConstraint x0).toArray] : List Value) ++ cp1).toArray W (Ret W (.bool r))) : Calls prog 107 #[.slice A0 (List.length a0) k0, .func (.func g1) #[] cp1.toArray] w (Ret w (.bool r)) := by
  refine calls (M := no) (args := [.slice A0 (List.length a0) k0, .func (.func g1) #[] cp1.toArray]) func107 rfl ?_
  replace h : H (X.i_allOf_i_Constraint a0 a1) (fun o => o = r) := H.mk h
  unfold X.i_allOf_i_Constraint at h
  refine c_seq ?_
  refine r_start ?_
  refine xx rfl (x_box [.func (.func g1) #[] cp1.toArray] fun g0_0 => ?_)
  refine p 1 ?_
  refine rend ?_
  refine c_seq ?_
  refine r_start ?_
  refine p 2 ?_
  obtain ⟨v1_2, hv1_2, h⟩ := H.call h
  refine xq rfl (y_call [.slice A0 (List.length a0) k0, .func (.func 171) #[] #[.pointer (some ⟨g0_0, 0, none⟩)]] (.bool v1_2) func98 (fun W S => C.slices_ContainsFunc_i_Constraint_i_Constraint W hv1_2 ((s_arg h0).out W S) (isFn_of func171) (fun x0_2 r W2 hu2 hx2 => C.i_allOf_i_Constraint_1 W2 hx2 hg1 (fun x0_3 r W3 hu3 hx3 => hF1 x0_3 r W3 (Up.trans (Up.trans S.below hu2) hu3) hx3) (bx_up (S.bx 0) hu2)))) ?_
  refine p 2 ?_
  refine rend ?_
  replace h := H.done h
  subst h
  exact ret func107 rfl (vs := [.bool (!v1_2)]) (.tmp (by kernel_rfl) .nil) rfl (fun W S => ⟨rfl, S.below⟩)
theorem C.i_areConstraints {a0 : (List Constraint)} {A0 : Option Addr} {k0 : Nat} {r : Bool} (w : World) (h : X.i_areConstraints a0 = some r) (h0 : RdT nConstraint w (.slice A0 (List.length a0) k0) a0) : Calls prog 96 #[.slice A0 (List.length a0) k0] w (Ret w (.bool r)) := by
  refine calls (M := no) (args := [.slice A0 (List.length a0) k0]) func96 rfl ?_
  replace h : H (X.i_areConstraints a0) (fun o => o = r) := H.mk h
  unfold X.i_areConstraints at h
  refine c_seq ?_
  refine r_start ?_
  refine p 1 ?_
  refine rend ?_
  refine c_seq ?_
  refine r_start ?_
  refine p 4 ?_
  refine br (decide ((List.length a0 : Int) ≤ 10)) (fun q1 => ?_) (fun q1 => ?_)
  · replace h := H.t q1 h
    refine o_set 6 (congrArg Value.bool q1) ?_
    refine p 1 ?_
    obtain ⟨v1_5, hv1_5, h⟩ := H.call h
    refine xq rfl (y_call [.slice A0 (List.length a0) k0, .func (.func 46) #[] #[]] (.bool v1_5) func107 (fun W S => C.i_allOf_i_Constraint W hv1_5 ((s_arg h0).out W S) (isFn_of func46) (fun x0_2 r W2 hu2 hx2 => C.i_IsConstraint W2 hx2))) ?_
    refine p 2 ?_
    refine rend ?_
    replace h := H.done h
    subst h
    exact ret func96 rfl (vs := [.bool v1_5]) (.tmp (by kernel_rfl) .nil) rfl (fun W S => ⟨rfl, S.below⟩)
  replace h := H.f q1 h
  refine o_set 6 (congrArg Value.bool q1) ?_
  refine p 4 ?_
  refine rend ?_
  replace h := H.done h
  subst h
  exact ret func96 rfl (vs := [.bool false]) (.tmp (by kernel_rfl) .nil) rfl (fun W S => ⟨rfl, S.below⟩)
theorem C.s_ruGood {a0 : Constraint} {r : Bool} (w : World) (h : X.s_ruGood a0 = some r) : Calls prog 109 #[.agg (eConstraint a0).toArray] w (Ret w (.bool r)) := by
  refine calls (M := no) (args := [.agg (eConstraint a0).toArray]) func109 rfl ?_
  replace h : H (X.s_ruGood a0) (fun o => o = r) := H.mk h
  unfold X.s_ruGood at h
  refine c_seq ?_
  refine r_start ?_
  refine xx rfl (x_box (eConstraint a0) fun g0_0 => ?_)
  refine p 1 ?_
  refine rend ?_
  refine c_seq ?_
  refine as_start 22 22 ?_
  refine ap 0 1 ?_
  refine aq 1 rfl (y_load (.int .i64 a0.Kind) 0 g0_0 0) ?_
  obtain ⟨v1_2, hv1_2, h⟩ := H.call h
  refine aq 2 rfl (y_call [.int .i64 a0.Kind, .int .i64 0, .int .i64 4] (.bool v1_2) func145 (fun W S => C.s_l1In W hv1_2)) ?_
  refine ap 3 1 ?_
  refine br v1_2 (fun q1 => ?_) (fun q1 => ?_)
  · replace h := H.t q1 h
    refine a_set 6 (congrArg Value.bool q1) ?_
    refine ap 4 1 ?_
    refine aq 5 rfl (y_load (.int .i64 a0.Value) 0 g0_0 1) ?_
    refine ap 6 1 ?_
    refine aq 7 rfl (y_load (.int .i64 a0.Kind) 0 g0_0 0) ?_
    obtain ⟨v1_8, hv1_8, h⟩ := H.call h
    refine aq 8 rfl (y_call [.int .i64 a0.Kind] (.int .i64 v1_8) func172 (fun W S => C.s_ruMost W hv1_8)) ?_
    obtain ⟨v1_9, hv1_9, h⟩ := H.call h
    refine aq 9 rfl (y_call [.int .i64 a0.Value, .int .i64 0, .int .i64 v1_8] (.bool v1_9) func145 (fun W S => C.s_l1In W hv1_9)) ?_
    refine ap 10 2 ?_
    refine br v1_9 (fun q2 => ?_) (fun q2 => ?_)
    · replace h := H.t q2 h
      refine a_set 14 (congrArg Value.bool q2) ?_
      refine ap 12 1 ?_
      refine aq 13 rfl (y_load (.int .i64 a0.Kind) 0 g0_0 0) ?_
      refine ap 14 2 ?_
      refine br (a0.Kind != 3) (fun q3 => ?_) (fun q3 => ?_)
      · replace h := H.t q3 h
        refine a_set 18 (congrArg Value.bool q3) ?_
        refine ap 16 6 ?_
        refine a_done ?_
        replace h := H.done h
        subst h
        exact ret func109 rfl (vs := [.bool true]) (.tmp (by kernel_rfl) .nil) rfl (fun W S => ⟨rfl, S.below⟩)
      replace h := H.f q3 h
      refine a_set 18 (congrArg Value.bool q3) ?_
      refine ap 16 1 ?_
      refine aq 17 rfl (y_load (.int .i64 a0.Value) 0 g0_0 1) ?_
      obtain ⟨v1_18, hv1_18, h⟩ := H.call h
      refine aq 18 rfl (y_call [.int .i64 a0.Value, .int .i64 0, .int .i64 3] (.bool v1_18) func145 (fun W S => C.s_l1In W hv1_18)) ?_
      refine ap 19 3 ?_
      refine a_done ?_
      replace h := H.done h
      subst h
      exact ret func109 rfl (vs := [.bool v1_18]) (.tmp (by kernel_rfl) .nil) rfl (fun W S => ⟨rfl, S.below⟩)
    replace h := H.f q2 h
    refine a_set 14 (congrArg Value.bool q2) ?_
    refine ap 12 10 ?_
    refine a_done ?_
    replace h := H.done h
    subst h
    exact ret func109 rfl (vs := [.bool false]) (.tmp (by kernel_rfl) .nil) rfl (fun W S => ⟨rfl, S.below⟩)
  replace h := H.f q1 h
  refine a_set 6 (congrArg Value.bool q1) ?_
  refine ap 4 18 ?_
  refine a_done ?_
  replace h := H.done h
  subst h
  exact ret func109 rfl (vs := [.bool false]) (.tmp (by kernel_rfl) .nil) rfl (fun W S => ⟨rfl, S.below⟩)
theorem C.s_ruAll {a0 : (List Constraint)} {A0 : Option Addr} {k0 : Nat} {r : Bool} (w : World) (h : X.s_ruAll a0 = some r) (h0 : RdT nConstraint w (.slice A0 (List.length a0) k0) a0) : Calls prog 100 #[.slice A0 (List.length a0) k0] w (Ret w (.bool r)) := by
  refine calls (M := no) (args := [.slice A0 (List.length a0) k0]) func100 rfl ?_
  replace h : H (X.s_ruAll a0) (fun o => o = r) := H.mk h
  unfold X.s_ruAll at h
  refine c_seq ?_
  refine r_start ?_
  refine p 1 ?_
  refine rend ?_
  refine c_seq ?_
  refine c_seq ?_
  refine r_start ?_
  refine p 3 ?_
  refine rend ?_
  refine c_block ?_
  refine joinE (X := Unit) 0 (H.or h) (fun (x : Unit) => x) (fun _ => []) (fun _ u => (.slice A0 (List.length a0) k0 :: (jk u 1 17 []))) (fun h hj1 => ?_) ?_
  · skip
    refine rangeR (X := Unit) (s_arg h0) (fun (x : Unit) => x) (fun _ => []) (fun (j2 : Nat) _ u => (.slice A0 (List.length a0) k0 :: (jk u 1 4 (.slice A0 (List.length a0) k0 :: .int .i64 (List.length a0 : Int) :: .int .i64 (j2 : Int) :: (jk u 8 10 []))))) () h (by kernel_rfl) (by kernel_rfl) ?_ ?_
    · intro j2 x u x3 q4 hg5 hw6 h
      refine c_seq ?_
      refine r_start ?_
      refine p 1 ?_
      refine rend ?_
      refine c_seq ?_
      refine c_yes q4 ?_
      refine c_skip ?_
      refine c_seq ?_
      refine c_block ?_
      refine c_seq ?_
      refine r_start ?_
      refine xq rfl (y_idx (e := nConstraint) (el := 64) hg5 (s_arg h0)) ?_
      refine xq rfl (y_el (e := nConstraint) 0 (.agg (eConstraint x3).toArray) hg5 (s_arg h0)) ?_
      refine xx rfl (x_new (eConstraint zConstraint) fun g3_2 => ?_)
      refine xx rfl (x_sto 0 g3_2 0 (eConstraint x3) ?_)
      refine rend ?_
      refine c_seq ?_
      refine r_start ?_
      refine xq rfl (y_load (.agg (eConstraint x3).toArray) 0 g3_2 0) ?_
      obtain ⟨v4_1, hv4_1, h⟩ := H.call h
      refine xq rfl (y_call [.agg (eConstraint x3).toArray] (.bool v4_1) func109 (fun W S => C.s_ruGood W hv4_1)) ?_
      refine p 1 ?_
      refine rend ?_
      refine c_or (!v4_1) (fun q7 => ?_) (fun q7 => ?_)
      · replace h := H.t q7 h
        refine c_seq ?_
        refine r_start ?_
        refine p 1 ?_
        refine rend ?_
        replace h := H.inr h
        replace h := H.done h
        subst h
        exact ret func100 rfl (vs := [.bool false]) (.tmp (by kernel_rfl) .nil) rfl (fun W S => ⟨rfl, S.below⟩)
      replace h := H.f q7 h
      refine c_skip ?_
      refine c_inb ?_
      refine r_start ?_
      refine p 2 ?_
      refine rend ?_
      refine c_set 7 (ci hw6) ?_
      replace h := H.inl h
      exact h () _ _ rfl (by kernel_rfl) (by kernel_rfl)
    · intro x u q4 h
      refine c_seq ?_
      refine r_start ?_
      refine p 1 ?_
      refine rend ?_
      refine c_seq ?_
      refine c_no q4 ?_
      refine cx ?_
      replace h := H.done h
      exact hj1 () _ _ h (by kernel_rfl) (by kernel_rfl)
  intro x u h
  refine c_seq ?_
  refine r_start ?_
  refine p 4 ?_
  refine rend ?_
  replace h := H.done h
  subst h
  exact ret func100 rfl (vs := [.bool (decide ((List.length a0 : Int) ≤ 10))]) (.tmp (by kernel_rfl) .nil) rfl (fun W S => ⟨rfl, S.below⟩)
theorem C.s_DrawLawfulSigns {fu : Nat} {a0 : (List Int)} {A0 : Option Addr} {k0 : Nat} {r : ((List Sign) × (List Constraint))} (w : World) (h : X.s_DrawLawfulSigns fu a0 = some r) (h0 : RdT (eI .u8) w (.slice A0 (List.length a0) k0) a0) : Calls prog 37 #[.slice A0 (List.length a0) k0] w (RetR2 nSign 38 nConstraint 64 w r.1 r.2 (fun v u => .tuple #[v, u])) := by
  refine calls (M := no) (args := [.slice A0 (List.length a0) k0]) func37 rfl ?_
  replace h : H (X.s_DrawLawfulSigns fu a0) (fun o => o = r) := H.mk h
  unfold X.s_DrawLawfulSigns at h
  refine c_seq ?_
  refine r_start ?_
  refine p 2 ?_
  refine rend ?_
  refine c_seq ?_
  refine r_start ?_
  refine p 2 ?_
  refine xx rfl (x_box [.slice A0 (List.length a0) k0, .int .i64 0, .int .u64 0] fun g1_2 => ?_)
  refine p 1 ?_
  refine rend ?_
  refine c_seq ?_
  refine r_start ?_
  refine p 1 ?_
  obtain ⟨v2_1, hv2_1, h⟩ := H.call h
  refine xx rfl (e_cqR (cs' := [.slice A0 (List.length a0) k0, .int .i64 v2_1.2.1, .int .u64 v2_1.2.2]) 0 [.pointer (some ⟨g1_2, 0, none⟩)] (fun v => v) func77 (fun W S => C.s_l1Cur_signList W hv2_1 (S.bx 0) ((s_arg h0).out W S) (ap_arg h0 S 0)) fun A2_1 k2_1 => ?_)
  refine p 1 ?_
  obtain ⟨v2_3, hv2_3, h⟩ := H.call h
  refine xx rfl (e_cqR (cs' := [.slice A0 (List.length a0) k0, .int .i64 v2_3.2.1, .int .u64 v2_3.2.2]) 0 [.pointer (some ⟨g1_2, 0, none⟩)] (fun v => v) func95 (fun W S => C.s_l1Cur_constraints W hv2_3 (S.bx 0) ((s_arg h0).out W S) (ap_arg h0 S 0)) fun A2_3 k2_3 => ?_)
  refine p 2 ?_
  refine rend ?_
  replace h := H.done h
  subst h
  exact ret func37 rfl (vs := [.slice A2_1 (List.length v2_1.1) k2_1, .slice A2_3 (List.length v2_3.1) k2_3]) (.tmp (by kernel_rfl) (.tmp (by kernel_rfl) .nil)) rfl (fun W S => ⟨_, _, _, _, rfl, (S.row 1), (S.row 2), (S.two2 1 2 (by decide)), S.below⟩)
theorem C.i_those_i_Sign {a0 : (List Sign)} {A0 : Option Addr} {k0 : Nat} {a1 : (Sign → Option Bool)} {g1 : Nat} {cp1 : List Value} {r : (List Int)} (w : World) (h : X.i_those_i_Sign a0 a1 = some r) (h0 : RdT nSign w (.slice A0 (List.length a0) k0) a0) (hg1 : isFn prog g1 = true) (hF1 : ∀ (x0 : Sign) (r : Bool) (W : World), Up w W → a1 x0 = some r → Calls prog g1 (([.agg (eSign x0).toArray] : List Value) ++ cp1).toArray W (Ret W (.bool r))) : Calls prog 103 #[.slice A0 (List.length a0) k0, .func (.func g1) #[] cp1.toArray] w (RetR (eI .i64) 3 w r (fun v => v)) := by
  refine calls (M := no) (args := [.slice A0 (List.length a0) k0, .func (.func g1) #[] cp1.toArray]) func103 rfl ?_
  replace h : H (X.i_those_i_Sign a0 a1) (fun o => o = r) := H.mk h
  unfold X.i_those_i_Sign at h
  refine c_seq ?_
  refine r_start ?_
  refine p 1 ?_
  refine rend ?_
  refine c_seq ?_
  refine r_start ?_
  refine p 1 ?_
  refine rend ?_
  refine c_seq ?_
  refine c_seq ?_
  refine r_start ?_
  refine p 3 ?_
  refine rend ?_
  refine c_block ?_
  refine c_nil (eI .i64) 3 ?_
  refine joinH (X := ((List Int) × Option Addr × Nat)) 0 (H.bnd h) (fun ⟨l4, A5, k6⟩ => l4) (fun ⟨l4, A5, k6⟩ => [rowT (eI .i64) w.heap.size 3 (.slice A5 (List.length l4) k6) l4]) (fun ⟨l4, A5, k6⟩ u => (jk u 0 5 (.slice A5 (List.length l4) k6 :: (jk u 6 18 [])))) (fun h hj7 => ?_) ?_
  · skip
    refine rangeR (X := ((List Int) × Option Addr × Nat)) (s_arg h0) (fun ⟨l1, A2, k3⟩ => l1) (fun ⟨l1, A2, k3⟩ => [rowT (eI .i64) w.heap.size 3 (.slice A2 (List.length l1) k3) l1]) (fun (j8 : Nat) ⟨l1, A2, k3⟩ u => (jk u 0 1 (.func (.func g1) #[] cp1.toArray :: (jk u 2 3 (.slice A2 (List.length l1) k3 :: (jk u 6 2 (.slice A0 (List.length a0) k0 :: .int .i64 (List.length a0 : Int) :: .int .i64 (j8 : Int) :: (jk u 11 13 [])))))))) (([] : List Int), none, 0) h (by kernel_rfl) (by kernel_rfl) ?_ ?_
    · intro j8 x u x9 q10 hg11 hw12 h
      obtain ⟨l1, A2, k3⟩ := x
      refine c_seq ?_
      refine r_start ?_
      refine p 1 ?_
      refine rend ?_
      refine c_seq ?_
      refine c_yes q10 ?_
      refine c_skip ?_
      refine c_seq ?_
      refine c_block ?_
      refine c_seq ?_
      refine r_start ?_
      refine p 1 ?_
      refine xq rfl (y_idx (e := nSign) (el := 38) hg11 (s_arg h0)) ?_
      refine xq rfl (y_el (e := nSign) 0 (.agg (eSign x9).toArray) hg11 (s_arg h0)) ?_
      refine xx rfl (x_new (eSign zSign) fun g4_3 => ?_)
      refine p 1 ?_
      refine xx rfl (x_sto 1 g4_3 0 (eSign x9) ?_)
      refine rend ?_
      refine c_seq ?_
      refine r_start ?_
      refine p 1 ?_
      refine xq rfl (y_load (.agg (eSign x9).toArray) 1 g4_3 0) ?_
      obtain ⟨v5_2, hv5_2, h⟩ := H.call h
      refine xq rfl (y_cf cp1 [.agg (eSign x9).toArray] (.bool v5_2) hg1 (fun W S => hF1 _ _ W S.below hv5_2)) ?_
      refine rend ?_
      refine c_or v5_2 (fun q13 => ?_) (fun q13 => ?_)
      · replace h := H.t q13 h
        refine r_start ?_
        refine p 2 ?_
        refine xx rfl (e_lit (e := (eI .i64)) (el := 3) [.int .i64 (j8 : Int)] ([(j8 : Int)] : List Int) fun A6_2 k6_2 => ?_)
        obtain ⟨y6_3, hy6_3, h⟩ := H.call h
        refine xx rfl (e_app 0 hy6_3 (s_own 2) fun A6_3 k6_3 => ?_)
        refine p 1 ?_
        refine rend ?_
        refine c_inb ?_
        refine r_start ?_
        refine p 2 ?_
        refine rend ?_
        refine c_set 10 (ci hw12) ?_
        replace h := H.inl h
        exact h (y6_3, A6_3, k6_3) _ _ rfl (by kernel_rfl) (by kernel_rfl)
      replace h := H.f q13 h
      refine c_skip ?_
      refine c_inb ?_
      refine r_start ?_
      refine p 2 ?_
      refine rend ?_
      refine c_set 10 (ci hw12) ?_
      replace h := H.inl h
      exact h (l1, A2, k3) _ _ rfl (by kernel_rfl) (by kernel_rfl)
    · intro x u q10 h
      obtain ⟨l1, A2, k3⟩ := x
      refine c_seq ?_
      refine r_start ?_
      refine p 1 ?_
      refine rend ?_
      refine c_seq ?_
      refine c_no q10 ?_
      refine cx ?_
      replace h := H.done h
      exact hj7 (l1, A2, k3) _ _ h (by kernel_rfl) (by kernel_rfl)
  intro x u h
  obtain ⟨l4, A5, k6⟩ := x
  refine c_seq ?_
  refine r_start ?_
  refine p 2 ?_
  refine rend ?_
  replace h := H.done h
  subst h
  exact ret func103 rfl (vs := [.slice A5 (List.length l4) k6]) (.tmp (by kernel_rfl) .nil) rfl (fun W S => ⟨_, _, rfl, S.row 0, S.below⟩)
theorem C.i_Sign_kind {a0 : Sign} {r : Int} (w : World) (h : X.i_Sign_kind a0 = some r) : Calls prog 170 #[.agg (eSign a0).toArray] w (Ret w (.int .i64 r)) := by
  refine calls (M := no) (args := [.agg (eSign a0).toArray]) func170 rfl ?_
  replace h : H (X.i_Sign_kind a0) (fun o => o = r) := H.mk h
  unfold X.i_Sign_kind at h
  refine c_seq ?_
  refine r_start ?_
  refine xx rfl (x_box (eSign a0) fun g0_0 => ?_)
  refine p 1 ?_
  refine rend ?_
  refine c_seq ?_
  refine c_block ?_
  refine c_seq ?_
  refine r_start ?_
  refine p 1 ?_
  refine xq rfl (y_load (.bool a0.Two) 0 g0_0 13) ?_
  refine p 2 ?_
  refine rend ?_
  refine c_or (!a0.Two) (fun q1 => ?_) (fun q1 => ?_)
  · replace h := H.t q1 h
    refine c_seq ?_
    refine r_start ?_
    refine p 1 ?_
    refine rend ?_
    replace h := H.done h
    subst h
    exact ret func170 rfl (vs := [.int .i64 0]) (.tmp (by kernel_rfl) .nil) rfl (fun W S => ⟨rfl, S.below⟩)
  replace h := H.f q1 h
  refine c_seq ?_
  refine r_start ?_
  refine p 1 ?_
  refine xq rfl (y_load (.agg (eHand a0.Other).toArray) 0 g0_0 14) ?_
  obtain ⟨v3_2, hv3_2, h⟩ := H.call h
  refine xq rfl (y_call [.agg (eHand a0.Other).toArray] (.bool v3_2) func157 (fun W S => C.i_Hand_moves W hv3_2)) ?_
  refine p 1 ?_
  refine rend ?_
  refine c_or v3_2 (fun q2 => ?_) (fun q2 => ?_)
  · replace h := H.t q2 h
    refine c_seq ?_
    refine r_start ?_
    refine p 1 ?_
    refine rend ?_
    replace h := H.done h
    subst h
    exact ret func170 rfl (vs := [.int .i64 1]) (.tmp (by kernel_rfl) .nil) rfl (fun W S => ⟨rfl, S.below⟩)
  replace h := H.f q2 h
  refine c_seq ?_
  refine r_start ?_
  refine p 2 ?_
  refine xq rfl (y_load (.agg (eShape a0.Other.Shape).toArray) 0 g0_0 14) ?_
  refine p 2 ?_
  refine xq rfl (y_load (.agg (eShape a0.Main.Shape).toArray) 0 g0_0 0) ?_
  refine p 2 ?_
  refine rend ?_
  refine c_or (qShape a0.Other.Shape a0.Main.Shape) (fun q3 => ?_) (fun q3 => ?_)
  · replace h := H.t q3 h
    refine c_seq ?_
    refine r_start ?_
    refine p 1 ?_
    refine rend ?_
    replace h := H.done h
    subst h
    exact ret func170 rfl (vs := [.int .i64 2]) (.tmp (by kernel_rfl) .nil) rfl (fun W S => ⟨rfl, S.below⟩)
  replace h := H.f q3 h
  refine c_skip ?_
  refine c_inb ?_
  refine c_seq ?_
  refine r_start ?_
  refine p 1 ?_
  refine rend ?_
  replace h := H.done h
  subst h
  exact ret func170 rfl (vs := [.int .i64 3]) (.tmp (by kernel_rfl) .nil) rfl (fun W S => ⟨rfl, S.below⟩)
theorem C.i_Constraint_keptBy {a0 : Constraint} {a1 : Sign} {r : Bool} (w : World) (h : X.i_Constraint_keptBy a0 a1 = some r) : Calls prog 105 #[.agg (eConstraint a0).toArray, .agg (eSign a1).toArray] w (Ret w (.bool r)) := by
  refine calls (M := no) (args := [.agg (eConstraint a0).toArray, .agg (eSign a1).toArray]) func105 rfl ?_
  replace h : H (X.i_Constraint_keptBy a0 a1) (fun o => o = r) := H.mk h
  unfold X.i_Constraint_keptBy at h
  refine c_seq ?_
  refine r_start ?_
  refine xx rfl (x_box (eConstraint a0) fun g0_0 => ?_)
  refine xx rfl (x_box (eSign a1) fun g0_1 => ?_)
  refine p 1 ?_
  refine rend ?_
  refine c_seq ?_
  refine c_seq ?_
  refine r_start ?_
  refine p 1 ?_
  refine xq rfl (y_load (.int .i64 a0.Kind) 0 g0_0 0) ?_
  refine rend ?_
  refine c_block ?_
  refine c_seq ?_
  refine r_start ?_
  refine p 2 ?_
  refine rend ?_
  refine c_or (a0.Kind == 0) (fun q1 => ?_) (fun q1 => ?_)
  · replace h := H.t q1 h
    refine c_seq ?_
    refine as_start 6 6 ?_
    refine aq 0 rfl (y_load (.agg (eSign a1).toArray) 1 g0_1 0) ?_
    obtain ⟨v3_1, hv3_1, h⟩ := H.call h
    refine aq 1 rfl (y_call [.agg (eSign a1).toArray] (.int .i64 v3_1) func89 (fun W S => C.i_Sign_steps W hv3_1)) ?_
    refine ap 2 1 ?_
    refine aq 3 rfl (y_load (.int .i64 a0.Value) 0 g0_0 1) ?_
    refine ap 4 2 ?_
    refine a_done ?_
    replace h := H.done h
    subst h
    exact ret func105 rfl (vs := [.bool (decide (v3_1 ≤ a0.Value))]) (.tmp (by kernel_rfl) .nil) rfl (fun W S => ⟨rfl, S.below⟩)
  replace h := H.f q1 h
  refine c_seq ?_
  refine r_start ?_
  refine p 2 ?_
  refine rend ?_
  refine c_or (a0.Kind == 1) (fun q2 => ?_) (fun q2 => ?_)
  · replace h := H.t q2 h
    refine c_seq ?_
    refine r_start ?_
    refine p 3 ?_
    refine xq rfl (y_load (.int .i64 a1.Main.Place.Region) 1 g0_1 8) ?_
    refine p 1 ?_
    refine xq rfl (y_load (.int .i64 a0.Value) 0 g0_0 1) ?_
    refine p 2 ?_
    refine br (a1.Main.Place.Region != a0.Value) (fun q3 => ?_) (fun q3 => ?_)
    · replace h := H.t q3 h
      refine o_set 23 (congrArg Value.bool q3) ?_
      refine p 1 ?_
      refine xq rfl (y_load (.bool a1.Two) 1 g0_1 13) ?_
      refine p 1 ?_
      refine br a1.Two (fun q4 => ?_) (fun q4 => ?_)
      · replace h := H.t q4 h
        refine o_set 26 (congrArg Value.bool q4) ?_
        refine p 3 ?_
        refine xq rfl (y_load (.int .i64 a1.Other.Place.Region) 1 g0_1 22) ?_
        refine p 1 ?_
        refine xq rfl (y_load (.int .i64 a0.Value) 0 g0_0 1) ?_
        refine p 5 ?_
        refine rend ?_
        replace h := H.done h
        subst h
        exact ret func105 rfl (vs := [.bool (!(a1.Other.Place.Region == a0.Value))]) (.tmp (by kernel_rfl) .nil) rfl (fun W S => ⟨rfl, S.below⟩)
      replace h := H.f q4 h
      refine o_set 26 (congrArg Value.bool q4) ?_
      refine p 11 ?_
      refine rend ?_
      replace h := H.done h
      subst h
      exact ret func105 rfl (vs := [.bool true]) (.tmp (by kernel_rfl) .nil) rfl (fun W S => ⟨rfl, S.below⟩)
    replace h := H.f q3 h
    refine o_set 23 (congrArg Value.bool q3) ?_
    refine p 14 ?_
    refine rend ?_
    replace h := H.done h
    subst h
    exact ret func105 rfl (vs := [.bool false]) (.tmp (by kernel_rfl) .nil) rfl (fun W S => ⟨rfl, S.below⟩)
  replace h := H.f q2 h
  refine c_seq ?_
  refine r_start ?_
  refine p 2 ?_
  refine rend ?_
  refine c_or (a0.Kind == 2) (fun q5 => ?_) (fun q5 => ?_)
  · replace h := H.t q5 h
    refine c_seq ?_
    refine as_start 8 8 ?_
    refine ap 0 2 ?_
    refine aq 2 rfl (y_load (.agg (eShape a1.Main.Shape).toArray) 1 g0_1 0) ?_
    obtain ⟨v7_3, hv7_3, h⟩ := H.call h
    refine aq 3 rfl (y_call [.agg (eShape a1.Main.Shape).toArray] (.int .i64 v7_3) func92 (fun W S => C.i_Shape_open W hv7_3)) ?_
    refine ap 4 1 ?_
    refine aq 5 rfl (y_load (.int .i64 a0.Value) 0 g0_0 1) ?_
    refine ap 6 2 ?_
    refine a_done ?_
    replace h := H.done h
    subst h
    exact ret func105 rfl (vs := [.bool (decide (v7_3 ≥ a0.Value))]) (.tmp (by kernel_rfl) .nil) rfl (fun W S => ⟨rfl, S.below⟩)
  replace h := H.f q5 h
  refine c_seq ?_
  refine r_start ?_
  refine p 2 ?_
  refine rend ?_
  refine c_or (a0.Kind == 3) (fun q6 => ?_) (fun q6 => ?_)
  · replace h := H.t q6 h
    refine c_seq ?_
    refine as_start 6 6 ?_
    refine aq 0 rfl (y_load (.agg (eSign a1).toArray) 1 g0_1 0) ?_
    obtain ⟨v9_1, hv9_1, h⟩ := H.call h
    refine aq 1 rfl (y_call [.agg (eSign a1).toArray] (.int .i64 v9_1) func170 (fun W S => C.i_Sign_kind W hv9_1)) ?_
    refine ap 2 1 ?_
    refine aq 3 rfl (y_load (.int .i64 a0.Value) 0 g0_0 1) ?_
    refine ap 4 2 ?_
    refine a_done ?_
    replace h := H.done h
    subst h
    exact ret func105 rfl (vs := [.bool (v9_1 != a0.Value)]) (.tmp (by kernel_rfl) .nil) rfl (fun W S => ⟨rfl, S.below⟩)
  replace h := H.f q6 h
  refine c_skip ?_
  refine c_inb ?_
  refine c_seq ?_
  refine r_start ?_
  refine p 3 ?_
  refine xq rfl (y_load (.int .i64 a1.Main.Place.Region) 1 g0_1 8) ?_
  refine p 1 ?_
  refine xq rfl (y_load (.int .i64 a0.Value) 0 g0_0 1) ?_
  refine p 2 ?_
  refine rend ?_
  replace h := H.done h
  subst h
  exact ret func105 rfl (vs := [.bool (decide (a1.Main.Place.Region ≤ a0.Value))]) (.tmp (by kernel_rfl) .nil) rfl (fun W S => ⟨rfl, S.below⟩)
theorem C.i_BreakersOf_1 {a0 : Sign} {a1 : Constraint} {p1 : Nat} {r : Bool} (w : World) (h : X.i_BreakersOf_1 a1 a0 = some r) (hp1 : w.heap[p1]? = some (.cells (eConstraint a1 : List Value).toArray 64 (0, 0))) : Calls prog 104 #[.agg (eSign a0).toArray, .pointer (some ⟨p1, 0, none⟩)] w (Ret w (.bool r)) := by
  refine calls (M := no) (args := [.agg (eSign a0).toArray, .pointer (some ⟨p1, 0, none⟩)]) func104 rfl ?_
  replace h : H (X.i_BreakersOf_1 a1 a0) (fun o => o = r) := H.mk h
  unfold X.i_BreakersOf_1 at h
  refine c_seq ?_
  refine r_start ?_
  refine xx rfl (x_box (eSign a0) fun g0_0 => ?_)
  refine p 1 ?_
  refine rend ?_
  refine c_seq ?_
  refine r_start ?_
  refine xq rfl (y_ld0 (.agg (eConstraint a1).toArray) p1 0 hp1) ?_
  refine xq rfl (y_load (.agg (eSign a0).toArray) 0 g0_0 0) ?_
  obtain ⟨v1_2, hv1_2, h⟩ := H.call h
  refine xq rfl (y_call [.agg (eConstraint a1).toArray, .agg (eSign a0).toArray] (.bool v1_2) func105 (fun W S => C.i_Constraint_keptBy W hv1_2)) ?_
  refine p 2 ?_
  refine rend ?_
  replace h := H.done h
  subst h
  exact ret func104 rfl (vs := [.bool (!v1_2)]) (.tmp (by kernel_rfl) .nil) rfl (fun W S => ⟨rfl, S.below⟩)
theorem C.i_BreakersOf {fu : Nat} {a0 : (List Sign)} {A0 : Option Addr} {k0 : Nat} {a1 : Constraint} {r : ((List Int) × Bool)} (w : World) (h : X.i_BreakersOf fu a0 a1 = some r) (h0 : RdT nSign w (.slice A0 (List.length a0) k0) a0) : Calls prog 33 #[.slice A0 (List.length a0) k0, .agg (eConstraint a1).toArray] w (RetR (eI .i64) 3 w r.1 (fun v => .tuple #[v, .bool r.2])) := by
  refine calls (M := no) (args := [.slice A0 (List.length a0) k0, .agg (eConstraint a1).toArray]) func33 rfl ?_
  replace h : H (X.i_BreakersOf fu a0 a1) (fun o => o = r) := H.mk h
  unfold X.i_BreakersOf at h
  refine c_seq ?_
  refine r_start ?_
  refine xx rfl (x_box (eConstraint a1) fun g0_0 => ?_)
  refine p 2 ?_
  refine rend ?_
  refine c_seq ?_
  refine c_seq ?_
  refine r_start ?_
  refine p 1 ?_
  obtain ⟨v1_1, hv1_1, h⟩ := H.call h
  refine xq rfl (y_call [.slice A0 (List.length a0) k0, .int .i64 20] (.bool v1_1) func80 (fun W S => C.i_areSigns W hv1_1 ((s_arg h0).out W S))) ?_
  refine p 2 ?_
  refine br (!v1_1) (fun q1 => ?_) (fun q1 => ?_)
  · replace h := H.t q1 h
    refine o_set 9 (congrArg Value.bool q1) ?_
    refine p 4 ?_
    refine rend ?_
    refine c_t (by kernel_rfl) ?_
    refine c_seq ?_
    refine r_start ?_
    refine p 2 ?_
    refine rend ?_
    replace h := H.done h
    subst h
    exact ret func33 rfl (vs := [.slice none 0 0, .bool false]) (.tmp (by kernel_rfl) (.tmp (by kernel_rfl) .nil)) rfl (fun W S => ⟨none, 0, rfl, World.ownsRow_nil _ _ _ _, S.below⟩)
  replace h := H.f q1 h
  refine o_set 9 (congrArg Value.bool q1) ?_
  refine xq rfl (y_load (.agg (eConstraint a1).toArray) 0 g0_0 0) ?_
  obtain ⟨v1_5, hv1_5, h⟩ := H.call h
  refine xq rfl (y_call [.agg (eConstraint a1).toArray] (.bool v1_5) func46 (fun W S => C.i_IsConstraint W hv1_5)) ?_
  refine p 2 ?_
  refine rend ?_
  refine c_or (!v1_5) (fun q2 => ?_) (fun q2 => ?_)
  · replace h := H.t q2 h
    refine c_seq ?_
    refine r_start ?_
    refine p 2 ?_
    refine rend ?_
    replace h := H.done h
    subst h
    exact ret func33 rfl (vs := [.slice none 0 0, .bool false]) (.tmp (by kernel_rfl) (.tmp (by kernel_rfl) .nil)) rfl (fun W S => ⟨none, 0, rfl, World.ownsRow_nil _ _ _ _, S.below⟩)
  replace h := H.f q2 h
  refine c_skip ?_
  refine c_seq ?_
  refine r_start ?_
  refine p 2 ?_
  obtain ⟨v3_2, hv3_2, h⟩ := H.call h
  refine xx rfl (e_cr [.slice A0 (List.length a0) k0, .func (.func 104) #[] #[.pointer (some ⟨g0_0, 0, none⟩)]] (fun v => v) func103 (fun W S => C.i_those_i_Sign W hv3_2 ((s_arg h0).out W S) (isFn_of func104) (fun x0_2 r W2 hu2 hx2 => C.i_BreakersOf_1 W2 hx2 (bx_up (S.bx 0) hu2))) fun A3_2 k3_2 => ?_)
  refine p 2 ?_
  refine rend ?_
  replace h := H.done h
  subst h
  exact ret func33 rfl (vs := [.slice A3_2 (List.length v3_2) k3_2, .bool true]) (.tmp (by kernel_rfl) (.tmp (by kernel_rfl) .nil)) rfl (fun W S => ⟨_, _, rfl, S.row 1, S.below⟩)
theorem C.s_siKind {a0 : Sign} {r : Int} (w : World) (h : X.s_siKind a0 = some r) : Calls prog 169 #[.agg (eSign a0).toArray] w (Ret w (.int .i64 r)) := by
  refine calls (M := no) (args := [.agg (eSign a0).toArray]) func169 rfl ?_
  replace h : H (X.s_siKind a0) (fun o => o = r) := H.mk h
  unfold X.s_siKind at h
  refine c_seq ?_
  refine r_start ?_
  refine xx rfl (x_box (eSign a0) fun g0_0 => ?_)
  refine p 1 ?_
  refine rend ?_
  refine c_seq ?_
  refine c_block ?_
  refine c_seq ?_
  refine r_start ?_
  refine p 1 ?_
  refine xq rfl (y_load (.bool a0.Two) 0 g0_0 13) ?_
  refine p 2 ?_
  refine rend ?_
  refine c_or (!a0.Two) (fun q1 => ?_) (fun q1 => ?_)
  · replace h := H.t q1 h
    refine c_seq ?_
    refine r_start ?_
    refine p 1 ?_
    refine rend ?_
    replace h := H.done h
    subst h
    exact ret func169 rfl (vs := [.int .i64 0]) (.tmp (by kernel_rfl) .nil) rfl (fun W S => ⟨rfl, S.below⟩)
  replace h := H.f q1 h
  refine c_seq ?_
  refine r_start ?_
  refine p 3 ?_
  refine xq rfl (y_load (.string (bs a0.Other.Move.Steps)) 0 g0_0 25) ?_
  refine p 2 ?_
  refine rend ?_
  refine c_or (!seq a0.Other.Move.Steps ([] : Str)) (fun q2 => ?_) (fun q2 => ?_)
  · replace h := H.t q2 h
    refine c_seq ?_
    refine r_start ?_
    refine p 1 ?_
    refine rend ?_
    replace h := H.done h
    subst h
    exact ret func169 rfl (vs := [.int .i64 1]) (.tmp (by kernel_rfl) .nil) rfl (fun W S => ⟨rfl, S.below⟩)
  replace h := H.f q2 h
  refine c_seq ?_
  refine r_start ?_
  refine p 2 ?_
  refine xq rfl (y_load (.agg (eShape a0.Main.Shape).toArray) 0 g0_0 0) ?_
  refine p 2 ?_
  refine xq rfl (y_load (.agg (eShape a0.Other.Shape).toArray) 0 g0_0 14) ?_
  refine p 2 ?_
  refine rend ?_
  refine c_or (qShape a0.Main.Shape a0.Other.Shape) (fun q3 => ?_) (fun q3 => ?_)
  · replace h := H.t q3 h
    refine c_seq ?_
    refine r_start ?_
    refine p 1 ?_
    refine rend ?_
    replace h := H.done h
    subst h
    exact ret func169 rfl (vs := [.int .i64 2]) (.tmp (by kernel_rfl) .nil) rfl (fun W S => ⟨rfl, S.below⟩)
  replace h := H.f q3 h
  refine c_skip ?_
  refine c_inb ?_
  refine c_seq ?_
  refine r_start ?_
  refine p 1 ?_
  refine rend ?_
  replace h := H.done h
  subst h
  exact ret func169 rfl (vs := [.int .i64 3]) (.tmp (by kernel_rfl) .nil) rfl (fun W S => ⟨rfl, S.below⟩)
theorem C.s_ruKeeps {fu : Nat} {a0 : Sign} {a1 : Constraint} {r : Bool} (w : World) (h : X.s_ruKeeps fu a0 a1 = some r) : Calls prog 102 #[.agg (eSign a0).toArray, .agg (eConstraint a1).toArray] w (Ret w (.bool r)) := by
  refine calls (M := no) (args := [.agg (eSign a0).toArray, .agg (eConstraint a1).toArray]) func102 rfl ?_
  replace h : H (X.s_ruKeeps fu a0 a1) (fun o => o = r) := H.mk h
  unfold X.s_ruKeeps at h
  refine c_seq ?_
  refine r_start ?_
  refine xx rfl (x_box (eSign a0) fun g0_0 => ?_)
  refine xx rfl (x_box (eConstraint a1) fun g0_1 => ?_)
  refine p 1 ?_
  refine rend ?_
  refine c_seq ?_
  refine c_seq ?_
  refine r_start ?_
  refine p 1 ?_
  refine xq rfl (y_load (.int .i64 a1.Kind) 1 g0_1 0) ?_
  refine rend ?_
  refine c_block ?_
  refine c_seq ?_
  refine r_start ?_
  refine p 2 ?_
  refine rend ?_
  refine c_or (a1.Kind == 0) (fun q1 => ?_) (fun q1 => ?_)
  · replace h := H.t q1 h
    refine c_seq ?_
    refine as_start 6 6 ?_
    refine aq 0 rfl (y_load (.agg (eSign a0).toArray) 0 g0_0 0) ?_
    obtain ⟨v3_1, hv3_1, h⟩ := H.call h
    refine aq 1 rfl (y_call [.agg (eSign a0).toArray] (.int .i64 v3_1) func91 (fun W S => C.s_ruSteps W hv3_1)) ?_
    refine ap 2 1 ?_
    refine aq 3 rfl (y_load (.int .i64 a1.Value) 1 g0_1 1) ?_
    refine ap 4 2 ?_
    refine a_done ?_
    replace h := H.done h
    subst h
    exact ret func102 rfl (vs := [.bool (decide (v3_1 ≤ a1.Value))]) (.tmp (by kernel_rfl) .nil) rfl (fun W S => ⟨rfl, S.below⟩)
  replace h := H.f q1 h
  refine c_seq ?_
  refine r_start ?_
  refine p 2 ?_
  refine rend ?_
  refine c_or (a1.Kind == 1) (fun q2 => ?_) (fun q2 => ?_)
  · replace h := H.t q2 h
    refine c_seq ?_
    refine r_start ?_
    refine p 3 ?_
    refine xq rfl (y_load (.int .i64 a0.Main.Place.Region) 0 g0_0 8) ?_
    refine p 1 ?_
    refine xq rfl (y_load (.int .i64 a1.Value) 1 g0_1 1) ?_
    refine p 2 ?_
    refine br (a0.Main.Place.Region != a1.Value) (fun q3 => ?_) (fun q3 => ?_)
    · replace h := H.t q3 h
      refine o_set 23 (congrArg Value.bool q3) ?_
      refine p 1 ?_
      refine xq rfl (y_load (.bool a0.Two) 0 g0_0 13) ?_
      refine p 2 ?_
      refine br (!a0.Two) (fun q4 => ?_) (fun q4 => ?_)
      · replace h := H.t q4 h
        refine o_set 27 (congrArg Value.bool q4) ?_
        refine p 10 ?_
        refine rend ?_
        replace h := H.done h
        subst h
        exact ret func102 rfl (vs := [.bool true]) (.tmp (by kernel_rfl) .nil) rfl (fun W S => ⟨rfl, S.below⟩)
      replace h := H.f q4 h
      refine o_set 27 (congrArg Value.bool q4) ?_
      refine p 3 ?_
      refine xq rfl (y_load (.int .i64 a0.Other.Place.Region) 0 g0_0 22) ?_
      refine p 1 ?_
      refine xq rfl (y_load (.int .i64 a1.Value) 1 g0_1 1) ?_
      refine p 4 ?_
      refine rend ?_
      replace h := H.done h
      subst h
      exact ret func102 rfl (vs := [.bool (a0.Other.Place.Region != a1.Value)]) (.tmp (by kernel_rfl) .nil) rfl (fun W S => ⟨rfl, S.below⟩)
    replace h := H.f q3 h
    refine o_set 23 (congrArg Value.bool q3) ?_
    refine p 14 ?_
    refine rend ?_
    replace h := H.done h
    subst h
    exact ret func102 rfl (vs := [.bool false]) (.tmp (by kernel_rfl) .nil) rfl (fun W S => ⟨rfl, S.below⟩)
  replace h := H.f q2 h
  refine c_seq ?_
  refine r_start ?_
  refine p 2 ?_
  refine rend ?_
  refine c_or (a1.Kind == 2) (fun q5 => ?_) (fun q5 => ?_)
  · replace h := H.t q5 h
    refine c_seq ?_
    refine as_start 6 6 ?_
    refine aq 0 rfl (y_load (.agg (eSign a0).toArray) 0 g0_0 0) ?_
    obtain ⟨v7_1, hv7_1, h⟩ := H.call h
    refine aq 1 rfl (y_call [.agg (eSign a0).toArray] (.int .i64 v7_1) func94 (fun W S => C.s_ruOpen W hv7_1)) ?_
    refine ap 2 1 ?_
    refine aq 3 rfl (y_load (.int .i64 a1.Value) 1 g0_1 1) ?_
    refine ap 4 2 ?_
    refine a_done ?_
    replace h := H.done h
    subst h
    exact ret func102 rfl (vs := [.bool (decide (v7_1 ≥ a1.Value))]) (.tmp (by kernel_rfl) .nil) rfl (fun W S => ⟨rfl, S.below⟩)
  replace h := H.f q5 h
  refine c_seq ?_
  refine r_start ?_
  refine p 2 ?_
  refine rend ?_
  refine c_or (a1.Kind == 3) (fun q6 => ?_) (fun q6 => ?_)
  · replace h := H.t q6 h
    refine c_seq ?_
    refine as_start 6 6 ?_
    refine aq 0 rfl (y_load (.agg (eSign a0).toArray) 0 g0_0 0) ?_
    obtain ⟨v9_1, hv9_1, h⟩ := H.call h
    refine aq 1 rfl (y_call [.agg (eSign a0).toArray] (.int .i64 v9_1) func169 (fun W S => C.s_siKind W hv9_1)) ?_
    refine ap 2 1 ?_
    refine aq 3 rfl (y_load (.int .i64 a1.Value) 1 g0_1 1) ?_
    refine ap 4 2 ?_
    refine a_done ?_
    replace h := H.done h
    subst h
    exact ret func102 rfl (vs := [.bool (v9_1 != a1.Value)]) (.tmp (by kernel_rfl) .nil) rfl (fun W S => ⟨rfl, S.below⟩)
  replace h := H.f q6 h
  refine c_skip ?_
  refine c_inb ?_
  refine c_seq ?_
  refine r_start ?_
  refine p 3 ?_
  refine xq rfl (y_load (.int .i64 a0.Main.Place.Region) 0 g0_0 8) ?_
  refine p 1 ?_
  refine xq rfl (y_load (.int .i64 a1.Value) 1 g0_1 1) ?_
  refine p 2 ?_
  refine rend ?_
  replace h := H.done h
  subst h
  exact ret func102 rfl (vs := [.bool (decide (a0.Main.Place.Region ≤ a1.Value))]) (.tmp (by kernel_rfl) .nil) rfl (fun W S => ⟨rfl, S.below⟩)
theorem C.l_qHas {a0 : (List Int)} {A0 : Option Addr} {k0 : Nat} {a1 : Int} {r : Bool} (w : World) (h : X.l_qHas a0 a1 = some r) (h0 : RdT (eI .i64) w (.slice A0 (List.length a0) k0) a0) : Calls prog 34 #[.slice A0 (List.length a0) k0, .int .i64 a1] w (Ret w (.bool r)) := by
  refine calls (M := no) (args := [.slice A0 (List.length a0) k0, .int .i64 a1]) func34 rfl ?_
  replace h : H (X.l_qHas a0 a1) (fun o => o = r) := H.mk h
  unfold X.l_qHas at h
  refine c_seq ?_
  refine r_start ?_
  refine p 1 ?_
  refine rend ?_
  refine c_seq ?_
  refine c_seq ?_
  refine r_start ?_
  refine p 3 ?_
  refine rend ?_
  refine c_block ?_
  refine joinE (X := Unit) 0 (H.or h) (fun (x : Unit) => x) (fun _ => []) (fun _ u => (jk u 0 17 [])) (fun h hj1 => ?_) ?_
  · skip
    refine rangeR (X := Unit) (s_arg h0) (fun (x : Unit) => x) (fun _ => []) (fun (j2 : Nat) _ u => (jk u 0 1 (.int .i64 a1 :: (jk u 2 5 (.slice A0 (List.length a0) k0 :: .int .i64 (List.length a0 : Int) :: .int .i64 (j2 : Int) :: (jk u 10 7 [])))))) () h (by kernel_rfl) (by kernel_rfl) ?_ ?_
    · intro j2 x u x3 q4 hg5 hw6 h
      refine c_seq ?_
      refine r_start ?_
      refine p 1 ?_
      refine rend ?_
      refine c_seq ?_
      refine c_yes q4 ?_
      refine c_skip ?_
      refine c_seq ?_
      refine c_block ?_
      refine c_seq ?_
      refine r_start ?_
      refine xq rfl (y_idx (e := (eI .i64)) (el := 3) hg5 (s_arg h0)) ?_
      refine xq rfl (y_el (e := (eI .i64)) 0 (.int .i64 x3) hg5 (s_arg h0)) ?_
      refine p 1 ?_
      refine rend ?_
      refine c_seq ?_
      refine r_start ?_
      refine p 3 ?_
      refine rend ?_
      refine c_or (x3 == a1) (fun q7 => ?_) (fun q7 => ?_)
      · replace h := H.t q7 h
        refine c_seq ?_
        refine r_start ?_
        refine p 1 ?_
        refine rend ?_
        replace h := H.inr h
        replace h := H.done h
        subst h
        exact ret func34 rfl (vs := [.bool true]) (.tmp (by kernel_rfl) .nil) rfl (fun W S => ⟨rfl, S.below⟩)
      replace h := H.f q7 h
      refine c_skip ?_
      refine c_inb ?_
      refine r_start ?_
      refine p 2 ?_
      refine rend ?_
      refine c_set 9 (ci hw6) ?_
      replace h := H.inl h
      exact h () _ _ rfl (by kernel_rfl) (by kernel_rfl)
    · intro x u q4 h
      refine c_seq ?_
      refine r_start ?_
      refine p 1 ?_
      refine rend ?_
      refine c_seq ?_
      refine c_no q4 ?_
      refine cx ?_
      replace h := H.done h
      exact hj1 () _ _ h (by kernel_rfl) (by kernel_rfl)
  intro x u h
  refine c_seq ?_
  refine r_start ?_
  refine p 1 ?_
  refine rend ?_
  replace h := H.done h
  subst h
  exact ret func34 rfl (vs := [.bool false]) (.tmp (by kernel_rfl) .nil) rfl (fun W S => ⟨rfl, S.below⟩)
theorem C.i_LawfulSigns_1_1 {a0 : Constraint} {a1 : Sign} {p1 : Nat} {r : Bool} (w : World) (h : X.i_LawfulSigns_1_1 a1 a0 = some r) (hp1 : w.heap[p1]? = some (.cells (eSign a1 : List Value).toArray 38 (0, 0))) : Calls prog 108 #[.agg (eConstraint a0).toArray, .pointer (some ⟨p1, 0, none⟩)] w (Ret w (.bool r)) := by
  refine calls (M := no) (args := [.agg (eConstraint a0).toArray, .pointer (some ⟨p1, 0, none⟩)]) func108 rfl ?_
  replace h : H (X.i_LawfulSigns_1_1 a1 a0) (fun o => o = r) := H.mk h
  unfold X.i_LawfulSigns_1_1 at h
  refine c_seq ?_
  refine r_start ?_
  refine xx rfl (x_box (eConstraint a0) fun g0_0 => ?_)
  refine p 1 ?_
  refine rend ?_
  refine c_seq ?_
  refine r_start ?_
  refine xq rfl (y_load (.agg (eConstraint a0).toArray) 0 g0_0 0) ?_
  refine xq rfl (y_ld0 (.agg (eSign a1).toArray) p1 0 hp1) ?_
  obtain ⟨v1_2, hv1_2, h⟩ := H.call h
  refine xq rfl (y_call [.agg (eConstraint a0).toArray, .agg (eSign a1).toArray] (.bool v1_2) func105 (fun W S => C.i_Constraint_keptBy W hv1_2)) ?_
  refine p 1 ?_
  refine rend ?_
  replace h := H.done h
  subst h
  exact ret func108 rfl (vs := [.bool v1_2]) (.tmp (by kernel_rfl) .nil) rfl (fun W S => ⟨rfl, S.below⟩)
theorem C.i_LawfulSigns_1 {a0 : Sign} {a1 : (List Constraint)} {A1 : Option Addr} {k1 : Nat} {p1 : Nat} {r : Bool} (w : World) (h : X.i_LawfulSigns_1 a1 a0 = some r) (h1 : RdT nConstraint w (.slice A1 (List.length a1) k1) a1) (hp1 : w.heap[p1]? = some (.cells ([.slice A1 (List.length a1) k1] : List Value).toArray 55 (0, 0))) : Calls prog 106 #[.agg (eSign a0).toArray, .pointer (some ⟨p1, 0, none⟩)] w (Ret w (.bool r)) := by
  refine calls (M := no) (args := [.agg (eSign a0).toArray, .pointer (some ⟨p1, 0, none⟩)]) func106 rfl ?_
  replace h : H (X.i_LawfulSigns_1 a1 a0) (fun o => o = r) := H.mk h
  unfold X.i_LawfulSigns_1 at h
  refine c_seq ?_
  refine r_start ?_
  refine xx rfl (x_box (eSign a0) fun g0_0 => ?_)
  refine p 1 ?_
  refine rend ?_
  refine c_seq ?_
  refine r_start ?_
  refine xq rfl (y_ld0 (.slice A1 (List.length a1) k1) p1 0 hp1) ?_
  refine p 1 ?_
  obtain ⟨v1_2, hv1_2, h⟩ := H.call h
  refine xq rfl (y_call [.slice A1 (List.length a1) k1, .func (.func 108) #[] #[.pointer (some ⟨g0_0, 0, none⟩)]] (.bool v1_2) func107 (fun W S => C.i_allOf_i_Constraint W hv1_2 ((s_arg h1).out W S) (isFn_of func108) (fun x0_2 r W2 hu2 hx2 => C.i_LawfulSigns_1_1 W2 hx2 (bx_up (S.bx 0) hu2)))) ?_
  refine p 1 ?_
  refine rend ?_
  replace h := H.done h
  subst h
  exact ret func106 rfl (vs := [.bool v1_2]) (.tmp (by kernel_rfl) .nil) rfl (fun W S => ⟨rfl, S.below⟩)
theorem C.i_LawfulSigns {fu : Nat} {a0 : (List Sign)} {A0 : Option Addr} {k0 : Nat} {a1 : (List Constraint)} {A1 : Option Addr} {k1 : Nat} {r : ((List Int) × Bool)} (w : World) (h : X.i_LawfulSigns fu a0 a1 = some r) (h0 : RdT nSign w (.slice A0 (List.length a0) k0) a0) (h1 : RdT nConstraint w (.slice A1 (List.length a1) k1) a1) : Calls prog 35 #[.slice A0 (List.length a0) k0, .slice A1 (List.length a1) k1] w (RetR (eI .i64) 3 w r.1 (fun v => .tuple #[v, .bool r.2])) := by
  refine calls (M := no) (args := [.slice A0 (List.length a0) k0, .slice A1 (List.length a1) k1]) func35 rfl ?_
  replace h : H (X.i_LawfulSigns fu a0 a1) (fun o => o = r) := H.mk h
  unfold X.i_LawfulSigns at h
  refine c_seq ?_
  refine r_start ?_
  refine xx rfl (x_box [.slice A1 (List.length a1) k1] fun g0_0 => ?_)
  refine p 2 ?_
  refine rend ?_
  refine c_seq ?_
  refine c_seq ?_
  refine r_start ?_
  refine p 1 ?_
  obtain ⟨v1_1, hv1_1, h⟩ := H.call h
  refine xq rfl (y_call [.slice A0 (List.length a0) k0, .int .i64 20] (.bool v1_1) func80 (fun W S => C.i_areSigns W hv1_1 ((s_arg h0).out W S))) ?_
  refine p 2 ?_
  refine br (!v1_1) (fun q1 => ?_) (fun q1 => ?_)
  · replace h := H.t q1 h
    refine o_set 9 (congrArg Value.bool q1) ?_
    refine p 4 ?_
    refine rend ?_
    refine c_t (by kernel_rfl) ?_
    refine c_seq ?_
    refine r_start ?_
    refine p 2 ?_
    refine rend ?_
    replace h := H.done h
    subst h
    exact ret func35 rfl (vs := [.slice none 0 0, .bool false]) (.tmp (by kernel_rfl) (.tmp (by kernel_rfl) .nil)) rfl (fun W S => ⟨none, 0, rfl, World.ownsRow_nil _ _ _ _, S.below⟩)
  replace h := H.f q1 h
  refine o_set 9 (congrArg Value.bool q1) ?_
  refine xq rfl (y_load (.slice A1 (List.length a1) k1) 0 g0_0 0) ?_
  obtain ⟨v1_5, hv1_5, h⟩ := H.call h
  refine xq rfl (y_call [.slice A1 (List.length a1) k1] (.bool v1_5) func96 (fun W S => C.i_areConstraints W hv1_5 ((s_arg h1).out W S))) ?_
  refine p 2 ?_
  refine rend ?_
  refine c_or (!v1_5) (fun q2 => ?_) (fun q2 => ?_)
  · replace h := H.t q2 h
    refine c_seq ?_
    refine r_start ?_
    refine p 2 ?_
    refine rend ?_
    replace h := H.done h
    subst h
    exact ret func35 rfl (vs := [.slice none 0 0, .bool false]) (.tmp (by kernel_rfl) (.tmp (by kernel_rfl) .nil)) rfl (fun W S => ⟨none, 0, rfl, World.ownsRow_nil _ _ _ _, S.below⟩)
  replace h := H.f q2 h
  refine c_skip ?_
  refine c_seq ?_
  refine r_start ?_
  refine p 2 ?_
  obtain ⟨v3_2, hv3_2, h⟩ := H.call h
  refine xx rfl (e_cr [.slice A0 (List.length a0) k0, .func (.func 106) #[] #[.pointer (some ⟨g0_0, 0, none⟩)]] (fun v => v) func103 (fun W S => C.i_those_i_Sign W hv3_2 ((s_arg h0).out W S) (isFn_of func106) (fun x0_2 r W2 hu2 hx2 => C.i_LawfulSigns_1 W2 hx2 (Rd.up ((s_arg h1).out W S) hu2) (bx_up (S.bx 0) hu2))) fun A3_2 k3_2 => ?_)
  refine p 2 ?_
  refine rend ?_
  replace h := H.done h
  subst h
  exact ret func35 rfl (vs := [.slice A3_2 (List.length v3_2) k3_2, .bool true]) (.tmp (by kernel_rfl) (.tmp (by kernel_rfl) .nil)) rfl (fun W S => ⟨_, _, rfl, S.row 1, S.below⟩)
theorem C.s_BreakersOf {fu : Nat} {a0 : (List Sign)} {A0 : Option Addr} {k0 : Nat} {a1 : Constraint} {r : ((List Int) × Bool)} (w : World) (h : X.s_BreakersOf fu a0 a1 = some r) (h0 : RdT nSign w (.slice A0 (List.length a0) k0) a0) : Calls prog 36 #[.slice A0 (List.length a0) k0, .agg (eConstraint a1).toArray] w (RetR (eI .i64) 3 w r.1 (fun v => .tuple #[v, .bool r.2])) := by
  refine calls (M := no) (args := [.slice A0 (List.length a0) k0, .agg (eConstraint a1).toArray]) func36 rfl ?_
  replace h : H (X.s_BreakersOf fu a0 a1) (fun o => o = r) := H.mk h
  unfold X.s_BreakersOf at h
  refine c_seq ?_
  refine r_start ?_
  refine xx rfl (x_box (eConstraint a1) fun g0_0 => ?_)
  refine p 2 ?_
  refine rend ?_
  refine c_seq ?_
  refine c_seq ?_
  refine r_start ?_
  refine p 1 ?_
  obtain ⟨v1_1, hv1_1, h⟩ := H.call h
  refine xq rfl (y_call [.slice A0 (List.length a0) k0] (.bool v1_1) func83 (fun W S => C.s_paList W hv1_1 ((s_arg h0).out W S))) ?_
  refine p 2 ?_
  refine br (!v1_1) (fun q1 => ?_) (fun q1 => ?_)
  · replace h := H.t q1 h
    refine o_set 12 (congrArg Value.bool q1) ?_
    refine p 4 ?_
    refine rend ?_
    refine c_t (by kernel_rfl) ?_
    refine c_seq ?_
    refine r_start ?_
    refine p 2 ?_
    refine rend ?_
    replace h := H.done h
    subst h
    exact ret func36 rfl (vs := [.slice none 0 0, .bool false]) (.tmp (by kernel_rfl) (.tmp (by kernel_rfl) .nil)) rfl (fun W S => ⟨none, 0, rfl, World.ownsRow_nil _ _ _ _, S.below⟩)
  replace h := H.f q1 h
  refine o_set 12 (congrArg Value.bool q1) ?_
  refine xq rfl (y_load (.agg (eConstraint a1).toArray) 0 g0_0 0) ?_
  obtain ⟨v1_5, hv1_5, h⟩ := H.call h
  refine xq rfl (y_call [.agg (eConstraint a1).toArray] (.bool v1_5) func109 (fun W S => C.s_ruGood W hv1_5)) ?_
  refine p 2 ?_
  refine rend ?_
  refine c_or (!v1_5) (fun q2 => ?_) (fun q2 => ?_)
  · replace h := H.t q2 h
    refine c_seq ?_
    refine r_start ?_
    refine p 2 ?_
    refine rend ?_
    replace h := H.done h
    subst h
    exact ret func36 rfl (vs := [.slice none 0 0, .bool false]) (.tmp (by kernel_rfl) (.tmp (by kernel_rfl) .nil)) rfl (fun W S => ⟨none, 0, rfl, World.ownsRow_nil _ _ _ _, S.below⟩)
  replace h := H.f q2 h
  refine c_skip ?_
  refine c_seq ?_
  refine r_start ?_
  refine p 1 ?_
  refine rend ?_
  refine c_seq ?_
  refine c_seq ?_
  refine r_start ?_
  refine p 3 ?_
  refine rend ?_
  refine c_block ?_
  refine c_nil (eI .i64) 3 ?_
  refine joinH (X := ((List Int) × Option Addr × Nat)) 0 (H.bnd h) (fun ⟨l6, A7, k8⟩ => l6) (fun ⟨l6, A7, k8⟩ => [box g0_0 64 (eConstraint a1), rowT (eI .i64) w.heap.size 3 (.slice A7 (List.length l6) k8) l6]) (fun ⟨l6, A7, k8⟩ u => (jk u 0 6 (.slice A7 (List.length l6) k8 :: (jk u 7 27 [])))) (fun h hj9 => ?_) ?_
  · skip
    refine rangeR (X := ((List Int) × Option Addr × Nat)) (s_arg h0) (fun ⟨l3, A4, k5⟩ => l3) (fun ⟨l3, A4, k5⟩ => [box g0_0 64 (eConstraint a1), rowT (eI .i64) w.heap.size 3 (.slice A4 (List.length l3) k5) l3]) (fun (j10 : Nat) ⟨l3, A4, k5⟩ u => (jk u 0 3 (.pointer (some ⟨g0_0, 0, none⟩) :: (jk u 4 2 (.slice A4 (List.length l3) k5 :: (jk u 7 10 (.slice A0 (List.length a0) k0 :: .int .i64 (List.length a0 : Int) :: .int .i64 (j10 : Int) :: (jk u 20 14 [])))))))) (([] : List Int), none, 0) h (by kernel_rfl) (by kernel_rfl) ?_ ?_
    · intro j10 x u x11 q12 hg13 hw14 h
      obtain ⟨l3, A4, k5⟩ := x
      refine c_seq ?_
      refine r_start ?_
      refine p 1 ?_
      refine rend ?_
      refine c_seq ?_
      refine c_yes q12 ?_
      refine c_skip ?_
      refine c_seq ?_
      refine c_block ?_
      refine c_seq ?_
      refine r_start ?_
      refine p 1 ?_
      refine xq rfl (y_idx (e := nSign) (el := 38) hg13 (s_arg h0)) ?_
      refine xq rfl (y_el (e := nSign) 0 (.agg (eSign x11).toArray) hg13 (s_arg h0)) ?_
      refine xx rfl (x_new (eSign zSign) fun g6_3 => ?_)
      refine p 1 ?_
      refine xx rfl (x_sto 2 g6_3 0 (eSign x11) ?_)
      refine rend ?_
      refine c_seq ?_
      refine r_start ?_
      refine xq rfl (y_load (.agg (eSign x11).toArray) 2 g6_3 0) ?_
      refine xq rfl (y_load (.agg (eConstraint a1).toArray) 0 g0_0 0) ?_
      obtain ⟨v7_2, hv7_2, h⟩ := H.call h
      refine xq rfl (y_call [.agg (eSign x11).toArray, .agg (eConstraint a1).toArray] (.bool v7_2) func102 (fun W S => C.s_ruKeeps W hv7_2)) ?_
      refine p 1 ?_
      refine rend ?_
      refine c_or (!v7_2) (fun q15 => ?_) (fun q15 => ?_)
      · replace h := H.t q15 h
        refine r_start ?_
        refine p 2 ?_
        refine xx rfl (e_lit (e := (eI .i64)) (el := 3) [.int .i64 (j10 : Int)] ([(j10 : Int)] : List Int) fun A8_2 k8_2 => ?_)
        obtain ⟨y8_3, hy8_3, h⟩ := H.call h
        refine xx rfl (e_app 1 hy8_3 (s_own 3) fun A8_3 k8_3 => ?_)
        refine p 1 ?_
        refine rend ?_
        refine c_inb ?_
        refine r_start ?_
        refine p 2 ?_
        refine rend ?_
        refine c_set 19 (ci hw14) ?_
        replace h := H.inl h
        exact h (y8_3, A8_3, k8_3) _ _ rfl (by kernel_rfl) (by kernel_rfl)
      replace h := H.f q15 h
      refine c_skip ?_
      refine c_inb ?_
      refine r_start ?_
      refine p 2 ?_
      refine rend ?_
      refine c_set 19 (ci hw14) ?_
      replace h := H.inl h
      exact h (l3, A4, k5) _ _ rfl (by kernel_rfl) (by kernel_rfl)
    · intro x u q12 h
      obtain ⟨l3, A4, k5⟩ := x
      refine c_seq ?_
      refine r_start ?_
      refine p 1 ?_
      refine rend ?_
      refine c_seq ?_
      refine c_no q12 ?_
      refine cx ?_
      replace h := H.done h
      exact hj9 (l3, A4, k5) _ _ h (by kernel_rfl) (by kernel_rfl)
  intro x u h
  obtain ⟨l6, A7, k8⟩ := x
  refine c_seq ?_
  refine r_start ?_
  refine p 3 ?_
  refine rend ?_
  replace h := H.done h
  subst h
  exact ret func36 rfl (vs := [.slice A7 (List.length l6) k8, .bool true]) (.tmp (by kernel_rfl) (.tmp (by kernel_rfl) .nil)) rfl (fun W S => ⟨_, _, rfl, S.row 1, S.below⟩)
end Go.Proofs.XC
