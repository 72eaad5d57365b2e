/- Contracts: each function, called where its plain function gives an answer, returns just that answer and changes nothing that was there. By AI agents; no person has read it. -/
import Derived.Test.YtenkalmmdamfgaaGreatDoorSDSearches
set_option linter.unusedVariables false
set_option linter.unusedSimpArgs false
set_option maxRecDepth 100000
set_option maxHeartbeats 40000000
namespace Go.Proofs.XC
open Go Go.RowKit
open Tryz
theorem C.i_IsHand {a0 : Hand} {r : Bool} (w : World) (h : X.i_IsHand a0 = some r) : Calls prog 86 #[.agg (eHand a0).toArray] w (Ret w (.bool r)) := by
  refine calls (M := no) (args := [.agg (eHand a0).toArray]) func86 rfl ?_
  replace h : H (X.i_IsHand a0) (fun o => o = r) := H.mk h
  unfold X.i_IsHand at h
  refine c_seq ?_
  refine r_start ?_
  refine xx rfl (x_box (eHand a0) fun g0_0 => ?_)
  refine p 1 ?_
  refine rend ?_
  refine c_seq ?_
  refine r_start ?_
  refine p 1 ?_
  refine xq rfl (y_load (.agg (eShape a0.Shape).toArray) 0 g0_0 0) ?_
  obtain ⟨v1_2, hv1_2, h⟩ := H.call h
  refine xq rfl (y_call [.agg (eShape a0.Shape).toArray] (.bool v1_2) func153 (fun W S => C.i_IsShape W hv1_2)) ?_
  refine p 1 ?_
  refine br v1_2 (fun q1 => ?_) (fun q1 => ?_)
  · replace h := H.t q1 h
    refine o_set 6 (congrArg Value.bool q1) ?_
    refine p 1 ?_
    refine xq rfl (y_load (.agg (eOrient a0.Orient).toArray) 0 g0_0 6) ?_
    obtain ⟨v1_6, hv1_6, h⟩ := H.call h
    refine xq rfl (y_call [.agg (eOrient a0.Orient).toArray] (.bool v1_6) func154 (fun W S => C.i_IsOrient W hv1_6)) ?_
    refine p 2 ?_
    refine br v1_6 (fun q2 => ?_) (fun q2 => ?_)
    · replace h := H.t q2 h
      refine o_set 11 (congrArg Value.bool q2) ?_
      refine p 1 ?_
      refine xq rfl (y_load (.agg (ePlace a0.Place).toArray) 0 g0_0 8) ?_
      obtain ⟨v1_11, hv1_11, h⟩ := H.call h
      refine xq rfl (y_call [.agg (ePlace a0.Place).toArray] (.bool v1_11) func155 (fun W S => C.i_IsPlace W hv1_11)) ?_
      refine p 2 ?_
      refine br v1_11 (fun q3 => ?_) (fun q3 => ?_)
      · replace h := H.t q3 h
        refine o_set 16 (congrArg Value.bool q3) ?_
        refine p 1 ?_
        refine xq rfl (y_load (.agg (eMove a0.Move).toArray) 0 g0_0 11) ?_
        obtain ⟨v1_16, hv1_16, h⟩ := H.call h
        refine xq rfl (y_call [.agg (eMove a0.Move).toArray] (.bool v1_16) func156 (fun W S => C.i_IsMove W hv1_16)) ?_
        refine p 2 ?_
        refine rend ?_
        replace h := H.done h
        subst h
        exact ret func86 rfl (vs := [.bool v1_16]) (.tmp (by kernel_rfl) .nil) rfl (fun W S => ⟨rfl, S.below⟩)
      replace h := H.f q3 h
      refine o_set 16 (congrArg Value.bool q3) ?_
      refine p 5 ?_
      refine rend ?_
      replace h := H.done h
      subst h
      exact ret func86 rfl (vs := [.bool false]) (.tmp (by kernel_rfl) .nil) rfl (fun W S => ⟨rfl, S.below⟩)
    replace h := H.f q2 h
    refine o_set 11 (congrArg Value.bool q2) ?_
    refine p 10 ?_
    refine rend ?_
    replace h := H.done h
    subst h
    exact ret func86 rfl (vs := [.bool false]) (.tmp (by kernel_rfl) .nil) rfl (fun W S => ⟨rfl, S.below⟩)
  replace h := H.f q1 h
  refine o_set 6 (congrArg Value.bool q1) ?_
  refine p 15 ?_
  refine rend ?_
  replace h := H.done h
  subst h
  exact ret func86 rfl (vs := [.bool false]) (.tmp (by kernel_rfl) .nil) rfl (fun W S => ⟨rfl, S.below⟩)
theorem C.i_Hand_moves {a0 : Hand} {r : Bool} (w : World) (h : X.i_Hand_moves a0 = some r) : Calls prog 157 #[.agg (eHand a0).toArray] w (Ret w (.bool r)) := by
  refine calls (M := no) (args := [.agg (eHand a0).toArray]) func157 rfl ?_
  replace h : H (X.i_Hand_moves a0) (fun o => o = r) := H.mk h
  unfold X.i_Hand_moves at h
  refine c_seq ?_
  refine r_start ?_
  refine xx rfl (x_box (eHand a0) fun g0_0 => ?_)
  refine p 1 ?_
  refine rend ?_
  refine c_seq ?_
  refine r_start ?_
  refine p 2 ?_
  refine xq rfl (y_load (.string (bs a0.Move.Steps)) 0 g0_0 11) ?_
  refine p 2 ?_
  refine rend ?_
  replace h := H.done h
  subst h
  exact ret func157 rfl (vs := [.bool (!seq a0.Move.Steps ([] : Str))]) (.tmp (by kernel_rfl) .nil) rfl (fun W S => ⟨rfl, S.below⟩)
theorem C.slices_Index_i_Shape_i_Shape {a0 : (List Shape)} {A0 : Option Addr} {k0 : Nat} {a1 : Shape} {r : Int} (w : World) (h : X.slices_Index_i_Shape_i_Shape a0 a1 = some r) (h0 : RdT nShape w (.slice A0 (List.length a0) k0) a0) : Calls prog 209 #[.slice A0 (List.length a0) k0, .agg (eShape a1).toArray] w (Ret w (.int .i64 r)) := by
  refine calls (M := no) (args := [.slice A0 (List.length a0) k0, .agg (eShape a1).toArray]) func209 rfl ?_
  replace h : H (X.slices_Index_i_Shape_i_Shape a0 a1) (fun o => o = r) := H.mk h
  unfold X.slices_Index_i_Shape_i_Shape at h
  refine c_seq ?_
  refine r_start ?_
  refine xx rfl (x_box (eShape a1) fun g0_0 => ?_)
  refine p 1 ?_
  refine rend ?_
  refine c_seq ?_
  refine c_seq ?_
  refine r_start ?_
  refine p 3 ?_
  refine rend ?_
  refine c_block ?_
  refine joinE (X := Unit) 0 (H.or h) (fun (x : Unit) => x) (fun _ => [box g0_0 28 (eShape a1)]) (fun _ u => (jk u 0 19 [])) (fun h hj1 => ?_) ?_
  · skip
    refine rangeR (X := Unit) (s_arg h0) (fun (x : Unit) => x) (fun _ => [box g0_0 28 (eShape a1)]) (fun (j2 : Nat) _ u => (.slice A0 (List.length a0) k0 :: (jk u 1 2 (.pointer (some ⟨g0_0, 0, none⟩) :: (jk u 4 3 (.int .i64 (List.length a0 : Int) :: .int .i64 (j2 : Int) :: (jk u 9 10 []))))))) () h (by kernel_rfl) (by kernel_rfl) ?_ ?_
    · intro j2 x u x3 q4 hg5 hw6 h
      refine c_seq ?_
      refine r_start ?_
      refine p 1 ?_
      refine rend ?_
      refine c_seq ?_
      refine c_yes q4 ?_
      refine c_skip ?_
      refine c_seq ?_
      refine c_block ?_
      refine c_seq ?_
      refine r_start ?_
      refine p 2 ?_
      refine rend ?_
      refine c_seq ?_
      refine as_start 6 6 ?_
      refine aq 0 rfl (y_load (.agg (eShape a1).toArray) 0 g0_0 0) ?_
      refine ap 1 2 ?_
      refine aq 3 rfl (y_idx (e := nShape) (el := 28) hg5 (s_arg h0)) ?_
      refine aq 4 rfl (y_el (e := nShape) 0 (.agg (eShape x3).toArray) hg5 (s_arg h0)) ?_
      refine ap 5 1 ?_
      refine a_done ?_
      refine c_or (qShape a1 x3) (fun q7 => ?_) (fun q7 => ?_)
      · replace h := H.t q7 h
        refine c_seq ?_
        refine r_start ?_
        refine p 2 ?_
        refine rend ?_
        replace h := H.inr h
        replace h := H.done h
        subst h
        exact ret func209 rfl (vs := [.int .i64 (j2 : Int)]) (.tmp (by kernel_rfl) .nil) rfl (fun W S => ⟨rfl, S.below⟩)
      replace h := H.f q7 h
      refine c_skip ?_
      refine c_inb ?_
      refine r_start ?_
      refine p 2 ?_
      refine rend ?_
      refine c_set 8 (ci hw6) ?_
      replace h := H.inl h
      exact h () _ _ rfl (by kernel_rfl) (by kernel_rfl)
    · intro x u q4 h
      refine c_seq ?_
      refine r_start ?_
      refine p 1 ?_
      refine rend ?_
      refine c_seq ?_
      refine c_no q4 ?_
      refine cx ?_
      replace h := H.done h
      exact hj1 () _ _ h (by kernel_rfl) (by kernel_rfl)
  intro x u h
  refine c_seq ?_
  refine r_start ?_
  refine p 1 ?_
  refine rend ?_
  replace h := H.done h
  subst h
  exact ret func209 rfl (vs := [.int .i64 (-1)]) (.tmp (by kernel_rfl) .nil) rfl (fun W S => ⟨rfl, S.below⟩)
theorem C.slices_Contains_i_Shape_i_Shape {a0 : (List Shape)} {A0 : Option Addr} {k0 : Nat} {a1 : Shape} {r : Bool} (w : World) (h : X.slices_Contains_i_Shape_i_Shape a0 a1 = some r) (h0 : RdT nShape w (.slice A0 (List.length a0) k0) a0) : Calls prog 158 #[.slice A0 (List.length a0) k0, .agg (eShape a1).toArray] w (Ret w (.bool r)) := by
  refine calls (M := no) (args := [.slice A0 (List.length a0) k0, .agg (eShape a1).toArray]) func158 rfl ?_
  replace h : H (X.slices_Contains_i_Shape_i_Shape a0 a1) (fun o => o = r) := H.mk h
  unfold X.slices_Contains_i_Shape_i_Shape at h
  refine c_seq ?_
  refine r_start ?_
  refine xx rfl (x_box (eShape a1) fun g0_0 => ?_)
  refine p 1 ?_
  refine rend ?_
  refine c_seq ?_
  refine r_start ?_
  refine p 1 ?_
  refine xq rfl (y_load (.agg (eShape a1).toArray) 0 g0_0 0) ?_
  obtain ⟨v1_2, hv1_2, h⟩ := H.call h
  refine xq rfl (y_call [.slice A0 (List.length a0) k0, .agg (eShape a1).toArray] (.int .i64 v1_2) func209 (fun W S => C.slices_Index_i_Shape_i_Shape W hv1_2 ((s_arg h0).out W S))) ?_
  refine p 2 ?_
  refine rend ?_
  replace h := H.done h
  subst h
  exact ret func158 rfl (vs := [.bool (decide (v1_2 ≥ 0))]) (.tmp (by kernel_rfl) .nil) rfl (fun W S => ⟨rfl, S.below⟩)
theorem C.strconv_Itoa {a0 : Int} {r : Str} (w : World) (h : X.strconv_Itoa a0 = some r) : Calls prog 173 #[.int .i64 a0] w (Ret w (.string (bs r))) := by
  unfold X.strconv_Itoa at h
  split at h
  · rename_i hc
    obtain rfl := Option.some.inj h
    have := Tryz.strconv_Itoa_small a0.toNat (by omega) w
    have e : ((a0.toNat : Nat) : Int) = a0 := by omega
    rw [e] at this
    refine this.mono ?_
    rintro e w' ⟨rfl, rfl⟩
    exact ⟨rfl, Below.refl _ _⟩
  · cases h
theorem C.i_Shape_text {a0 : Shape} {r : Str} (w : World) (h : X.i_Shape_text a0 = some r) : Calls prog 181 #[.agg (eShape a0).toArray] w (Ret w (.string (bs r))) := by
  refine calls (M := no) (args := [.agg (eShape a0).toArray]) func181 rfl ?_
  replace h : H (X.i_Shape_text a0) (fun o => o = r) := H.mk h
  unfold X.i_Shape_text at h
  refine c_seq ?_
  refine r_start ?_
  refine xx rfl (x_box (eShape a0) fun g0_0 => ?_)
  refine p 1 ?_
  refine rend ?_
  refine c_seq ?_
  refine r_start ?_
  refine p 1 ?_
  refine xq rfl (y_load (.int .i64 a0.Thumb) 0 g0_0 0) ?_
  obtain ⟨v1_2, hv1_2, h⟩ := H.call h
  refine xq rfl (y_call [.int .i64 a0.Thumb] (.string (bs v1_2)) func173 (fun W S => C.strconv_Itoa W hv1_2)) ?_
  refine p 1 ?_
  refine rend ?_
  refine c_seq ?_
  refine c_seq ?_
  refine r_start ?_
  refine xq rfl (y_load (.agg (eShape a0).toArray) 0 g0_0 0) ?_
  obtain ⟨v2_1, hv2_1, h⟩ := H.call h
  refine xx rfl (e_cr [.agg (eShape a0).toArray] (fun v => v) func164 (fun W S => C.i_Shape_bends W hv2_1) fun A2_1 k2_1 => ?_)
  refine p 2 ?_
  refine rend ?_
  refine c_block ?_
  refine joinH (X := Str) 0 (H.bnd h) (fun (x : Str) => x) (fun t2 => [box g0_0 28 (eShape a0), rowT (eI .i64) w.heap.size 3 (.slice A2_1 (List.length v2_1) k2_1) v2_1]) (fun t2 u => (jk u 0 1 (.pointer (some ⟨g0_0, 0, none⟩) :: (jk u 2 1 (.string (bs t2) :: (jk u 4 22 [])))))) (fun h hj3 => ?_) ?_
  · skip
    refine rangeR (X := Str) (s_own 1) (fun (x : Str) => x) (fun t1 => [box g0_0 28 (eShape a0), rowT (eI .i64) w.heap.size 3 (.slice A2_1 (List.length v2_1) k2_1) v2_1]) (fun (j4 : Nat) t1 u => (jk u 0 1 (.pointer (some ⟨g0_0, 0, none⟩) :: (jk u 2 1 (.string (bs t1) :: (jk u 4 6 (.slice A2_1 (List.length v2_1) k2_1 :: .int .i64 (List.length v2_1 : Int) :: .int .i64 (j4 : Int) :: (jk u 13 13 [])))))))) v1_2 h (by kernel_rfl) (by kernel_rfl) ?_ ?_
    · intro j4 t1 u x5 q6 hg7 hw8 h
      refine c_seq ?_
      refine r_start ?_
      refine p 1 ?_
      refine rend ?_
      refine c_seq ?_
      refine c_yes q6 ?_
      refine c_skip ?_
      refine c_seq ?_
      refine c_block ?_
      refine c_seq ?_
      refine r_start ?_
      refine xq rfl (y_idx (e := (eI .i64)) (el := 3) hg7 (s_own 1)) ?_
      refine xq rfl (y_el (e := (eI .i64)) 0 (.int .i64 x5) hg7 (s_own 1)) ?_
      refine p 1 ?_
      refine rend ?_
      refine r_start ?_
      refine p 2 ?_
      obtain ⟨v5_2, hv5_2, h⟩ := H.call h
      refine xq rfl (y_call [.int .i64 x5] (.string (bs v5_2)) func173 (fun W S => C.strconv_Itoa W hv5_2)) ?_
      obtain ⟨y5_3, hy5_3, h⟩ := H.call h
      refine xq rfl (y_cat hy5_3) ?_
      refine p 1 ?_
      refine rend ?_
      refine c_inb ?_
      refine r_start ?_
      refine p 2 ?_
      refine rend ?_
      refine c_set 12 (ci hw8) ?_
      replace h := H.inl h
      exact h y5_3 _ _ rfl (by kernel_rfl) (by kernel_rfl)
    · intro t1 u q6 h
      refine c_seq ?_
      refine r_start ?_
      refine p 1 ?_
      refine rend ?_
      refine c_seq ?_
      refine c_no q6 ?_
      refine cx ?_
      replace h := H.done h
      exact hj3 t1 _ _ h (by kernel_rfl) (by kernel_rfl)
  intro t2 u h
  refine c_seq ?_
  refine c_seq ?_
  refine r_start ?_
  refine p 1 ?_
  refine xq rfl (y_load (.bool a0.Spread) 0 g0_0 5) ?_
  refine rend ?_
  refine c_or a0.Spread (fun q9 => ?_) (fun q9 => ?_)
  · replace h := H.t q9 h
    refine r_start ?_
    refine p 1 ?_
    obtain ⟨y8_1, hy8_1, h⟩ := H.call h
    refine xq rfl (y_cat hy8_1) ?_
    refine p 1 ?_
    refine rend ?_
    refine c_seq ?_
    refine r_start ?_
    refine p 2 ?_
    refine rend ?_
    replace h := H.done h
    subst h
    exact ret func181 rfl (vs := [.string (bs y8_1)]) (.tmp (by kernel_rfl) .nil) rfl (fun W S => ⟨rfl, S.below⟩)
  replace h := H.f q9 h
  refine c_skip ?_
  refine c_seq ?_
  refine r_start ?_
  refine p 2 ?_
  refine rend ?_
  replace h := H.done h
  subst h
  exact ret func181 rfl (vs := [.string (bs t2)]) (.tmp (by kernel_rfl) .nil) rfl (fun W S => ⟨rfl, S.below⟩)
theorem C.i_Shape_with {a0 : Shape} {a1 : Int} {a2 : Int} {r : Shape} (w : World) (h : X.i_Shape_with a0 a1 a2 = some r) : Calls prog 241 #[.agg (eShape a0).toArray, .int .i64 a1, .int .i64 a2] w (Ret w (.agg (eShape r).toArray)) := by
  refine calls (M := no) (args := [.agg (eShape a0).toArray, .int .i64 a1, .int .i64 a2]) func241 rfl ?_
  replace h : H (X.i_Shape_with a0 a1 a2) (fun o => o = r) := H.mk h
  unfold X.i_Shape_with at h
  refine c_seq ?_
  refine r_start ?_
  refine xx rfl (x_box (eShape a0) fun g0_0 => ?_)
  refine xx rfl (x_new (eShape zShape) fun g0_1 => ?_)
  refine rend ?_
  refine c_seq ?_
  refine c_seq ?_
  refine r_start ?_
  refine p 1 ?_
  refine rend ?_
  refine c_block ?_
  refine c_seq ?_
  refine r_start ?_
  refine p 2 ?_
  refine rend ?_
  refine c_or (a1 == 0) (fun q1 => ?_) (fun q1 => ?_)
  · replace h := H.t q1 h
    refine r_start ?_
    refine p 2 ?_
    refine xx rfl (x_sto 0 g0_0 0 (eShape ({ a0 with Thumb := a2 })) ?_)
    refine rend ?_
    refine c_inb ?_
    refine c_seq ?_
    refine r_start ?_
    refine p 1 ?_
    refine xq rfl (y_load (.bool a0.Spread) 0 g0_0 5) ?_
    refine p 1 ?_
    refine br a0.Spread (fun q2 => ?_) (fun q2 => ?_)
    · replace h := H.t q2 h
      refine o_set 28 (congrArg Value.bool q2) ?_
      refine xq rfl (y_load (.agg (eShape ({ a0 with Thumb := a2 })).toArray) 0 g0_0 0) ?_
      obtain ⟨v11_4, hv11_4, h⟩ := H.call h
      refine xq rfl (y_call [.agg (eShape ({ a0 with Thumb := a2 })).toArray] (.bool v11_4) func208 (fun W S => C.i_Shape_maySpread W hv11_4)) ?_
      refine p 2 ?_
      refine xx rfl (x_sto 0 g0_0 5 (eShape ({ a0 with Thumb := a2, Spread := v11_4 })) ?_)
      refine rend ?_
      refine c_seq ?_
      refine r_start ?_
      refine xq rfl (y_load (.agg (eShape ({ a0 with Thumb := a2, Spread := v11_4 })).toArray) 0 g0_0 0) ?_
      refine xx rfl (x_sto 1 g0_1 0 (eShape ({ a0 with Thumb := a2, Spread := v11_4 })) ?_)
      refine rend ?_
      replace h := H.done h
      subst h
      exact ret func241 rfl (vs := [.agg (eShape ({ a0 with Thumb := a2, Spread := v11_4 })).toArray]) (.cell 1 g0_1 rfl (by kernel_rfl) (by kernel_rfl) .nil) rfl (fun W S => ⟨rfl, S.below⟩)
    replace h := H.f q2 h
    refine o_set 28 (congrArg Value.bool q2) ?_
    refine p 4 ?_
    refine xx rfl (x_sto 0 g0_0 5 (eShape ({ a0 with Thumb := a2, Spread := false })) ?_)
    refine rend ?_
    refine c_seq ?_
    refine r_start ?_
    refine xq rfl (y_load (.agg (eShape ({ a0 with Thumb := a2, Spread := false })).toArray) 0 g0_0 0) ?_
    refine xx rfl (x_sto 1 g0_1 0 (eShape ({ a0 with Thumb := a2, Spread := false })) ?_)
    refine rend ?_
    replace h := H.done h
    subst h
    exact ret func241 rfl (vs := [.agg (eShape ({ a0 with Thumb := a2, Spread := false })).toArray]) (.cell 1 g0_1 rfl (by kernel_rfl) (by kernel_rfl) .nil) rfl (fun W S => ⟨rfl, S.below⟩)
  replace h := H.f q1 h
  refine c_seq ?_
  refine r_start ?_
  refine p 2 ?_
  refine rend ?_
  refine c_or (a1 == 1) (fun q3 => ?_) (fun q3 => ?_)
  · replace h := H.t q3 h
    refine r_start ?_
    refine p 2 ?_
    refine xx rfl (x_sto 0 g0_0 1 (eShape ({ a0 with Index := a2 })) ?_)
    refine rend ?_
    refine c_inb ?_
    refine c_seq ?_
    refine r_start ?_
    refine p 1 ?_
    refine xq rfl (y_load (.bool a0.Spread) 0 g0_0 5) ?_
    refine p 1 ?_
    refine br a0.Spread (fun q4 => ?_) (fun q4 => ?_)
    · replace h := H.t q4 h
      refine o_set 28 (congrArg Value.bool q4) ?_
      refine xq rfl (y_load (.agg (eShape ({ a0 with Index := a2 })).toArray) 0 g0_0 0) ?_
      obtain ⟨v11_4, hv11_4, h⟩ := H.call h
      refine xq rfl (y_call [.agg (eShape ({ a0 with Index := a2 })).toArray] (.bool v11_4) func208 (fun W S => C.i_Shape_maySpread W hv11_4)) ?_
      refine p 2 ?_
      refine xx rfl (x_sto 0 g0_0 5 (eShape ({ a0 with Index := a2, Spread := v11_4 })) ?_)
      refine rend ?_
      refine c_seq ?_
      refine r_start ?_
      refine xq rfl (y_load (.agg (eShape ({ a0 with Index := a2, Spread := v11_4 })).toArray) 0 g0_0 0) ?_
      refine xx rfl (x_sto 1 g0_1 0 (eShape ({ a0 with Index := a2, Spread := v11_4 })) ?_)
      refine rend ?_
      replace h := H.done h
      subst h
      exact ret func241 rfl (vs := [.agg (eShape ({ a0 with Index := a2, Spread := v11_4 })).toArray]) (.cell 1 g0_1 rfl (by kernel_rfl) (by kernel_rfl) .nil) rfl (fun W S => ⟨rfl, S.below⟩)
    replace h := H.f q4 h
    refine o_set 28 (congrArg Value.bool q4) ?_
    refine p 4 ?_
    refine xx rfl (x_sto 0 g0_0 5 (eShape ({ a0 with Index := a2, Spread := false })) ?_)
    refine rend ?_
    refine c_seq ?_
    refine r_start ?_
    refine xq rfl (y_load (.agg (eShape ({ a0 with Index := a2, Spread := false })).toArray) 0 g0_0 0) ?_
    refine xx rfl (x_sto 1 g0_1 0 (eShape ({ a0 with Index := a2, Spread := false })) ?_)
    refine rend ?_
    replace h := H.done h
    subst h
    exact ret func241 rfl (vs := [.agg (eShape ({ a0 with Index := a2, Spread := false })).toArray]) (.cell 1 g0_1 rfl (by kernel_rfl) (by kernel_rfl) .nil) rfl (fun W S => ⟨rfl, S.below⟩)
  replace h := H.f q3 h
  refine c_seq ?_
  refine r_start ?_
  refine p 2 ?_
  refine rend ?_
  refine c_or (a1 == 2) (fun q5 => ?_) (fun q5 => ?_)
  · replace h := H.t q5 h
    refine r_start ?_
    refine p 2 ?_
    refine xx rfl (x_sto 0 g0_0 2 (eShape ({ a0 with Middle := a2 })) ?_)
    refine rend ?_
    refine c_inb ?_
    refine c_seq ?_
    refine r_start ?_
    refine p 1 ?_
    refine xq rfl (y_load (.bool a0.Spread) 0 g0_0 5) ?_
    refine p 1 ?_
    refine br a0.Spread (fun q6 => ?_) (fun q6 => ?_)
    · replace h := H.t q6 h
      refine o_set 28 (congrArg Value.bool q6) ?_
      refine xq rfl (y_load (.agg (eShape ({ a0 with Middle := a2 })).toArray) 0 g0_0 0) ?_
      obtain ⟨v11_4, hv11_4, h⟩ := H.call h
      refine xq rfl (y_call [.agg (eShape ({ a0 with Middle := a2 })).toArray] (.bool v11_4) func208 (fun W S => C.i_Shape_maySpread W hv11_4)) ?_
      refine p 2 ?_
      refine xx rfl (x_sto 0 g0_0 5 (eShape ({ a0 with Middle := a2, Spread := v11_4 })) ?_)
      refine rend ?_
      refine c_seq ?_
      refine r_start ?_
      refine xq rfl (y_load (.agg (eShape ({ a0 with Middle := a2, Spread := v11_4 })).toArray) 0 g0_0 0) ?_
      refine xx rfl (x_sto 1 g0_1 0 (eShape ({ a0 with Middle := a2, Spread := v11_4 })) ?_)
      refine rend ?_
      replace h := H.done h
      subst h
      exact ret func241 rfl (vs := [.agg (eShape ({ a0 with Middle := a2, Spread := v11_4 })).toArray]) (.cell 1 g0_1 rfl (by kernel_rfl) (by kernel_rfl) .nil) rfl (fun W S => ⟨rfl, S.below⟩)
    replace h := H.f q6 h
    refine o_set 28 (congrArg Value.bool q6) ?_
    refine p 4 ?_
    refine xx rfl (x_sto 0 g0_0 5 (eShape ({ a0 with Middle := a2, Spread := false })) ?_)
    refine rend ?_
    refine c_seq ?_
    refine r_start ?_
    refine xq rfl (y_load (.agg (eShape ({ a0 with Middle := a2, Spread := false })).toArray) 0 g0_0 0) ?_
    refine xx rfl (x_sto 1 g0_1 0 (eShape ({ a0 with Middle := a2, Spread := false })) ?_)
    refine rend ?_
    replace h := H.done h
    subst h
    exact ret func241 rfl (vs := [.agg (eShape ({ a0 with Middle := a2, Spread := false })).toArray]) (.cell 1 g0_1 rfl (by kernel_rfl) (by kernel_rfl) .nil) rfl (fun W S => ⟨rfl, S.below⟩)
  replace h := H.f q5 h
  refine c_seq ?_
  refine r_start ?_
  refine p 2 ?_
  refine rend ?_
  refine c_or (a1 == 3) (fun q7 => ?_) (fun q7 => ?_)
  · replace h := H.t q7 h
    refine r_start ?_
    refine p 2 ?_
    refine xx rfl (x_sto 0 g0_0 3 (eShape ({ a0 with Ring := a2 })) ?_)
    refine rend ?_
    refine c_inb ?_
    refine c_seq ?_
    refine r_start ?_
    refine p 1 ?_
    refine xq rfl (y_load (.bool a0.Spread) 0 g0_0 5) ?_
    refine p 1 ?_
    refine br a0.Spread (fun q8 => ?_) (fun q8 => ?_)
    · replace h := H.t q8 h
      refine o_set 28 (congrArg Value.bool q8) ?_
      refine xq rfl (y_load (.agg (eShape ({ a0 with Ring := a2 })).toArray) 0 g0_0 0) ?_
      obtain ⟨v11_4, hv11_4, h⟩ := H.call h
      refine xq rfl (y_call [.agg (eShape ({ a0 with Ring := a2 })).toArray] (.bool v11_4) func208 (fun W S => C.i_Shape_maySpread W hv11_4)) ?_
      refine p 2 ?_
      refine xx rfl (x_sto 0 g0_0 5 (eShape ({ a0 with Ring := a2, Spread := v11_4 })) ?_)
      refine rend ?_
      refine c_seq ?_
      refine r_start ?_
      refine xq rfl (y_load (.agg (eShape ({ a0 with Ring := a2, Spread := v11_4 })).toArray) 0 g0_0 0) ?_
      refine xx rfl (x_sto 1 g0_1 0 (eShape ({ a0 with Ring := a2, Spread := v11_4 })) ?_)
      refine rend ?_
      replace h := H.done h
      subst h
      exact ret func241 rfl (vs := [.agg (eShape ({ a0 with Ring := a2, Spread := v11_4 })).toArray]) (.cell 1 g0_1 rfl (by kernel_rfl) (by kernel_rfl) .nil) rfl (fun W S => ⟨rfl, S.below⟩)
    replace h := H.f q8 h
    refine o_set 28 (congrArg Value.bool q8) ?_
    refine p 4 ?_
    refine xx rfl (x_sto 0 g0_0 5 (eShape ({ a0 with Ring := a2, Spread := false })) ?_)
    refine rend ?_
    refine c_seq ?_
    refine r_start ?_
    refine xq rfl (y_load (.agg (eShape ({ a0 with Ring := a2, Spread := false })).toArray) 0 g0_0 0) ?_
    refine xx rfl (x_sto 1 g0_1 0 (eShape ({ a0 with Ring := a2, Spread := false })) ?_)
    refine rend ?_
    replace h := H.done h
    subst h
    exact ret func241 rfl (vs := [.agg (eShape ({ a0 with Ring := a2, Spread := false })).toArray]) (.cell 1 g0_1 rfl (by kernel_rfl) (by kernel_rfl) .nil) rfl (fun W S => ⟨rfl, S.below⟩)
  replace h := H.f q7 h
  refine r_start ?_
  refine p 2 ?_
  refine xx rfl (x_sto 0 g0_0 4 (eShape ({ a0 with Little := a2 })) ?_)
  refine rend ?_
  refine c_inb ?_
  refine c_seq ?_
  refine r_start ?_
  refine p 1 ?_
  refine xq rfl (y_load (.bool a0.Spread) 0 g0_0 5) ?_
  refine p 1 ?_
  refine br a0.Spread (fun q9 => ?_) (fun q9 => ?_)
  · replace h := H.t q9 h
    refine o_set 28 (congrArg Value.bool q9) ?_
    refine xq rfl (y_load (.agg (eShape ({ a0 with Little := a2 })).toArray) 0 g0_0 0) ?_
    obtain ⟨v11_4, hv11_4, h⟩ := H.call h
    refine xq rfl (y_call [.agg (eShape ({ a0 with Little := a2 })).toArray] (.bool v11_4) func208 (fun W S => C.i_Shape_maySpread W hv11_4)) ?_
    refine p 2 ?_
    refine xx rfl (x_sto 0 g0_0 5 (eShape ({ a0 with Little := a2, Spread := v11_4 })) ?_)
    refine rend ?_
    refine c_seq ?_
    refine r_start ?_
    refine xq rfl (y_load (.agg (eShape ({ a0 with Little := a2, Spread := v11_4 })).toArray) 0 g0_0 0) ?_
    refine xx rfl (x_sto 1 g0_1 0 (eShape ({ a0 with Little := a2, Spread := v11_4 })) ?_)
    refine rend ?_
    replace h := H.done h
    subst h
    exact ret func241 rfl (vs := [.agg (eShape ({ a0 with Little := a2, Spread := v11_4 })).toArray]) (.cell 1 g0_1 rfl (by kernel_rfl) (by kernel_rfl) .nil) rfl (fun W S => ⟨rfl, S.below⟩)
  replace h := H.f q9 h
  refine o_set 28 (congrArg Value.bool q9) ?_
  refine p 4 ?_
  refine xx rfl (x_sto 0 g0_0 5 (eShape ({ a0 with Little := a2, Spread := false })) ?_)
  refine rend ?_
  refine c_seq ?_
  refine r_start ?_
  refine xq rfl (y_load (.agg (eShape ({ a0 with Little := a2, Spread := false })).toArray) 0 g0_0 0) ?_
  refine xx rfl (x_sto 1 g0_1 0 (eShape ({ a0 with Little := a2, Spread := false })) ?_)
  refine rend ?_
  replace h := H.done h
  subst h
  exact ret func241 rfl (vs := [.agg (eShape ({ a0 with Little := a2, Spread := false })).toArray]) (.cell 1 g0_1 rfl (by kernel_rfl) (by kernel_rfl) .nil) rfl (fun W S => ⟨rfl, S.below⟩)
theorem C.i_ParseShape {fu : Nat} {a0 : Str} {r : (Shape × Bool)} (w : World) (h : X.i_ParseShape fu a0 = some r) : Calls prog 210 #[.string (bs a0)] w (Ret w (.tuple #[.agg (eShape r.1).toArray, .bool r.2])) := by
  refine calls (M := no) (args := [.string (bs a0)]) func210 rfl ?_
  replace h : H (X.i_ParseShape fu a0) (fun o => o = r) := H.mk h
  unfold X.i_ParseShape at h
  refine c_seq ?_
  refine r_start ?_
  refine xx rfl (x_new (eShape zShape) fun g0_0 => ?_)
  refine p 1 ?_
  refine rend ?_
  refine c_seq ?_
  refine c_seq ?_
  refine r_start ?_
  refine p 2 ?_
  obtain ⟨v1_2, hv1_2, h⟩ := H.call h
  refine xq rfl (y_call [.int .i64 (List.length a0 : Int), .int .i64 5, .int .i64 6] (.bool v1_2) func120 (fun W S => C.i_within W hv1_2)) ?_
  refine p 1 ?_
  refine rend ?_
  refine c_or (!v1_2) (fun q1 => ?_) (fun q1 => ?_)
  · replace h := H.t q1 h
    refine c_seq ?_
    refine r_start ?_
    refine p 1 ?_
    refine xx rfl (x_sto 0 g0_0 0 (eShape zShape) ?_)
    refine p 1 ?_
    refine rend ?_
    replace h := H.done h
    subst h
    exact ret func210 rfl (vs := [.agg (eShape zShape).toArray, .bool false]) (.cell 0 g0_0 rfl (by kernel_rfl) (by kernel_rfl) (.tmp (by kernel_rfl) .nil)) rfl (fun W S => ⟨rfl, S.below⟩)
  replace h := H.f q1 h
  refine c_skip ?_
  refine c_seq ?_
  refine r_start ?_
  refine xx rfl (x_new (eShape zShape) fun g3_0 => ?_)
  refine rend ?_
  refine c_seq ?_
  refine c_seq ?_
  refine r_start ?_
  refine p 1 ?_
  refine rend ?_
  refine c_block ?_
  refine joinH (X := Shape) 0 (H.bnd h) (fun (x : Shape) => x) (fun s4 => [box g0_0 28 (eShape zShape), box g3_0 28 (eShape s4)]) (fun s4 u => (.string (bs a0) :: (jk u 1 1 (.pointer (some ⟨g0_0, 0, none⟩) :: (jk u 3 1 (.pointer (some ⟨g3_0, 0, none⟩) :: (jk u 5 33 []))))))) (fun h hj5 => ?_) ?_
  · skip
    refine loopR (X := (Int × Shape)) (fun (x : (Int × Shape)) => x) (fun ⟨n2, s3⟩ => [box g0_0 28 (eShape zShape), box g3_0 28 (eShape s3)]) (fun ⟨n2, s3⟩ u => (.string (bs a0) :: (jk u 1 1 (.pointer (some ⟨g0_0, 0, none⟩) :: (jk u 3 1 (.pointer (some ⟨g3_0, 0, none⟩) :: (jk u 5 6 (.int .i64 n2 :: (jk u 12 26 []))))))))) (0, zShape) h (by kernel_rfl) (by kernel_rfl) ?_
    intro x u h
    obtain ⟨n2, s3⟩ := x
    refine c_seq ?_
    refine r_start ?_
    refine p 1 ?_
    refine rend ?_
    refine c_seq ?_
    refine c_or (decide (n2 < 5)) (fun q6 => ?_) (fun q6 => ?_)
    · replace h := H.t q6 h
      refine c_skip ?_
      refine c_seq ?_
      refine c_block ?_
      refine c_seq ?_
      refine r_start ?_
      refine p 2 ?_
      refine rend ?_
      refine as_start 8 9 ?_
      refine aq 0 rfl (y_load (.agg (eShape s3).toArray) 1 g3_0 0) ?_
      refine ap 1 3 ?_
      obtain ⟨y7_4, hy7_4, h⟩ := H.call h
      refine aq 4 rfl (y_byte hy7_4) ?_
      refine ap 5 2 ?_
      obtain ⟨v7_7, hv7_7, h⟩ := H.call h
      refine aq 7 rfl (y_call [.agg (eShape s3).toArray, .int .i64 n2, .int .i64 (wr ((wr y7_4) - 48))] (.agg (eShape v7_7).toArray) func241 (fun W S => C.i_Shape_with W hv7_7)) ?_
      refine ax 8 rfl (x_sto 1 g3_0 0 (eShape v7_7) ⟨.inl (by kernel_rfl), ?_⟩)
      refine a_done ?_
      refine c_inb ?_
      refine r_start ?_
      refine p 2 ?_
      refine rend ?_
      replace h := H.inl h
      exact h ((wr (n2 + 1)), v7_7) _ _ rfl (by kernel_rfl) (by kernel_rfl)
    replace h := H.f q6 h
    refine cx ?_
    replace h := H.inr h
    exact hj5 s3 _ _ h (by kernel_rfl) (by kernel_rfl)
  intro s4 u h
  refine c_seq ?_
  refine r_start ?_
  refine p 4 ?_
  refine xx rfl (x_sto 1 g3_0 5 (eShape ({ s4 with Spread := ((List.length a0 : Int) == 6) })) ?_)
  refine rend ?_
  refine c_seq ?_
  refine c_seq ?_
  refine r_start ?_
  refine xq rfl (y_load (.agg (eShape ({ s4 with Spread := ((List.length a0 : Int) == 6) })).toArray) 1 g3_0 0) ?_
  obtain ⟨v10_1, hv10_1, h⟩ := H.call h
  refine xq rfl (y_call [.agg (eShape ({ s4 with Spread := ((List.length a0 : Int) == 6) })).toArray] (.bool v10_1) func153 (fun W S => C.i_IsShape W hv10_1)) ?_
  refine p 2 ?_
  refine br (!v10_1) (fun q7 => ?_) (fun q7 => ?_)
  · replace h := H.t q7 h
    refine o_set 30 (congrArg Value.bool q7) ?_
    refine p 5 ?_
    refine rend ?_
    refine c_t (by kernel_rfl) ?_
    refine c_seq ?_
    refine r_start ?_
    refine p 1 ?_
    refine xx rfl (x_sto 0 g0_0 0 (eShape zShape) ?_)
    refine p 1 ?_
    refine rend ?_
    replace h := H.done h
    subst h
    exact ret func210 rfl (vs := [.agg (eShape zShape).toArray, .bool false]) (.cell 0 g0_0 rfl (by kernel_rfl) (by kernel_rfl) (.tmp (by kernel_rfl) .nil)) rfl (fun W S => ⟨rfl, S.below⟩)
  replace h := H.f q7 h
  refine o_set 30 (congrArg Value.bool q7) ?_
  refine xq rfl (y_load (.agg (eShape ({ s4 with Spread := ((List.length a0 : Int) == 6) })).toArray) 1 g3_0 0) ?_
  obtain ⟨v10_5, hv10_5, h⟩ := H.call h
  refine xq rfl (y_call [.agg (eShape ({ s4 with Spread := ((List.length a0 : Int) == 6) })).toArray] (.string (bs v10_5)) func181 (fun W S => C.i_Shape_text W hv10_5)) ?_
  refine p 3 ?_
  refine rend ?_
  refine c_or (!seq v10_5 a0) (fun q8 => ?_) (fun q8 => ?_)
  · replace h := H.t q8 h
    refine c_seq ?_
    refine r_start ?_
    refine p 1 ?_
    refine xx rfl (x_sto 0 g0_0 0 (eShape zShape) ?_)
    refine p 1 ?_
    refine rend ?_
    replace h := H.done h
    subst h
    exact ret func210 rfl (vs := [.agg (eShape zShape).toArray, .bool false]) (.cell 0 g0_0 rfl (by kernel_rfl) (by kernel_rfl) (.tmp (by kernel_rfl) .nil)) rfl (fun W S => ⟨rfl, S.below⟩)
  replace h := H.f q8 h
  refine c_skip ?_
  refine c_seq ?_
  refine r_start ?_
  refine xq rfl (y_load (.agg (eShape ({ s4 with Spread := ((List.length a0 : Int) == 6) })).toArray) 1 g3_0 0) ?_
  refine xx rfl (x_sto 0 g0_0 0 (eShape ({ s4 with Spread := ((List.length a0 : Int) == 6) })) ?_)
  refine p 1 ?_
  refine rend ?_
  replace h := H.done h
  subst h
  exact ret func210 rfl (vs := [.agg (eShape ({ s4 with Spread := ((List.length a0 : Int) == 6) })).toArray, .bool true]) (.cell 0 g0_0 rfl (by kernel_rfl) (by kernel_rfl) (.tmp (by kernel_rfl) .nil)) rfl (fun W S => ⟨rfl, S.below⟩)
theorem C.i_PlainShapes {fu : Nat} {r : (List Shape)} (w : World) (h : X.i_PlainShapes fu = some r) : Calls prog 159 #[] w (RetR nShape 28 w r (fun v => v)) := by
  refine calls (M := no) (args := []) func159 rfl ?_
  replace h : H (X.i_PlainShapes fu) (fun o => o = r) := H.mk h
  unfold X.i_PlainShapes at h
  refine c_seq ?_
  refine r_start ?_
  refine p 1 ?_
  refine rend ?_
  refine c_seq ?_
  refine r_start ?_
  refine p 1 ?_
  refine rend ?_
  refine c_seq ?_
  refine c_seq ?_
  refine r_start ?_
  refine xx rfl (e_lit (e := eS) (el := 9) [.string (bs ([48, 48, 48, 48, 48] : Str)), .string (bs ([48, 48, 48, 48, 48, 115] : Str)), .string (bs ([50, 50, 50, 50, 50] : Str)), .string (bs ([49, 48, 48, 48, 48] : Str)), .string (bs ([49, 48, 50, 50, 50] : Str)), .string (bs ([48, 48, 50, 50, 50] : Str))] ([([48, 48, 48, 48, 48] : Str), ([48, 48, 48, 48, 48, 115] : Str), ([50, 50, 50, 50, 50] : Str), ([49, 48, 48, 48, 48] : Str), ([49, 48, 50, 50, 50] : Str), ([48, 48, 50, 50, 50] : Str)] : List Str) fun A2_0 k2_0 => ?_)
  refine p 2 ?_
  refine rend ?_
  refine c_block ?_
  refine c_nil nShape 28 ?_
  refine joinH (X := ((List Shape) × Option Addr × Nat)) 0 (H.bnd h) (fun ⟨l4, A5, k6⟩ => l4) (fun ⟨l4, A5, k6⟩ => [rowT eS w.heap.size 9 (.slice A2_0 (List.length ([([48, 48, 48, 48, 48] : Str), ([48, 48, 48, 48, 48, 115] : Str), ([50, 50, 50, 50, 50] : Str), ([49, 48, 48, 48, 48] : Str), ([49, 48, 50, 50, 50] : Str), ([48, 48, 50, 50, 50] : Str)] : List Str)) k2_0) ([([48, 48, 48, 48, 48] : Str), ([48, 48, 48, 48, 48, 115] : Str), ([50, 50, 50, 50, 50] : Str), ([49, 48, 48, 48, 48] : Str), ([49, 48, 50, 50, 50] : Str), ([48, 48, 50, 50, 50] : Str)] : List Str), rowT nShape w.heap.size 28 (.slice A5 (List.length l4) k6) l4]) (fun ⟨l4, A5, k6⟩ u => (jk u 0 1 (.slice A5 (List.length l4) k6 :: (jk u 2 21 [])))) (fun h hj7 => ?_) ?_
  · skip
    refine rangeR (X := ((List Shape) × Option Addr × Nat)) (s_own 0) (fun ⟨l1, A2, k3⟩ => l1) (fun ⟨l1, A2, k3⟩ => [rowT eS w.heap.size 9 (.slice A2_0 (List.length ([([48, 48, 48, 48, 48] : Str), ([48, 48, 48, 48, 48, 115] : Str), ([50, 50, 50, 50, 50] : Str), ([49, 48, 48, 48, 48] : Str), ([49, 48, 50, 50, 50] : Str), ([48, 48, 50, 50, 50] : Str)] : List Str)) k2_0) ([([48, 48, 48, 48, 48] : Str), ([48, 48, 48, 48, 48, 115] : Str), ([50, 50, 50, 50, 50] : Str), ([49, 48, 48, 48, 48] : Str), ([49, 48, 50, 50, 50] : Str), ([48, 48, 50, 50, 50] : Str)] : List Str), rowT nShape w.heap.size 28 (.slice A2 (List.length l1) k3) l1]) (fun (j8 : Nat) ⟨l1, A2, k3⟩ u => (jk u 0 1 (.slice A2 (List.length l1) k3 :: (jk u 2 4 (.slice A2_0 (List.length ([([48, 48, 48, 48, 48] : Str), ([48, 48, 48, 48, 48, 115] : Str), ([50, 50, 50, 50, 50] : Str), ([49, 48, 48, 48, 48] : Str), ([49, 48, 50, 50, 50] : Str), ([48, 48, 50, 50, 50] : Str)] : List Str)) k2_0 :: .int .i64 (List.length ([([48, 48, 48, 48, 48] : Str), ([48, 48, 48, 48, 48, 115] : Str), ([50, 50, 50, 50, 50] : Str), ([49, 48, 48, 48, 48] : Str), ([49, 48, 50, 50, 50] : Str), ([48, 48, 50, 50, 50] : Str)] : List Str) : Int) :: .int .i64 (j8 : Int) :: (jk u 9 14 [])))))) (([] : List Shape), none, 0) h (by kernel_rfl) (by kernel_rfl) ?_ ?_
    · intro j8 x u x9 q10 hg11 hw12 h
      obtain ⟨l1, A2, k3⟩ := x
      refine c_seq ?_
      refine r_start ?_
      refine p 1 ?_
      refine rend ?_
      refine c_seq ?_
      refine c_yes q10 ?_
      refine c_skip ?_
      refine c_seq ?_
      refine c_block ?_
      refine c_seq ?_
      refine r_start ?_
      refine xq rfl (y_idx (e := eS) (el := 9) hg11 (s_own 0)) ?_
      refine xq rfl (y_el (e := eS) 0 (.string (bs x9)) hg11 (s_own 0)) ?_
      refine p 1 ?_
      refine rend ?_
      refine c_seq ?_
      refine r_start ?_
      refine p 1 ?_
      obtain ⟨v5_1, hv5_1, h⟩ := H.call h
      refine xq rfl (y_call [.string (bs x9)] (.tuple #[.agg (eShape v5_1.1).toArray, .bool v5_1.2]) func210 (fun W S => C.i_ParseShape W hv5_1)) ?_
      refine p 3 ?_
      refine xx rfl (x_new (eShape zShape) fun g5_5 => ?_)
      refine xx rfl (x_sto 2 g5_5 0 (eShape v5_1.1) ?_)
      refine p 1 ?_
      refine rend ?_
      refine r_start ?_
      refine p 1 ?_
      refine xq rfl (y_load (.agg (eShape v5_1.1).toArray) 2 g5_5 0) ?_
      refine xx rfl (e_lit (e := nShape) (el := 28) [.agg (eShape v5_1.1).toArray] ([v5_1.1] : List Shape) fun A6_2 k6_2 => ?_)
      obtain ⟨y6_3, hy6_3, h⟩ := H.call h
      refine xx rfl (e_app 1 hy6_3 (s_own 3) fun A6_3 k6_3 => ?_)
      refine p 1 ?_
      refine rend ?_
      refine c_inb ?_
      refine r_start ?_
      refine p 2 ?_
      refine rend ?_
      refine c_set 8 (ci hw12) ?_
      replace h := H.inl h
      exact h (y6_3, A6_3, k6_3) _ _ rfl (by kernel_rfl) (by kernel_rfl)
    · intro x u q10 h
      obtain ⟨l1, A2, k3⟩ := x
      refine c_seq ?_
      refine r_start ?_
      refine p 1 ?_
      refine rend ?_
      refine c_seq ?_
      refine c_no q10 ?_
      refine cx ?_
      replace h := H.done h
      exact hj7 (l1, A2, k3) _ _ h (by kernel_rfl) (by kernel_rfl)
  intro x u h
  obtain ⟨l4, A5, k6⟩ := x
  refine c_seq ?_
  refine r_start ?_
  refine p 2 ?_
  refine rend ?_
  replace h := H.done h
  subst h
  exact ret func159 rfl (vs := [.slice A5 (List.length l4) k6]) (.tmp (by kernel_rfl) .nil) rfl (fun W S => ⟨_, _, rfl, S.row 1, S.below⟩)
theorem C.i_Orient_mirrored_1 {a0 : Int} {r : Int} (w : World) (h : X.i_Orient_mirrored_1 a0 = some r) : Calls prog 211 #[.int .i64 a0] w (Ret w (.int .i64 r)) := by
  refine calls (M := no) (args := [.int .i64 a0]) func211 rfl ?_
  replace h : H (X.i_Orient_mirrored_1 a0) (fun o => o = r) := H.mk h
  unfold X.i_Orient_mirrored_1 at h
  refine c_seq ?_
  refine r_start ?_
  refine p 1 ?_
  refine rend ?_
  refine c_seq ?_
  refine c_seq ?_
  refine r_start ?_
  refine p 3 ?_
  refine br (a0 == 2) (fun q1 => ?_) (fun q1 => ?_)
  · replace h := H.t q1 h
    refine o_set 5 (congrArg Value.bool q1) ?_
    refine p 3 ?_
    refine rend ?_
    refine c_t (by kernel_rfl) ?_
    refine c_seq ?_
    refine r_start ?_
    refine p 3 ?_
    refine rend ?_
    replace h := H.done h
    subst h
    exact ret func211 rfl (vs := [.int .i64 (wr (Int.ofNat (BitVec.ofInt (IntKind.bits .i64) a0 ^^^ BitVec.ofInt (IntKind.bits .i64) 1).toNat))]) (.tmp (by kernel_rfl) .nil) rfl (fun W S => ⟨rfl, S.below⟩)
  replace h := H.f q1 h
  refine o_set 5 (congrArg Value.bool q1) ?_
  refine p 3 ?_
  refine rend ?_
  refine c_or (a0 == 3) (fun q2 => ?_) (fun q2 => ?_)
  · replace h := H.t q2 h
    refine c_seq ?_
    refine r_start ?_
    refine p 3 ?_
    refine rend ?_
    replace h := H.done h
    subst h
    exact ret func211 rfl (vs := [.int .i64 (wr (Int.ofNat (BitVec.ofInt (IntKind.bits .i64) a0 ^^^ BitVec.ofInt (IntKind.bits .i64) 1).toNat))]) (.tmp (by kernel_rfl) .nil) rfl (fun W S => ⟨rfl, S.below⟩)
  replace h := H.f q2 h
  refine c_skip ?_
  refine c_seq ?_
  refine r_start ?_
  refine p 2 ?_
  refine rend ?_
  replace h := H.done h
  subst h
  exact ret func211 rfl (vs := [.int .i64 a0]) (.tmp (by kernel_rfl) .nil) rfl (fun W S => ⟨rfl, S.below⟩)
theorem C.i_Orient_mirrored {a0 : Orient} {r : Orient} (w : World) (h : X.i_Orient_mirrored a0 = some r) : Calls prog 160 #[.agg (eOrient a0).toArray] w (Ret w (.agg (eOrient r).toArray)) := by
  refine calls (M := no) (args := [.agg (eOrient a0).toArray]) func160 rfl ?_
  replace h : H (X.i_Orient_mirrored a0) (fun o => o = r) := H.mk h
  unfold X.i_Orient_mirrored at h
  refine c_seq ?_
  refine r_start ?_
  refine xx rfl (x_box (eOrient a0) fun g0_0 => ?_)
  refine xx rfl (x_new (eOrient zOrient) fun g0_1 => ?_)
  refine rend ?_
  refine c_seq ?_
  refine r_start ?_
  refine p 1 ?_
  refine rend ?_
  refine c_seq ?_
  refine pick [0, 1] [box g0_0 30 (eOrient a0), box g0_1 30 (eOrient zOrient)] ?_
  refine as_startN 10 1 10 ?_
  refine ap 0 2 ?_
  refine aq 2 rfl (y_load (.int .i64 a0.Palm) 0 g0_0 0) ?_
  obtain ⟨v2_3, hv2_3, h⟩ := H.call h
  refine aq 3 rfl (y_callv [] [.int .i64 a0.Palm] (.int .i64 v2_3) func211 (fun W S => C.i_Orient_mirrored_1 W hv2_3)) ?_
  refine ap 4 2 ?_
  refine aq 6 rfl (y_load (.int .i64 a0.Fingers) 0 g0_0 1) ?_
  obtain ⟨v2_7, hv2_7, h⟩ := H.call h
  refine aq 7 rfl (y_callv [] [.int .i64 a0.Fingers] (.int .i64 v2_7) func211 (fun W S => C.i_Orient_mirrored_1 W hv2_7)) ?_
  refine ap 8 1 ?_
  refine ax 9 rfl (x_sto 1 g0_1 0 (eOrient (⟨v2_3, v2_7⟩ : Orient)) ⟨.inr (by kernel_rfl), ?_⟩)
  refine a_done ?_
  refine pick [0, 1] [box g0_0 30 (eOrient a0), box g0_1 30 (eOrient (⟨v2_3, v2_7⟩ : Orient))] ?_
  replace h := H.done h
  subst h
  exact ret func160 rfl (vs := [.agg (eOrient (⟨v2_3, v2_7⟩ : Orient)).toArray]) (.cell 1 g0_1 rfl (by kernel_rfl) (by kernel_rfl) .nil) rfl (fun W S => ⟨rfl, S.below⟩)
theorem C.strings_Repeat {a0 : Str} {a1 : Int} {r : Str} (w : World) (h : X.strings_Repeat a0 a1 = some r) : Calls prog 197 #[.string (bs a0), .int .i64 a1] w (Ret w (.string (bs r))) := by
  unfold X.strings_Repeat at h
  split at h
  · rename_i hc
    obtain ⟨h0, h1, h2⟩ := hc
    obtain rfl := Option.some.inj h
    have := Tryz.strings_Repeat (bs a0) a1.toNat w (by omega) h2
    have e : ((a1.toNat : Nat) : Int) = a1 := by omega
    rw [e] at this
    exact this
  · cases h
theorem C.i_Move_all {a0 : Move} {r : Str} (w : World) (h : X.i_Move_all a0 = some r) : Calls prog 161 #[.agg (eMove a0).toArray] w (Ret w (.string (bs r))) := by
  refine calls (M := no) (args := [.agg (eMove a0).toArray]) func161 rfl ?_
  replace h : H (X.i_Move_all a0) (fun o => o = r) := H.mk h
  unfold X.i_Move_all at h
  refine c_seq ?_
  refine r_start ?_
  refine xx rfl (x_box (eMove a0) fun g0_0 => ?_)
  refine p 1 ?_
  refine rend ?_
  refine c_seq ?_
  refine r_start ?_
  refine p 1 ?_
  refine xq rfl (y_load (.string (bs a0.Steps)) 0 g0_0 0) ?_
  refine p 1 ?_
  refine xq rfl (y_load (.int .i64 a0.Repeat) 0 g0_0 1) ?_
  obtain ⟨v1_4, hv1_4, h⟩ := H.call h
  refine xq rfl (y_call [.string (bs a0.Steps), .int .i64 a0.Repeat] (.string (bs v1_4)) func197 (fun W S => C.strings_Repeat W hv1_4)) ?_
  refine p 1 ?_
  refine rend ?_
  replace h := H.done h
  subst h
  exact ret func161 rfl (vs := [.string (bs v1_4)]) (.tmp (by kernel_rfl) .nil) rfl (fun W S => ⟨rfl, S.below⟩)
theorem C.i_keepRules {fu : Nat} {a0 : Hand} {a1 : Hand} {r : Bool} (w : World) (h : X.i_keepRules fu a0 a1 = some r) : Calls prog 87 #[.agg (eHand a0).toArray, .agg (eHand a1).toArray] w (Ret w (.bool r)) := by
  refine calls (M := no) (args := [.agg (eHand a0).toArray, .agg (eHand a1).toArray]) func87 rfl ?_
  replace h : H (X.i_keepRules fu a0 a1) (fun o => o = r) := H.mk h
  unfold X.i_keepRules at h
  refine c_seq ?_
  refine r_start ?_
  refine xx rfl (x_box (eHand a0) fun g0_0 => ?_)
  refine xx rfl (x_box (eHand a1) fun g0_1 => ?_)
  refine p 1 ?_
  refine rend ?_
  refine c_seq ?_
  refine c_seq ?_
  refine r_start ?_
  refine xq rfl (y_load (.agg (eHand a1).toArray) 1 g0_1 0) ?_
  obtain ⟨v1_1, hv1_1, h⟩ := H.call h
  refine xq rfl (y_call [.agg (eHand a1).toArray] (.bool v1_1) func157 (fun W S => C.i_Hand_moves W hv1_1)) ?_
  refine p 1 ?_
  refine rend ?_
  refine c_or (!v1_1) (fun q1 => ?_) (fun q1 => ?_)
  · replace h := H.t q1 h
    refine c_seq ?_
    refine as_start 12 12 ?_
    refine ap 0 1 ?_
    refine aq 1 rfl (y_load (.agg (eShape a1.Shape).toArray) 1 g0_1 0) ?_
    refine ap 2 1 ?_
    refine aq 3 rfl (y_load (.agg (eShape a0.Shape).toArray) 0 g0_0 0) ?_
    refine ap 4 2 ?_
    refine br (qShape a1.Shape a0.Shape) (fun q2 => ?_) (fun q2 => ?_)
    · replace h := H.t q2 h
      refine a_set 15 (congrArg Value.bool q2) ?_
      refine ap 6 6 ?_
      refine a_done ?_
      replace h := H.done h
      subst h
      exact ret func87 rfl (vs := [.bool true]) (.tmp (by kernel_rfl) .nil) rfl (fun W S => ⟨rfl, S.below⟩)
    replace h := H.f q2 h
    refine a_set 15 (congrArg Value.bool q2) ?_
    refine ap 7 1 ?_
    refine aq 8 rfl (y_load (.agg (eShape a1.Shape).toArray) 1 g0_1 0) ?_
    obtain ⟨v2_6, hv2_6, h⟩ := H.call h
    refine ax 6 rfl (e_cr [] (fun v => v) func159 (fun W S => C.i_PlainShapes W hv2_6) fun A2_6 k2_6 => ⟨.inr (by kernel_rfl), ?_⟩)
    obtain ⟨v2_9, hv2_9, h⟩ := H.call h
    refine ax 9 rfl (e_y (y_call [.slice A2_6 (List.length v2_6) k2_6, .agg (eShape a1.Shape).toArray] (.bool v2_9) func158 (fun W S => C.slices_Contains_i_Shape_i_Shape W hv2_9 ((s_own 2).out W S))) ⟨.inr (by kernel_rfl), ?_⟩)
    refine ap 10 2 ?_
    refine a_done ?_
    replace h := H.done h
    subst h
    exact ret func87 rfl (vs := [.bool v2_9]) (.tmp (by kernel_rfl) .nil) rfl (fun W S => ⟨rfl, S.below⟩)
  replace h := H.f q1 h
  refine c_skip ?_
  refine c_seq ?_
  refine as_start 14 14 ?_
  refine ap 0 1 ?_
  refine aq 1 rfl (y_load (.agg (eOrient a1.Orient).toArray) 1 g0_1 6) ?_
  refine ap 2 1 ?_
  refine aq 3 rfl (y_load (.agg (eOrient a0.Orient).toArray) 0 g0_0 6) ?_
  refine ap 4 2 ?_
  refine br (qOrient a1.Orient a0.Orient) (fun q3 => ?_) (fun q3 => ?_)
  · replace h := H.t q3 h
    refine a_set 26 (congrArg Value.bool q3) ?_
    refine ap 6 8 ?_
    refine a_done ?_
    refine c_seq ?_
    refine as_start 18 18 ?_
    refine ap 0 1 ?_
    refine aq 1 rfl (y_load (.agg (eMove a1.Move).toArray) 1 g0_1 11) ?_
    obtain ⟨v4_2, hv4_2, h⟩ := H.call h
    refine aq 2 rfl (y_call [.agg (eMove a1.Move).toArray] (.string (bs v4_2)) func161 (fun W S => C.i_Move_all W hv4_2)) ?_
    refine ap 3 1 ?_
    refine aq 4 rfl (y_load (.agg (eMove a0.Move).toArray) 0 g0_0 11) ?_
    obtain ⟨v4_5, hv4_5, h⟩ := H.call h
    refine aq 5 rfl (y_call [.agg (eMove a0.Move).toArray] (.string (bs v4_5)) func161 (fun W S => C.i_Move_all W hv4_5)) ?_
    refine ap 6 2 ?_
    refine br (seq v4_2 v4_5) (fun q4 => ?_) (fun q4 => ?_)
    · replace h := H.t q4 h
      refine a_set 41 (congrArg Value.bool q4) ?_
      refine ap 8 10 ?_
      refine a_done ?_
      refine c_seq ?_
      refine r_start ?_
      refine xq rfl (y_load (.agg (eHand a0).toArray) 0 g0_0 0) ?_
      obtain ⟨v5_1, hv5_1, h⟩ := H.call h
      refine xq rfl (y_call [.agg (eHand a0).toArray] (.bool v5_1) func157 (fun W S => C.i_Hand_moves W hv5_1)) ?_
      refine p 1 ?_
      refine br v5_1 (fun q5 => ?_) (fun q5 => ?_)
      · replace h := H.t q5 h
        refine o_set 53 (congrArg Value.bool q5) ?_
        refine p 1 ?_
        refine xq rfl (y_load (.agg (eShape a0.Shape).toArray) 0 g0_0 0) ?_
        refine p 1 ?_
        refine xq rfl (y_load (.agg (eShape a1.Shape).toArray) 1 g0_1 0) ?_
        refine p 3 ?_
        refine br (qShape a0.Shape a1.Shape) (fun q6 => ?_) (fun q6 => ?_)
        · replace h := H.t q6 h
          refine o_set 60 (congrArg Value.bool q6) ?_
          refine p 6 ?_
          refine rend ?_
          replace h := H.done h
          subst h
          exact ret func87 rfl (vs := [.bool true]) (.tmp (by kernel_rfl) .nil) rfl (fun W S => ⟨rfl, S.below⟩)
        replace h := H.f q6 h
        refine o_set 60 (congrArg Value.bool q6) ?_
        refine p 6 ?_
        refine rend ?_
        replace h := H.done h
        subst h
        exact ret func87 rfl (vs := [.bool false]) (.tmp (by kernel_rfl) .nil) rfl (fun W S => ⟨rfl, S.below⟩)
      replace h := H.f q5 h
      refine o_set 53 (congrArg Value.bool q5) ?_
      refine p 13 ?_
      refine rend ?_
      replace h := H.done h
      subst h
      exact ret func87 rfl (vs := [.bool false]) (.tmp (by kernel_rfl) .nil) rfl (fun W S => ⟨rfl, S.below⟩)
    replace h := H.f q4 h
    refine a_set 41 (congrArg Value.bool q4) ?_
    refine ap 8 1 ?_
    refine aq 9 rfl (y_load (.agg (eMove a1.Move).toArray) 1 g0_1 11) ?_
    obtain ⟨v4_10, hv4_10, h⟩ := H.call h
    refine aq 10 rfl (y_call [.agg (eMove a1.Move).toArray] (.string (bs v4_10)) func161 (fun W S => C.i_Move_all W hv4_10)) ?_
    refine ap 11 1 ?_
    refine aq 12 rfl (y_load (.agg (eMove a0.Move).toArray) 0 g0_0 11) ?_
    obtain ⟨v4_13, hv4_13, h⟩ := H.call h
    refine aq 13 rfl (y_call [.agg (eMove a0.Move).toArray] (.agg (eMove v4_13).toArray) func162 (fun W S => C.i_Move_mirrored W hv4_13)) ?_
    obtain ⟨v4_14, hv4_14, h⟩ := H.call h
    refine aq 14 rfl (y_call [.agg (eMove v4_13).toArray] (.string (bs v4_14)) func161 (fun W S => C.i_Move_all W hv4_14)) ?_
    refine ap 15 3 ?_
    refine a_done ?_
    refine c_seq ?_
    refine r_start ?_
    refine xq rfl (y_load (.agg (eHand a0).toArray) 0 g0_0 0) ?_
    obtain ⟨v5_1, hv5_1, h⟩ := H.call h
    refine xq rfl (y_call [.agg (eHand a0).toArray] (.bool v5_1) func157 (fun W S => C.i_Hand_moves W hv5_1)) ?_
    refine p 1 ?_
    refine br v5_1 (fun q7 => ?_) (fun q7 => ?_)
    · replace h := H.t q7 h
      refine o_set 53 (congrArg Value.bool q7) ?_
      refine p 1 ?_
      refine xq rfl (y_load (.agg (eShape a0.Shape).toArray) 0 g0_0 0) ?_
      refine p 1 ?_
      refine xq rfl (y_load (.agg (eShape a1.Shape).toArray) 1 g0_1 0) ?_
      refine p 3 ?_
      refine br (qShape a0.Shape a1.Shape) (fun q8 => ?_) (fun q8 => ?_)
      · replace h := H.t q8 h
        refine o_set 60 (congrArg Value.bool q8) ?_
        refine p 6 ?_
        refine rend ?_
        replace h := H.done h
        subst h
        exact ret func87 rfl (vs := [.bool (seq v4_10 v4_14)]) (.tmp (by kernel_rfl) .nil) rfl (fun W S => ⟨rfl, S.below⟩)
      replace h := H.f q8 h
      refine o_set 60 (congrArg Value.bool q8) ?_
      refine p 6 ?_
      refine rend ?_
      replace h := H.done h
      subst h
      exact ret func87 rfl (vs := [.bool false]) (.tmp (by kernel_rfl) .nil) rfl (fun W S => ⟨rfl, S.below⟩)
    replace h := H.f q7 h
    refine o_set 53 (congrArg Value.bool q7) ?_
    refine p 13 ?_
    refine rend ?_
    replace h := H.done h
    subst h
    exact ret func87 rfl (vs := [.bool false]) (.tmp (by kernel_rfl) .nil) rfl (fun W S => ⟨rfl, S.below⟩)
  replace h := H.f q3 h
  refine a_set 26 (congrArg Value.bool q3) ?_
  refine ap 6 1 ?_
  refine aq 7 rfl (y_load (.agg (eOrient a1.Orient).toArray) 1 g0_1 6) ?_
  refine ap 8 1 ?_
  refine aq 9 rfl (y_load (.agg (eOrient a0.Orient).toArray) 0 g0_0 6) ?_
  obtain ⟨v3_10, hv3_10, h⟩ := H.call h
  refine aq 10 rfl (y_call [.agg (eOrient a0.Orient).toArray] (.agg (eOrient v3_10).toArray) func160 (fun W S => C.i_Orient_mirrored W hv3_10)) ?_
  refine ap 11 3 ?_
  refine a_done ?_
  refine c_seq ?_
  refine as_start 18 18 ?_
  refine ap 0 1 ?_
  refine aq 1 rfl (y_load (.agg (eMove a1.Move).toArray) 1 g0_1 11) ?_
  obtain ⟨v4_2, hv4_2, h⟩ := H.call h
  refine aq 2 rfl (y_call [.agg (eMove a1.Move).toArray] (.string (bs v4_2)) func161 (fun W S => C.i_Move_all W hv4_2)) ?_
  refine ap 3 1 ?_
  refine aq 4 rfl (y_load (.agg (eMove a0.Move).toArray) 0 g0_0 11) ?_
  obtain ⟨v4_5, hv4_5, h⟩ := H.call h
  refine aq 5 rfl (y_call [.agg (eMove a0.Move).toArray] (.string (bs v4_5)) func161 (fun W S => C.i_Move_all W hv4_5)) ?_
  refine ap 6 2 ?_
  refine br (seq v4_2 v4_5) (fun q9 => ?_) (fun q9 => ?_)
  · replace h := H.t q9 h
    refine a_set 41 (congrArg Value.bool q9) ?_
    refine ap 8 10 ?_
    refine a_done ?_
    refine c_seq ?_
    refine r_start ?_
    refine xq rfl (y_load (.agg (eHand a0).toArray) 0 g0_0 0) ?_
    obtain ⟨v5_1, hv5_1, h⟩ := H.call h
    refine xq rfl (y_call [.agg (eHand a0).toArray] (.bool v5_1) func157 (fun W S => C.i_Hand_moves W hv5_1)) ?_
    refine p 1 ?_
    refine br v5_1 (fun q10 => ?_) (fun q10 => ?_)
    · replace h := H.t q10 h
      refine o_set 53 (congrArg Value.bool q10) ?_
      refine p 1 ?_
      refine xq rfl (y_load (.agg (eShape a0.Shape).toArray) 0 g0_0 0) ?_
      refine p 1 ?_
      refine xq rfl (y_load (.agg (eShape a1.Shape).toArray) 1 g0_1 0) ?_
      refine p 3 ?_
      refine br (qShape a0.Shape a1.Shape) (fun q11 => ?_) (fun q11 => ?_)
      · replace h := H.t q11 h
        refine o_set 60 (congrArg Value.bool q11) ?_
        refine p 3 ?_
        refine br (qOrient a1.Orient v3_10) (fun q12 => ?_) (fun q12 => ?_)
        · replace h := H.t q12 h
          refine o_set 63 (congrArg Value.bool q12) ?_
          refine p 3 ?_
          refine rend ?_
          replace h := H.done h
          subst h
          exact ret func87 rfl (vs := [.bool true]) (.tmp (by kernel_rfl) .nil) rfl (fun W S => ⟨rfl, S.below⟩)
        replace h := H.f q12 h
        refine o_set 63 (congrArg Value.bool q12) ?_
        refine p 3 ?_
        refine rend ?_
        replace h := H.done h
        subst h
        exact ret func87 rfl (vs := [.bool false]) (.tmp (by kernel_rfl) .nil) rfl (fun W S => ⟨rfl, S.below⟩)
      replace h := H.f q11 h
      refine o_set 60 (congrArg Value.bool q11) ?_
      refine p 6 ?_
      refine rend ?_
      replace h := H.done h
      subst h
      exact ret func87 rfl (vs := [.bool false]) (.tmp (by kernel_rfl) .nil) rfl (fun W S => ⟨rfl, S.below⟩)
    replace h := H.f q10 h
    refine o_set 53 (congrArg Value.bool q10) ?_
    refine p 13 ?_
    refine rend ?_
    replace h := H.done h
    subst h
    exact ret func87 rfl (vs := [.bool false]) (.tmp (by kernel_rfl) .nil) rfl (fun W S => ⟨rfl, S.below⟩)
  replace h := H.f q9 h
  refine a_set 41 (congrArg Value.bool q9) ?_
  refine ap 8 1 ?_
  refine aq 9 rfl (y_load (.agg (eMove a1.Move).toArray) 1 g0_1 11) ?_
  obtain ⟨v4_10, hv4_10, h⟩ := H.call h
  refine aq 10 rfl (y_call [.agg (eMove a1.Move).toArray] (.string (bs v4_10)) func161 (fun W S => C.i_Move_all W hv4_10)) ?_
  refine ap 11 1 ?_
  refine aq 12 rfl (y_load (.agg (eMove a0.Move).toArray) 0 g0_0 11) ?_
  obtain ⟨v4_13, hv4_13, h⟩ := H.call h
  refine aq 13 rfl (y_call [.agg (eMove a0.Move).toArray] (.agg (eMove v4_13).toArray) func162 (fun W S => C.i_Move_mirrored W hv4_13)) ?_
  obtain ⟨v4_14, hv4_14, h⟩ := H.call h
  refine aq 14 rfl (y_call [.agg (eMove v4_13).toArray] (.string (bs v4_14)) func161 (fun W S => C.i_Move_all W hv4_14)) ?_
  refine ap 15 3 ?_
  refine a_done ?_
  refine c_seq ?_
  refine r_start ?_
  refine xq rfl (y_load (.agg (eHand a0).toArray) 0 g0_0 0) ?_
  obtain ⟨v5_1, hv5_1, h⟩ := H.call h
  refine xq rfl (y_call [.agg (eHand a0).toArray] (.bool v5_1) func157 (fun W S => C.i_Hand_moves W hv5_1)) ?_
  refine p 1 ?_
  refine br v5_1 (fun q13 => ?_) (fun q13 => ?_)
  · replace h := H.t q13 h
    refine o_set 53 (congrArg Value.bool q13) ?_
    refine p 1 ?_
    refine xq rfl (y_load (.agg (eShape a0.Shape).toArray) 0 g0_0 0) ?_
    refine p 1 ?_
    refine xq rfl (y_load (.agg (eShape a1.Shape).toArray) 1 g0_1 0) ?_
    refine p 3 ?_
    refine br (qShape a0.Shape a1.Shape) (fun q14 => ?_) (fun q14 => ?_)
    · replace h := H.t q14 h
      refine o_set 60 (congrArg Value.bool q14) ?_
      refine p 3 ?_
      refine br (qOrient a1.Orient v3_10) (fun q15 => ?_) (fun q15 => ?_)
      · replace h := H.t q15 h
        refine o_set 63 (congrArg Value.bool q15) ?_
        refine p 3 ?_
        refine rend ?_
        replace h := H.done h
        subst h
        exact ret func87 rfl (vs := [.bool (seq v4_10 v4_14)]) (.tmp (by kernel_rfl) .nil) rfl (fun W S => ⟨rfl, S.below⟩)
      replace h := H.f q15 h
      refine o_set 63 (congrArg Value.bool q15) ?_
      refine p 3 ?_
      refine rend ?_
      replace h := H.done h
      subst h
      exact ret func87 rfl (vs := [.bool false]) (.tmp (by kernel_rfl) .nil) rfl (fun W S => ⟨rfl, S.below⟩)
    replace h := H.f q14 h
    refine o_set 60 (congrArg Value.bool q14) ?_
    refine p 6 ?_
    refine rend ?_
    replace h := H.done h
    subst h
    exact ret func87 rfl (vs := [.bool false]) (.tmp (by kernel_rfl) .nil) rfl (fun W S => ⟨rfl, S.below⟩)
  replace h := H.f q13 h
  refine o_set 53 (congrArg Value.bool q13) ?_
  refine p 13 ?_
  refine rend ?_
  replace h := H.done h
  subst h
  exact ret func87 rfl (vs := [.bool false]) (.tmp (by kernel_rfl) .nil) rfl (fun W S => ⟨rfl, S.below⟩)
theorem C.i_IsSign {fu : Nat} {a0 : Sign} {r : Bool} (w : World) (h : X.i_IsSign fu a0 = some r) : Calls prog 21 #[.agg (eSign a0).toArray] w (Ret w (.bool r)) := by
  refine calls (M := no) (args := [.agg (eSign a0).toArray]) func21 rfl ?_
  replace h : H (X.i_IsSign fu a0) (fun o => o = r) := H.mk h
  unfold X.i_IsSign at h
  refine c_seq ?_
  refine r_start ?_
  refine xx rfl (x_box (eSign a0) fun g0_0 => ?_)
  refine p 1 ?_
  refine rend ?_
  refine c_seq ?_
  refine c_seq ?_
  refine r_start ?_
  refine p 1 ?_
  refine xq rfl (y_load (.agg (eHand a0.Main).toArray) 0 g0_0 0) ?_
  obtain ⟨v1_2, hv1_2, h⟩ := H.call h
  refine xq rfl (y_call [.agg (eHand a0.Main).toArray] (.bool v1_2) func86 (fun W S => C.i_IsHand W hv1_2)) ?_
  refine p 1 ?_
  refine rend ?_
  refine c_or (!v1_2) (fun q1 => ?_) (fun q1 => ?_)
  · replace h := H.t q1 h
    refine c_seq ?_
    refine r_start ?_
    refine p 1 ?_
    refine rend ?_
    replace h := H.done h
    subst h
    exact ret func21 rfl (vs := [.bool false]) (.tmp (by kernel_rfl) .nil) rfl (fun W S => ⟨rfl, S.below⟩)
  replace h := H.f q1 h
  refine c_skip ?_
  refine c_seq ?_
  refine c_seq ?_
  refine r_start ?_
  refine p 1 ?_
  refine xq rfl (y_load (.bool a0.Two) 0 g0_0 13) ?_
  refine p 1 ?_
  refine rend ?_
  refine c_or (!a0.Two) (fun q2 => ?_) (fun q2 => ?_)
  · replace h := H.t q2 h
    refine c_seq ?_
    refine r_start ?_
    refine p 1 ?_
    refine xq rfl (y_load (.agg (eHand a0.Other).toArray) 0 g0_0 14) ?_
    refine p 3 ?_
    refine rend ?_
    replace h := H.done h
    subst h
    exact ret func21 rfl (vs := [.bool (qHand a0.Other zHand)]) (.tmp (by kernel_rfl) .nil) rfl (fun W S => ⟨rfl, S.below⟩)
  replace h := H.f q2 h
  refine c_skip ?_
  refine c_seq ?_
  refine r_start ?_
  refine p 1 ?_
  refine xq rfl (y_load (.agg (eHand a0.Other).toArray) 0 g0_0 14) ?_
  obtain ⟨v5_2, hv5_2, h⟩ := H.call h
  refine xq rfl (y_call [.agg (eHand a0.Other).toArray] (.bool v5_2) func86 (fun W S => C.i_IsHand W hv5_2)) ?_
  refine p 1 ?_
  refine br v5_2 (fun q3 => ?_) (fun q3 => ?_)
  · replace h := H.t q3 h
    refine o_set 17 (congrArg Value.bool q3) ?_
    refine p 1 ?_
    refine xq rfl (y_load (.agg (eHand a0.Main).toArray) 0 g0_0 0) ?_
    refine p 1 ?_
    refine xq rfl (y_load (.agg (eHand a0.Other).toArray) 0 g0_0 14) ?_
    obtain ⟨v5_8, hv5_8, h⟩ := H.call h
    refine xq rfl (y_call [.agg (eHand a0.Main).toArray, .agg (eHand a0.Other).toArray] (.bool v5_8) func87 (fun W S => C.i_keepRules W hv5_8)) ?_
    refine p 2 ?_
    refine rend ?_
    replace h := H.done h
    subst h
    exact ret func21 rfl (vs := [.bool v5_8]) (.tmp (by kernel_rfl) .nil) rfl (fun W S => ⟨rfl, S.below⟩)
  replace h := H.f q3 h
  refine o_set 17 (congrArg Value.bool q3) ?_
  refine p 7 ?_
  refine rend ?_
  replace h := H.done h
  subst h
  exact ret func21 rfl (vs := [.bool false]) (.tmp (by kernel_rfl) .nil) rfl (fun W S => ⟨rfl, S.below⟩)
theorem C.slices_IndexFunc_i_Sign_i_Sign {a0 : (List Sign)} {A0 : Option Addr} {k0 : Nat} {a1 : (Sign → Option Bool)} {g1 : Nat} {cp1 : List Value} {r : Int} (w : World) (h : X.slices_IndexFunc_i_Sign_i_Sign a0 a1 = some r) (h0 : RdT nSign w (.slice A0 (List.length a0) k0) a0) (hg1 : isFn prog g1 = true) (hF1 : ∀ (x0 : Sign) (r : Bool) (W : World), Up w W → a1 x0 = some r → Calls prog g1 (([.agg (eSign x0).toArray] : List Value) ++ cp1).toArray W (Ret W (.bool r))) : Calls prog 81 #[.slice A0 (List.length a0) k0, .func (.func g1) #[] cp1.toArray] w (Ret w (.int .i64 r)) := by
  refine calls (M := no) (args := [.slice A0 (List.length a0) k0, .func (.func g1) #[] cp1.toArray]) func81 rfl ?_
  replace h : H (X.slices_IndexFunc_i_Sign_i_Sign a0 a1) (fun o => o = r) := H.mk h
  unfold X.slices_IndexFunc_i_Sign_i_Sign at h
  refine c_seq ?_
  refine r_start ?_
  refine p 1 ?_
  refine rend ?_
  refine c_seq ?_
  refine c_seq ?_
  refine r_start ?_
  refine p 3 ?_
  refine rend ?_
  refine c_block ?_
  refine joinE (X := Unit) 0 (H.or h) (fun (x : Unit) => x) (fun _ => []) (fun _ u => (jk u 0 19 [])) (fun h hj1 => ?_) ?_
  · skip
    refine rangeR (X := Unit) (s_arg h0) (fun (x : Unit) => x) (fun _ => []) (fun (j2 : Nat) _ u => (.slice A0 (List.length a0) k0 :: .func (.func g1) #[] cp1.toArray :: (jk u 2 5 (.int .i64 (List.length a0 : Int) :: .int .i64 (j2 : Int) :: (jk u 9 10 []))))) () h (by kernel_rfl) (by kernel_rfl) ?_ ?_
    · intro j2 x u x3 q4 hg5 hw6 h
      refine c_seq ?_
      refine r_start ?_
      refine p 1 ?_
      refine rend ?_
      refine c_seq ?_
      refine c_yes q4 ?_
      refine c_skip ?_
      refine c_seq ?_
      refine c_block ?_
      refine c_seq ?_
      refine r_start ?_
      refine p 2 ?_
      refine rend ?_
      refine c_seq ?_
      refine r_start ?_
      refine p 3 ?_
      refine xq rfl (y_idx (e := nSign) (el := 38) hg5 (s_arg h0)) ?_
      refine xq rfl (y_el (e := nSign) 0 (.agg (eSign x3).toArray) hg5 (s_arg h0)) ?_
      obtain ⟨v4_5, hv4_5, h⟩ := H.call h
      refine xq rfl (y_cf cp1 [.agg (eSign x3).toArray] (.bool v4_5) hg1 (fun W S => hF1 _ _ W S.below hv4_5)) ?_
      refine rend ?_
      refine c_or v4_5 (fun q7 => ?_) (fun q7 => ?_)
      · replace h := H.t q7 h
        refine c_seq ?_
        refine r_start ?_
        refine p 2 ?_
        refine rend ?_
        replace h := H.inr h
        replace h := H.done h
        subst h
        exact ret func81 rfl (vs := [.int .i64 (j2 : Int)]) (.tmp (by kernel_rfl) .nil) rfl (fun W S => ⟨rfl, S.below⟩)
      replace h := H.f q7 h
      refine c_skip ?_
      refine c_inb ?_
      refine r_start ?_
      refine p 2 ?_
      refine rend ?_
      refine c_set 8 (ci hw6) ?_
      replace h := H.inl h
      exact h () _ _ rfl (by kernel_rfl) (by kernel_rfl)
    · intro x u q4 h
      refine c_seq ?_
      refine r_start ?_
      refine p 1 ?_
      refine rend ?_
      refine c_seq ?_
      refine c_no q4 ?_
      refine cx ?_
      replace h := H.done h
      exact hj1 () _ _ h (by kernel_rfl) (by kernel_rfl)
  intro x u h
  refine c_seq ?_
  refine r_start ?_
  refine p 1 ?_
  refine rend ?_
  replace h := H.done h
  subst h
  exact ret func81 rfl (vs := [.int .i64 (-1)]) (.tmp (by kernel_rfl) .nil) rfl (fun W S => ⟨rfl, S.below⟩)
theorem C.slices_ContainsFunc_i_Sign_i_Sign {a0 : (List Sign)} {A0 : Option Addr} {k0 : Nat} {a1 : (Sign → Option Bool)} {g1 : Nat} {cp1 : List Value} {r : Bool} (w : World) (h : X.slices_ContainsFunc_i_Sign_i_Sign a0 a1 = some r) (h0 : RdT nSign w (.slice A0 (List.length a0) k0) a0) (hg1 : isFn prog g1 = true) (hF1 : ∀ (x0 : Sign) (r : Bool) (W : World), Up w W → a1 x0 = some r → Calls prog g1 (([.agg (eSign x0).toArray] : List Value) ++ cp1).toArray W (Ret W (.bool r))) : Calls prog 205 #[.slice A0 (List.length a0) k0, .func (.func g1) #[] cp1.toArray] w (Ret w (.bool r)) := by
  refine calls (M := no) (args := [.slice A0 (List.length a0) k0, .func (.func g1) #[] cp1.toArray]) func205 rfl ?_
  replace h : H (X.slices_ContainsFunc_i_Sign_i_Sign a0 a1) (fun o => o = r) := H.mk h
  unfold X.slices_ContainsFunc_i_Sign_i_Sign at h
  refine c_seq ?_
  refine r_start ?_
  refine p 1 ?_
  refine rend ?_
  refine c_seq ?_
  refine r_start ?_
  refine p 2 ?_
  obtain ⟨v1_2, hv1_2, h⟩ := H.call h
  refine xq rfl (y_call [.slice A0 (List.length a0) k0, .func (.func g1) #[] cp1.toArray] (.int .i64 v1_2) func81 (fun W S => C.slices_IndexFunc_i_Sign_i_Sign W hv1_2 ((s_arg h0).out W S) hg1 (fun x0_2 r W2 hu2 hx2 => hF1 x0_2 r W2 (Up.trans S.below hu2) hx2))) ?_
  refine p 2 ?_
  refine rend ?_
  replace h := H.done h
  subst h
  exact ret func205 rfl (vs := [.bool (decide (v1_2 ≥ 0))]) (.tmp (by kernel_rfl) .nil) rfl (fun W S => ⟨rfl, S.below⟩)
theorem C.i_allOf_i_Sign_1 {a0 : Sign} {a1 : (Sign → Option Bool)} {g1 : Nat} {cp1 : List Value} {p1 : Nat} {r : Bool} (w : World) (h : X.i_allOf_i_Sign_1 a1 a0 = some r) (hg1 : isFn prog g1 = true) (hF1 : ∀ (x0 : Sign) (r : Bool) (W : World), Up w W → a1 x0 = some r → Calls prog g1 (([.agg (eSign x0).toArray] : List Value) ++ cp1).toArray W (Ret W (.bool r))) (hp1 : w.heap[p1]? = some (.cells ([.func (.func g1) #[] cp1.toArray] : List Value).toArray 51 (0, 0))) : Calls prog 206 #[.agg (eSign a0).toArray, .pointer (some ⟨p1, 0, none⟩)] w (Ret w (.bool r)) := by
  refine calls (M := no) (args := [.agg (eSign a0).toArray, .pointer (some ⟨p1, 0, none⟩)]) func206 rfl ?_
  replace h : H (X.i_allOf_i_Sign_1 a1 a0) (fun o => o = r) := H.mk h
  unfold X.i_allOf_i_Sign_1 at h
  refine c_seq ?_
  refine r_start ?_
  refine xx rfl (x_box (eSign a0) fun g0_0 => ?_)
  refine p 1 ?_
  refine rend ?_
  refine c_seq ?_
  refine r_start ?_
  refine xq rfl (y_ld0 (.func (.func g1) #[] cp1.toArray) p1 0 hp1) ?_
  refine xq rfl (y_load (.agg (eSign a0).toArray) 0 g0_0 0) ?_
  obtain ⟨v1_2, hv1_2, h⟩ := H.call h
  refine xq rfl (y_cf cp1 [.agg (eSign a0).toArray] (.bool v1_2) hg1 (fun W S => hF1 _ _ W S.below hv1_2)) ?_
  refine p 2 ?_
  refine rend ?_
  replace h := H.done h
  subst h
  exact ret func206 rfl (vs := [.bool (!v1_2)]) (.tmp (by kernel_rfl) .nil) rfl (fun W S => ⟨rfl, S.below⟩)
theorem C.i_allOf_i_Sign {a0 : (List Sign)} {A0 : Option Addr} {k0 : Nat} {a1 : (Sign → Option Bool)} {g1 : Nat} {cp1 : List Value} {r : Bool} (w : World) (h : X.i_allOf_i_Sign a0 a1 = some r) (h0 : RdT nSign w (.slice A0 (List.length a0) k0) a0) (hg1 : isFn prog g1 = true) (hF1 : ∀ (x0 : Sign) (r : Bool) (W : World), Up w W → a1 x0 = some r → Calls prog g1 (([.agg (eSign x0).toArray] : List Value) ++ cp1).toArray W (Ret W (.bool r))) : Calls prog 152 #[.slice A0 (List.length a0) k0, .func (.func g1) #[] cp1.toArray] w (Ret w (.bool r)) := by
  refine calls (M := no) (args := [.slice A0 (List.length a0) k0, .func (.func g1) #[] cp1.toArray]) func152 rfl ?_
  replace h : H (X.i_allOf_i_Sign a0 a1) (fun o => o = r) := H.mk h
  unfold X.i_allOf_i_Sign at h
  refine c_seq ?_
  refine r_start ?_
  refine xx rfl (x_box [.func (.func g1) #[] cp1.toArray] fun g0_0 => ?_)
  refine p 1 ?_
  refine rend ?_
  refine c_seq ?_
  refine r_start ?_
  refine p 2 ?_
  obtain ⟨v1_2, hv1_2, h⟩ := H.call h
  refine xq rfl (y_call [.slice A0 (List.length a0) k0, .func (.func 206) #[] #[.pointer (some ⟨g0_0, 0, none⟩)]] (.bool v1_2) func205 (fun W S => C.slices_ContainsFunc_i_Sign_i_Sign W hv1_2 ((s_arg h0).out W S) (isFn_of func206) (fun x0_2 r W2 hu2 hx2 => C.i_allOf_i_Sign_1 W2 hx2 hg1 (fun x0_3 r W3 hu3 hx3 => hF1 x0_3 r W3 (Up.trans (Up.trans S.below hu2) hu3) hx3) (bx_up (S.bx 0) hu2)))) ?_
  refine p 2 ?_
  refine rend ?_
  replace h := H.done h
  subst h
  exact ret func152 rfl (vs := [.bool (!v1_2)]) (.tmp (by kernel_rfl) .nil) rfl (fun W S => ⟨rfl, S.below⟩)
theorem C.i_areSigns {fu : Nat} {a0 : (List Sign)} {A0 : Option Addr} {k0 : Nat} {a1 : Int} {r : Bool} (w : World) (h : X.i_areSigns fu a0 a1 = some r) (h0 : RdT nSign w (.slice A0 (List.length a0) k0) a0) : Calls prog 80 #[.slice A0 (List.length a0) k0, .int .i64 a1] w (Ret w (.bool r)) := by
  refine calls (M := no) (args := [.slice A0 (List.length a0) k0, .int .i64 a1]) func80 rfl ?_
  replace h : H (X.i_areSigns fu a0 a1) (fun o => o = r) := H.mk h
  unfold X.i_areSigns at h
  refine c_seq ?_
  refine r_start ?_
  refine p 1 ?_
  refine rend ?_
  refine c_seq ?_
  refine r_start ?_
  refine p 5 ?_
  refine br (decide ((List.length a0 : Int) ≤ a1)) (fun q1 => ?_) (fun q1 => ?_)
  · replace h := H.t q1 h
    refine o_set 9 (congrArg Value.bool q1) ?_
    refine p 1 ?_
    obtain ⟨v1_6, hv1_6, h⟩ := H.call h
    refine xq rfl (y_call [.slice A0 (List.length a0) k0, .func (.func 21) #[] #[]] (.bool v1_6) func152 (fun W S => C.i_allOf_i_Sign W hv1_6 ((s_arg h0).out W S) (isFn_of func21) (fun x0_2 r W2 hu2 hx2 => C.i_IsSign W2 hx2))) ?_
    refine p 2 ?_
    refine rend ?_
    replace h := H.done h
    subst h
    exact ret func80 rfl (vs := [.bool v1_6]) (.tmp (by kernel_rfl) .nil) rfl (fun W S => ⟨rfl, S.below⟩)
  replace h := H.f q1 h
  refine o_set 9 (congrArg Value.bool q1) ?_
  refine p 4 ?_
  refine rend ?_
  replace h := H.done h
  subst h
  exact ret func80 rfl (vs := [.bool false]) (.tmp (by kernel_rfl) .nil) rfl (fun W S => ⟨rfl, S.below⟩)
theorem C.i_those_i_Sign {a0 : (List Sign)} {A0 : Option Addr} {k0 : Nat} {a1 : (Sign → Option Bool)} {g1 : Nat} {cp1 : List Value} {r : (List Int)} (w : World) (h : X.i_those_i_Sign a0 a1 = some r) (h0 : RdT nSign w (.slice A0 (List.length a0) k0) a0) (hg1 : isFn prog g1 = true) (hF1 : ∀ (x0 : Sign) (r : Bool) (W : World), Up w W → a1 x0 = some r → Calls prog g1 (([.agg (eSign x0).toArray] : List Value) ++ cp1).toArray W (Ret W (.bool r))) : Calls prog 103 #[.slice A0 (List.length a0) k0, .func (.func g1) #[] cp1.toArray] w (RetR (eI .i64) 3 w r (fun v => v)) := by
  refine calls (M := no) (args := [.slice A0 (List.length a0) k0, .func (.func g1) #[] cp1.toArray]) func103 rfl ?_
  replace h : H (X.i_those_i_Sign a0 a1) (fun o => o = r) := H.mk h
  unfold X.i_those_i_Sign at h
  refine c_seq ?_
  refine r_start ?_
  refine p 1 ?_
  refine rend ?_
  refine c_seq ?_
  refine r_start ?_
  refine p 1 ?_
  refine rend ?_
  refine c_seq ?_
  refine c_seq ?_
  refine r_start ?_
  refine p 3 ?_
  refine rend ?_
  refine c_block ?_
  refine c_nil (eI .i64) 3 ?_
  refine joinH (X := ((List Int) × Option Addr × Nat)) 0 (H.bnd h) (fun ⟨l4, A5, k6⟩ => l4) (fun ⟨l4, A5, k6⟩ => [rowT (eI .i64) w.heap.size 3 (.slice A5 (List.length l4) k6) l4]) (fun ⟨l4, A5, k6⟩ u => (jk u 0 5 (.slice A5 (List.length l4) k6 :: (jk u 6 18 [])))) (fun h hj7 => ?_) ?_
  · skip
    refine rangeR (X := ((List Int) × Option Addr × Nat)) (s_arg h0) (fun ⟨l1, A2, k3⟩ => l1) (fun ⟨l1, A2, k3⟩ => [rowT (eI .i64) w.heap.size 3 (.slice A2 (List.length l1) k3) l1]) (fun (j8 : Nat) ⟨l1, A2, k3⟩ u => (jk u 0 1 (.func (.func g1) #[] cp1.toArray :: (jk u 2 3 (.slice A2 (List.length l1) k3 :: (jk u 6 2 (.slice A0 (List.length a0) k0 :: .int .i64 (List.length a0 : Int) :: .int .i64 (j8 : Int) :: (jk u 11 13 [])))))))) (([] : List Int), none, 0) h (by kernel_rfl) (by kernel_rfl) ?_ ?_
    · intro j8 x u x9 q10 hg11 hw12 h
      obtain ⟨l1, A2, k3⟩ := x
      refine c_seq ?_
      refine r_start ?_
      refine p 1 ?_
      refine rend ?_
      refine c_seq ?_
      refine c_yes q10 ?_
      refine c_skip ?_
      refine c_seq ?_
      refine c_block ?_
      refine c_seq ?_
      refine r_start ?_
      refine p 1 ?_
      refine xq rfl (y_idx (e := nSign) (el := 38) hg11 (s_arg h0)) ?_
      refine xq rfl (y_el (e := nSign) 0 (.agg (eSign x9).toArray) hg11 (s_arg h0)) ?_
      refine xx rfl (x_new (eSign zSign) fun g4_3 => ?_)
      refine p 1 ?_
      refine xx rfl (x_sto 1 g4_3 0 (eSign x9) ?_)
      refine rend ?_
      refine c_seq ?_
      refine r_start ?_
      refine p 1 ?_
      refine xq rfl (y_load (.agg (eSign x9).toArray) 1 g4_3 0) ?_
      obtain ⟨v5_2, hv5_2, h⟩ := H.call h
      refine xq rfl (y_cf cp1 [.agg (eSign x9).toArray] (.bool v5_2) hg1 (fun W S => hF1 _ _ W S.below hv5_2)) ?_
      refine rend ?_
      refine c_or v5_2 (fun q13 => ?_) (fun q13 => ?_)
      · replace h := H.t q13 h
        refine r_start ?_
        refine p 2 ?_
        refine xx rfl (e_lit (e := (eI .i64)) (el := 3) [.int .i64 (j8 : Int)] ([(j8 : Int)] : List Int) fun A6_2 k6_2 => ?_)
        obtain ⟨y6_3, hy6_3, h⟩ := H.call h
        refine xx rfl (e_app 0 hy6_3 (s_own 2) fun A6_3 k6_3 => ?_)
        refine p 1 ?_
        refine rend ?_
        refine c_inb ?_
        refine r_start ?_
        refine p 2 ?_
        refine rend ?_
        refine c_set 10 (ci hw12) ?_
        replace h := H.inl h
        exact h (y6_3, A6_3, k6_3) _ _ rfl (by kernel_rfl) (by kernel_rfl)
      replace h := H.f q13 h
      refine c_skip ?_
      refine c_inb ?_
      refine r_start ?_
      refine p 2 ?_
      refine rend ?_
      refine c_set 10 (ci hw12) ?_
      replace h := H.inl h
      exact h (l1, A2, k3) _ _ rfl (by kernel_rfl) (by kernel_rfl)
    · intro x u q10 h
      obtain ⟨l1, A2, k3⟩ := x
      refine c_seq ?_
      refine r_start ?_
      refine p 1 ?_
      refine rend ?_
      refine c_seq ?_
      refine c_no q10 ?_
      refine cx ?_
      replace h := H.done h
      exact hj7 (l1, A2, k3) _ _ h (by kernel_rfl) (by kernel_rfl)
  intro x u h
  obtain ⟨l4, A5, k6⟩ := x
  refine c_seq ?_
  refine r_start ?_
  refine p 2 ?_
  refine rend ?_
  replace h := H.done h
  subst h
  exact ret func103 rfl (vs := [.slice A5 (List.length l4) k6]) (.tmp (by kernel_rfl) .nil) rfl (fun W S => ⟨_, _, rfl, S.row 0, S.below⟩)
theorem C.i_Sign_kind {a0 : Sign} {r : Int} (w : World) (h : X.i_Sign_kind a0 = some r) : Calls prog 170 #[.agg (eSign a0).toArray] w (Ret w (.int .i64 r)) := by
  refine calls (M := no) (args := [.agg (eSign a0).toArray]) func170 rfl ?_
  replace h : H (X.i_Sign_kind a0) (fun o => o = r) := H.mk h
  unfold X.i_Sign_kind at h
  refine c_seq ?_
  refine r_start ?_
  refine xx rfl (x_box (eSign a0) fun g0_0 => ?_)
  refine p 1 ?_
  refine rend ?_
  refine c_seq ?_
  refine c_block ?_
  refine c_seq ?_
  refine r_start ?_
  refine p 1 ?_
  refine xq rfl (y_load (.bool a0.Two) 0 g0_0 13) ?_
  refine p 2 ?_
  refine rend ?_
  refine c_or (!a0.Two) (fun q1 => ?_) (fun q1 => ?_)
  · replace h := H.t q1 h
    refine c_seq ?_
    refine r_start ?_
    refine p 1 ?_
    refine rend ?_
    replace h := H.done h
    subst h
    exact ret func170 rfl (vs := [.int .i64 0]) (.tmp (by kernel_rfl) .nil) rfl (fun W S => ⟨rfl, S.below⟩)
  replace h := H.f q1 h
  refine c_seq ?_
  refine r_start ?_
  refine p 1 ?_
  refine xq rfl (y_load (.agg (eHand a0.Other).toArray) 0 g0_0 14) ?_
  obtain ⟨v3_2, hv3_2, h⟩ := H.call h
  refine xq rfl (y_call [.agg (eHand a0.Other).toArray] (.bool v3_2) func157 (fun W S => C.i_Hand_moves W hv3_2)) ?_
  refine p 1 ?_
  refine rend ?_
  refine c_or v3_2 (fun q2 => ?_) (fun q2 => ?_)
  · replace h := H.t q2 h
    refine c_seq ?_
    refine r_start ?_
    refine p 1 ?_
    refine rend ?_
    replace h := H.done h
    subst h
    exact ret func170 rfl (vs := [.int .i64 1]) (.tmp (by kernel_rfl) .nil) rfl (fun W S => ⟨rfl, S.below⟩)
  replace h := H.f q2 h
  refine c_seq ?_
  refine r_start ?_
  refine p 2 ?_
  refine xq rfl (y_load (.agg (eShape a0.Other.Shape).toArray) 0 g0_0 14) ?_
  refine p 2 ?_
  refine xq rfl (y_load (.agg (eShape a0.Main.Shape).toArray) 0 g0_0 0) ?_
  refine p 2 ?_
  refine rend ?_
  refine c_or (qShape a0.Other.Shape a0.Main.Shape) (fun q3 => ?_) (fun q3 => ?_)
  · replace h := H.t q3 h
    refine c_seq ?_
    refine r_start ?_
    refine p 1 ?_
    refine rend ?_
    replace h := H.done h
    subst h
    exact ret func170 rfl (vs := [.int .i64 2]) (.tmp (by kernel_rfl) .nil) rfl (fun W S => ⟨rfl, S.below⟩)
  replace h := H.f q3 h
  refine c_skip ?_
  refine c_inb ?_
  refine c_seq ?_
  refine r_start ?_
  refine p 1 ?_
  refine rend ?_
  replace h := H.done h
  subst h
  exact ret func170 rfl (vs := [.int .i64 3]) (.tmp (by kernel_rfl) .nil) rfl (fun W S => ⟨rfl, S.below⟩)
theorem C.s_siKind {a0 : Sign} {r : Int} (w : World) (h : X.s_siKind a0 = some r) : Calls prog 169 #[.agg (eSign a0).toArray] w (Ret w (.int .i64 r)) := by
  refine calls (M := no) (args := [.agg (eSign a0).toArray]) func169 rfl ?_
  replace h : H (X.s_siKind a0) (fun o => o = r) := H.mk h
  unfold X.s_siKind at h
  refine c_seq ?_
  refine r_start ?_
  refine xx rfl (x_box (eSign a0) fun g0_0 => ?_)
  refine p 1 ?_
  refine rend ?_
  refine c_seq ?_
  refine c_block ?_
  refine c_seq ?_
  refine r_start ?_
  refine p 1 ?_
  refine xq rfl (y_load (.bool a0.Two) 0 g0_0 13) ?_
  refine p 2 ?_
  refine rend ?_
  refine c_or (!a0.Two) (fun q1 => ?_) (fun q1 => ?_)
  · replace h := H.t q1 h
    refine c_seq ?_
    refine r_start ?_
    refine p 1 ?_
    refine rend ?_
    replace h := H.done h
    subst h
    exact ret func169 rfl (vs := [.int .i64 0]) (.tmp (by kernel_rfl) .nil) rfl (fun W S => ⟨rfl, S.below⟩)
  replace h := H.f q1 h
  refine c_seq ?_
  refine r_start ?_
  refine p 3 ?_
  refine xq rfl (y_load (.string (bs a0.Other.Move.Steps)) 0 g0_0 25) ?_
  refine p 2 ?_
  refine rend ?_
  refine c_or (!seq a0.Other.Move.Steps ([] : Str)) (fun q2 => ?_) (fun q2 => ?_)
  · replace h := H.t q2 h
    refine c_seq ?_
    refine r_start ?_
    refine p 1 ?_
    refine rend ?_
    replace h := H.done h
    subst h
    exact ret func169 rfl (vs := [.int .i64 1]) (.tmp (by kernel_rfl) .nil) rfl (fun W S => ⟨rfl, S.below⟩)
  replace h := H.f q2 h
  refine c_seq ?_
  refine r_start ?_
  refine p 2 ?_
  refine xq rfl (y_load (.agg (eShape a0.Main.Shape).toArray) 0 g0_0 0) ?_
  refine p 2 ?_
  refine xq rfl (y_load (.agg (eShape a0.Other.Shape).toArray) 0 g0_0 14) ?_
  refine p 2 ?_
  refine rend ?_
  refine c_or (qShape a0.Main.Shape a0.Other.Shape) (fun q3 => ?_) (fun q3 => ?_)
  · replace h := H.t q3 h
    refine c_seq ?_
    refine r_start ?_
    refine p 1 ?_
    refine rend ?_
    replace h := H.done h
    subst h
    exact ret func169 rfl (vs := [.int .i64 2]) (.tmp (by kernel_rfl) .nil) rfl (fun W S => ⟨rfl, S.below⟩)
  replace h := H.f q3 h
  refine c_skip ?_
  refine c_inb ?_
  refine c_seq ?_
  refine r_start ?_
  refine p 1 ?_
  refine rend ?_
  replace h := H.done h
  subst h
  exact ret func169 rfl (vs := [.int .i64 3]) (.tmp (by kernel_rfl) .nil) rfl (fun W S => ⟨rfl, S.below⟩)
theorem C.s_l1Num {fu : Nat} {a0 : Int} {r : Str} (w : World) (h : X.s_l1Num fu a0 = some r) : Calls prog 115 #[.int .i64 a0] w (Ret w (.string (bs r))) := by
  induction fu generalizing a0 r w with
  | zero => cases h
  | succ fu ih =>
  refine calls (M := no) (args := [.int .i64 a0]) func115 rfl ?_
  replace h : H (X.s_l1Num (fu + 1) a0) (fun o => o = r) := H.mk h
  rw [X.s_l1Num] at h
  refine c_seq ?_
  refine r_start ?_
  refine p 1 ?_
  refine rend ?_
  refine c_seq ?_
  refine c_seq ?_
  refine r_start ?_
  refine p 2 ?_
  refine rend ?_
  refine c_or (decide (a0 < 10)) (fun q1 => ?_) (fun q1 => ?_)
  · replace h := H.t q1 h
    refine c_seq ?_
    refine r_start ?_
    refine p 3 ?_
    refine xx rfl (e_lit (e := (eI .u8)) (el := 5) [.int .u8 (wk .u8 (wr (48 + a0)))] ([(wk .u8 (wr (48 + a0)))] : List Int) fun A2_3 k2_3 => ?_)
    refine xq rfl (y_conv (el := 5) (s_own 0)) ?_
    refine p 1 ?_
    refine rend ?_
    replace h := H.done h
    subst h
    exact ret func115 rfl (vs := [.string (bs (strOf ([(wk .u8 (wr (48 + a0)))] : List Int)))]) (.tmp (by kernel_rfl) .nil) rfl (fun W S => ⟨rfl, S.below⟩)
  replace h := H.f q1 h
  refine c_skip ?_
  refine c_seq ?_
  refine as_start 11 11 ?_
  refine ap 0 2 ?_
  obtain ⟨v3_2, hv3_2, h⟩ := H.call h
  refine aq 2 rfl (y_call [.int .i64 (wr (Int.tdiv a0 10))] (.string (bs v3_2)) func115 (fun W S => ih W hv3_2)) ?_
  refine ap 3 4 ?_
  refine ax 7 rfl (e_lit (e := (eI .u8)) (el := 5) [.int .u8 (wk .u8 (wr (48 + (Int.tmod a0 10))))] ([(wk .u8 (wr (48 + (Int.tmod a0 10))))] : List Int) fun A3_7 k3_7 => ⟨.inr (by kernel_rfl), ?_⟩)
  refine ax 8 rfl (e_y (y_conv (el := 5) (s_own 0)) ⟨.inr (by kernel_rfl), ?_⟩)
  obtain ⟨y3_9, hy3_9, h⟩ := H.call h
  refine aq 9 rfl (y_cat hy3_9) ?_
  refine ap 10 1 ?_
  refine a_done ?_
  replace h := H.done h
  subst h
  exact ret func115 rfl (vs := [.string (bs y3_9)]) (.tmp (by kernel_rfl) .nil) rfl (fun W S => ⟨rfl, S.below⟩)
theorem C.l_big {a0 : (List Int)} {A0 : Option Addr} {k0 : Nat} {a1 : (List Int)} {A1 : Option Addr} {k1 : Nat} {r : Bool} (w : World) (h : X.l_big a0 a1 = some r) (h0 : RdT (eI .u8) w (.slice A0 (List.length a0) k0) a0) (h1 : RdT (eI .u8) w (.slice A1 (List.length a1) k1) a1) : Calls prog 51 #[.slice A0 (List.length a0) k0, .slice A1 (List.length a1) k1] w (Ret w (.bool r)) := by
  refine calls (M := no) (args := [.slice A0 (List.length a0) k0, .slice A1 (List.length a1) k1]) func51 rfl ?_
  replace h : H (X.l_big a0 a1) (fun o => o = r) := H.mk h
  unfold X.l_big at h
  refine c_seq ?_
  refine r_start ?_
  refine p 1 ?_
  refine rend ?_
  refine c_seq ?_
  refine r_start ?_
  refine p 4 ?_
  refine br (decide ((List.length a0 : Int) > 1048576)) (fun q1 => ?_) (fun q1 => ?_)
  · replace h := H.t q1 h
    refine o_set 8 (congrArg Value.bool q1) ?_
    refine p 8 ?_
    refine rend ?_
    replace h := H.done h
    subst h
    exact ret func51 rfl (vs := [.bool true]) (.tmp (by kernel_rfl) .nil) rfl (fun W S => ⟨rfl, S.below⟩)
  replace h := H.f q1 h
  refine o_set 8 (congrArg Value.bool q1) ?_
  refine p 8 ?_
  refine rend ?_
  replace h := H.done h
  subst h
  exact ret func51 rfl (vs := [.bool (decide ((List.length a1 : Int) > (wr (1048576 - (List.length a0 : Int)))))]) (.tmp (by kernel_rfl) .nil) rfl (fun W S => ⟨rfl, S.below⟩)
theorem C.s_noHand {fu : Nat} {a0 : Hand} {r : Hand} (w : World) (h : X.s_noHand fu a0 = some r) : Calls prog 183 #[.agg (eHand a0).toArray] w (Ret w (.agg (eHand r).toArray)) := by
  refine calls (M := no) (args := [.agg (eHand a0).toArray]) func183 rfl ?_
  replace h : H (X.s_noHand fu a0) (fun o => o = r) := H.mk h
  unfold X.s_noHand at h
  refine c_seq ?_
  refine r_start ?_
  refine xx rfl (x_box (eHand a0) fun g0_0 => ?_)
  refine xx rfl (x_new (eHand zHand) fun g0_1 => ?_)
  refine rend ?_
  refine c_seq ?_
  refine r_start ?_
  refine p 1 ?_
  refine xq rfl (y_load (.agg (eMove a0.Move).toArray) 0 g0_0 11) ?_
  obtain ⟨v1_2, hv1_2, h⟩ := H.call h
  refine xq rfl (y_call [.agg (eMove a0.Move).toArray] (.agg (eMove v1_2).toArray) func219 (fun W S => C.s_mvNormal W hv1_2)) ?_
  refine p 1 ?_
  refine xx rfl (x_sto 0 g0_0 11 (eHand ({ a0 with Move := v1_2 })) ?_)
  refine rend ?_
  refine c_seq ?_
  refine r_start ?_
  refine xq rfl (y_load (.agg (eHand ({ a0 with Move := v1_2 })).toArray) 0 g0_0 0) ?_
  refine xx rfl (x_sto 1 g0_1 0 (eHand ({ a0 with Move := v1_2 })) ?_)
  refine rend ?_
  replace h := H.done h
  subst h
  exact ret func183 rfl (vs := [.agg (eHand ({ a0 with Move := v1_2 })).toArray]) (.cell 1 g0_1 rfl (by kernel_rfl) (by kernel_rfl) .nil) rfl (fun W S => ⟨rfl, S.below⟩)
theorem C.s_orText {a0 : Orient} {r : Str} (w : World) (h : X.s_orText a0 = some r) : Calls prog 134 #[.agg (eOrient a0).toArray] w (Ret w (.string (bs r))) := by
  refine calls (M := no) (args := [.agg (eOrient a0).toArray]) func134 rfl ?_
  replace h : H (X.s_orText a0) (fun o => o = r) := H.mk h
  unfold X.s_orText at h
  refine c_seq ?_
  refine r_start ?_
  refine xx rfl (x_box (eOrient a0) fun g0_0 => ?_)
  refine p 1 ?_
  refine rend ?_
  refine c_seq ?_
  refine as_start 14 14 ?_
  refine ap 0 1 ?_
  refine aq 1 rfl (y_load (.int .i64 a0.Palm) 0 g0_0 0) ?_
  refine ap 2 1 ?_
  refine aq 3 rfl (y_load (.int .i64 a0.Palm) 0 g0_0 0) ?_
  refine ap 4 1 ?_
  obtain ⟨y1_5, hy1_5, h⟩ := H.call h
  refine aq 5 rfl (y_cut hy1_5) ?_
  refine ap 6 1 ?_
  refine aq 7 rfl (y_load (.int .i64 a0.Fingers) 0 g0_0 1) ?_
  refine ap 8 1 ?_
  refine aq 9 rfl (y_load (.int .i64 a0.Fingers) 0 g0_0 1) ?_
  refine ap 10 1 ?_
  obtain ⟨y1_11, hy1_11, h⟩ := H.call h
  refine aq 11 rfl (y_cut hy1_11) ?_
  obtain ⟨y1_12, hy1_12, h⟩ := H.call h
  refine aq 12 rfl (y_cat hy1_12) ?_
  refine ap 13 1 ?_
  refine a_done ?_
  replace h := H.done h
  subst h
  exact ret func134 rfl (vs := [.string (bs y1_12)]) (.tmp (by kernel_rfl) .nil) rfl (fun W S => ⟨rfl, S.below⟩)
theorem C.s_shText {fu : Nat} {a0 : Shape} {r : Str} (w : World) (h : X.s_shText fu a0 = some r) : Calls prog 185 #[.agg (eShape a0).toArray] w (Ret w (.string (bs r))) := by
  refine calls (M := no) (args := [.agg (eShape a0).toArray]) func185 rfl ?_
  replace h : H (X.s_shText fu a0) (fun o => o = r) := H.mk h
  unfold X.s_shText at h
  refine c_seq ?_
  refine r_start ?_
  refine xx rfl (x_box (eShape a0) fun g0_0 => ?_)
  refine p 1 ?_
  refine rend ?_
  refine c_seq ?_
  refine r_start ?_
  refine p 1 ?_
  refine xq rfl (y_load (.int .i64 a0.Thumb) 0 g0_0 0) ?_
  obtain ⟨v1_2, hv1_2, h⟩ := H.call h
  refine xq rfl (y_call [.int .i64 a0.Thumb] (.string (bs v1_2)) func115 (fun W S => C.s_l1Num W hv1_2)) ?_
  refine p 1 ?_
  refine rend ?_
  refine c_seq ?_
  refine c_seq ?_
  refine r_start ?_
  refine xq rfl (y_load (.agg (eShape a0).toArray) 0 g0_0 0) ?_
  obtain ⟨v2_1, hv2_1, h⟩ := H.call h
  refine xx rfl (e_cr [.agg (eShape a0).toArray] (fun v => v) func166 (fun W S => C.s_shFingers W hv2_1) fun A2_1 k2_1 => ?_)
  refine p 2 ?_
  refine rend ?_
  refine c_block ?_
  refine joinH (X := Str) 0 (H.bnd h) (fun (x : Str) => x) (fun t2 => [box g0_0 28 (eShape a0), rowT (eI .i64) w.heap.size 3 (.slice A2_1 (List.length v2_1) k2_1) v2_1]) (fun t2 u => (jk u 0 1 (.pointer (some ⟨g0_0, 0, none⟩) :: (jk u 2 1 (.string (bs t2) :: (jk u 4 22 [])))))) (fun h hj3 => ?_) ?_
  · skip
    refine rangeR (X := Str) (s_own 1) (fun (x : Str) => x) (fun t1 => [box g0_0 28 (eShape a0), rowT (eI .i64) w.heap.size 3 (.slice A2_1 (List.length v2_1) k2_1) v2_1]) (fun (j4 : Nat) t1 u => (jk u 0 1 (.pointer (some ⟨g0_0, 0, none⟩) :: (jk u 2 1 (.string (bs t1) :: (jk u 4 6 (.slice A2_1 (List.length v2_1) k2_1 :: .int .i64 (List.length v2_1 : Int) :: .int .i64 (j4 : Int) :: (jk u 13 13 [])))))))) v1_2 h (by kernel_rfl) (by kernel_rfl) ?_ ?_
    · intro j4 t1 u x5 q6 hg7 hw8 h
      refine c_seq ?_
      refine r_start ?_
      refine p 1 ?_
      refine rend ?_
      refine c_seq ?_
      refine c_yes q6 ?_
      refine c_skip ?_
      refine c_seq ?_
      refine c_block ?_
      refine c_seq ?_
      refine r_start ?_
      refine xq rfl (y_idx (e := (eI .i64)) (el := 3) hg7 (s_own 1)) ?_
      refine xq rfl (y_el (e := (eI .i64)) 0 (.int .i64 x5) hg7 (s_own 1)) ?_
      refine p 1 ?_
      refine rend ?_
      refine r_start ?_
      refine p 2 ?_
      obtain ⟨v5_2, hv5_2, h⟩ := H.call h
      refine xq rfl (y_call [.int .i64 x5] (.string (bs v5_2)) func115 (fun W S => C.s_l1Num W hv5_2)) ?_
      obtain ⟨y5_3, hy5_3, h⟩ := H.call h
      refine xq rfl (y_cat hy5_3) ?_
      refine p 1 ?_
      refine rend ?_
      refine c_inb ?_
      refine r_start ?_
      refine p 2 ?_
      refine rend ?_
      refine c_set 12 (ci hw8) ?_
      replace h := H.inl h
      exact h y5_3 _ _ rfl (by kernel_rfl) (by kernel_rfl)
    · intro t1 u q6 h
      refine c_seq ?_
      refine r_start ?_
      refine p 1 ?_
      refine rend ?_
      refine c_seq ?_
      refine c_no q6 ?_
      refine cx ?_
      replace h := H.done h
      exact hj3 t1 _ _ h (by kernel_rfl) (by kernel_rfl)
  intro t2 u h
  refine c_seq ?_
  refine c_seq ?_
  refine r_start ?_
  refine p 1 ?_
  refine xq rfl (y_load (.bool a0.Spread) 0 g0_0 5) ?_
  refine rend ?_
  refine c_or a0.Spread (fun q9 => ?_) (fun q9 => ?_)
  · replace h := H.t q9 h
    refine r_start ?_
    refine p 1 ?_
    obtain ⟨y8_1, hy8_1, h⟩ := H.call h
    refine xq rfl (y_cat hy8_1) ?_
    refine p 1 ?_
    refine rend ?_
    refine c_seq ?_
    refine r_start ?_
    refine p 2 ?_
    refine rend ?_
    replace h := H.done h
    subst h
    exact ret func185 rfl (vs := [.string (bs y8_1)]) (.tmp (by kernel_rfl) .nil) rfl (fun W S => ⟨rfl, S.below⟩)
  replace h := H.f q9 h
  refine c_skip ?_
  refine c_seq ?_
  refine r_start ?_
  refine p 2 ?_
  refine rend ?_
  replace h := H.done h
  subst h
  exact ret func185 rfl (vs := [.string (bs t2)]) (.tmp (by kernel_rfl) .nil) rfl (fun W S => ⟨rfl, S.below⟩)
theorem C.s_plNames {r : (List Str)} (w : World) (h : X.s_plNames = some r) : Calls prog 251 #[] w (RetR eS 9 w r (fun v => v)) := by
  refine calls (M := no) (args := []) func251 rfl ?_
  replace h : H (X.s_plNames) (fun o => o = r) := H.mk h
  unfold X.s_plNames at h
  refine c_seq ?_
  refine r_start ?_
  refine p 1 ?_
  refine rend ?_
  refine c_seq ?_
  refine r_start ?_
  refine xx rfl (e_lit (e := eS) (el := 9) [.string (bs ([115, 112, 97, 99, 101] : Str)), .string (bs ([104, 101, 97, 100] : Str)), .string (bs ([101, 121, 101] : Str)), .string (bs ([99, 104, 101, 101, 107] : Str)), .string (bs ([109, 111, 117, 116, 104] : Str)), .string (bs ([99, 104, 105, 110] : Str)), .string (bs ([110, 101, 99, 107] : Str)), .string (bs ([99, 104, 101, 115, 116] : Str)), .string (bs ([119, 97, 105, 115, 116] : Str)), .string (bs ([104, 105, 112] : Str))] ([([115, 112, 97, 99, 101] : Str), ([104, 101, 97, 100] : Str), ([101, 121, 101] : Str), ([99, 104, 101, 101, 107] : Str), ([109, 111, 117, 116, 104] : Str), ([99, 104, 105, 110] : Str), ([110, 101, 99, 107] : Str), ([99, 104, 101, 115, 116] : Str), ([119, 97, 105, 115, 116] : Str), ([104, 105, 112] : Str)] : List Str) fun A1_0 k1_0 => ?_)
  refine p 1 ?_
  refine rend ?_
  replace h := H.done h
  subst h
  exact ret func251 rfl (vs := [.slice A1_0 (List.length ([([115, 112, 97, 99, 101] : Str), ([104, 101, 97, 100] : Str), ([101, 121, 101] : Str), ([99, 104, 101, 101, 107] : Str), ([109, 111, 117, 116, 104] : Str), ([99, 104, 105, 110] : Str), ([110, 101, 99, 107] : Str), ([99, 104, 101, 115, 116] : Str), ([119, 97, 105, 115, 116] : Str), ([104, 105, 112] : Str)] : List Str)) k1_0]) (.tmp (by kernel_rfl) .nil) rfl (fun W S => ⟨_, _, rfl, S.row 0, S.below⟩)
theorem C.s_plText {a0 : Place} {r : Str} (w : World) (h : X.s_plText a0 = some r) : Calls prog 220 #[.agg (ePlace a0).toArray] w (Ret w (.string (bs r))) := by
  refine calls (M := no) (args := [.agg (ePlace a0).toArray]) func220 rfl ?_
  replace h : H (X.s_plText a0) (fun o => o = r) := H.mk h
  unfold X.s_plText at h
  refine c_seq ?_
  refine r_start ?_
  refine xx rfl (x_box (ePlace a0) fun g0_0 => ?_)
  refine p 1 ?_
  refine rend ?_
  refine c_seq ?_
  refine as_start 6 6 ?_
  refine ap 1 1 ?_
  refine aq 2 rfl (y_load (.int .i64 a0.Region) 0 g0_0 0) ?_
  obtain ⟨v1_0, hv1_0, h⟩ := H.call h
  refine ax 0 rfl (e_cr [] (fun v => v) func251 (fun W S => C.s_plNames W hv1_0) fun A1_0 k1_0 => ⟨.inr (by kernel_rfl), ?_⟩)
  obtain ⟨y1_3, hy1_3, h⟩ := H.call h
  refine ax 3 rfl (e_y (y_idx (e := eS) (el := 9) hy1_3 (s_own 1)) ⟨.inr (by kernel_rfl), ?_⟩)
  refine ax 4 rfl (e_y (y_el (e := eS) 0 (.string (bs y1_3)) hy1_3 (s_own 1)) ⟨.inr (by kernel_rfl), ?_⟩)
  refine ap 5 1 ?_
  refine a_done ?_
  refine c_seq ?_
  refine c_seq ?_
  refine r_start ?_
  refine p 1 ?_
  refine xq rfl (y_load (.int .i64 a0.Side) 0 g0_0 1) ?_
  refine rend ?_
  refine c_block ?_
  refine c_seq ?_
  refine r_start ?_
  refine p 2 ?_
  refine rend ?_
  refine c_or (a0.Side == (-1)) (fun q1 => ?_) (fun q1 => ?_)
  · replace h := H.t q1 h
    refine r_start ?_
    refine p 1 ?_
    obtain ⟨y4_1, hy4_1, h⟩ := H.call h
    refine xq rfl (y_cat hy4_1) ?_
    refine p 1 ?_
    refine rend ?_
    refine c_inb ?_
    refine c_seq ?_
    refine c_seq ?_
    refine r_start ?_
    refine p 1 ?_
    refine xq rfl (y_load (.bool a0.Contact) 0 g0_0 2) ?_
    refine rend ?_
    refine c_or a0.Contact (fun q2 => ?_) (fun q2 => ?_)
    · replace h := H.t q2 h
      refine r_start ?_
      refine p 1 ?_
      obtain ⟨y8_1, hy8_1, h⟩ := H.call h
      refine xq rfl (y_cat hy8_1) ?_
      refine p 1 ?_
      refine rend ?_
      refine c_seq ?_
      refine r_start ?_
      refine p 2 ?_
      refine rend ?_
      replace h := H.done h
      subst h
      exact ret func220 rfl (vs := [.string (bs y8_1)]) (.tmp (by kernel_rfl) .nil) rfl (fun W S => ⟨rfl, S.below⟩)
    replace h := H.f q2 h
    refine c_skip ?_
    refine c_seq ?_
    refine r_start ?_
    refine p 2 ?_
    refine rend ?_
    replace h := H.done h
    subst h
    exact ret func220 rfl (vs := [.string (bs y4_1)]) (.tmp (by kernel_rfl) .nil) rfl (fun W S => ⟨rfl, S.below⟩)
  replace h := H.f q1 h
  refine c_seq ?_
  refine r_start ?_
  refine p 2 ?_
  refine rend ?_
  refine c_or (a0.Side == 1) (fun q3 => ?_) (fun q3 => ?_)
  · replace h := H.t q3 h
    refine r_start ?_
    refine p 1 ?_
    obtain ⟨y6_1, hy6_1, h⟩ := H.call h
    refine xq rfl (y_cat hy6_1) ?_
    refine p 1 ?_
    refine rend ?_
    refine c_inb ?_
    refine c_seq ?_
    refine c_seq ?_
    refine r_start ?_
    refine p 1 ?_
    refine xq rfl (y_load (.bool a0.Contact) 0 g0_0 2) ?_
    refine rend ?_
    refine c_or a0.Contact (fun q4 => ?_) (fun q4 => ?_)
    · replace h := H.t q4 h
      refine r_start ?_
      refine p 1 ?_
      obtain ⟨y8_1, hy8_1, h⟩ := H.call h
      refine xq rfl (y_cat hy8_1) ?_
      refine p 1 ?_
      refine rend ?_
      refine c_seq ?_
      refine r_start ?_
      refine p 2 ?_
      refine rend ?_
      replace h := H.done h
      subst h
      exact ret func220 rfl (vs := [.string (bs y8_1)]) (.tmp (by kernel_rfl) .nil) rfl (fun W S => ⟨rfl, S.below⟩)
    replace h := H.f q4 h
    refine c_skip ?_
    refine c_seq ?_
    refine r_start ?_
    refine p 2 ?_
    refine rend ?_
    replace h := H.done h
    subst h
    exact ret func220 rfl (vs := [.string (bs y6_1)]) (.tmp (by kernel_rfl) .nil) rfl (fun W S => ⟨rfl, S.below⟩)
  replace h := H.f q3 h
  refine c_skip ?_
  refine c_inb ?_
  refine c_seq ?_
  refine c_seq ?_
  refine r_start ?_
  refine p 1 ?_
  refine xq rfl (y_load (.bool a0.Contact) 0 g0_0 2) ?_
  refine rend ?_
  refine c_or a0.Contact (fun q5 => ?_) (fun q5 => ?_)
  · replace h := H.t q5 h
    refine r_start ?_
    refine p 1 ?_
    obtain ⟨y8_1, hy8_1, h⟩ := H.call h
    refine xq rfl (y_cat hy8_1) ?_
    refine p 1 ?_
    refine rend ?_
    refine c_seq ?_
    refine r_start ?_
    refine p 2 ?_
    refine rend ?_
    replace h := H.done h
    subst h
    exact ret func220 rfl (vs := [.string (bs y8_1)]) (.tmp (by kernel_rfl) .nil) rfl (fun W S => ⟨rfl, S.below⟩)
  replace h := H.f q5 h
  refine c_skip ?_
  refine c_seq ?_
  refine r_start ?_
  refine p 2 ?_
  refine rend ?_
  replace h := H.done h
  subst h
  exact ret func220 rfl (vs := [.string (bs y1_3)]) (.tmp (by kernel_rfl) .nil) rfl (fun W S => ⟨rfl, S.below⟩)
theorem C.s_mvText {fu : Nat} {a0 : Move} {r : Str} (w : World) (h : X.s_mvText fu a0 = some r) : Calls prog 221 #[.agg (eMove a0).toArray] w (Ret w (.string (bs r))) := by
  refine calls (M := no) (args := [.agg (eMove a0).toArray]) func221 rfl ?_
  replace h : H (X.s_mvText fu a0) (fun o => o = r) := H.mk h
  unfold X.s_mvText at h
  refine c_seq ?_
  refine r_start ?_
  refine xx rfl (x_box (eMove a0) fun g0_0 => ?_)
  refine p 1 ?_
  refine rend ?_
  refine c_seq ?_
  refine c_block ?_
  refine c_seq ?_
  refine r_start ?_
  refine p 1 ?_
  refine xq rfl (y_load (.string (bs a0.Steps)) 0 g0_0 0) ?_
  refine p 2 ?_
  refine rend ?_
  refine c_or (seq a0.Steps ([] : Str)) (fun q1 => ?_) (fun q1 => ?_)
  · replace h := H.t q1 h
    refine c_seq ?_
    refine r_start ?_
    refine p 1 ?_
    refine rend ?_
    replace h := H.done h
    subst h
    exact ret func221 rfl (vs := [.string (bs ([45] : Str))]) (.tmp (by kernel_rfl) .nil) rfl (fun W S => ⟨rfl, S.below⟩)
  replace h := H.f q1 h
  refine c_seq ?_
  refine r_start ?_
  refine p 1 ?_
  refine xq rfl (y_load (.int .i64 a0.Repeat) 0 g0_0 1) ?_
  refine p 2 ?_
  refine rend ?_
  refine c_or (decide (a0.Repeat > 1)) (fun q2 => ?_) (fun q2 => ?_)
  · replace h := H.t q2 h
    refine c_seq ?_
    refine as_start 8 8 ?_
    refine ap 0 1 ?_
    refine aq 1 rfl (y_load (.string (bs a0.Steps)) 0 g0_0 0) ?_
    obtain ⟨y4_2, hy4_2, h⟩ := H.call h
    refine aq 2 rfl (y_cat hy4_2) ?_
    refine ap 3 1 ?_
    refine aq 4 rfl (y_load (.int .i64 a0.Repeat) 0 g0_0 1) ?_
    obtain ⟨v4_5, hv4_5, h⟩ := H.call h
    refine aq 5 rfl (y_call [.int .i64 a0.Repeat] (.string (bs v4_5)) func115 (fun W S => C.s_l1Num W hv4_5)) ?_
    obtain ⟨y4_6, hy4_6, h⟩ := H.call h
    refine aq 6 rfl (y_cat hy4_6) ?_
    refine ap 7 1 ?_
    refine a_done ?_
    replace h := H.done h
    subst h
    exact ret func221 rfl (vs := [.string (bs y4_6)]) (.tmp (by kernel_rfl) .nil) rfl (fun W S => ⟨rfl, S.below⟩)
  replace h := H.f q2 h
  refine c_skip ?_
  refine c_inb ?_
  refine c_seq ?_
  refine r_start ?_
  refine p 1 ?_
  refine xq rfl (y_load (.string (bs a0.Steps)) 0 g0_0 0) ?_
  refine p 1 ?_
  refine rend ?_
  replace h := H.done h
  subst h
  exact ret func221 rfl (vs := [.string (bs a0.Steps)]) (.tmp (by kernel_rfl) .nil) rfl (fun W S => ⟨rfl, S.below⟩)
theorem C.s_siText {fu : Nat} {a0 : Hand} {r : Str} (w : World) (h : X.s_siText fu a0 = some r) : Calls prog 184 #[.agg (eHand a0).toArray] w (Ret w (.string (bs r))) := by
  refine calls (M := no) (args := [.agg (eHand a0).toArray]) func184 rfl ?_
  replace h : H (X.s_siText fu a0) (fun o => o = r) := H.mk h
  unfold X.s_siText at h
  refine c_seq ?_
  refine r_start ?_
  refine xx rfl (x_box (eHand a0) fun g0_0 => ?_)
  refine p 1 ?_
  refine rend ?_
  refine c_seq ?_
  refine as_start 19 19 ?_
  refine ap 0 1 ?_
  refine aq 1 rfl (y_load (.agg (eShape a0.Shape).toArray) 0 g0_0 0) ?_
  obtain ⟨v1_2, hv1_2, h⟩ := H.call h
  refine aq 2 rfl (y_call [.agg (eShape a0.Shape).toArray] (.string (bs v1_2)) func185 (fun W S => C.s_shText W hv1_2)) ?_
  obtain ⟨y1_3, hy1_3, h⟩ := H.call h
  refine aq 3 rfl (y_cat hy1_3) ?_
  refine ap 4 1 ?_
  refine aq 5 rfl (y_load (.agg (eOrient a0.Orient).toArray) 0 g0_0 6) ?_
  obtain ⟨v1_6, hv1_6, h⟩ := H.call h
  refine aq 6 rfl (y_call [.agg (eOrient a0.Orient).toArray] (.string (bs v1_6)) func134 (fun W S => C.s_orText W hv1_6)) ?_
  obtain ⟨y1_7, hy1_7, h⟩ := H.call h
  refine aq 7 rfl (y_cat hy1_7) ?_
  obtain ⟨y1_8, hy1_8, h⟩ := H.call h
  refine aq 8 rfl (y_cat hy1_8) ?_
  refine ap 9 1 ?_
  refine aq 10 rfl (y_load (.agg (ePlace a0.Place).toArray) 0 g0_0 8) ?_
  obtain ⟨v1_11, hv1_11, h⟩ := H.call h
  refine aq 11 rfl (y_call [.agg (ePlace a0.Place).toArray] (.string (bs v1_11)) func220 (fun W S => C.s_plText W hv1_11)) ?_
  obtain ⟨y1_12, hy1_12, h⟩ := H.call h
  refine aq 12 rfl (y_cat hy1_12) ?_
  obtain ⟨y1_13, hy1_13, h⟩ := H.call h
  refine aq 13 rfl (y_cat hy1_13) ?_
  refine ap 14 1 ?_
  refine aq 15 rfl (y_load (.agg (eMove a0.Move).toArray) 0 g0_0 11) ?_
  obtain ⟨v1_16, hv1_16, h⟩ := H.call h
  refine aq 16 rfl (y_call [.agg (eMove a0.Move).toArray] (.string (bs v1_16)) func221 (fun W S => C.s_mvText W hv1_16)) ?_
  obtain ⟨y1_17, hy1_17, h⟩ := H.call h
  refine aq 17 rfl (y_cat hy1_17) ?_
  refine ap 18 1 ?_
  refine a_done ?_
  replace h := H.done h
  subst h
  exact ret func184 rfl (vs := [.string (bs y1_17)]) (.tmp (by kernel_rfl) .nil) rfl (fun W S => ⟨rfl, S.below⟩)
theorem C.s_noForm {fu : Nat} {a0 : Sign} {r : Sign} (w : World) (h : X.s_noForm fu a0 = some r) : Calls prog 132 #[.agg (eSign a0).toArray] w (Ret w (.agg (eSign r).toArray)) := by
  refine calls (M := no) (args := [.agg (eSign a0).toArray]) func132 rfl ?_
  replace h : H (X.s_noForm fu a0) (fun o => o = r) := H.mk h
  unfold X.s_noForm at h
  refine c_seq ?_
  refine r_start ?_
  refine xx rfl (x_box (eSign a0) fun g0_0 => ?_)
  refine xx rfl (x_new (eSign zSign) fun g0_1 => ?_)
  refine rend ?_
  refine c_seq ?_
  refine r_start ?_
  refine p 1 ?_
  refine xq rfl (y_load (.agg (eHand a0.Main).toArray) 0 g0_0 0) ?_
  obtain ⟨v1_2, hv1_2, h⟩ := H.call h
  refine xq rfl (y_call [.agg (eHand a0.Main).toArray] (.agg (eHand v1_2).toArray) func183 (fun W S => C.s_noHand W hv1_2)) ?_
  refine p 1 ?_
  refine xx rfl (x_new (eSign zSign) fun g1_4 => ?_)
  refine xx rfl (x_sto 2 g1_4 0 (eSign ({ zSign with Main := v1_2 })) ?_)
  refine rend ?_
  refine c_seq ?_
  refine c_seq ?_
  refine r_start ?_
  refine p 1 ?_
  refine xq rfl (y_load (.bool a0.Two) 0 g0_0 13) ?_
  refine p 1 ?_
  refine rend ?_
  refine c_or (!a0.Two) (fun q1 => ?_) (fun q1 => ?_)
  · replace h := H.t q1 h
    refine c_seq ?_
    refine r_start ?_
    refine xq rfl (y_load (.agg (eSign ({ zSign with Main := v1_2 })).toArray) 2 g1_4 0) ?_
    refine xx rfl (x_sto 1 g0_1 0 (eSign ({ zSign with Main := v1_2 })) ?_)
    refine rend ?_
    replace h := H.done h
    subst h
    exact ret func132 rfl (vs := [.agg (eSign ({ zSign with Main := v1_2 })).toArray]) (.cell 1 g0_1 rfl (by kernel_rfl) (by kernel_rfl) .nil) rfl (fun W S => ⟨rfl, S.below⟩)
  replace h := H.f q1 h
  refine c_skip ?_
  refine c_seq ?_
  refine r_start ?_
  refine p 1 ?_
  refine xx rfl (x_sto 2 g1_4 13 (eSign (⟨v1_2, true, zSign.Other⟩ : Sign)) ?_)
  refine rend ?_
  refine c_seq ?_
  refine r_start ?_
  refine p 1 ?_
  refine xq rfl (y_load (.agg (eHand a0.Other).toArray) 0 g0_0 14) ?_
  obtain ⟨v5_2, hv5_2, h⟩ := H.call h
  refine xq rfl (y_call [.agg (eHand a0.Other).toArray] (.agg (eHand v5_2).toArray) func183 (fun W S => C.s_noHand W hv5_2)) ?_
  refine p 1 ?_
  refine xx rfl (x_sto 2 g1_4 14 (eSign (⟨v1_2, true, v5_2⟩ : Sign)) ?_)
  refine rend ?_
  refine c_seq ?_
  refine c_seq ?_
  refine as_start 12 12 ?_
  refine aq 0 rfl (y_load (.agg (eSign (⟨v1_2, true, v5_2⟩ : Sign)).toArray) 2 g1_4 0) ?_
  obtain ⟨v6_1, hv6_1, h⟩ := H.call h
  refine aq 1 rfl (y_call [.agg (eSign (⟨v1_2, true, v5_2⟩ : Sign)).toArray] (.int .i64 v6_1) func169 (fun W S => C.s_siKind W hv6_1)) ?_
  refine ap 2 2 ?_
  refine br (v6_1 == 1) (fun q2 => ?_) (fun q2 => ?_)
  · replace h := H.t q2 h
    refine a_set 21 (congrArg Value.bool q2) ?_
    refine ap 4 1 ?_
    refine aq 5 rfl (y_load (.agg (eHand v5_2).toArray) 2 g1_4 14) ?_
    obtain ⟨v6_6, hv6_6, h⟩ := H.call h
    refine aq 6 rfl (y_call [.agg (eHand v5_2).toArray] (.string (bs v6_6)) func184 (fun W S => C.s_siText W hv6_6)) ?_
    refine ap 7 1 ?_
    refine aq 8 rfl (y_load (.agg (eHand v1_2).toArray) 2 g1_4 0) ?_
    obtain ⟨v6_9, hv6_9, h⟩ := H.call h
    refine aq 9 rfl (y_call [.agg (eHand v1_2).toArray] (.string (bs v6_9)) func184 (fun W S => C.s_siText W hv6_9)) ?_
    refine ap 10 2 ?_
    refine a_done ?_
    refine c_or (slt v6_6 v6_9) (fun q3 => ?_) (fun q3 => ?_)
    · replace h := H.t q3 h
      refine c_seq ?_
      refine r_start ?_
      refine p 1 ?_
      refine xq rfl (y_load (.agg (eHand v1_2).toArray) 2 g1_4 0) ?_
      refine xx rfl (x_new (eHand zHand) fun g7_2 => ?_)
      refine xx rfl (x_sto 3 g7_2 0 (eHand v1_2) ?_)
      refine rend ?_
      refine c_seq ?_
      refine r_start ?_
      refine p 1 ?_
      refine xq rfl (y_load (.agg (eHand v5_2).toArray) 2 g1_4 14) ?_
      refine p 1 ?_
      refine xx rfl (x_sto 2 g1_4 0 (eSign (⟨v5_2, true, v5_2⟩ : Sign)) ?_)
      refine rend ?_
      refine r_start ?_
      refine xq rfl (y_load (.agg (eHand v1_2).toArray) 3 g7_2 0) ?_
      refine p 1 ?_
      refine xx rfl (x_sto 2 g1_4 14 (eSign (⟨v5_2, true, v1_2⟩ : Sign)) ?_)
      refine rend ?_
      refine c_seq ?_
      refine r_start ?_
      refine xq rfl (y_load (.agg (eSign (⟨v5_2, true, v1_2⟩ : Sign)).toArray) 2 g1_4 0) ?_
      refine xx rfl (x_sto 1 g0_1 0 (eSign (⟨v5_2, true, v1_2⟩ : Sign)) ?_)
      refine rend ?_
      replace h := H.done h
      subst h
      exact ret func132 rfl (vs := [.agg (eSign (⟨v5_2, true, v1_2⟩ : Sign)).toArray]) (.cell 1 g0_1 rfl (by kernel_rfl) (by kernel_rfl) .nil) rfl (fun W S => ⟨rfl, S.below⟩)
    replace h := H.f q3 h
    refine c_skip ?_
    refine c_seq ?_
    refine r_start ?_
    refine xq rfl (y_load (.agg (eSign (⟨v1_2, true, v5_2⟩ : Sign)).toArray) 2 g1_4 0) ?_
    refine xx rfl (x_sto 1 g0_1 0 (eSign (⟨v1_2, true, v5_2⟩ : Sign)) ?_)
    refine rend ?_
    replace h := H.done h
    subst h
    exact ret func132 rfl (vs := [.agg (eSign (⟨v1_2, true, v5_2⟩ : Sign)).toArray]) (.cell 1 g0_1 rfl (by kernel_rfl) (by kernel_rfl) .nil) rfl (fun W S => ⟨rfl, S.below⟩)
  replace h := H.f q2 h
  refine a_set 21 (congrArg Value.bool q2) ?_
  refine ap 4 8 ?_
  refine a_done ?_
  refine c_f (by kernel_rfl) ?_
  refine c_skip ?_
  refine c_seq ?_
  refine r_start ?_
  refine xq rfl (y_load (.agg (eSign (⟨v1_2, true, v5_2⟩ : Sign)).toArray) 2 g1_4 0) ?_
  refine xx rfl (x_sto 1 g0_1 0 (eSign (⟨v1_2, true, v5_2⟩ : Sign)) ?_)
  refine rend ?_
  replace h := H.done h
  subst h
  exact ret func132 rfl (vs := [.agg (eSign (⟨v1_2, true, v5_2⟩ : Sign)).toArray]) (.cell 1 g0_1 rfl (by kernel_rfl) (by kernel_rfl) .nil) rfl (fun W S => ⟨rfl, S.below⟩)
theorem C.s_seShape {fu : Nat} {a0 : Shape} {r : Str} (w : World) (h : X.s_seShape fu a0 = some r) : Calls prog 133 #[.agg (eShape a0).toArray] w (Ret w (.string (bs r))) := by
  refine calls (M := no) (args := [.agg (eShape a0).toArray]) func133 rfl ?_
  replace h : H (X.s_seShape fu a0) (fun o => o = r) := H.mk h
  unfold X.s_seShape at h
  refine c_seq ?_
  refine r_start ?_
  refine xx rfl (x_box (eShape a0) fun g0_0 => ?_)
  refine p 1 ?_
  refine rend ?_
  refine c_seq ?_
  refine r_start ?_
  refine xq rfl (y_load (.agg (eShape a0).toArray) 0 g0_0 0) ?_
  obtain ⟨v1_1, hv1_1, h⟩ := H.call h
  refine xq rfl (y_call [.agg (eShape a0).toArray] (.string (bs v1_1)) func185 (fun W S => C.s_shText W hv1_1)) ?_
  obtain ⟨y1_2, hy1_2, h⟩ := H.call h
  refine xq rfl (y_cut hy1_2) ?_
  refine p 1 ?_
  refine rend ?_
  replace h := H.done h
  subst h
  exact ret func133 rfl (vs := [.string (bs y1_2)]) (.tmp (by kernel_rfl) .nil) rfl (fun W S => ⟨rfl, S.below⟩)
theorem C.s_seHands {a0 : Sign} {r : Int} (w : World) (h : X.s_seHands a0 = some r) : Calls prog 136 #[.agg (eSign a0).toArray] w (Ret w (.int .i64 r)) := by
  refine calls (M := no) (args := [.agg (eSign a0).toArray]) func136 rfl ?_
  replace h : H (X.s_seHands a0) (fun o => o = r) := H.mk h
  unfold X.s_seHands at h
  refine c_seq ?_
  refine r_start ?_
  refine xx rfl (x_box (eSign a0) fun g0_0 => ?_)
  refine p 1 ?_
  refine rend ?_
  refine c_seq ?_
  refine c_seq ?_
  refine r_start ?_
  refine p 1 ?_
  refine xq rfl (y_load (.bool a0.Two) 0 g0_0 13) ?_
  refine rend ?_
  refine c_or a0.Two (fun q1 => ?_) (fun q1 => ?_)
  · replace h := H.t q1 h
    refine c_seq ?_
    refine r_start ?_
    refine p 1 ?_
    refine rend ?_
    replace h := H.done h
    subst h
    exact ret func136 rfl (vs := [.int .i64 2]) (.tmp (by kernel_rfl) .nil) rfl (fun W S => ⟨rfl, S.below⟩)
  replace h := H.f q1 h
  refine c_skip ?_
  refine c_seq ?_
  refine r_start ?_
  refine p 1 ?_
  refine rend ?_
  replace h := H.done h
  subst h
  exact ret func136 rfl (vs := [.int .i64 1]) (.tmp (by kernel_rfl) .nil) rfl (fun W S => ⟨rfl, S.below⟩)
theorem C.s_PatternOf {fu : Nat} {a0 : Sign} {r : (Pattern × Bool)} (w : World) (h : X.s_PatternOf fu a0 = some r) : Calls prog 62 #[.agg (eSign a0).toArray] w (Ret w (.tuple #[.agg (ePattern r.1).toArray, .bool r.2])) := by
  refine calls (M := no) (args := [.agg (eSign a0).toArray]) func62 rfl ?_
  replace h : H (X.s_PatternOf fu a0) (fun o => o = r) := H.mk h
  unfold X.s_PatternOf at h
  refine c_seq ?_
  refine r_start ?_
  refine xx rfl (x_box (eSign a0) fun g0_0 => ?_)
  refine xx rfl (x_new (ePattern zPattern) fun g0_1 => ?_)
  refine p 1 ?_
  refine rend ?_
  refine c_seq ?_
  refine c_seq ?_
  refine r_start ?_
  refine xq rfl (y_load (.agg (eSign a0).toArray) 0 g0_0 0) ?_
  obtain ⟨v1_1, hv1_1, h⟩ := H.call h
  refine xq rfl (y_call [.agg (eSign a0).toArray] (.bool v1_1) func75 (fun W S => C.s_siGood W hv1_1)) ?_
  refine p 1 ?_
  refine rend ?_
  refine c_or (!v1_1) (fun q1 => ?_) (fun q1 => ?_)
  · replace h := H.t q1 h
    refine c_seq ?_
    refine r_start ?_
    refine p 1 ?_
    refine xx rfl (x_sto 1 g0_1 0 (ePattern zPattern) ?_)
    refine p 1 ?_
    refine rend ?_
    replace h := H.done h
    subst h
    exact ret func62 rfl (vs := [.agg (ePattern zPattern).toArray, .bool false]) (.cell 1 g0_1 rfl (by kernel_rfl) (by kernel_rfl) (.tmp (by kernel_rfl) .nil)) rfl (fun W S => ⟨rfl, S.below⟩)
  replace h := H.f q1 h
  refine c_skip ?_
  refine c_seq ?_
  refine r_start ?_
  refine xq rfl (y_load (.agg (eSign a0).toArray) 0 g0_0 0) ?_
  obtain ⟨v3_1, hv3_1, h⟩ := H.call h
  refine xq rfl (y_call [.agg (eSign a0).toArray] (.agg (eSign v3_1).toArray) func132 (fun W S => C.s_noForm W hv3_1)) ?_
  refine xx rfl (x_new (eSign zSign) fun g3_2 => ?_)
  refine xx rfl (x_sto 2 g3_2 0 (eSign v3_1) ?_)
  refine rend ?_
  refine c_seq ?_
  refine pick [0, 2, 1] [box g0_0 38 (eSign a0), box g3_2 38 (eSign v3_1), box g0_1 79 (ePattern zPattern)] ?_
  refine as_startN 21 2 21 ?_
  refine ap 0 2 ?_
  refine aq 2 rfl (y_load (.agg (eShape v3_1.Main.Shape).toArray) 1 g3_2 0) ?_
  obtain ⟨v4_3, hv4_3, h⟩ := H.call h
  refine aq 3 rfl (y_call [.agg (eShape v3_1.Main.Shape).toArray] (.string (bs v4_3)) func133 (fun W S => C.s_seShape W hv4_3)) ?_
  refine ap 4 2 ?_
  refine aq 6 rfl (y_load (.agg (eOrient v3_1.Main.Orient).toArray) 1 g3_2 6) ?_
  obtain ⟨v4_7, hv4_7, h⟩ := H.call h
  refine aq 7 rfl (y_call [.agg (eOrient v3_1.Main.Orient).toArray] (.string (bs v4_7)) func134 (fun W S => C.s_orText W hv4_7)) ?_
  refine ap 8 3 ?_
  refine aq 11 rfl (y_load (.int .i64 v3_1.Main.Place.Region) 1 g3_2 8) ?_
  refine ap 12 2 ?_
  refine aq 14 rfl (y_load (.agg (eMove v3_1.Main.Move).toArray) 1 g3_2 11) ?_
  obtain ⟨v4_15, hv4_15, h⟩ := H.call h
  refine aq 15 rfl (y_call [.agg (eMove v3_1.Main.Move).toArray] (.string (bs v4_15)) func135 (fun W S => C.s_mvAll W hv4_15)) ?_
  refine aq 16 rfl (y_load (.agg (eSign v3_1).toArray) 1 g3_2 0) ?_
  obtain ⟨v4_17, hv4_17, h⟩ := H.call h
  refine aq 17 rfl (y_call [.agg (eSign v3_1).toArray] (.int .i64 v4_17) func136 (fun W S => C.s_seHands W hv4_17)) ?_
  refine ap 18 1 ?_
  refine ax 19 rfl (x_sto 2 g0_1 0 (ePattern (⟨v4_3, v4_7, v3_1.Main.Place.Region, v4_15, v4_17⟩ : Pattern)) ⟨.inr (by kernel_rfl), ?_⟩)
  refine ap 20 1 ?_
  refine a_done ?_
  refine pick [0, 2, 1] [box g0_0 38 (eSign a0), box g0_1 79 (ePattern (⟨v4_3, v4_7, v3_1.Main.Place.Region, v4_15, v4_17⟩ : Pattern)), box g3_2 38 (eSign v3_1)] ?_
  replace h := H.done h
  subst h
  exact ret func62 rfl (vs := [.agg (ePattern (⟨v4_3, v4_7, v3_1.Main.Place.Region, v4_15, v4_17⟩ : Pattern)).toArray, .bool true]) (.cell 1 g0_1 rfl (by kernel_rfl) (by kernel_rfl) (.tmp (by kernel_rfl) .nil)) rfl (fun W S => ⟨rfl, S.below⟩)
theorem C.s_l1Cur_blur {fu : Nat} {a0 : List Int} {A0 : Option Addr} {k0 g0 : Nat} {t0 s0 : Int} {a1 : Str} {r : (Str × Int × Int)} (w : World) (h : X.s_l1Cur_blur fu a0 t0 s0 a1 = some r) (m0 : w.heap[g0]? = some (.cells ([.slice A0 (List.length a0) k0, .int .i64 t0, .int .u64 s0] : List Value).toArray 94 (0, 0))) (h0 : RdT (eI .u8) w (.slice A0 (List.length a0) k0) a0) (q0 : 0 < List.length a0 → ∀ k, (Value.slice A0 (List.length a0) k0).ownBlock = some k → ¬ k = g0) : Calls prog 139 #[.pointer (some ⟨g0, 0, none⟩), .string (bs a1)] w (RetQ g0 94 [.slice A0 (List.length a0) k0, .int .i64 r.2.1, .int .u64 r.2.2] w (.string (bs r.1))) := by
  refine callsQ (args := [.pointer (some ⟨g0, 0, none⟩), .string (bs a1)]) m0 func139 rfl ?_
  replace h : H (X.s_l1Cur_blur fu a0 t0 s0 a1) (fun o => o = r) := H.mk h
  unfold X.s_l1Cur_blur at h
  refine c_seq ?_
  refine r_start ?_
  refine p 1 ?_
  refine rend ?_
  refine c_seq ?_
  refine r_start ?_
  refine p 1 ?_
  refine rend ?_
  refine c_seq ?_
  refine c_seq ?_
  refine r_start ?_
  refine p 1 ?_
  refine rend ?_
  refine c_block ?_
  refine joinH (X := (Str × Int × Int)) 0 (H.bnd h) (fun (x : (Str × Int × Int)) => x) (fun ⟨t5, n6, n7⟩ => [box g0 94 [.slice A0 (List.length a0) k0, .int .i64 n6, .int .u64 n7]]) (fun ⟨t5, n6, n7⟩ u => (jk u 0 5 (.string (bs t5) :: (jk u 6 19 [])))) (fun h hj8 => ?_) ?_
  · skip
    refine loopR (X := (Str × Int × Int × Int)) (fun (x : (Str × Int × Int × Int)) => x) (fun ⟨t1, n2, n3, n4⟩ => [box g0 94 [.slice A0 (List.length a0) k0, .int .i64 n3, .int .u64 n4]]) (fun ⟨t1, n2, n3, n4⟩ u => (.pointer (some ⟨g0, 0, none⟩) :: .string (bs a1) :: (jk u 2 3 (.string (bs t1) :: .int .i64 n2 :: (jk u 7 18 []))))) (([] : Str), 0, t0, s0) h (by kernel_rfl) (by kernel_rfl) ?_
    intro x u h
    obtain ⟨t1, n2, n3, n4⟩ := x
    refine c_seq ?_
    refine c_seq ?_
    refine r_start ?_
    refine p 4 ?_
    refine rend ?_
    refine c_or (decide (n2 < (List.length a1 : Int))) (fun q9 => ?_) (fun q9 => ?_)
    · replace h := H.t q9 h
      refine c_skip ?_
      refine c_seq ?_
      refine c_block ?_
      refine c_seq ?_
      refine r_start ?_
      refine p 1 ?_
      obtain ⟨v5_1, hv5_1, h⟩ := H.call h
      refine xx rfl (e_cq (cs' := [.slice A0 (List.length a0) k0, .int .i64 v5_1.2.1, .int .u64 v5_1.2.2]) (v := .bool v5_1.1) 0 [.pointer (some ⟨g0, 0, none⟩), .int .i64 2] func78 (fun W S => C.s_l1Cur_one W hv5_1 (S.bx 0) ((s_argN h0 q0).out W S) q0) ?_)
      refine rend ?_
      refine c_or v5_1.1 (fun q10 => ?_) (fun q10 => ?_)
      · replace h := H.t q10 h
        refine r_start ?_
        refine p 1 ?_
        obtain ⟨y6_1, hy6_1, h⟩ := H.call h
        refine xq rfl (y_cat hy6_1) ?_
        refine p 1 ?_
        refine rend ?_
        refine c_inb ?_
        refine r_start ?_
        refine p 3 ?_
        refine rend ?_
        replace h := H.inl h
        exact h (y6_1, (wr (n2 + 1)), v5_1.2.1, v5_1.2.2) _ _ rfl (by kernel_rfl) (by kernel_rfl)
      replace h := H.f q10 h
      refine r_start ?_
      refine p 5 ?_
      obtain ⟨y7_5, hy7_5, h⟩ := H.call h
      refine xq rfl (y_cut hy7_5) ?_
      obtain ⟨y7_6, hy7_6, h⟩ := H.call h
      refine xq rfl (y_cat hy7_6) ?_
      refine p 1 ?_
      refine rend ?_
      refine c_inb ?_
      refine r_start ?_
      refine p 3 ?_
      refine rend ?_
      replace h := H.inl h
      exact h (y7_6, (wr (n2 + 1)), v5_1.2.1, v5_1.2.2) _ _ rfl (by kernel_rfl) (by kernel_rfl)
    replace h := H.f q9 h
    refine cx ?_
    replace h := H.inr h
    exact hj8 (t1, n3, n4) _ _ h (by kernel_rfl) (by kernel_rfl)
  intro x u h
  obtain ⟨t5, n6, n7⟩ := x
  refine c_seq ?_
  refine r_start ?_
  refine p 2 ?_
  refine rend ?_
  replace h := H.done h
  subst h
  exact ret func139 rfl (vs := [.string (bs t5)]) (.tmp (by kernel_rfl) .nil) rfl (fun W S => S.retQ)
end Go.Proofs.XC
