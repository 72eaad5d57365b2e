/- Contracts: each function, called where its plain function gives an answer, returns just that answer and changes nothing that was there. By AI agents; no person has read it. -/
import Derived.Test.YtcniidjoaancoaaGreatDoorC1
import Derived.Test.YtcniidjoaancoaaGreatDoorE3
set_option linter.unusedVariables false
set_option linter.unusedSimpArgs false
set_option maxRecDepth 100000
set_option maxHeartbeats 40000000
namespace Go.Proofs.XC
open Go Go.RowKit
open Tryz
theorem C.s_CompoundsAlike {fu : Nat} {a0 : (List Sign)} {A0 : Option Addr} {k0 : Nat} {a1 : (List Sign)} {A1 : Option Addr} {k1 : Nat} {r : (Bool × Bool)} (w : World) (h : X.s_CompoundsAlike fu a0 a1 = some r) (h0 : RdT nSign w (.slice A0 (List.length a0) k0) a0) (h1 : RdT nSign w (.slice A1 (List.length a1) k1) a1) : Calls prog 41 #[.slice A0 (List.length a0) k0, .slice A1 (List.length a1) k1] w (Ret w (.tuple #[.bool r.1, .bool r.2])) := by
  refine calls (M := no) (args := [.slice A0 (List.length a0) k0, .slice A1 (List.length a1) k1]) func41 rfl ?_
  replace h : H (X.s_CompoundsAlike fu a0 a1) (fun o => o = r) := H.mk h
  unfold X.s_CompoundsAlike at h
  refine c_seq ?_
  refine r_start ?_
  refine p 2 ?_
  refine rend ?_
  refine c_seq ?_
  refine r_start ?_
  refine p 1 ?_
  obtain ⟨v1_1, hv1_1, h⟩ := H.call h
  refine xx rfl (e_cr [.slice A0 (List.length a0) k0] (fun v => .tuple #[v, .bool v1_1.2]) func38 (fun W S => C.s_CompoundOf W hv1_1 ((s_arg h0).out W S)) fun A1_1 k1_1 => ?_)
  refine p 5 ?_
  refine rend ?_
  refine c_seq ?_
  refine r_start ?_
  refine p 1 ?_
  obtain ⟨v2_1, hv2_1, h⟩ := H.call h
  refine xx rfl (e_cr [.slice A1 (List.length a1) k1] (fun v => .tuple #[v, .bool v2_1.2]) func38 (fun W S => C.s_CompoundOf W hv2_1 ((s_arg h1).out W S)) fun A2_1 k2_1 => ?_)
  refine p 5 ?_
  refine rend ?_
  refine c_seq ?_
  refine c_seq ?_
  refine r_start ?_
  refine p 3 ?_
  refine br (!v1_1.2) (fun q1 => ?_) (fun q1 => ?_)
  · replace h := H.t q1 h
    refine o_set 24 (congrArg Value.bool q1) ?_
    refine p 3 ?_
    refine rend ?_
    refine c_t (by kernel_rfl) ?_
    refine c_seq ?_
    refine r_start ?_
    refine p 2 ?_
    refine rend ?_
    replace h := H.done h
    subst h
    exact ret func41 rfl (vs := [.bool false, .bool false]) (.tmp (by kernel_rfl) (.tmp (by kernel_rfl) .nil)) rfl (fun W S => ⟨rfl, S.below⟩)
  replace h := H.f q1 h
  refine o_set 24 (congrArg Value.bool q1) ?_
  refine p 3 ?_
  refine rend ?_
  refine c_or (!v2_1.2) (fun q2 => ?_) (fun q2 => ?_)
  · replace h := H.t q2 h
    refine c_seq ?_
    refine r_start ?_
    refine p 2 ?_
    refine rend ?_
    replace h := H.done h
    subst h
    exact ret func41 rfl (vs := [.bool false, .bool false]) (.tmp (by kernel_rfl) (.tmp (by kernel_rfl) .nil)) rfl (fun W S => ⟨rfl, S.below⟩)
  replace h := H.f q2 h
  refine c_skip ?_
  refine c_seq ?_
  refine c_seq ?_
  refine r_start ?_
  refine p 5 ?_
  refine rend ?_
  refine c_or ((List.length v1_1.1 : Int) != (List.length v2_1.1 : Int)) (fun q3 => ?_) (fun q3 => ?_)
  · replace h := H.t q3 h
    refine c_seq ?_
    refine r_start ?_
    refine p 2 ?_
    refine rend ?_
    replace h := H.done h
    subst h
    exact ret func41 rfl (vs := [.bool false, .bool true]) (.tmp (by kernel_rfl) (.tmp (by kernel_rfl) .nil)) rfl (fun W S => ⟨rfl, S.below⟩)
  replace h := H.f q3 h
  refine c_skip ?_
  refine c_seq ?_
  refine c_seq ?_
  refine r_start ?_
  refine p 3 ?_
  refine rend ?_
  refine c_block ?_
  refine joinE (X := Unit) 0 (H.or h) (fun (x : Unit) => x) (fun _ => [rowT nSign w.heap.size 66 (.slice A1_1 (List.length v1_1.1) k1_1) v1_1.1, rowT nSign w.heap.size 66 (.slice A2_1 (List.length v2_1.1) k2_1) v2_1.1]) (fun _ u => (jk u 0 49 [])) (fun h hj4 => ?_) ?_
  · skip
    refine rangeR (X := Unit) (s_own 0) (fun (x : Unit) => x) (fun _ => [rowT nSign w.heap.size 66 (.slice A1_1 (List.length v1_1.1) k1_1) v1_1.1, rowT nSign w.heap.size 66 (.slice A2_1 (List.length v2_1.1) k2_1) v2_1.1]) (fun (j5 : Nat) _ u => (jk u 0 8 (.slice A2_1 (List.length v2_1.1) k2_1 :: (jk u 9 24 (.slice A1_1 (List.length v1_1.1) k1_1 :: .int .i64 (List.length v1_1.1 : Int) :: .int .i64 (j5 : Int) :: (jk u 36 13 [])))))) () h (by kernel_rfl) (by kernel_rfl) ?_ ?_
    · intro j5 x u x6 q7 hg8 hw9 h
      refine c_seq ?_
      refine r_start ?_
      refine p 1 ?_
      refine rend ?_
      refine c_seq ?_
      refine c_yes q7 ?_
      refine c_skip ?_
      refine c_seq ?_
      refine c_block ?_
      refine c_seq ?_
      refine r_start ?_
      refine p 1 ?_
      refine xq rfl (y_idx (e := nSign) (el := 66) hg8 (s_own 0)) ?_
      refine xq rfl (y_el (e := nSign) 0 (.agg (eSign x6).toArray) hg8 (s_own 0)) ?_
      refine xx rfl (x_new (eSign zSign) fun g9_3 => ?_)
      refine p 1 ?_
      refine xx rfl (x_sto 2 g9_3 0 (eSign x6) ?_)
      refine rend ?_
      refine c_seq ?_
      refine as_start 8 8 ?_
      refine aq 0 rfl (y_load (.agg (eSign x6).toArray) 2 g9_3 0) ?_
      obtain ⟨v10_1, hv10_1, h⟩ := H.call h
      refine aq 1 rfl (y_call [.agg (eSign x6).toArray] (.agg (eSign v10_1).toArray) func90 (fun W S => C.s_noForm W hv10_1)) ?_
      refine ap 2 2 ?_
      obtain ⟨y10_4, hy10_4, h⟩ := H.call h
      refine aq 4 rfl (y_idx (e := nSign) (el := 66) hy10_4 (s_own 1)) ?_
      refine aq 5 rfl (y_el (e := nSign) 0 (.agg (eSign y10_4).toArray) hy10_4 (s_own 1)) ?_
      obtain ⟨v10_6, hv10_6, h⟩ := H.call h
      refine aq 6 rfl (y_call [.agg (eSign y10_4).toArray] (.agg (eSign v10_6).toArray) func90 (fun W S => C.s_noForm W hv10_6)) ?_
      refine ap 7 1 ?_
      refine a_done ?_
      refine c_or (!qSign v10_1 v10_6) (fun q10 => ?_) (fun q10 => ?_)
      · replace h := H.t q10 h
        refine c_seq ?_
        refine r_start ?_
        refine p 2 ?_
        refine rend ?_
        replace h := H.inr h
        replace h := H.done h
        subst h
        exact ret func41 rfl (vs := [.bool false, .bool true]) (.tmp (by kernel_rfl) (.tmp (by kernel_rfl) .nil)) rfl (fun W S => ⟨rfl, S.below⟩)
      replace h := H.f q10 h
      refine c_skip ?_
      refine c_inb ?_
      refine r_start ?_
      refine p 2 ?_
      refine rend ?_
      refine c_set 35 (ci hw9) ?_
      replace h := H.inl h
      exact h () _ _ rfl (by kernel_rfl) (by kernel_rfl)
    · intro x u q7 h
      refine c_seq ?_
      refine r_start ?_
      refine p 1 ?_
      refine rend ?_
      refine c_seq ?_
      refine c_no q7 ?_
      refine cx ?_
      replace h := H.done h
      exact hj4 () _ _ h (by kernel_rfl) (by kernel_rfl)
  intro x u h
  refine c_seq ?_
  refine r_start ?_
  refine p 2 ?_
  refine rend ?_
  replace h := H.done h
  subst h
  exact ret func41 rfl (vs := [.bool true, .bool true]) (.tmp (by kernel_rfl) (.tmp (by kernel_rfl) .nil)) rfl (fun W S => ⟨rfl, S.below⟩)
theorem C.slices_EqualFunc_i_Sign_i_Sign_i_Sign_i_Sign {a0 : (List Sign)} {A0 : Option Addr} {k0 : Nat} {a1 : (List Sign)} {A1 : Option Addr} {k1 : Nat} {a2 : (Sign → Sign → Option Bool)} {g2 : Nat} {cp2 : List Value} {r : Bool} (w : World) (h : X.slices_EqualFunc_i_Sign_i_Sign_i_Sign_i_Sign a0 a1 a2 = some r) (h0 : RdT nSign w (.slice A0 (List.length a0) k0) a0) (h1 : RdT nSign w (.slice A1 (List.length a1) k1) a1) (hg2 : isFn prog g2 = true) (hF2 : ∀ (x0 : Sign) (x1 : Sign) (r : Bool) (W : World), Up w W → a2 x0 x1 = some r → Calls prog g2 (([.agg (eSign x0).toArray, .agg (eSign x1).toArray] : List Value) ++ cp2).toArray W (Ret W (.bool r))) : Calls prog 91 #[.slice A0 (List.length a0) k0, .slice A1 (List.length a1) k1, .func (.func g2) #[] cp2.toArray] w (Ret w (.bool r)) := by
  refine calls (M := no) (args := [.slice A0 (List.length a0) k0, .slice A1 (List.length a1) k1, .func (.func g2) #[] cp2.toArray]) func91 rfl ?_
  replace h : H (X.slices_EqualFunc_i_Sign_i_Sign_i_Sign_i_Sign a0 a1 a2) (fun o => o = r) := H.mk h
  unfold X.slices_EqualFunc_i_Sign_i_Sign_i_Sign_i_Sign at h
  refine c_seq ?_
  refine r_start ?_
  refine p 1 ?_
  refine rend ?_
  refine c_seq ?_
  refine c_seq ?_
  refine r_start ?_
  refine p 5 ?_
  refine rend ?_
  refine c_or ((List.length a0 : Int) != (List.length a1 : Int)) (fun q1 => ?_) (fun q1 => ?_)
  · replace h := H.t q1 h
    refine c_seq ?_
    refine r_start ?_
    refine p 1 ?_
    refine rend ?_
    replace h := H.done h
    subst h
    exact ret func91 rfl (vs := [.bool false]) (.tmp (by kernel_rfl) .nil) rfl (fun W S => ⟨rfl, S.below⟩)
  replace h := H.f q1 h
  refine c_skip ?_
  refine c_seq ?_
  refine c_seq ?_
  refine r_start ?_
  refine p 3 ?_
  refine rend ?_
  refine c_block ?_
  refine joinE (X := Unit) 0 (H.or h) (fun (x : Unit) => x) (fun _ => []) (fun _ u => (jk u 0 32 [])) (fun h hj2 => ?_) ?_
  · skip
    refine rangeR (X := Unit) (s_arg h0) (fun (x : Unit) => x) (fun _ => []) (fun (j3 : Nat) _ u => (jk u 0 1 (.slice A1 (List.length a1) k1 :: .func (.func g2) #[] cp2.toArray :: (jk u 3 12 (.slice A0 (List.length a0) k0 :: .int .i64 (List.length a0 : Int) :: .int .i64 (j3 : Int) :: (jk u 18 14 [])))))) () h (by kernel_rfl) (by kernel_rfl) ?_ ?_
    · intro j3 x u x4 q5 hg6 hw7 h
      refine c_seq ?_
      refine r_start ?_
      refine p 1 ?_
      refine rend ?_
      refine c_seq ?_
      refine c_yes q5 ?_
      refine c_skip ?_
      refine c_seq ?_
      refine c_block ?_
      refine c_seq ?_
      refine r_start ?_
      refine p 1 ?_
      refine xq rfl (y_idx (e := nSign) (el := 66) hg6 (s_arg h0)) ?_
      refine xq rfl (y_el (e := nSign) 0 (.agg (eSign x4).toArray) hg6 (s_arg h0)) ?_
      refine xx rfl (x_new (eSign zSign) fun g5_3 => ?_)
      refine p 1 ?_
      refine xx rfl (x_sto 0 g5_3 0 (eSign x4) ?_)
      refine rend ?_
      refine c_seq ?_
      refine r_start ?_
      refine p 2 ?_
      obtain ⟨y6_2, hy6_2, h⟩ := H.call h
      refine xq rfl (y_idx (e := nSign) (el := 66) hy6_2 (s_arg h1)) ?_
      refine xq rfl (y_el (e := nSign) 0 (.agg (eSign y6_2).toArray) hy6_2 (s_arg h1)) ?_
      refine xx rfl (x_new (eSign zSign) fun g6_4 => ?_)
      refine xx rfl (x_sto 1 g6_4 0 (eSign y6_2) ?_)
      refine rend ?_
      refine c_seq ?_
      refine r_start ?_
      refine p 1 ?_
      refine xq rfl (y_load (.agg (eSign x4).toArray) 0 g5_3 0) ?_
      refine xq rfl (y_load (.agg (eSign y6_2).toArray) 1 g6_4 0) ?_
      obtain ⟨v7_3, hv7_3, h⟩ := H.call h
      refine xq rfl (y_cf cp2 [.agg (eSign x4).toArray, .agg (eSign y6_2).toArray] (.bool v7_3) hg2 (fun W S => hF2 _ _ _ W S.below hv7_3)) ?_
      refine p 1 ?_
      refine rend ?_
      refine c_or (!v7_3) (fun q8 => ?_) (fun q8 => ?_)
      · replace h := H.t q8 h
        refine c_seq ?_
        refine r_start ?_
        refine p 1 ?_
        refine rend ?_
        replace h := H.inr h
        replace h := H.done h
        subst h
        exact ret func91 rfl (vs := [.bool false]) (.tmp (by kernel_rfl) .nil) rfl (fun W S => ⟨rfl, S.below⟩)
      replace h := H.f q8 h
      refine c_skip ?_
      refine c_inb ?_
      refine r_start ?_
      refine p 2 ?_
      refine rend ?_
      refine c_set 17 (ci hw7) ?_
      replace h := H.inl h
      exact h () _ _ rfl (by kernel_rfl) (by kernel_rfl)
    · intro x u q5 h
      refine c_seq ?_
      refine r_start ?_
      refine p 1 ?_
      refine rend ?_
      refine c_seq ?_
      refine c_no q5 ?_
      refine cx ?_
      replace h := H.done h
      exact hj2 () _ _ h (by kernel_rfl) (by kernel_rfl)
  intro x u h
  refine c_seq ?_
  refine r_start ?_
  refine p 1 ?_
  refine rend ?_
  replace h := H.done h
  subst h
  exact ret func91 rfl (vs := [.bool true]) (.tmp (by kernel_rfl) .nil) rfl (fun W S => ⟨rfl, S.below⟩)
theorem C.i_CompoundsAlike_1 {fu : Nat} {a0 : Sign} {a1 : Sign} {r : Bool} (w : World) (h : X.i_CompoundsAlike_1 fu a0 a1 = some r) : Calls prog 92 #[.agg (eSign a0).toArray, .agg (eSign a1).toArray] w (Ret w (.bool r)) := by
  refine calls (M := no) (args := [.agg (eSign a0).toArray, .agg (eSign a1).toArray]) func92 rfl ?_
  replace h : H (X.i_CompoundsAlike_1 fu a0 a1) (fun o => o = r) := H.mk h
  unfold X.i_CompoundsAlike_1 at h
  refine c_seq ?_
  refine r_start ?_
  refine xx rfl (x_box (eSign a0) fun g0_0 => ?_)
  refine xx rfl (x_box (eSign a1) fun g0_1 => ?_)
  refine p 1 ?_
  refine rend ?_
  refine c_seq ?_
  refine as_start 6 6 ?_
  refine aq 0 rfl (y_load (.agg (eSign a0).toArray) 0 g0_0 0) ?_
  obtain ⟨v1_1, hv1_1, h⟩ := H.call h
  refine aq 1 rfl (y_call [.agg (eSign a0).toArray] (.agg (eSign v1_1).toArray) func93 (fun W S => C.i_Sign_normal W hv1_1)) ?_
  refine aq 2 rfl (y_load (.agg (eSign a1).toArray) 1 g0_1 0) ?_
  obtain ⟨v1_3, hv1_3, h⟩ := H.call h
  refine aq 3 rfl (y_call [.agg (eSign a1).toArray] (.agg (eSign v1_3).toArray) func93 (fun W S => C.i_Sign_normal W hv1_3)) ?_
  refine ap 4 2 ?_
  refine a_done ?_
  replace h := H.done h
  subst h
  exact ret func92 rfl (vs := [.bool (qSign v1_1 v1_3)]) (.tmp (by kernel_rfl) .nil) rfl (fun W S => ⟨rfl, S.below⟩)
theorem C.i_CompoundsAlike {fu : Nat} {a0 : (List Sign)} {A0 : Option Addr} {k0 : Nat} {a1 : (List Sign)} {A1 : Option Addr} {k1 : Nat} {r : (Bool × Bool)} (w : World) (h : X.i_CompoundsAlike fu a0 a1 = some r) (h0 : RdT nSign w (.slice A0 (List.length a0) k0) a0) (h1 : RdT nSign w (.slice A1 (List.length a1) k1) a1) : Calls prog 42 #[.slice A0 (List.length a0) k0, .slice A1 (List.length a1) k1] w (Ret w (.tuple #[.bool r.1, .bool r.2])) := by
  refine calls (M := no) (args := [.slice A0 (List.length a0) k0, .slice A1 (List.length a1) k1]) func42 rfl ?_
  replace h : H (X.i_CompoundsAlike fu a0 a1) (fun o => o = r) := H.mk h
  unfold X.i_CompoundsAlike at h
  refine c_seq ?_
  refine r_start ?_
  refine p 2 ?_
  refine rend ?_
  refine c_seq ?_
  refine c_seq ?_
  refine r_start ?_
  refine p 1 ?_
  obtain ⟨v1_1, hv1_1, h⟩ := H.call h
  refine xq rfl (y_call [.slice A0 (List.length a0) k0] (.bool v1_1) func88 (fun W S => C.i_isMade W hv1_1 ((s_arg h0).out W S))) ?_
  refine p 2 ?_
  refine br (!v1_1) (fun q1 => ?_) (fun q1 => ?_)
  · replace h := H.t q1 h
    refine o_set 10 (congrArg Value.bool q1) ?_
    refine p 4 ?_
    refine rend ?_
    refine c_t (by kernel_rfl) ?_
    refine c_seq ?_
    refine r_start ?_
    refine p 2 ?_
    refine rend ?_
    replace h := H.done h
    subst h
    exact ret func42 rfl (vs := [.bool false, .bool false]) (.tmp (by kernel_rfl) (.tmp (by kernel_rfl) .nil)) rfl (fun W S => ⟨rfl, S.below⟩)
  replace h := H.f q1 h
  refine o_set 10 (congrArg Value.bool q1) ?_
  refine p 1 ?_
  obtain ⟨v1_5, hv1_5, h⟩ := H.call h
  refine xq rfl (y_call [.slice A1 (List.length a1) k1] (.bool v1_5) func88 (fun W S => C.i_isMade W hv1_5 ((s_arg h1).out W S))) ?_
  refine p 2 ?_
  refine rend ?_
  refine c_or (!v1_5) (fun q2 => ?_) (fun q2 => ?_)
  · replace h := H.t q2 h
    refine c_seq ?_
    refine r_start ?_
    refine p 2 ?_
    refine rend ?_
    replace h := H.done h
    subst h
    exact ret func42 rfl (vs := [.bool false, .bool false]) (.tmp (by kernel_rfl) (.tmp (by kernel_rfl) .nil)) rfl (fun W S => ⟨rfl, S.below⟩)
  replace h := H.f q2 h
  refine c_skip ?_
  refine c_seq ?_
  refine r_start ?_
  refine p 1 ?_
  obtain ⟨v3_1, hv3_1, h⟩ := H.call h
  refine xx rfl (e_cr [.slice A0 (List.length a0) k0] (fun v => v) func89 (fun W S => C.i_compound W hv3_1 ((s_arg h0).out W S)) fun A3_1 k3_1 => ?_)
  refine p 1 ?_
  obtain ⟨v3_3, hv3_3, h⟩ := H.call h
  refine xx rfl (e_cr [.slice A1 (List.length a1) k1] (fun v => v) func89 (fun W S => C.i_compound W hv3_3 ((s_arg h1).out W S)) fun A3_3 k3_3 => ?_)
  obtain ⟨v3_4, hv3_4, h⟩ := H.call h
  refine xq rfl (y_call [.slice A3_1 (List.length v3_1) k3_1, .slice A3_3 (List.length v3_3) k3_3, .func (.func 92) #[] #[]] (.bool v3_4) func91 (fun W S => C.slices_EqualFunc_i_Sign_i_Sign_i_Sign_i_Sign W hv3_4 ((s_own 0).out W S) ((s_own 1).out W S) (isFn_of func92) (fun x0_2 x1_2 r W2 hu2 hx2 => C.i_CompoundsAlike_1 W2 hx2))) ?_
  refine p 1 ?_
  refine rend ?_
  refine c_seq ?_
  refine r_start ?_
  refine p 3 ?_
  refine rend ?_
  replace h := H.done h
  subst h
  exact ret func42 rfl (vs := [.bool v3_4, .bool true]) (.tmp (by kernel_rfl) (.tmp (by kernel_rfl) .nil)) rfl (fun W S => ⟨rfl, S.below⟩)
theorem C.l_FnExactCompoundsAlike {fu : Nat} {a0 : (List Sign)} {A0 : Option Addr} {k0 : Nat} {a1 : (List Sign)} {A1 : Option Addr} {k1 : Nat} {r : Bool} (w : World) (h : X.l_FnExactCompoundsAlike fu a0 a1 = some r) (h0 : RdT nSign w (.slice A0 (List.length a0) k0) a0) (h1 : RdT nSign w (.slice A1 (List.length a1) k1) a1) : Calls prog 9 #[.slice A0 (List.length a0) k0, .slice A1 (List.length a1) k1] w (Ret w (.bool r)) := by
  refine calls (M := no) (args := [.slice A0 (List.length a0) k0, .slice A1 (List.length a1) k1]) func9 rfl ?_
  replace h : H (X.l_FnExactCompoundsAlike fu a0 a1) (fun o => o = r) := H.mk h
  unfold X.l_FnExactCompoundsAlike at h
  refine c_seq ?_
  refine r_start ?_
  refine p 1 ?_
  refine rend ?_
  refine c_seq ?_
  refine r_start ?_
  refine p 1 ?_
  refine rend ?_
  refine c_seq ?_
  refine r_start ?_
  refine p 2 ?_
  obtain ⟨v2_2, hv2_2, h⟩ := H.call h
  refine xq rfl (y_call [.slice A0 (List.length a0) k0, .int .i64 1048576] (.int .i64 v2_2) func15 (fun W S => C.l_szSignS W hv2_2 ((s_arg h0).out W S))) ?_
  refine p 1 ?_
  refine rend ?_
  refine c_seq ?_
  refine c_seq ?_
  refine r_start ?_
  refine p 2 ?_
  refine rend ?_
  refine c_or (decide (v2_2 < 0)) (fun q1 => ?_) (fun q1 => ?_)
  · replace h := H.t q1 h
    refine c_seq ?_
    refine r_start ?_
    refine p 1 ?_
    refine rend ?_
    replace h := H.done h
    subst h
    exact ret func9 rfl (vs := [.bool true]) (.tmp (by kernel_rfl) .nil) rfl (fun W S => ⟨rfl, S.below⟩)
  replace h := H.f q1 h
  refine c_skip ?_
  refine c_seq ?_
  refine r_start ?_
  refine p 2 ?_
  obtain ⟨v5_2, hv5_2, h⟩ := H.call h
  refine xq rfl (y_call [.slice A1 (List.length a1) k1, .int .i64 v2_2] (.int .i64 v5_2) func15 (fun W S => C.l_szSignS W hv5_2 ((s_arg h1).out W S))) ?_
  refine p 1 ?_
  refine rend ?_
  refine c_seq ?_
  refine c_seq ?_
  refine r_start ?_
  refine p 2 ?_
  refine rend ?_
  refine c_or (decide (v5_2 < 0)) (fun q2 => ?_) (fun q2 => ?_)
  · replace h := H.t q2 h
    refine c_seq ?_
    refine r_start ?_
    refine p 1 ?_
    refine rend ?_
    replace h := H.done h
    subst h
    exact ret func9 rfl (vs := [.bool true]) (.tmp (by kernel_rfl) .nil) rfl (fun W S => ⟨rfl, S.below⟩)
  replace h := H.f q2 h
  refine c_skip ?_
  refine c_seq ?_
  refine r_start ?_
  refine p 1 ?_
  obtain ⟨v8_1, hv8_1, h⟩ := H.call h
  refine xx rfl (e_cr [.slice A0 (List.length a0) k0] (fun v => v) func17 (fun W S => C.l_toSignS W hv8_1 ((s_arg h0).out W S)) fun A8_1 k8_1 => ?_)
  refine p 1 ?_
  obtain ⟨v8_3, hv8_3, h⟩ := H.call h
  refine xx rfl (e_cr [.slice A1 (List.length a1) k1] (fun v => v) func17 (fun W S => C.l_toSignS W hv8_3 ((s_arg h1).out W S)) fun A8_3 k8_3 => ?_)
  obtain ⟨v8_4, hv8_4, h⟩ := H.call h
  refine xq rfl (y_call [.slice A8_1 (List.length v8_1) k8_1, .slice A8_3 (List.length v8_3) k8_3] (.tuple #[.bool v8_4.1, .bool v8_4.2]) func41 (fun W S => C.s_CompoundsAlike W hv8_4 ((s_own 0).out W S) ((s_own 1).out W S))) ?_
  refine p 5 ?_
  refine rend ?_
  refine c_seq ?_
  refine r_start ?_
  refine p 1 ?_
  obtain ⟨v9_1, hv9_1, h⟩ := H.call h
  refine xx rfl (e_cr [.slice A0 (List.length a0) k0] (fun v => v) func17 (fun W S => C.l_toSignS W hv9_1 ((s_arg h0).out W S)) fun A9_1 k9_1 => ?_)
  refine p 1 ?_
  refine rend ?_
  refine c_seq ?_
  refine r_start ?_
  refine p 1 ?_
  obtain ⟨v10_1, hv10_1, h⟩ := H.call h
  refine xx rfl (e_cr [.slice A1 (List.length a1) k1] (fun v => v) func17 (fun W S => C.l_toSignS W hv10_1 ((s_arg h1).out W S)) fun A10_1 k10_1 => ?_)
  refine p 1 ?_
  refine rend ?_
  refine c_seq ?_
  refine r_start ?_
  refine p 2 ?_
  obtain ⟨v11_2, hv11_2, h⟩ := H.call h
  refine xq rfl (y_call [.slice A9_1 (List.length v9_1) k9_1, .slice A10_1 (List.length v10_1) k10_1] (.tuple #[.bool v11_2.1, .bool v11_2.2]) func42 (fun W S => C.i_CompoundsAlike W hv11_2 ((s_own 2).out W S) ((s_own 3).out W S))) ?_
  refine p 5 ?_
  refine rend ?_
  refine c_seq ?_
  refine c_seq ?_
  refine r_start ?_
  refine p 4 ?_
  refine br (!(v11_2.1 == v8_4.1)) (fun q3 => ?_) (fun q3 => ?_)
  · replace h := H.t q3 h
    refine o_set 43 (congrArg Value.bool q3) ?_
    refine p 4 ?_
    refine rend ?_
    refine c_t (by kernel_rfl) ?_
    refine c_seq ?_
    refine r_start ?_
    refine p 1 ?_
    refine rend ?_
    refine frg (fun u => (jk u 0 4 (.bool false :: (jk u 5 53 [])))) (by kernel_rfl) fun u => ?_
    refine keep 4 (its' := [rowT nSign w.heap.size 66 (.slice A8_1 (List.length v8_1) k8_1) v8_1, rowT nSign w.heap.size 66 (.slice A8_3 (List.length v8_3) k8_3) v8_3, rowT nSign w.heap.size 66 (.slice A9_1 (List.length v9_1) k9_1) v9_1, rowT nSign w.heap.size 66 (.slice A10_1 (List.length v10_1) k10_1) v10_1]) (by kernel_rfl) ?_
    replace h := H.done h
    subst h
    exact ret func9 rfl (vs := [.bool false]) (.tmp (by kernel_rfl) .nil) rfl (fun W S => ⟨rfl, S.below⟩)
  replace h := H.f q3 h
  refine o_set 43 (congrArg Value.bool q3) ?_
  refine p 4 ?_
  refine rend ?_
  refine c_or (!(v11_2.2 == v8_4.2)) (fun q4 => ?_) (fun q4 => ?_)
  · replace h := H.t q4 h
    refine c_seq ?_
    refine r_start ?_
    refine p 1 ?_
    refine rend ?_
    refine frg (fun u => (jk u 0 4 (.bool false :: (jk u 5 53 [])))) (by kernel_rfl) fun u => ?_
    refine keep 4 (its' := [rowT nSign w.heap.size 66 (.slice A8_1 (List.length v8_1) k8_1) v8_1, rowT nSign w.heap.size 66 (.slice A8_3 (List.length v8_3) k8_3) v8_3, rowT nSign w.heap.size 66 (.slice A9_1 (List.length v9_1) k9_1) v9_1, rowT nSign w.heap.size 66 (.slice A10_1 (List.length v10_1) k10_1) v10_1]) (by kernel_rfl) ?_
    replace h := H.done h
    subst h
    exact ret func9 rfl (vs := [.bool false]) (.tmp (by kernel_rfl) .nil) rfl (fun W S => ⟨rfl, S.below⟩)
  replace h := H.f q4 h
  refine c_skip ?_
  refine c_seq ?_
  refine c_seq ?_
  refine r_start ?_
  refine p 2 ?_
  obtain ⟨v14_2, hv14_2, h⟩ := H.call h
  refine xx rfl (e_cr [.slice A0 (List.length a0) k0] (fun v => v) func17 (fun W S => C.l_toSignS W hv14_2 ((s_arg h0).out W S)) fun A14_2 k14_2 => ?_)
  obtain ⟨v14_3, hv14_3, h⟩ := H.call h
  refine xq rfl (y_call [.slice A9_1 (List.length v9_1) k9_1, .slice A14_2 (List.length v14_2) k14_2] (.bool v14_3) func19 (fun W S => C.l_eqSignS W hv14_3 ((s_own 2).out W S) ((s_own 4).out W S))) ?_
  refine p 1 ?_
  refine rend ?_
  refine frg (fun u => (jk u 0 1 (.slice A1 (List.length a1) k1 :: (jk u 2 7 (.slice A10_1 (List.length v10_1) k10_1 :: (jk u 10 42 (.bool (!v14_3) :: (jk u 53 5 [])))))))) (by kernel_rfl) fun u => ?_
  refine keep 5 (its' := [rowT nSign w.heap.size 66 (.slice A8_1 (List.length v8_1) k8_1) v8_1, rowT nSign w.heap.size 66 (.slice A8_3 (List.length v8_3) k8_3) v8_3, rowT nSign w.heap.size 66 (.slice A9_1 (List.length v9_1) k9_1) v9_1, rowT nSign w.heap.size 66 (.slice A10_1 (List.length v10_1) k10_1) v10_1, rowT nSign w.heap.size 66 (.slice A14_2 (List.length v14_2) k14_2) v14_2]) (by kernel_rfl) ?_
  refine c_or (!v14_3) (fun q5 => ?_) (fun q5 => ?_)
  · replace h := H.t q5 h
    refine c_seq ?_
    refine r_start ?_
    refine p 1 ?_
    refine rend ?_
    replace h := H.done h
    subst h
    exact ret func9 rfl (vs := [.bool false]) (.tmp (by kernel_rfl) .nil) rfl (fun W S => ⟨rfl, S.below⟩)
  replace h := H.f q5 h
  refine c_skip ?_
  refine c_seq ?_
  refine c_seq ?_
  refine r_start ?_
  refine p 2 ?_
  obtain ⟨v16_2, hv16_2, h⟩ := H.call h
  refine xx rfl (e_cr [.slice A1 (List.length a1) k1] (fun v => v) func17 (fun W S => C.l_toSignS W hv16_2 ((s_arg h1).out W S)) fun A16_2 k16_2 => ?_)
  obtain ⟨v16_3, hv16_3, h⟩ := H.call h
  refine xq rfl (y_call [.slice A10_1 (List.length v10_1) k10_1, .slice A16_2 (List.length v16_2) k16_2] (.bool v16_3) func19 (fun W S => C.l_eqSignS W hv16_3 ((s_own 3).out W S) ((s_own 5).out W S))) ?_
  refine p 1 ?_
  refine rend ?_
  refine c_or (!v16_3) (fun q6 => ?_) (fun q6 => ?_)
  · replace h := H.t q6 h
    refine c_seq ?_
    refine r_start ?_
    refine p 1 ?_
    refine rend ?_
    replace h := H.done h
    subst h
    exact ret func9 rfl (vs := [.bool false]) (.tmp (by kernel_rfl) .nil) rfl (fun W S => ⟨rfl, S.below⟩)
  replace h := H.f q6 h
  refine c_skip ?_
  refine c_seq ?_
  refine r_start ?_
  refine p 1 ?_
  refine rend ?_
  replace h := H.done h
  subst h
  exact ret func9 rfl (vs := [.bool true]) (.tmp (by kernel_rfl) .nil) rfl (fun W S => ⟨rfl, S.below⟩)
end Go.Proofs.XC
