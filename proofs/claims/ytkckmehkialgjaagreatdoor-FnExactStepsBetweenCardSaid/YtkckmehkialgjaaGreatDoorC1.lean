/- Contracts: each function of the given program, called where its plain function gives an answer, returns just that answer and changes nothing that was there. By AI agents; no person has read it. -/
import Derived.Test.YtkckmehkialgjaaGreatDoorC0
set_option linter.unusedVariables false
set_option linter.unusedSimpArgs false
set_option maxRecDepth 100000
set_option maxHeartbeats 40000000
namespace Go.Proofs.XC
open Go Go.RowKit
open Tryz
theorem C.s_noForm {fu : Nat} {a0 : Sign} {r : Sign} (w : World) (h : X.s_noForm fu a0 = some r) : Calls prog 58 #[.agg (eSign a0).toArray] w (Ret w (.agg (eSign r).toArray)) := by
  refine calls (M := no) (args := [.agg (eSign a0).toArray]) func58 rfl ?_
  replace h : H (X.s_noForm fu a0) (fun o => o = r) := H.mk h
  unfold X.s_noForm at h
  refine c_seq ?_
  refine r_start ?_
  refine xx rfl (x_box (eSign a0) fun g0_0 => ?_)
  refine xx rfl (x_new (eSign zSign) fun g0_1 => ?_)
  refine rend ?_
  refine c_seq ?_
  refine r_start ?_
  refine p 1 ?_
  refine xq rfl (y_load (.agg (eHand a0.Main).toArray) 0 g0_0 0) ?_
  obtain ⟨v1_2, hv1_2, h⟩ := H.call h
  refine xq rfl (y_call [.agg (eHand a0.Main).toArray] (.agg (eHand v1_2).toArray) func105 (fun W S => C.s_noHand W hv1_2)) ?_
  refine p 1 ?_
  refine xx rfl (x_new (eSign zSign) fun g1_4 => ?_)
  refine xx rfl (x_sto 2 g1_4 0 (eSign ({ zSign with Main := v1_2 })) ?_)
  refine rend ?_
  refine c_seq ?_
  refine c_seq ?_
  refine r_start ?_
  refine p 1 ?_
  refine xq rfl (y_load (.bool a0.Two) 0 g0_0 13) ?_
  refine p 1 ?_
  refine rend ?_
  refine c_or (!a0.Two) (fun q1 => ?_) (fun q1 => ?_)
  · replace h := H.t q1 h
    refine c_seq ?_
    refine r_start ?_
    refine xq rfl (y_load (.agg (eSign ({ zSign with Main := v1_2 })).toArray) 2 g1_4 0) ?_
    refine xx rfl (x_sto 1 g0_1 0 (eSign ({ zSign with Main := v1_2 })) ?_)
    refine rend ?_
    replace h := H.done h
    subst h
    exact ret func58 rfl (vs := [.agg (eSign ({ zSign with Main := v1_2 })).toArray]) (.cell 1 g0_1 rfl (by kernel_rfl) (by kernel_rfl) .nil) rfl (fun W S => ⟨rfl, S.below⟩)
  replace h := H.f q1 h
  refine c_skip ?_
  refine c_seq ?_
  refine r_start ?_
  refine p 1 ?_
  refine xx rfl (x_sto 2 g1_4 13 (eSign (⟨v1_2, true, zSign.Other⟩ : Sign)) ?_)
  refine rend ?_
  refine c_seq ?_
  refine r_start ?_
  refine p 1 ?_
  refine xq rfl (y_load (.agg (eHand a0.Other).toArray) 0 g0_0 14) ?_
  obtain ⟨v5_2, hv5_2, h⟩ := H.call h
  refine xq rfl (y_call [.agg (eHand a0.Other).toArray] (.agg (eHand v5_2).toArray) func105 (fun W S => C.s_noHand W hv5_2)) ?_
  refine p 1 ?_
  refine xx rfl (x_sto 2 g1_4 14 (eSign (⟨v1_2, true, v5_2⟩ : Sign)) ?_)
  refine rend ?_
  refine c_seq ?_
  refine c_seq ?_
  refine as_start 12 12 ?_
  refine aq 0 rfl (y_load (.agg (eSign (⟨v1_2, true, v5_2⟩ : Sign)).toArray) 2 g1_4 0) ?_
  obtain ⟨v6_1, hv6_1, h⟩ := H.call h
  refine aq 1 rfl (y_call [.agg (eSign (⟨v1_2, true, v5_2⟩ : Sign)).toArray] (.int .i64 v6_1) func106 (fun W S => C.s_siKind W hv6_1)) ?_
  refine ap 2 2 ?_
  refine br (v6_1 == 1) (fun q2 => ?_) (fun q2 => ?_)
  · replace h := H.t q2 h
    refine a_set 21 (congrArg Value.bool q2) ?_
    refine ap 4 1 ?_
    refine aq 5 rfl (y_load (.agg (eHand v5_2).toArray) 2 g1_4 14) ?_
    obtain ⟨v6_6, hv6_6, h⟩ := H.call h
    refine aq 6 rfl (y_call [.agg (eHand v5_2).toArray] (.string (bs v6_6)) func88 (fun W S => C.s_siText W hv6_6)) ?_
    refine ap 7 1 ?_
    refine aq 8 rfl (y_load (.agg (eHand v1_2).toArray) 2 g1_4 0) ?_
    obtain ⟨v6_9, hv6_9, h⟩ := H.call h
    refine aq 9 rfl (y_call [.agg (eHand v1_2).toArray] (.string (bs v6_9)) func88 (fun W S => C.s_siText W hv6_9)) ?_
    refine ap 10 2 ?_
    refine a_done ?_
    refine c_or (slt v6_6 v6_9) (fun q3 => ?_) (fun q3 => ?_)
    · replace h := H.t q3 h
      refine c_seq ?_
      refine r_start ?_
      refine p 1 ?_
      refine xq rfl (y_load (.agg (eHand v1_2).toArray) 2 g1_4 0) ?_
      refine xx rfl (x_new (eHand zHand) fun g7_2 => ?_)
      refine xx rfl (x_sto 3 g7_2 0 (eHand v1_2) ?_)
      refine rend ?_
      refine c_seq ?_
      refine r_start ?_
      refine p 1 ?_
      refine xq rfl (y_load (.agg (eHand v5_2).toArray) 2 g1_4 14) ?_
      refine p 1 ?_
      refine xx rfl (x_sto 2 g1_4 0 (eSign (⟨v5_2, true, v5_2⟩ : Sign)) ?_)
      refine rend ?_
      refine r_start ?_
      refine xq rfl (y_load (.agg (eHand v1_2).toArray) 3 g7_2 0) ?_
      refine p 1 ?_
      refine xx rfl (x_sto 2 g1_4 14 (eSign (⟨v5_2, true, v1_2⟩ : Sign)) ?_)
      refine rend ?_
      refine c_seq ?_
      refine r_start ?_
      refine xq rfl (y_load (.agg (eSign (⟨v5_2, true, v1_2⟩ : Sign)).toArray) 2 g1_4 0) ?_
      refine xx rfl (x_sto 1 g0_1 0 (eSign (⟨v5_2, true, v1_2⟩ : Sign)) ?_)
      refine rend ?_
      replace h := H.done h
      subst h
      exact ret func58 rfl (vs := [.agg (eSign (⟨v5_2, true, v1_2⟩ : Sign)).toArray]) (.cell 1 g0_1 rfl (by kernel_rfl) (by kernel_rfl) .nil) rfl (fun W S => ⟨rfl, S.below⟩)
    replace h := H.f q3 h
    refine c_skip ?_
    refine c_seq ?_
    refine r_start ?_
    refine xq rfl (y_load (.agg (eSign (⟨v1_2, true, v5_2⟩ : Sign)).toArray) 2 g1_4 0) ?_
    refine xx rfl (x_sto 1 g0_1 0 (eSign (⟨v1_2, true, v5_2⟩ : Sign)) ?_)
    refine rend ?_
    replace h := H.done h
    subst h
    exact ret func58 rfl (vs := [.agg (eSign (⟨v1_2, true, v5_2⟩ : Sign)).toArray]) (.cell 1 g0_1 rfl (by kernel_rfl) (by kernel_rfl) .nil) rfl (fun W S => ⟨rfl, S.below⟩)
  replace h := H.f q2 h
  refine a_set 21 (congrArg Value.bool q2) ?_
  refine ap 4 8 ?_
  refine a_done ?_
  refine c_f (by kernel_rfl) ?_
  refine c_skip ?_
  refine c_seq ?_
  refine r_start ?_
  refine xq rfl (y_load (.agg (eSign (⟨v1_2, true, v5_2⟩ : Sign)).toArray) 2 g1_4 0) ?_
  refine xx rfl (x_sto 1 g0_1 0 (eSign (⟨v1_2, true, v5_2⟩ : Sign)) ?_)
  refine rend ?_
  replace h := H.done h
  subst h
  exact ret func58 rfl (vs := [.agg (eSign (⟨v1_2, true, v5_2⟩ : Sign)).toArray]) (.cell 1 g0_1 rfl (by kernel_rfl) (by kernel_rfl) .nil) rfl (fun W S => ⟨rfl, S.below⟩)
theorem C.l_toSignS {fu : Nat} {a0 : (List Sign)} {A0 : Option Addr} {k0 : Nat} {r : (List Sign)} (w : World) (h : X.l_toSignS fu a0 = some r) (h0 : RdT nSign w (.slice A0 (List.length a0) k0) a0) : Calls prog 17 #[.slice A0 (List.length a0) k0] w (RetR nSign 47 w r (fun v => v)) := by
  refine calls (M := no) (args := [.slice A0 (List.length a0) k0]) func17 rfl ?_
  replace h : H (X.l_toSignS fu a0) (fun o => o = r) := H.mk h
  unfold X.l_toSignS at h
  refine c_seq ?_
  refine r_start ?_
  refine p 1 ?_
  refine rend ?_
  refine c_seq ?_
  refine r_start ?_
  refine p 2 ?_
  obtain ⟨y1_2, hy1_2, h⟩ := H.call h
  refine xx rfl (e_make (el := 47) hy1_2 fun A1_2 k1_2 => ?_)
  refine p 1 ?_
  refine rend ?_
  refine c_seq ?_
  refine c_seq ?_
  refine r_start ?_
  refine p 1 ?_
  refine rend ?_
  refine c_block ?_
  refine joinH (X := ((List Sign) × Option Addr × Nat)) 0 (H.bnd h) (fun ⟨l5, A6, k7⟩ => l5) (fun ⟨l5, A6, k7⟩ => [rowT nSign w.heap.size 47 (.slice A6 (List.length l5) k7) l5]) (fun ⟨l5, A6, k7⟩ u => (jk u 0 3 (.slice A6 (List.length l5) k7 :: (jk u 4 19 [])))) (fun h hj8 => ?_) ?_
  · skip
    refine loopR (X := (Int × (List Sign) × Option Addr × Nat)) (fun ⟨n1, l2, A3, k4⟩ => (n1, l2)) (fun ⟨n1, l2, A3, k4⟩ => [rowT nSign w.heap.size 47 (.slice A3 (List.length l2) k4) l2]) (fun ⟨n1, l2, A3, k4⟩ u => (.slice A0 (List.length a0) k0 :: (jk u 1 2 (.slice A3 (List.length l2) k4 :: .int .i64 n1 :: (jk u 5 18 []))))) (0, y1_2, A1_2, k1_2) h (by kernel_rfl) (by kernel_rfl) ?_
    intro x u h
    obtain ⟨n1, l2, A3, k4⟩ := x
    refine c_seq ?_
    refine c_seq ?_
    refine r_start ?_
    refine p 4 ?_
    refine rend ?_
    refine c_or (decide (n1 < (List.length a0 : Int))) (fun q9 => ?_) (fun q9 => ?_)
    · replace h := H.t q9 h
      refine c_skip ?_
      refine c_seq ?_
      refine c_block ?_
      refine r_start ?_
      refine p 4 ?_
      obtain ⟨y5_4, hy5_4, h⟩ := H.call h
      refine xq rfl (y_idx (e := nSign) (el := 36) hy5_4 (s_arg h0)) ?_
      refine xq rfl (y_el (e := nSign) 0 (.agg (eSign y5_4).toArray) hy5_4 (s_arg h0)) ?_
      obtain ⟨v5_6, hv5_6, h⟩ := H.call h
      refine xq rfl (y_call [.agg (eSign y5_4).toArray] (.agg (eSign v5_6).toArray) func13 (fun W S => C.l_toSign W hv5_6)) ?_
      obtain ⟨y5_7, hy5_7, h⟩ := H.call h
      refine xq rfl (y_idx (e := nSign) (el := 47) hy5_7 (s_own 0)) ?_
      refine xx rfl (e_stel (e := nSign) (b := v5_6) 0 0 (eSign v5_6) hy5_7 (by kernel_rfl) ?_)
      refine o_set 3 (sl_set (A := A3) (c := k4) (l := l2) (n := Int.toNat n1) (b := v5_6)) ?_
      refine rend ?_
      refine c_inb ?_
      refine r_start ?_
      refine p 3 ?_
      refine rend ?_
      replace h := H.inl h
      exact h ((wr (n1 + 1)), (List.set l2 (Int.toNat n1) v5_6), A3, k4) _ _ rfl (by kernel_rfl) (by kernel_rfl)
    replace h := H.f q9 h
    refine cx ?_
    replace h := H.inr h
    exact hj8 (l2, A3, k4) _ _ h (by kernel_rfl) (by kernel_rfl)
  intro x u h
  obtain ⟨l5, A6, k7⟩ := x
  refine c_seq ?_
  refine r_start ?_
  refine p 2 ?_
  refine rend ?_
  replace h := H.done h
  subst h
  exact ret func17 rfl (vs := [.slice A6 (List.length l5) k7]) (.tmp (by kernel_rfl) .nil) rfl (fun W S => ⟨_, _, rfl, S.row 0, S.below⟩)
theorem C.slices_IndexFunc_i_Sign_i_Sign {a0 : (List Sign)} {A0 : Option Addr} {k0 : Nat} {a1 : (Sign → Option Bool)} {g1 : Nat} {cp1 : List Value} {r : Int} (w : World) (h : X.slices_IndexFunc_i_Sign_i_Sign a0 a1 = some r) (h0 : RdT nSign w (.slice A0 (List.length a0) k0) a0) (hg1 : isFn prog g1 = true) (hF1 : ∀ (x0 : Sign) (r : Bool) (W : World), Up w W → a1 x0 = some r → Calls prog g1 (([.agg (eSign x0).toArray] : List Value) ++ cp1).toArray W (Ret W (.bool r))) : Calls prog 215 #[.slice A0 (List.length a0) k0, .func (.func g1) #[] cp1.toArray] w (Ret w (.int .i64 r)) := by
  refine calls (M := no) (args := [.slice A0 (List.length a0) k0, .func (.func g1) #[] cp1.toArray]) func215 rfl ?_
  replace h : H (X.slices_IndexFunc_i_Sign_i_Sign a0 a1) (fun o => o = r) := H.mk h
  unfold X.slices_IndexFunc_i_Sign_i_Sign at h
  refine c_seq ?_
  refine r_start ?_
  refine p 1 ?_
  refine rend ?_
  refine c_seq ?_
  refine c_seq ?_
  refine r_start ?_
  refine p 3 ?_
  refine rend ?_
  refine c_block ?_
  refine joinE (X := Unit) 0 (H.or h) (fun (x : Unit) => x) (fun _ => []) (fun _ u => (jk u 0 19 [])) (fun h hj1 => ?_) ?_
  · skip
    refine rangeR (X := Unit) (s_arg h0) (fun (x : Unit) => x) (fun _ => []) (fun (j2 : Nat) _ u => (.slice A0 (List.length a0) k0 :: .func (.func g1) #[] cp1.toArray :: (jk u 2 5 (.int .i64 (List.length a0 : Int) :: .int .i64 (j2 : Int) :: (jk u 9 10 []))))) () h (by kernel_rfl) (by kernel_rfl) ?_ ?_
    · intro j2 x u x3 q4 hg5 hw6 h
      refine c_seq ?_
      refine r_start ?_
      refine p 1 ?_
      refine rend ?_
      refine c_seq ?_
      refine c_yes q4 ?_
      refine c_skip ?_
      refine c_seq ?_
      refine c_block ?_
      refine c_seq ?_
      refine r_start ?_
      refine p 2 ?_
      refine rend ?_
      refine c_seq ?_
      refine r_start ?_
      refine p 3 ?_
      refine xq rfl (y_idx (e := nSign) (el := 47) hg5 (s_arg h0)) ?_
      refine xq rfl (y_el (e := nSign) 0 (.agg (eSign x3).toArray) hg5 (s_arg h0)) ?_
      obtain ⟨v4_5, hv4_5, h⟩ := H.call h
      refine xq rfl (y_cf cp1 [.agg (eSign x3).toArray] (.bool v4_5) hg1 (fun W S => hF1 _ _ W S.below hv4_5)) ?_
      refine rend ?_
      refine c_or v4_5 (fun q7 => ?_) (fun q7 => ?_)
      · replace h := H.t q7 h
        refine c_seq ?_
        refine r_start ?_
        refine p 2 ?_
        refine rend ?_
        replace h := H.inr h
        replace h := H.done h
        subst h
        exact ret func215 rfl (vs := [.int .i64 (j2 : Int)]) (.tmp (by kernel_rfl) .nil) rfl (fun W S => ⟨rfl, S.below⟩)
      replace h := H.f q7 h
      refine c_skip ?_
      refine c_inb ?_
      refine r_start ?_
      refine p 2 ?_
      refine rend ?_
      refine c_set 8 (ci hw6) ?_
      replace h := H.inl h
      exact h () _ _ rfl (by kernel_rfl) (by kernel_rfl)
    · intro x u q4 h
      refine c_seq ?_
      refine r_start ?_
      refine p 1 ?_
      refine rend ?_
      refine c_seq ?_
      refine c_no q4 ?_
      refine cx ?_
      replace h := H.done h
      exact hj1 () _ _ h (by kernel_rfl) (by kernel_rfl)
  intro x u h
  refine c_seq ?_
  refine r_start ?_
  refine p 1 ?_
  refine rend ?_
  replace h := H.done h
  subst h
  exact ret func215 rfl (vs := [.int .i64 (-1)]) (.tmp (by kernel_rfl) .nil) rfl (fun W S => ⟨rfl, S.below⟩)
theorem C.slices_ContainsFunc_i_Sign_i_Sign {a0 : (List Sign)} {A0 : Option Addr} {k0 : Nat} {a1 : (Sign → Option Bool)} {g1 : Nat} {cp1 : List Value} {r : Bool} (w : World) (h : X.slices_ContainsFunc_i_Sign_i_Sign a0 a1 = some r) (h0 : RdT nSign w (.slice A0 (List.length a0) k0) a0) (hg1 : isFn prog g1 = true) (hF1 : ∀ (x0 : Sign) (r : Bool) (W : World), Up w W → a1 x0 = some r → Calls prog g1 (([.agg (eSign x0).toArray] : List Value) ++ cp1).toArray W (Ret W (.bool r))) : Calls prog 163 #[.slice A0 (List.length a0) k0, .func (.func g1) #[] cp1.toArray] w (Ret w (.bool r)) := by
  refine calls (M := no) (args := [.slice A0 (List.length a0) k0, .func (.func g1) #[] cp1.toArray]) func163 rfl ?_
  replace h : H (X.slices_ContainsFunc_i_Sign_i_Sign a0 a1) (fun o => o = r) := H.mk h
  unfold X.slices_ContainsFunc_i_Sign_i_Sign at h
  refine c_seq ?_
  refine r_start ?_
  refine p 1 ?_
  refine rend ?_
  refine c_seq ?_
  refine r_start ?_
  refine p 2 ?_
  obtain ⟨v1_2, hv1_2, h⟩ := H.call h
  refine xq rfl (y_call [.slice A0 (List.length a0) k0, .func (.func g1) #[] cp1.toArray] (.int .i64 v1_2) func215 (fun W S => C.slices_IndexFunc_i_Sign_i_Sign W hv1_2 ((s_arg h0).out W S) hg1 (fun x0_2 r W2 hu2 hx2 => hF1 x0_2 r W2 (Up.trans S.below hu2) hx2))) ?_
  refine p 2 ?_
  refine rend ?_
  replace h := H.done h
  subst h
  exact ret func163 rfl (vs := [.bool (decide (v1_2 ≥ 0))]) (.tmp (by kernel_rfl) .nil) rfl (fun W S => ⟨rfl, S.below⟩)
theorem C.i_allOf_i_Sign_1 {a0 : Sign} {a1 : (Sign → Option Bool)} {g1 : Nat} {cp1 : List Value} {p1 : Nat} {r : Bool} (w : World) (h : X.i_allOf_i_Sign_1 a1 a0 = some r) (hg1 : isFn prog g1 = true) (hF1 : ∀ (x0 : Sign) (r : Bool) (W : World), Up w W → a1 x0 = some r → Calls prog g1 (([.agg (eSign x0).toArray] : List Value) ++ cp1).toArray W (Ret W (.bool r))) (hp1 : w.heap[p1]? = some (.cells ([.func (.func g1) #[] cp1.toArray] : List Value).toArray 80 (0, 0))) : Calls prog 164 #[.agg (eSign a0).toArray, .pointer (some ⟨p1, 0, none⟩)] w (Ret w (.bool r)) := by
  refine calls (M := no) (args := [.agg (eSign a0).toArray, .pointer (some ⟨p1, 0, none⟩)]) func164 rfl ?_
  replace h : H (X.i_allOf_i_Sign_1 a1 a0) (fun o => o = r) := H.mk h
  unfold X.i_allOf_i_Sign_1 at h
  refine c_seq ?_
  refine r_start ?_
  refine xx rfl (x_box (eSign a0) fun g0_0 => ?_)
  refine p 1 ?_
  refine rend ?_
  refine c_seq ?_
  refine r_start ?_
  refine xq rfl (y_ld0 (.func (.func g1) #[] cp1.toArray) p1 0 hp1) ?_
  refine xq rfl (y_load (.agg (eSign a0).toArray) 0 g0_0 0) ?_
  obtain ⟨v1_2, hv1_2, h⟩ := H.call h
  refine xq rfl (y_cf cp1 [.agg (eSign a0).toArray] (.bool v1_2) hg1 (fun W S => hF1 _ _ W S.below hv1_2)) ?_
  refine p 2 ?_
  refine rend ?_
  replace h := H.done h
  subst h
  exact ret func164 rfl (vs := [.bool (!v1_2)]) (.tmp (by kernel_rfl) .nil) rfl (fun W S => ⟨rfl, S.below⟩)
theorem C.i_allOf_i_Sign {a0 : (List Sign)} {A0 : Option Addr} {k0 : Nat} {a1 : (Sign → Option Bool)} {g1 : Nat} {cp1 : List Value} {r : Bool} (w : World) (h : X.i_allOf_i_Sign a0 a1 = some r) (h0 : RdT nSign w (.slice A0 (List.length a0) k0) a0) (hg1 : isFn prog g1 = true) (hF1 : ∀ (x0 : Sign) (r : Bool) (W : World), Up w W → a1 x0 = some r → Calls prog g1 (([.agg (eSign x0).toArray] : List Value) ++ cp1).toArray W (Ret W (.bool r))) : Calls prog 99 #[.slice A0 (List.length a0) k0, .func (.func g1) #[] cp1.toArray] w (Ret w (.bool r)) := by
  refine calls (M := no) (args := [.slice A0 (List.length a0) k0, .func (.func g1) #[] cp1.toArray]) func99 rfl ?_
  replace h : H (X.i_allOf_i_Sign a0 a1) (fun o => o = r) := H.mk h
  unfold X.i_allOf_i_Sign at h
  refine c_seq ?_
  refine r_start ?_
  refine xx rfl (x_box [.func (.func g1) #[] cp1.toArray] fun g0_0 => ?_)
  refine p 1 ?_
  refine rend ?_
  refine c_seq ?_
  refine r_start ?_
  refine p 2 ?_
  obtain ⟨v1_2, hv1_2, h⟩ := H.call h
  refine xq rfl (y_call [.slice A0 (List.length a0) k0, .func (.func 164) #[] #[.pointer (some ⟨g0_0, 0, none⟩)]] (.bool v1_2) func163 (fun W S => C.slices_ContainsFunc_i_Sign_i_Sign W hv1_2 ((s_arg h0).out W S) (isFn_of func164) (fun x0_2 r W2 hu2 hx2 => C.i_allOf_i_Sign_1 W2 hx2 hg1 (fun x0_3 r W3 hu3 hx3 => hF1 x0_3 r W3 (Up.trans (Up.trans S.below hu2) hu3) hx3) (bx_up (S.bx 0) hu2)))) ?_
  refine p 2 ?_
  refine rend ?_
  replace h := H.done h
  subst h
  exact ret func99 rfl (vs := [.bool (!v1_2)]) (.tmp (by kernel_rfl) .nil) rfl (fun W S => ⟨rfl, S.below⟩)
theorem C.i_areSigns {fu : Nat} {a0 : (List Sign)} {A0 : Option Addr} {k0 : Nat} {a1 : Int} {r : Bool} (w : World) (h : X.i_areSigns fu a0 a1 = some r) (h0 : RdT nSign w (.slice A0 (List.length a0) k0) a0) : Calls prog 48 #[.slice A0 (List.length a0) k0, .int .i64 a1] w (Ret w (.bool r)) := by
  refine calls (M := no) (args := [.slice A0 (List.length a0) k0, .int .i64 a1]) func48 rfl ?_
  replace h : H (X.i_areSigns fu a0 a1) (fun o => o = r) := H.mk h
  unfold X.i_areSigns at h
  refine c_seq ?_
  refine r_start ?_
  refine p 1 ?_
  refine rend ?_
  refine c_seq ?_
  refine r_start ?_
  refine p 5 ?_
  refine br (decide ((List.length a0 : Int) ≤ a1)) (fun q1 => ?_) (fun q1 => ?_)
  · replace h := H.t q1 h
    refine o_set 9 (congrArg Value.bool q1) ?_
    refine p 1 ?_
    obtain ⟨v1_6, hv1_6, h⟩ := H.call h
    refine xq rfl (y_call [.slice A0 (List.length a0) k0, .func (.func 42) #[] #[]] (.bool v1_6) func99 (fun W S => C.i_allOf_i_Sign W hv1_6 ((s_arg h0).out W S) (isFn_of func42) (fun x0_2 r W2 hu2 hx2 => C.i_IsSign W2 hx2))) ?_
    refine p 2 ?_
    refine rend ?_
    replace h := H.done h
    subst h
    exact ret func48 rfl (vs := [.bool v1_6]) (.tmp (by kernel_rfl) .nil) rfl (fun W S => ⟨rfl, S.below⟩)
  replace h := H.f q1 h
  refine o_set 9 (congrArg Value.bool q1) ?_
  refine p 4 ?_
  refine rend ?_
  replace h := H.done h
  subst h
  exact ret func48 rfl (vs := [.bool false]) (.tmp (by kernel_rfl) .nil) rfl (fun W S => ⟨rfl, S.below⟩)
theorem C.i_those_i_Sign {a0 : (List Sign)} {A0 : Option Addr} {k0 : Nat} {a1 : (Sign → Option Bool)} {g1 : Nat} {cp1 : List Value} {r : (List Int)} (w : World) (h : X.i_those_i_Sign a0 a1 = some r) (h0 : RdT nSign w (.slice A0 (List.length a0) k0) a0) (hg1 : isFn prog g1 = true) (hF1 : ∀ (x0 : Sign) (r : Bool) (W : World), Up w W → a1 x0 = some r → Calls prog g1 (([.agg (eSign x0).toArray] : List Value) ++ cp1).toArray W (Ret W (.bool r))) : Calls prog 101 #[.slice A0 (List.length a0) k0, .func (.func g1) #[] cp1.toArray] w (RetR (eI .i64) 3 w r (fun v => v)) := by
  refine calls (M := no) (args := [.slice A0 (List.length a0) k0, .func (.func g1) #[] cp1.toArray]) func101 rfl ?_
  replace h : H (X.i_those_i_Sign a0 a1) (fun o => o = r) := H.mk h
  unfold X.i_those_i_Sign at h
  refine c_seq ?_
  refine r_start ?_
  refine p 1 ?_
  refine rend ?_
  refine c_seq ?_
  refine r_start ?_
  refine p 1 ?_
  refine rend ?_
  refine c_seq ?_
  refine c_seq ?_
  refine r_start ?_
  refine p 3 ?_
  refine rend ?_
  refine c_block ?_
  refine c_nil (eI .i64) 3 ?_
  refine joinH (X := ((List Int) × Option Addr × Nat)) 0 (H.bnd h) (fun ⟨l4, A5, k6⟩ => l4) (fun ⟨l4, A5, k6⟩ => [rowT (eI .i64) w.heap.size 3 (.slice A5 (List.length l4) k6) l4]) (fun ⟨l4, A5, k6⟩ u => (jk u 0 5 (.slice A5 (List.length l4) k6 :: (jk u 6 18 [])))) (fun h hj7 => ?_) ?_
  · skip
    refine rangeR (X := ((List Int) × Option Addr × Nat)) (s_arg h0) (fun ⟨l1, A2, k3⟩ => l1) (fun ⟨l1, A2, k3⟩ => [rowT (eI .i64) w.heap.size 3 (.slice A2 (List.length l1) k3) l1]) (fun (j8 : Nat) ⟨l1, A2, k3⟩ u => (jk u 0 1 (.func (.func g1) #[] cp1.toArray :: (jk u 2 3 (.slice A2 (List.length l1) k3 :: (jk u 6 2 (.slice A0 (List.length a0) k0 :: .int .i64 (List.length a0 : Int) :: .int .i64 (j8 : Int) :: (jk u 11 13 [])))))))) (([] : List Int), none, 0) h (by kernel_rfl) (by kernel_rfl) ?_ ?_
    · intro j8 x u x9 q10 hg11 hw12 h
      obtain ⟨l1, A2, k3⟩ := x
      refine c_seq ?_
      refine r_start ?_
      refine p 1 ?_
      refine rend ?_
      refine c_seq ?_
      refine c_yes q10 ?_
      refine c_skip ?_
      refine c_seq ?_
      refine c_block ?_
      refine c_seq ?_
      refine r_start ?_
      refine p 1 ?_
      refine xq rfl (y_idx (e := nSign) (el := 47) hg11 (s_arg h0)) ?_
      refine xq rfl (y_el (e := nSign) 0 (.agg (eSign x9).toArray) hg11 (s_arg h0)) ?_
      refine xx rfl (x_new (eSign zSign) fun g4_3 => ?_)
      refine p 1 ?_
      refine xx rfl (x_sto 1 g4_3 0 (eSign x9) ?_)
      refine rend ?_
      refine c_seq ?_
      refine r_start ?_
      refine p 1 ?_
      refine xq rfl (y_load (.agg (eSign x9).toArray) 1 g4_3 0) ?_
      obtain ⟨v5_2, hv5_2, h⟩ := H.call h
      refine xq rfl (y_cf cp1 [.agg (eSign x9).toArray] (.bool v5_2) hg1 (fun W S => hF1 _ _ W S.below hv5_2)) ?_
      refine rend ?_
      refine c_or v5_2 (fun q13 => ?_) (fun q13 => ?_)
      · replace h := H.t q13 h
        refine r_start ?_
        refine p 2 ?_
        refine xx rfl (e_lit (e := (eI .i64)) (el := 3) [.int .i64 (j8 : Int)] ([(j8 : Int)] : List Int) fun A6_2 k6_2 => ?_)
        obtain ⟨y6_3, hy6_3, h⟩ := H.call h
        refine xx rfl (e_app 0 hy6_3 (s_own 2) fun A6_3 k6_3 => ?_)
        refine p 1 ?_
        refine rend ?_
        refine c_inb ?_
        refine r_start ?_
        refine p 2 ?_
        refine rend ?_
        refine c_set 10 (ci hw12) ?_
        replace h := H.inl h
        exact h (y6_3, A6_3, k6_3) _ _ rfl (by kernel_rfl) (by kernel_rfl)
      replace h := H.f q13 h
      refine c_skip ?_
      refine c_inb ?_
      refine r_start ?_
      refine p 2 ?_
      refine rend ?_
      refine c_set 10 (ci hw12) ?_
      replace h := H.inl h
      exact h (l1, A2, k3) _ _ rfl (by kernel_rfl) (by kernel_rfl)
    · intro x u q10 h
      obtain ⟨l1, A2, k3⟩ := x
      refine c_seq ?_
      refine r_start ?_
      refine p 1 ?_
      refine rend ?_
      refine c_seq ?_
      refine c_no q10 ?_
      refine cx ?_
      replace h := H.done h
      exact hj7 (l1, A2, k3) _ _ h (by kernel_rfl) (by kernel_rfl)
  intro x u h
  obtain ⟨l4, A5, k6⟩ := x
  refine c_seq ?_
  refine r_start ?_
  refine p 2 ?_
  refine rend ?_
  replace h := H.done h
  subst h
  exact ret func101 rfl (vs := [.slice A5 (List.length l4) k6]) (.tmp (by kernel_rfl) .nil) rfl (fun W S => ⟨_, _, rfl, S.row 0, S.below⟩)
theorem C.i_moveOf {fu : Nat} {a0 : Str} {r : (Move × Bool)} (w : World) (h : X.i_moveOf fu a0 = some r) : Calls prog 219 #[.string (bs a0)] w (Ret w (.tuple #[.agg (eMove r.1).toArray, .bool r.2])) := by
  refine calls (M := no) (args := [.string (bs a0)]) func219 rfl ?_
  replace h : H (X.i_moveOf fu a0) (fun o => o = r) := H.mk h
  unfold X.i_moveOf at h
  refine c_seq ?_
  refine r_start ?_
  refine xx rfl (x_new (eMove zMove) fun g0_0 => ?_)
  refine p 1 ?_
  refine rend ?_
  refine c_seq ?_
  refine c_seq ?_
  refine r_start ?_
  refine p 2 ?_
  refine rend ?_
  refine c_or (seq a0 ([] : Str)) (fun q1 => ?_) (fun q1 => ?_)
  · replace h := H.t q1 h
    refine c_seq ?_
    refine r_start ?_
    refine p 1 ?_
    refine xx rfl (x_sto 0 g0_0 0 (eMove ({ zMove with Repeat := 1 })) ?_)
    refine p 1 ?_
    refine rend ?_
    replace h := H.done h
    subst h
    exact ret func219 rfl (vs := [.agg (eMove ({ zMove with Repeat := 1 })).toArray, .bool true]) (.cell 0 g0_0 rfl (by kernel_rfl) (by kernel_rfl) (.tmp (by kernel_rfl) .nil)) rfl (fun W S => ⟨rfl, S.below⟩)
  replace h := H.f q1 h
  refine c_skip ?_
  refine c_seq ?_
  refine c_seq ?_
  refine r_start ?_
  refine p 1 ?_
  refine rend ?_
  refine c_block ?_
  refine joinE (X := Unit) 0 (H.or h) (fun (x : Unit) => x) (fun _ => [box g0_0 43 (eMove zMove)]) (fun _ u => (jk u 0 2 (.pointer (some ⟨g0_0, 0, none⟩) :: (jk u 3 30 [])))) (fun h hj3 => ?_) ?_
  · skip
    refine loopR (X := Int) (fun (x : Int) => x) (fun n2 => [box g0_0 43 (eMove zMove)]) (fun n2 u => (.string (bs a0) :: (jk u 1 1 (.pointer (some ⟨g0_0, 0, none⟩) :: (jk u 3 1 (.int .i64 n2 :: (jk u 5 28 []))))))) 3 h (by kernel_rfl) (by kernel_rfl) ?_
    intro n2 u h
    refine c_seq ?_
    refine c_seq ?_
    refine r_start ?_
    refine p 2 ?_
    refine rend ?_
    refine c_or (decide (n2 ≥ 1)) (fun q4 => ?_) (fun q4 => ?_)
    · replace h := H.t q4 h
      refine c_skip ?_
      refine c_seq ?_
      refine c_block ?_
      refine c_seq ?_
      refine r_start ?_
      refine p 4 ?_
      obtain ⟨y6_4, hy6_4, h⟩ := H.call h
      refine xq rfl (y_div hy6_4) ?_
      obtain ⟨y6_5, hy6_5, h⟩ := H.call h
      refine xq rfl (y_cut hy6_5) ?_
      refine p 1 ?_
      refine rend ?_
      refine c_seq ?_
      refine r_start ?_
      refine p 4 ?_
      refine br (decide ((List.length y6_5 : Int) ≤ 6)) (fun q5 => ?_) (fun q5 => ?_)
      · replace h := H.t q5 h
        refine o_set 22 (congrArg Value.bool q5) ?_
        refine p 2 ?_
        obtain ⟨v7_6, hv7_6, h⟩ := H.call h
        refine xq rfl (y_call [.string (bs y6_5), .int .i64 n2] (.string (bs v7_6)) func197 (fun W S => C.strings_Repeat W hv7_6)) ?_
        refine p 3 ?_
        refine rend ?_
        refine c_or (seq v7_6 a0) (fun q6 => ?_) (fun q6 => ?_)
        · replace h := H.t q6 h
          refine c_seq ?_
          refine r_start ?_
          refine p 3 ?_
          refine xx rfl (x_sto 0 g0_0 0 (eMove (⟨y6_5, n2⟩ : Move)) ?_)
          refine p 1 ?_
          refine rend ?_
          replace h := H.inr h
          replace h := H.done h
          subst h
          exact ret func219 rfl (vs := [.agg (eMove (⟨y6_5, n2⟩ : Move)).toArray, .bool true]) (.cell 0 g0_0 rfl (by kernel_rfl) (by kernel_rfl) (.tmp (by kernel_rfl) .nil)) rfl (fun W S => ⟨rfl, S.below⟩)
        replace h := H.f q6 h
        refine c_skip ?_
        refine c_inb ?_
        refine r_start ?_
        refine p 3 ?_
        refine rend ?_
        replace h := H.inl h
        exact h (wr (n2 - 1)) _ _ rfl (by kernel_rfl) (by kernel_rfl)
      replace h := H.f q5 h
      refine o_set 22 (congrArg Value.bool q5) ?_
      refine p 6 ?_
      refine rend ?_
      refine c_f (by kernel_rfl) ?_
      refine c_skip ?_
      refine c_inb ?_
      refine r_start ?_
      refine p 3 ?_
      refine rend ?_
      replace h := H.inl h
      exact h (wr (n2 - 1)) _ _ rfl (by kernel_rfl) (by kernel_rfl)
    replace h := H.f q4 h
    refine cx ?_
    replace h := H.inr h
    exact hj3 () _ _ h (by kernel_rfl) (by kernel_rfl)
  intro x u h
  refine c_seq ?_
  refine r_start ?_
  refine p 1 ?_
  refine xx rfl (x_sto 0 g0_0 0 (eMove zMove) ?_)
  refine p 1 ?_
  refine rend ?_
  replace h := H.done h
  subst h
  exact ret func219 rfl (vs := [.agg (eMove zMove).toArray, .bool false]) (.cell 0 g0_0 rfl (by kernel_rfl) (by kernel_rfl) (.tmp (by kernel_rfl) .nil)) rfl (fun W S => ⟨rfl, S.below⟩)
theorem C.i_Move_normal {fu : Nat} {a0 : Move} {r : Move} (w : World) (h : X.i_Move_normal fu a0 = some r) : Calls prog 173 #[.agg (eMove a0).toArray] w (Ret w (.agg (eMove r).toArray)) := by
  refine calls (M := no) (args := [.agg (eMove a0).toArray]) func173 rfl ?_
  replace h : H (X.i_Move_normal fu a0) (fun o => o = r) := H.mk h
  unfold X.i_Move_normal at h
  refine c_seq ?_
  refine r_start ?_
  refine xx rfl (x_box (eMove a0) fun g0_0 => ?_)
  refine xx rfl (x_new (eMove zMove) fun g0_1 => ?_)
  refine rend ?_
  refine c_seq ?_
  refine r_start ?_
  refine xq rfl (y_load (.agg (eMove a0).toArray) 0 g0_0 0) ?_
  obtain ⟨v1_1, hv1_1, h⟩ := H.call h
  refine xq rfl (y_call [.agg (eMove a0).toArray] (.string (bs v1_1)) func140 (fun W S => C.i_Move_all W hv1_1)) ?_
  obtain ⟨v1_2, hv1_2, h⟩ := H.call h
  refine xq rfl (y_call [.string (bs v1_1)] (.tuple #[.agg (eMove v1_2.1).toArray, .bool v1_2.2]) func219 (fun W S => C.i_moveOf W hv1_2)) ?_
  refine p 3 ?_
  refine xx rfl (x_new (eMove zMove) fun g1_6 => ?_)
  refine xx rfl (x_sto 2 g1_6 0 (eMove v1_2.1) ?_)
  refine p 1 ?_
  refine rend ?_
  refine c_seq ?_
  refine r_start ?_
  refine xq rfl (y_load (.agg (eMove v1_2.1).toArray) 2 g1_6 0) ?_
  refine xx rfl (x_sto 1 g0_1 0 (eMove v1_2.1) ?_)
  refine rend ?_
  replace h := H.done h
  subst h
  exact ret func173 rfl (vs := [.agg (eMove v1_2.1).toArray]) (.cell 1 g0_1 rfl (by kernel_rfl) (by kernel_rfl) .nil) rfl (fun W S => ⟨rfl, S.below⟩)
theorem C.i_Hand_normal {fu : Nat} {a0 : Hand} {r : Hand} (w : World) (h : X.i_Hand_normal fu a0 = some r) : Calls prog 107 #[.agg (eHand a0).toArray] w (Ret w (.agg (eHand r).toArray)) := by
  refine calls (M := no) (args := [.agg (eHand a0).toArray]) func107 rfl ?_
  replace h : H (X.i_Hand_normal fu a0) (fun o => o = r) := H.mk h
  unfold X.i_Hand_normal at h
  refine c_seq ?_
  refine r_start ?_
  refine xx rfl (x_box (eHand a0) fun g0_0 => ?_)
  refine xx rfl (x_new (eHand zHand) fun g0_1 => ?_)
  refine rend ?_
  refine c_seq ?_
  refine r_start ?_
  refine p 1 ?_
  refine xq rfl (y_load (.agg (eMove a0.Move).toArray) 0 g0_0 11) ?_
  obtain ⟨v1_2, hv1_2, h⟩ := H.call h
  refine xq rfl (y_call [.agg (eMove a0.Move).toArray] (.agg (eMove v1_2).toArray) func173 (fun W S => C.i_Move_normal W hv1_2)) ?_
  refine p 1 ?_
  refine xx rfl (x_sto 0 g0_0 11 (eHand ({ a0 with Move := v1_2 })) ?_)
  refine rend ?_
  refine c_seq ?_
  refine r_start ?_
  refine xq rfl (y_load (.agg (eHand ({ a0 with Move := v1_2 })).toArray) 0 g0_0 0) ?_
  refine xx rfl (x_sto 1 g0_1 0 (eHand ({ a0 with Move := v1_2 })) ?_)
  refine rend ?_
  replace h := H.done h
  subst h
  exact ret func107 rfl (vs := [.agg (eHand ({ a0 with Move := v1_2 })).toArray]) (.cell 1 g0_1 rfl (by kernel_rfl) (by kernel_rfl) .nil) rfl (fun W S => ⟨rfl, S.below⟩)
theorem C.i_Sign_kind {a0 : Sign} {r : Int} (w : World) (h : X.i_Sign_kind a0 = some r) : Calls prog 108 #[.agg (eSign a0).toArray] w (Ret w (.int .i64 r)) := by
  refine calls (M := no) (args := [.agg (eSign a0).toArray]) func108 rfl ?_
  replace h : H (X.i_Sign_kind a0) (fun o => o = r) := H.mk h
  unfold X.i_Sign_kind at h
  refine c_seq ?_
  refine r_start ?_
  refine xx rfl (x_box (eSign a0) fun g0_0 => ?_)
  refine p 1 ?_
  refine rend ?_
  refine c_seq ?_
  refine c_block ?_
  refine c_seq ?_
  refine r_start ?_
  refine p 1 ?_
  refine xq rfl (y_load (.bool a0.Two) 0 g0_0 13) ?_
  refine p 2 ?_
  refine rend ?_
  refine c_or (!a0.Two) (fun q1 => ?_) (fun q1 => ?_)
  · replace h := H.t q1 h
    refine c_seq ?_
    refine r_start ?_
    refine p 1 ?_
    refine rend ?_
    replace h := H.done h
    subst h
    exact ret func108 rfl (vs := [.int .i64 0]) (.tmp (by kernel_rfl) .nil) rfl (fun W S => ⟨rfl, S.below⟩)
  replace h := H.f q1 h
  refine c_seq ?_
  refine r_start ?_
  refine p 1 ?_
  refine xq rfl (y_load (.agg (eHand a0.Other).toArray) 0 g0_0 14) ?_
  obtain ⟨v3_2, hv3_2, h⟩ := H.call h
  refine xq rfl (y_call [.agg (eHand a0.Other).toArray] (.bool v3_2) func136 (fun W S => C.i_Hand_moves W hv3_2)) ?_
  refine p 1 ?_
  refine rend ?_
  refine c_or v3_2 (fun q2 => ?_) (fun q2 => ?_)
  · replace h := H.t q2 h
    refine c_seq ?_
    refine r_start ?_
    refine p 1 ?_
    refine rend ?_
    replace h := H.done h
    subst h
    exact ret func108 rfl (vs := [.int .i64 1]) (.tmp (by kernel_rfl) .nil) rfl (fun W S => ⟨rfl, S.below⟩)
  replace h := H.f q2 h
  refine c_seq ?_
  refine r_start ?_
  refine p 2 ?_
  refine xq rfl (y_load (.agg (eShape a0.Other.Shape).toArray) 0 g0_0 14) ?_
  refine p 2 ?_
  refine xq rfl (y_load (.agg (eShape a0.Main.Shape).toArray) 0 g0_0 0) ?_
  refine p 2 ?_
  refine rend ?_
  refine c_or (qShape a0.Other.Shape a0.Main.Shape) (fun q3 => ?_) (fun q3 => ?_)
  · replace h := H.t q3 h
    refine c_seq ?_
    refine r_start ?_
    refine p 1 ?_
    refine rend ?_
    replace h := H.done h
    subst h
    exact ret func108 rfl (vs := [.int .i64 2]) (.tmp (by kernel_rfl) .nil) rfl (fun W S => ⟨rfl, S.below⟩)
  replace h := H.f q3 h
  refine c_skip ?_
  refine c_inb ?_
  refine c_seq ?_
  refine r_start ?_
  refine p 1 ?_
  refine rend ?_
  replace h := H.done h
  subst h
  exact ret func108 rfl (vs := [.int .i64 3]) (.tmp (by kernel_rfl) .nil) rfl (fun W S => ⟨rfl, S.below⟩)
theorem C.i_Sign_normal {fu : Nat} {a0 : Sign} {r : Sign} (w : World) (h : X.i_Sign_normal fu a0 = some r) : Calls prog 61 #[.agg (eSign a0).toArray] w (Ret w (.agg (eSign r).toArray)) := by
  refine calls (M := no) (args := [.agg (eSign a0).toArray]) func61 rfl ?_
  replace h : H (X.i_Sign_normal fu a0) (fun o => o = r) := H.mk h
  unfold X.i_Sign_normal at h
  refine c_seq ?_
  refine r_start ?_
  refine xx rfl (x_box (eSign a0) fun g0_0 => ?_)
  refine xx rfl (x_new (eSign zSign) fun g0_1 => ?_)
  refine rend ?_
  refine c_seq ?_
  refine r_start ?_
  refine p 1 ?_
  refine xq rfl (y_load (.agg (eHand a0.Main).toArray) 0 g0_0 0) ?_
  obtain ⟨v1_2, hv1_2, h⟩ := H.call h
  refine xq rfl (y_call [.agg (eHand a0.Main).toArray] (.agg (eHand v1_2).toArray) func107 (fun W S => C.i_Hand_normal W hv1_2)) ?_
  refine p 1 ?_
  refine xx rfl (x_sto 0 g0_0 0 (eSign ({ a0 with Main := v1_2 })) ?_)
  refine rend ?_
  refine c_seq ?_
  refine c_seq ?_
  refine r_start ?_
  refine p 1 ?_
  refine xq rfl (y_load (.bool a0.Two) 0 g0_0 13) ?_
  refine p 1 ?_
  refine rend ?_
  refine c_or (!a0.Two) (fun q1 => ?_) (fun q1 => ?_)
  · replace h := H.t q1 h
    refine c_seq ?_
    refine r_start ?_
    refine xq rfl (y_load (.agg (eSign ({ a0 with Main := v1_2 })).toArray) 0 g0_0 0) ?_
    refine xx rfl (x_sto 1 g0_1 0 (eSign ({ a0 with Main := v1_2 })) ?_)
    refine rend ?_
    replace h := H.done h
    subst h
    exact ret func61 rfl (vs := [.agg (eSign ({ a0 with Main := v1_2 })).toArray]) (.cell 1 g0_1 rfl (by kernel_rfl) (by kernel_rfl) .nil) rfl (fun W S => ⟨rfl, S.below⟩)
  replace h := H.f q1 h
  refine c_skip ?_
  refine c_seq ?_
  refine r_start ?_
  refine p 1 ?_
  refine xq rfl (y_load (.agg (eHand a0.Other).toArray) 0 g0_0 14) ?_
  obtain ⟨v4_2, hv4_2, h⟩ := H.call h
  refine xq rfl (y_call [.agg (eHand a0.Other).toArray] (.agg (eHand v4_2).toArray) func107 (fun W S => C.i_Hand_normal W hv4_2)) ?_
  refine p 1 ?_
  refine xx rfl (x_sto 0 g0_0 14 (eSign (⟨v1_2, a0.Two, v4_2⟩ : Sign)) ?_)
  refine rend ?_
  refine c_seq ?_
  refine c_seq ?_
  refine as_start 12 12 ?_
  refine aq 0 rfl (y_load (.agg (eSign (⟨v1_2, a0.Two, v4_2⟩ : Sign)).toArray) 0 g0_0 0) ?_
  obtain ⟨v5_1, hv5_1, h⟩ := H.call h
  refine aq 1 rfl (y_call [.agg (eSign (⟨v1_2, a0.Two, v4_2⟩ : Sign)).toArray] (.int .i64 v5_1) func108 (fun W S => C.i_Sign_kind W hv5_1)) ?_
  refine ap 2 2 ?_
  refine br (v5_1 == 1) (fun q2 => ?_) (fun q2 => ?_)
  · replace h := H.t q2 h
    refine a_set 18 (congrArg Value.bool q2) ?_
    refine ap 4 1 ?_
    refine aq 5 rfl (y_load (.agg (eHand v4_2).toArray) 0 g0_0 14) ?_
    obtain ⟨v5_6, hv5_6, h⟩ := H.call h
    refine aq 6 rfl (y_call [.agg (eHand v4_2).toArray] (.string (bs v5_6)) func94 (fun W S => C.i_Hand_text W hv5_6)) ?_
    refine ap 7 1 ?_
    refine aq 8 rfl (y_load (.agg (eHand v1_2).toArray) 0 g0_0 0) ?_
    obtain ⟨v5_9, hv5_9, h⟩ := H.call h
    refine aq 9 rfl (y_call [.agg (eHand v1_2).toArray] (.string (bs v5_9)) func94 (fun W S => C.i_Hand_text W hv5_9)) ?_
    refine ap 10 2 ?_
    refine a_done ?_
    refine c_or (slt v5_6 v5_9) (fun q3 => ?_) (fun q3 => ?_)
    · replace h := H.t q3 h
      refine r_start ?_
      refine p 1 ?_
      refine xq rfl (y_load (.agg (eHand v4_2).toArray) 0 g0_0 14) ?_
      refine p 1 ?_
      refine xq rfl (y_load (.agg (eHand v1_2).toArray) 0 g0_0 0) ?_
      refine p 1 ?_
      refine xx rfl (x_sto 0 g0_0 0 (eSign (⟨v4_2, a0.Two, v4_2⟩ : Sign)) ?_)
      refine p 1 ?_
      refine xx rfl (x_sto 0 g0_0 14 (eSign (⟨v4_2, a0.Two, v1_2⟩ : Sign)) ?_)
      refine rend ?_
      refine c_seq ?_
      refine r_start ?_
      refine xq rfl (y_load (.agg (eSign (⟨v4_2, a0.Two, v1_2⟩ : Sign)).toArray) 0 g0_0 0) ?_
      refine xx rfl (x_sto 1 g0_1 0 (eSign (⟨v4_2, a0.Two, v1_2⟩ : Sign)) ?_)
      refine rend ?_
      replace h := H.done h
      subst h
      exact ret func61 rfl (vs := [.agg (eSign (⟨v4_2, a0.Two, v1_2⟩ : Sign)).toArray]) (.cell 1 g0_1 rfl (by kernel_rfl) (by kernel_rfl) .nil) rfl (fun W S => ⟨rfl, S.below⟩)
    replace h := H.f q3 h
    refine c_skip ?_
    refine c_seq ?_
    refine r_start ?_
    refine xq rfl (y_load (.agg (eSign (⟨v1_2, a0.Two, v4_2⟩ : Sign)).toArray) 0 g0_0 0) ?_
    refine xx rfl (x_sto 1 g0_1 0 (eSign (⟨v1_2, a0.Two, v4_2⟩ : Sign)) ?_)
    refine rend ?_
    replace h := H.done h
    subst h
    exact ret func61 rfl (vs := [.agg (eSign (⟨v1_2, a0.Two, v4_2⟩ : Sign)).toArray]) (.cell 1 g0_1 rfl (by kernel_rfl) (by kernel_rfl) .nil) rfl (fun W S => ⟨rfl, S.below⟩)
  replace h := H.f q2 h
  refine a_set 18 (congrArg Value.bool q2) ?_
  refine ap 4 8 ?_
  refine a_done ?_
  refine c_f (by kernel_rfl) ?_
  refine c_skip ?_
  refine c_seq ?_
  refine r_start ?_
  refine xq rfl (y_load (.agg (eSign (⟨v1_2, a0.Two, v4_2⟩ : Sign)).toArray) 0 g0_0 0) ?_
  refine xx rfl (x_sto 1 g0_1 0 (eSign (⟨v1_2, a0.Two, v4_2⟩ : Sign)) ?_)
  refine rend ?_
  replace h := H.done h
  subst h
  exact ret func61 rfl (vs := [.agg (eSign (⟨v1_2, a0.Two, v4_2⟩ : Sign)).toArray]) (.cell 1 g0_1 rfl (by kernel_rfl) (by kernel_rfl) .nil) rfl (fun W S => ⟨rfl, S.below⟩)
theorem C.l_eqIntS {fu : Nat} {a0 : (List Int)} {A0 : Option Addr} {k0 : Nat} {a1 : (List Int)} {A1 : Option Addr} {k1 : Nat} {r : Bool} (w : World) (h : X.l_eqIntS fu a0 a1 = some r) (h0 : RdT (eI .i64) w (.slice A0 (List.length a0) k0) a0) (h1 : RdT (eI .i64) w (.slice A1 (List.length a1) k1) a1) : Calls prog 19 #[.slice A0 (List.length a0) k0, .slice A1 (List.length a1) k1] w (Ret w (.bool r)) := by
  refine calls (M := no) (args := [.slice A0 (List.length a0) k0, .slice A1 (List.length a1) k1]) func19 rfl ?_
  replace h : H (X.l_eqIntS fu a0 a1) (fun o => o = r) := H.mk h
  unfold X.l_eqIntS at h
  refine c_seq ?_
  refine r_start ?_
  refine p 1 ?_
  refine rend ?_
  refine c_seq ?_
  refine c_seq ?_
  refine r_start ?_
  refine p 5 ?_
  refine rend ?_
  refine c_or ((List.length a0 : Int) != (List.length a1 : Int)) (fun q1 => ?_) (fun q1 => ?_)
  · replace h := H.t q1 h
    refine c_seq ?_
    refine r_start ?_
    refine p 1 ?_
    refine rend ?_
    replace h := H.done h
    subst h
    exact ret func19 rfl (vs := [.bool false]) (.tmp (by kernel_rfl) .nil) rfl (fun W S => ⟨rfl, S.below⟩)
  replace h := H.f q1 h
  refine c_skip ?_
  refine c_seq ?_
  refine c_seq ?_
  refine r_start ?_
  refine p 1 ?_
  refine rend ?_
  refine c_block ?_
  refine joinE (X := Unit) 0 (H.or h) (fun (x : Unit) => x) (fun _ => []) (fun _ u => (jk u 0 26 [])) (fun h hj3 => ?_) ?_
  · skip
    refine loopR (X := Int) (fun (x : Int) => x) (fun n2 => []) (fun n2 u => (.slice A0 (List.length a0) k0 :: .slice A1 (List.length a1) k1 :: (jk u 2 3 (.int .i64 n2 :: (jk u 6 20 []))))) 0 h (by kernel_rfl) (by kernel_rfl) ?_
    intro n2 u h
    refine c_seq ?_
    refine c_seq ?_
    refine r_start ?_
    refine p 4 ?_
    refine rend ?_
    refine c_or (decide (n2 < (List.length a0 : Int))) (fun q4 => ?_) (fun q4 => ?_)
    · replace h := H.t q4 h
      refine c_skip ?_
      refine c_seq ?_
      refine c_block ?_
      refine c_seq ?_
      refine as_start 9 9 ?_
      refine ap 0 2 ?_
      obtain ⟨y6_2, hy6_2, h⟩ := H.call h
      refine aq 2 rfl (y_idx (e := (eI .i64)) (el := 3) hy6_2 (s_arg h0)) ?_
      refine aq 3 rfl (y_el (e := (eI .i64)) 0 (.int .i64 y6_2) hy6_2 (s_arg h0)) ?_
      refine ap 4 2 ?_
      obtain ⟨y6_6, hy6_6, h⟩ := H.call h
      refine aq 6 rfl (y_idx (e := (eI .i64)) (el := 3) hy6_6 (s_arg h1)) ?_
      refine aq 7 rfl (y_el (e := (eI .i64)) 0 (.int .i64 y6_6) hy6_6 (s_arg h1)) ?_
      refine ap 8 1 ?_
      refine a_done ?_
      refine c_or (y6_2 != y6_6) (fun q5 => ?_) (fun q5 => ?_)
      · replace h := H.t q5 h
        refine c_seq ?_
        refine r_start ?_
        refine p 1 ?_
        refine rend ?_
        replace h := H.inr h
        replace h := H.done h
        subst h
        exact ret func19 rfl (vs := [.bool false]) (.tmp (by kernel_rfl) .nil) rfl (fun W S => ⟨rfl, S.below⟩)
      replace h := H.f q5 h
      refine c_skip ?_
      refine c_inb ?_
      refine r_start ?_
      refine p 3 ?_
      refine rend ?_
      replace h := H.inl h
      exact h (wr (n2 + 1)) _ _ rfl (by kernel_rfl) (by kernel_rfl)
    replace h := H.f q4 h
    refine cx ?_
    replace h := H.inr h
    exact hj3 () _ _ h (by kernel_rfl) (by kernel_rfl)
  intro x u h
  refine c_seq ?_
  refine r_start ?_
  refine p 1 ?_
  refine rend ?_
  replace h := H.done h
  subst h
  exact ret func19 rfl (vs := [.bool true]) (.tmp (by kernel_rfl) .nil) rfl (fun W S => ⟨rfl, S.below⟩)
theorem C.l_eqShape {a0 : Shape} {a1 : Shape} {r : Bool} (w : World) (h : X.l_eqShape a0 a1 = some r) : Calls prog 168 #[.agg (eShape a0).toArray, .agg (eShape a1).toArray] w (Ret w (.bool r)) := by
  refine calls (M := no) (args := [.agg (eShape a0).toArray, .agg (eShape a1).toArray]) func168 rfl ?_
  replace h : H (X.l_eqShape a0 a1) (fun o => o = r) := H.mk h
  unfold X.l_eqShape at h
  refine c_seq ?_
  refine r_start ?_
  refine xx rfl (x_box (eShape a0) fun g0_0 => ?_)
  refine xx rfl (x_box (eShape a1) fun g0_1 => ?_)
  refine p 1 ?_
  refine rend ?_
  refine c_seq ?_
  refine c_seq ?_
  refine r_start ?_
  refine p 1 ?_
  refine xq rfl (y_load (.int .i64 a0.Thumb) 0 g0_0 0) ?_
  refine p 1 ?_
  refine xq rfl (y_load (.int .i64 a1.Thumb) 1 g0_1 0) ?_
  refine p 1 ?_
  refine rend ?_
  refine c_or (a0.Thumb != a1.Thumb) (fun q1 => ?_) (fun q1 => ?_)
  · replace h := H.t q1 h
    refine c_seq ?_
    refine r_start ?_
    refine p 1 ?_
    refine rend ?_
    replace h := H.done h
    subst h
    exact ret func168 rfl (vs := [.bool false]) (.tmp (by kernel_rfl) .nil) rfl (fun W S => ⟨rfl, S.below⟩)
  replace h := H.f q1 h
  refine c_skip ?_
  refine c_seq ?_
  refine c_seq ?_
  refine r_start ?_
  refine p 1 ?_
  refine xq rfl (y_load (.int .i64 a0.Index) 0 g0_0 1) ?_
  refine p 1 ?_
  refine xq rfl (y_load (.int .i64 a1.Index) 1 g0_1 1) ?_
  refine p 1 ?_
  refine rend ?_
  refine c_or (a0.Index != a1.Index) (fun q2 => ?_) (fun q2 => ?_)
  · replace h := H.t q2 h
    refine c_seq ?_
    refine r_start ?_
    refine p 1 ?_
    refine rend ?_
    replace h := H.done h
    subst h
    exact ret func168 rfl (vs := [.bool false]) (.tmp (by kernel_rfl) .nil) rfl (fun W S => ⟨rfl, S.below⟩)
  replace h := H.f q2 h
  refine c_skip ?_
  refine c_seq ?_
  refine c_seq ?_
  refine r_start ?_
  refine p 1 ?_
  refine xq rfl (y_load (.int .i64 a0.Middle) 0 g0_0 2) ?_
  refine p 1 ?_
  refine xq rfl (y_load (.int .i64 a1.Middle) 1 g0_1 2) ?_
  refine p 1 ?_
  refine rend ?_
  refine c_or (a0.Middle != a1.Middle) (fun q3 => ?_) (fun q3 => ?_)
  · replace h := H.t q3 h
    refine c_seq ?_
    refine r_start ?_
    refine p 1 ?_
    refine rend ?_
    replace h := H.done h
    subst h
    exact ret func168 rfl (vs := [.bool false]) (.tmp (by kernel_rfl) .nil) rfl (fun W S => ⟨rfl, S.below⟩)
  replace h := H.f q3 h
  refine c_skip ?_
  refine c_seq ?_
  refine c_seq ?_
  refine r_start ?_
  refine p 1 ?_
  refine xq rfl (y_load (.int .i64 a0.Ring) 0 g0_0 3) ?_
  refine p 1 ?_
  refine xq rfl (y_load (.int .i64 a1.Ring) 1 g0_1 3) ?_
  refine p 1 ?_
  refine rend ?_
  refine c_or (a0.Ring != a1.Ring) (fun q4 => ?_) (fun q4 => ?_)
  · replace h := H.t q4 h
    refine c_seq ?_
    refine r_start ?_
    refine p 1 ?_
    refine rend ?_
    replace h := H.done h
    subst h
    exact ret func168 rfl (vs := [.bool false]) (.tmp (by kernel_rfl) .nil) rfl (fun W S => ⟨rfl, S.below⟩)
  replace h := H.f q4 h
  refine c_skip ?_
  refine c_seq ?_
  refine c_seq ?_
  refine r_start ?_
  refine p 1 ?_
  refine xq rfl (y_load (.int .i64 a0.Little) 0 g0_0 4) ?_
  refine p 1 ?_
  refine xq rfl (y_load (.int .i64 a1.Little) 1 g0_1 4) ?_
  refine p 1 ?_
  refine rend ?_
  refine c_or (a0.Little != a1.Little) (fun q5 => ?_) (fun q5 => ?_)
  · replace h := H.t q5 h
    refine c_seq ?_
    refine r_start ?_
    refine p 1 ?_
    refine rend ?_
    replace h := H.done h
    subst h
    exact ret func168 rfl (vs := [.bool false]) (.tmp (by kernel_rfl) .nil) rfl (fun W S => ⟨rfl, S.below⟩)
  replace h := H.f q5 h
  refine c_skip ?_
  refine c_seq ?_
  refine c_seq ?_
  refine r_start ?_
  refine p 1 ?_
  refine xq rfl (y_load (.bool a0.Spread) 0 g0_0 5) ?_
  refine p 1 ?_
  refine xq rfl (y_load (.bool a1.Spread) 1 g0_1 5) ?_
  refine p 1 ?_
  refine rend ?_
  refine c_or (!(a0.Spread == a1.Spread)) (fun q6 => ?_) (fun q6 => ?_)
  · replace h := H.t q6 h
    refine c_seq ?_
    refine r_start ?_
    refine p 1 ?_
    refine rend ?_
    replace h := H.done h
    subst h
    exact ret func168 rfl (vs := [.bool false]) (.tmp (by kernel_rfl) .nil) rfl (fun W S => ⟨rfl, S.below⟩)
  replace h := H.f q6 h
  refine c_skip ?_
  refine c_seq ?_
  refine r_start ?_
  refine p 1 ?_
  refine rend ?_
  replace h := H.done h
  subst h
  exact ret func168 rfl (vs := [.bool true]) (.tmp (by kernel_rfl) .nil) rfl (fun W S => ⟨rfl, S.below⟩)
theorem C.l_eqOrient {a0 : Orient} {a1 : Orient} {r : Bool} (w : World) (h : X.l_eqOrient a0 a1 = some r) : Calls prog 169 #[.agg (eOrient a0).toArray, .agg (eOrient a1).toArray] w (Ret w (.bool r)) := by
  refine calls (M := no) (args := [.agg (eOrient a0).toArray, .agg (eOrient a1).toArray]) func169 rfl ?_
  replace h : H (X.l_eqOrient a0 a1) (fun o => o = r) := H.mk h
  unfold X.l_eqOrient at h
  refine c_seq ?_
  refine r_start ?_
  refine xx rfl (x_box (eOrient a0) fun g0_0 => ?_)
  refine xx rfl (x_box (eOrient a1) fun g0_1 => ?_)
  refine p 1 ?_
  refine rend ?_
  refine c_seq ?_
  refine c_seq ?_
  refine r_start ?_
  refine p 1 ?_
  refine xq rfl (y_load (.int .i64 a0.Palm) 0 g0_0 0) ?_
  refine p 1 ?_
  refine xq rfl (y_load (.int .i64 a1.Palm) 1 g0_1 0) ?_
  refine p 1 ?_
  refine rend ?_
  refine c_or (a0.Palm != a1.Palm) (fun q1 => ?_) (fun q1 => ?_)
  · replace h := H.t q1 h
    refine c_seq ?_
    refine r_start ?_
    refine p 1 ?_
    refine rend ?_
    replace h := H.done h
    subst h
    exact ret func169 rfl (vs := [.bool false]) (.tmp (by kernel_rfl) .nil) rfl (fun W S => ⟨rfl, S.below⟩)
  replace h := H.f q1 h
  refine c_skip ?_
  refine c_seq ?_
  refine c_seq ?_
  refine r_start ?_
  refine p 1 ?_
  refine xq rfl (y_load (.int .i64 a0.Fingers) 0 g0_0 1) ?_
  refine p 1 ?_
  refine xq rfl (y_load (.int .i64 a1.Fingers) 1 g0_1 1) ?_
  refine p 1 ?_
  refine rend ?_
  refine c_or (a0.Fingers != a1.Fingers) (fun q2 => ?_) (fun q2 => ?_)
  · replace h := H.t q2 h
    refine c_seq ?_
    refine r_start ?_
    refine p 1 ?_
    refine rend ?_
    replace h := H.done h
    subst h
    exact ret func169 rfl (vs := [.bool false]) (.tmp (by kernel_rfl) .nil) rfl (fun W S => ⟨rfl, S.below⟩)
  replace h := H.f q2 h
  refine c_skip ?_
  refine c_seq ?_
  refine r_start ?_
  refine p 1 ?_
  refine rend ?_
  replace h := H.done h
  subst h
  exact ret func169 rfl (vs := [.bool true]) (.tmp (by kernel_rfl) .nil) rfl (fun W S => ⟨rfl, S.below⟩)
theorem C.l_eqPlace {a0 : Place} {a1 : Place} {r : Bool} (w : World) (h : X.l_eqPlace a0 a1 = some r) : Calls prog 170 #[.agg (ePlace a0).toArray, .agg (ePlace a1).toArray] w (Ret w (.bool r)) := by
  refine calls (M := no) (args := [.agg (ePlace a0).toArray, .agg (ePlace a1).toArray]) func170 rfl ?_
  replace h : H (X.l_eqPlace a0 a1) (fun o => o = r) := H.mk h
  unfold X.l_eqPlace at h
  refine c_seq ?_
  refine r_start ?_
  refine xx rfl (x_box (ePlace a0) fun g0_0 => ?_)
  refine xx rfl (x_box (ePlace a1) fun g0_1 => ?_)
  refine p 1 ?_
  refine rend ?_
  refine c_seq ?_
  refine c_seq ?_
  refine r_start ?_
  refine p 1 ?_
  refine xq rfl (y_load (.int .i64 a0.Region) 0 g0_0 0) ?_
  refine p 1 ?_
  refine xq rfl (y_load (.int .i64 a1.Region) 1 g0_1 0) ?_
  refine p 1 ?_
  refine rend ?_
  refine c_or (a0.Region != a1.Region) (fun q1 => ?_) (fun q1 => ?_)
  · replace h := H.t q1 h
    refine c_seq ?_
    refine r_start ?_
    refine p 1 ?_
    refine rend ?_
    replace h := H.done h
    subst h
    exact ret func170 rfl (vs := [.bool false]) (.tmp (by kernel_rfl) .nil) rfl (fun W S => ⟨rfl, S.below⟩)
  replace h := H.f q1 h
  refine c_skip ?_
  refine c_seq ?_
  refine c_seq ?_
  refine r_start ?_
  refine p 1 ?_
  refine xq rfl (y_load (.int .i64 a0.Side) 0 g0_0 1) ?_
  refine p 1 ?_
  refine xq rfl (y_load (.int .i64 a1.Side) 1 g0_1 1) ?_
  refine p 1 ?_
  refine rend ?_
  refine c_or (a0.Side != a1.Side) (fun q2 => ?_) (fun q2 => ?_)
  · replace h := H.t q2 h
    refine c_seq ?_
    refine r_start ?_
    refine p 1 ?_
    refine rend ?_
    replace h := H.done h
    subst h
    exact ret func170 rfl (vs := [.bool false]) (.tmp (by kernel_rfl) .nil) rfl (fun W S => ⟨rfl, S.below⟩)
  replace h := H.f q2 h
  refine c_skip ?_
  refine c_seq ?_
  refine c_seq ?_
  refine r_start ?_
  refine p 1 ?_
  refine xq rfl (y_load (.bool a0.Contact) 0 g0_0 2) ?_
  refine p 1 ?_
  refine xq rfl (y_load (.bool a1.Contact) 1 g0_1 2) ?_
  refine p 1 ?_
  refine rend ?_
  refine c_or (!(a0.Contact == a1.Contact)) (fun q3 => ?_) (fun q3 => ?_)
  · replace h := H.t q3 h
    refine c_seq ?_
    refine r_start ?_
    refine p 1 ?_
    refine rend ?_
    replace h := H.done h
    subst h
    exact ret func170 rfl (vs := [.bool false]) (.tmp (by kernel_rfl) .nil) rfl (fun W S => ⟨rfl, S.below⟩)
  replace h := H.f q3 h
  refine c_skip ?_
  refine c_seq ?_
  refine r_start ?_
  refine p 1 ?_
  refine rend ?_
  replace h := H.done h
  subst h
  exact ret func170 rfl (vs := [.bool true]) (.tmp (by kernel_rfl) .nil) rfl (fun W S => ⟨rfl, S.below⟩)
theorem C.l_eqMove {a0 : Move} {a1 : Move} {r : Bool} (w : World) (h : X.l_eqMove a0 a1 = some r) : Calls prog 171 #[.agg (eMove a0).toArray, .agg (eMove a1).toArray] w (Ret w (.bool r)) := by
  refine calls (M := no) (args := [.agg (eMove a0).toArray, .agg (eMove a1).toArray]) func171 rfl ?_
  replace h : H (X.l_eqMove a0 a1) (fun o => o = r) := H.mk h
  unfold X.l_eqMove at h
  refine c_seq ?_
  refine r_start ?_
  refine xx rfl (x_box (eMove a0) fun g0_0 => ?_)
  refine xx rfl (x_box (eMove a1) fun g0_1 => ?_)
  refine p 1 ?_
  refine rend ?_
  refine c_seq ?_
  refine c_seq ?_
  refine r_start ?_
  refine p 1 ?_
  refine xq rfl (y_load (.string (bs a0.Steps)) 0 g0_0 0) ?_
  refine p 1 ?_
  refine xq rfl (y_load (.string (bs a1.Steps)) 1 g0_1 0) ?_
  refine p 1 ?_
  refine rend ?_
  refine c_or (!seq a0.Steps a1.Steps) (fun q1 => ?_) (fun q1 => ?_)
  · replace h := H.t q1 h
    refine c_seq ?_
    refine r_start ?_
    refine p 1 ?_
    refine rend ?_
    replace h := H.done h
    subst h
    exact ret func171 rfl (vs := [.bool false]) (.tmp (by kernel_rfl) .nil) rfl (fun W S => ⟨rfl, S.below⟩)
  replace h := H.f q1 h
  refine c_skip ?_
  refine c_seq ?_
  refine c_seq ?_
  refine r_start ?_
  refine p 1 ?_
  refine xq rfl (y_load (.int .i64 a0.Repeat) 0 g0_0 1) ?_
  refine p 1 ?_
  refine xq rfl (y_load (.int .i64 a1.Repeat) 1 g0_1 1) ?_
  refine p 1 ?_
  refine rend ?_
  refine c_or (a0.Repeat != a1.Repeat) (fun q2 => ?_) (fun q2 => ?_)
  · replace h := H.t q2 h
    refine c_seq ?_
    refine r_start ?_
    refine p 1 ?_
    refine rend ?_
    replace h := H.done h
    subst h
    exact ret func171 rfl (vs := [.bool false]) (.tmp (by kernel_rfl) .nil) rfl (fun W S => ⟨rfl, S.below⟩)
  replace h := H.f q2 h
  refine c_skip ?_
  refine c_seq ?_
  refine r_start ?_
  refine p 1 ?_
  refine rend ?_
  replace h := H.done h
  subst h
  exact ret func171 rfl (vs := [.bool true]) (.tmp (by kernel_rfl) .nil) rfl (fun W S => ⟨rfl, S.below⟩)
theorem C.l_eqHand {a0 : Hand} {a1 : Hand} {r : Bool} (w : World) (h : X.l_eqHand a0 a1 = some r) : Calls prog 104 #[.agg (eHand a0).toArray, .agg (eHand a1).toArray] w (Ret w (.bool r)) := by
  refine calls (M := no) (args := [.agg (eHand a0).toArray, .agg (eHand a1).toArray]) func104 rfl ?_
  replace h : H (X.l_eqHand a0 a1) (fun o => o = r) := H.mk h
  unfold X.l_eqHand at h
  refine c_seq ?_
  refine r_start ?_
  refine xx rfl (x_box (eHand a0) fun g0_0 => ?_)
  refine xx rfl (x_box (eHand a1) fun g0_1 => ?_)
  refine p 1 ?_
  refine rend ?_
  refine c_seq ?_
  refine c_seq ?_
  refine r_start ?_
  refine p 1 ?_
  refine xq rfl (y_load (.agg (eShape a0.Shape).toArray) 0 g0_0 0) ?_
  refine p 1 ?_
  refine xq rfl (y_load (.agg (eShape a1.Shape).toArray) 1 g0_1 0) ?_
  obtain ⟨v1_4, hv1_4, h⟩ := H.call h
  refine xq rfl (y_call [.agg (eShape a0.Shape).toArray, .agg (eShape a1.Shape).toArray] (.bool v1_4) func168 (fun W S => C.l_eqShape W hv1_4)) ?_
  refine p 1 ?_
  refine rend ?_
  refine c_or (!v1_4) (fun q1 => ?_) (fun q1 => ?_)
  · replace h := H.t q1 h
    refine c_seq ?_
    refine r_start ?_
    refine p 1 ?_
    refine rend ?_
    replace h := H.done h
    subst h
    exact ret func104 rfl (vs := [.bool false]) (.tmp (by kernel_rfl) .nil) rfl (fun W S => ⟨rfl, S.below⟩)
  replace h := H.f q1 h
  refine c_skip ?_
  refine c_seq ?_
  refine c_seq ?_
  refine r_start ?_
  refine p 1 ?_
  refine xq rfl (y_load (.agg (eOrient a0.Orient).toArray) 0 g0_0 6) ?_
  refine p 1 ?_
  refine xq rfl (y_load (.agg (eOrient a1.Orient).toArray) 1 g0_1 6) ?_
  obtain ⟨v3_4, hv3_4, h⟩ := H.call h
  refine xq rfl (y_call [.agg (eOrient a0.Orient).toArray, .agg (eOrient a1.Orient).toArray] (.bool v3_4) func169 (fun W S => C.l_eqOrient W hv3_4)) ?_
  refine p 1 ?_
  refine rend ?_
  refine c_or (!v3_4) (fun q2 => ?_) (fun q2 => ?_)
  · replace h := H.t q2 h
    refine c_seq ?_
    refine r_start ?_
    refine p 1 ?_
    refine rend ?_
    replace h := H.done h
    subst h
    exact ret func104 rfl (vs := [.bool false]) (.tmp (by kernel_rfl) .nil) rfl (fun W S => ⟨rfl, S.below⟩)
  replace h := H.f q2 h
  refine c_skip ?_
  refine c_seq ?_
  refine c_seq ?_
  refine r_start ?_
  refine p 1 ?_
  refine xq rfl (y_load (.agg (ePlace a0.Place).toArray) 0 g0_0 8) ?_
  refine p 1 ?_
  refine xq rfl (y_load (.agg (ePlace a1.Place).toArray) 1 g0_1 8) ?_
  obtain ⟨v5_4, hv5_4, h⟩ := H.call h
  refine xq rfl (y_call [.agg (ePlace a0.Place).toArray, .agg (ePlace a1.Place).toArray] (.bool v5_4) func170 (fun W S => C.l_eqPlace W hv5_4)) ?_
  refine p 1 ?_
  refine rend ?_
  refine c_or (!v5_4) (fun q3 => ?_) (fun q3 => ?_)
  · replace h := H.t q3 h
    refine c_seq ?_
    refine r_start ?_
    refine p 1 ?_
    refine rend ?_
    replace h := H.done h
    subst h
    exact ret func104 rfl (vs := [.bool false]) (.tmp (by kernel_rfl) .nil) rfl (fun W S => ⟨rfl, S.below⟩)
  replace h := H.f q3 h
  refine c_skip ?_
  refine c_seq ?_
  refine c_seq ?_
  refine r_start ?_
  refine p 1 ?_
  refine xq rfl (y_load (.agg (eMove a0.Move).toArray) 0 g0_0 11) ?_
  refine p 1 ?_
  refine xq rfl (y_load (.agg (eMove a1.Move).toArray) 1 g0_1 11) ?_
  obtain ⟨v7_4, hv7_4, h⟩ := H.call h
  refine xq rfl (y_call [.agg (eMove a0.Move).toArray, .agg (eMove a1.Move).toArray] (.bool v7_4) func171 (fun W S => C.l_eqMove W hv7_4)) ?_
  refine p 1 ?_
  refine rend ?_
  refine c_or (!v7_4) (fun q4 => ?_) (fun q4 => ?_)
  · replace h := H.t q4 h
    refine c_seq ?_
    refine r_start ?_
    refine p 1 ?_
    refine rend ?_
    replace h := H.done h
    subst h
    exact ret func104 rfl (vs := [.bool false]) (.tmp (by kernel_rfl) .nil) rfl (fun W S => ⟨rfl, S.below⟩)
  replace h := H.f q4 h
  refine c_skip ?_
  refine c_seq ?_
  refine r_start ?_
  refine p 1 ?_
  refine rend ?_
  replace h := H.done h
  subst h
  exact ret func104 rfl (vs := [.bool true]) (.tmp (by kernel_rfl) .nil) rfl (fun W S => ⟨rfl, S.below⟩)
theorem C.l_eqSign {a0 : Sign} {a1 : Sign} {r : Bool} (w : World) (h : X.l_eqSign a0 a1 = some r) : Calls prog 54 #[.agg (eSign a0).toArray, .agg (eSign a1).toArray] w (Ret w (.bool r)) := by
  refine calls (M := no) (args := [.agg (eSign a0).toArray, .agg (eSign a1).toArray]) func54 rfl ?_
  replace h : H (X.l_eqSign a0 a1) (fun o => o = r) := H.mk h
  unfold X.l_eqSign at h
  refine c_seq ?_
  refine r_start ?_
  refine xx rfl (x_box (eSign a0) fun g0_0 => ?_)
  refine xx rfl (x_box (eSign a1) fun g0_1 => ?_)
  refine p 1 ?_
  refine rend ?_
  refine c_seq ?_
  refine c_seq ?_
  refine r_start ?_
  refine p 1 ?_
  refine xq rfl (y_load (.agg (eHand a0.Main).toArray) 0 g0_0 0) ?_
  refine p 1 ?_
  refine xq rfl (y_load (.agg (eHand a1.Main).toArray) 1 g0_1 0) ?_
  obtain ⟨v1_4, hv1_4, h⟩ := H.call h
  refine xq rfl (y_call [.agg (eHand a0.Main).toArray, .agg (eHand a1.Main).toArray] (.bool v1_4) func104 (fun W S => C.l_eqHand W hv1_4)) ?_
  refine p 1 ?_
  refine rend ?_
  refine c_or (!v1_4) (fun q1 => ?_) (fun q1 => ?_)
  · replace h := H.t q1 h
    refine c_seq ?_
    refine r_start ?_
    refine p 1 ?_
    refine rend ?_
    replace h := H.done h
    subst h
    exact ret func54 rfl (vs := [.bool false]) (.tmp (by kernel_rfl) .nil) rfl (fun W S => ⟨rfl, S.below⟩)
  replace h := H.f q1 h
  refine c_skip ?_
  refine c_seq ?_
  refine c_seq ?_
  refine r_start ?_
  refine p 1 ?_
  refine xq rfl (y_load (.bool a0.Two) 0 g0_0 13) ?_
  refine p 1 ?_
  refine xq rfl (y_load (.bool a1.Two) 1 g0_1 13) ?_
  refine p 1 ?_
  refine rend ?_
  refine c_or (!(a0.Two == a1.Two)) (fun q2 => ?_) (fun q2 => ?_)
  · replace h := H.t q2 h
    refine c_seq ?_
    refine r_start ?_
    refine p 1 ?_
    refine rend ?_
    replace h := H.done h
    subst h
    exact ret func54 rfl (vs := [.bool false]) (.tmp (by kernel_rfl) .nil) rfl (fun W S => ⟨rfl, S.below⟩)
  replace h := H.f q2 h
  refine c_skip ?_
  refine c_seq ?_
  refine c_seq ?_
  refine r_start ?_
  refine p 1 ?_
  refine xq rfl (y_load (.agg (eHand a0.Other).toArray) 0 g0_0 14) ?_
  refine p 1 ?_
  refine xq rfl (y_load (.agg (eHand a1.Other).toArray) 1 g0_1 14) ?_
  obtain ⟨v5_4, hv5_4, h⟩ := H.call h
  refine xq rfl (y_call [.agg (eHand a0.Other).toArray, .agg (eHand a1.Other).toArray] (.bool v5_4) func104 (fun W S => C.l_eqHand W hv5_4)) ?_
  refine p 1 ?_
  refine rend ?_
  refine c_or (!v5_4) (fun q3 => ?_) (fun q3 => ?_)
  · replace h := H.t q3 h
    refine c_seq ?_
    refine r_start ?_
    refine p 1 ?_
    refine rend ?_
    replace h := H.done h
    subst h
    exact ret func54 rfl (vs := [.bool false]) (.tmp (by kernel_rfl) .nil) rfl (fun W S => ⟨rfl, S.below⟩)
  replace h := H.f q3 h
  refine c_skip ?_
  refine c_seq ?_
  refine r_start ?_
  refine p 1 ?_
  refine rend ?_
  replace h := H.done h
  subst h
  exact ret func54 rfl (vs := [.bool true]) (.tmp (by kernel_rfl) .nil) rfl (fun W S => ⟨rfl, S.below⟩)
theorem C.l_eqSignS {fu : Nat} {a0 : (List Sign)} {A0 : Option Addr} {k0 : Nat} {a1 : (List Sign)} {A1 : Option Addr} {k1 : Nat} {r : Bool} (w : World) (h : X.l_eqSignS fu a0 a1 = some r) (h0 : RdT nSign w (.slice A0 (List.length a0) k0) a0) (h1 : RdT nSign w (.slice A1 (List.length a1) k1) a1) : Calls prog 20 #[.slice A0 (List.length a0) k0, .slice A1 (List.length a1) k1] w (Ret w (.bool r)) := by
  refine calls (M := no) (args := [.slice A0 (List.length a0) k0, .slice A1 (List.length a1) k1]) func20 rfl ?_
  replace h : H (X.l_eqSignS fu a0 a1) (fun o => o = r) := H.mk h
  unfold X.l_eqSignS at h
  refine c_seq ?_
  refine r_start ?_
  refine p 1 ?_
  refine rend ?_
  refine c_seq ?_
  refine c_seq ?_
  refine r_start ?_
  refine p 5 ?_
  refine rend ?_
  refine c_or ((List.length a0 : Int) != (List.length a1 : Int)) (fun q1 => ?_) (fun q1 => ?_)
  · replace h := H.t q1 h
    refine c_seq ?_
    refine r_start ?_
    refine p 1 ?_
    refine rend ?_
    replace h := H.done h
    subst h
    exact ret func20 rfl (vs := [.bool false]) (.tmp (by kernel_rfl) .nil) rfl (fun W S => ⟨rfl, S.below⟩)
  replace h := H.f q1 h
  refine c_skip ?_
  refine c_seq ?_
  refine c_seq ?_
  refine r_start ?_
  refine p 1 ?_
  refine rend ?_
  refine c_block ?_
  refine joinE (X := Unit) 0 (H.or h) (fun (x : Unit) => x) (fun _ => []) (fun _ u => (jk u 0 27 [])) (fun h hj3 => ?_) ?_
  · skip
    refine loopR (X := Int) (fun (x : Int) => x) (fun n2 => []) (fun n2 u => (.slice A0 (List.length a0) k0 :: .slice A1 (List.length a1) k1 :: (jk u 2 3 (.int .i64 n2 :: (jk u 6 21 []))))) 0 h (by kernel_rfl) (by kernel_rfl) ?_
    intro n2 u h
    refine c_seq ?_
    refine c_seq ?_
    refine r_start ?_
    refine p 4 ?_
    refine rend ?_
    refine c_or (decide (n2 < (List.length a0 : Int))) (fun q4 => ?_) (fun q4 => ?_)
    · replace h := H.t q4 h
      refine c_skip ?_
      refine c_seq ?_
      refine c_block ?_
      refine c_seq ?_
      refine as_start 10 10 ?_
      refine ap 0 2 ?_
      obtain ⟨y6_2, hy6_2, h⟩ := H.call h
      refine aq 2 rfl (y_idx (e := nSign) (el := 47) hy6_2 (s_arg h0)) ?_
      refine aq 3 rfl (y_el (e := nSign) 0 (.agg (eSign y6_2).toArray) hy6_2 (s_arg h0)) ?_
      refine ap 4 2 ?_
      obtain ⟨y6_6, hy6_6, h⟩ := H.call h
      refine aq 6 rfl (y_idx (e := nSign) (el := 47) hy6_6 (s_arg h1)) ?_
      refine aq 7 rfl (y_el (e := nSign) 0 (.agg (eSign y6_6).toArray) hy6_6 (s_arg h1)) ?_
      obtain ⟨v6_8, hv6_8, h⟩ := H.call h
      refine aq 8 rfl (y_call [.agg (eSign y6_2).toArray, .agg (eSign y6_6).toArray] (.bool v6_8) func54 (fun W S => C.l_eqSign W hv6_8)) ?_
      refine ap 9 1 ?_
      refine a_done ?_
      refine c_or (!v6_8) (fun q5 => ?_) (fun q5 => ?_)
      · replace h := H.t q5 h
        refine c_seq ?_
        refine r_start ?_
        refine p 1 ?_
        refine rend ?_
        replace h := H.inr h
        replace h := H.done h
        subst h
        exact ret func20 rfl (vs := [.bool false]) (.tmp (by kernel_rfl) .nil) rfl (fun W S => ⟨rfl, S.below⟩)
      replace h := H.f q5 h
      refine c_skip ?_
      refine c_inb ?_
      refine r_start ?_
      refine p 3 ?_
      refine rend ?_
      replace h := H.inl h
      exact h (wr (n2 + 1)) _ _ rfl (by kernel_rfl) (by kernel_rfl)
    replace h := H.f q4 h
    refine cx ?_
    replace h := H.inr h
    exact hj3 () _ _ h (by kernel_rfl) (by kernel_rfl)
  intro x u h
  refine c_seq ?_
  refine r_start ?_
  refine p 1 ?_
  refine rend ?_
  replace h := H.done h
  subst h
  exact ret func20 rfl (vs := [.bool true]) (.tmp (by kernel_rfl) .nil) rfl (fun W S => ⟨rfl, S.below⟩)
theorem C.l_markText {fu : Nat} {a0 : Int} {r : Str} (w : World) (h : X.l_markText fu a0 = some r) : Calls prog 55 #[.int .i64 a0] w (Ret w (.string (bs r))) := by
  refine calls (M := no) (args := [.int .i64 a0]) func55 rfl ?_
  replace h : H (X.l_markText fu a0) (fun o => o = r) := H.mk h
  unfold X.l_markText at h
  refine c_seq ?_
  refine r_start ?_
  refine p 1 ?_
  refine rend ?_
  refine c_seq ?_
  refine c_seq ?_
  refine r_start ?_
  refine p 2 ?_
  refine rend ?_
  refine c_or (decide (a0 ≤ 0)) (fun q1 => ?_) (fun q1 => ?_)
  · replace h := H.t q1 h
    refine c_seq ?_
    refine r_start ?_
    refine p 1 ?_
    refine rend ?_
    replace h := H.done h
    subst h
    exact ret func55 rfl (vs := [.string (bs ([109, 48] : Str))]) (.tmp (by kernel_rfl) .nil) rfl (fun W S => ⟨rfl, S.below⟩)
  replace h := H.f q1 h
  refine c_skip ?_
  refine c_seq ?_
  refine r_start ?_
  refine p 1 ?_
  refine rend ?_
  refine c_seq ?_
  refine c_block ?_
  refine joinH (X := Str) 0 (H.bnd h) (fun (x : Str) => x) (fun t4 => []) (fun t4 u => (jk u 0 3 (.string (bs t4) :: (jk u 4 16 [])))) (fun h hj5 => ?_) ?_
  · skip
    refine loopR (X := (Int × Str)) (fun (x : (Int × Str)) => x) (fun ⟨n2, t3⟩ => []) (fun ⟨n2, t3⟩ u => (.int .i64 n2 :: (jk u 1 2 (.string (bs t3) :: (jk u 4 16 []))))) (a0, ([] : Str)) h (by kernel_rfl) (by kernel_rfl) ?_
    intro x u h
    obtain ⟨n2, t3⟩ := x
    refine c_seq ?_
    refine c_seq ?_
    refine r_start ?_
    refine p 2 ?_
    refine rend ?_
    refine c_or (decide (n2 > 0)) (fun q6 => ?_) (fun q6 => ?_)
    · replace h := H.t q6 h
      refine c_skip ?_
      refine c_block ?_
      refine c_seq ?_
      refine r_start ?_
      refine p 4 ?_
      refine xx rfl (e_lit (e := (eI .u8)) (el := 5) [.int .u8 (wk .u8 (wr (48 + (Int.tmod n2 10))))] ([(wk .u8 (wr (48 + (Int.tmod n2 10))))] : List Int) fun A5_4 k5_4 => ?_)
      refine xq rfl (y_conv (el := 5) (s_own 0)) ?_
      refine p 1 ?_
      obtain ⟨y5_7, hy5_7, h⟩ := H.call h
      refine xq rfl (y_cat hy5_7) ?_
      refine p 1 ?_
      refine rend ?_
      refine r_start ?_
      refine p 3 ?_
      refine rend ?_
      refine c_inb ?_
      replace h := H.inl h
      exact h ((wr (Int.tdiv n2 10)), y5_7) _ _ rfl (by kernel_rfl) (by kernel_rfl)
    replace h := H.f q6 h
    refine cx ?_
    replace h := H.inr h
    exact hj5 t3 _ _ h (by kernel_rfl) (by kernel_rfl)
  intro t4 u h
  refine c_seq ?_
  refine r_start ?_
  refine p 1 ?_
  obtain ⟨y7_1, hy7_1, h⟩ := H.call h
  refine xq rfl (y_cat hy7_1) ?_
  refine p 1 ?_
  refine rend ?_
  replace h := H.done h
  subst h
  exact ret func55 rfl (vs := [.string (bs y7_1)]) (.tmp (by kernel_rfl) .nil) rfl (fun W S => ⟨rfl, S.below⟩)
theorem C.l_markSignS {fu : Nat} {a0 : (List Sign)} {A0 : Option Addr} {k0 B0 n0 : Nat} {a1 : Int} {r : (Int × (List Sign))} (w : World) (h : X.l_markSignS fu a0 a1 = some r) (hn0 : List.length a0 = n0) (h0 : World.ownsRow w B0 47 (Enc.sz nSign) (.slice A0 n0 k0) n0 (Enc.flat nSign a0)) : Calls prog 21 #[.slice A0 (n0) k0, .int .i64 a1] w (RetW nSign B0 47 A0 n0 k0 w r.2 (.int .i64 r.1)) := by
  subst hn0
  refine callsW (args := [.slice A0 (List.length a0) k0, .int .i64 a1]) rfl h0 func21 rfl ?_
  replace h : H (X.l_markSignS fu a0 a1) (fun o => o = r) := H.mk h
  unfold X.l_markSignS at h
  refine c_seq ?_
  refine r_start ?_
  refine p 1 ?_
  refine rend ?_
  refine c_seq ?_
  refine c_seq ?_
  refine r_start ?_
  refine p 1 ?_
  refine rend ?_
  refine c_block ?_
  refine joinH (X := (Int × (List Sign))) 0 (H.bnd h) (fun (x : (Int × (List Sign))) => x) (fun ⟨n4, l5⟩ => [argW nSign B0 47 A0 (List.length a0) k0 l5]) (fun ⟨n4, l5⟩ u => (jk u 0 1 (.int .i64 n4 :: (jk u 2 264 [])))) (fun h hj6 => ?_) ?_
  · skip
    refine loopR (X := (Int × Int × (List Sign))) (fun (x : (Int × Int × (List Sign))) => x) (fun ⟨n1, n2, l3⟩ => [argW nSign B0 47 A0 (List.length a0) k0 l3]) (fun ⟨n1, n2, l3⟩ u => (.slice A0 (List.length a0) k0 :: .int .i64 n1 :: (jk u 2 3 (.int .i64 n2 :: (jk u 6 260 []))))) (a1, 0, a0) h (by kernel_rfl) (by kernel_rfl) ?_
    intro x u h
    obtain ⟨n1, n2, l3⟩ := x
    refine c_seq ?_
    refine c_seq ?_
    refine r_start ?_
    refine p 4 ?_
    refine rend ?_
    refine c_or (decide (n2 < (List.length a0 : Int))) (fun q7 => ?_) (fun q7 => ?_)
    · replace h := H.t q7 h
      refine c_skip ?_
      refine c_seq ?_
      refine c_block ?_
      refine c_seq ?_
      refine r_start ?_
      refine p 3 ?_
      obtain ⟨y4_3, hy4_3, h⟩ := H.call h
      refine xq rfl (y_idxW (e := nSign) (el := 47) 0 hy4_3) ?_
      refine p 3 ?_
      refine xx rfl (e_stW (e := nSign) (b := { y4_3 with Main := { y4_3.Main with Shape := { y4_3.Main.Shape with Thumb := n1 } } }) 0 0 ([.int .i64 n1]) hy4_3 (by kernel_rfl) ?_)
      refine rend ?_
      refine c_seq ?_
      refine r_start ?_
      refine p 3 ?_
      refine rend ?_
      refine c_seq ?_
      refine r_start ?_
      refine p 3 ?_
      refine xq rfl (y_idxW (e := nSign) (el := 47) 0 (getI_set hy4_3)) ?_
      refine p 3 ?_
      refine xx rfl (e_stW2 (e := nSign) (a := { y4_3 with Main := { y4_3.Main with Shape := { y4_3.Main.Shape with Thumb := n1 } } }) (b := { y4_3 with Main := { y4_3.Main with Shape := { y4_3.Main.Shape with Thumb := n1, Index := (wr (n1 + 1)) } } }) 0 1 ([.int .i64 (wr (n1 + 1))]) hy4_3 (by kernel_rfl) ?_)
      refine rend ?_
      refine c_seq ?_
      refine r_start ?_
      refine p 3 ?_
      refine rend ?_
      refine c_seq ?_
      refine r_start ?_
      refine p 3 ?_
      refine xq rfl (y_idxW (e := nSign) (el := 47) 0 (getI_set hy4_3)) ?_
      refine p 3 ?_
      refine xx rfl (e_stW2 (e := nSign) (a := { y4_3 with Main := { y4_3.Main with Shape := { y4_3.Main.Shape with Thumb := n1, Index := (wr (n1 + 1)) } } }) (b := { y4_3 with Main := { y4_3.Main with Shape := { y4_3.Main.Shape with Thumb := n1, Index := (wr (n1 + 1)), Middle := (wr ((wr (n1 + 1)) + 1)) } } }) 0 2 ([.int .i64 (wr ((wr (n1 + 1)) + 1))]) hy4_3 (by kernel_rfl) ?_)
      refine rend ?_
      refine c_seq ?_
      refine r_start ?_
      refine p 3 ?_
      refine rend ?_
      refine c_seq ?_
      refine r_start ?_
      refine p 3 ?_
      refine xq rfl (y_idxW (e := nSign) (el := 47) 0 (getI_set hy4_3)) ?_
      refine p 3 ?_
      refine xx rfl (e_stW2 (e := nSign) (a := { y4_3 with Main := { y4_3.Main with Shape := { y4_3.Main.Shape with Thumb := n1, Index := (wr (n1 + 1)), Middle := (wr ((wr (n1 + 1)) + 1)) } } }) (b := { y4_3 with Main := { y4_3.Main with Shape := (⟨n1, (wr (n1 + 1)), (wr ((wr (n1 + 1)) + 1)), (wr ((wr ((wr (n1 + 1)) + 1)) + 1)), y4_3.Main.Shape.Little, y4_3.Main.Shape.Spread⟩ : Shape) } }) 0 3 ([.int .i64 (wr ((wr ((wr (n1 + 1)) + 1)) + 1))]) hy4_3 (by kernel_rfl) ?_)
      refine rend ?_
      refine c_seq ?_
      refine r_start ?_
      refine p 3 ?_
      refine rend ?_
      refine c_seq ?_
      refine r_start ?_
      refine p 3 ?_
      refine xq rfl (y_idxW (e := nSign) (el := 47) 0 (getI_set hy4_3)) ?_
      refine p 3 ?_
      refine xx rfl (e_stW2 (e := nSign) (a := { y4_3 with Main := { y4_3.Main with Shape := (⟨n1, (wr (n1 + 1)), (wr ((wr (n1 + 1)) + 1)), (wr ((wr ((wr (n1 + 1)) + 1)) + 1)), y4_3.Main.Shape.Little, y4_3.Main.Shape.Spread⟩ : Shape) } }) (b := { y4_3 with Main := { y4_3.Main with Shape := (⟨n1, (wr (n1 + 1)), (wr ((wr (n1 + 1)) + 1)), (wr ((wr ((wr (n1 + 1)) + 1)) + 1)), (wr ((wr ((wr ((wr (n1 + 1)) + 1)) + 1)) + 1)), y4_3.Main.Shape.Spread⟩ : Shape) } }) 0 4 ([.int .i64 (wr ((wr ((wr ((wr (n1 + 1)) + 1)) + 1)) + 1))]) hy4_3 (by kernel_rfl) ?_)
      refine rend ?_
      refine frg (fun u => (.slice A0 (List.length a0) k0 :: .int .i64 (wr ((wr ((wr ((wr (n1 + 1)) + 1)) + 1)) + 1)) :: (jk u 2 3 (.int .i64 n2 :: (jk u 6 260 []))))) (by kernel_rfl) fun u => ?_
      refine keep 1 (its' := [argW nSign B0 47 A0 (List.length a0) k0 (List.set l3 (Int.toNat n2) ({ y4_3 with Main := { y4_3.Main with Shape := (⟨n1, (wr (n1 + 1)), (wr ((wr (n1 + 1)) + 1)), (wr ((wr ((wr (n1 + 1)) + 1)) + 1)), (wr ((wr ((wr ((wr (n1 + 1)) + 1)) + 1)) + 1)), y4_3.Main.Shape.Spread⟩ : Shape) } }))]) (by kernel_rfl) ?_
      refine c_seq ?_
      refine r_start ?_
      refine p 3 ?_
      refine rend ?_
      refine c_seq ?_
      refine r_start ?_
      refine p 5 ?_
      refine xq rfl (y_idxW (e := nSign) (el := 47) 0 (getI_set hy4_3)) ?_
      refine p 3 ?_
      refine xx rfl (e_stW2 (e := nSign) (a := { y4_3 with Main := { y4_3.Main with Shape := (⟨n1, (wr (n1 + 1)), (wr ((wr (n1 + 1)) + 1)), (wr ((wr ((wr (n1 + 1)) + 1)) + 1)), (wr ((wr ((wr ((wr (n1 + 1)) + 1)) + 1)) + 1)), y4_3.Main.Shape.Spread⟩ : Shape) } }) (b := { y4_3 with Main := { y4_3.Main with Shape := (⟨n1, (wr (n1 + 1)), (wr ((wr (n1 + 1)) + 1)), (wr ((wr ((wr (n1 + 1)) + 1)) + 1)), (wr ((wr ((wr ((wr (n1 + 1)) + 1)) + 1)) + 1)), ((Int.tmod (wr ((wr ((wr ((wr ((wr (n1 + 1)) + 1)) + 1)) + 1)) + 1)) 3) == 0)⟩ : Shape) } }) 0 5 ([.bool ((Int.tmod (wr ((wr ((wr ((wr ((wr (n1 + 1)) + 1)) + 1)) + 1)) + 1)) 3) == 0)]) hy4_3 (by kernel_rfl) ?_)
      refine rend ?_
      refine c_seq ?_
      refine r_start ?_
      refine p 3 ?_
      refine rend ?_
      refine c_seq ?_
      refine r_start ?_
      refine p 3 ?_
      refine xq rfl (y_idxW (e := nSign) (el := 47) 0 (getI_set hy4_3)) ?_
      refine p 3 ?_
      refine xx rfl (e_stW2 (e := nSign) (a := { y4_3 with Main := { y4_3.Main with Shape := (⟨n1, (wr (n1 + 1)), (wr ((wr (n1 + 1)) + 1)), (wr ((wr ((wr (n1 + 1)) + 1)) + 1)), (wr ((wr ((wr ((wr (n1 + 1)) + 1)) + 1)) + 1)), ((Int.tmod (wr ((wr ((wr ((wr ((wr (n1 + 1)) + 1)) + 1)) + 1)) + 1)) 3) == 0)⟩ : Shape) } }) (b := { y4_3 with Main := { y4_3.Main with Shape := (⟨n1, (wr (n1 + 1)), (wr ((wr (n1 + 1)) + 1)), (wr ((wr ((wr (n1 + 1)) + 1)) + 1)), (wr ((wr ((wr ((wr (n1 + 1)) + 1)) + 1)) + 1)), ((Int.tmod (wr ((wr ((wr ((wr ((wr (n1 + 1)) + 1)) + 1)) + 1)) + 1)) 3) == 0)⟩ : Shape), Orient := { y4_3.Main.Orient with Palm := (wr ((wr ((wr ((wr ((wr ((wr (n1 + 1)) + 1)) + 1)) + 1)) + 1)) + 1)) } } }) 0 6 ([.int .i64 (wr ((wr ((wr ((wr ((wr ((wr (n1 + 1)) + 1)) + 1)) + 1)) + 1)) + 1))]) hy4_3 (by kernel_rfl) ?_)
      refine rend ?_
      refine c_seq ?_
      refine r_start ?_
      refine p 3 ?_
      refine rend ?_
      refine c_seq ?_
      refine r_start ?_
      refine p 3 ?_
      refine xq rfl (y_idxW (e := nSign) (el := 47) 0 (getI_set hy4_3)) ?_
      refine p 3 ?_
      refine xx rfl (e_stW2 (e := nSign) (a := { y4_3 with Main := { y4_3.Main with Shape := (⟨n1, (wr (n1 + 1)), (wr ((wr (n1 + 1)) + 1)), (wr ((wr ((wr (n1 + 1)) + 1)) + 1)), (wr ((wr ((wr ((wr (n1 + 1)) + 1)) + 1)) + 1)), ((Int.tmod (wr ((wr ((wr ((wr ((wr (n1 + 1)) + 1)) + 1)) + 1)) + 1)) 3) == 0)⟩ : Shape), Orient := { y4_3.Main.Orient with Palm := (wr ((wr ((wr ((wr ((wr ((wr (n1 + 1)) + 1)) + 1)) + 1)) + 1)) + 1)) } } }) (b := { y4_3 with Main := { y4_3.Main with Shape := (⟨n1, (wr (n1 + 1)), (wr ((wr (n1 + 1)) + 1)), (wr ((wr ((wr (n1 + 1)) + 1)) + 1)), (wr ((wr ((wr ((wr (n1 + 1)) + 1)) + 1)) + 1)), ((Int.tmod (wr ((wr ((wr ((wr ((wr (n1 + 1)) + 1)) + 1)) + 1)) + 1)) 3) == 0)⟩ : Shape), Orient := (⟨(wr ((wr ((wr ((wr ((wr ((wr (n1 + 1)) + 1)) + 1)) + 1)) + 1)) + 1)), (wr ((wr ((wr ((wr ((wr ((wr ((wr (n1 + 1)) + 1)) + 1)) + 1)) + 1)) + 1)) + 1))⟩ : Orient) } }) 0 7 ([.int .i64 (wr ((wr ((wr ((wr ((wr ((wr ((wr (n1 + 1)) + 1)) + 1)) + 1)) + 1)) + 1)) + 1))]) hy4_3 (by kernel_rfl) ?_)
      refine rend ?_
      refine c_seq ?_
      refine r_start ?_
      refine p 3 ?_
      refine rend ?_
      refine c_seq ?_
      refine r_start ?_
      refine p 3 ?_
      refine xq rfl (y_idxW (e := nSign) (el := 47) 0 (getI_set hy4_3)) ?_
      refine p 3 ?_
      refine xx rfl (e_stW2 (e := nSign) (a := { y4_3 with Main := { y4_3.Main with Shape := (⟨n1, (wr (n1 + 1)), (wr ((wr (n1 + 1)) + 1)), (wr ((wr ((wr (n1 + 1)) + 1)) + 1)), (wr ((wr ((wr ((wr (n1 + 1)) + 1)) + 1)) + 1)), ((Int.tmod (wr ((wr ((wr ((wr ((wr (n1 + 1)) + 1)) + 1)) + 1)) + 1)) 3) == 0)⟩ : Shape), Orient := (⟨(wr ((wr ((wr ((wr ((wr ((wr (n1 + 1)) + 1)) + 1)) + 1)) + 1)) + 1)), (wr ((wr ((wr ((wr ((wr ((wr ((wr (n1 + 1)) + 1)) + 1)) + 1)) + 1)) + 1)) + 1))⟩ : Orient) } }) (b := { y4_3 with Main := (⟨(⟨n1, (wr (n1 + 1)), (wr ((wr (n1 + 1)) + 1)), (wr ((wr ((wr (n1 + 1)) + 1)) + 1)), (wr ((wr ((wr ((wr (n1 + 1)) + 1)) + 1)) + 1)), ((Int.tmod (wr ((wr ((wr ((wr ((wr (n1 + 1)) + 1)) + 1)) + 1)) + 1)) 3) == 0)⟩ : Shape), (⟨(wr ((wr ((wr ((wr ((wr ((wr (n1 + 1)) + 1)) + 1)) + 1)) + 1)) + 1)), (wr ((wr ((wr ((wr ((wr ((wr ((wr (n1 + 1)) + 1)) + 1)) + 1)) + 1)) + 1)) + 1))⟩ : Orient), { y4_3.Main.Place with Region := (wr ((wr ((wr ((wr ((wr ((wr ((wr ((wr (n1 + 1)) + 1)) + 1)) + 1)) + 1)) + 1)) + 1)) + 1)) }, y4_3.Main.Move⟩ : Hand) }) 0 8 ([.int .i64 (wr ((wr ((wr ((wr ((wr ((wr ((wr ((wr (n1 + 1)) + 1)) + 1)) + 1)) + 1)) + 1)) + 1)) + 1))]) hy4_3 (by kernel_rfl) ?_)
      refine rend ?_
      refine c_seq ?_
      refine r_start ?_
      refine p 3 ?_
      refine rend ?_
      refine c_seq ?_
      refine r_start ?_
      refine p 3 ?_
      refine xq rfl (y_idxW (e := nSign) (el := 47) 0 (getI_set hy4_3)) ?_
      refine p 3 ?_
      refine xx rfl (e_stW2 (e := nSign) (a := { y4_3 with Main := (⟨(⟨n1, (wr (n1 + 1)), (wr ((wr (n1 + 1)) + 1)), (wr ((wr ((wr (n1 + 1)) + 1)) + 1)), (wr ((wr ((wr ((wr (n1 + 1)) + 1)) + 1)) + 1)), ((Int.tmod (wr ((wr ((wr ((wr ((wr (n1 + 1)) + 1)) + 1)) + 1)) + 1)) 3) == 0)⟩ : Shape), (⟨(wr ((wr ((wr ((wr ((wr ((wr (n1 + 1)) + 1)) + 1)) + 1)) + 1)) + 1)), (wr ((wr ((wr ((wr ((wr ((wr ((wr (n1 + 1)) + 1)) + 1)) + 1)) + 1)) + 1)) + 1))⟩ : Orient), { y4_3.Main.Place with Region := (wr ((wr ((wr ((wr ((wr ((wr ((wr ((wr (n1 + 1)) + 1)) + 1)) + 1)) + 1)) + 1)) + 1)) + 1)) }, y4_3.Main.Move⟩ : Hand) }) (b := { y4_3 with Main := (⟨(⟨n1, (wr (n1 + 1)), (wr ((wr (n1 + 1)) + 1)), (wr ((wr ((wr (n1 + 1)) + 1)) + 1)), (wr ((wr ((wr ((wr (n1 + 1)) + 1)) + 1)) + 1)), ((Int.tmod (wr ((wr ((wr ((wr ((wr (n1 + 1)) + 1)) + 1)) + 1)) + 1)) 3) == 0)⟩ : Shape), (⟨(wr ((wr ((wr ((wr ((wr ((wr (n1 + 1)) + 1)) + 1)) + 1)) + 1)) + 1)), (wr ((wr ((wr ((wr ((wr ((wr ((wr (n1 + 1)) + 1)) + 1)) + 1)) + 1)) + 1)) + 1))⟩ : Orient), (⟨(wr ((wr ((wr ((wr ((wr ((wr ((wr ((wr (n1 + 1)) + 1)) + 1)) + 1)) + 1)) + 1)) + 1)) + 1)), (wr ((wr ((wr ((wr ((wr ((wr ((wr ((wr ((wr (n1 + 1)) + 1)) + 1)) + 1)) + 1)) + 1)) + 1)) + 1)) + 1)), y4_3.Main.Place.Contact⟩ : Place), y4_3.Main.Move⟩ : Hand) }) 0 9 ([.int .i64 (wr ((wr ((wr ((wr ((wr ((wr ((wr ((wr ((wr (n1 + 1)) + 1)) + 1)) + 1)) + 1)) + 1)) + 1)) + 1)) + 1))]) hy4_3 (by kernel_rfl) ?_)
      refine rend ?_
      refine c_seq ?_
      refine r_start ?_
      refine p 3 ?_
      refine rend ?_
      refine c_seq ?_
      refine r_start ?_
      refine p 5 ?_
      refine xq rfl (y_idxW (e := nSign) (el := 47) 0 (getI_set hy4_3)) ?_
      refine p 3 ?_
      refine xx rfl (e_stW2 (e := nSign) (a := { y4_3 with Main := (⟨(⟨n1, (wr (n1 + 1)), (wr ((wr (n1 + 1)) + 1)), (wr ((wr ((wr (n1 + 1)) + 1)) + 1)), (wr ((wr ((wr ((wr (n1 + 1)) + 1)) + 1)) + 1)), ((Int.tmod (wr ((wr ((wr ((wr ((wr (n1 + 1)) + 1)) + 1)) + 1)) + 1)) 3) == 0)⟩ : Shape), (⟨(wr ((wr ((wr ((wr ((wr ((wr (n1 + 1)) + 1)) + 1)) + 1)) + 1)) + 1)), (wr ((wr ((wr ((wr ((wr ((wr ((wr (n1 + 1)) + 1)) + 1)) + 1)) + 1)) + 1)) + 1))⟩ : Orient), (⟨(wr ((wr ((wr ((wr ((wr ((wr ((wr ((wr (n1 + 1)) + 1)) + 1)) + 1)) + 1)) + 1)) + 1)) + 1)), (wr ((wr ((wr ((wr ((wr ((wr ((wr ((wr ((wr (n1 + 1)) + 1)) + 1)) + 1)) + 1)) + 1)) + 1)) + 1)) + 1)), y4_3.Main.Place.Contact⟩ : Place), y4_3.Main.Move⟩ : Hand) }) (b := { y4_3 with Main := (⟨(⟨n1, (wr (n1 + 1)), (wr ((wr (n1 + 1)) + 1)), (wr ((wr ((wr (n1 + 1)) + 1)) + 1)), (wr ((wr ((wr ((wr (n1 + 1)) + 1)) + 1)) + 1)), ((Int.tmod (wr ((wr ((wr ((wr ((wr (n1 + 1)) + 1)) + 1)) + 1)) + 1)) 3) == 0)⟩ : Shape), (⟨(wr ((wr ((wr ((wr ((wr ((wr (n1 + 1)) + 1)) + 1)) + 1)) + 1)) + 1)), (wr ((wr ((wr ((wr ((wr ((wr ((wr (n1 + 1)) + 1)) + 1)) + 1)) + 1)) + 1)) + 1))⟩ : Orient), (⟨(wr ((wr ((wr ((wr ((wr ((wr ((wr ((wr (n1 + 1)) + 1)) + 1)) + 1)) + 1)) + 1)) + 1)) + 1)), (wr ((wr ((wr ((wr ((wr ((wr ((wr ((wr ((wr (n1 + 1)) + 1)) + 1)) + 1)) + 1)) + 1)) + 1)) + 1)) + 1)), ((Int.tmod (wr ((wr ((wr ((wr ((wr ((wr ((wr ((wr ((wr ((wr (n1 + 1)) + 1)) + 1)) + 1)) + 1)) + 1)) + 1)) + 1)) + 1)) + 1)) 3) == 0)⟩ : Place), y4_3.Main.Move⟩ : Hand) }) 0 10 ([.bool ((Int.tmod (wr ((wr ((wr ((wr ((wr ((wr ((wr ((wr ((wr ((wr (n1 + 1)) + 1)) + 1)) + 1)) + 1)) + 1)) + 1)) + 1)) + 1)) + 1)) 3) == 0)]) hy4_3 (by kernel_rfl) ?_)
      refine rend ?_
      refine frg (fun u => (.slice A0 (List.length a0) k0 :: .int .i64 (wr ((wr ((wr ((wr ((wr ((wr ((wr ((wr ((wr ((wr (n1 + 1)) + 1)) + 1)) + 1)) + 1)) + 1)) + 1)) + 1)) + 1)) + 1)) :: (jk u 2 3 (.int .i64 n2 :: (jk u 6 260 []))))) (by kernel_rfl) fun u => ?_
      refine keep 1 (its' := [argW nSign B0 47 A0 (List.length a0) k0 (List.set l3 (Int.toNat n2) ({ y4_3 with Main := (⟨(⟨n1, (wr (n1 + 1)), (wr ((wr (n1 + 1)) + 1)), (wr ((wr ((wr (n1 + 1)) + 1)) + 1)), (wr ((wr ((wr ((wr (n1 + 1)) + 1)) + 1)) + 1)), ((Int.tmod (wr ((wr ((wr ((wr ((wr (n1 + 1)) + 1)) + 1)) + 1)) + 1)) 3) == 0)⟩ : Shape), (⟨(wr ((wr ((wr ((wr ((wr ((wr (n1 + 1)) + 1)) + 1)) + 1)) + 1)) + 1)), (wr ((wr ((wr ((wr ((wr ((wr ((wr (n1 + 1)) + 1)) + 1)) + 1)) + 1)) + 1)) + 1))⟩ : Orient), (⟨(wr ((wr ((wr ((wr ((wr ((wr ((wr ((wr (n1 + 1)) + 1)) + 1)) + 1)) + 1)) + 1)) + 1)) + 1)), (wr ((wr ((wr ((wr ((wr ((wr ((wr ((wr ((wr (n1 + 1)) + 1)) + 1)) + 1)) + 1)) + 1)) + 1)) + 1)) + 1)), ((Int.tmod (wr ((wr ((wr ((wr ((wr ((wr ((wr ((wr ((wr ((wr (n1 + 1)) + 1)) + 1)) + 1)) + 1)) + 1)) + 1)) + 1)) + 1)) + 1)) 3) == 0)⟩ : Place), y4_3.Main.Move⟩ : Hand) }))]) (by kernel_rfl) ?_
      refine c_seq ?_
      refine r_start ?_
      refine p 3 ?_
      refine rend ?_
      refine c_seq ?_
      refine r_start ?_
      refine p 3 ?_
      obtain ⟨v26_3, hv26_3, h⟩ := H.call h
      refine xq rfl (y_call [.int .i64 (wr ((wr ((wr ((wr ((wr ((wr ((wr ((wr ((wr ((wr ((wr (n1 + 1)) + 1)) + 1)) + 1)) + 1)) + 1)) + 1)) + 1)) + 1)) + 1)) + 1))] (.string (bs v26_3)) func55 (fun W S => C.l_markText W hv26_3)) ?_
      refine xq rfl (y_idxW (e := nSign) (el := 47) 0 (getI_set hy4_3)) ?_
      refine p 3 ?_
      refine xx rfl (e_stW2 (e := nSign) (a := { y4_3 with Main := (⟨(⟨n1, (wr (n1 + 1)), (wr ((wr (n1 + 1)) + 1)), (wr ((wr ((wr (n1 + 1)) + 1)) + 1)), (wr ((wr ((wr ((wr (n1 + 1)) + 1)) + 1)) + 1)), ((Int.tmod (wr ((wr ((wr ((wr ((wr (n1 + 1)) + 1)) + 1)) + 1)) + 1)) 3) == 0)⟩ : Shape), (⟨(wr ((wr ((wr ((wr ((wr ((wr (n1 + 1)) + 1)) + 1)) + 1)) + 1)) + 1)), (wr ((wr ((wr ((wr ((wr ((wr ((wr (n1 + 1)) + 1)) + 1)) + 1)) + 1)) + 1)) + 1))⟩ : Orient), (⟨(wr ((wr ((wr ((wr ((wr ((wr ((wr ((wr (n1 + 1)) + 1)) + 1)) + 1)) + 1)) + 1)) + 1)) + 1)), (wr ((wr ((wr ((wr ((wr ((wr ((wr ((wr ((wr (n1 + 1)) + 1)) + 1)) + 1)) + 1)) + 1)) + 1)) + 1)) + 1)), ((Int.tmod (wr ((wr ((wr ((wr ((wr ((wr ((wr ((wr ((wr ((wr (n1 + 1)) + 1)) + 1)) + 1)) + 1)) + 1)) + 1)) + 1)) + 1)) + 1)) 3) == 0)⟩ : Place), y4_3.Main.Move⟩ : Hand) }) (b := { y4_3 with Main := (⟨(⟨n1, (wr (n1 + 1)), (wr ((wr (n1 + 1)) + 1)), (wr ((wr ((wr (n1 + 1)) + 1)) + 1)), (wr ((wr ((wr ((wr (n1 + 1)) + 1)) + 1)) + 1)), ((Int.tmod (wr ((wr ((wr ((wr ((wr (n1 + 1)) + 1)) + 1)) + 1)) + 1)) 3) == 0)⟩ : Shape), (⟨(wr ((wr ((wr ((wr ((wr ((wr (n1 + 1)) + 1)) + 1)) + 1)) + 1)) + 1)), (wr ((wr ((wr ((wr ((wr ((wr ((wr (n1 + 1)) + 1)) + 1)) + 1)) + 1)) + 1)) + 1))⟩ : Orient), (⟨(wr ((wr ((wr ((wr ((wr ((wr ((wr ((wr (n1 + 1)) + 1)) + 1)) + 1)) + 1)) + 1)) + 1)) + 1)), (wr ((wr ((wr ((wr ((wr ((wr ((wr ((wr ((wr (n1 + 1)) + 1)) + 1)) + 1)) + 1)) + 1)) + 1)) + 1)) + 1)), ((Int.tmod (wr ((wr ((wr ((wr ((wr ((wr ((wr ((wr ((wr ((wr (n1 + 1)) + 1)) + 1)) + 1)) + 1)) + 1)) + 1)) + 1)) + 1)) + 1)) 3) == 0)⟩ : Place), { y4_3.Main.Move with Steps := v26_3 }⟩ : Hand) }) 0 11 ([.string (bs v26_3)]) hy4_3 (by kernel_rfl) ?_)
      refine rend ?_
      refine c_seq ?_
      refine r_start ?_
      refine p 3 ?_
      refine rend ?_
      refine c_seq ?_
      refine r_start ?_
      refine p 3 ?_
      refine xq rfl (y_idxW (e := nSign) (el := 47) 0 (getI_set hy4_3)) ?_
      refine p 3 ?_
      refine xx rfl (e_stW2 (e := nSign) (a := { y4_3 with Main := (⟨(⟨n1, (wr (n1 + 1)), (wr ((wr (n1 + 1)) + 1)), (wr ((wr ((wr (n1 + 1)) + 1)) + 1)), (wr ((wr ((wr ((wr (n1 + 1)) + 1)) + 1)) + 1)), ((Int.tmod (wr ((wr ((wr ((wr ((wr (n1 + 1)) + 1)) + 1)) + 1)) + 1)) 3) == 0)⟩ : Shape), (⟨(wr ((wr ((wr ((wr ((wr ((wr (n1 + 1)) + 1)) + 1)) + 1)) + 1)) + 1)), (wr ((wr ((wr ((wr ((wr ((wr ((wr (n1 + 1)) + 1)) + 1)) + 1)) + 1)) + 1)) + 1))⟩ : Orient), (⟨(wr ((wr ((wr ((wr ((wr ((wr ((wr ((wr (n1 + 1)) + 1)) + 1)) + 1)) + 1)) + 1)) + 1)) + 1)), (wr ((wr ((wr ((wr ((wr ((wr ((wr ((wr ((wr (n1 + 1)) + 1)) + 1)) + 1)) + 1)) + 1)) + 1)) + 1)) + 1)), ((Int.tmod (wr ((wr ((wr ((wr ((wr ((wr ((wr ((wr ((wr ((wr (n1 + 1)) + 1)) + 1)) + 1)) + 1)) + 1)) + 1)) + 1)) + 1)) + 1)) 3) == 0)⟩ : Place), { y4_3.Main.Move with Steps := v26_3 }⟩ : Hand) }) (b := { y4_3 with Main := (⟨(⟨n1, (wr (n1 + 1)), (wr ((wr (n1 + 1)) + 1)), (wr ((wr ((wr (n1 + 1)) + 1)) + 1)), (wr ((wr ((wr ((wr (n1 + 1)) + 1)) + 1)) + 1)), ((Int.tmod (wr ((wr ((wr ((wr ((wr (n1 + 1)) + 1)) + 1)) + 1)) + 1)) 3) == 0)⟩ : Shape), (⟨(wr ((wr ((wr ((wr ((wr ((wr (n1 + 1)) + 1)) + 1)) + 1)) + 1)) + 1)), (wr ((wr ((wr ((wr ((wr ((wr ((wr (n1 + 1)) + 1)) + 1)) + 1)) + 1)) + 1)) + 1))⟩ : Orient), (⟨(wr ((wr ((wr ((wr ((wr ((wr ((wr ((wr (n1 + 1)) + 1)) + 1)) + 1)) + 1)) + 1)) + 1)) + 1)), (wr ((wr ((wr ((wr ((wr ((wr ((wr ((wr ((wr (n1 + 1)) + 1)) + 1)) + 1)) + 1)) + 1)) + 1)) + 1)) + 1)), ((Int.tmod (wr ((wr ((wr ((wr ((wr ((wr ((wr ((wr ((wr ((wr (n1 + 1)) + 1)) + 1)) + 1)) + 1)) + 1)) + 1)) + 1)) + 1)) + 1)) 3) == 0)⟩ : Place), (⟨v26_3, (wr ((wr ((wr ((wr ((wr ((wr ((wr ((wr ((wr ((wr ((wr ((wr (n1 + 1)) + 1)) + 1)) + 1)) + 1)) + 1)) + 1)) + 1)) + 1)) + 1)) + 1)) + 1))⟩ : Move)⟩ : Hand) }) 0 12 ([.int .i64 (wr ((wr ((wr ((wr ((wr ((wr ((wr ((wr ((wr ((wr ((wr ((wr (n1 + 1)) + 1)) + 1)) + 1)) + 1)) + 1)) + 1)) + 1)) + 1)) + 1)) + 1)) + 1))]) hy4_3 (by kernel_rfl) ?_)
      refine rend ?_
      refine c_seq ?_
      refine r_start ?_
      refine p 3 ?_
      refine rend ?_
      refine c_seq ?_
      refine r_start ?_
      refine p 5 ?_
      refine xq rfl (y_idxW (e := nSign) (el := 47) 0 (getI_set hy4_3)) ?_
      refine p 1 ?_
      refine xx rfl (e_stW2 (e := nSign) (a := { y4_3 with Main := (⟨(⟨n1, (wr (n1 + 1)), (wr ((wr (n1 + 1)) + 1)), (wr ((wr ((wr (n1 + 1)) + 1)) + 1)), (wr ((wr ((wr ((wr (n1 + 1)) + 1)) + 1)) + 1)), ((Int.tmod (wr ((wr ((wr ((wr ((wr (n1 + 1)) + 1)) + 1)) + 1)) + 1)) 3) == 0)⟩ : Shape), (⟨(wr ((wr ((wr ((wr ((wr ((wr (n1 + 1)) + 1)) + 1)) + 1)) + 1)) + 1)), (wr ((wr ((wr ((wr ((wr ((wr ((wr (n1 + 1)) + 1)) + 1)) + 1)) + 1)) + 1)) + 1))⟩ : Orient), (⟨(wr ((wr ((wr ((wr ((wr ((wr ((wr ((wr (n1 + 1)) + 1)) + 1)) + 1)) + 1)) + 1)) + 1)) + 1)), (wr ((wr ((wr ((wr ((wr ((wr ((wr ((wr ((wr (n1 + 1)) + 1)) + 1)) + 1)) + 1)) + 1)) + 1)) + 1)) + 1)), ((Int.tmod (wr ((wr ((wr ((wr ((wr ((wr ((wr ((wr ((wr ((wr (n1 + 1)) + 1)) + 1)) + 1)) + 1)) + 1)) + 1)) + 1)) + 1)) + 1)) 3) == 0)⟩ : Place), (⟨v26_3, (wr ((wr ((wr ((wr ((wr ((wr ((wr ((wr ((wr ((wr ((wr ((wr (n1 + 1)) + 1)) + 1)) + 1)) + 1)) + 1)) + 1)) + 1)) + 1)) + 1)) + 1)) + 1))⟩ : Move)⟩ : Hand) }) (b := (⟨(⟨(⟨n1, (wr (n1 + 1)), (wr ((wr (n1 + 1)) + 1)), (wr ((wr ((wr (n1 + 1)) + 1)) + 1)), (wr ((wr ((wr ((wr (n1 + 1)) + 1)) + 1)) + 1)), ((Int.tmod (wr ((wr ((wr ((wr ((wr (n1 + 1)) + 1)) + 1)) + 1)) + 1)) 3) == 0)⟩ : Shape), (⟨(wr ((wr ((wr ((wr ((wr ((wr (n1 + 1)) + 1)) + 1)) + 1)) + 1)) + 1)), (wr ((wr ((wr ((wr ((wr ((wr ((wr (n1 + 1)) + 1)) + 1)) + 1)) + 1)) + 1)) + 1))⟩ : Orient), (⟨(wr ((wr ((wr ((wr ((wr ((wr ((wr ((wr (n1 + 1)) + 1)) + 1)) + 1)) + 1)) + 1)) + 1)) + 1)), (wr ((wr ((wr ((wr ((wr ((wr ((wr ((wr ((wr (n1 + 1)) + 1)) + 1)) + 1)) + 1)) + 1)) + 1)) + 1)) + 1)), ((Int.tmod (wr ((wr ((wr ((wr ((wr ((wr ((wr ((wr ((wr ((wr (n1 + 1)) + 1)) + 1)) + 1)) + 1)) + 1)) + 1)) + 1)) + 1)) + 1)) 3) == 0)⟩ : Place), (⟨v26_3, (wr ((wr ((wr ((wr ((wr ((wr ((wr ((wr ((wr ((wr ((wr ((wr (n1 + 1)) + 1)) + 1)) + 1)) + 1)) + 1)) + 1)) + 1)) + 1)) + 1)) + 1)) + 1))⟩ : Move)⟩ : Hand), ((Int.tmod (wr ((wr ((wr ((wr ((wr ((wr ((wr ((wr ((wr ((wr ((wr ((wr ((wr (n1 + 1)) + 1)) + 1)) + 1)) + 1)) + 1)) + 1)) + 1)) + 1)) + 1)) + 1)) + 1)) + 1)) 3) == 0), y4_3.Other⟩ : Sign)) 0 13 ([.bool ((Int.tmod (wr ((wr ((wr ((wr ((wr ((wr ((wr ((wr ((wr ((wr ((wr ((wr ((wr (n1 + 1)) + 1)) + 1)) + 1)) + 1)) + 1)) + 1)) + 1)) + 1)) + 1)) + 1)) + 1)) + 1)) 3) == 0)]) hy4_3 (by kernel_rfl) ?_)
      refine rend ?_
      refine c_seq ?_
      refine r_start ?_
      refine p 3 ?_
      refine rend ?_
      refine c_seq ?_
      refine r_start ?_
      refine p 3 ?_
      refine xq rfl (y_idxW (e := nSign) (el := 47) 0 (getI_set hy4_3)) ?_
      refine p 3 ?_
      refine xx rfl (e_stW2 (e := nSign) (a := (⟨(⟨(⟨n1, (wr (n1 + 1)), (wr ((wr (n1 + 1)) + 1)), (wr ((wr ((wr (n1 + 1)) + 1)) + 1)), (wr ((wr ((wr ((wr (n1 + 1)) + 1)) + 1)) + 1)), ((Int.tmod (wr ((wr ((wr ((wr ((wr (n1 + 1)) + 1)) + 1)) + 1)) + 1)) 3) == 0)⟩ : Shape), (⟨(wr ((wr ((wr ((wr ((wr ((wr (n1 + 1)) + 1)) + 1)) + 1)) + 1)) + 1)), (wr ((wr ((wr ((wr ((wr ((wr ((wr (n1 + 1)) + 1)) + 1)) + 1)) + 1)) + 1)) + 1))⟩ : Orient), (⟨(wr ((wr ((wr ((wr ((wr ((wr ((wr ((wr (n1 + 1)) + 1)) + 1)) + 1)) + 1)) + 1)) + 1)) + 1)), (wr ((wr ((wr ((wr ((wr ((wr ((wr ((wr ((wr (n1 + 1)) + 1)) + 1)) + 1)) + 1)) + 1)) + 1)) + 1)) + 1)), ((Int.tmod (wr ((wr ((wr ((wr ((wr ((wr ((wr ((wr ((wr ((wr (n1 + 1)) + 1)) + 1)) + 1)) + 1)) + 1)) + 1)) + 1)) + 1)) + 1)) 3) == 0)⟩ : Place), (⟨v26_3, (wr ((wr ((wr ((wr ((wr ((wr ((wr ((wr ((wr ((wr ((wr ((wr (n1 + 1)) + 1)) + 1)) + 1)) + 1)) + 1)) + 1)) + 1)) + 1)) + 1)) + 1)) + 1))⟩ : Move)⟩ : Hand), ((Int.tmod (wr ((wr ((wr ((wr ((wr ((wr ((wr ((wr ((wr ((wr ((wr ((wr ((wr (n1 + 1)) + 1)) + 1)) + 1)) + 1)) + 1)) + 1)) + 1)) + 1)) + 1)) + 1)) + 1)) + 1)) 3) == 0), y4_3.Other⟩ : Sign)) (b := (⟨(⟨(⟨n1, (wr (n1 + 1)), (wr ((wr (n1 + 1)) + 1)), (wr ((wr ((wr (n1 + 1)) + 1)) + 1)), (wr ((wr ((wr ((wr (n1 + 1)) + 1)) + 1)) + 1)), ((Int.tmod (wr ((wr ((wr ((wr ((wr (n1 + 1)) + 1)) + 1)) + 1)) + 1)) 3) == 0)⟩ : Shape), (⟨(wr ((wr ((wr ((wr ((wr ((wr (n1 + 1)) + 1)) + 1)) + 1)) + 1)) + 1)), (wr ((wr ((wr ((wr ((wr ((wr ((wr (n1 + 1)) + 1)) + 1)) + 1)) + 1)) + 1)) + 1))⟩ : Orient), (⟨(wr ((wr ((wr ((wr ((wr ((wr ((wr ((wr (n1 + 1)) + 1)) + 1)) + 1)) + 1)) + 1)) + 1)) + 1)), (wr ((wr ((wr ((wr ((wr ((wr ((wr ((wr ((wr (n1 + 1)) + 1)) + 1)) + 1)) + 1)) + 1)) + 1)) + 1)) + 1)), ((Int.tmod (wr ((wr ((wr ((wr ((wr ((wr ((wr ((wr ((wr ((wr (n1 + 1)) + 1)) + 1)) + 1)) + 1)) + 1)) + 1)) + 1)) + 1)) + 1)) 3) == 0)⟩ : Place), (⟨v26_3, (wr ((wr ((wr ((wr ((wr ((wr ((wr ((wr ((wr ((wr ((wr ((wr (n1 + 1)) + 1)) + 1)) + 1)) + 1)) + 1)) + 1)) + 1)) + 1)) + 1)) + 1)) + 1))⟩ : Move)⟩ : Hand), ((Int.tmod (wr ((wr ((wr ((wr ((wr ((wr ((wr ((wr ((wr ((wr ((wr ((wr ((wr (n1 + 1)) + 1)) + 1)) + 1)) + 1)) + 1)) + 1)) + 1)) + 1)) + 1)) + 1)) + 1)) + 1)) 3) == 0), { y4_3.Other with Shape := { y4_3.Other.Shape with Thumb := (wr ((wr ((wr ((wr ((wr ((wr ((wr ((wr ((wr ((wr ((wr ((wr ((wr ((wr (n1 + 1)) + 1)) + 1)) + 1)) + 1)) + 1)) + 1)) + 1)) + 1)) + 1)) + 1)) + 1)) + 1)) + 1)) } }⟩ : Sign)) 0 14 ([.int .i64 (wr ((wr ((wr ((wr ((wr ((wr ((wr ((wr ((wr ((wr ((wr ((wr ((wr ((wr (n1 + 1)) + 1)) + 1)) + 1)) + 1)) + 1)) + 1)) + 1)) + 1)) + 1)) + 1)) + 1)) + 1)) + 1))]) hy4_3 (by kernel_rfl) ?_)
      refine rend ?_
      refine c_seq ?_
      refine r_start ?_
      refine p 3 ?_
      refine rend ?_
      refine c_seq ?_
      refine r_start ?_
      refine p 3 ?_
      refine xq rfl (y_idxW (e := nSign) (el := 47) 0 (getI_set hy4_3)) ?_
      refine p 3 ?_
      refine xx rfl (e_stW2 (e := nSign) (a := (⟨(⟨(⟨n1, (wr (n1 + 1)), (wr ((wr (n1 + 1)) + 1)), (wr ((wr ((wr (n1 + 1)) + 1)) + 1)), (wr ((wr ((wr ((wr (n1 + 1)) + 1)) + 1)) + 1)), ((Int.tmod (wr ((wr ((wr ((wr ((wr (n1 + 1)) + 1)) + 1)) + 1)) + 1)) 3) == 0)⟩ : Shape), (⟨(wr ((wr ((wr ((wr ((wr ((wr (n1 + 1)) + 1)) + 1)) + 1)) + 1)) + 1)), (wr ((wr ((wr ((wr ((wr ((wr ((wr (n1 + 1)) + 1)) + 1)) + 1)) + 1)) + 1)) + 1))⟩ : Orient), (⟨(wr ((wr ((wr ((wr ((wr ((wr ((wr ((wr (n1 + 1)) + 1)) + 1)) + 1)) + 1)) + 1)) + 1)) + 1)), (wr ((wr ((wr ((wr ((wr ((wr ((wr ((wr ((wr (n1 + 1)) + 1)) + 1)) + 1)) + 1)) + 1)) + 1)) + 1)) + 1)), ((Int.tmod (wr ((wr ((wr ((wr ((wr ((wr ((wr ((wr ((wr ((wr (n1 + 1)) + 1)) + 1)) + 1)) + 1)) + 1)) + 1)) + 1)) + 1)) + 1)) 3) == 0)⟩ : Place), (⟨v26_3, (wr ((wr ((wr ((wr ((wr ((wr ((wr ((wr ((wr ((wr ((wr ((wr (n1 + 1)) + 1)) + 1)) + 1)) + 1)) + 1)) + 1)) + 1)) + 1)) + 1)) + 1)) + 1))⟩ : Move)⟩ : Hand), ((Int.tmod (wr ((wr ((wr ((wr ((wr ((wr ((wr ((wr ((wr ((wr ((wr ((wr ((wr (n1 + 1)) + 1)) + 1)) + 1)) + 1)) + 1)) + 1)) + 1)) + 1)) + 1)) + 1)) + 1)) + 1)) 3) == 0), { y4_3.Other with Shape := { y4_3.Other.Shape with Thumb := (wr ((wr ((wr ((wr ((wr ((wr ((wr ((wr ((wr ((wr ((wr ((wr ((wr ((wr (n1 + 1)) + 1)) + 1)) + 1)) + 1)) + 1)) + 1)) + 1)) + 1)) + 1)) + 1)) + 1)) + 1)) + 1)) } }⟩ : Sign)) (b := (⟨(⟨(⟨n1, (wr (n1 + 1)), (wr ((wr (n1 + 1)) + 1)), (wr ((wr ((wr (n1 + 1)) + 1)) + 1)), (wr ((wr ((wr ((wr (n1 + 1)) + 1)) + 1)) + 1)), ((Int.tmod (wr ((wr ((wr ((wr ((wr (n1 + 1)) + 1)) + 1)) + 1)) + 1)) 3) == 0)⟩ : Shape), (⟨(wr ((wr ((wr ((wr ((wr ((wr (n1 + 1)) + 1)) + 1)) + 1)) + 1)) + 1)), (wr ((wr ((wr ((wr ((wr ((wr ((wr (n1 + 1)) + 1)) + 1)) + 1)) + 1)) + 1)) + 1))⟩ : Orient), (⟨(wr ((wr ((wr ((wr ((wr ((wr ((wr ((wr (n1 + 1)) + 1)) + 1)) + 1)) + 1)) + 1)) + 1)) + 1)), (wr ((wr ((wr ((wr ((wr ((wr ((wr ((wr ((wr (n1 + 1)) + 1)) + 1)) + 1)) + 1)) + 1)) + 1)) + 1)) + 1)), ((Int.tmod (wr ((wr ((wr ((wr ((wr ((wr ((wr ((wr ((wr ((wr (n1 + 1)) + 1)) + 1)) + 1)) + 1)) + 1)) + 1)) + 1)) + 1)) + 1)) 3) == 0)⟩ : Place), (⟨v26_3, (wr ((wr ((wr ((wr ((wr ((wr ((wr ((wr ((wr ((wr ((wr ((wr (n1 + 1)) + 1)) + 1)) + 1)) + 1)) + 1)) + 1)) + 1)) + 1)) + 1)) + 1)) + 1))⟩ : Move)⟩ : Hand), ((Int.tmod (wr ((wr ((wr ((wr ((wr ((wr ((wr ((wr ((wr ((wr ((wr ((wr ((wr (n1 + 1)) + 1)) + 1)) + 1)) + 1)) + 1)) + 1)) + 1)) + 1)) + 1)) + 1)) + 1)) + 1)) 3) == 0), { y4_3.Other with Shape := { y4_3.Other.Shape with Thumb := (wr ((wr ((wr ((wr ((wr ((wr ((wr ((wr ((wr ((wr ((wr ((wr ((wr ((wr (n1 + 1)) + 1)) + 1)) + 1)) + 1)) + 1)) + 1)) + 1)) + 1)) + 1)) + 1)) + 1)) + 1)) + 1)), Index := (wr ((wr ((wr ((wr ((wr ((wr ((wr ((wr ((wr ((wr ((wr ((wr ((wr ((wr ((wr (n1 + 1)) + 1)) + 1)) + 1)) + 1)) + 1)) + 1)) + 1)) + 1)) + 1)) + 1)) + 1)) + 1)) + 1)) + 1)) } }⟩ : Sign)) 0 15 ([.int .i64 (wr ((wr ((wr ((wr ((wr ((wr ((wr ((wr ((wr ((wr ((wr ((wr ((wr ((wr ((wr (n1 + 1)) + 1)) + 1)) + 1)) + 1)) + 1)) + 1)) + 1)) + 1)) + 1)) + 1)) + 1)) + 1)) + 1)) + 1))]) hy4_3 (by kernel_rfl) ?_)
      refine rend ?_
      refine c_seq ?_
      refine r_start ?_
      refine p 3 ?_
      refine rend ?_
      refine c_seq ?_
      refine r_start ?_
      refine p 3 ?_
      refine xq rfl (y_idxW (e := nSign) (el := 47) 0 (getI_set hy4_3)) ?_
      refine p 3 ?_
      refine xx rfl (e_stW2 (e := nSign) (a := (⟨(⟨(⟨n1, (wr (n1 + 1)), (wr ((wr (n1 + 1)) + 1)), (wr ((wr ((wr (n1 + 1)) + 1)) + 1)), (wr ((wr ((wr ((wr (n1 + 1)) + 1)) + 1)) + 1)), ((Int.tmod (wr ((wr ((wr ((wr ((wr (n1 + 1)) + 1)) + 1)) + 1)) + 1)) 3) == 0)⟩ : Shape), (⟨(wr ((wr ((wr ((wr ((wr ((wr (n1 + 1)) + 1)) + 1)) + 1)) + 1)) + 1)), (wr ((wr ((wr ((wr ((wr ((wr ((wr (n1 + 1)) + 1)) + 1)) + 1)) + 1)) + 1)) + 1))⟩ : Orient), (⟨(wr ((wr ((wr ((wr ((wr ((wr ((wr ((wr (n1 + 1)) + 1)) + 1)) + 1)) + 1)) + 1)) + 1)) + 1)), (wr ((wr ((wr ((wr ((wr ((wr ((wr ((wr ((wr (n1 + 1)) + 1)) + 1)) + 1)) + 1)) + 1)) + 1)) + 1)) + 1)), ((Int.tmod (wr ((wr ((wr ((wr ((wr ((wr ((wr ((wr ((wr ((wr (n1 + 1)) + 1)) + 1)) + 1)) + 1)) + 1)) + 1)) + 1)) + 1)) + 1)) 3) == 0)⟩ : Place), (⟨v26_3, (wr ((wr ((wr ((wr ((wr ((wr ((wr ((wr ((wr ((wr ((wr ((wr (n1 + 1)) + 1)) + 1)) + 1)) + 1)) + 1)) + 1)) + 1)) + 1)) + 1)) + 1)) + 1))⟩ : Move)⟩ : Hand), ((Int.tmod (wr ((wr ((wr ((wr ((wr ((wr ((wr ((wr ((wr ((wr ((wr ((wr ((wr (n1 + 1)) + 1)) + 1)) + 1)) + 1)) + 1)) + 1)) + 1)) + 1)) + 1)) + 1)) + 1)) + 1)) 3) == 0), { y4_3.Other with Shape := { y4_3.Other.Shape with Thumb := (wr ((wr ((wr ((wr ((wr ((wr ((wr ((wr ((wr ((wr ((wr ((wr ((wr ((wr (n1 + 1)) + 1)) + 1)) + 1)) + 1)) + 1)) + 1)) + 1)) + 1)) + 1)) + 1)) + 1)) + 1)) + 1)), Index := (wr ((wr ((wr ((wr ((wr ((wr ((wr ((wr ((wr ((wr ((wr ((wr ((wr ((wr ((wr (n1 + 1)) + 1)) + 1)) + 1)) + 1)) + 1)) + 1)) + 1)) + 1)) + 1)) + 1)) + 1)) + 1)) + 1)) + 1)) } }⟩ : Sign)) (b := (⟨(⟨(⟨n1, (wr (n1 + 1)), (wr ((wr (n1 + 1)) + 1)), (wr ((wr ((wr (n1 + 1)) + 1)) + 1)), (wr ((wr ((wr ((wr (n1 + 1)) + 1)) + 1)) + 1)), ((Int.tmod (wr ((wr ((wr ((wr ((wr (n1 + 1)) + 1)) + 1)) + 1)) + 1)) 3) == 0)⟩ : Shape), (⟨(wr ((wr ((wr ((wr ((wr ((wr (n1 + 1)) + 1)) + 1)) + 1)) + 1)) + 1)), (wr ((wr ((wr ((wr ((wr ((wr ((wr (n1 + 1)) + 1)) + 1)) + 1)) + 1)) + 1)) + 1))⟩ : Orient), (⟨(wr ((wr ((wr ((wr ((wr ((wr ((wr ((wr (n1 + 1)) + 1)) + 1)) + 1)) + 1)) + 1)) + 1)) + 1)), (wr ((wr ((wr ((wr ((wr ((wr ((wr ((wr ((wr (n1 + 1)) + 1)) + 1)) + 1)) + 1)) + 1)) + 1)) + 1)) + 1)), ((Int.tmod (wr ((wr ((wr ((wr ((wr ((wr ((wr ((wr ((wr ((wr (n1 + 1)) + 1)) + 1)) + 1)) + 1)) + 1)) + 1)) + 1)) + 1)) + 1)) 3) == 0)⟩ : Place), (⟨v26_3, (wr ((wr ((wr ((wr ((wr ((wr ((wr ((wr ((wr ((wr ((wr ((wr (n1 + 1)) + 1)) + 1)) + 1)) + 1)) + 1)) + 1)) + 1)) + 1)) + 1)) + 1)) + 1))⟩ : Move)⟩ : Hand), ((Int.tmod (wr ((wr ((wr ((wr ((wr ((wr ((wr ((wr ((wr ((wr ((wr ((wr ((wr (n1 + 1)) + 1)) + 1)) + 1)) + 1)) + 1)) + 1)) + 1)) + 1)) + 1)) + 1)) + 1)) + 1)) 3) == 0), { y4_3.Other with Shape := { y4_3.Other.Shape with Thumb := (wr ((wr ((wr ((wr ((wr ((wr ((wr ((wr ((wr ((wr ((wr ((wr ((wr ((wr (n1 + 1)) + 1)) + 1)) + 1)) + 1)) + 1)) + 1)) + 1)) + 1)) + 1)) + 1)) + 1)) + 1)) + 1)), Index := (wr ((wr ((wr ((wr ((wr ((wr ((wr ((wr ((wr ((wr ((wr ((wr ((wr ((wr ((wr (n1 + 1)) + 1)) + 1)) + 1)) + 1)) + 1)) + 1)) + 1)) + 1)) + 1)) + 1)) + 1)) + 1)) + 1)) + 1)), Middle := (wr ((wr ((wr ((wr ((wr ((wr ((wr ((wr ((wr ((wr ((wr ((wr ((wr ((wr ((wr ((wr (n1 + 1)) + 1)) + 1)) + 1)) + 1)) + 1)) + 1)) + 1)) + 1)) + 1)) + 1)) + 1)) + 1)) + 1)) + 1)) + 1)) } }⟩ : Sign)) 0 16 ([.int .i64 (wr ((wr ((wr ((wr ((wr ((wr ((wr ((wr ((wr ((wr ((wr ((wr ((wr ((wr ((wr ((wr (n1 + 1)) + 1)) + 1)) + 1)) + 1)) + 1)) + 1)) + 1)) + 1)) + 1)) + 1)) + 1)) + 1)) + 1)) + 1)) + 1))]) hy4_3 (by kernel_rfl) ?_)
      refine rend ?_
      refine frg (fun u => (.slice A0 (List.length a0) k0 :: .int .i64 (wr ((wr ((wr ((wr ((wr ((wr ((wr ((wr ((wr ((wr ((wr ((wr ((wr ((wr ((wr ((wr (n1 + 1)) + 1)) + 1)) + 1)) + 1)) + 1)) + 1)) + 1)) + 1)) + 1)) + 1)) + 1)) + 1)) + 1)) + 1)) + 1)) :: (jk u 2 3 (.int .i64 n2 :: (jk u 6 260 []))))) (by kernel_rfl) fun u => ?_
      refine keep 1 (its' := [argW nSign B0 47 A0 (List.length a0) k0 (List.set l3 (Int.toNat n2) (⟨(⟨(⟨n1, (wr (n1 + 1)), (wr ((wr (n1 + 1)) + 1)), (wr ((wr ((wr (n1 + 1)) + 1)) + 1)), (wr ((wr ((wr ((wr (n1 + 1)) + 1)) + 1)) + 1)), ((Int.tmod (wr ((wr ((wr ((wr ((wr (n1 + 1)) + 1)) + 1)) + 1)) + 1)) 3) == 0)⟩ : Shape), (⟨(wr ((wr ((wr ((wr ((wr ((wr (n1 + 1)) + 1)) + 1)) + 1)) + 1)) + 1)), (wr ((wr ((wr ((wr ((wr ((wr ((wr (n1 + 1)) + 1)) + 1)) + 1)) + 1)) + 1)) + 1))⟩ : Orient), (⟨(wr ((wr ((wr ((wr ((wr ((wr ((wr ((wr (n1 + 1)) + 1)) + 1)) + 1)) + 1)) + 1)) + 1)) + 1)), (wr ((wr ((wr ((wr ((wr ((wr ((wr ((wr ((wr (n1 + 1)) + 1)) + 1)) + 1)) + 1)) + 1)) + 1)) + 1)) + 1)), ((Int.tmod (wr ((wr ((wr ((wr ((wr ((wr ((wr ((wr ((wr ((wr (n1 + 1)) + 1)) + 1)) + 1)) + 1)) + 1)) + 1)) + 1)) + 1)) + 1)) 3) == 0)⟩ : Place), (⟨v26_3, (wr ((wr ((wr ((wr ((wr ((wr ((wr ((wr ((wr ((wr ((wr ((wr (n1 + 1)) + 1)) + 1)) + 1)) + 1)) + 1)) + 1)) + 1)) + 1)) + 1)) + 1)) + 1))⟩ : Move)⟩ : Hand), ((Int.tmod (wr ((wr ((wr ((wr ((wr ((wr ((wr ((wr ((wr ((wr ((wr ((wr ((wr (n1 + 1)) + 1)) + 1)) + 1)) + 1)) + 1)) + 1)) + 1)) + 1)) + 1)) + 1)) + 1)) + 1)) 3) == 0), { y4_3.Other with Shape := { y4_3.Other.Shape with Thumb := (wr ((wr ((wr ((wr ((wr ((wr ((wr ((wr ((wr ((wr ((wr ((wr ((wr ((wr (n1 + 1)) + 1)) + 1)) + 1)) + 1)) + 1)) + 1)) + 1)) + 1)) + 1)) + 1)) + 1)) + 1)) + 1)), Index := (wr ((wr ((wr ((wr ((wr ((wr ((wr ((wr ((wr ((wr ((wr ((wr ((wr ((wr ((wr (n1 + 1)) + 1)) + 1)) + 1)) + 1)) + 1)) + 1)) + 1)) + 1)) + 1)) + 1)) + 1)) + 1)) + 1)) + 1)), Middle := (wr ((wr ((wr ((wr ((wr ((wr ((wr ((wr ((wr ((wr ((wr ((wr ((wr ((wr ((wr ((wr (n1 + 1)) + 1)) + 1)) + 1)) + 1)) + 1)) + 1)) + 1)) + 1)) + 1)) + 1)) + 1)) + 1)) + 1)) + 1)) + 1)) } }⟩ : Sign))]) (by kernel_rfl) ?_
      refine c_seq ?_
      refine r_start ?_
      refine p 3 ?_
      refine rend ?_
      refine c_seq ?_
      refine r_start ?_
      refine p 3 ?_
      refine xq rfl (y_idxW (e := nSign) (el := 47) 0 (getI_set hy4_3)) ?_
      refine p 3 ?_
      refine xx rfl (e_stW2 (e := nSign) (a := (⟨(⟨(⟨n1, (wr (n1 + 1)), (wr ((wr (n1 + 1)) + 1)), (wr ((wr ((wr (n1 + 1)) + 1)) + 1)), (wr ((wr ((wr ((wr (n1 + 1)) + 1)) + 1)) + 1)), ((Int.tmod (wr ((wr ((wr ((wr ((wr (n1 + 1)) + 1)) + 1)) + 1)) + 1)) 3) == 0)⟩ : Shape), (⟨(wr ((wr ((wr ((wr ((wr ((wr (n1 + 1)) + 1)) + 1)) + 1)) + 1)) + 1)), (wr ((wr ((wr ((wr ((wr ((wr ((wr (n1 + 1)) + 1)) + 1)) + 1)) + 1)) + 1)) + 1))⟩ : Orient), (⟨(wr ((wr ((wr ((wr ((wr ((wr ((wr ((wr (n1 + 1)) + 1)) + 1)) + 1)) + 1)) + 1)) + 1)) + 1)), (wr ((wr ((wr ((wr ((wr ((wr ((wr ((wr ((wr (n1 + 1)) + 1)) + 1)) + 1)) + 1)) + 1)) + 1)) + 1)) + 1)), ((Int.tmod (wr ((wr ((wr ((wr ((wr ((wr ((wr ((wr ((wr ((wr (n1 + 1)) + 1)) + 1)) + 1)) + 1)) + 1)) + 1)) + 1)) + 1)) + 1)) 3) == 0)⟩ : Place), (⟨v26_3, (wr ((wr ((wr ((wr ((wr ((wr ((wr ((wr ((wr ((wr ((wr ((wr (n1 + 1)) + 1)) + 1)) + 1)) + 1)) + 1)) + 1)) + 1)) + 1)) + 1)) + 1)) + 1))⟩ : Move)⟩ : Hand), ((Int.tmod (wr ((wr ((wr ((wr ((wr ((wr ((wr ((wr ((wr ((wr ((wr ((wr ((wr (n1 + 1)) + 1)) + 1)) + 1)) + 1)) + 1)) + 1)) + 1)) + 1)) + 1)) + 1)) + 1)) + 1)) 3) == 0), { y4_3.Other with Shape := { y4_3.Other.Shape with Thumb := (wr ((wr ((wr ((wr ((wr ((wr ((wr ((wr ((wr ((wr ((wr ((wr ((wr ((wr (n1 + 1)) + 1)) + 1)) + 1)) + 1)) + 1)) + 1)) + 1)) + 1)) + 1)) + 1)) + 1)) + 1)) + 1)), Index := (wr ((wr ((wr ((wr ((wr ((wr ((wr ((wr ((wr ((wr ((wr ((wr ((wr ((wr ((wr (n1 + 1)) + 1)) + 1)) + 1)) + 1)) + 1)) + 1)) + 1)) + 1)) + 1)) + 1)) + 1)) + 1)) + 1)) + 1)), Middle := (wr ((wr ((wr ((wr ((wr ((wr ((wr ((wr ((wr ((wr ((wr ((wr ((wr ((wr ((wr ((wr (n1 + 1)) + 1)) + 1)) + 1)) + 1)) + 1)) + 1)) + 1)) + 1)) + 1)) + 1)) + 1)) + 1)) + 1)) + 1)) + 1)) } }⟩ : Sign)) (b := (⟨(⟨(⟨n1, (wr (n1 + 1)), (wr ((wr (n1 + 1)) + 1)), (wr ((wr ((wr (n1 + 1)) + 1)) + 1)), (wr ((wr ((wr ((wr (n1 + 1)) + 1)) + 1)) + 1)), ((Int.tmod (wr ((wr ((wr ((wr ((wr (n1 + 1)) + 1)) + 1)) + 1)) + 1)) 3) == 0)⟩ : Shape), (⟨(wr ((wr ((wr ((wr ((wr ((wr (n1 + 1)) + 1)) + 1)) + 1)) + 1)) + 1)), (wr ((wr ((wr ((wr ((wr ((wr ((wr (n1 + 1)) + 1)) + 1)) + 1)) + 1)) + 1)) + 1))⟩ : Orient), (⟨(wr ((wr ((wr ((wr ((wr ((wr ((wr ((wr (n1 + 1)) + 1)) + 1)) + 1)) + 1)) + 1)) + 1)) + 1)), (wr ((wr ((wr ((wr ((wr ((wr ((wr ((wr ((wr (n1 + 1)) + 1)) + 1)) + 1)) + 1)) + 1)) + 1)) + 1)) + 1)), ((Int.tmod (wr ((wr ((wr ((wr ((wr ((wr ((wr ((wr ((wr ((wr (n1 + 1)) + 1)) + 1)) + 1)) + 1)) + 1)) + 1)) + 1)) + 1)) + 1)) 3) == 0)⟩ : Place), (⟨v26_3, (wr ((wr ((wr ((wr ((wr ((wr ((wr ((wr ((wr ((wr ((wr ((wr (n1 + 1)) + 1)) + 1)) + 1)) + 1)) + 1)) + 1)) + 1)) + 1)) + 1)) + 1)) + 1))⟩ : Move)⟩ : Hand), ((Int.tmod (wr ((wr ((wr ((wr ((wr ((wr ((wr ((wr ((wr ((wr ((wr ((wr ((wr (n1 + 1)) + 1)) + 1)) + 1)) + 1)) + 1)) + 1)) + 1)) + 1)) + 1)) + 1)) + 1)) + 1)) 3) == 0), { y4_3.Other with Shape := (⟨(wr ((wr ((wr ((wr ((wr ((wr ((wr ((wr ((wr ((wr ((wr ((wr ((wr ((wr (n1 + 1)) + 1)) + 1)) + 1)) + 1)) + 1)) + 1)) + 1)) + 1)) + 1)) + 1)) + 1)) + 1)) + 1)), (wr ((wr ((wr ((wr ((wr ((wr ((wr ((wr ((wr ((wr ((wr ((wr ((wr ((wr ((wr (n1 + 1)) + 1)) + 1)) + 1)) + 1)) + 1)) + 1)) + 1)) + 1)) + 1)) + 1)) + 1)) + 1)) + 1)) + 1)), (wr ((wr ((wr ((wr ((wr ((wr ((wr ((wr ((wr ((wr ((wr ((wr ((wr ((wr ((wr ((wr (n1 + 1)) + 1)) + 1)) + 1)) + 1)) + 1)) + 1)) + 1)) + 1)) + 1)) + 1)) + 1)) + 1)) + 1)) + 1)) + 1)), (wr ((wr ((wr ((wr ((wr ((wr ((wr ((wr ((wr ((wr ((wr ((wr ((wr ((wr ((wr ((wr ((wr (n1 + 1)) + 1)) + 1)) + 1)) + 1)) + 1)) + 1)) + 1)) + 1)) + 1)) + 1)) + 1)) + 1)) + 1)) + 1)) + 1)) + 1)), y4_3.Other.Shape.Little, y4_3.Other.Shape.Spread⟩ : Shape) }⟩ : Sign)) 0 17 ([.int .i64 (wr ((wr ((wr ((wr ((wr ((wr ((wr ((wr ((wr ((wr ((wr ((wr ((wr ((wr ((wr ((wr ((wr (n1 + 1)) + 1)) + 1)) + 1)) + 1)) + 1)) + 1)) + 1)) + 1)) + 1)) + 1)) + 1)) + 1)) + 1)) + 1)) + 1)) + 1))]) hy4_3 (by kernel_rfl) ?_)
      refine rend ?_
      refine c_seq ?_
      refine r_start ?_
      refine p 3 ?_
      refine rend ?_
      refine c_seq ?_
      refine r_start ?_
      refine p 3 ?_
      refine xq rfl (y_idxW (e := nSign) (el := 47) 0 (getI_set hy4_3)) ?_
      refine p 3 ?_
      refine xx rfl (e_stW2 (e := nSign) (a := (⟨(⟨(⟨n1, (wr (n1 + 1)), (wr ((wr (n1 + 1)) + 1)), (wr ((wr ((wr (n1 + 1)) + 1)) + 1)), (wr ((wr ((wr ((wr (n1 + 1)) + 1)) + 1)) + 1)), ((Int.tmod (wr ((wr ((wr ((wr ((wr (n1 + 1)) + 1)) + 1)) + 1)) + 1)) 3) == 0)⟩ : Shape), (⟨(wr ((wr ((wr ((wr ((wr ((wr (n1 + 1)) + 1)) + 1)) + 1)) + 1)) + 1)), (wr ((wr ((wr ((wr ((wr ((wr ((wr (n1 + 1)) + 1)) + 1)) + 1)) + 1)) + 1)) + 1))⟩ : Orient), (⟨(wr ((wr ((wr ((wr ((wr ((wr ((wr ((wr (n1 + 1)) + 1)) + 1)) + 1)) + 1)) + 1)) + 1)) + 1)), (wr ((wr ((wr ((wr ((wr ((wr ((wr ((wr ((wr (n1 + 1)) + 1)) + 1)) + 1)) + 1)) + 1)) + 1)) + 1)) + 1)), ((Int.tmod (wr ((wr ((wr ((wr ((wr ((wr ((wr ((wr ((wr ((wr (n1 + 1)) + 1)) + 1)) + 1)) + 1)) + 1)) + 1)) + 1)) + 1)) + 1)) 3) == 0)⟩ : Place), (⟨v26_3, (wr ((wr ((wr ((wr ((wr ((wr ((wr ((wr ((wr ((wr ((wr ((wr (n1 + 1)) + 1)) + 1)) + 1)) + 1)) + 1)) + 1)) + 1)) + 1)) + 1)) + 1)) + 1))⟩ : Move)⟩ : Hand), ((Int.tmod (wr ((wr ((wr ((wr ((wr ((wr ((wr ((wr ((wr ((wr ((wr ((wr ((wr (n1 + 1)) + 1)) + 1)) + 1)) + 1)) + 1)) + 1)) + 1)) + 1)) + 1)) + 1)) + 1)) + 1)) 3) == 0), { y4_3.Other with Shape := (⟨(wr ((wr ((wr ((wr ((wr ((wr ((wr ((wr ((wr ((wr ((wr ((wr ((wr ((wr (n1 + 1)) + 1)) + 1)) + 1)) + 1)) + 1)) + 1)) + 1)) + 1)) + 1)) + 1)) + 1)) + 1)) + 1)), (wr ((wr ((wr ((wr ((wr ((wr ((wr ((wr ((wr ((wr ((wr ((wr ((wr ((wr ((wr (n1 + 1)) + 1)) + 1)) + 1)) + 1)) + 1)) + 1)) + 1)) + 1)) + 1)) + 1)) + 1)) + 1)) + 1)) + 1)), (wr ((wr ((wr ((wr ((wr ((wr ((wr ((wr ((wr ((wr ((wr ((wr ((wr ((wr ((wr ((wr (n1 + 1)) + 1)) + 1)) + 1)) + 1)) + 1)) + 1)) + 1)) + 1)) + 1)) + 1)) + 1)) + 1)) + 1)) + 1)) + 1)), (wr ((wr ((wr ((wr ((wr ((wr ((wr ((wr ((wr ((wr ((wr ((wr ((wr ((wr ((wr ((wr ((wr (n1 + 1)) + 1)) + 1)) + 1)) + 1)) + 1)) + 1)) + 1)) + 1)) + 1)) + 1)) + 1)) + 1)) + 1)) + 1)) + 1)) + 1)), y4_3.Other.Shape.Little, y4_3.Other.Shape.Spread⟩ : Shape) }⟩ : Sign)) (b := (⟨(⟨(⟨n1, (wr (n1 + 1)), (wr ((wr (n1 + 1)) + 1)), (wr ((wr ((wr (n1 + 1)) + 1)) + 1)), (wr ((wr ((wr ((wr (n1 + 1)) + 1)) + 1)) + 1)), ((Int.tmod (wr ((wr ((wr ((wr ((wr (n1 + 1)) + 1)) + 1)) + 1)) + 1)) 3) == 0)⟩ : Shape), (⟨(wr ((wr ((wr ((wr ((wr ((wr (n1 + 1)) + 1)) + 1)) + 1)) + 1)) + 1)), (wr ((wr ((wr ((wr ((wr ((wr ((wr (n1 + 1)) + 1)) + 1)) + 1)) + 1)) + 1)) + 1))⟩ : Orient), (⟨(wr ((wr ((wr ((wr ((wr ((wr ((wr ((wr (n1 + 1)) + 1)) + 1)) + 1)) + 1)) + 1)) + 1)) + 1)), (wr ((wr ((wr ((wr ((wr ((wr ((wr ((wr ((wr (n1 + 1)) + 1)) + 1)) + 1)) + 1)) + 1)) + 1)) + 1)) + 1)), ((Int.tmod (wr ((wr ((wr ((wr ((wr ((wr ((wr ((wr ((wr ((wr (n1 + 1)) + 1)) + 1)) + 1)) + 1)) + 1)) + 1)) + 1)) + 1)) + 1)) 3) == 0)⟩ : Place), (⟨v26_3, (wr ((wr ((wr ((wr ((wr ((wr ((wr ((wr ((wr ((wr ((wr ((wr (n1 + 1)) + 1)) + 1)) + 1)) + 1)) + 1)) + 1)) + 1)) + 1)) + 1)) + 1)) + 1))⟩ : Move)⟩ : Hand), ((Int.tmod (wr ((wr ((wr ((wr ((wr ((wr ((wr ((wr ((wr ((wr ((wr ((wr ((wr (n1 + 1)) + 1)) + 1)) + 1)) + 1)) + 1)) + 1)) + 1)) + 1)) + 1)) + 1)) + 1)) + 1)) 3) == 0), { y4_3.Other with Shape := (⟨(wr ((wr ((wr ((wr ((wr ((wr ((wr ((wr ((wr ((wr ((wr ((wr ((wr ((wr (n1 + 1)) + 1)) + 1)) + 1)) + 1)) + 1)) + 1)) + 1)) + 1)) + 1)) + 1)) + 1)) + 1)) + 1)), (wr ((wr ((wr ((wr ((wr ((wr ((wr ((wr ((wr ((wr ((wr ((wr ((wr ((wr ((wr (n1 + 1)) + 1)) + 1)) + 1)) + 1)) + 1)) + 1)) + 1)) + 1)) + 1)) + 1)) + 1)) + 1)) + 1)) + 1)), (wr ((wr ((wr ((wr ((wr ((wr ((wr ((wr ((wr ((wr ((wr ((wr ((wr ((wr ((wr ((wr (n1 + 1)) + 1)) + 1)) + 1)) + 1)) + 1)) + 1)) + 1)) + 1)) + 1)) + 1)) + 1)) + 1)) + 1)) + 1)) + 1)), (wr ((wr ((wr ((wr ((wr ((wr ((wr ((wr ((wr ((wr ((wr ((wr ((wr ((wr ((wr ((wr ((wr (n1 + 1)) + 1)) + 1)) + 1)) + 1)) + 1)) + 1)) + 1)) + 1)) + 1)) + 1)) + 1)) + 1)) + 1)) + 1)) + 1)) + 1)), (wr ((wr ((wr ((wr ((wr ((wr ((wr ((wr ((wr ((wr ((wr ((wr ((wr ((wr ((wr ((wr ((wr ((wr (n1 + 1)) + 1)) + 1)) + 1)) + 1)) + 1)) + 1)) + 1)) + 1)) + 1)) + 1)) + 1)) + 1)) + 1)) + 1)) + 1)) + 1)) + 1)), y4_3.Other.Shape.Spread⟩ : Shape) }⟩ : Sign)) 0 18 ([.int .i64 (wr ((wr ((wr ((wr ((wr ((wr ((wr ((wr ((wr ((wr ((wr ((wr ((wr ((wr ((wr ((wr ((wr ((wr (n1 + 1)) + 1)) + 1)) + 1)) + 1)) + 1)) + 1)) + 1)) + 1)) + 1)) + 1)) + 1)) + 1)) + 1)) + 1)) + 1)) + 1)) + 1))]) hy4_3 (by kernel_rfl) ?_)
      refine rend ?_
      refine c_seq ?_
      refine r_start ?_
      refine p 3 ?_
      refine rend ?_
      refine c_seq ?_
      refine r_start ?_
      refine p 5 ?_
      refine xq rfl (y_idxW (e := nSign) (el := 47) 0 (getI_set hy4_3)) ?_
      refine p 3 ?_
      refine xx rfl (e_stW2 (e := nSign) (a := (⟨(⟨(⟨n1, (wr (n1 + 1)), (wr ((wr (n1 + 1)) + 1)), (wr ((wr ((wr (n1 + 1)) + 1)) + 1)), (wr ((wr ((wr ((wr (n1 + 1)) + 1)) + 1)) + 1)), ((Int.tmod (wr ((wr ((wr ((wr ((wr (n1 + 1)) + 1)) + 1)) + 1)) + 1)) 3) == 0)⟩ : Shape), (⟨(wr ((wr ((wr ((wr ((wr ((wr (n1 + 1)) + 1)) + 1)) + 1)) + 1)) + 1)), (wr ((wr ((wr ((wr ((wr ((wr ((wr (n1 + 1)) + 1)) + 1)) + 1)) + 1)) + 1)) + 1))⟩ : Orient), (⟨(wr ((wr ((wr ((wr ((wr ((wr ((wr ((wr (n1 + 1)) + 1)) + 1)) + 1)) + 1)) + 1)) + 1)) + 1)), (wr ((wr ((wr ((wr ((wr ((wr ((wr ((wr ((wr (n1 + 1)) + 1)) + 1)) + 1)) + 1)) + 1)) + 1)) + 1)) + 1)), ((Int.tmod (wr ((wr ((wr ((wr ((wr ((wr ((wr ((wr ((wr ((wr (n1 + 1)) + 1)) + 1)) + 1)) + 1)) + 1)) + 1)) + 1)) + 1)) + 1)) 3) == 0)⟩ : Place), (⟨v26_3, (wr ((wr ((wr ((wr ((wr ((wr ((wr ((wr ((wr ((wr ((wr ((wr (n1 + 1)) + 1)) + 1)) + 1)) + 1)) + 1)) + 1)) + 1)) + 1)) + 1)) + 1)) + 1))⟩ : Move)⟩ : Hand), ((Int.tmod (wr ((wr ((wr ((wr ((wr ((wr ((wr ((wr ((wr ((wr ((wr ((wr ((wr (n1 + 1)) + 1)) + 1)) + 1)) + 1)) + 1)) + 1)) + 1)) + 1)) + 1)) + 1)) + 1)) + 1)) 3) == 0), { y4_3.Other with Shape := (⟨(wr ((wr ((wr ((wr ((wr ((wr ((wr ((wr ((wr ((wr ((wr ((wr ((wr ((wr (n1 + 1)) + 1)) + 1)) + 1)) + 1)) + 1)) + 1)) + 1)) + 1)) + 1)) + 1)) + 1)) + 1)) + 1)), (wr ((wr ((wr ((wr ((wr ((wr ((wr ((wr ((wr ((wr ((wr ((wr ((wr ((wr ((wr (n1 + 1)) + 1)) + 1)) + 1)) + 1)) + 1)) + 1)) + 1)) + 1)) + 1)) + 1)) + 1)) + 1)) + 1)) + 1)), (wr ((wr ((wr ((wr ((wr ((wr ((wr ((wr ((wr ((wr ((wr ((wr ((wr ((wr ((wr ((wr (n1 + 1)) + 1)) + 1)) + 1)) + 1)) + 1)) + 1)) + 1)) + 1)) + 1)) + 1)) + 1)) + 1)) + 1)) + 1)) + 1)), (wr ((wr ((wr ((wr ((wr ((wr ((wr ((wr ((wr ((wr ((wr ((wr ((wr ((wr ((wr ((wr ((wr (n1 + 1)) + 1)) + 1)) + 1)) + 1)) + 1)) + 1)) + 1)) + 1)) + 1)) + 1)) + 1)) + 1)) + 1)) + 1)) + 1)) + 1)), (wr ((wr ((wr ((wr ((wr ((wr ((wr ((wr ((wr ((wr ((wr ((wr ((wr ((wr ((wr ((wr ((wr ((wr (n1 + 1)) + 1)) + 1)) + 1)) + 1)) + 1)) + 1)) + 1)) + 1)) + 1)) + 1)) + 1)) + 1)) + 1)) + 1)) + 1)) + 1)) + 1)), y4_3.Other.Shape.Spread⟩ : Shape) }⟩ : Sign)) (b := (⟨(⟨(⟨n1, (wr (n1 + 1)), (wr ((wr (n1 + 1)) + 1)), (wr ((wr ((wr (n1 + 1)) + 1)) + 1)), (wr ((wr ((wr ((wr (n1 + 1)) + 1)) + 1)) + 1)), ((Int.tmod (wr ((wr ((wr ((wr ((wr (n1 + 1)) + 1)) + 1)) + 1)) + 1)) 3) == 0)⟩ : Shape), (⟨(wr ((wr ((wr ((wr ((wr ((wr (n1 + 1)) + 1)) + 1)) + 1)) + 1)) + 1)), (wr ((wr ((wr ((wr ((wr ((wr ((wr (n1 + 1)) + 1)) + 1)) + 1)) + 1)) + 1)) + 1))⟩ : Orient), (⟨(wr ((wr ((wr ((wr ((wr ((wr ((wr ((wr (n1 + 1)) + 1)) + 1)) + 1)) + 1)) + 1)) + 1)) + 1)), (wr ((wr ((wr ((wr ((wr ((wr ((wr ((wr ((wr (n1 + 1)) + 1)) + 1)) + 1)) + 1)) + 1)) + 1)) + 1)) + 1)), ((Int.tmod (wr ((wr ((wr ((wr ((wr ((wr ((wr ((wr ((wr ((wr (n1 + 1)) + 1)) + 1)) + 1)) + 1)) + 1)) + 1)) + 1)) + 1)) + 1)) 3) == 0)⟩ : Place), (⟨v26_3, (wr ((wr ((wr ((wr ((wr ((wr ((wr ((wr ((wr ((wr ((wr ((wr (n1 + 1)) + 1)) + 1)) + 1)) + 1)) + 1)) + 1)) + 1)) + 1)) + 1)) + 1)) + 1))⟩ : Move)⟩ : Hand), ((Int.tmod (wr ((wr ((wr ((wr ((wr ((wr ((wr ((wr ((wr ((wr ((wr ((wr ((wr (n1 + 1)) + 1)) + 1)) + 1)) + 1)) + 1)) + 1)) + 1)) + 1)) + 1)) + 1)) + 1)) + 1)) 3) == 0), { y4_3.Other with Shape := (⟨(wr ((wr ((wr ((wr ((wr ((wr ((wr ((wr ((wr ((wr ((wr ((wr ((wr ((wr (n1 + 1)) + 1)) + 1)) + 1)) + 1)) + 1)) + 1)) + 1)) + 1)) + 1)) + 1)) + 1)) + 1)) + 1)), (wr ((wr ((wr ((wr ((wr ((wr ((wr ((wr ((wr ((wr ((wr ((wr ((wr ((wr ((wr (n1 + 1)) + 1)) + 1)) + 1)) + 1)) + 1)) + 1)) + 1)) + 1)) + 1)) + 1)) + 1)) + 1)) + 1)) + 1)), (wr ((wr ((wr ((wr ((wr ((wr ((wr ((wr ((wr ((wr ((wr ((wr ((wr ((wr ((wr ((wr (n1 + 1)) + 1)) + 1)) + 1)) + 1)) + 1)) + 1)) + 1)) + 1)) + 1)) + 1)) + 1)) + 1)) + 1)) + 1)) + 1)), (wr ((wr ((wr ((wr ((wr ((wr ((wr ((wr ((wr ((wr ((wr ((wr ((wr ((wr ((wr ((wr ((wr (n1 + 1)) + 1)) + 1)) + 1)) + 1)) + 1)) + 1)) + 1)) + 1)) + 1)) + 1)) + 1)) + 1)) + 1)) + 1)) + 1)) + 1)), (wr ((wr ((wr ((wr ((wr ((wr ((wr ((wr ((wr ((wr ((wr ((wr ((wr ((wr ((wr ((wr ((wr ((wr (n1 + 1)) + 1)) + 1)) + 1)) + 1)) + 1)) + 1)) + 1)) + 1)) + 1)) + 1)) + 1)) + 1)) + 1)) + 1)) + 1)) + 1)) + 1)), ((Int.tmod (wr ((wr ((wr ((wr ((wr ((wr ((wr ((wr ((wr ((wr ((wr ((wr ((wr ((wr ((wr ((wr ((wr ((wr ((wr (n1 + 1)) + 1)) + 1)) + 1)) + 1)) + 1)) + 1)) + 1)) + 1)) + 1)) + 1)) + 1)) + 1)) + 1)) + 1)) + 1)) + 1)) + 1)) + 1)) 3) == 0)⟩ : Shape) }⟩ : Sign)) 0 19 ([.bool ((Int.tmod (wr ((wr ((wr ((wr ((wr ((wr ((wr ((wr ((wr ((wr ((wr ((wr ((wr ((wr ((wr ((wr ((wr ((wr ((wr (n1 + 1)) + 1)) + 1)) + 1)) + 1)) + 1)) + 1)) + 1)) + 1)) + 1)) + 1)) + 1)) + 1)) + 1)) + 1)) + 1)) + 1)) + 1)) + 1)) 3) == 0)]) hy4_3 (by kernel_rfl) ?_)
      refine rend ?_
      refine c_seq ?_
      refine r_start ?_
      refine p 3 ?_
      refine rend ?_
      refine c_seq ?_
      refine r_start ?_
      refine p 3 ?_
      refine xq rfl (y_idxW (e := nSign) (el := 47) 0 (getI_set hy4_3)) ?_
      refine p 3 ?_
      refine xx rfl (e_stW2 (e := nSign) (a := (⟨(⟨(⟨n1, (wr (n1 + 1)), (wr ((wr (n1 + 1)) + 1)), (wr ((wr ((wr (n1 + 1)) + 1)) + 1)), (wr ((wr ((wr ((wr (n1 + 1)) + 1)) + 1)) + 1)), ((Int.tmod (wr ((wr ((wr ((wr ((wr (n1 + 1)) + 1)) + 1)) + 1)) + 1)) 3) == 0)⟩ : Shape), (⟨(wr ((wr ((wr ((wr ((wr ((wr (n1 + 1)) + 1)) + 1)) + 1)) + 1)) + 1)), (wr ((wr ((wr ((wr ((wr ((wr ((wr (n1 + 1)) + 1)) + 1)) + 1)) + 1)) + 1)) + 1))⟩ : Orient), (⟨(wr ((wr ((wr ((wr ((wr ((wr ((wr ((wr (n1 + 1)) + 1)) + 1)) + 1)) + 1)) + 1)) + 1)) + 1)), (wr ((wr ((wr ((wr ((wr ((wr ((wr ((wr ((wr (n1 + 1)) + 1)) + 1)) + 1)) + 1)) + 1)) + 1)) + 1)) + 1)), ((Int.tmod (wr ((wr ((wr ((wr ((wr ((wr ((wr ((wr ((wr ((wr (n1 + 1)) + 1)) + 1)) + 1)) + 1)) + 1)) + 1)) + 1)) + 1)) + 1)) 3) == 0)⟩ : Place), (⟨v26_3, (wr ((wr ((wr ((wr ((wr ((wr ((wr ((wr ((wr ((wr ((wr ((wr (n1 + 1)) + 1)) + 1)) + 1)) + 1)) + 1)) + 1)) + 1)) + 1)) + 1)) + 1)) + 1))⟩ : Move)⟩ : Hand), ((Int.tmod (wr ((wr ((wr ((wr ((wr ((wr ((wr ((wr ((wr ((wr ((wr ((wr ((wr (n1 + 1)) + 1)) + 1)) + 1)) + 1)) + 1)) + 1)) + 1)) + 1)) + 1)) + 1)) + 1)) + 1)) 3) == 0), { y4_3.Other with Shape := (⟨(wr ((wr ((wr ((wr ((wr ((wr ((wr ((wr ((wr ((wr ((wr ((wr ((wr ((wr (n1 + 1)) + 1)) + 1)) + 1)) + 1)) + 1)) + 1)) + 1)) + 1)) + 1)) + 1)) + 1)) + 1)) + 1)), (wr ((wr ((wr ((wr ((wr ((wr ((wr ((wr ((wr ((wr ((wr ((wr ((wr ((wr ((wr (n1 + 1)) + 1)) + 1)) + 1)) + 1)) + 1)) + 1)) + 1)) + 1)) + 1)) + 1)) + 1)) + 1)) + 1)) + 1)), (wr ((wr ((wr ((wr ((wr ((wr ((wr ((wr ((wr ((wr ((wr ((wr ((wr ((wr ((wr ((wr (n1 + 1)) + 1)) + 1)) + 1)) + 1)) + 1)) + 1)) + 1)) + 1)) + 1)) + 1)) + 1)) + 1)) + 1)) + 1)) + 1)), (wr ((wr ((wr ((wr ((wr ((wr ((wr ((wr ((wr ((wr ((wr ((wr ((wr ((wr ((wr ((wr ((wr (n1 + 1)) + 1)) + 1)) + 1)) + 1)) + 1)) + 1)) + 1)) + 1)) + 1)) + 1)) + 1)) + 1)) + 1)) + 1)) + 1)) + 1)), (wr ((wr ((wr ((wr ((wr ((wr ((wr ((wr ((wr ((wr ((wr ((wr ((wr ((wr ((wr ((wr ((wr ((wr (n1 + 1)) + 1)) + 1)) + 1)) + 1)) + 1)) + 1)) + 1)) + 1)) + 1)) + 1)) + 1)) + 1)) + 1)) + 1)) + 1)) + 1)) + 1)), ((Int.tmod (wr ((wr ((wr ((wr ((wr ((wr ((wr ((wr ((wr ((wr ((wr ((wr ((wr ((wr ((wr ((wr ((wr ((wr ((wr (n1 + 1)) + 1)) + 1)) + 1)) + 1)) + 1)) + 1)) + 1)) + 1)) + 1)) + 1)) + 1)) + 1)) + 1)) + 1)) + 1)) + 1)) + 1)) + 1)) 3) == 0)⟩ : Shape) }⟩ : Sign)) (b := (⟨(⟨(⟨n1, (wr (n1 + 1)), (wr ((wr (n1 + 1)) + 1)), (wr ((wr ((wr (n1 + 1)) + 1)) + 1)), (wr ((wr ((wr ((wr (n1 + 1)) + 1)) + 1)) + 1)), ((Int.tmod (wr ((wr ((wr ((wr ((wr (n1 + 1)) + 1)) + 1)) + 1)) + 1)) 3) == 0)⟩ : Shape), (⟨(wr ((wr ((wr ((wr ((wr ((wr (n1 + 1)) + 1)) + 1)) + 1)) + 1)) + 1)), (wr ((wr ((wr ((wr ((wr ((wr ((wr (n1 + 1)) + 1)) + 1)) + 1)) + 1)) + 1)) + 1))⟩ : Orient), (⟨(wr ((wr ((wr ((wr ((wr ((wr ((wr ((wr (n1 + 1)) + 1)) + 1)) + 1)) + 1)) + 1)) + 1)) + 1)), (wr ((wr ((wr ((wr ((wr ((wr ((wr ((wr ((wr (n1 + 1)) + 1)) + 1)) + 1)) + 1)) + 1)) + 1)) + 1)) + 1)), ((Int.tmod (wr ((wr ((wr ((wr ((wr ((wr ((wr ((wr ((wr ((wr (n1 + 1)) + 1)) + 1)) + 1)) + 1)) + 1)) + 1)) + 1)) + 1)) + 1)) 3) == 0)⟩ : Place), (⟨v26_3, (wr ((wr ((wr ((wr ((wr ((wr ((wr ((wr ((wr ((wr ((wr ((wr (n1 + 1)) + 1)) + 1)) + 1)) + 1)) + 1)) + 1)) + 1)) + 1)) + 1)) + 1)) + 1))⟩ : Move)⟩ : Hand), ((Int.tmod (wr ((wr ((wr ((wr ((wr ((wr ((wr ((wr ((wr ((wr ((wr ((wr ((wr (n1 + 1)) + 1)) + 1)) + 1)) + 1)) + 1)) + 1)) + 1)) + 1)) + 1)) + 1)) + 1)) + 1)) 3) == 0), { y4_3.Other with Shape := (⟨(wr ((wr ((wr ((wr ((wr ((wr ((wr ((wr ((wr ((wr ((wr ((wr ((wr ((wr (n1 + 1)) + 1)) + 1)) + 1)) + 1)) + 1)) + 1)) + 1)) + 1)) + 1)) + 1)) + 1)) + 1)) + 1)), (wr ((wr ((wr ((wr ((wr ((wr ((wr ((wr ((wr ((wr ((wr ((wr ((wr ((wr ((wr (n1 + 1)) + 1)) + 1)) + 1)) + 1)) + 1)) + 1)) + 1)) + 1)) + 1)) + 1)) + 1)) + 1)) + 1)) + 1)), (wr ((wr ((wr ((wr ((wr ((wr ((wr ((wr ((wr ((wr ((wr ((wr ((wr ((wr ((wr ((wr (n1 + 1)) + 1)) + 1)) + 1)) + 1)) + 1)) + 1)) + 1)) + 1)) + 1)) + 1)) + 1)) + 1)) + 1)) + 1)) + 1)), (wr ((wr ((wr ((wr ((wr ((wr ((wr ((wr ((wr ((wr ((wr ((wr ((wr ((wr ((wr ((wr ((wr (n1 + 1)) + 1)) + 1)) + 1)) + 1)) + 1)) + 1)) + 1)) + 1)) + 1)) + 1)) + 1)) + 1)) + 1)) + 1)) + 1)) + 1)), (wr ((wr ((wr ((wr ((wr ((wr ((wr ((wr ((wr ((wr ((wr ((wr ((wr ((wr ((wr ((wr ((wr ((wr (n1 + 1)) + 1)) + 1)) + 1)) + 1)) + 1)) + 1)) + 1)) + 1)) + 1)) + 1)) + 1)) + 1)) + 1)) + 1)) + 1)) + 1)) + 1)), ((Int.tmod (wr ((wr ((wr ((wr ((wr ((wr ((wr ((wr ((wr ((wr ((wr ((wr ((wr ((wr ((wr ((wr ((wr ((wr ((wr (n1 + 1)) + 1)) + 1)) + 1)) + 1)) + 1)) + 1)) + 1)) + 1)) + 1)) + 1)) + 1)) + 1)) + 1)) + 1)) + 1)) + 1)) + 1)) + 1)) 3) == 0)⟩ : Shape), Orient := { y4_3.Other.Orient with Palm := (wr ((wr ((wr ((wr ((wr ((wr ((wr ((wr ((wr ((wr ((wr ((wr ((wr ((wr ((wr ((wr ((wr ((wr ((wr ((wr (n1 + 1)) + 1)) + 1)) + 1)) + 1)) + 1)) + 1)) + 1)) + 1)) + 1)) + 1)) + 1)) + 1)) + 1)) + 1)) + 1)) + 1)) + 1)) + 1)) + 1)) } }⟩ : Sign)) 0 20 ([.int .i64 (wr ((wr ((wr ((wr ((wr ((wr ((wr ((wr ((wr ((wr ((wr ((wr ((wr ((wr ((wr ((wr ((wr ((wr ((wr ((wr (n1 + 1)) + 1)) + 1)) + 1)) + 1)) + 1)) + 1)) + 1)) + 1)) + 1)) + 1)) + 1)) + 1)) + 1)) + 1)) + 1)) + 1)) + 1)) + 1)) + 1))]) hy4_3 (by kernel_rfl) ?_)
      refine rend ?_
      refine c_seq ?_
      refine r_start ?_
      refine p 3 ?_
      refine rend ?_
      refine c_seq ?_
      refine r_start ?_
      refine p 3 ?_
      refine xq rfl (y_idxW (e := nSign) (el := 47) 0 (getI_set hy4_3)) ?_
      refine p 3 ?_
      refine xx rfl (e_stW2 (e := nSign) (a := (⟨(⟨(⟨n1, (wr (n1 + 1)), (wr ((wr (n1 + 1)) + 1)), (wr ((wr ((wr (n1 + 1)) + 1)) + 1)), (wr ((wr ((wr ((wr (n1 + 1)) + 1)) + 1)) + 1)), ((Int.tmod (wr ((wr ((wr ((wr ((wr (n1 + 1)) + 1)) + 1)) + 1)) + 1)) 3) == 0)⟩ : Shape), (⟨(wr ((wr ((wr ((wr ((wr ((wr (n1 + 1)) + 1)) + 1)) + 1)) + 1)) + 1)), (wr ((wr ((wr ((wr ((wr ((wr ((wr (n1 + 1)) + 1)) + 1)) + 1)) + 1)) + 1)) + 1))⟩ : Orient), (⟨(wr ((wr ((wr ((wr ((wr ((wr ((wr ((wr (n1 + 1)) + 1)) + 1)) + 1)) + 1)) + 1)) + 1)) + 1)), (wr ((wr ((wr ((wr ((wr ((wr ((wr ((wr ((wr (n1 + 1)) + 1)) + 1)) + 1)) + 1)) + 1)) + 1)) + 1)) + 1)), ((Int.tmod (wr ((wr ((wr ((wr ((wr ((wr ((wr ((wr ((wr ((wr (n1 + 1)) + 1)) + 1)) + 1)) + 1)) + 1)) + 1)) + 1)) + 1)) + 1)) 3) == 0)⟩ : Place), (⟨v26_3, (wr ((wr ((wr ((wr ((wr ((wr ((wr ((wr ((wr ((wr ((wr ((wr (n1 + 1)) + 1)) + 1)) + 1)) + 1)) + 1)) + 1)) + 1)) + 1)) + 1)) + 1)) + 1))⟩ : Move)⟩ : Hand), ((Int.tmod (wr ((wr ((wr ((wr ((wr ((wr ((wr ((wr ((wr ((wr ((wr ((wr ((wr (n1 + 1)) + 1)) + 1)) + 1)) + 1)) + 1)) + 1)) + 1)) + 1)) + 1)) + 1)) + 1)) + 1)) 3) == 0), { y4_3.Other with Shape := (⟨(wr ((wr ((wr ((wr ((wr ((wr ((wr ((wr ((wr ((wr ((wr ((wr ((wr ((wr (n1 + 1)) + 1)) + 1)) + 1)) + 1)) + 1)) + 1)) + 1)) + 1)) + 1)) + 1)) + 1)) + 1)) + 1)), (wr ((wr ((wr ((wr ((wr ((wr ((wr ((wr ((wr ((wr ((wr ((wr ((wr ((wr ((wr (n1 + 1)) + 1)) + 1)) + 1)) + 1)) + 1)) + 1)) + 1)) + 1)) + 1)) + 1)) + 1)) + 1)) + 1)) + 1)), (wr ((wr ((wr ((wr ((wr ((wr ((wr ((wr ((wr ((wr ((wr ((wr ((wr ((wr ((wr ((wr (n1 + 1)) + 1)) + 1)) + 1)) + 1)) + 1)) + 1)) + 1)) + 1)) + 1)) + 1)) + 1)) + 1)) + 1)) + 1)) + 1)), (wr ((wr ((wr ((wr ((wr ((wr ((wr ((wr ((wr ((wr ((wr ((wr ((wr ((wr ((wr ((wr ((wr (n1 + 1)) + 1)) + 1)) + 1)) + 1)) + 1)) + 1)) + 1)) + 1)) + 1)) + 1)) + 1)) + 1)) + 1)) + 1)) + 1)) + 1)), (wr ((wr ((wr ((wr ((wr ((wr ((wr ((wr ((wr ((wr ((wr ((wr ((wr ((wr ((wr ((wr ((wr ((wr (n1 + 1)) + 1)) + 1)) + 1)) + 1)) + 1)) + 1)) + 1)) + 1)) + 1)) + 1)) + 1)) + 1)) + 1)) + 1)) + 1)) + 1)) + 1)), ((Int.tmod (wr ((wr ((wr ((wr ((wr ((wr ((wr ((wr ((wr ((wr ((wr ((wr ((wr ((wr ((wr ((wr ((wr ((wr ((wr (n1 + 1)) + 1)) + 1)) + 1)) + 1)) + 1)) + 1)) + 1)) + 1)) + 1)) + 1)) + 1)) + 1)) + 1)) + 1)) + 1)) + 1)) + 1)) + 1)) 3) == 0)⟩ : Shape), Orient := { y4_3.Other.Orient with Palm := (wr ((wr ((wr ((wr ((wr ((wr ((wr ((wr ((wr ((wr ((wr ((wr ((wr ((wr ((wr ((wr ((wr ((wr ((wr ((wr (n1 + 1)) + 1)) + 1)) + 1)) + 1)) + 1)) + 1)) + 1)) + 1)) + 1)) + 1)) + 1)) + 1)) + 1)) + 1)) + 1)) + 1)) + 1)) + 1)) + 1)) } }⟩ : Sign)) (b := (⟨(⟨(⟨n1, (wr (n1 + 1)), (wr ((wr (n1 + 1)) + 1)), (wr ((wr ((wr (n1 + 1)) + 1)) + 1)), (wr ((wr ((wr ((wr (n1 + 1)) + 1)) + 1)) + 1)), ((Int.tmod (wr ((wr ((wr ((wr ((wr (n1 + 1)) + 1)) + 1)) + 1)) + 1)) 3) == 0)⟩ : Shape), (⟨(wr ((wr ((wr ((wr ((wr ((wr (n1 + 1)) + 1)) + 1)) + 1)) + 1)) + 1)), (wr ((wr ((wr ((wr ((wr ((wr ((wr (n1 + 1)) + 1)) + 1)) + 1)) + 1)) + 1)) + 1))⟩ : Orient), (⟨(wr ((wr ((wr ((wr ((wr ((wr ((wr ((wr (n1 + 1)) + 1)) + 1)) + 1)) + 1)) + 1)) + 1)) + 1)), (wr ((wr ((wr ((wr ((wr ((wr ((wr ((wr ((wr (n1 + 1)) + 1)) + 1)) + 1)) + 1)) + 1)) + 1)) + 1)) + 1)), ((Int.tmod (wr ((wr ((wr ((wr ((wr ((wr ((wr ((wr ((wr ((wr (n1 + 1)) + 1)) + 1)) + 1)) + 1)) + 1)) + 1)) + 1)) + 1)) + 1)) 3) == 0)⟩ : Place), (⟨v26_3, (wr ((wr ((wr ((wr ((wr ((wr ((wr ((wr ((wr ((wr ((wr ((wr (n1 + 1)) + 1)) + 1)) + 1)) + 1)) + 1)) + 1)) + 1)) + 1)) + 1)) + 1)) + 1))⟩ : Move)⟩ : Hand), ((Int.tmod (wr ((wr ((wr ((wr ((wr ((wr ((wr ((wr ((wr ((wr ((wr ((wr ((wr (n1 + 1)) + 1)) + 1)) + 1)) + 1)) + 1)) + 1)) + 1)) + 1)) + 1)) + 1)) + 1)) + 1)) 3) == 0), { y4_3.Other with Shape := (⟨(wr ((wr ((wr ((wr ((wr ((wr ((wr ((wr ((wr ((wr ((wr ((wr ((wr ((wr (n1 + 1)) + 1)) + 1)) + 1)) + 1)) + 1)) + 1)) + 1)) + 1)) + 1)) + 1)) + 1)) + 1)) + 1)), (wr ((wr ((wr ((wr ((wr ((wr ((wr ((wr ((wr ((wr ((wr ((wr ((wr ((wr ((wr (n1 + 1)) + 1)) + 1)) + 1)) + 1)) + 1)) + 1)) + 1)) + 1)) + 1)) + 1)) + 1)) + 1)) + 1)) + 1)), (wr ((wr ((wr ((wr ((wr ((wr ((wr ((wr ((wr ((wr ((wr ((wr ((wr ((wr ((wr ((wr (n1 + 1)) + 1)) + 1)) + 1)) + 1)) + 1)) + 1)) + 1)) + 1)) + 1)) + 1)) + 1)) + 1)) + 1)) + 1)) + 1)), (wr ((wr ((wr ((wr ((wr ((wr ((wr ((wr ((wr ((wr ((wr ((wr ((wr ((wr ((wr ((wr ((wr (n1 + 1)) + 1)) + 1)) + 1)) + 1)) + 1)) + 1)) + 1)) + 1)) + 1)) + 1)) + 1)) + 1)) + 1)) + 1)) + 1)) + 1)), (wr ((wr ((wr ((wr ((wr ((wr ((wr ((wr ((wr ((wr ((wr ((wr ((wr ((wr ((wr ((wr ((wr ((wr (n1 + 1)) + 1)) + 1)) + 1)) + 1)) + 1)) + 1)) + 1)) + 1)) + 1)) + 1)) + 1)) + 1)) + 1)) + 1)) + 1)) + 1)) + 1)), ((Int.tmod (wr ((wr ((wr ((wr ((wr ((wr ((wr ((wr ((wr ((wr ((wr ((wr ((wr ((wr ((wr ((wr ((wr ((wr ((wr (n1 + 1)) + 1)) + 1)) + 1)) + 1)) + 1)) + 1)) + 1)) + 1)) + 1)) + 1)) + 1)) + 1)) + 1)) + 1)) + 1)) + 1)) + 1)) + 1)) 3) == 0)⟩ : Shape), Orient := (⟨(wr ((wr ((wr ((wr ((wr ((wr ((wr ((wr ((wr ((wr ((wr ((wr ((wr ((wr ((wr ((wr ((wr ((wr ((wr ((wr (n1 + 1)) + 1)) + 1)) + 1)) + 1)) + 1)) + 1)) + 1)) + 1)) + 1)) + 1)) + 1)) + 1)) + 1)) + 1)) + 1)) + 1)) + 1)) + 1)) + 1)), (wr ((wr ((wr ((wr ((wr ((wr ((wr ((wr ((wr ((wr ((wr ((wr ((wr ((wr ((wr ((wr ((wr ((wr ((wr ((wr ((wr (n1 + 1)) + 1)) + 1)) + 1)) + 1)) + 1)) + 1)) + 1)) + 1)) + 1)) + 1)) + 1)) + 1)) + 1)) + 1)) + 1)) + 1)) + 1)) + 1)) + 1)) + 1))⟩ : Orient) }⟩ : Sign)) 0 21 ([.int .i64 (wr ((wr ((wr ((wr ((wr ((wr ((wr ((wr ((wr ((wr ((wr ((wr ((wr ((wr ((wr ((wr ((wr ((wr ((wr ((wr ((wr (n1 + 1)) + 1)) + 1)) + 1)) + 1)) + 1)) + 1)) + 1)) + 1)) + 1)) + 1)) + 1)) + 1)) + 1)) + 1)) + 1)) + 1)) + 1)) + 1)) + 1)) + 1))]) hy4_3 (by kernel_rfl) ?_)
      refine rend ?_
      refine c_seq ?_
      refine r_start ?_
      refine p 3 ?_
      refine rend ?_
      refine c_seq ?_
      refine r_start ?_
      refine p 3 ?_
      refine xq rfl (y_idxW (e := nSign) (el := 47) 0 (getI_set hy4_3)) ?_
      refine p 3 ?_
      refine xx rfl (e_stW2 (e := nSign) (a := (⟨(⟨(⟨n1, (wr (n1 + 1)), (wr ((wr (n1 + 1)) + 1)), (wr ((wr ((wr (n1 + 1)) + 1)) + 1)), (wr ((wr ((wr ((wr (n1 + 1)) + 1)) + 1)) + 1)), ((Int.tmod (wr ((wr ((wr ((wr ((wr (n1 + 1)) + 1)) + 1)) + 1)) + 1)) 3) == 0)⟩ : Shape), (⟨(wr ((wr ((wr ((wr ((wr ((wr (n1 + 1)) + 1)) + 1)) + 1)) + 1)) + 1)), (wr ((wr ((wr ((wr ((wr ((wr ((wr (n1 + 1)) + 1)) + 1)) + 1)) + 1)) + 1)) + 1))⟩ : Orient), (⟨(wr ((wr ((wr ((wr ((wr ((wr ((wr ((wr (n1 + 1)) + 1)) + 1)) + 1)) + 1)) + 1)) + 1)) + 1)), (wr ((wr ((wr ((wr ((wr ((wr ((wr ((wr ((wr (n1 + 1)) + 1)) + 1)) + 1)) + 1)) + 1)) + 1)) + 1)) + 1)), ((Int.tmod (wr ((wr ((wr ((wr ((wr ((wr ((wr ((wr ((wr ((wr (n1 + 1)) + 1)) + 1)) + 1)) + 1)) + 1)) + 1)) + 1)) + 1)) + 1)) 3) == 0)⟩ : Place), (⟨v26_3, (wr ((wr ((wr ((wr ((wr ((wr ((wr ((wr ((wr ((wr ((wr ((wr (n1 + 1)) + 1)) + 1)) + 1)) + 1)) + 1)) + 1)) + 1)) + 1)) + 1)) + 1)) + 1))⟩ : Move)⟩ : Hand), ((Int.tmod (wr ((wr ((wr ((wr ((wr ((wr ((wr ((wr ((wr ((wr ((wr ((wr ((wr (n1 + 1)) + 1)) + 1)) + 1)) + 1)) + 1)) + 1)) + 1)) + 1)) + 1)) + 1)) + 1)) + 1)) 3) == 0), { y4_3.Other with Shape := (⟨(wr ((wr ((wr ((wr ((wr ((wr ((wr ((wr ((wr ((wr ((wr ((wr ((wr ((wr (n1 + 1)) + 1)) + 1)) + 1)) + 1)) + 1)) + 1)) + 1)) + 1)) + 1)) + 1)) + 1)) + 1)) + 1)), (wr ((wr ((wr ((wr ((wr ((wr ((wr ((wr ((wr ((wr ((wr ((wr ((wr ((wr ((wr (n1 + 1)) + 1)) + 1)) + 1)) + 1)) + 1)) + 1)) + 1)) + 1)) + 1)) + 1)) + 1)) + 1)) + 1)) + 1)), (wr ((wr ((wr ((wr ((wr ((wr ((wr ((wr ((wr ((wr ((wr ((wr ((wr ((wr ((wr ((wr (n1 + 1)) + 1)) + 1)) + 1)) + 1)) + 1)) + 1)) + 1)) + 1)) + 1)) + 1)) + 1)) + 1)) + 1)) + 1)) + 1)), (wr ((wr ((wr ((wr ((wr ((wr ((wr ((wr ((wr ((wr ((wr ((wr ((wr ((wr ((wr ((wr ((wr (n1 + 1)) + 1)) + 1)) + 1)) + 1)) + 1)) + 1)) + 1)) + 1)) + 1)) + 1)) + 1)) + 1)) + 1)) + 1)) + 1)) + 1)), (wr ((wr ((wr ((wr ((wr ((wr ((wr ((wr ((wr ((wr ((wr ((wr ((wr ((wr ((wr ((wr ((wr ((wr (n1 + 1)) + 1)) + 1)) + 1)) + 1)) + 1)) + 1)) + 1)) + 1)) + 1)) + 1)) + 1)) + 1)) + 1)) + 1)) + 1)) + 1)) + 1)), ((Int.tmod (wr ((wr ((wr ((wr ((wr ((wr ((wr ((wr ((wr ((wr ((wr ((wr ((wr ((wr ((wr ((wr ((wr ((wr ((wr (n1 + 1)) + 1)) + 1)) + 1)) + 1)) + 1)) + 1)) + 1)) + 1)) + 1)) + 1)) + 1)) + 1)) + 1)) + 1)) + 1)) + 1)) + 1)) + 1)) 3) == 0)⟩ : Shape), Orient := (⟨(wr ((wr ((wr ((wr ((wr ((wr ((wr ((wr ((wr ((wr ((wr ((wr ((wr ((wr ((wr ((wr ((wr ((wr ((wr ((wr (n1 + 1)) + 1)) + 1)) + 1)) + 1)) + 1)) + 1)) + 1)) + 1)) + 1)) + 1)) + 1)) + 1)) + 1)) + 1)) + 1)) + 1)) + 1)) + 1)) + 1)), (wr ((wr ((wr ((wr ((wr ((wr ((wr ((wr ((wr ((wr ((wr ((wr ((wr ((wr ((wr ((wr ((wr ((wr ((wr ((wr ((wr (n1 + 1)) + 1)) + 1)) + 1)) + 1)) + 1)) + 1)) + 1)) + 1)) + 1)) + 1)) + 1)) + 1)) + 1)) + 1)) + 1)) + 1)) + 1)) + 1)) + 1)) + 1))⟩ : Orient) }⟩ : Sign)) (b := (⟨(⟨(⟨n1, (wr (n1 + 1)), (wr ((wr (n1 + 1)) + 1)), (wr ((wr ((wr (n1 + 1)) + 1)) + 1)), (wr ((wr ((wr ((wr (n1 + 1)) + 1)) + 1)) + 1)), ((Int.tmod (wr ((wr ((wr ((wr ((wr (n1 + 1)) + 1)) + 1)) + 1)) + 1)) 3) == 0)⟩ : Shape), (⟨(wr ((wr ((wr ((wr ((wr ((wr (n1 + 1)) + 1)) + 1)) + 1)) + 1)) + 1)), (wr ((wr ((wr ((wr ((wr ((wr ((wr (n1 + 1)) + 1)) + 1)) + 1)) + 1)) + 1)) + 1))⟩ : Orient), (⟨(wr ((wr ((wr ((wr ((wr ((wr ((wr ((wr (n1 + 1)) + 1)) + 1)) + 1)) + 1)) + 1)) + 1)) + 1)), (wr ((wr ((wr ((wr ((wr ((wr ((wr ((wr ((wr (n1 + 1)) + 1)) + 1)) + 1)) + 1)) + 1)) + 1)) + 1)) + 1)), ((Int.tmod (wr ((wr ((wr ((wr ((wr ((wr ((wr ((wr ((wr ((wr (n1 + 1)) + 1)) + 1)) + 1)) + 1)) + 1)) + 1)) + 1)) + 1)) + 1)) 3) == 0)⟩ : Place), (⟨v26_3, (wr ((wr ((wr ((wr ((wr ((wr ((wr ((wr ((wr ((wr ((wr ((wr (n1 + 1)) + 1)) + 1)) + 1)) + 1)) + 1)) + 1)) + 1)) + 1)) + 1)) + 1)) + 1))⟩ : Move)⟩ : Hand), ((Int.tmod (wr ((wr ((wr ((wr ((wr ((wr ((wr ((wr ((wr ((wr ((wr ((wr ((wr (n1 + 1)) + 1)) + 1)) + 1)) + 1)) + 1)) + 1)) + 1)) + 1)) + 1)) + 1)) + 1)) + 1)) 3) == 0), (⟨(⟨(wr ((wr ((wr ((wr ((wr ((wr ((wr ((wr ((wr ((wr ((wr ((wr ((wr ((wr (n1 + 1)) + 1)) + 1)) + 1)) + 1)) + 1)) + 1)) + 1)) + 1)) + 1)) + 1)) + 1)) + 1)) + 1)), (wr ((wr ((wr ((wr ((wr ((wr ((wr ((wr ((wr ((wr ((wr ((wr ((wr ((wr ((wr (n1 + 1)) + 1)) + 1)) + 1)) + 1)) + 1)) + 1)) + 1)) + 1)) + 1)) + 1)) + 1)) + 1)) + 1)) + 1)), (wr ((wr ((wr ((wr ((wr ((wr ((wr ((wr ((wr ((wr ((wr ((wr ((wr ((wr ((wr ((wr (n1 + 1)) + 1)) + 1)) + 1)) + 1)) + 1)) + 1)) + 1)) + 1)) + 1)) + 1)) + 1)) + 1)) + 1)) + 1)) + 1)), (wr ((wr ((wr ((wr ((wr ((wr ((wr ((wr ((wr ((wr ((wr ((wr ((wr ((wr ((wr ((wr ((wr (n1 + 1)) + 1)) + 1)) + 1)) + 1)) + 1)) + 1)) + 1)) + 1)) + 1)) + 1)) + 1)) + 1)) + 1)) + 1)) + 1)) + 1)), (wr ((wr ((wr ((wr ((wr ((wr ((wr ((wr ((wr ((wr ((wr ((wr ((wr ((wr ((wr ((wr ((wr ((wr (n1 + 1)) + 1)) + 1)) + 1)) + 1)) + 1)) + 1)) + 1)) + 1)) + 1)) + 1)) + 1)) + 1)) + 1)) + 1)) + 1)) + 1)) + 1)), ((Int.tmod (wr ((wr ((wr ((wr ((wr ((wr ((wr ((wr ((wr ((wr ((wr ((wr ((wr ((wr ((wr ((wr ((wr ((wr ((wr (n1 + 1)) + 1)) + 1)) + 1)) + 1)) + 1)) + 1)) + 1)) + 1)) + 1)) + 1)) + 1)) + 1)) + 1)) + 1)) + 1)) + 1)) + 1)) + 1)) 3) == 0)⟩ : Shape), (⟨(wr ((wr ((wr ((wr ((wr ((wr ((wr ((wr ((wr ((wr ((wr ((wr ((wr ((wr ((wr ((wr ((wr ((wr ((wr ((wr (n1 + 1)) + 1)) + 1)) + 1)) + 1)) + 1)) + 1)) + 1)) + 1)) + 1)) + 1)) + 1)) + 1)) + 1)) + 1)) + 1)) + 1)) + 1)) + 1)) + 1)), (wr ((wr ((wr ((wr ((wr ((wr ((wr ((wr ((wr ((wr ((wr ((wr ((wr ((wr ((wr ((wr ((wr ((wr ((wr ((wr ((wr (n1 + 1)) + 1)) + 1)) + 1)) + 1)) + 1)) + 1)) + 1)) + 1)) + 1)) + 1)) + 1)) + 1)) + 1)) + 1)) + 1)) + 1)) + 1)) + 1)) + 1)) + 1))⟩ : Orient), { y4_3.Other.Place with Region := (wr ((wr ((wr ((wr ((wr ((wr ((wr ((wr ((wr ((wr ((wr ((wr ((wr ((wr ((wr ((wr ((wr ((wr ((wr ((wr ((wr ((wr (n1 + 1)) + 1)) + 1)) + 1)) + 1)) + 1)) + 1)) + 1)) + 1)) + 1)) + 1)) + 1)) + 1)) + 1)) + 1)) + 1)) + 1)) + 1)) + 1)) + 1)) + 1)) + 1)) }, y4_3.Other.Move⟩ : Hand)⟩ : Sign)) 0 22 ([.int .i64 (wr ((wr ((wr ((wr ((wr ((wr ((wr ((wr ((wr ((wr ((wr ((wr ((wr ((wr ((wr ((wr ((wr ((wr ((wr ((wr ((wr ((wr (n1 + 1)) + 1)) + 1)) + 1)) + 1)) + 1)) + 1)) + 1)) + 1)) + 1)) + 1)) + 1)) + 1)) + 1)) + 1)) + 1)) + 1)) + 1)) + 1)) + 1)) + 1)) + 1))]) hy4_3 (by kernel_rfl) ?_)
      refine rend ?_
      refine frg (fun u => (.slice A0 (List.length a0) k0 :: .int .i64 (wr ((wr ((wr ((wr ((wr ((wr ((wr ((wr ((wr ((wr ((wr ((wr ((wr ((wr ((wr ((wr ((wr ((wr ((wr ((wr ((wr ((wr (n1 + 1)) + 1)) + 1)) + 1)) + 1)) + 1)) + 1)) + 1)) + 1)) + 1)) + 1)) + 1)) + 1)) + 1)) + 1)) + 1)) + 1)) + 1)) + 1)) + 1)) + 1)) + 1)) :: (jk u 2 3 (.int .i64 n2 :: (jk u 6 260 []))))) (by kernel_rfl) fun u => ?_
      refine keep 1 (its' := [argW nSign B0 47 A0 (List.length a0) k0 (List.set l3 (Int.toNat n2) (⟨(⟨(⟨n1, (wr (n1 + 1)), (wr ((wr (n1 + 1)) + 1)), (wr ((wr ((wr (n1 + 1)) + 1)) + 1)), (wr ((wr ((wr ((wr (n1 + 1)) + 1)) + 1)) + 1)), ((Int.tmod (wr ((wr ((wr ((wr ((wr (n1 + 1)) + 1)) + 1)) + 1)) + 1)) 3) == 0)⟩ : Shape), (⟨(wr ((wr ((wr ((wr ((wr ((wr (n1 + 1)) + 1)) + 1)) + 1)) + 1)) + 1)), (wr ((wr ((wr ((wr ((wr ((wr ((wr (n1 + 1)) + 1)) + 1)) + 1)) + 1)) + 1)) + 1))⟩ : Orient), (⟨(wr ((wr ((wr ((wr ((wr ((wr ((wr ((wr (n1 + 1)) + 1)) + 1)) + 1)) + 1)) + 1)) + 1)) + 1)), (wr ((wr ((wr ((wr ((wr ((wr ((wr ((wr ((wr (n1 + 1)) + 1)) + 1)) + 1)) + 1)) + 1)) + 1)) + 1)) + 1)), ((Int.tmod (wr ((wr ((wr ((wr ((wr ((wr ((wr ((wr ((wr ((wr (n1 + 1)) + 1)) + 1)) + 1)) + 1)) + 1)) + 1)) + 1)) + 1)) + 1)) 3) == 0)⟩ : Place), (⟨v26_3, (wr ((wr ((wr ((wr ((wr ((wr ((wr ((wr ((wr ((wr ((wr ((wr (n1 + 1)) + 1)) + 1)) + 1)) + 1)) + 1)) + 1)) + 1)) + 1)) + 1)) + 1)) + 1))⟩ : Move)⟩ : Hand), ((Int.tmod (wr ((wr ((wr ((wr ((wr ((wr ((wr ((wr ((wr ((wr ((wr ((wr ((wr (n1 + 1)) + 1)) + 1)) + 1)) + 1)) + 1)) + 1)) + 1)) + 1)) + 1)) + 1)) + 1)) + 1)) 3) == 0), (⟨(⟨(wr ((wr ((wr ((wr ((wr ((wr ((wr ((wr ((wr ((wr ((wr ((wr ((wr ((wr (n1 + 1)) + 1)) + 1)) + 1)) + 1)) + 1)) + 1)) + 1)) + 1)) + 1)) + 1)) + 1)) + 1)) + 1)), (wr ((wr ((wr ((wr ((wr ((wr ((wr ((wr ((wr ((wr ((wr ((wr ((wr ((wr ((wr (n1 + 1)) + 1)) + 1)) + 1)) + 1)) + 1)) + 1)) + 1)) + 1)) + 1)) + 1)) + 1)) + 1)) + 1)) + 1)), (wr ((wr ((wr ((wr ((wr ((wr ((wr ((wr ((wr ((wr ((wr ((wr ((wr ((wr ((wr ((wr (n1 + 1)) + 1)) + 1)) + 1)) + 1)) + 1)) + 1)) + 1)) + 1)) + 1)) + 1)) + 1)) + 1)) + 1)) + 1)) + 1)), (wr ((wr ((wr ((wr ((wr ((wr ((wr ((wr ((wr ((wr ((wr ((wr ((wr ((wr ((wr ((wr ((wr (n1 + 1)) + 1)) + 1)) + 1)) + 1)) + 1)) + 1)) + 1)) + 1)) + 1)) + 1)) + 1)) + 1)) + 1)) + 1)) + 1)) + 1)), (wr ((wr ((wr ((wr ((wr ((wr ((wr ((wr ((wr ((wr ((wr ((wr ((wr ((wr ((wr ((wr ((wr ((wr (n1 + 1)) + 1)) + 1)) + 1)) + 1)) + 1)) + 1)) + 1)) + 1)) + 1)) + 1)) + 1)) + 1)) + 1)) + 1)) + 1)) + 1)) + 1)), ((Int.tmod (wr ((wr ((wr ((wr ((wr ((wr ((wr ((wr ((wr ((wr ((wr ((wr ((wr ((wr ((wr ((wr ((wr ((wr ((wr (n1 + 1)) + 1)) + 1)) + 1)) + 1)) + 1)) + 1)) + 1)) + 1)) + 1)) + 1)) + 1)) + 1)) + 1)) + 1)) + 1)) + 1)) + 1)) + 1)) 3) == 0)⟩ : Shape), (⟨(wr ((wr ((wr ((wr ((wr ((wr ((wr ((wr ((wr ((wr ((wr ((wr ((wr ((wr ((wr ((wr ((wr ((wr ((wr ((wr (n1 + 1)) + 1)) + 1)) + 1)) + 1)) + 1)) + 1)) + 1)) + 1)) + 1)) + 1)) + 1)) + 1)) + 1)) + 1)) + 1)) + 1)) + 1)) + 1)) + 1)), (wr ((wr ((wr ((wr ((wr ((wr ((wr ((wr ((wr ((wr ((wr ((wr ((wr ((wr ((wr ((wr ((wr ((wr ((wr ((wr ((wr (n1 + 1)) + 1)) + 1)) + 1)) + 1)) + 1)) + 1)) + 1)) + 1)) + 1)) + 1)) + 1)) + 1)) + 1)) + 1)) + 1)) + 1)) + 1)) + 1)) + 1)) + 1))⟩ : Orient), { y4_3.Other.Place with Region := (wr ((wr ((wr ((wr ((wr ((wr ((wr ((wr ((wr ((wr ((wr ((wr ((wr ((wr ((wr ((wr ((wr ((wr ((wr ((wr ((wr ((wr (n1 + 1)) + 1)) + 1)) + 1)) + 1)) + 1)) + 1)) + 1)) + 1)) + 1)) + 1)) + 1)) + 1)) + 1)) + 1)) + 1)) + 1)) + 1)) + 1)) + 1)) + 1)) + 1)) }, y4_3.Other.Move⟩ : Hand)⟩ : Sign))]) (by kernel_rfl) ?_
      refine c_seq ?_
      refine r_start ?_
      refine p 3 ?_
      refine rend ?_
      refine c_seq ?_
      refine r_start ?_
      refine p 3 ?_
      refine xq rfl (y_idxW (e := nSign) (el := 47) 0 (getI_set hy4_3)) ?_
      refine p 3 ?_
      refine xx rfl (e_stW2 (e := nSign) (a := (⟨(⟨(⟨n1, (wr (n1 + 1)), (wr ((wr (n1 + 1)) + 1)), (wr ((wr ((wr (n1 + 1)) + 1)) + 1)), (wr ((wr ((wr ((wr (n1 + 1)) + 1)) + 1)) + 1)), ((Int.tmod (wr ((wr ((wr ((wr ((wr (n1 + 1)) + 1)) + 1)) + 1)) + 1)) 3) == 0)⟩ : Shape), (⟨(wr ((wr ((wr ((wr ((wr ((wr (n1 + 1)) + 1)) + 1)) + 1)) + 1)) + 1)), (wr ((wr ((wr ((wr ((wr ((wr ((wr (n1 + 1)) + 1)) + 1)) + 1)) + 1)) + 1)) + 1))⟩ : Orient), (⟨(wr ((wr ((wr ((wr ((wr ((wr ((wr ((wr (n1 + 1)) + 1)) + 1)) + 1)) + 1)) + 1)) + 1)) + 1)), (wr ((wr ((wr ((wr ((wr ((wr ((wr ((wr ((wr (n1 + 1)) + 1)) + 1)) + 1)) + 1)) + 1)) + 1)) + 1)) + 1)), ((Int.tmod (wr ((wr ((wr ((wr ((wr ((wr ((wr ((wr ((wr ((wr (n1 + 1)) + 1)) + 1)) + 1)) + 1)) + 1)) + 1)) + 1)) + 1)) + 1)) 3) == 0)⟩ : Place), (⟨v26_3, (wr ((wr ((wr ((wr ((wr ((wr ((wr ((wr ((wr ((wr ((wr ((wr (n1 + 1)) + 1)) + 1)) + 1)) + 1)) + 1)) + 1)) + 1)) + 1)) + 1)) + 1)) + 1))⟩ : Move)⟩ : Hand), ((Int.tmod (wr ((wr ((wr ((wr ((wr ((wr ((wr ((wr ((wr ((wr ((wr ((wr ((wr (n1 + 1)) + 1)) + 1)) + 1)) + 1)) + 1)) + 1)) + 1)) + 1)) + 1)) + 1)) + 1)) + 1)) 3) == 0), (⟨(⟨(wr ((wr ((wr ((wr ((wr ((wr ((wr ((wr ((wr ((wr ((wr ((wr ((wr ((wr (n1 + 1)) + 1)) + 1)) + 1)) + 1)) + 1)) + 1)) + 1)) + 1)) + 1)) + 1)) + 1)) + 1)) + 1)), (wr ((wr ((wr ((wr ((wr ((wr ((wr ((wr ((wr ((wr ((wr ((wr ((wr ((wr ((wr (n1 + 1)) + 1)) + 1)) + 1)) + 1)) + 1)) + 1)) + 1)) + 1)) + 1)) + 1)) + 1)) + 1)) + 1)) + 1)), (wr ((wr ((wr ((wr ((wr ((wr ((wr ((wr ((wr ((wr ((wr ((wr ((wr ((wr ((wr ((wr (n1 + 1)) + 1)) + 1)) + 1)) + 1)) + 1)) + 1)) + 1)) + 1)) + 1)) + 1)) + 1)) + 1)) + 1)) + 1)) + 1)), (wr ((wr ((wr ((wr ((wr ((wr ((wr ((wr ((wr ((wr ((wr ((wr ((wr ((wr ((wr ((wr ((wr (n1 + 1)) + 1)) + 1)) + 1)) + 1)) + 1)) + 1)) + 1)) + 1)) + 1)) + 1)) + 1)) + 1)) + 1)) + 1)) + 1)) + 1)), (wr ((wr ((wr ((wr ((wr ((wr ((wr ((wr ((wr ((wr ((wr ((wr ((wr ((wr ((wr ((wr ((wr ((wr (n1 + 1)) + 1)) + 1)) + 1)) + 1)) + 1)) + 1)) + 1)) + 1)) + 1)) + 1)) + 1)) + 1)) + 1)) + 1)) + 1)) + 1)) + 1)), ((Int.tmod (wr ((wr ((wr ((wr ((wr ((wr ((wr ((wr ((wr ((wr ((wr ((wr ((wr ((wr ((wr ((wr ((wr ((wr ((wr (n1 + 1)) + 1)) + 1)) + 1)) + 1)) + 1)) + 1)) + 1)) + 1)) + 1)) + 1)) + 1)) + 1)) + 1)) + 1)) + 1)) + 1)) + 1)) + 1)) 3) == 0)⟩ : Shape), (⟨(wr ((wr ((wr ((wr ((wr ((wr ((wr ((wr ((wr ((wr ((wr ((wr ((wr ((wr ((wr ((wr ((wr ((wr ((wr ((wr (n1 + 1)) + 1)) + 1)) + 1)) + 1)) + 1)) + 1)) + 1)) + 1)) + 1)) + 1)) + 1)) + 1)) + 1)) + 1)) + 1)) + 1)) + 1)) + 1)) + 1)), (wr ((wr ((wr ((wr ((wr ((wr ((wr ((wr ((wr ((wr ((wr ((wr ((wr ((wr ((wr ((wr ((wr ((wr ((wr ((wr ((wr (n1 + 1)) + 1)) + 1)) + 1)) + 1)) + 1)) + 1)) + 1)) + 1)) + 1)) + 1)) + 1)) + 1)) + 1)) + 1)) + 1)) + 1)) + 1)) + 1)) + 1)) + 1))⟩ : Orient), { y4_3.Other.Place with Region := (wr ((wr ((wr ((wr ((wr ((wr ((wr ((wr ((wr ((wr ((wr ((wr ((wr ((wr ((wr ((wr ((wr ((wr ((wr ((wr ((wr ((wr (n1 + 1)) + 1)) + 1)) + 1)) + 1)) + 1)) + 1)) + 1)) + 1)) + 1)) + 1)) + 1)) + 1)) + 1)) + 1)) + 1)) + 1)) + 1)) + 1)) + 1)) + 1)) + 1)) }, y4_3.Other.Move⟩ : Hand)⟩ : Sign)) (b := (⟨(⟨(⟨n1, (wr (n1 + 1)), (wr ((wr (n1 + 1)) + 1)), (wr ((wr ((wr (n1 + 1)) + 1)) + 1)), (wr ((wr ((wr ((wr (n1 + 1)) + 1)) + 1)) + 1)), ((Int.tmod (wr ((wr ((wr ((wr ((wr (n1 + 1)) + 1)) + 1)) + 1)) + 1)) 3) == 0)⟩ : Shape), (⟨(wr ((wr ((wr ((wr ((wr ((wr (n1 + 1)) + 1)) + 1)) + 1)) + 1)) + 1)), (wr ((wr ((wr ((wr ((wr ((wr ((wr (n1 + 1)) + 1)) + 1)) + 1)) + 1)) + 1)) + 1))⟩ : Orient), (⟨(wr ((wr ((wr ((wr ((wr ((wr ((wr ((wr (n1 + 1)) + 1)) + 1)) + 1)) + 1)) + 1)) + 1)) + 1)), (wr ((wr ((wr ((wr ((wr ((wr ((wr ((wr ((wr (n1 + 1)) + 1)) + 1)) + 1)) + 1)) + 1)) + 1)) + 1)) + 1)), ((Int.tmod (wr ((wr ((wr ((wr ((wr ((wr ((wr ((wr ((wr ((wr (n1 + 1)) + 1)) + 1)) + 1)) + 1)) + 1)) + 1)) + 1)) + 1)) + 1)) 3) == 0)⟩ : Place), (⟨v26_3, (wr ((wr ((wr ((wr ((wr ((wr ((wr ((wr ((wr ((wr ((wr ((wr (n1 + 1)) + 1)) + 1)) + 1)) + 1)) + 1)) + 1)) + 1)) + 1)) + 1)) + 1)) + 1))⟩ : Move)⟩ : Hand), ((Int.tmod (wr ((wr ((wr ((wr ((wr ((wr ((wr ((wr ((wr ((wr ((wr ((wr ((wr (n1 + 1)) + 1)) + 1)) + 1)) + 1)) + 1)) + 1)) + 1)) + 1)) + 1)) + 1)) + 1)) + 1)) 3) == 0), (⟨(⟨(wr ((wr ((wr ((wr ((wr ((wr ((wr ((wr ((wr ((wr ((wr ((wr ((wr ((wr (n1 + 1)) + 1)) + 1)) + 1)) + 1)) + 1)) + 1)) + 1)) + 1)) + 1)) + 1)) + 1)) + 1)) + 1)), (wr ((wr ((wr ((wr ((wr ((wr ((wr ((wr ((wr ((wr ((wr ((wr ((wr ((wr ((wr (n1 + 1)) + 1)) + 1)) + 1)) + 1)) + 1)) + 1)) + 1)) + 1)) + 1)) + 1)) + 1)) + 1)) + 1)) + 1)), (wr ((wr ((wr ((wr ((wr ((wr ((wr ((wr ((wr ((wr ((wr ((wr ((wr ((wr ((wr ((wr (n1 + 1)) + 1)) + 1)) + 1)) + 1)) + 1)) + 1)) + 1)) + 1)) + 1)) + 1)) + 1)) + 1)) + 1)) + 1)) + 1)), (wr ((wr ((wr ((wr ((wr ((wr ((wr ((wr ((wr ((wr ((wr ((wr ((wr ((wr ((wr ((wr ((wr (n1 + 1)) + 1)) + 1)) + 1)) + 1)) + 1)) + 1)) + 1)) + 1)) + 1)) + 1)) + 1)) + 1)) + 1)) + 1)) + 1)) + 1)), (wr ((wr ((wr ((wr ((wr ((wr ((wr ((wr ((wr ((wr ((wr ((wr ((wr ((wr ((wr ((wr ((wr ((wr (n1 + 1)) + 1)) + 1)) + 1)) + 1)) + 1)) + 1)) + 1)) + 1)) + 1)) + 1)) + 1)) + 1)) + 1)) + 1)) + 1)) + 1)) + 1)), ((Int.tmod (wr ((wr ((wr ((wr ((wr ((wr ((wr ((wr ((wr ((wr ((wr ((wr ((wr ((wr ((wr ((wr ((wr ((wr ((wr (n1 + 1)) + 1)) + 1)) + 1)) + 1)) + 1)) + 1)) + 1)) + 1)) + 1)) + 1)) + 1)) + 1)) + 1)) + 1)) + 1)) + 1)) + 1)) + 1)) 3) == 0)⟩ : Shape), (⟨(wr ((wr ((wr ((wr ((wr ((wr ((wr ((wr ((wr ((wr ((wr ((wr ((wr ((wr ((wr ((wr ((wr ((wr ((wr ((wr (n1 + 1)) + 1)) + 1)) + 1)) + 1)) + 1)) + 1)) + 1)) + 1)) + 1)) + 1)) + 1)) + 1)) + 1)) + 1)) + 1)) + 1)) + 1)) + 1)) + 1)), (wr ((wr ((wr ((wr ((wr ((wr ((wr ((wr ((wr ((wr ((wr ((wr ((wr ((wr ((wr ((wr ((wr ((wr ((wr ((wr ((wr (n1 + 1)) + 1)) + 1)) + 1)) + 1)) + 1)) + 1)) + 1)) + 1)) + 1)) + 1)) + 1)) + 1)) + 1)) + 1)) + 1)) + 1)) + 1)) + 1)) + 1)) + 1))⟩ : Orient), (⟨(wr ((wr ((wr ((wr ((wr ((wr ((wr ((wr ((wr ((wr ((wr ((wr ((wr ((wr ((wr ((wr ((wr ((wr ((wr ((wr ((wr ((wr (n1 + 1)) + 1)) + 1)) + 1)) + 1)) + 1)) + 1)) + 1)) + 1)) + 1)) + 1)) + 1)) + 1)) + 1)) + 1)) + 1)) + 1)) + 1)) + 1)) + 1)) + 1)) + 1)), (wr ((wr ((wr ((wr ((wr ((wr ((wr ((wr ((wr ((wr ((wr ((wr ((wr ((wr ((wr ((wr ((wr ((wr ((wr ((wr ((wr ((wr ((wr (n1 + 1)) + 1)) + 1)) + 1)) + 1)) + 1)) + 1)) + 1)) + 1)) + 1)) + 1)) + 1)) + 1)) + 1)) + 1)) + 1)) + 1)) + 1)) + 1)) + 1)) + 1)) + 1)) + 1)), y4_3.Other.Place.Contact⟩ : Place), y4_3.Other.Move⟩ : Hand)⟩ : Sign)) 0 23 ([.int .i64 (wr ((wr ((wr ((wr ((wr ((wr ((wr ((wr ((wr ((wr ((wr ((wr ((wr ((wr ((wr ((wr ((wr ((wr ((wr ((wr ((wr ((wr ((wr (n1 + 1)) + 1)) + 1)) + 1)) + 1)) + 1)) + 1)) + 1)) + 1)) + 1)) + 1)) + 1)) + 1)) + 1)) + 1)) + 1)) + 1)) + 1)) + 1)) + 1)) + 1)) + 1)) + 1))]) hy4_3 (by kernel_rfl) ?_)
      refine rend ?_
      refine c_seq ?_
      refine r_start ?_
      refine p 3 ?_
      refine rend ?_
      refine c_seq ?_
      refine r_start ?_
      refine p 5 ?_
      refine xq rfl (y_idxW (e := nSign) (el := 47) 0 (getI_set hy4_3)) ?_
      refine p 3 ?_
      refine xx rfl (e_stW2 (e := nSign) (a := (⟨(⟨(⟨n1, (wr (n1 + 1)), (wr ((wr (n1 + 1)) + 1)), (wr ((wr ((wr (n1 + 1)) + 1)) + 1)), (wr ((wr ((wr ((wr (n1 + 1)) + 1)) + 1)) + 1)), ((Int.tmod (wr ((wr ((wr ((wr ((wr (n1 + 1)) + 1)) + 1)) + 1)) + 1)) 3) == 0)⟩ : Shape), (⟨(wr ((wr ((wr ((wr ((wr ((wr (n1 + 1)) + 1)) + 1)) + 1)) + 1)) + 1)), (wr ((wr ((wr ((wr ((wr ((wr ((wr (n1 + 1)) + 1)) + 1)) + 1)) + 1)) + 1)) + 1))⟩ : Orient), (⟨(wr ((wr ((wr ((wr ((wr ((wr ((wr ((wr (n1 + 1)) + 1)) + 1)) + 1)) + 1)) + 1)) + 1)) + 1)), (wr ((wr ((wr ((wr ((wr ((wr ((wr ((wr ((wr (n1 + 1)) + 1)) + 1)) + 1)) + 1)) + 1)) + 1)) + 1)) + 1)), ((Int.tmod (wr ((wr ((wr ((wr ((wr ((wr ((wr ((wr ((wr ((wr (n1 + 1)) + 1)) + 1)) + 1)) + 1)) + 1)) + 1)) + 1)) + 1)) + 1)) 3) == 0)⟩ : Place), (⟨v26_3, (wr ((wr ((wr ((wr ((wr ((wr ((wr ((wr ((wr ((wr ((wr ((wr (n1 + 1)) + 1)) + 1)) + 1)) + 1)) + 1)) + 1)) + 1)) + 1)) + 1)) + 1)) + 1))⟩ : Move)⟩ : Hand), ((Int.tmod (wr ((wr ((wr ((wr ((wr ((wr ((wr ((wr ((wr ((wr ((wr ((wr ((wr (n1 + 1)) + 1)) + 1)) + 1)) + 1)) + 1)) + 1)) + 1)) + 1)) + 1)) + 1)) + 1)) + 1)) 3) == 0), (⟨(⟨(wr ((wr ((wr ((wr ((wr ((wr ((wr ((wr ((wr ((wr ((wr ((wr ((wr ((wr (n1 + 1)) + 1)) + 1)) + 1)) + 1)) + 1)) + 1)) + 1)) + 1)) + 1)) + 1)) + 1)) + 1)) + 1)), (wr ((wr ((wr ((wr ((wr ((wr ((wr ((wr ((wr ((wr ((wr ((wr ((wr ((wr ((wr (n1 + 1)) + 1)) + 1)) + 1)) + 1)) + 1)) + 1)) + 1)) + 1)) + 1)) + 1)) + 1)) + 1)) + 1)) + 1)), (wr ((wr ((wr ((wr ((wr ((wr ((wr ((wr ((wr ((wr ((wr ((wr ((wr ((wr ((wr ((wr (n1 + 1)) + 1)) + 1)) + 1)) + 1)) + 1)) + 1)) + 1)) + 1)) + 1)) + 1)) + 1)) + 1)) + 1)) + 1)) + 1)), (wr ((wr ((wr ((wr ((wr ((wr ((wr ((wr ((wr ((wr ((wr ((wr ((wr ((wr ((wr ((wr ((wr (n1 + 1)) + 1)) + 1)) + 1)) + 1)) + 1)) + 1)) + 1)) + 1)) + 1)) + 1)) + 1)) + 1)) + 1)) + 1)) + 1)) + 1)), (wr ((wr ((wr ((wr ((wr ((wr ((wr ((wr ((wr ((wr ((wr ((wr ((wr ((wr ((wr ((wr ((wr ((wr (n1 + 1)) + 1)) + 1)) + 1)) + 1)) + 1)) + 1)) + 1)) + 1)) + 1)) + 1)) + 1)) + 1)) + 1)) + 1)) + 1)) + 1)) + 1)), ((Int.tmod (wr ((wr ((wr ((wr ((wr ((wr ((wr ((wr ((wr ((wr ((wr ((wr ((wr ((wr ((wr ((wr ((wr ((wr ((wr (n1 + 1)) + 1)) + 1)) + 1)) + 1)) + 1)) + 1)) + 1)) + 1)) + 1)) + 1)) + 1)) + 1)) + 1)) + 1)) + 1)) + 1)) + 1)) + 1)) 3) == 0)⟩ : Shape), (⟨(wr ((wr ((wr ((wr ((wr ((wr ((wr ((wr ((wr ((wr ((wr ((wr ((wr ((wr ((wr ((wr ((wr ((wr ((wr ((wr (n1 + 1)) + 1)) + 1)) + 1)) + 1)) + 1)) + 1)) + 1)) + 1)) + 1)) + 1)) + 1)) + 1)) + 1)) + 1)) + 1)) + 1)) + 1)) + 1)) + 1)), (wr ((wr ((wr ((wr ((wr ((wr ((wr ((wr ((wr ((wr ((wr ((wr ((wr ((wr ((wr ((wr ((wr ((wr ((wr ((wr ((wr (n1 + 1)) + 1)) + 1)) + 1)) + 1)) + 1)) + 1)) + 1)) + 1)) + 1)) + 1)) + 1)) + 1)) + 1)) + 1)) + 1)) + 1)) + 1)) + 1)) + 1)) + 1))⟩ : Orient), (⟨(wr ((wr ((wr ((wr ((wr ((wr ((wr ((wr ((wr ((wr ((wr ((wr ((wr ((wr ((wr ((wr ((wr ((wr ((wr ((wr ((wr ((wr (n1 + 1)) + 1)) + 1)) + 1)) + 1)) + 1)) + 1)) + 1)) + 1)) + 1)) + 1)) + 1)) + 1)) + 1)) + 1)) + 1)) + 1)) + 1)) + 1)) + 1)) + 1)) + 1)), (wr ((wr ((wr ((wr ((wr ((wr ((wr ((wr ((wr ((wr ((wr ((wr ((wr ((wr ((wr ((wr ((wr ((wr ((wr ((wr ((wr ((wr ((wr (n1 + 1)) + 1)) + 1)) + 1)) + 1)) + 1)) + 1)) + 1)) + 1)) + 1)) + 1)) + 1)) + 1)) + 1)) + 1)) + 1)) + 1)) + 1)) + 1)) + 1)) + 1)) + 1)) + 1)), y4_3.Other.Place.Contact⟩ : Place), y4_3.Other.Move⟩ : Hand)⟩ : Sign)) (b := (⟨(⟨(⟨n1, (wr (n1 + 1)), (wr ((wr (n1 + 1)) + 1)), (wr ((wr ((wr (n1 + 1)) + 1)) + 1)), (wr ((wr ((wr ((wr (n1 + 1)) + 1)) + 1)) + 1)), ((Int.tmod (wr ((wr ((wr ((wr ((wr (n1 + 1)) + 1)) + 1)) + 1)) + 1)) 3) == 0)⟩ : Shape), (⟨(wr ((wr ((wr ((wr ((wr ((wr (n1 + 1)) + 1)) + 1)) + 1)) + 1)) + 1)), (wr ((wr ((wr ((wr ((wr ((wr ((wr (n1 + 1)) + 1)) + 1)) + 1)) + 1)) + 1)) + 1))⟩ : Orient), (⟨(wr ((wr ((wr ((wr ((wr ((wr ((wr ((wr (n1 + 1)) + 1)) + 1)) + 1)) + 1)) + 1)) + 1)) + 1)), (wr ((wr ((wr ((wr ((wr ((wr ((wr ((wr ((wr (n1 + 1)) + 1)) + 1)) + 1)) + 1)) + 1)) + 1)) + 1)) + 1)), ((Int.tmod (wr ((wr ((wr ((wr ((wr ((wr ((wr ((wr ((wr ((wr (n1 + 1)) + 1)) + 1)) + 1)) + 1)) + 1)) + 1)) + 1)) + 1)) + 1)) 3) == 0)⟩ : Place), (⟨v26_3, (wr ((wr ((wr ((wr ((wr ((wr ((wr ((wr ((wr ((wr ((wr ((wr (n1 + 1)) + 1)) + 1)) + 1)) + 1)) + 1)) + 1)) + 1)) + 1)) + 1)) + 1)) + 1))⟩ : Move)⟩ : Hand), ((Int.tmod (wr ((wr ((wr ((wr ((wr ((wr ((wr ((wr ((wr ((wr ((wr ((wr ((wr (n1 + 1)) + 1)) + 1)) + 1)) + 1)) + 1)) + 1)) + 1)) + 1)) + 1)) + 1)) + 1)) + 1)) 3) == 0), (⟨(⟨(wr ((wr ((wr ((wr ((wr ((wr ((wr ((wr ((wr ((wr ((wr ((wr ((wr ((wr (n1 + 1)) + 1)) + 1)) + 1)) + 1)) + 1)) + 1)) + 1)) + 1)) + 1)) + 1)) + 1)) + 1)) + 1)), (wr ((wr ((wr ((wr ((wr ((wr ((wr ((wr ((wr ((wr ((wr ((wr ((wr ((wr ((wr (n1 + 1)) + 1)) + 1)) + 1)) + 1)) + 1)) + 1)) + 1)) + 1)) + 1)) + 1)) + 1)) + 1)) + 1)) + 1)), (wr ((wr ((wr ((wr ((wr ((wr ((wr ((wr ((wr ((wr ((wr ((wr ((wr ((wr ((wr ((wr (n1 + 1)) + 1)) + 1)) + 1)) + 1)) + 1)) + 1)) + 1)) + 1)) + 1)) + 1)) + 1)) + 1)) + 1)) + 1)) + 1)), (wr ((wr ((wr ((wr ((wr ((wr ((wr ((wr ((wr ((wr ((wr ((wr ((wr ((wr ((wr ((wr ((wr (n1 + 1)) + 1)) + 1)) + 1)) + 1)) + 1)) + 1)) + 1)) + 1)) + 1)) + 1)) + 1)) + 1)) + 1)) + 1)) + 1)) + 1)), (wr ((wr ((wr ((wr ((wr ((wr ((wr ((wr ((wr ((wr ((wr ((wr ((wr ((wr ((wr ((wr ((wr ((wr (n1 + 1)) + 1)) + 1)) + 1)) + 1)) + 1)) + 1)) + 1)) + 1)) + 1)) + 1)) + 1)) + 1)) + 1)) + 1)) + 1)) + 1)) + 1)), ((Int.tmod (wr ((wr ((wr ((wr ((wr ((wr ((wr ((wr ((wr ((wr ((wr ((wr ((wr ((wr ((wr ((wr ((wr ((wr ((wr (n1 + 1)) + 1)) + 1)) + 1)) + 1)) + 1)) + 1)) + 1)) + 1)) + 1)) + 1)) + 1)) + 1)) + 1)) + 1)) + 1)) + 1)) + 1)) + 1)) 3) == 0)⟩ : Shape), (⟨(wr ((wr ((wr ((wr ((wr ((wr ((wr ((wr ((wr ((wr ((wr ((wr ((wr ((wr ((wr ((wr ((wr ((wr ((wr ((wr (n1 + 1)) + 1)) + 1)) + 1)) + 1)) + 1)) + 1)) + 1)) + 1)) + 1)) + 1)) + 1)) + 1)) + 1)) + 1)) + 1)) + 1)) + 1)) + 1)) + 1)), (wr ((wr ((wr ((wr ((wr ((wr ((wr ((wr ((wr ((wr ((wr ((wr ((wr ((wr ((wr ((wr ((wr ((wr ((wr ((wr ((wr (n1 + 1)) + 1)) + 1)) + 1)) + 1)) + 1)) + 1)) + 1)) + 1)) + 1)) + 1)) + 1)) + 1)) + 1)) + 1)) + 1)) + 1)) + 1)) + 1)) + 1)) + 1))⟩ : Orient), (⟨(wr ((wr ((wr ((wr ((wr ((wr ((wr ((wr ((wr ((wr ((wr ((wr ((wr ((wr ((wr ((wr ((wr ((wr ((wr ((wr ((wr ((wr (n1 + 1)) + 1)) + 1)) + 1)) + 1)) + 1)) + 1)) + 1)) + 1)) + 1)) + 1)) + 1)) + 1)) + 1)) + 1)) + 1)) + 1)) + 1)) + 1)) + 1)) + 1)) + 1)), (wr ((wr ((wr ((wr ((wr ((wr ((wr ((wr ((wr ((wr ((wr ((wr ((wr ((wr ((wr ((wr ((wr ((wr ((wr ((wr ((wr ((wr ((wr (n1 + 1)) + 1)) + 1)) + 1)) + 1)) + 1)) + 1)) + 1)) + 1)) + 1)) + 1)) + 1)) + 1)) + 1)) + 1)) + 1)) + 1)) + 1)) + 1)) + 1)) + 1)) + 1)) + 1)), ((Int.tmod (wr ((wr ((wr ((wr ((wr ((wr ((wr ((wr ((wr ((wr ((wr ((wr ((wr ((wr ((wr ((wr ((wr ((wr ((wr ((wr ((wr ((wr ((wr ((wr (n1 + 1)) + 1)) + 1)) + 1)) + 1)) + 1)) + 1)) + 1)) + 1)) + 1)) + 1)) + 1)) + 1)) + 1)) + 1)) + 1)) + 1)) + 1)) + 1)) + 1)) + 1)) + 1)) + 1)) + 1)) 3) == 0)⟩ : Place), y4_3.Other.Move⟩ : Hand)⟩ : Sign)) 0 24 ([.bool ((Int.tmod (wr ((wr ((wr ((wr ((wr ((wr ((wr ((wr ((wr ((wr ((wr ((wr ((wr ((wr ((wr ((wr ((wr ((wr ((wr ((wr ((wr ((wr ((wr ((wr (n1 + 1)) + 1)) + 1)) + 1)) + 1)) + 1)) + 1)) + 1)) + 1)) + 1)) + 1)) + 1)) + 1)) + 1)) + 1)) + 1)) + 1)) + 1)) + 1)) + 1)) + 1)) + 1)) + 1)) + 1)) 3) == 0)]) hy4_3 (by kernel_rfl) ?_)
      refine rend ?_
      refine c_seq ?_
      refine r_start ?_
      refine p 3 ?_
      refine rend ?_
      refine c_seq ?_
      refine r_start ?_
      refine p 3 ?_
      obtain ⟨v54_3, hv54_3, h⟩ := H.call h
      refine xq rfl (y_call [.int .i64 (wr ((wr ((wr ((wr ((wr ((wr ((wr ((wr ((wr ((wr ((wr ((wr ((wr ((wr ((wr ((wr ((wr ((wr ((wr ((wr ((wr ((wr ((wr ((wr ((wr (n1 + 1)) + 1)) + 1)) + 1)) + 1)) + 1)) + 1)) + 1)) + 1)) + 1)) + 1)) + 1)) + 1)) + 1)) + 1)) + 1)) + 1)) + 1)) + 1)) + 1)) + 1)) + 1)) + 1)) + 1)) + 1))] (.string (bs v54_3)) func55 (fun W S => C.l_markText W hv54_3)) ?_
      refine xq rfl (y_idxW (e := nSign) (el := 47) 0 (getI_set hy4_3)) ?_
      refine p 3 ?_
      refine xx rfl (e_stW2 (e := nSign) (a := (⟨(⟨(⟨n1, (wr (n1 + 1)), (wr ((wr (n1 + 1)) + 1)), (wr ((wr ((wr (n1 + 1)) + 1)) + 1)), (wr ((wr ((wr ((wr (n1 + 1)) + 1)) + 1)) + 1)), ((Int.tmod (wr ((wr ((wr ((wr ((wr (n1 + 1)) + 1)) + 1)) + 1)) + 1)) 3) == 0)⟩ : Shape), (⟨(wr ((wr ((wr ((wr ((wr ((wr (n1 + 1)) + 1)) + 1)) + 1)) + 1)) + 1)), (wr ((wr ((wr ((wr ((wr ((wr ((wr (n1 + 1)) + 1)) + 1)) + 1)) + 1)) + 1)) + 1))⟩ : Orient), (⟨(wr ((wr ((wr ((wr ((wr ((wr ((wr ((wr (n1 + 1)) + 1)) + 1)) + 1)) + 1)) + 1)) + 1)) + 1)), (wr ((wr ((wr ((wr ((wr ((wr ((wr ((wr ((wr (n1 + 1)) + 1)) + 1)) + 1)) + 1)) + 1)) + 1)) + 1)) + 1)), ((Int.tmod (wr ((wr ((wr ((wr ((wr ((wr ((wr ((wr ((wr ((wr (n1 + 1)) + 1)) + 1)) + 1)) + 1)) + 1)) + 1)) + 1)) + 1)) + 1)) 3) == 0)⟩ : Place), (⟨v26_3, (wr ((wr ((wr ((wr ((wr ((wr ((wr ((wr ((wr ((wr ((wr ((wr (n1 + 1)) + 1)) + 1)) + 1)) + 1)) + 1)) + 1)) + 1)) + 1)) + 1)) + 1)) + 1))⟩ : Move)⟩ : Hand), ((Int.tmod (wr ((wr ((wr ((wr ((wr ((wr ((wr ((wr ((wr ((wr ((wr ((wr ((wr (n1 + 1)) + 1)) + 1)) + 1)) + 1)) + 1)) + 1)) + 1)) + 1)) + 1)) + 1)) + 1)) + 1)) 3) == 0), (⟨(⟨(wr ((wr ((wr ((wr ((wr ((wr ((wr ((wr ((wr ((wr ((wr ((wr ((wr ((wr (n1 + 1)) + 1)) + 1)) + 1)) + 1)) + 1)) + 1)) + 1)) + 1)) + 1)) + 1)) + 1)) + 1)) + 1)), (wr ((wr ((wr ((wr ((wr ((wr ((wr ((wr ((wr ((wr ((wr ((wr ((wr ((wr ((wr (n1 + 1)) + 1)) + 1)) + 1)) + 1)) + 1)) + 1)) + 1)) + 1)) + 1)) + 1)) + 1)) + 1)) + 1)) + 1)), (wr ((wr ((wr ((wr ((wr ((wr ((wr ((wr ((wr ((wr ((wr ((wr ((wr ((wr ((wr ((wr (n1 + 1)) + 1)) + 1)) + 1)) + 1)) + 1)) + 1)) + 1)) + 1)) + 1)) + 1)) + 1)) + 1)) + 1)) + 1)) + 1)), (wr ((wr ((wr ((wr ((wr ((wr ((wr ((wr ((wr ((wr ((wr ((wr ((wr ((wr ((wr ((wr ((wr (n1 + 1)) + 1)) + 1)) + 1)) + 1)) + 1)) + 1)) + 1)) + 1)) + 1)) + 1)) + 1)) + 1)) + 1)) + 1)) + 1)) + 1)), (wr ((wr ((wr ((wr ((wr ((wr ((wr ((wr ((wr ((wr ((wr ((wr ((wr ((wr ((wr ((wr ((wr ((wr (n1 + 1)) + 1)) + 1)) + 1)) + 1)) + 1)) + 1)) + 1)) + 1)) + 1)) + 1)) + 1)) + 1)) + 1)) + 1)) + 1)) + 1)) + 1)), ((Int.tmod (wr ((wr ((wr ((wr ((wr ((wr ((wr ((wr ((wr ((wr ((wr ((wr ((wr ((wr ((wr ((wr ((wr ((wr ((wr (n1 + 1)) + 1)) + 1)) + 1)) + 1)) + 1)) + 1)) + 1)) + 1)) + 1)) + 1)) + 1)) + 1)) + 1)) + 1)) + 1)) + 1)) + 1)) + 1)) 3) == 0)⟩ : Shape), (⟨(wr ((wr ((wr ((wr ((wr ((wr ((wr ((wr ((wr ((wr ((wr ((wr ((wr ((wr ((wr ((wr ((wr ((wr ((wr ((wr (n1 + 1)) + 1)) + 1)) + 1)) + 1)) + 1)) + 1)) + 1)) + 1)) + 1)) + 1)) + 1)) + 1)) + 1)) + 1)) + 1)) + 1)) + 1)) + 1)) + 1)), (wr ((wr ((wr ((wr ((wr ((wr ((wr ((wr ((wr ((wr ((wr ((wr ((wr ((wr ((wr ((wr ((wr ((wr ((wr ((wr ((wr (n1 + 1)) + 1)) + 1)) + 1)) + 1)) + 1)) + 1)) + 1)) + 1)) + 1)) + 1)) + 1)) + 1)) + 1)) + 1)) + 1)) + 1)) + 1)) + 1)) + 1)) + 1))⟩ : Orient), (⟨(wr ((wr ((wr ((wr ((wr ((wr ((wr ((wr ((wr ((wr ((wr ((wr ((wr ((wr ((wr ((wr ((wr ((wr ((wr ((wr ((wr ((wr (n1 + 1)) + 1)) + 1)) + 1)) + 1)) + 1)) + 1)) + 1)) + 1)) + 1)) + 1)) + 1)) + 1)) + 1)) + 1)) + 1)) + 1)) + 1)) + 1)) + 1)) + 1)) + 1)), (wr ((wr ((wr ((wr ((wr ((wr ((wr ((wr ((wr ((wr ((wr ((wr ((wr ((wr ((wr ((wr ((wr ((wr ((wr ((wr ((wr ((wr ((wr (n1 + 1)) + 1)) + 1)) + 1)) + 1)) + 1)) + 1)) + 1)) + 1)) + 1)) + 1)) + 1)) + 1)) + 1)) + 1)) + 1)) + 1)) + 1)) + 1)) + 1)) + 1)) + 1)) + 1)), ((Int.tmod (wr ((wr ((wr ((wr ((wr ((wr ((wr ((wr ((wr ((wr ((wr ((wr ((wr ((wr ((wr ((wr ((wr ((wr ((wr ((wr ((wr ((wr ((wr ((wr (n1 + 1)) + 1)) + 1)) + 1)) + 1)) + 1)) + 1)) + 1)) + 1)) + 1)) + 1)) + 1)) + 1)) + 1)) + 1)) + 1)) + 1)) + 1)) + 1)) + 1)) + 1)) + 1)) + 1)) + 1)) 3) == 0)⟩ : Place), y4_3.Other.Move⟩ : Hand)⟩ : Sign)) (b := (⟨(⟨(⟨n1, (wr (n1 + 1)), (wr ((wr (n1 + 1)) + 1)), (wr ((wr ((wr (n1 + 1)) + 1)) + 1)), (wr ((wr ((wr ((wr (n1 + 1)) + 1)) + 1)) + 1)), ((Int.tmod (wr ((wr ((wr ((wr ((wr (n1 + 1)) + 1)) + 1)) + 1)) + 1)) 3) == 0)⟩ : Shape), (⟨(wr ((wr ((wr ((wr ((wr ((wr (n1 + 1)) + 1)) + 1)) + 1)) + 1)) + 1)), (wr ((wr ((wr ((wr ((wr ((wr ((wr (n1 + 1)) + 1)) + 1)) + 1)) + 1)) + 1)) + 1))⟩ : Orient), (⟨(wr ((wr ((wr ((wr ((wr ((wr ((wr ((wr (n1 + 1)) + 1)) + 1)) + 1)) + 1)) + 1)) + 1)) + 1)), (wr ((wr ((wr ((wr ((wr ((wr ((wr ((wr ((wr (n1 + 1)) + 1)) + 1)) + 1)) + 1)) + 1)) + 1)) + 1)) + 1)), ((Int.tmod (wr ((wr ((wr ((wr ((wr ((wr ((wr ((wr ((wr ((wr (n1 + 1)) + 1)) + 1)) + 1)) + 1)) + 1)) + 1)) + 1)) + 1)) + 1)) 3) == 0)⟩ : Place), (⟨v26_3, (wr ((wr ((wr ((wr ((wr ((wr ((wr ((wr ((wr ((wr ((wr ((wr (n1 + 1)) + 1)) + 1)) + 1)) + 1)) + 1)) + 1)) + 1)) + 1)) + 1)) + 1)) + 1))⟩ : Move)⟩ : Hand), ((Int.tmod (wr ((wr ((wr ((wr ((wr ((wr ((wr ((wr ((wr ((wr ((wr ((wr ((wr (n1 + 1)) + 1)) + 1)) + 1)) + 1)) + 1)) + 1)) + 1)) + 1)) + 1)) + 1)) + 1)) + 1)) 3) == 0), (⟨(⟨(wr ((wr ((wr ((wr ((wr ((wr ((wr ((wr ((wr ((wr ((wr ((wr ((wr ((wr (n1 + 1)) + 1)) + 1)) + 1)) + 1)) + 1)) + 1)) + 1)) + 1)) + 1)) + 1)) + 1)) + 1)) + 1)), (wr ((wr ((wr ((wr ((wr ((wr ((wr ((wr ((wr ((wr ((wr ((wr ((wr ((wr ((wr (n1 + 1)) + 1)) + 1)) + 1)) + 1)) + 1)) + 1)) + 1)) + 1)) + 1)) + 1)) + 1)) + 1)) + 1)) + 1)), (wr ((wr ((wr ((wr ((wr ((wr ((wr ((wr ((wr ((wr ((wr ((wr ((wr ((wr ((wr ((wr (n1 + 1)) + 1)) + 1)) + 1)) + 1)) + 1)) + 1)) + 1)) + 1)) + 1)) + 1)) + 1)) + 1)) + 1)) + 1)) + 1)), (wr ((wr ((wr ((wr ((wr ((wr ((wr ((wr ((wr ((wr ((wr ((wr ((wr ((wr ((wr ((wr ((wr (n1 + 1)) + 1)) + 1)) + 1)) + 1)) + 1)) + 1)) + 1)) + 1)) + 1)) + 1)) + 1)) + 1)) + 1)) + 1)) + 1)) + 1)), (wr ((wr ((wr ((wr ((wr ((wr ((wr ((wr ((wr ((wr ((wr ((wr ((wr ((wr ((wr ((wr ((wr ((wr (n1 + 1)) + 1)) + 1)) + 1)) + 1)) + 1)) + 1)) + 1)) + 1)) + 1)) + 1)) + 1)) + 1)) + 1)) + 1)) + 1)) + 1)) + 1)), ((Int.tmod (wr ((wr ((wr ((wr ((wr ((wr ((wr ((wr ((wr ((wr ((wr ((wr ((wr ((wr ((wr ((wr ((wr ((wr ((wr (n1 + 1)) + 1)) + 1)) + 1)) + 1)) + 1)) + 1)) + 1)) + 1)) + 1)) + 1)) + 1)) + 1)) + 1)) + 1)) + 1)) + 1)) + 1)) + 1)) 3) == 0)⟩ : Shape), (⟨(wr ((wr ((wr ((wr ((wr ((wr ((wr ((wr ((wr ((wr ((wr ((wr ((wr ((wr ((wr ((wr ((wr ((wr ((wr ((wr (n1 + 1)) + 1)) + 1)) + 1)) + 1)) + 1)) + 1)) + 1)) + 1)) + 1)) + 1)) + 1)) + 1)) + 1)) + 1)) + 1)) + 1)) + 1)) + 1)) + 1)), (wr ((wr ((wr ((wr ((wr ((wr ((wr ((wr ((wr ((wr ((wr ((wr ((wr ((wr ((wr ((wr ((wr ((wr ((wr ((wr ((wr (n1 + 1)) + 1)) + 1)) + 1)) + 1)) + 1)) + 1)) + 1)) + 1)) + 1)) + 1)) + 1)) + 1)) + 1)) + 1)) + 1)) + 1)) + 1)) + 1)) + 1)) + 1))⟩ : Orient), (⟨(wr ((wr ((wr ((wr ((wr ((wr ((wr ((wr ((wr ((wr ((wr ((wr ((wr ((wr ((wr ((wr ((wr ((wr ((wr ((wr ((wr ((wr (n1 + 1)) + 1)) + 1)) + 1)) + 1)) + 1)) + 1)) + 1)) + 1)) + 1)) + 1)) + 1)) + 1)) + 1)) + 1)) + 1)) + 1)) + 1)) + 1)) + 1)) + 1)) + 1)), (wr ((wr ((wr ((wr ((wr ((wr ((wr ((wr ((wr ((wr ((wr ((wr ((wr ((wr ((wr ((wr ((wr ((wr ((wr ((wr ((wr ((wr ((wr (n1 + 1)) + 1)) + 1)) + 1)) + 1)) + 1)) + 1)) + 1)) + 1)) + 1)) + 1)) + 1)) + 1)) + 1)) + 1)) + 1)) + 1)) + 1)) + 1)) + 1)) + 1)) + 1)) + 1)), ((Int.tmod (wr ((wr ((wr ((wr ((wr ((wr ((wr ((wr ((wr ((wr ((wr ((wr ((wr ((wr ((wr ((wr ((wr ((wr ((wr ((wr ((wr ((wr ((wr ((wr (n1 + 1)) + 1)) + 1)) + 1)) + 1)) + 1)) + 1)) + 1)) + 1)) + 1)) + 1)) + 1)) + 1)) + 1)) + 1)) + 1)) + 1)) + 1)) + 1)) + 1)) + 1)) + 1)) + 1)) + 1)) 3) == 0)⟩ : Place), { y4_3.Other.Move with Steps := v54_3 }⟩ : Hand)⟩ : Sign)) 0 25 ([.string (bs v54_3)]) hy4_3 (by kernel_rfl) ?_)
      refine rend ?_
      refine c_seq ?_
      refine r_start ?_
      refine p 3 ?_
      refine rend ?_
      refine c_seq ?_
      refine r_start ?_
      refine p 3 ?_
      refine xq rfl (y_idxW (e := nSign) (el := 47) 0 (getI_set hy4_3)) ?_
      refine p 3 ?_
      refine xx rfl (e_stW2 (e := nSign) (a := (⟨(⟨(⟨n1, (wr (n1 + 1)), (wr ((wr (n1 + 1)) + 1)), (wr ((wr ((wr (n1 + 1)) + 1)) + 1)), (wr ((wr ((wr ((wr (n1 + 1)) + 1)) + 1)) + 1)), ((Int.tmod (wr ((wr ((wr ((wr ((wr (n1 + 1)) + 1)) + 1)) + 1)) + 1)) 3) == 0)⟩ : Shape), (⟨(wr ((wr ((wr ((wr ((wr ((wr (n1 + 1)) + 1)) + 1)) + 1)) + 1)) + 1)), (wr ((wr ((wr ((wr ((wr ((wr ((wr (n1 + 1)) + 1)) + 1)) + 1)) + 1)) + 1)) + 1))⟩ : Orient), (⟨(wr ((wr ((wr ((wr ((wr ((wr ((wr ((wr (n1 + 1)) + 1)) + 1)) + 1)) + 1)) + 1)) + 1)) + 1)), (wr ((wr ((wr ((wr ((wr ((wr ((wr ((wr ((wr (n1 + 1)) + 1)) + 1)) + 1)) + 1)) + 1)) + 1)) + 1)) + 1)), ((Int.tmod (wr ((wr ((wr ((wr ((wr ((wr ((wr ((wr ((wr ((wr (n1 + 1)) + 1)) + 1)) + 1)) + 1)) + 1)) + 1)) + 1)) + 1)) + 1)) 3) == 0)⟩ : Place), (⟨v26_3, (wr ((wr ((wr ((wr ((wr ((wr ((wr ((wr ((wr ((wr ((wr ((wr (n1 + 1)) + 1)) + 1)) + 1)) + 1)) + 1)) + 1)) + 1)) + 1)) + 1)) + 1)) + 1))⟩ : Move)⟩ : Hand), ((Int.tmod (wr ((wr ((wr ((wr ((wr ((wr ((wr ((wr ((wr ((wr ((wr ((wr ((wr (n1 + 1)) + 1)) + 1)) + 1)) + 1)) + 1)) + 1)) + 1)) + 1)) + 1)) + 1)) + 1)) + 1)) 3) == 0), (⟨(⟨(wr ((wr ((wr ((wr ((wr ((wr ((wr ((wr ((wr ((wr ((wr ((wr ((wr ((wr (n1 + 1)) + 1)) + 1)) + 1)) + 1)) + 1)) + 1)) + 1)) + 1)) + 1)) + 1)) + 1)) + 1)) + 1)), (wr ((wr ((wr ((wr ((wr ((wr ((wr ((wr ((wr ((wr ((wr ((wr ((wr ((wr ((wr (n1 + 1)) + 1)) + 1)) + 1)) + 1)) + 1)) + 1)) + 1)) + 1)) + 1)) + 1)) + 1)) + 1)) + 1)) + 1)), (wr ((wr ((wr ((wr ((wr ((wr ((wr ((wr ((wr ((wr ((wr ((wr ((wr ((wr ((wr ((wr (n1 + 1)) + 1)) + 1)) + 1)) + 1)) + 1)) + 1)) + 1)) + 1)) + 1)) + 1)) + 1)) + 1)) + 1)) + 1)) + 1)), (wr ((wr ((wr ((wr ((wr ((wr ((wr ((wr ((wr ((wr ((wr ((wr ((wr ((wr ((wr ((wr ((wr (n1 + 1)) + 1)) + 1)) + 1)) + 1)) + 1)) + 1)) + 1)) + 1)) + 1)) + 1)) + 1)) + 1)) + 1)) + 1)) + 1)) + 1)), (wr ((wr ((wr ((wr ((wr ((wr ((wr ((wr ((wr ((wr ((wr ((wr ((wr ((wr ((wr ((wr ((wr ((wr (n1 + 1)) + 1)) + 1)) + 1)) + 1)) + 1)) + 1)) + 1)) + 1)) + 1)) + 1)) + 1)) + 1)) + 1)) + 1)) + 1)) + 1)) + 1)), ((Int.tmod (wr ((wr ((wr ((wr ((wr ((wr ((wr ((wr ((wr ((wr ((wr ((wr ((wr ((wr ((wr ((wr ((wr ((wr ((wr (n1 + 1)) + 1)) + 1)) + 1)) + 1)) + 1)) + 1)) + 1)) + 1)) + 1)) + 1)) + 1)) + 1)) + 1)) + 1)) + 1)) + 1)) + 1)) + 1)) 3) == 0)⟩ : Shape), (⟨(wr ((wr ((wr ((wr ((wr ((wr ((wr ((wr ((wr ((wr ((wr ((wr ((wr ((wr ((wr ((wr ((wr ((wr ((wr ((wr (n1 + 1)) + 1)) + 1)) + 1)) + 1)) + 1)) + 1)) + 1)) + 1)) + 1)) + 1)) + 1)) + 1)) + 1)) + 1)) + 1)) + 1)) + 1)) + 1)) + 1)), (wr ((wr ((wr ((wr ((wr ((wr ((wr ((wr ((wr ((wr ((wr ((wr ((wr ((wr ((wr ((wr ((wr ((wr ((wr ((wr ((wr (n1 + 1)) + 1)) + 1)) + 1)) + 1)) + 1)) + 1)) + 1)) + 1)) + 1)) + 1)) + 1)) + 1)) + 1)) + 1)) + 1)) + 1)) + 1)) + 1)) + 1)) + 1))⟩ : Orient), (⟨(wr ((wr ((wr ((wr ((wr ((wr ((wr ((wr ((wr ((wr ((wr ((wr ((wr ((wr ((wr ((wr ((wr ((wr ((wr ((wr ((wr ((wr (n1 + 1)) + 1)) + 1)) + 1)) + 1)) + 1)) + 1)) + 1)) + 1)) + 1)) + 1)) + 1)) + 1)) + 1)) + 1)) + 1)) + 1)) + 1)) + 1)) + 1)) + 1)) + 1)), (wr ((wr ((wr ((wr ((wr ((wr ((wr ((wr ((wr ((wr ((wr ((wr ((wr ((wr ((wr ((wr ((wr ((wr ((wr ((wr ((wr ((wr ((wr (n1 + 1)) + 1)) + 1)) + 1)) + 1)) + 1)) + 1)) + 1)) + 1)) + 1)) + 1)) + 1)) + 1)) + 1)) + 1)) + 1)) + 1)) + 1)) + 1)) + 1)) + 1)) + 1)) + 1)), ((Int.tmod (wr ((wr ((wr ((wr ((wr ((wr ((wr ((wr ((wr ((wr ((wr ((wr ((wr ((wr ((wr ((wr ((wr ((wr ((wr ((wr ((wr ((wr ((wr ((wr (n1 + 1)) + 1)) + 1)) + 1)) + 1)) + 1)) + 1)) + 1)) + 1)) + 1)) + 1)) + 1)) + 1)) + 1)) + 1)) + 1)) + 1)) + 1)) + 1)) + 1)) + 1)) + 1)) + 1)) + 1)) 3) == 0)⟩ : Place), { y4_3.Other.Move with Steps := v54_3 }⟩ : Hand)⟩ : Sign)) (b := (⟨(⟨(⟨n1, (wr (n1 + 1)), (wr ((wr (n1 + 1)) + 1)), (wr ((wr ((wr (n1 + 1)) + 1)) + 1)), (wr ((wr ((wr ((wr (n1 + 1)) + 1)) + 1)) + 1)), ((Int.tmod (wr ((wr ((wr ((wr ((wr (n1 + 1)) + 1)) + 1)) + 1)) + 1)) 3) == 0)⟩ : Shape), (⟨(wr ((wr ((wr ((wr ((wr ((wr (n1 + 1)) + 1)) + 1)) + 1)) + 1)) + 1)), (wr ((wr ((wr ((wr ((wr ((wr ((wr (n1 + 1)) + 1)) + 1)) + 1)) + 1)) + 1)) + 1))⟩ : Orient), (⟨(wr ((wr ((wr ((wr ((wr ((wr ((wr ((wr (n1 + 1)) + 1)) + 1)) + 1)) + 1)) + 1)) + 1)) + 1)), (wr ((wr ((wr ((wr ((wr ((wr ((wr ((wr ((wr (n1 + 1)) + 1)) + 1)) + 1)) + 1)) + 1)) + 1)) + 1)) + 1)), ((Int.tmod (wr ((wr ((wr ((wr ((wr ((wr ((wr ((wr ((wr ((wr (n1 + 1)) + 1)) + 1)) + 1)) + 1)) + 1)) + 1)) + 1)) + 1)) + 1)) 3) == 0)⟩ : Place), (⟨v26_3, (wr ((wr ((wr ((wr ((wr ((wr ((wr ((wr ((wr ((wr ((wr ((wr (n1 + 1)) + 1)) + 1)) + 1)) + 1)) + 1)) + 1)) + 1)) + 1)) + 1)) + 1)) + 1))⟩ : Move)⟩ : Hand), ((Int.tmod (wr ((wr ((wr ((wr ((wr ((wr ((wr ((wr ((wr ((wr ((wr ((wr ((wr (n1 + 1)) + 1)) + 1)) + 1)) + 1)) + 1)) + 1)) + 1)) + 1)) + 1)) + 1)) + 1)) + 1)) 3) == 0), (⟨(⟨(wr ((wr ((wr ((wr ((wr ((wr ((wr ((wr ((wr ((wr ((wr ((wr ((wr ((wr (n1 + 1)) + 1)) + 1)) + 1)) + 1)) + 1)) + 1)) + 1)) + 1)) + 1)) + 1)) + 1)) + 1)) + 1)), (wr ((wr ((wr ((wr ((wr ((wr ((wr ((wr ((wr ((wr ((wr ((wr ((wr ((wr ((wr (n1 + 1)) + 1)) + 1)) + 1)) + 1)) + 1)) + 1)) + 1)) + 1)) + 1)) + 1)) + 1)) + 1)) + 1)) + 1)), (wr ((wr ((wr ((wr ((wr ((wr ((wr ((wr ((wr ((wr ((wr ((wr ((wr ((wr ((wr ((wr (n1 + 1)) + 1)) + 1)) + 1)) + 1)) + 1)) + 1)) + 1)) + 1)) + 1)) + 1)) + 1)) + 1)) + 1)) + 1)) + 1)), (wr ((wr ((wr ((wr ((wr ((wr ((wr ((wr ((wr ((wr ((wr ((wr ((wr ((wr ((wr ((wr ((wr (n1 + 1)) + 1)) + 1)) + 1)) + 1)) + 1)) + 1)) + 1)) + 1)) + 1)) + 1)) + 1)) + 1)) + 1)) + 1)) + 1)) + 1)), (wr ((wr ((wr ((wr ((wr ((wr ((wr ((wr ((wr ((wr ((wr ((wr ((wr ((wr ((wr ((wr ((wr ((wr (n1 + 1)) + 1)) + 1)) + 1)) + 1)) + 1)) + 1)) + 1)) + 1)) + 1)) + 1)) + 1)) + 1)) + 1)) + 1)) + 1)) + 1)) + 1)), ((Int.tmod (wr ((wr ((wr ((wr ((wr ((wr ((wr ((wr ((wr ((wr ((wr ((wr ((wr ((wr ((wr ((wr ((wr ((wr ((wr (n1 + 1)) + 1)) + 1)) + 1)) + 1)) + 1)) + 1)) + 1)) + 1)) + 1)) + 1)) + 1)) + 1)) + 1)) + 1)) + 1)) + 1)) + 1)) + 1)) 3) == 0)⟩ : Shape), (⟨(wr ((wr ((wr ((wr ((wr ((wr ((wr ((wr ((wr ((wr ((wr ((wr ((wr ((wr ((wr ((wr ((wr ((wr ((wr ((wr (n1 + 1)) + 1)) + 1)) + 1)) + 1)) + 1)) + 1)) + 1)) + 1)) + 1)) + 1)) + 1)) + 1)) + 1)) + 1)) + 1)) + 1)) + 1)) + 1)) + 1)), (wr ((wr ((wr ((wr ((wr ((wr ((wr ((wr ((wr ((wr ((wr ((wr ((wr ((wr ((wr ((wr ((wr ((wr ((wr ((wr ((wr (n1 + 1)) + 1)) + 1)) + 1)) + 1)) + 1)) + 1)) + 1)) + 1)) + 1)) + 1)) + 1)) + 1)) + 1)) + 1)) + 1)) + 1)) + 1)) + 1)) + 1)) + 1))⟩ : Orient), (⟨(wr ((wr ((wr ((wr ((wr ((wr ((wr ((wr ((wr ((wr ((wr ((wr ((wr ((wr ((wr ((wr ((wr ((wr ((wr ((wr ((wr ((wr (n1 + 1)) + 1)) + 1)) + 1)) + 1)) + 1)) + 1)) + 1)) + 1)) + 1)) + 1)) + 1)) + 1)) + 1)) + 1)) + 1)) + 1)) + 1)) + 1)) + 1)) + 1)) + 1)), (wr ((wr ((wr ((wr ((wr ((wr ((wr ((wr ((wr ((wr ((wr ((wr ((wr ((wr ((wr ((wr ((wr ((wr ((wr ((wr ((wr ((wr ((wr (n1 + 1)) + 1)) + 1)) + 1)) + 1)) + 1)) + 1)) + 1)) + 1)) + 1)) + 1)) + 1)) + 1)) + 1)) + 1)) + 1)) + 1)) + 1)) + 1)) + 1)) + 1)) + 1)) + 1)), ((Int.tmod (wr ((wr ((wr ((wr ((wr ((wr ((wr ((wr ((wr ((wr ((wr ((wr ((wr ((wr ((wr ((wr ((wr ((wr ((wr ((wr ((wr ((wr ((wr ((wr (n1 + 1)) + 1)) + 1)) + 1)) + 1)) + 1)) + 1)) + 1)) + 1)) + 1)) + 1)) + 1)) + 1)) + 1)) + 1)) + 1)) + 1)) + 1)) + 1)) + 1)) + 1)) + 1)) + 1)) + 1)) 3) == 0)⟩ : Place), (⟨v54_3, (wr ((wr ((wr ((wr ((wr ((wr ((wr ((wr ((wr ((wr ((wr ((wr ((wr ((wr ((wr ((wr ((wr ((wr ((wr ((wr ((wr ((wr ((wr ((wr ((wr ((wr (n1 + 1)) + 1)) + 1)) + 1)) + 1)) + 1)) + 1)) + 1)) + 1)) + 1)) + 1)) + 1)) + 1)) + 1)) + 1)) + 1)) + 1)) + 1)) + 1)) + 1)) + 1)) + 1)) + 1)) + 1)) + 1)) + 1))⟩ : Move)⟩ : Hand)⟩ : Sign)) 0 26 ([.int .i64 (wr ((wr ((wr ((wr ((wr ((wr ((wr ((wr ((wr ((wr ((wr ((wr ((wr ((wr ((wr ((wr ((wr ((wr ((wr ((wr ((wr ((wr ((wr ((wr ((wr ((wr (n1 + 1)) + 1)) + 1)) + 1)) + 1)) + 1)) + 1)) + 1)) + 1)) + 1)) + 1)) + 1)) + 1)) + 1)) + 1)) + 1)) + 1)) + 1)) + 1)) + 1)) + 1)) + 1)) + 1)) + 1)) + 1)) + 1))]) hy4_3 (by kernel_rfl) ?_)
      refine rend ?_
      refine r_start ?_
      refine p 3 ?_
      refine rend ?_
      refine c_inb ?_
      refine r_start ?_
      refine p 3 ?_
      refine rend ?_
      replace h := H.inl h
      exact h ((wr ((wr ((wr ((wr ((wr ((wr ((wr ((wr ((wr ((wr ((wr ((wr ((wr ((wr ((wr ((wr ((wr ((wr ((wr ((wr ((wr ((wr ((wr ((wr ((wr ((wr ((wr (n1 + 1)) + 1)) + 1)) + 1)) + 1)) + 1)) + 1)) + 1)) + 1)) + 1)) + 1)) + 1)) + 1)) + 1)) + 1)) + 1)) + 1)) + 1)) + 1)) + 1)) + 1)) + 1)) + 1)) + 1)) + 1)) + 1)) + 1)), (wr (n2 + 1)), (List.set l3 (Int.toNat n2) (⟨(⟨(⟨n1, (wr (n1 + 1)), (wr ((wr (n1 + 1)) + 1)), (wr ((wr ((wr (n1 + 1)) + 1)) + 1)), (wr ((wr ((wr ((wr (n1 + 1)) + 1)) + 1)) + 1)), ((Int.tmod (wr ((wr ((wr ((wr ((wr (n1 + 1)) + 1)) + 1)) + 1)) + 1)) 3) == 0)⟩ : Shape), (⟨(wr ((wr ((wr ((wr ((wr ((wr (n1 + 1)) + 1)) + 1)) + 1)) + 1)) + 1)), (wr ((wr ((wr ((wr ((wr ((wr ((wr (n1 + 1)) + 1)) + 1)) + 1)) + 1)) + 1)) + 1))⟩ : Orient), (⟨(wr ((wr ((wr ((wr ((wr ((wr ((wr ((wr (n1 + 1)) + 1)) + 1)) + 1)) + 1)) + 1)) + 1)) + 1)), (wr ((wr ((wr ((wr ((wr ((wr ((wr ((wr ((wr (n1 + 1)) + 1)) + 1)) + 1)) + 1)) + 1)) + 1)) + 1)) + 1)), ((Int.tmod (wr ((wr ((wr ((wr ((wr ((wr ((wr ((wr ((wr ((wr (n1 + 1)) + 1)) + 1)) + 1)) + 1)) + 1)) + 1)) + 1)) + 1)) + 1)) 3) == 0)⟩ : Place), (⟨v26_3, (wr ((wr ((wr ((wr ((wr ((wr ((wr ((wr ((wr ((wr ((wr ((wr (n1 + 1)) + 1)) + 1)) + 1)) + 1)) + 1)) + 1)) + 1)) + 1)) + 1)) + 1)) + 1))⟩ : Move)⟩ : Hand), ((Int.tmod (wr ((wr ((wr ((wr ((wr ((wr ((wr ((wr ((wr ((wr ((wr ((wr ((wr (n1 + 1)) + 1)) + 1)) + 1)) + 1)) + 1)) + 1)) + 1)) + 1)) + 1)) + 1)) + 1)) + 1)) 3) == 0), (⟨(⟨(wr ((wr ((wr ((wr ((wr ((wr ((wr ((wr ((wr ((wr ((wr ((wr ((wr ((wr (n1 + 1)) + 1)) + 1)) + 1)) + 1)) + 1)) + 1)) + 1)) + 1)) + 1)) + 1)) + 1)) + 1)) + 1)), (wr ((wr ((wr ((wr ((wr ((wr ((wr ((wr ((wr ((wr ((wr ((wr ((wr ((wr ((wr (n1 + 1)) + 1)) + 1)) + 1)) + 1)) + 1)) + 1)) + 1)) + 1)) + 1)) + 1)) + 1)) + 1)) + 1)) + 1)), (wr ((wr ((wr ((wr ((wr ((wr ((wr ((wr ((wr ((wr ((wr ((wr ((wr ((wr ((wr ((wr (n1 + 1)) + 1)) + 1)) + 1)) + 1)) + 1)) + 1)) + 1)) + 1)) + 1)) + 1)) + 1)) + 1)) + 1)) + 1)) + 1)), (wr ((wr ((wr ((wr ((wr ((wr ((wr ((wr ((wr ((wr ((wr ((wr ((wr ((wr ((wr ((wr ((wr (n1 + 1)) + 1)) + 1)) + 1)) + 1)) + 1)) + 1)) + 1)) + 1)) + 1)) + 1)) + 1)) + 1)) + 1)) + 1)) + 1)) + 1)), (wr ((wr ((wr ((wr ((wr ((wr ((wr ((wr ((wr ((wr ((wr ((wr ((wr ((wr ((wr ((wr ((wr ((wr (n1 + 1)) + 1)) + 1)) + 1)) + 1)) + 1)) + 1)) + 1)) + 1)) + 1)) + 1)) + 1)) + 1)) + 1)) + 1)) + 1)) + 1)) + 1)), ((Int.tmod (wr ((wr ((wr ((wr ((wr ((wr ((wr ((wr ((wr ((wr ((wr ((wr ((wr ((wr ((wr ((wr ((wr ((wr ((wr (n1 + 1)) + 1)) + 1)) + 1)) + 1)) + 1)) + 1)) + 1)) + 1)) + 1)) + 1)) + 1)) + 1)) + 1)) + 1)) + 1)) + 1)) + 1)) + 1)) 3) == 0)⟩ : Shape), (⟨(wr ((wr ((wr ((wr ((wr ((wr ((wr ((wr ((wr ((wr ((wr ((wr ((wr ((wr ((wr ((wr ((wr ((wr ((wr ((wr (n1 + 1)) + 1)) + 1)) + 1)) + 1)) + 1)) + 1)) + 1)) + 1)) + 1)) + 1)) + 1)) + 1)) + 1)) + 1)) + 1)) + 1)) + 1)) + 1)) + 1)), (wr ((wr ((wr ((wr ((wr ((wr ((wr ((wr ((wr ((wr ((wr ((wr ((wr ((wr ((wr ((wr ((wr ((wr ((wr ((wr ((wr (n1 + 1)) + 1)) + 1)) + 1)) + 1)) + 1)) + 1)) + 1)) + 1)) + 1)) + 1)) + 1)) + 1)) + 1)) + 1)) + 1)) + 1)) + 1)) + 1)) + 1)) + 1))⟩ : Orient), (⟨(wr ((wr ((wr ((wr ((wr ((wr ((wr ((wr ((wr ((wr ((wr ((wr ((wr ((wr ((wr ((wr ((wr ((wr ((wr ((wr ((wr ((wr (n1 + 1)) + 1)) + 1)) + 1)) + 1)) + 1)) + 1)) + 1)) + 1)) + 1)) + 1)) + 1)) + 1)) + 1)) + 1)) + 1)) + 1)) + 1)) + 1)) + 1)) + 1)) + 1)), (wr ((wr ((wr ((wr ((wr ((wr ((wr ((wr ((wr ((wr ((wr ((wr ((wr ((wr ((wr ((wr ((wr ((wr ((wr ((wr ((wr ((wr ((wr (n1 + 1)) + 1)) + 1)) + 1)) + 1)) + 1)) + 1)) + 1)) + 1)) + 1)) + 1)) + 1)) + 1)) + 1)) + 1)) + 1)) + 1)) + 1)) + 1)) + 1)) + 1)) + 1)) + 1)), ((Int.tmod (wr ((wr ((wr ((wr ((wr ((wr ((wr ((wr ((wr ((wr ((wr ((wr ((wr ((wr ((wr ((wr ((wr ((wr ((wr ((wr ((wr ((wr ((wr ((wr (n1 + 1)) + 1)) + 1)) + 1)) + 1)) + 1)) + 1)) + 1)) + 1)) + 1)) + 1)) + 1)) + 1)) + 1)) + 1)) + 1)) + 1)) + 1)) + 1)) + 1)) + 1)) + 1)) + 1)) + 1)) 3) == 0)⟩ : Place), (⟨v54_3, (wr ((wr ((wr ((wr ((wr ((wr ((wr ((wr ((wr ((wr ((wr ((wr ((wr ((wr ((wr ((wr ((wr ((wr ((wr ((wr ((wr ((wr ((wr ((wr ((wr ((wr (n1 + 1)) + 1)) + 1)) + 1)) + 1)) + 1)) + 1)) + 1)) + 1)) + 1)) + 1)) + 1)) + 1)) + 1)) + 1)) + 1)) + 1)) + 1)) + 1)) + 1)) + 1)) + 1)) + 1)) + 1)) + 1)) + 1))⟩ : Move)⟩ : Hand)⟩ : Sign))) _ _ rfl (by kernel_rfl) (by kernel_rfl)
    replace h := H.f q7 h
    refine cx ?_
    replace h := H.inr h
    exact hj6 (n1, l3) _ _ h (by kernel_rfl) (by kernel_rfl)
  intro x u h
  obtain ⟨n4, l5⟩ := x
  refine c_seq ?_
  refine r_start ?_
  refine p 2 ?_
  refine rend ?_
  replace h := H.done h
  subst h
  exact ret func21 rfl (vs := [.int .i64 n4]) (.tmp (by kernel_rfl) .nil) rfl (fun W S => S.retW)
theorem C.l_markIntS {fu : Nat} {a0 : (List Int)} {A0 : Option Addr} {k0 B0 n0 : Nat} {a1 : Int} {r : (Int × (List Int))} (w : World) (h : X.l_markIntS fu a0 a1 = some r) (hn0 : List.length a0 = n0) (h0 : World.ownsRow w B0 3 (Enc.sz (eI .i64)) (.slice A0 n0 k0) n0 (Enc.flat (eI .i64) a0)) : Calls prog 22 #[.slice A0 (n0) k0, .int .i64 a1] w (RetW (eI .i64) B0 3 A0 n0 k0 w r.2 (.int .i64 r.1)) := by
  subst hn0
  refine callsW (args := [.slice A0 (List.length a0) k0, .int .i64 a1]) rfl h0 func22 rfl ?_
  replace h : H (X.l_markIntS fu a0 a1) (fun o => o = r) := H.mk h
  unfold X.l_markIntS at h
  refine c_seq ?_
  refine r_start ?_
  refine p 1 ?_
  refine rend ?_
  refine c_seq ?_
  refine c_seq ?_
  refine r_start ?_
  refine p 1 ?_
  refine rend ?_
  refine c_block ?_
  refine joinH (X := (Int × (List Int))) 0 (H.bnd h) (fun (x : (Int × (List Int))) => x) (fun ⟨n4, l5⟩ => [argW (eI .i64) B0 3 A0 (List.length a0) k0 l5]) (fun ⟨n4, l5⟩ u => (jk u 0 1 (.int .i64 n4 :: (jk u 2 17 [])))) (fun h hj6 => ?_) ?_
  · skip
    refine loopR (X := (Int × Int × (List Int))) (fun (x : (Int × Int × (List Int))) => x) (fun ⟨n1, n2, l3⟩ => [argW (eI .i64) B0 3 A0 (List.length a0) k0 l3]) (fun ⟨n1, n2, l3⟩ u => (.slice A0 (List.length a0) k0 :: .int .i64 n1 :: (jk u 2 3 (.int .i64 n2 :: (jk u 6 13 []))))) (a1, 0, a0) h (by kernel_rfl) (by kernel_rfl) ?_
    intro x u h
    obtain ⟨n1, n2, l3⟩ := x
    refine c_seq ?_
    refine c_seq ?_
    refine r_start ?_
    refine p 4 ?_
    refine rend ?_
    refine c_or (decide (n2 < (List.length a0 : Int))) (fun q7 => ?_) (fun q7 => ?_)
    · replace h := H.t q7 h
      refine c_skip ?_
      refine c_seq ?_
      refine c_block ?_
      refine c_seq ?_
      refine r_start ?_
      refine p 3 ?_
      obtain ⟨y4_3, hy4_3, h⟩ := H.call h
      refine xq rfl (y_idxW (e := (eI .i64)) (el := 3) 0 hy4_3) ?_
      refine xx rfl (e_stW (e := (eI .i64)) (b := n1) 0 0 ([.int .i64 n1]) hy4_3 (by kernel_rfl) ?_)
      refine rend ?_
      refine r_start ?_
      refine p 3 ?_
      refine rend ?_
      refine c_inb ?_
      refine r_start ?_
      refine p 3 ?_
      refine rend ?_
      replace h := H.inl h
      exact h ((wr (n1 + 1)), (wr (n2 + 1)), (List.set l3 (Int.toNat n2) n1)) _ _ rfl (by kernel_rfl) (by kernel_rfl)
    replace h := H.f q7 h
    refine cx ?_
    replace h := H.inr h
    exact hj6 (n1, l3) _ _ h (by kernel_rfl) (by kernel_rfl)
  intro x u h
  obtain ⟨n4, l5⟩ := x
  refine c_seq ?_
  refine r_start ?_
  refine p 2 ?_
  refine rend ?_
  replace h := H.done h
  subst h
  exact ret func22 rfl (vs := [.int .i64 n4]) (.tmp (by kernel_rfl) .nil) rfl (fun W S => S.retW)
theorem C.l_heldIntS {fu : Nat} {a0 : (List Int)} {A0 : Option Addr} {k0 : Nat} {a1 : Int} {r : Int} (w : World) (h : X.l_heldIntS fu a0 a1 = some r) (h0 : RdT (eI .i64) w (.slice A0 (List.length a0) k0) a0) : Calls prog 23 #[.slice A0 (List.length a0) k0, .int .i64 a1] w (Ret w (.int .i64 r)) := by
  refine calls (M := no) (args := [.slice A0 (List.length a0) k0, .int .i64 a1]) func23 rfl ?_
  replace h : H (X.l_heldIntS fu a0 a1) (fun o => o = r) := H.mk h
  unfold X.l_heldIntS at h
  refine c_seq ?_
  refine r_start ?_
  refine p 1 ?_
  refine rend ?_
  refine c_seq ?_
  refine c_seq ?_
  refine r_start ?_
  refine p 1 ?_
  refine rend ?_
  refine c_block ?_
  refine joinE (X := Int) 0 (H.or h) (fun (x : Int) => x) (fun n3 => []) (fun n3 u => (jk u 0 1 (.int .i64 n3 :: (jk u 2 19 [])))) (fun h hj4 => ?_) ?_
  · skip
    refine loopR (X := (Int × Int)) (fun (x : (Int × Int)) => x) (fun ⟨n1, n2⟩ => []) (fun ⟨n1, n2⟩ u => (.slice A0 (List.length a0) k0 :: .int .i64 n1 :: (jk u 2 3 (.int .i64 n2 :: (jk u 6 15 []))))) (a1, 0) h (by kernel_rfl) (by kernel_rfl) ?_
    intro x u h
    obtain ⟨n1, n2⟩ := x
    refine c_seq ?_
    refine c_seq ?_
    refine r_start ?_
    refine p 4 ?_
    refine rend ?_
    refine c_or (decide (n2 < (List.length a0 : Int))) (fun q5 => ?_) (fun q5 => ?_)
    · replace h := H.t q5 h
      refine c_skip ?_
      refine c_seq ?_
      refine c_block ?_
      refine c_seq ?_
      refine c_seq ?_
      refine r_start ?_
      refine p 2 ?_
      obtain ⟨y4_2, hy4_2, h⟩ := H.call h
      refine xq rfl (y_idx (e := (eI .i64)) (el := 3) hy4_2 (s_arg h0)) ?_
      refine xq rfl (y_el (e := (eI .i64)) 0 (.int .i64 y4_2) hy4_2 (s_arg h0)) ?_
      refine p 2 ?_
      refine rend ?_
      refine c_or (y4_2 != n1) (fun q6 => ?_) (fun q6 => ?_)
      · replace h := H.t q6 h
        refine c_seq ?_
        refine r_start ?_
        refine p 1 ?_
        refine rend ?_
        replace h := H.inr h
        replace h := H.done h
        subst h
        exact ret func23 rfl (vs := [.int .i64 (-1)]) (.tmp (by kernel_rfl) .nil) rfl (fun W S => ⟨rfl, S.below⟩)
      replace h := H.f q6 h
      refine c_skip ?_
      refine r_start ?_
      refine p 3 ?_
      refine rend ?_
      refine c_inb ?_
      refine r_start ?_
      refine p 3 ?_
      refine rend ?_
      replace h := H.inl h
      exact h ((wr (n1 + 1)), (wr (n2 + 1))) _ _ rfl (by kernel_rfl) (by kernel_rfl)
    replace h := H.f q5 h
    refine cx ?_
    replace h := H.inr h
    exact hj4 n1 _ _ h (by kernel_rfl) (by kernel_rfl)
  intro n3 u h
  refine c_seq ?_
  refine r_start ?_
  refine p 2 ?_
  refine rend ?_
  replace h := H.done h
  subst h
  exact ret func23 rfl (vs := [.int .i64 n3]) (.tmp (by kernel_rfl) .nil) rfl (fun W S => ⟨rfl, S.below⟩)
end Go.Proofs.XC
