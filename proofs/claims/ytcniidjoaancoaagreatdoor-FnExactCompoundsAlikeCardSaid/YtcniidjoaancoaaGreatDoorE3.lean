/- Contracts: each function of the given program, called where its plain function gives an answer, returns just that answer and changes nothing that was there. By AI agents; no person has read it. -/
import Derived.Test.YtcniidjoaancoaaGreatDoorC1
set_option linter.unusedVariables false
set_option linter.unusedSimpArgs false
set_option maxRecDepth 100000
set_option maxHeartbeats 40000000
namespace Go.Proofs.XC
open Go Go.RowKit
open Tryz
theorem C.s_cmGood {fu : Nat} {a0 : (List Sign)} {A0 : Option Addr} {k0 : Nat} {r : Bool} (w : World) (h : X.s_cmGood fu a0 = some r) (h0 : RdT nSign w (.slice A0 (List.length a0) k0) a0) : Calls prog 86 #[.slice A0 (List.length a0) k0] w (Ret w (.bool r)) := by
  refine calls (M := no) (args := [.slice A0 (List.length a0) k0]) func86 rfl ?_
  replace h : H (X.s_cmGood fu a0) (fun o => o = r) := H.mk h
  unfold X.s_cmGood at h
  refine c_seq ?_
  refine r_start ?_
  refine p 1 ?_
  refine rend ?_
  refine c_seq ?_
  refine r_start ?_
  refine p 2 ?_
  obtain ⟨v1_2, hv1_2, h⟩ := H.call h
  refine xq rfl (y_call [.int .i64 (List.length a0 : Int), .int .i64 2, .int .i64 4] (.bool v1_2) func96 (fun W S => C.s_l1In W hv1_2)) ?_
  refine p 1 ?_
  refine br v1_2 (fun q1 => ?_) (fun q1 => ?_)
  · replace h := H.t q1 h
    refine o_set 6 (congrArg Value.bool q1) ?_
    refine p 1 ?_
    obtain ⟨v1_5, hv1_5, h⟩ := H.call h
    refine xq rfl (y_call [.slice A0 (List.length a0) k0] (.bool v1_5) func66 (fun W S => C.s_paList W hv1_5 ((s_arg h0).out W S))) ?_
    refine p 2 ?_
    refine rend ?_
    replace h := H.done h
    subst h
    exact ret func86 rfl (vs := [.bool v1_5]) (.tmp (by kernel_rfl) .nil) rfl (fun W S => ⟨rfl, S.below⟩)
  replace h := H.f q1 h
  refine o_set 6 (congrArg Value.bool q1) ?_
  refine p 4 ?_
  refine rend ?_
  replace h := H.done h
  subst h
  exact ret func86 rfl (vs := [.bool false]) (.tmp (by kernel_rfl) .nil) rfl (fun W S => ⟨rfl, S.below⟩)
theorem C.s_cmRoot {fu : Nat} {a0 : Str} {r : Str} (w : World) (h : X.s_cmRoot fu a0 = some r) : Calls prog 192 #[.string (bs a0)] w (Ret w (.string (bs r))) := by
  refine calls (M := no) (args := [.string (bs a0)]) func192 rfl ?_
  replace h : H (X.s_cmRoot fu a0) (fun o => o = r) := H.mk h
  unfold X.s_cmRoot at h
  refine c_seq ?_
  refine r_start ?_
  refine p 1 ?_
  refine rend ?_
  refine c_seq ?_
  refine c_seq ?_
  refine r_start ?_
  refine p 1 ?_
  refine rend ?_
  refine c_block ?_
  refine joinE (X := Unit) 0 (H.or h) (fun (x : Unit) => x) (fun _ => []) (fun _ u => (.string (bs a0) :: (jk u 1 30 []))) (fun h hj2 => ?_) ?_
  · skip
    refine loopR (X := Int) (fun (x : Int) => x) (fun n1 => []) (fun n1 u => (.string (bs a0) :: (jk u 1 2 (.int .i64 n1 :: (jk u 4 27 []))))) 1 h (by kernel_rfl) (by kernel_rfl) ?_
    intro n1 u h
    refine c_seq ?_
    refine c_seq ?_
    refine r_start ?_
    refine p 4 ?_
    refine rend ?_
    refine c_or (decide (n1 < (List.length a0 : Int))) (fun q3 => ?_) (fun q3 => ?_)
    · replace h := H.t q3 h
      refine c_skip ?_
      refine c_seq ?_
      refine c_block ?_
      refine c_seq ?_
      refine as_start 17 17 ?_
      refine ap 0 3 ?_
      obtain ⟨y4_3, hy4_3, h⟩ := H.call h
      refine aq 3 rfl (y_mod hy4_3) ?_
      refine ap 4 2 ?_
      refine br (y4_3 == 0) (fun q4 => ?_) (fun q4 => ?_)
      · replace h := H.t q4 h
        refine a_set 15 (congrArg Value.bool q4) ?_
        refine ap 6 2 ?_
        obtain ⟨y4_8, hy4_8, h⟩ := H.call h
        refine aq 8 rfl (y_cut hy4_8) ?_
        refine ap 9 3 ?_
        obtain ⟨y4_12, hy4_12, h⟩ := H.call h
        refine aq 12 rfl (y_div hy4_12) ?_
        obtain ⟨v4_13, hv4_13, h⟩ := H.call h
        refine aq 13 rfl (y_call [.string (bs y4_8), .int .i64 y4_12] (.string (bs v4_13)) func234 (fun W S => C.s_mvTimes W hv4_13)) ?_
        refine ap 14 3 ?_
        refine a_done ?_
        refine c_or (seq v4_13 a0) (fun q5 => ?_) (fun q5 => ?_)
        · replace h := H.t q5 h
          refine c_seq ?_
          refine r_start ?_
          refine p 2 ?_
          obtain ⟨y5_2, hy5_2, h⟩ := H.call h
          refine xq rfl (y_cut hy5_2) ?_
          refine p 1 ?_
          refine rend ?_
          replace h := H.inr h
          replace h := H.done h
          subst h
          exact ret func192 rfl (vs := [.string (bs y5_2)]) (.tmp (by kernel_rfl) .nil) rfl (fun W S => ⟨rfl, S.below⟩)
        replace h := H.f q5 h
        refine c_skip ?_
        refine c_inb ?_
        refine r_start ?_
        refine p 3 ?_
        refine rend ?_
        replace h := H.inl h
        exact h (wr (n1 + 1)) _ _ rfl (by kernel_rfl) (by kernel_rfl)
      replace h := H.f q4 h
      refine a_set 15 (congrArg Value.bool q4) ?_
      refine ap 6 11 ?_
      refine a_done ?_
      refine c_f (by kernel_rfl) ?_
      refine c_skip ?_
      refine c_inb ?_
      refine r_start ?_
      refine p 3 ?_
      refine rend ?_
      replace h := H.inl h
      exact h (wr (n1 + 1)) _ _ rfl (by kernel_rfl) (by kernel_rfl)
    replace h := H.f q3 h
    refine cx ?_
    replace h := H.inr h
    exact hj2 () _ _ h (by kernel_rfl) (by kernel_rfl)
  intro x u h
  refine c_seq ?_
  refine r_start ?_
  refine p 2 ?_
  refine rend ?_
  replace h := H.done h
  subst h
  exact ret func192 rfl (vs := [.string (bs a0)]) (.tmp (by kernel_rfl) .nil) rfl (fun W S => ⟨rfl, S.below⟩)
theorem C.s_cmReduce {fu : Nat} {a0 : Sign} {r : Sign} (w : World) (h : X.s_cmReduce fu a0 = some r) : Calls prog 134 #[.agg (eSign a0).toArray] w (Ret w (.agg (eSign r).toArray)) := by
  refine calls (M := no) (args := [.agg (eSign a0).toArray]) func134 rfl ?_
  replace h : H (X.s_cmReduce fu a0) (fun o => o = r) := H.mk h
  unfold X.s_cmReduce at h
  refine c_seq ?_
  refine r_start ?_
  refine xx rfl (x_box (eSign a0) fun g0_0 => ?_)
  refine xx rfl (x_new (eSign zSign) fun g0_1 => ?_)
  refine rend ?_
  refine c_seq ?_
  refine r_start ?_
  refine p 2 ?_
  refine xq rfl (y_load (.agg (eMove a0.Main.Move).toArray) 0 g0_0 11) ?_
  obtain ⟨v1_3, hv1_3, h⟩ := H.call h
  refine xq rfl (y_call [.agg (eMove a0.Main.Move).toArray] (.string (bs v1_3)) func176 (fun W S => C.s_mvAll W hv1_3)) ?_
  obtain ⟨v1_4, hv1_4, h⟩ := H.call h
  refine xq rfl (y_call [.string (bs v1_3)] (.string (bs v1_4)) func192 (fun W S => C.s_cmRoot W hv1_4)) ?_
  refine p 3 ?_
  refine xx rfl (x_sto 0 g0_0 11 (eSign ({ a0 with Main := { a0.Main with Move := (⟨v1_4, 1⟩ : Move) } })) ?_)
  refine rend ?_
  refine c_seq ?_
  refine c_seq ?_
  refine r_start ?_
  refine p 1 ?_
  refine xq rfl (y_load (.bool a0.Two) 0 g0_0 13) ?_
  refine rend ?_
  refine c_or a0.Two (fun q1 => ?_) (fun q1 => ?_)
  · replace h := H.t q1 h
    refine r_start ?_
    refine p 2 ?_
    refine xq rfl (y_load (.agg (eMove a0.Other.Move).toArray) 0 g0_0 25) ?_
    obtain ⟨v3_3, hv3_3, h⟩ := H.call h
    refine xq rfl (y_call [.agg (eMove a0.Other.Move).toArray] (.string (bs v3_3)) func176 (fun W S => C.s_mvAll W hv3_3)) ?_
    obtain ⟨v3_4, hv3_4, h⟩ := H.call h
    refine xq rfl (y_call [.string (bs v3_3)] (.string (bs v3_4)) func192 (fun W S => C.s_cmRoot W hv3_4)) ?_
    refine p 3 ?_
    refine xx rfl (x_sto 0 g0_0 25 (eSign (⟨{ a0.Main with Move := (⟨v1_4, 1⟩ : Move) }, a0.Two, { a0.Other with Move := (⟨v3_4, 1⟩ : Move) }⟩ : Sign)) ?_)
    refine rend ?_
    refine c_seq ?_
    refine r_start ?_
    refine xq rfl (y_load (.agg (eSign (⟨{ a0.Main with Move := (⟨v1_4, 1⟩ : Move) }, a0.Two, { a0.Other with Move := (⟨v3_4, 1⟩ : Move) }⟩ : Sign)).toArray) 0 g0_0 0) ?_
    refine xx rfl (x_sto 1 g0_1 0 (eSign (⟨{ a0.Main with Move := (⟨v1_4, 1⟩ : Move) }, a0.Two, { a0.Other with Move := (⟨v3_4, 1⟩ : Move) }⟩ : Sign)) ?_)
    refine rend ?_
    replace h := H.done h
    subst h
    exact ret func134 rfl (vs := [.agg (eSign (⟨{ a0.Main with Move := (⟨v1_4, 1⟩ : Move) }, a0.Two, { a0.Other with Move := (⟨v3_4, 1⟩ : Move) }⟩ : Sign)).toArray]) (.cell 1 g0_1 rfl (by kernel_rfl) (by kernel_rfl) .nil) rfl (fun W S => ⟨rfl, S.below⟩)
  replace h := H.f q1 h
  refine c_skip ?_
  refine c_seq ?_
  refine r_start ?_
  refine xq rfl (y_load (.agg (eSign ({ a0 with Main := { a0.Main with Move := (⟨v1_4, 1⟩ : Move) } })).toArray) 0 g0_0 0) ?_
  refine xx rfl (x_sto 1 g0_1 0 (eSign ({ a0 with Main := { a0.Main with Move := (⟨v1_4, 1⟩ : Move) } })) ?_)
  refine rend ?_
  replace h := H.done h
  subst h
  exact ret func134 rfl (vs := [.agg (eSign ({ a0 with Main := { a0.Main with Move := (⟨v1_4, 1⟩ : Move) } })).toArray]) (.cell 1 g0_1 rfl (by kernel_rfl) (by kernel_rfl) .nil) rfl (fun W S => ⟨rfl, S.below⟩)
theorem C.s_cmOf {fu : Nat} {a0 : (List Sign)} {A0 : Option Addr} {k0 : Nat} {r : (List Sign)} (w : World) (h : X.s_cmOf fu a0 = some r) (h0 : RdT nSign w (.slice A0 (List.length a0) k0) a0) : Calls prog 87 #[.slice A0 (List.length a0) k0] w (RetR nSign 66 w r (fun v => v)) := by
  refine calls (M := no) (args := [.slice A0 (List.length a0) k0]) func87 rfl ?_
  replace h : H (X.s_cmOf fu a0) (fun o => o = r) := H.mk h
  unfold X.s_cmOf at h
  refine c_seq ?_
  refine r_start ?_
  refine p 1 ?_
  refine rend ?_
  refine c_seq ?_
  refine r_start ?_
  refine p 1 ?_
  refine rend ?_
  refine c_seq ?_
  refine c_seq ?_
  refine r_start ?_
  refine p 3 ?_
  refine rend ?_
  refine c_block ?_
  refine c_nil nSign 66 ?_
  refine joinH (X := ((List Sign) × Option Addr × Nat)) 0 (H.bnd h) (fun ⟨l4, A5, k6⟩ => l4) (fun ⟨l4, A5, k6⟩ => [rowT nSign w.heap.size 66 (.slice A5 (List.length l4) k6) l4]) (fun ⟨l4, A5, k6⟩ u => (jk u 0 3 (.slice A5 (List.length l4) k6 :: (jk u 4 22 [])))) (fun h hj7 => ?_) ?_
  · skip
    refine rangeR (X := ((List Sign) × Option Addr × Nat)) (s_arg h0) (fun ⟨l1, A2, k3⟩ => l1) (fun ⟨l1, A2, k3⟩ => [rowT nSign w.heap.size 66 (.slice A2 (List.length l1) k3) l1]) (fun (j8 : Nat) ⟨l1, A2, k3⟩ u => (.slice A0 (List.length a0) k0 :: (jk u 1 2 (.slice A2 (List.length l1) k3 :: (jk u 4 2 (.slice A0 (List.length a0) k0 :: .int .i64 (List.length a0 : Int) :: .int .i64 (j8 : Int) :: (jk u 9 17 []))))))) (([] : List Sign), none, 0) h (by kernel_rfl) (by kernel_rfl) ?_ ?_
    · intro j8 x u x9 q10 hg11 hw12 h
      obtain ⟨l1, A2, k3⟩ := x
      refine c_seq ?_
      refine r_start ?_
      refine p 1 ?_
      refine rend ?_
      refine c_seq ?_
      refine c_yes q10 ?_
      refine c_skip ?_
      refine c_seq ?_
      refine c_block ?_
      refine c_seq ?_
      refine r_start ?_
      refine p 1 ?_
      refine xq rfl (y_idx (e := nSign) (el := 66) hg11 (s_arg h0)) ?_
      refine xq rfl (y_el (e := nSign) 0 (.agg (eSign x9).toArray) hg11 (s_arg h0)) ?_
      refine xx rfl (x_new (eSign zSign) fun g4_3 => ?_)
      refine p 1 ?_
      refine xx rfl (x_sto 1 g4_3 0 (eSign x9) ?_)
      refine rend ?_
      refine c_seq ?_
      refine c_seq ?_
      refine r_start ?_
      refine p 5 ?_
      refine rend ?_
      refine c_or (decide ((wr ((j8 : Int) + 1)) < (List.length a0 : Int))) (fun q13 => ?_) (fun q13 => ?_)
      · replace h := H.t q13 h
        refine r_start ?_
        refine xq rfl (y_load (.agg (eSign x9).toArray) 1 g4_3 0) ?_
        obtain ⟨v6_1, hv6_1, h⟩ := H.call h
        refine xq rfl (y_call [.agg (eSign x9).toArray] (.agg (eSign v6_1).toArray) func134 (fun W S => C.s_cmReduce W hv6_1)) ?_
        refine xx rfl (x_sto 1 g4_3 0 (eSign v6_1) ?_)
        refine rend ?_
        refine r_start ?_
        refine p 1 ?_
        refine xq rfl (y_load (.agg (eSign v6_1).toArray) 1 g4_3 0) ?_
        refine xx rfl (e_lit (e := nSign) (el := 66) [.agg (eSign v6_1).toArray] ([v6_1] : List Sign) fun A7_2 k7_2 => ?_)
        obtain ⟨y7_3, hy7_3, h⟩ := H.call h
        refine xx rfl (e_app 0 hy7_3 (s_own 2) fun A7_3 k7_3 => ?_)
        refine p 1 ?_
        refine rend ?_
        refine c_inb ?_
        refine r_start ?_
        refine p 2 ?_
        refine rend ?_
        refine c_set 8 (ci hw12) ?_
        replace h := H.inl h
        exact h (y7_3, A7_3, k7_3) _ _ rfl (by kernel_rfl) (by kernel_rfl)
      replace h := H.f q13 h
      refine c_skip ?_
      refine r_start ?_
      refine p 1 ?_
      refine xq rfl (y_load (.agg (eSign x9).toArray) 1 g4_3 0) ?_
      refine xx rfl (e_lit (e := nSign) (el := 66) [.agg (eSign x9).toArray] ([x9] : List Sign) fun A7_2 k7_2 => ?_)
      obtain ⟨y7_3, hy7_3, h⟩ := H.call h
      refine xx rfl (e_app 0 hy7_3 (s_own 2) fun A7_3 k7_3 => ?_)
      refine p 1 ?_
      refine rend ?_
      refine c_inb ?_
      refine r_start ?_
      refine p 2 ?_
      refine rend ?_
      refine c_set 8 (ci hw12) ?_
      replace h := H.inl h
      exact h (y7_3, A7_3, k7_3) _ _ rfl (by kernel_rfl) (by kernel_rfl)
    · intro x u q10 h
      obtain ⟨l1, A2, k3⟩ := x
      refine c_seq ?_
      refine r_start ?_
      refine p 1 ?_
      refine rend ?_
      refine c_seq ?_
      refine c_no q10 ?_
      refine cx ?_
      replace h := H.done h
      exact hj7 (l1, A2, k3) _ _ h (by kernel_rfl) (by kernel_rfl)
  intro x u h
  obtain ⟨l4, A5, k6⟩ := x
  refine c_seq ?_
  refine r_start ?_
  refine p 2 ?_
  refine rend ?_
  replace h := H.done h
  subst h
  exact ret func87 rfl (vs := [.slice A5 (List.length l4) k6]) (.tmp (by kernel_rfl) .nil) rfl (fun W S => ⟨_, _, rfl, S.row 0, S.below⟩)
theorem C.s_CompoundOf {fu : Nat} {a0 : (List Sign)} {A0 : Option Addr} {k0 : Nat} {r : ((List Sign) × Bool)} (w : World) (h : X.s_CompoundOf fu a0 = some r) (h0 : RdT nSign w (.slice A0 (List.length a0) k0) a0) : Calls prog 38 #[.slice A0 (List.length a0) k0] w (RetR nSign 66 w r.1 (fun v => .tuple #[v, .bool r.2])) := by
  refine calls (M := no) (args := [.slice A0 (List.length a0) k0]) func38 rfl ?_
  replace h : H (X.s_CompoundOf fu a0) (fun o => o = r) := H.mk h
  unfold X.s_CompoundOf at h
  refine c_seq ?_
  refine r_start ?_
  refine p 2 ?_
  refine rend ?_
  refine c_seq ?_
  refine c_seq ?_
  refine r_start ?_
  refine p 1 ?_
  obtain ⟨v1_1, hv1_1, h⟩ := H.call h
  refine xq rfl (y_call [.slice A0 (List.length a0) k0] (.bool v1_1) func86 (fun W S => C.s_cmGood W hv1_1 ((s_arg h0).out W S))) ?_
  refine p 1 ?_
  refine rend ?_
  refine c_or (!v1_1) (fun q1 => ?_) (fun q1 => ?_)
  · replace h := H.t q1 h
    refine c_seq ?_
    refine r_start ?_
    refine p 2 ?_
    refine rend ?_
    replace h := H.done h
    subst h
    exact ret func38 rfl (vs := [.slice none 0 0, .bool false]) (.tmp (by kernel_rfl) (.tmp (by kernel_rfl) .nil)) rfl (fun W S => ⟨none, 0, rfl, World.ownsRow_nil _ _ _ _, S.below⟩)
  replace h := H.f q1 h
  refine c_skip ?_
  refine c_seq ?_
  refine r_start ?_
  refine p 1 ?_
  obtain ⟨v3_1, hv3_1, h⟩ := H.call h
  refine xx rfl (e_cr [.slice A0 (List.length a0) k0] (fun v => v) func87 (fun W S => C.s_cmOf W hv3_1 ((s_arg h0).out W S)) fun A3_1 k3_1 => ?_)
  refine p 2 ?_
  refine rend ?_
  replace h := H.done h
  subst h
  exact ret func38 rfl (vs := [.slice A3_1 (List.length v3_1) k3_1, .bool true]) (.tmp (by kernel_rfl) (.tmp (by kernel_rfl) .nil)) rfl (fun W S => ⟨_, _, rfl, S.row 0, S.below⟩)
theorem C.i_isMade {fu : Nat} {a0 : (List Sign)} {A0 : Option Addr} {k0 : Nat} {r : Bool} (w : World) (h : X.i_isMade fu a0 = some r) (h0 : RdT nSign w (.slice A0 (List.length a0) k0) a0) : Calls prog 88 #[.slice A0 (List.length a0) k0] w (Ret w (.bool r)) := by
  refine calls (M := no) (args := [.slice A0 (List.length a0) k0]) func88 rfl ?_
  replace h : H (X.i_isMade fu a0) (fun o => o = r) := H.mk h
  unfold X.i_isMade at h
  refine c_seq ?_
  refine r_start ?_
  refine p 1 ?_
  refine rend ?_
  refine c_seq ?_
  refine r_start ?_
  refine p 4 ?_
  refine br (decide ((List.length a0 : Int) ≥ 2)) (fun q1 => ?_) (fun q1 => ?_)
  · replace h := H.t q1 h
    refine o_set 6 (congrArg Value.bool q1) ?_
    refine p 1 ?_
    obtain ⟨v1_5, hv1_5, h⟩ := H.call h
    refine xq rfl (y_call [.slice A0 (List.length a0) k0, .int .i64 4] (.bool v1_5) func63 (fun W S => C.i_areSigns W hv1_5 ((s_arg h0).out W S))) ?_
    refine p 2 ?_
    refine rend ?_
    replace h := H.done h
    subst h
    exact ret func88 rfl (vs := [.bool v1_5]) (.tmp (by kernel_rfl) .nil) rfl (fun W S => ⟨rfl, S.below⟩)
  replace h := H.f q1 h
  refine o_set 6 (congrArg Value.bool q1) ?_
  refine p 4 ?_
  refine rend ?_
  replace h := H.done h
  subst h
  exact ret func88 rfl (vs := [.bool false]) (.tmp (by kernel_rfl) .nil) rfl (fun W S => ⟨rfl, S.below⟩)
theorem C.slices_Clone_i_Sign_i_Sign {a0 : (List Sign)} {A0 : Option Addr} {k0 : Nat} {r : (List Sign)} (w : World) (h : X.slices_Clone_i_Sign_i_Sign a0 = some r) (h0 : RdT nSign w (.slice A0 (List.length a0) k0) a0) : Calls prog 135 #[.slice A0 (List.length a0) k0] w (RetR nSign 66 w r (fun v => v)) := by
  refine calls (M := no) (args := [.slice A0 (List.length a0) k0]) func135 rfl ?_
  unfold X.slices_Clone_i_Sign_i_Sign at h
  refine c_seq ?_
  refine r_start ?_
  refine p 1 ?_
  refine rend ?_
  refine c_seq ?_
  refine c_seq ?_
  refine r_start ?_
  refine p 1 ?_
  refine xq rfl (y_eqn (A := A0) (n := List.length a0) (c := k0) (el := 66) rfl (by kernel_rfl) (by kernel_rfl) (by kernel_rfl)) ?_
  refine rend ?_
  refine c_or A0.isNone (fun q => ?_) (fun q => ?_)
  · have ha : a0 = [] := by
      obtain ⟨A2, c2, e1, _, _, _, h4⟩ := h0
      injection e1 with e1 _ _
      subst e1
      cases a0 with
      | nil => rfl
      | cons x l =>
        obtain ⟨b, off, hA, _⟩ := h4 (by simp)
        subst hA
        cases q
    subst ha
    have hr : r = [] := by
      unfold appG at h
      split at h
      · exact (Option.some.inj h).symm
      · cases h
    subst hr
    refine c_seq ?_
    refine r_start ?_
    refine p 1 ?_
    refine rend ?_
    exact ret func135 rfl (vs := [.slice none 0 0]) (.tmp (by kernel_rfl) .nil) rfl (fun W S => ⟨none, 0, rfl, World.ownsRow_nil _ _ _ _, S.below⟩)
  refine c_skip ?_
  refine c_seq ?_
  refine r_start ?_
  refine xx rfl (e_lit (e := nSign) (el := 66) [] ([] : List Sign) fun A5 k5 => ?_)
  refine p 1 ?_
  refine xx rfl (e_app 0 h (s_arg h0) fun A7 k7 => ?_)
  refine p 1 ?_
  refine rend ?_
  exact ret func135 rfl (vs := [.slice A7 (List.length r) k7]) (.tmp (by kernel_rfl) .nil) rfl (fun W S => ⟨_, _, rfl, S.row 0, S.below⟩)
theorem C.i_Move_reduced {fu : Nat} {a0 : Move} {r : Move} (w : World) (h : X.i_Move_reduced fu a0 = some r) : Calls prog 193 #[.agg (eMove a0).toArray] w (Ret w (.agg (eMove r).toArray)) := by
  refine calls (M := no) (args := [.agg (eMove a0).toArray]) func193 rfl ?_
  replace h : H (X.i_Move_reduced fu a0) (fun o => o = r) := H.mk h
  unfold X.i_Move_reduced at h
  refine c_seq ?_
  refine r_start ?_
  refine xx rfl (x_box (eMove a0) fun g0_0 => ?_)
  refine xx rfl (x_new (eMove zMove) fun g0_1 => ?_)
  refine rend ?_
  refine c_seq ?_
  refine r_start ?_
  refine xq rfl (y_load (.agg (eMove a0).toArray) 0 g0_0 0) ?_
  obtain ⟨v1_1, hv1_1, h⟩ := H.call h
  refine xq rfl (y_call [.agg (eMove a0).toArray] (.string (bs v1_1)) func165 (fun W S => C.i_Move_all W hv1_1)) ?_
  refine p 1 ?_
  refine rend ?_
  refine c_seq ?_
  refine c_seq ?_
  refine r_start ?_
  refine p 1 ?_
  refine rend ?_
  refine c_block ?_
  refine joinE (X := Unit) 0 (H.or h) (fun (x : Unit) => x) (fun _ => [box g0_0 62 (eMove a0), box g0_1 62 (eMove zMove)]) (fun _ u => (jk u 0 1 (.pointer (some ⟨g0_0, 0, none⟩) :: .pointer (some ⟨g0_1, 0, none⟩) :: (jk u 3 32 [])))) (fun h hj2 => ?_) ?_
  · skip
    refine loopR (X := Int) (fun (x : Int) => x) (fun n1 => [box g0_0 62 (eMove a0), box g0_1 62 (eMove zMove)]) (fun n1 u => (jk u 0 1 (.pointer (some ⟨g0_0, 0, none⟩) :: .pointer (some ⟨g0_1, 0, none⟩) :: .string (bs v1_1) :: .int .i64 n1 :: (jk u 5 30 [])))) 1 h (by kernel_rfl) (by kernel_rfl) ?_
    intro n1 u h
    refine c_seq ?_
    refine c_seq ?_
    refine r_start ?_
    refine p 4 ?_
    refine rend ?_
    refine c_or (decide (n1 ≤ (List.length v1_1 : Int))) (fun q3 => ?_) (fun q3 => ?_)
    · replace h := H.t q3 h
      refine c_skip ?_
      refine c_seq ?_
      refine c_block ?_
      refine c_seq ?_
      refine as_start 17 17 ?_
      refine ap 0 3 ?_
      obtain ⟨y5_3, hy5_3, h⟩ := H.call h
      refine aq 3 rfl (y_mod hy5_3) ?_
      refine ap 4 2 ?_
      refine br (y5_3 == 0) (fun q4 => ?_) (fun q4 => ?_)
      · replace h := H.t q4 h
        refine a_set 18 (congrArg Value.bool q4) ?_
        refine ap 6 2 ?_
        obtain ⟨y5_8, hy5_8, h⟩ := H.call h
        refine aq 8 rfl (y_cut hy5_8) ?_
        refine ap 9 3 ?_
        obtain ⟨y5_12, hy5_12, h⟩ := H.call h
        refine aq 12 rfl (y_div hy5_12) ?_
        obtain ⟨v5_13, hv5_13, h⟩ := H.call h
        refine aq 13 rfl (y_call [.string (bs y5_8), .int .i64 y5_12] (.string (bs v5_13)) func226 (fun W S => C.strings_Repeat W hv5_13)) ?_
        refine ap 14 3 ?_
        refine a_done ?_
        refine c_or (seq v5_13 v1_1) (fun q5 => ?_) (fun q5 => ?_)
        · replace h := H.t q5 h
          refine c_seq ?_
          refine r_start ?_
          refine p 2 ?_
          obtain ⟨y6_2, hy6_2, h⟩ := H.call h
          refine xq rfl (y_cut hy6_2) ?_
          refine p 1 ?_
          refine xx rfl (x_sto 1 g0_1 0 (eMove (⟨y6_2, 1⟩ : Move)) ?_)
          refine rend ?_
          replace h := H.inr h
          replace h := H.done h
          subst h
          exact ret func193 rfl (vs := [.agg (eMove (⟨y6_2, 1⟩ : Move)).toArray]) (.cell 1 g0_1 rfl (by kernel_rfl) (by kernel_rfl) .nil) rfl (fun W S => ⟨rfl, S.below⟩)
        replace h := H.f q5 h
        refine c_skip ?_
        refine c_inb ?_
        refine r_start ?_
        refine p 3 ?_
        refine rend ?_
        replace h := H.inl h
        exact h (wr (n1 + 1)) _ _ rfl (by kernel_rfl) (by kernel_rfl)
      replace h := H.f q4 h
      refine a_set 18 (congrArg Value.bool q4) ?_
      refine ap 6 11 ?_
      refine a_done ?_
      refine c_f (by kernel_rfl) ?_
      refine c_skip ?_
      refine c_inb ?_
      refine r_start ?_
      refine p 3 ?_
      refine rend ?_
      replace h := H.inl h
      exact h (wr (n1 + 1)) _ _ rfl (by kernel_rfl) (by kernel_rfl)
    replace h := H.f q3 h
    refine cx ?_
    replace h := H.inr h
    exact hj2 () _ _ h (by kernel_rfl) (by kernel_rfl)
  intro x u h
  refine c_seq ?_
  refine r_start ?_
  refine xq rfl (y_load (.agg (eMove a0).toArray) 0 g0_0 0) ?_
  refine xx rfl (x_sto 1 g0_1 0 (eMove a0) ?_)
  refine rend ?_
  replace h := H.done h
  subst h
  exact ret func193 rfl (vs := [.agg (eMove a0).toArray]) (.cell 1 g0_1 rfl (by kernel_rfl) (by kernel_rfl) .nil) rfl (fun W S => ⟨rfl, S.below⟩)
theorem C.i_Sign_reduced {fu : Nat} {a0 : Sign} {r : Sign} (w : World) (h : X.i_Sign_reduced fu a0 = some r) : Calls prog 136 #[.agg (eSign a0).toArray] w (Ret w (.agg (eSign r).toArray)) := by
  refine calls (M := no) (args := [.agg (eSign a0).toArray]) func136 rfl ?_
  replace h : H (X.i_Sign_reduced fu a0) (fun o => o = r) := H.mk h
  unfold X.i_Sign_reduced at h
  refine c_seq ?_
  refine r_start ?_
  refine xx rfl (x_box (eSign a0) fun g0_0 => ?_)
  refine xx rfl (x_new (eSign zSign) fun g0_1 => ?_)
  refine rend ?_
  refine c_seq ?_
  refine r_start ?_
  refine p 2 ?_
  refine xq rfl (y_load (.agg (eMove a0.Main.Move).toArray) 0 g0_0 11) ?_
  obtain ⟨v1_3, hv1_3, h⟩ := H.call h
  refine xq rfl (y_call [.agg (eMove a0.Main.Move).toArray] (.agg (eMove v1_3).toArray) func193 (fun W S => C.i_Move_reduced W hv1_3)) ?_
  refine p 2 ?_
  refine xx rfl (x_sto 0 g0_0 11 (eSign ({ a0 with Main := { a0.Main with Move := v1_3 } })) ?_)
  refine rend ?_
  refine c_seq ?_
  refine c_seq ?_
  refine r_start ?_
  refine p 1 ?_
  refine xq rfl (y_load (.bool a0.Two) 0 g0_0 13) ?_
  refine rend ?_
  refine c_or a0.Two (fun q1 => ?_) (fun q1 => ?_)
  · replace h := H.t q1 h
    refine r_start ?_
    refine p 2 ?_
    refine xq rfl (y_load (.agg (eMove a0.Other.Move).toArray) 0 g0_0 25) ?_
    obtain ⟨v3_3, hv3_3, h⟩ := H.call h
    refine xq rfl (y_call [.agg (eMove a0.Other.Move).toArray] (.agg (eMove v3_3).toArray) func193 (fun W S => C.i_Move_reduced W hv3_3)) ?_
    refine p 2 ?_
    refine xx rfl (x_sto 0 g0_0 25 (eSign (⟨{ a0.Main with Move := v1_3 }, a0.Two, { a0.Other with Move := v3_3 }⟩ : Sign)) ?_)
    refine rend ?_
    refine c_seq ?_
    refine r_start ?_
    refine xq rfl (y_load (.agg (eSign (⟨{ a0.Main with Move := v1_3 }, a0.Two, { a0.Other with Move := v3_3 }⟩ : Sign)).toArray) 0 g0_0 0) ?_
    refine xx rfl (x_sto 1 g0_1 0 (eSign (⟨{ a0.Main with Move := v1_3 }, a0.Two, { a0.Other with Move := v3_3 }⟩ : Sign)) ?_)
    refine rend ?_
    replace h := H.done h
    subst h
    exact ret func136 rfl (vs := [.agg (eSign (⟨{ a0.Main with Move := v1_3 }, a0.Two, { a0.Other with Move := v3_3 }⟩ : Sign)).toArray]) (.cell 1 g0_1 rfl (by kernel_rfl) (by kernel_rfl) .nil) rfl (fun W S => ⟨rfl, S.below⟩)
  replace h := H.f q1 h
  refine c_skip ?_
  refine c_seq ?_
  refine r_start ?_
  refine xq rfl (y_load (.agg (eSign ({ a0 with Main := { a0.Main with Move := v1_3 } })).toArray) 0 g0_0 0) ?_
  refine xx rfl (x_sto 1 g0_1 0 (eSign ({ a0 with Main := { a0.Main with Move := v1_3 } })) ?_)
  refine rend ?_
  replace h := H.done h
  subst h
  exact ret func136 rfl (vs := [.agg (eSign ({ a0 with Main := { a0.Main with Move := v1_3 } })).toArray]) (.cell 1 g0_1 rfl (by kernel_rfl) (by kernel_rfl) .nil) rfl (fun W S => ⟨rfl, S.below⟩)
theorem C.i_compound {fu : Nat} {a0 : (List Sign)} {A0 : Option Addr} {k0 : Nat} {r : (List Sign)} (w : World) (h : X.i_compound fu a0 = some r) (h0 : RdT nSign w (.slice A0 (List.length a0) k0) a0) : Calls prog 89 #[.slice A0 (List.length a0) k0] w (RetR nSign 66 w r (fun v => v)) := by
  refine calls (M := no) (args := [.slice A0 (List.length a0) k0]) func89 rfl ?_
  replace h : H (X.i_compound fu a0) (fun o => o = r) := H.mk h
  unfold X.i_compound at h
  refine c_seq ?_
  refine r_start ?_
  refine p 1 ?_
  refine rend ?_
  refine c_seq ?_
  refine r_start ?_
  refine p 1 ?_
  obtain ⟨v1_1, hv1_1, h⟩ := H.call h
  refine xx rfl (e_cr [.slice A0 (List.length a0) k0] (fun v => v) func135 (fun W S => C.slices_Clone_i_Sign_i_Sign W hv1_1 ((s_arg h0).out W S)) fun A1_1 k1_1 => ?_)
  refine p 1 ?_
  refine rend ?_
  refine c_seq ?_
  refine c_seq ?_
  refine r_start ?_
  refine p 4 ?_
  refine rend ?_
  refine c_block ?_
  refine joinH (X := ((List Sign) × Option Addr × Nat)) 0 (H.bnd h) (fun ⟨l4, A5, k6⟩ => l4) (fun ⟨l4, A5, k6⟩ => [rowT nSign w.heap.size 66 (.slice A5 (List.length l4) k6) l4]) (fun ⟨l4, A5, k6⟩ u => (jk u 0 3 (.slice A5 (List.length l4) k6 :: (jk u 4 19 [])))) (fun h hj7 => ?_) ?_
  · skip
    refine rangeNR (X := ((List Sign) × Option Addr × Nat)) (fun ⟨l1, A2, k3⟩ => l1) (fun ⟨l1, A2, k3⟩ => [rowT nSign w.heap.size 66 (.slice A2 (List.length l1) k3) l1]) (fun (j8 : Int) ⟨l1, A2, k3⟩ u => (jk u 0 3 (.slice A2 (List.length l1) k3 :: (jk u 4 5 (.int .i64 (wr ((List.length v1_1 : Int) - 1)) :: .int .i64 j8 :: (jk u 11 12 [])))))) (v1_1, A1_1, k1_1) h (by kernel_rfl) (by kernel_rfl) ?_ ?_
    · intro j8 x u q9 hw10 h
      obtain ⟨l1, A2, k3⟩ := x
      refine c_seq ?_
      refine r_start ?_
      refine p 1 ?_
      refine rend ?_
      refine c_seq ?_
      refine c_yes q9 ?_
      refine c_skip ?_
      refine c_seq ?_
      refine c_block ?_
      refine c_seq ?_
      refine r_start ?_
      refine p 2 ?_
      refine rend ?_
      refine r_start ?_
      refine p 4 ?_
      obtain ⟨y5_4, hy5_4, h⟩ := H.call h
      refine xq rfl (y_idx (e := nSign) (el := 66) hy5_4 (s_own 0)) ?_
      refine xq rfl (y_el (e := nSign) 0 (.agg (eSign y5_4).toArray) hy5_4 (s_own 0)) ?_
      obtain ⟨v5_6, hv5_6, h⟩ := H.call h
      refine xq rfl (y_call [.agg (eSign y5_4).toArray] (.agg (eSign v5_6).toArray) func136 (fun W S => C.i_Sign_reduced W hv5_6)) ?_
      refine xq rfl (y_idx (e := nSign) (el := 66) hy5_4 (s_own 0)) ?_
      refine xx rfl (e_stel (e := nSign) (b := v5_6) 0 0 (eSign v5_6) hy5_4 (by kernel_rfl) ?_)
      refine o_set 3 (sl_set (A := A2) (c := k3) (l := l1) (n := Int.toNat (j8 : Int)) (b := v5_6)) ?_
      refine rend ?_
      refine c_inb ?_
      refine r_start ?_
      refine p 2 ?_
      refine rend ?_
      refine c_set 10 (ci hw10) ?_
      replace h := H.inl h
      exact h ((List.set l1 (Int.toNat (j8 : Int)) v5_6), A2, k3) _ _ rfl (by kernel_rfl) (by kernel_rfl)
    · intro j11 x u q9 h
      obtain ⟨l1, A2, k3⟩ := x
      refine c_seq ?_
      refine r_start ?_
      refine p 1 ?_
      refine rend ?_
      refine c_seq ?_
      refine c_no q9 ?_
      refine cx ?_
      replace h := H.done h
      exact hj7 (l1, A2, k3) _ _ h (by kernel_rfl) (by kernel_rfl)
  intro x u h
  obtain ⟨l4, A5, k6⟩ := x
  refine c_seq ?_
  refine r_start ?_
  refine p 2 ?_
  refine rend ?_
  replace h := H.done h
  subst h
  exact ret func89 rfl (vs := [.slice A5 (List.length l4) k6]) (.tmp (by kernel_rfl) .nil) rfl (fun W S => ⟨_, _, rfl, S.row 0, S.below⟩)
end Go.Proofs.XC
