/- Contracts: each function, called where its plain function gives an answer, returns just that answer and changes nothing that was there. By AI agents; no person has read it. -/
import Derived.Test.YtkckmehkialgjaaGreatDoorC1
set_option linter.unusedVariables false
set_option linter.unusedSimpArgs false
set_option maxRecDepth 100000
set_option maxHeartbeats 40000000
namespace Go.Proofs.XC
open Go Go.RowKit
open Tryz
theorem CX.l_markIntS {fu : Nat} {a0 : (List Int)} {A0 : Option Addr} {k0 B0 n0 : Nat} {a1 : Int} {r : (Int × (List Int))} (w : World) (h : X.l_markIntS fu a0 a1 = some r) (hn0 : List.length a0 = n0) (h0 : ownsX w B0 3 (Enc.sz (eI .i64)) (.slice A0 n0 k0) n0 (Enc.flat (eI .i64) a0)) : Calls prog 22 #[.slice A0 (n0) k0, .int .i64 a1] w (RetWX (eI .i64) B0 3 A0 n0 k0 w r.2 (.int .i64 r.1)) := by
  subst hn0
  refine callsX (args := [.slice A0 (List.length a0) k0, .int .i64 a1]) rfl h0 func22 rfl ?_
  replace h : H (X.l_markIntS fu a0 a1) (fun o => o = r) := H.mk h
  unfold X.l_markIntS at h
  refine c_seq ?_
  refine r_start ?_
  refine p 1 ?_
  refine rend ?_
  refine c_seq ?_
  refine c_seq ?_
  refine r_start ?_
  refine p 1 ?_
  refine rend ?_
  refine c_block ?_
  refine joinH (X := (Int × (List Int))) 0 (H.bnd h) (fun (x : (Int × (List Int))) => x) (fun ⟨n4, l5⟩ => [argX (eI .i64) B0 3 A0 (List.length a0) k0 l5]) (fun ⟨n4, l5⟩ u => (jk u 0 1 (.int .i64 n4 :: (jk u 2 17 [])))) (fun h hj6 => ?_) ?_
  · skip
    refine loopR (X := (Int × Int × (List Int))) (fun (x : (Int × Int × (List Int))) => x) (fun ⟨n1, n2, l3⟩ => [argX (eI .i64) B0 3 A0 (List.length a0) k0 l3]) (fun ⟨n1, n2, l3⟩ u => (.slice A0 (List.length a0) k0 :: .int .i64 n1 :: (jk u 2 3 (.int .i64 n2 :: (jk u 6 13 []))))) (a1, 0, a0) h (by kernel_rfl) (by kernel_rfl) ?_
    intro x u h
    obtain ⟨n1, n2, l3⟩ := x
    refine c_seq ?_
    refine c_seq ?_
    refine r_start ?_
    refine p 4 ?_
    refine rend ?_
    refine c_or (decide (n2 < (List.length a0 : Int))) (fun q7 => ?_) (fun q7 => ?_)
    · replace h := H.t q7 h
      refine c_skip ?_
      refine c_seq ?_
      refine c_block ?_
      refine c_seq ?_
      refine r_start ?_
      refine p 3 ?_
      obtain ⟨y4_3, hy4_3, h⟩ := H.call h
      refine xq rfl (y_idxX (e := (eI .i64)) (el := 3) 0 hy4_3) ?_
      refine xx rfl (e_stX (e := (eI .i64)) (b := n1) 0 0 ([.int .i64 n1]) hy4_3 (by kernel_rfl) ?_)
      refine rend ?_
      refine r_start ?_
      refine p 3 ?_
      refine rend ?_
      refine c_inb ?_
      refine r_start ?_
      refine p 3 ?_
      refine rend ?_
      replace h := H.inl h
      exact h ((wr (n1 + 1)), (wr (n2 + 1)), (List.set l3 (Int.toNat n2) n1)) _ _ rfl (by kernel_rfl) (by kernel_rfl)
    replace h := H.f q7 h
    refine cx ?_
    replace h := H.inr h
    exact hj6 (n1, l3) _ _ h (by kernel_rfl) (by kernel_rfl)
  intro x u h
  obtain ⟨n4, l5⟩ := x
  refine c_seq ?_
  refine r_start ?_
  refine p 2 ?_
  refine rend ?_
  replace h := H.done h
  subst h
  exact ret func22 rfl (vs := [.int .i64 n4]) (.tmp (by kernel_rfl) .nil) rfl (fun W S => S.retWX)
theorem C.s_l1Own {a0 : (List Int)} {A0 : Option Addr} {k0 : Nat} {r : (List Int)} (w : World) (h : X.s_l1Own a0 = some r) (h0 : RdT (eI .i64) w (.slice A0 (List.length a0) k0) a0) : Calls prog 73 #[.slice A0 (List.length a0) k0] w (RetR (eI .i64) 3 w r (fun v => v)) := by
  refine calls (M := no) (args := [.slice A0 (List.length a0) k0]) func73 rfl ?_
  replace h : H (X.s_l1Own a0) (fun o => o = r) := H.mk h
  unfold X.s_l1Own at h
  refine c_seq ?_
  refine r_start ?_
  refine p 1 ?_
  refine rend ?_
  refine c_seq ?_
  refine r_start ?_
  refine xx rfl (e_lit (e := (eI .i64)) (el := 3) [] ([] : List Int) fun A1_0 k1_0 => ?_)
  refine p 1 ?_
  obtain ⟨y1_2, hy1_2, h⟩ := H.call h
  refine xx rfl (e_app 0 hy1_2 (s_arg h0) fun A1_2 k1_2 => ?_)
  refine p 1 ?_
  refine rend ?_
  replace h := H.done h
  subst h
  exact ret func73 rfl (vs := [.slice A1_2 (List.length y1_2) k1_2]) (.tmp (by kernel_rfl) .nil) rfl (fun W S => ⟨_, _, rfl, S.row 0, S.below⟩)
theorem C.l_szPattern {a0 : Pattern} {a1 : Int} {r : Int} (w : World) (h : X.l_szPattern a0 a1 = some r) : Calls prog 31 #[.agg (ePattern a0).toArray, .int .i64 a1] w (Ret w (.int .i64 r)) := by
  refine calls (M := no) (args := [.agg (ePattern a0).toArray, .int .i64 a1]) func31 rfl ?_
  replace h : H (X.l_szPattern a0 a1) (fun o => o = r) := H.mk h
  unfold X.l_szPattern at h
  refine c_seq ?_
  refine r_start ?_
  refine xx rfl (x_box (ePattern a0) fun g0_0 => ?_)
  refine p 1 ?_
  refine rend ?_
  refine c_seq ?_
  refine r_start ?_
  refine p 2 ?_
  refine xq rfl (y_load (.string (bs a0.Shape)) 0 g0_0 0) ?_
  refine p 3 ?_
  refine rend ?_
  refine c_seq ?_
  refine c_seq ?_
  refine r_start ?_
  refine p 2 ?_
  refine rend ?_
  refine c_or (decide ((wr (a1 - (List.length a0.Shape : Int))) < 0)) (fun q1 => ?_) (fun q1 => ?_)
  · replace h := H.t q1 h
    refine c_seq ?_
    refine r_start ?_
    refine p 1 ?_
    refine rend ?_
    replace h := H.done h
    subst h
    exact ret func31 rfl (vs := [.int .i64 (-1)]) (.tmp (by kernel_rfl) .nil) rfl (fun W S => ⟨rfl, S.below⟩)
  replace h := H.f q1 h
  refine c_skip ?_
  refine c_seq ?_
  refine r_start ?_
  refine p 2 ?_
  refine xq rfl (y_load (.string (bs a0.Orient)) 0 g0_0 1) ?_
  refine p 3 ?_
  refine rend ?_
  refine c_seq ?_
  refine c_seq ?_
  refine r_start ?_
  refine p 2 ?_
  refine rend ?_
  refine c_or (decide ((wr ((wr (a1 - (List.length a0.Shape : Int))) - (List.length a0.Orient : Int))) < 0)) (fun q2 => ?_) (fun q2 => ?_)
  · replace h := H.t q2 h
    refine c_seq ?_
    refine r_start ?_
    refine p 1 ?_
    refine rend ?_
    replace h := H.done h
    subst h
    exact ret func31 rfl (vs := [.int .i64 (-1)]) (.tmp (by kernel_rfl) .nil) rfl (fun W S => ⟨rfl, S.below⟩)
  replace h := H.f q2 h
  refine c_skip ?_
  refine c_seq ?_
  refine r_start ?_
  refine p 2 ?_
  refine xq rfl (y_load (.string (bs a0.Steps)) 0 g0_0 3) ?_
  refine p 3 ?_
  refine rend ?_
  refine c_seq ?_
  refine c_seq ?_
  refine r_start ?_
  refine p 2 ?_
  refine rend ?_
  refine c_or (decide ((wr ((wr ((wr (a1 - (List.length a0.Shape : Int))) - (List.length a0.Orient : Int))) - (List.length a0.Steps : Int))) < 0)) (fun q3 => ?_) (fun q3 => ?_)
  · replace h := H.t q3 h
    refine c_seq ?_
    refine r_start ?_
    refine p 1 ?_
    refine rend ?_
    replace h := H.done h
    subst h
    exact ret func31 rfl (vs := [.int .i64 (-1)]) (.tmp (by kernel_rfl) .nil) rfl (fun W S => ⟨rfl, S.below⟩)
  replace h := H.f q3 h
  refine c_skip ?_
  refine c_seq ?_
  refine r_start ?_
  refine p 2 ?_
  refine rend ?_
  replace h := H.done h
  subst h
  exact ret func31 rfl (vs := [.int .i64 (wr ((wr ((wr (a1 - (List.length a0.Shape : Int))) - (List.length a0.Orient : Int))) - (List.length a0.Steps : Int)))]) (.tmp (by kernel_rfl) .nil) rfl (fun W S => ⟨rfl, S.below⟩)
theorem C.s_seIn {fu : Nat} {a0 : Str} {a1 : Int} {r : Bool} (w : World) (h : X.s_seIn fu a0 a1 = some r) : Calls prog 222 #[.string (bs a0), .int .u8 a1] w (Ret w (.bool r)) := by
  refine calls (M := no) (args := [.string (bs a0), .int .u8 a1]) func222 rfl ?_
  replace h : H (X.s_seIn fu a0 a1) (fun o => o = r) := H.mk h
  unfold X.s_seIn at h
  refine c_seq ?_
  refine r_start ?_
  refine p 1 ?_
  refine rend ?_
  refine c_seq ?_
  refine c_seq ?_
  refine r_start ?_
  refine p 1 ?_
  refine rend ?_
  refine c_block ?_
  refine joinE (X := Unit) 0 (H.or h) (fun (x : Unit) => x) (fun _ => []) (fun _ u => (jk u 0 17 [])) (fun h hj2 => ?_) ?_
  · skip
    refine loopR (X := Int) (fun (x : Int) => x) (fun n1 => []) (fun n1 u => (.string (bs a0) :: .int .u8 a1 :: (jk u 2 3 (.int .i64 n1 :: (jk u 6 11 []))))) 0 h (by kernel_rfl) (by kernel_rfl) ?_
    intro n1 u h
    refine c_seq ?_
    refine c_seq ?_
    refine r_start ?_
    refine p 4 ?_
    refine rend ?_
    refine c_or (decide (n1 < (List.length a0 : Int))) (fun q3 => ?_) (fun q3 => ?_)
    · replace h := H.t q3 h
      refine c_skip ?_
      refine c_seq ?_
      refine c_block ?_
      refine c_seq ?_
      refine r_start ?_
      refine p 2 ?_
      obtain ⟨y4_2, hy4_2, h⟩ := H.call h
      refine xq rfl (y_byte hy4_2) ?_
      refine p 2 ?_
      refine rend ?_
      refine c_or (y4_2 == a1) (fun q4 => ?_) (fun q4 => ?_)
      · replace h := H.t q4 h
        refine c_seq ?_
        refine r_start ?_
        refine p 1 ?_
        refine rend ?_
        replace h := H.inr h
        replace h := H.done h
        subst h
        exact ret func222 rfl (vs := [.bool true]) (.tmp (by kernel_rfl) .nil) rfl (fun W S => ⟨rfl, S.below⟩)
      replace h := H.f q4 h
      refine c_skip ?_
      refine c_inb ?_
      refine r_start ?_
      refine p 3 ?_
      refine rend ?_
      replace h := H.inl h
      exact h (wr (n1 + 1)) _ _ rfl (by kernel_rfl) (by kernel_rfl)
    replace h := H.f q3 h
    refine cx ?_
    replace h := H.inr h
    exact hj2 () _ _ h (by kernel_rfl) (by kernel_rfl)
  intro x u h
  refine c_seq ?_
  refine r_start ?_
  refine p 1 ?_
  refine rend ?_
  replace h := H.done h
  subst h
  exact ret func222 rfl (vs := [.bool false]) (.tmp (by kernel_rfl) .nil) rfl (fun W S => ⟨rfl, S.below⟩)
theorem C.s_seWild {fu : Nat} {a0 : Str} {a1 : Str} {a2 : Int} {r : Bool} (w : World) (h : X.s_seWild fu a0 a1 a2 = some r) : Calls prog 176 #[.string (bs a0), .string (bs a1), .int .i64 a2] w (Ret w (.bool r)) := by
  refine calls (M := no) (args := [.string (bs a0), .string (bs a1), .int .i64 a2]) func176 rfl ?_
  replace h : H (X.s_seWild fu a0 a1 a2) (fun o => o = r) := H.mk h
  unfold X.s_seWild at h
  refine c_seq ?_
  refine r_start ?_
  refine p 1 ?_
  refine rend ?_
  refine c_seq ?_
  refine c_seq ?_
  refine r_start ?_
  refine p 4 ?_
  refine rend ?_
  refine c_or ((List.length a0 : Int) != a2) (fun q1 => ?_) (fun q1 => ?_)
  · replace h := H.t q1 h
    refine c_seq ?_
    refine r_start ?_
    refine p 1 ?_
    refine rend ?_
    replace h := H.done h
    subst h
    exact ret func176 rfl (vs := [.bool false]) (.tmp (by kernel_rfl) .nil) rfl (fun W S => ⟨rfl, S.below⟩)
  replace h := H.f q1 h
  refine c_skip ?_
  refine c_seq ?_
  refine c_seq ?_
  refine r_start ?_
  refine p 1 ?_
  refine rend ?_
  refine c_block ?_
  refine joinE (X := Unit) 0 (H.or h) (fun (x : Unit) => x) (fun _ => []) (fun _ u => (jk u 0 30 [])) (fun h hj3 => ?_) ?_
  · skip
    refine loopR (X := Int) (fun (x : Int) => x) (fun n2 => []) (fun n2 u => (.string (bs a0) :: .string (bs a1) :: (jk u 2 5 (.int .i64 n2 :: (jk u 8 22 []))))) 0 h (by kernel_rfl) (by kernel_rfl) ?_
    intro n2 u h
    refine c_seq ?_
    refine c_seq ?_
    refine r_start ?_
    refine p 4 ?_
    refine rend ?_
    refine c_or (decide (n2 < (List.length a0 : Int))) (fun q4 => ?_) (fun q4 => ?_)
    · replace h := H.t q4 h
      refine c_skip ?_
      refine c_seq ?_
      refine c_block ?_
      refine c_seq ?_
      refine r_start ?_
      refine p 2 ?_
      obtain ⟨y6_2, hy6_2, h⟩ := H.call h
      refine xq rfl (y_byte hy6_2) ?_
      refine p 2 ?_
      refine br (y6_2 != 63) (fun q5 => ?_) (fun q5 => ?_)
      · replace h := H.t q5 h
        refine o_set 22 (congrArg Value.bool q5) ?_
        refine p 3 ?_
        refine xq rfl (y_byte hy6_2) ?_
        obtain ⟨v6_9, hv6_9, h⟩ := H.call h
        refine xq rfl (y_call [.string (bs a1), .int .u8 y6_2] (.bool v6_9) func222 (fun W S => C.s_seIn W hv6_9)) ?_
        refine p 2 ?_
        refine rend ?_
        refine c_or (!v6_9) (fun q6 => ?_) (fun q6 => ?_)
        · replace h := H.t q6 h
          refine c_seq ?_
          refine r_start ?_
          refine p 1 ?_
          refine rend ?_
          replace h := H.inr h
          replace h := H.done h
          subst h
          exact ret func176 rfl (vs := [.bool false]) (.tmp (by kernel_rfl) .nil) rfl (fun W S => ⟨rfl, S.below⟩)
        replace h := H.f q6 h
        refine c_skip ?_
        refine c_inb ?_
        refine r_start ?_
        refine p 3 ?_
        refine rend ?_
        replace h := H.inl h
        exact h (wr (n2 + 1)) _ _ rfl (by kernel_rfl) (by kernel_rfl)
      replace h := H.f q5 h
      refine o_set 22 (congrArg Value.bool q5) ?_
      refine p 7 ?_
      refine rend ?_
      refine c_f (by kernel_rfl) ?_
      refine c_skip ?_
      refine c_inb ?_
      refine r_start ?_
      refine p 3 ?_
      refine rend ?_
      replace h := H.inl h
      exact h (wr (n2 + 1)) _ _ rfl (by kernel_rfl) (by kernel_rfl)
    replace h := H.f q4 h
    refine cx ?_
    replace h := H.inr h
    exact hj3 () _ _ h (by kernel_rfl) (by kernel_rfl)
  intro x u h
  refine c_seq ?_
  refine r_start ?_
  refine p 1 ?_
  refine rend ?_
  replace h := H.done h
  subst h
  exact ret func176 rfl (vs := [.bool true]) (.tmp (by kernel_rfl) .nil) rfl (fun W S => ⟨rfl, S.below⟩)
theorem C.s_seGood {fu : Nat} {a0 : Pattern} {r : Bool} (w : World) (h : X.s_seGood fu a0 = some r) : Calls prog 114 #[.agg (ePattern a0).toArray] w (Ret w (.bool r)) := by
  refine calls (M := no) (args := [.agg (ePattern a0).toArray]) func114 rfl ?_
  replace h : H (X.s_seGood fu a0) (fun o => o = r) := H.mk h
  unfold X.s_seGood at h
  refine c_seq ?_
  refine r_start ?_
  refine xx rfl (x_box (ePattern a0) fun g0_0 => ?_)
  refine p 1 ?_
  refine rend ?_
  refine c_seq ?_
  refine r_start ?_
  refine p 1 ?_
  refine xq rfl (y_load (.string (bs a0.Shape)) 0 g0_0 0) ?_
  obtain ⟨v1_2, hv1_2, h⟩ := H.call h
  refine xq rfl (y_call [.string (bs a0.Shape), .string (bs ([48, 49, 50] : Str)), .int .i64 5] (.bool v1_2) func176 (fun W S => C.s_seWild W hv1_2)) ?_
  refine p 1 ?_
  refine br v1_2 (fun q1 => ?_) (fun q1 => ?_)
  · replace h := H.t q1 h
    refine o_set 6 (congrArg Value.bool q1) ?_
    refine p 1 ?_
    refine xq rfl (y_load (.string (bs a0.Orient)) 0 g0_0 1) ?_
    obtain ⟨v1_6, hv1_6, h⟩ := H.call h
    refine xq rfl (y_call [.string (bs a0.Orient), .string (bs ([117, 100, 108, 114, 102, 98] : Str)), .int .i64 2] (.bool v1_6) func176 (fun W S => C.s_seWild W hv1_6)) ?_
    refine p 2 ?_
    refine br v1_6 (fun q2 => ?_) (fun q2 => ?_)
    · replace h := H.t q2 h
      refine o_set 11 (congrArg Value.bool q2) ?_
      refine p 1 ?_
      refine xq rfl (y_load (.int .i64 a0.Region) 0 g0_0 2) ?_
      obtain ⟨v1_11, hv1_11, h⟩ := H.call h
      refine xq rfl (y_call [.int .i64 a0.Region, .int .i64 (-1), .int .i64 9] (.bool v1_11) func45 (fun W S => C.s_l1In W hv1_11)) ?_
      refine p 2 ?_
      refine br v1_11 (fun q3 => ?_) (fun q3 => ?_)
      · replace h := H.t q3 h
        refine o_set 16 (congrArg Value.bool q3) ?_
        refine p 1 ?_
        refine xq rfl (y_load (.string (bs a0.Steps)) 0 g0_0 3) ?_
        refine p 4 ?_
        refine br (decide ((List.length a0.Steps : Int) ≤ 20)) (fun q4 => ?_) (fun q4 => ?_)
        · replace h := H.t q4 h
          refine o_set 22 (congrArg Value.bool q4) ?_
          refine p 1 ?_
          refine xq rfl (y_load (.string (bs a0.Steps)) 0 g0_0 3) ?_
          refine p 1 ?_
          refine xq rfl (y_load (.string (bs a0.Steps)) 0 g0_0 3) ?_
          refine p 1 ?_
          obtain ⟨v1_25, hv1_25, h⟩ := H.call h
          refine xq rfl (y_call [.string (bs a0.Steps), .string (bs ([117, 100, 108, 114, 102, 98, 42] : Str)), .int .i64 (List.length a0.Steps : Int)] (.bool v1_25) func176 (fun W S => C.s_seWild W hv1_25)) ?_
          refine p 2 ?_
          refine br v1_25 (fun q5 => ?_) (fun q5 => ?_)
          · replace h := H.t q5 h
            refine o_set 30 (congrArg Value.bool q5) ?_
            refine p 1 ?_
            refine xq rfl (y_load (.int .i64 a0.Hands) 0 g0_0 4) ?_
            obtain ⟨v1_30, hv1_30, h⟩ := H.call h
            refine xq rfl (y_call [.int .i64 a0.Hands, .int .i64 0, .int .i64 2] (.bool v1_30) func45 (fun W S => C.s_l1In W hv1_30)) ?_
            refine p 2 ?_
            refine rend ?_
            replace h := H.done h
            subst h
            exact ret func114 rfl (vs := [.bool v1_30]) (.tmp (by kernel_rfl) .nil) rfl (fun W S => ⟨rfl, S.below⟩)
          replace h := H.f q5 h
          refine o_set 30 (congrArg Value.bool q5) ?_
          refine p 5 ?_
          refine rend ?_
          replace h := H.done h
          subst h
          exact ret func114 rfl (vs := [.bool false]) (.tmp (by kernel_rfl) .nil) rfl (fun W S => ⟨rfl, S.below⟩)
        replace h := H.f q4 h
        refine o_set 22 (congrArg Value.bool q4) ?_
        refine p 13 ?_
        refine rend ?_
        replace h := H.done h
        subst h
        exact ret func114 rfl (vs := [.bool false]) (.tmp (by kernel_rfl) .nil) rfl (fun W S => ⟨rfl, S.below⟩)
      replace h := H.f q3 h
      refine o_set 16 (congrArg Value.bool q3) ?_
      refine p 19 ?_
      refine rend ?_
      replace h := H.done h
      subst h
      exact ret func114 rfl (vs := [.bool false]) (.tmp (by kernel_rfl) .nil) rfl (fun W S => ⟨rfl, S.below⟩)
    replace h := H.f q2 h
    refine o_set 11 (congrArg Value.bool q2) ?_
    refine p 24 ?_
    refine rend ?_
    replace h := H.done h
    subst h
    exact ret func114 rfl (vs := [.bool false]) (.tmp (by kernel_rfl) .nil) rfl (fun W S => ⟨rfl, S.below⟩)
  replace h := H.f q1 h
  refine o_set 6 (congrArg Value.bool q1) ?_
  refine p 29 ?_
  refine rend ?_
  replace h := H.done h
  subst h
  exact ret func114 rfl (vs := [.bool false]) (.tmp (by kernel_rfl) .nil) rfl (fun W S => ⟨rfl, S.below⟩)
theorem C.s_seAsked {fu : Nat} {a0 : Pattern} {a1 : (List Sign)} {A1 : Option Addr} {k1 : Nat} {r : Bool} (w : World) (h : X.s_seAsked fu a0 a1 = some r) (h1 : RdT nSign w (.slice A1 (List.length a1) k1) a1) : Calls prog 71 #[.agg (ePattern a0).toArray, .slice A1 (List.length a1) k1] w (Ret w (.bool r)) := by
  refine calls (M := no) (args := [.agg (ePattern a0).toArray, .slice A1 (List.length a1) k1]) func71 rfl ?_
  replace h : H (X.s_seAsked fu a0 a1) (fun o => o = r) := H.mk h
  unfold X.s_seAsked at h
  refine c_seq ?_
  refine r_start ?_
  refine xx rfl (x_box (ePattern a0) fun g0_0 => ?_)
  refine p 1 ?_
  refine rend ?_
  refine c_seq ?_
  refine r_start ?_
  refine xq rfl (y_load (.agg (ePattern a0).toArray) 0 g0_0 0) ?_
  obtain ⟨v1_1, hv1_1, h⟩ := H.call h
  refine xq rfl (y_call [.agg (ePattern a0).toArray] (.bool v1_1) func114 (fun W S => C.s_seGood W hv1_1)) ?_
  refine p 1 ?_
  refine br v1_1 (fun q1 => ?_) (fun q1 => ?_)
  · replace h := H.t q1 h
    refine o_set 7 (congrArg Value.bool q1) ?_
    refine p 1 ?_
    obtain ⟨v1_4, hv1_4, h⟩ := H.call h
    refine xq rfl (y_call [.slice A1 (List.length a1) k1] (.bool v1_4) func56 (fun W S => C.s_noList W hv1_4 ((s_arg h1).out W S))) ?_
    refine p 2 ?_
    refine rend ?_
    replace h := H.done h
    subst h
    exact ret func71 rfl (vs := [.bool v1_4]) (.tmp (by kernel_rfl) .nil) rfl (fun W S => ⟨rfl, S.below⟩)
  replace h := H.f q1 h
  refine o_set 7 (congrArg Value.bool q1) ?_
  refine p 4 ?_
  refine rend ?_
  replace h := H.done h
  subst h
  exact ret func71 rfl (vs := [.bool false]) (.tmp (by kernel_rfl) .nil) rfl (fun W S => ⟨rfl, S.below⟩)
theorem C.s_seMissed {fu : Nat} {a0 : Str} {a1 : Str} {r : Int} (w : World) (h : X.s_seMissed fu a0 a1 = some r) : Calls prog 177 #[.string (bs a0), .string (bs a1)] w (Ret w (.int .i64 r)) := by
  refine calls (M := no) (args := [.string (bs a0), .string (bs a1)]) func177 rfl ?_
  replace h : H (X.s_seMissed fu a0 a1) (fun o => o = r) := H.mk h
  unfold X.s_seMissed at h
  refine c_seq ?_
  refine r_start ?_
  refine p 1 ?_
  refine rend ?_
  refine c_seq ?_
  refine r_start ?_
  refine p 1 ?_
  refine rend ?_
  refine c_seq ?_
  refine c_seq ?_
  refine r_start ?_
  refine p 1 ?_
  refine rend ?_
  refine c_block ?_
  refine joinH (X := Int) 0 (H.bnd h) (fun (x : Int) => x) (fun n3 => []) (fun n3 u => (jk u 0 5 (.int .i64 n3 :: (jk u 6 23 [])))) (fun h hj4 => ?_) ?_
  · skip
    refine loopR (X := (Int × Int)) (fun (x : (Int × Int)) => x) (fun ⟨n1, n2⟩ => []) (fun ⟨n1, n2⟩ u => (.string (bs a0) :: .string (bs a1) :: (jk u 2 3 (.int .i64 n1 :: .int .i64 n2 :: (jk u 7 22 []))))) (0, 0) h (by kernel_rfl) (by kernel_rfl) ?_
    intro x u h
    obtain ⟨n1, n2⟩ := x
    refine c_seq ?_
    refine c_seq ?_
    refine r_start ?_
    refine p 4 ?_
    refine rend ?_
    refine c_or (decide (n2 < (List.length a0 : Int))) (fun q5 => ?_) (fun q5 => ?_)
    · replace h := H.t q5 h
      refine c_skip ?_
      refine c_seq ?_
      refine c_block ?_
      refine c_seq ?_
      refine as_start 13 13 ?_
      refine ap 0 2 ?_
      obtain ⟨y5_2, hy5_2, h⟩ := H.call h
      refine aq 2 rfl (y_byte hy5_2) ?_
      refine ap 3 2 ?_
      refine br (y5_2 != 63) (fun q6 => ?_) (fun q6 => ?_)
      · replace h := H.t q6 h
        refine a_set 17 (congrArg Value.bool q6) ?_
        refine ap 5 2 ?_
        refine aq 7 rfl (y_byte hy5_2) ?_
        refine ap 8 2 ?_
        obtain ⟨y5_10, hy5_10, h⟩ := H.call h
        refine aq 10 rfl (y_byte hy5_10) ?_
        refine ap 11 2 ?_
        refine a_done ?_
        refine c_or (y5_2 != y5_10) (fun q7 => ?_) (fun q7 => ?_)
        · replace h := H.t q7 h
          refine r_start ?_
          refine p 3 ?_
          refine rend ?_
          refine c_inb ?_
          refine r_start ?_
          refine p 3 ?_
          refine rend ?_
          replace h := H.inl h
          exact h ((wr (n1 + 1)), (wr (n2 + 1))) _ _ rfl (by kernel_rfl) (by kernel_rfl)
        replace h := H.f q7 h
        refine c_skip ?_
        refine c_inb ?_
        refine r_start ?_
        refine p 3 ?_
        refine rend ?_
        replace h := H.inl h
        exact h (n1, (wr (n2 + 1))) _ _ rfl (by kernel_rfl) (by kernel_rfl)
      replace h := H.f q6 h
      refine a_set 17 (congrArg Value.bool q6) ?_
      refine ap 5 8 ?_
      refine a_done ?_
      refine c_f (by kernel_rfl) ?_
      refine c_skip ?_
      refine c_inb ?_
      refine r_start ?_
      refine p 3 ?_
      refine rend ?_
      replace h := H.inl h
      exact h (n1, (wr (n2 + 1))) _ _ rfl (by kernel_rfl) (by kernel_rfl)
    replace h := H.f q5 h
    refine cx ?_
    replace h := H.inr h
    exact hj4 n1 _ _ h (by kernel_rfl) (by kernel_rfl)
  intro n3 u h
  refine c_seq ?_
  refine r_start ?_
  refine p 2 ?_
  refine rend ?_
  replace h := H.done h
  subst h
  exact ret func177 rfl (vs := [.int .i64 n3]) (.tmp (by kernel_rfl) .nil) rfl (fun W S => ⟨rfl, S.below⟩)
theorem C.s_seShape {fu : Nat} {a0 : Shape} {r : Str} (w : World) (h : X.s_seShape fu a0 = some r) : Calls prog 178 #[.agg (eShape a0).toArray] w (Ret w (.string (bs r))) := by
  refine calls (M := no) (args := [.agg (eShape a0).toArray]) func178 rfl ?_
  replace h : H (X.s_seShape fu a0) (fun o => o = r) := H.mk h
  unfold X.s_seShape at h
  refine c_seq ?_
  refine r_start ?_
  refine xx rfl (x_box (eShape a0) fun g0_0 => ?_)
  refine p 1 ?_
  refine rend ?_
  refine c_seq ?_
  refine r_start ?_
  refine xq rfl (y_load (.agg (eShape a0).toArray) 0 g0_0 0) ?_
  obtain ⟨v1_1, hv1_1, h⟩ := H.call h
  refine xq rfl (y_call [.agg (eShape a0).toArray] (.string (bs v1_1)) func146 (fun W S => C.s_shText W hv1_1)) ?_
  obtain ⟨y1_2, hy1_2, h⟩ := H.call h
  refine xq rfl (y_cut hy1_2) ?_
  refine p 1 ?_
  refine rend ?_
  replace h := H.done h
  subst h
  exact ret func178 rfl (vs := [.string (bs y1_2)]) (.tmp (by kernel_rfl) .nil) rfl (fun W S => ⟨rfl, S.below⟩)
theorem C.s_seHands {a0 : Sign} {r : Int} (w : World) (h : X.s_seHands a0 = some r) : Calls prog 179 #[.agg (eSign a0).toArray] w (Ret w (.int .i64 r)) := by
  refine calls (M := no) (args := [.agg (eSign a0).toArray]) func179 rfl ?_
  replace h : H (X.s_seHands a0) (fun o => o = r) := H.mk h
  unfold X.s_seHands at h
  refine c_seq ?_
  refine r_start ?_
  refine xx rfl (x_box (eSign a0) fun g0_0 => ?_)
  refine p 1 ?_
  refine rend ?_
  refine c_seq ?_
  refine c_seq ?_
  refine r_start ?_
  refine p 1 ?_
  refine xq rfl (y_load (.bool a0.Two) 0 g0_0 13) ?_
  refine rend ?_
  refine c_or a0.Two (fun q1 => ?_) (fun q1 => ?_)
  · replace h := H.t q1 h
    refine c_seq ?_
    refine r_start ?_
    refine p 1 ?_
    refine rend ?_
    replace h := H.done h
    subst h
    exact ret func179 rfl (vs := [.int .i64 2]) (.tmp (by kernel_rfl) .nil) rfl (fun W S => ⟨rfl, S.below⟩)
  replace h := H.f q1 h
  refine c_skip ?_
  refine c_seq ?_
  refine r_start ?_
  refine p 1 ?_
  refine rend ?_
  replace h := H.done h
  subst h
  exact ret func179 rfl (vs := [.int .i64 1]) (.tmp (by kernel_rfl) .nil) rfl (fun W S => ⟨rfl, S.below⟩)
theorem C.s_seSteps {fu : Nat} {a0 : Str} {a1 : Str} {r : Bool} (w : World) (h : X.s_seSteps fu a0 a1 = some r) : Calls prog 180 #[.string (bs a0), .string (bs a1)] w (Ret w (.bool r)) := by
  refine calls (M := no) (args := [.string (bs a0), .string (bs a1)]) func180 rfl ?_
  replace h : H (X.s_seSteps fu a0 a1) (fun o => o = r) := H.mk h
  unfold X.s_seSteps at h
  refine c_seq ?_
  refine r_start ?_
  refine p 1 ?_
  refine rend ?_
  refine c_seq ?_
  refine r_start ?_
  refine p 3 ?_
  obtain ⟨y1_3, hy1_3, h⟩ := H.call h
  refine xx rfl (e_make (el := 4) hy1_3 fun A1_3 k1_3 => ?_)
  refine p 1 ?_
  refine rend ?_
  refine c_seq ?_
  refine r_start ?_
  refine p 1 ?_
  obtain ⟨y2_1, hy2_1, h⟩ := H.call h
  refine xq rfl (y_idx (e := eB) (el := 4) hy2_1 (s_own 0)) ?_
  refine xx rfl (e_stel (e := eB) (b := true) 0 0 ([.bool true]) hy2_1 (by kernel_rfl) ?_)
  refine o_set 5 (sl_set (A := A1_3) (c := k1_3) (l := y1_3) (n := Int.toNat 0) (b := true)) ?_
  refine rend ?_
  refine c_seq ?_
  refine c_seq ?_
  refine r_start ?_
  refine p 1 ?_
  refine rend ?_
  refine c_block ?_
  refine joinH (X := ((List Bool) × Option Addr × Nat)) 0 (H.bnd h) (fun ⟨l5, A6, k7⟩ => l5) (fun ⟨l5, A6, k7⟩ => [rowT eB w.heap.size 4 (.slice A6 (List.length l5) k7) l5]) (fun ⟨l5, A6, k7⟩ u => (jk u 0 1 (.string (bs a1) :: (jk u 2 3 (.slice A6 (List.length l5) k7 :: (jk u 6 77 [])))))) (fun h hj8 => ?_) ?_
  · skip
    refine loopR (X := (Int × (List Bool) × Option Addr × Nat)) (fun ⟨n1, l2, A3, k4⟩ => (n1, l2)) (fun ⟨n1, l2, A3, k4⟩ => [rowT eB w.heap.size 4 (.slice A3 (List.length l2) k4) l2]) (fun ⟨n1, l2, A3, k4⟩ u => (.string (bs a0) :: .string (bs a1) :: (jk u 2 3 (.slice A3 (List.length l2) k4 :: .int .i64 n1 :: (jk u 7 76 []))))) (0, (List.set y1_3 (Int.toNat 0) true), A1_3, k1_3) h (by kernel_rfl) (by kernel_rfl) ?_
    intro x u h
    obtain ⟨n1, l2, A3, k4⟩ := x
    refine c_seq ?_
    refine c_seq ?_
    refine r_start ?_
    refine p 4 ?_
    refine rend ?_
    refine c_or (decide (n1 < (List.length a0 : Int))) (fun q9 => ?_) (fun q9 => ?_)
    · replace h := H.t q9 h
      refine c_skip ?_
      refine c_seq ?_
      refine c_block ?_
      refine c_seq ?_
      refine r_start ?_
      refine p 3 ?_
      obtain ⟨y6_3, hy6_3, h⟩ := H.call h
      refine xx rfl (e_make (el := 4) hy6_3 fun A6_3 k6_3 => ?_)
      refine p 1 ?_
      refine rend ?_
      refine c_seq ?_
      refine c_seq ?_
      refine r_start ?_
      refine p 3 ?_
      refine rend ?_
      refine c_block ?_
      refine joinH (X := ((List Bool) × Option Addr × Nat)) 2 (H.bnd h) (fun ⟨l13, A14, k15⟩ => l13) (fun ⟨l13, A14, k15⟩ => [rowT eB w.heap.size 4 (.slice A3 (List.length l2) k4) l2, rowT eB w.heap.size 4 (.slice A14 (List.length l13) k15) l13]) (fun ⟨l13, A14, k15⟩ u => (.string (bs a0) :: .string (bs a1) :: (jk u 2 4 (.int .i64 n1 :: .slice A14 (List.length l13) k15 :: (jk u 8 75 []))))) (fun h hj16 => ?_) ?_
      · skip
        refine rangeR (X := ((List Bool) × Option Addr × Nat)) (s_own 0) (fun ⟨l10, A11, k12⟩ => l10) (fun ⟨l10, A11, k12⟩ => [rowT eB w.heap.size 4 (.slice A3 (List.length l2) k4) l2, rowT eB w.heap.size 4 (.slice A11 (List.length l10) k12) l10]) (fun (j17 : Nat) ⟨l10, A11, k12⟩ u => (.string (bs a0) :: .string (bs a1) :: (jk u 2 4 (.int .i64 n1 :: .slice A11 (List.length l10) k12 :: (jk u 8 19 (.slice A3 (List.length l2) k4 :: .int .i64 (List.length l2 : Int) :: .int .i64 (j17 : Int) :: (jk u 30 53 []))))))) (y6_3, A6_3, k6_3) h (by kernel_rfl) (by kernel_rfl) ?_ ?_
        · intro j17 x u x18 q19 hg20 hw21 h
          obtain ⟨l10, A11, k12⟩ := x
          refine c_seq ?_
          refine r_start ?_
          refine p 1 ?_
          refine rend ?_
          refine c_seq ?_
          refine c_yes q19 ?_
          refine c_skip ?_
          refine c_seq ?_
          refine c_block ?_
          refine c_seq ?_
          refine r_start ?_
          refine p 1 ?_
          refine xq rfl (y_idx (e := eB) (el := 4) hg20 (s_own 0)) ?_
          refine xq rfl (y_el (e := eB) 0 (.bool x18) hg20 (s_own 0)) ?_
          refine p 2 ?_
          refine rend ?_
          refine c_block ?_
          refine c_seq ?_
          refine r_start ?_
          refine p 3 ?_
          refine rend ?_
          refine c_or (!x18) (fun q22 => ?_) (fun q22 => ?_)
          · replace h := H.t q22 h
            refine c_skip ?_
            refine c_inb ?_
            refine c_inb ?_
            refine r_start ?_
            refine p 2 ?_
            refine rend ?_
            refine c_set 29 (ci hw21) ?_
            replace h := H.inl h
            exact h (l10, A11, k12) _ _ rfl (by kernel_rfl) (by kernel_rfl)
          replace h := H.f q22 h
          refine c_seq ?_
          refine r_start ?_
          refine p 2 ?_
          obtain ⟨y11_2, hy11_2, h⟩ := H.call h
          refine xq rfl (y_byte hy11_2) ?_
          refine p 2 ?_
          refine rend ?_
          refine c_or (y11_2 == 42) (fun q23 => ?_) (fun q23 => ?_)
          · replace h := H.t q23 h
            refine c_seq ?_
            refine r_start ?_
            refine p 2 ?_
            refine rend ?_
            refine frg (fun u => (.string (bs a0) :: .string (bs a1) :: (jk u 2 4 (.int .i64 n1 :: .slice A11 (List.length l10) k12 :: (jk u 8 2 (.int .i64 (j17 : Int) :: (jk u 11 16 (.slice A3 (List.length l2) k4 :: .int .i64 (List.length l2 : Int) :: .int .i64 (j17 : Int) :: (jk u 30 53 []))))))))) (by kernel_rfl) fun u => ?_
            refine keep 2 (its' := [rowT eB w.heap.size 4 (.slice A3 (List.length l2) k4) l2, rowT eB w.heap.size 4 (.slice A11 (List.length l10) k12) l10]) (by kernel_rfl) ?_
            refine c_block ?_
            refine joinH (X := ((List Bool) × Option Addr × Nat)) 5 (H.bnd h) (fun ⟨l28, A29, k30⟩ => l28) (fun ⟨l28, A29, k30⟩ => [rowT eB w.heap.size 4 (.slice A3 (List.length l2) k4) l2, rowT eB w.heap.size 4 (.slice A29 (List.length l28) k30) l28]) (fun ⟨l28, A29, k30⟩ u => (.string (bs a0) :: .string (bs a1) :: (jk u 2 4 (.int .i64 n1 :: .slice A29 (List.length l28) k30 :: (jk u 8 19 (.slice A3 (List.length l2) k4 :: .int .i64 (List.length l2 : Int) :: .int .i64 (j17 : Int) :: (jk u 30 53 []))))))) (fun h hj31 => ?_) ?_
            · skip
              refine loopR (X := (Int × (List Bool) × Option Addr × Nat)) (fun ⟨n24, l25, A26, k27⟩ => (n24, l25)) (fun ⟨n24, l25, A26, k27⟩ => [rowT eB w.heap.size 4 (.slice A3 (List.length l2) k4) l2, rowT eB w.heap.size 4 (.slice A26 (List.length l25) k27) l25]) (fun ⟨n24, l25, A26, k27⟩ u => (.string (bs a0) :: .string (bs a1) :: (jk u 2 4 (.int .i64 n1 :: .slice A26 (List.length l25) k27 :: (jk u 8 2 (.int .i64 n24 :: (jk u 11 16 (.slice A3 (List.length l2) k4 :: .int .i64 (List.length l2 : Int) :: .int .i64 (j17 : Int) :: (jk u 30 53 []))))))))) ((j17 : Int), l10, A11, k12) h (by kernel_rfl) (by kernel_rfl) ?_
              intro x u h
              obtain ⟨n24, l25, A26, k27⟩ := x
              refine c_seq ?_
              refine c_seq ?_
              refine r_start ?_
              refine p 4 ?_
              refine rend ?_
              refine c_or (decide (n24 ≤ (List.length a1 : Int))) (fun q32 => ?_) (fun q32 => ?_)
              · replace h := H.t q32 h
                refine c_skip ?_
                refine c_seq ?_
                refine c_block ?_
                refine r_start ?_
                refine p 2 ?_
                obtain ⟨y15_2, hy15_2, h⟩ := H.call h
                refine xq rfl (y_idx (e := eB) (el := 4) hy15_2 (s_own 1)) ?_
                refine xx rfl (e_stel (e := eB) (b := true) 1 0 ([.bool true]) hy15_2 (by kernel_rfl) ?_)
                refine o_set 7 (sl_set (A := A26) (c := k27) (l := l25) (n := Int.toNat n24) (b := true)) ?_
                refine rend ?_
                refine c_inb ?_
                refine r_start ?_
                refine p 3 ?_
                refine rend ?_
                replace h := H.inl h
                exact h ((wr (n24 + 1)), (List.set l25 (Int.toNat n24) true), A26, k27) _ _ rfl (by kernel_rfl) (by kernel_rfl)
              replace h := H.f q32 h
              refine cx ?_
              replace h := H.inr h
              exact hj31 (l25, A26, k27) _ _ h (by kernel_rfl) (by kernel_rfl)
            intro x u h
            obtain ⟨l28, A29, k30⟩ := x
            refine c_inb ?_
            refine c_inb ?_
            refine r_start ?_
            refine p 2 ?_
            refine rend ?_
            refine c_set 29 (ci hw21) ?_
            replace h := H.inl h
            exact h (l28, A29, k30) _ _ rfl (by kernel_rfl) (by kernel_rfl)
          replace h := H.f q23 h
          refine c_seq ?_
          refine as_start 20 20 ?_
          refine ap 0 5 ?_
          refine br (decide ((j17 : Int) < (List.length a1 : Int))) (fun q33 => ?_) (fun q33 => ?_)
          · replace h := H.t q33 h
            refine a_set 57 (congrArg Value.bool q33) ?_
            refine ap 5 2 ?_
            refine aq 7 rfl (y_byte hy11_2) ?_
            refine ap 8 2 ?_
            refine br (y11_2 == 63) (fun q34 => ?_) (fun q34 => ?_)
            · replace h := H.t q34 h
              refine a_set 62 (congrArg Value.bool q34) ?_
              refine ap 10 10 ?_
              refine a_done ?_
              refine c_t (by kernel_rfl) ?_
              refine r_start ?_
              refine p 3 ?_
              obtain ⟨y17_3, hy17_3, h⟩ := H.call h
              refine xq rfl (y_idx (e := eB) (el := 4) hy17_3 (s_own 1)) ?_
              refine xx rfl (e_stel (e := eB) (b := true) 1 0 ([.bool true]) hy17_3 (by kernel_rfl) ?_)
              refine o_set 7 (sl_set (A := A11) (c := k12) (l := l10) (n := Int.toNat (wr ((j17 : Int) + 1))) (b := true)) ?_
              refine rend ?_
              refine frg (fun u => (.string (bs a0) :: .string (bs a1) :: (jk u 2 4 (.int .i64 n1 :: .slice A11 (List.length (List.set l10 (Int.toNat (wr ((j17 : Int) + 1))) true)) k12 :: (jk u 8 19 (.slice A3 (List.length l2) k4 :: .int .i64 (List.length l2 : Int) :: .int .i64 (j17 : Int) :: (jk u 30 53 []))))))) (by kernel_rfl) fun u => ?_
              refine keep 2 (its' := [rowT eB w.heap.size 4 (.slice A3 (List.length l2) k4) l2, rowT eB w.heap.size 4 (.slice A11 (List.length (List.set l10 (Int.toNat (wr ((j17 : Int) + 1))) true)) k12) (List.set l10 (Int.toNat (wr ((j17 : Int) + 1))) true)]) (by kernel_rfl) ?_
              refine c_inb ?_
              refine c_inb ?_
              refine r_start ?_
              refine p 2 ?_
              refine rend ?_
              refine c_set 29 (ci hw21) ?_
              replace h := H.inl h
              exact h ((List.set l10 (Int.toNat (wr ((j17 : Int) + 1))) true), A11, k12) _ _ rfl (by kernel_rfl) (by kernel_rfl)
            replace h := H.f q34 h
            refine a_set 62 (congrArg Value.bool q34) ?_
            refine ap 10 2 ?_
            refine aq 12 rfl (y_byte hy11_2) ?_
            refine ap 13 2 ?_
            obtain ⟨y16_15, hy16_15, h⟩ := H.call h
            refine aq 15 rfl (y_byte hy16_15) ?_
            refine ap 16 4 ?_
            refine a_done ?_
            refine c_or (y11_2 == y16_15) (fun q35 => ?_) (fun q35 => ?_)
            · replace h := H.t q35 h
              refine r_start ?_
              refine p 3 ?_
              obtain ⟨y17_3, hy17_3, h⟩ := H.call h
              refine xq rfl (y_idx (e := eB) (el := 4) hy17_3 (s_own 1)) ?_
              refine xx rfl (e_stel (e := eB) (b := true) 1 0 ([.bool true]) hy17_3 (by kernel_rfl) ?_)
              refine o_set 7 (sl_set (A := A11) (c := k12) (l := l10) (n := Int.toNat (wr ((j17 : Int) + 1))) (b := true)) ?_
              refine rend ?_
              refine frg (fun u => (.string (bs a0) :: .string (bs a1) :: (jk u 2 4 (.int .i64 n1 :: .slice A11 (List.length (List.set l10 (Int.toNat (wr ((j17 : Int) + 1))) true)) k12 :: (jk u 8 19 (.slice A3 (List.length l2) k4 :: .int .i64 (List.length l2 : Int) :: .int .i64 (j17 : Int) :: (jk u 30 53 []))))))) (by kernel_rfl) fun u => ?_
              refine keep 2 (its' := [rowT eB w.heap.size 4 (.slice A3 (List.length l2) k4) l2, rowT eB w.heap.size 4 (.slice A11 (List.length (List.set l10 (Int.toNat (wr ((j17 : Int) + 1))) true)) k12) (List.set l10 (Int.toNat (wr ((j17 : Int) + 1))) true)]) (by kernel_rfl) ?_
              refine c_inb ?_
              refine c_inb ?_
              refine r_start ?_
              refine p 2 ?_
              refine rend ?_
              refine c_set 29 (ci hw21) ?_
              replace h := H.inl h
              exact h ((List.set l10 (Int.toNat (wr ((j17 : Int) + 1))) true), A11, k12) _ _ rfl (by kernel_rfl) (by kernel_rfl)
            replace h := H.f q35 h
            refine c_skip ?_
            refine c_inb ?_
            refine c_inb ?_
            refine r_start ?_
            refine p 2 ?_
            refine rend ?_
            refine c_set 29 (ci hw21) ?_
            replace h := H.inl h
            exact h (l10, A11, k12) _ _ rfl (by kernel_rfl) (by kernel_rfl)
          replace h := H.f q33 h
          refine a_set 57 (congrArg Value.bool q33) ?_
          refine ap 5 15 ?_
          refine a_done ?_
          refine c_f (by kernel_rfl) ?_
          refine c_skip ?_
          refine c_inb ?_
          refine c_inb ?_
          refine r_start ?_
          refine p 2 ?_
          refine rend ?_
          refine c_set 29 (ci hw21) ?_
          replace h := H.inl h
          exact h (l10, A11, k12) _ _ rfl (by kernel_rfl) (by kernel_rfl)
        · intro x u q19 h
          obtain ⟨l10, A11, k12⟩ := x
          refine c_seq ?_
          refine r_start ?_
          refine p 1 ?_
          refine rend ?_
          refine c_seq ?_
          refine c_no q19 ?_
          refine cx ?_
          replace h := H.done h
          exact hj16 (l10, A11, k12) _ _ h (by kernel_rfl) (by kernel_rfl)
      intro x u h
      obtain ⟨l13, A14, k15⟩ := x
      refine r_start ?_
      refine p 2 ?_
      refine rend ?_
      refine c_inb ?_
      refine r_start ?_
      refine p 3 ?_
      refine rend ?_
      refine pick [1] [rowT eB w.heap.size 4 (.slice A14 (List.length l13) k15) l13] ?_
      replace h := H.inl h
      exact h ((wr (n1 + 1)), l13, A14, k15) _ _ rfl (by kernel_rfl) (by kernel_rfl)
    replace h := H.f q9 h
    refine cx ?_
    replace h := H.inr h
    exact hj8 (l2, A3, k4) _ _ h (by kernel_rfl) (by kernel_rfl)
  intro x u h
  obtain ⟨l5, A6, k7⟩ := x
  refine c_seq ?_
  refine r_start ?_
  refine p 3 ?_
  obtain ⟨y20_3, hy20_3, h⟩ := H.call h
  refine xq rfl (y_idx (e := eB) (el := 4) hy20_3 (s_own 0)) ?_
  refine xq rfl (y_el (e := eB) 0 (.bool y20_3) hy20_3 (s_own 0)) ?_
  refine p 1 ?_
  refine rend ?_
  replace h := H.done h
  subst h
  exact ret func180 rfl (vs := [.bool y20_3]) (.tmp (by kernel_rfl) .nil) rfl (fun W S => ⟨rfl, S.below⟩)
theorem C.s_seCost {fu : Nat} {a0 : Pattern} {a1 : Sign} {r : Int} (w : World) (h : X.s_seCost fu a0 a1 = some r) : Calls prog 115 #[.agg (ePattern a0).toArray, .agg (eSign a1).toArray] w (Ret w (.int .i64 r)) := by
  refine calls (M := no) (args := [.agg (ePattern a0).toArray, .agg (eSign a1).toArray]) func115 rfl ?_
  replace h : H (X.s_seCost fu a0 a1) (fun o => o = r) := H.mk h
  unfold X.s_seCost at h
  refine c_seq ?_
  refine r_start ?_
  refine xx rfl (x_box (ePattern a0) fun g0_0 => ?_)
  refine xx rfl (x_box (eSign a1) fun g0_1 => ?_)
  refine p 1 ?_
  refine rend ?_
  refine c_seq ?_
  refine r_start ?_
  refine xq rfl (y_load (.agg (eSign a1).toArray) 1 g0_1 0) ?_
  obtain ⟨v1_1, hv1_1, h⟩ := H.call h
  refine xq rfl (y_call [.agg (eSign a1).toArray] (.agg (eSign v1_1).toArray) func58 (fun W S => C.s_noForm W hv1_1)) ?_
  refine xx rfl (x_new (eSign zSign) fun g1_2 => ?_)
  refine xx rfl (x_sto 2 g1_2 0 (eSign v1_1) ?_)
  refine rend ?_
  refine c_seq ?_
  refine as_start 16 16 ?_
  refine ap 0 1 ?_
  refine aq 1 rfl (y_load (.string (bs a0.Shape)) 0 g0_0 0) ?_
  refine ap 2 2 ?_
  refine aq 4 rfl (y_load (.agg (eShape v1_1.Main.Shape).toArray) 2 g1_2 0) ?_
  obtain ⟨v2_5, hv2_5, h⟩ := H.call h
  refine aq 5 rfl (y_call [.agg (eShape v1_1.Main.Shape).toArray] (.string (bs v2_5)) func178 (fun W S => C.s_seShape W hv2_5)) ?_
  obtain ⟨v2_6, hv2_6, h⟩ := H.call h
  refine aq 6 rfl (y_call [.string (bs a0.Shape), .string (bs v2_5)] (.int .i64 v2_6) func177 (fun W S => C.s_seMissed W hv2_6)) ?_
  refine ap 7 1 ?_
  refine aq 8 rfl (y_load (.string (bs a0.Orient)) 0 g0_0 1) ?_
  refine ap 9 2 ?_
  refine aq 11 rfl (y_load (.agg (eOrient v1_1.Main.Orient).toArray) 2 g1_2 6) ?_
  obtain ⟨v2_12, hv2_12, h⟩ := H.call h
  refine aq 12 rfl (y_call [.agg (eOrient v1_1.Main.Orient).toArray] (.string (bs v2_12)) func147 (fun W S => C.s_orText W hv2_12)) ?_
  obtain ⟨v2_13, hv2_13, h⟩ := H.call h
  refine aq 13 rfl (y_call [.string (bs a0.Orient), .string (bs v2_12)] (.int .i64 v2_13) func177 (fun W S => C.s_seMissed W hv2_13)) ?_
  refine ap 14 2 ?_
  refine a_done ?_
  refine c_seq ?_
  refine c_seq ?_
  refine r_start ?_
  refine p 1 ?_
  refine xq rfl (y_load (.int .i64 a0.Region) 0 g0_0 2) ?_
  refine p 2 ?_
  refine br (decide (a0.Region ≥ 0)) (fun q1 => ?_) (fun q1 => ?_)
  · replace h := H.t q1 h
    refine o_set 27 (congrArg Value.bool q1) ?_
    refine p 1 ?_
    refine xq rfl (y_load (.int .i64 a0.Region) 0 g0_0 2) ?_
    refine p 3 ?_
    refine xq rfl (y_load (.int .i64 v1_1.Main.Place.Region) 2 g1_2 8) ?_
    refine p 2 ?_
    refine rend ?_
    refine c_or (a0.Region != v1_1.Main.Place.Region) (fun q2 => ?_) (fun q2 => ?_)
    · replace h := H.t q2 h
      refine r_start ?_
      refine p 3 ?_
      refine rend ?_
      refine c_seq ?_
      refine c_seq ?_
      refine as_start 10 10 ?_
      refine ap 0 1 ?_
      refine aq 1 rfl (y_load (.int .i64 a0.Hands) 0 g0_0 4) ?_
      refine ap 2 2 ?_
      refine br (decide (a0.Hands > 0)) (fun q3 => ?_) (fun q3 => ?_)
      · replace h := H.t q3 h
        refine a_set 41 (congrArg Value.bool q3) ?_
        refine ap 4 1 ?_
        refine aq 5 rfl (y_load (.int .i64 a0.Hands) 0 g0_0 4) ?_
        refine aq 6 rfl (y_load (.agg (eSign v1_1).toArray) 2 g1_2 0) ?_
        obtain ⟨v5_7, hv5_7, h⟩ := H.call h
        refine aq 7 rfl (y_call [.agg (eSign v1_1).toArray] (.int .i64 v5_7) func179 (fun W S => C.s_seHands W hv5_7)) ?_
        refine ap 8 2 ?_
        refine a_done ?_
        refine c_or (a0.Hands != v5_7) (fun q4 => ?_) (fun q4 => ?_)
        · replace h := H.t q4 h
          refine r_start ?_
          refine p 3 ?_
          refine rend ?_
          refine c_seq ?_
          refine c_seq ?_
          refine as_start 8 8 ?_
          refine ap 0 1 ?_
          refine aq 1 rfl (y_load (.string (bs a0.Steps)) 0 g0_0 3) ?_
          refine ap 2 2 ?_
          refine aq 4 rfl (y_load (.agg (eMove v1_1.Main.Move).toArray) 2 g1_2 11) ?_
          obtain ⟨v7_5, hv7_5, h⟩ := H.call h
          refine aq 5 rfl (y_call [.agg (eMove v1_1.Main.Move).toArray] (.string (bs v7_5)) func126 (fun W S => C.s_mvAll W hv7_5)) ?_
          obtain ⟨v7_6, hv7_6, h⟩ := H.call h
          refine aq 6 rfl (y_call [.string (bs a0.Steps), .string (bs v7_5)] (.bool v7_6) func180 (fun W S => C.s_seSteps W hv7_6)) ?_
          refine ap 7 1 ?_
          refine a_done ?_
          refine c_or (!v7_6) (fun q5 => ?_) (fun q5 => ?_)
          · replace h := H.t q5 h
            refine r_start ?_
            refine p 3 ?_
            refine rend ?_
            refine c_seq ?_
            refine r_start ?_
            refine p 2 ?_
            refine rend ?_
            replace h := H.done h
            subst h
            exact ret func115 rfl (vs := [.int .i64 (wr ((wr ((wr ((wr (v2_6 + v2_13)) + 2)) + 2)) + 3))]) (.tmp (by kernel_rfl) .nil) rfl (fun W S => ⟨rfl, S.below⟩)
          replace h := H.f q5 h
          refine c_skip ?_
          refine c_seq ?_
          refine r_start ?_
          refine p 2 ?_
          refine rend ?_
          replace h := H.done h
          subst h
          exact ret func115 rfl (vs := [.int .i64 (wr ((wr ((wr (v2_6 + v2_13)) + 2)) + 2))]) (.tmp (by kernel_rfl) .nil) rfl (fun W S => ⟨rfl, S.below⟩)
        replace h := H.f q4 h
        refine c_skip ?_
        refine c_seq ?_
        refine c_seq ?_
        refine as_start 8 8 ?_
        refine ap 0 1 ?_
        refine aq 1 rfl (y_load (.string (bs a0.Steps)) 0 g0_0 3) ?_
        refine ap 2 2 ?_
        refine aq 4 rfl (y_load (.agg (eMove v1_1.Main.Move).toArray) 2 g1_2 11) ?_
        obtain ⟨v7_5, hv7_5, h⟩ := H.call h
        refine aq 5 rfl (y_call [.agg (eMove v1_1.Main.Move).toArray] (.string (bs v7_5)) func126 (fun W S => C.s_mvAll W hv7_5)) ?_
        obtain ⟨v7_6, hv7_6, h⟩ := H.call h
        refine aq 6 rfl (y_call [.string (bs a0.Steps), .string (bs v7_5)] (.bool v7_6) func180 (fun W S => C.s_seSteps W hv7_6)) ?_
        refine ap 7 1 ?_
        refine a_done ?_
        refine c_or (!v7_6) (fun q6 => ?_) (fun q6 => ?_)
        · replace h := H.t q6 h
          refine r_start ?_
          refine p 3 ?_
          refine rend ?_
          refine c_seq ?_
          refine r_start ?_
          refine p 2 ?_
          refine rend ?_
          replace h := H.done h
          subst h
          exact ret func115 rfl (vs := [.int .i64 (wr ((wr ((wr (v2_6 + v2_13)) + 2)) + 3))]) (.tmp (by kernel_rfl) .nil) rfl (fun W S => ⟨rfl, S.below⟩)
        replace h := H.f q6 h
        refine c_skip ?_
        refine c_seq ?_
        refine r_start ?_
        refine p 2 ?_
        refine rend ?_
        replace h := H.done h
        subst h
        exact ret func115 rfl (vs := [.int .i64 (wr ((wr (v2_6 + v2_13)) + 2))]) (.tmp (by kernel_rfl) .nil) rfl (fun W S => ⟨rfl, S.below⟩)
      replace h := H.f q3 h
      refine a_set 41 (congrArg Value.bool q3) ?_
      refine ap 4 6 ?_
      refine a_done ?_
      refine c_f (by kernel_rfl) ?_
      refine c_skip ?_
      refine c_seq ?_
      refine c_seq ?_
      refine as_start 8 8 ?_
      refine ap 0 1 ?_
      refine aq 1 rfl (y_load (.string (bs a0.Steps)) 0 g0_0 3) ?_
      refine ap 2 2 ?_
      refine aq 4 rfl (y_load (.agg (eMove v1_1.Main.Move).toArray) 2 g1_2 11) ?_
      obtain ⟨v7_5, hv7_5, h⟩ := H.call h
      refine aq 5 rfl (y_call [.agg (eMove v1_1.Main.Move).toArray] (.string (bs v7_5)) func126 (fun W S => C.s_mvAll W hv7_5)) ?_
      obtain ⟨v7_6, hv7_6, h⟩ := H.call h
      refine aq 6 rfl (y_call [.string (bs a0.Steps), .string (bs v7_5)] (.bool v7_6) func180 (fun W S => C.s_seSteps W hv7_6)) ?_
      refine ap 7 1 ?_
      refine a_done ?_
      refine c_or (!v7_6) (fun q7 => ?_) (fun q7 => ?_)
      · replace h := H.t q7 h
        refine r_start ?_
        refine p 3 ?_
        refine rend ?_
        refine c_seq ?_
        refine r_start ?_
        refine p 2 ?_
        refine rend ?_
        replace h := H.done h
        subst h
        exact ret func115 rfl (vs := [.int .i64 (wr ((wr ((wr (v2_6 + v2_13)) + 2)) + 3))]) (.tmp (by kernel_rfl) .nil) rfl (fun W S => ⟨rfl, S.below⟩)
      replace h := H.f q7 h
      refine c_skip ?_
      refine c_seq ?_
      refine r_start ?_
      refine p 2 ?_
      refine rend ?_
      replace h := H.done h
      subst h
      exact ret func115 rfl (vs := [.int .i64 (wr ((wr (v2_6 + v2_13)) + 2))]) (.tmp (by kernel_rfl) .nil) rfl (fun W S => ⟨rfl, S.below⟩)
    replace h := H.f q2 h
    refine c_skip ?_
    refine c_seq ?_
    refine c_seq ?_
    refine as_start 10 10 ?_
    refine ap 0 1 ?_
    refine aq 1 rfl (y_load (.int .i64 a0.Hands) 0 g0_0 4) ?_
    refine ap 2 2 ?_
    refine br (decide (a0.Hands > 0)) (fun q8 => ?_) (fun q8 => ?_)
    · replace h := H.t q8 h
      refine a_set 41 (congrArg Value.bool q8) ?_
      refine ap 4 1 ?_
      refine aq 5 rfl (y_load (.int .i64 a0.Hands) 0 g0_0 4) ?_
      refine aq 6 rfl (y_load (.agg (eSign v1_1).toArray) 2 g1_2 0) ?_
      obtain ⟨v5_7, hv5_7, h⟩ := H.call h
      refine aq 7 rfl (y_call [.agg (eSign v1_1).toArray] (.int .i64 v5_7) func179 (fun W S => C.s_seHands W hv5_7)) ?_
      refine ap 8 2 ?_
      refine a_done ?_
      refine c_or (a0.Hands != v5_7) (fun q9 => ?_) (fun q9 => ?_)
      · replace h := H.t q9 h
        refine r_start ?_
        refine p 3 ?_
        refine rend ?_
        refine c_seq ?_
        refine c_seq ?_
        refine as_start 8 8 ?_
        refine ap 0 1 ?_
        refine aq 1 rfl (y_load (.string (bs a0.Steps)) 0 g0_0 3) ?_
        refine ap 2 2 ?_
        refine aq 4 rfl (y_load (.agg (eMove v1_1.Main.Move).toArray) 2 g1_2 11) ?_
        obtain ⟨v7_5, hv7_5, h⟩ := H.call h
        refine aq 5 rfl (y_call [.agg (eMove v1_1.Main.Move).toArray] (.string (bs v7_5)) func126 (fun W S => C.s_mvAll W hv7_5)) ?_
        obtain ⟨v7_6, hv7_6, h⟩ := H.call h
        refine aq 6 rfl (y_call [.string (bs a0.Steps), .string (bs v7_5)] (.bool v7_6) func180 (fun W S => C.s_seSteps W hv7_6)) ?_
        refine ap 7 1 ?_
        refine a_done ?_
        refine c_or (!v7_6) (fun q10 => ?_) (fun q10 => ?_)
        · replace h := H.t q10 h
          refine r_start ?_
          refine p 3 ?_
          refine rend ?_
          refine c_seq ?_
          refine r_start ?_
          refine p 2 ?_
          refine rend ?_
          replace h := H.done h
          subst h
          exact ret func115 rfl (vs := [.int .i64 (wr ((wr ((wr (v2_6 + v2_13)) + 2)) + 3))]) (.tmp (by kernel_rfl) .nil) rfl (fun W S => ⟨rfl, S.below⟩)
        replace h := H.f q10 h
        refine c_skip ?_
        refine c_seq ?_
        refine r_start ?_
        refine p 2 ?_
        refine rend ?_
        replace h := H.done h
        subst h
        exact ret func115 rfl (vs := [.int .i64 (wr ((wr (v2_6 + v2_13)) + 2))]) (.tmp (by kernel_rfl) .nil) rfl (fun W S => ⟨rfl, S.below⟩)
      replace h := H.f q9 h
      refine c_skip ?_
      refine c_seq ?_
      refine c_seq ?_
      refine as_start 8 8 ?_
      refine ap 0 1 ?_
      refine aq 1 rfl (y_load (.string (bs a0.Steps)) 0 g0_0 3) ?_
      refine ap 2 2 ?_
      refine aq 4 rfl (y_load (.agg (eMove v1_1.Main.Move).toArray) 2 g1_2 11) ?_
      obtain ⟨v7_5, hv7_5, h⟩ := H.call h
      refine aq 5 rfl (y_call [.agg (eMove v1_1.Main.Move).toArray] (.string (bs v7_5)) func126 (fun W S => C.s_mvAll W hv7_5)) ?_
      obtain ⟨v7_6, hv7_6, h⟩ := H.call h
      refine aq 6 rfl (y_call [.string (bs a0.Steps), .string (bs v7_5)] (.bool v7_6) func180 (fun W S => C.s_seSteps W hv7_6)) ?_
      refine ap 7 1 ?_
      refine a_done ?_
      refine c_or (!v7_6) (fun q11 => ?_) (fun q11 => ?_)
      · replace h := H.t q11 h
        refine r_start ?_
        refine p 3 ?_
        refine rend ?_
        refine c_seq ?_
        refine r_start ?_
        refine p 2 ?_
        refine rend ?_
        replace h := H.done h
        subst h
        exact ret func115 rfl (vs := [.int .i64 (wr ((wr (v2_6 + v2_13)) + 3))]) (.tmp (by kernel_rfl) .nil) rfl (fun W S => ⟨rfl, S.below⟩)
      replace h := H.f q11 h
      refine c_skip ?_
      refine c_seq ?_
      refine r_start ?_
      refine p 2 ?_
      refine rend ?_
      replace h := H.done h
      subst h
      exact ret func115 rfl (vs := [.int .i64 (wr (v2_6 + v2_13))]) (.tmp (by kernel_rfl) .nil) rfl (fun W S => ⟨rfl, S.below⟩)
    replace h := H.f q8 h
    refine a_set 41 (congrArg Value.bool q8) ?_
    refine ap 4 6 ?_
    refine a_done ?_
    refine c_f (by kernel_rfl) ?_
    refine c_skip ?_
    refine c_seq ?_
    refine c_seq ?_
    refine as_start 8 8 ?_
    refine ap 0 1 ?_
    refine aq 1 rfl (y_load (.string (bs a0.Steps)) 0 g0_0 3) ?_
    refine ap 2 2 ?_
    refine aq 4 rfl (y_load (.agg (eMove v1_1.Main.Move).toArray) 2 g1_2 11) ?_
    obtain ⟨v7_5, hv7_5, h⟩ := H.call h
    refine aq 5 rfl (y_call [.agg (eMove v1_1.Main.Move).toArray] (.string (bs v7_5)) func126 (fun W S => C.s_mvAll W hv7_5)) ?_
    obtain ⟨v7_6, hv7_6, h⟩ := H.call h
    refine aq 6 rfl (y_call [.string (bs a0.Steps), .string (bs v7_5)] (.bool v7_6) func180 (fun W S => C.s_seSteps W hv7_6)) ?_
    refine ap 7 1 ?_
    refine a_done ?_
    refine c_or (!v7_6) (fun q12 => ?_) (fun q12 => ?_)
    · replace h := H.t q12 h
      refine r_start ?_
      refine p 3 ?_
      refine rend ?_
      refine c_seq ?_
      refine r_start ?_
      refine p 2 ?_
      refine rend ?_
      replace h := H.done h
      subst h
      exact ret func115 rfl (vs := [.int .i64 (wr ((wr (v2_6 + v2_13)) + 3))]) (.tmp (by kernel_rfl) .nil) rfl (fun W S => ⟨rfl, S.below⟩)
    replace h := H.f q12 h
    refine c_skip ?_
    refine c_seq ?_
    refine r_start ?_
    refine p 2 ?_
    refine rend ?_
    replace h := H.done h
    subst h
    exact ret func115 rfl (vs := [.int .i64 (wr (v2_6 + v2_13))]) (.tmp (by kernel_rfl) .nil) rfl (fun W S => ⟨rfl, S.below⟩)
  replace h := H.f q1 h
  refine o_set 27 (congrArg Value.bool q1) ?_
  refine p 8 ?_
  refine rend ?_
  refine c_f (by kernel_rfl) ?_
  refine c_skip ?_
  refine c_seq ?_
  refine c_seq ?_
  refine as_start 10 10 ?_
  refine ap 0 1 ?_
  refine aq 1 rfl (y_load (.int .i64 a0.Hands) 0 g0_0 4) ?_
  refine ap 2 2 ?_
  refine br (decide (a0.Hands > 0)) (fun q13 => ?_) (fun q13 => ?_)
  · replace h := H.t q13 h
    refine a_set 41 (congrArg Value.bool q13) ?_
    refine ap 4 1 ?_
    refine aq 5 rfl (y_load (.int .i64 a0.Hands) 0 g0_0 4) ?_
    refine aq 6 rfl (y_load (.agg (eSign v1_1).toArray) 2 g1_2 0) ?_
    obtain ⟨v5_7, hv5_7, h⟩ := H.call h
    refine aq 7 rfl (y_call [.agg (eSign v1_1).toArray] (.int .i64 v5_7) func179 (fun W S => C.s_seHands W hv5_7)) ?_
    refine ap 8 2 ?_
    refine a_done ?_
    refine c_or (a0.Hands != v5_7) (fun q14 => ?_) (fun q14 => ?_)
    · replace h := H.t q14 h
      refine r_start ?_
      refine p 3 ?_
      refine rend ?_
      refine c_seq ?_
      refine c_seq ?_
      refine as_start 8 8 ?_
      refine ap 0 1 ?_
      refine aq 1 rfl (y_load (.string (bs a0.Steps)) 0 g0_0 3) ?_
      refine ap 2 2 ?_
      refine aq 4 rfl (y_load (.agg (eMove v1_1.Main.Move).toArray) 2 g1_2 11) ?_
      obtain ⟨v7_5, hv7_5, h⟩ := H.call h
      refine aq 5 rfl (y_call [.agg (eMove v1_1.Main.Move).toArray] (.string (bs v7_5)) func126 (fun W S => C.s_mvAll W hv7_5)) ?_
      obtain ⟨v7_6, hv7_6, h⟩ := H.call h
      refine aq 6 rfl (y_call [.string (bs a0.Steps), .string (bs v7_5)] (.bool v7_6) func180 (fun W S => C.s_seSteps W hv7_6)) ?_
      refine ap 7 1 ?_
      refine a_done ?_
      refine c_or (!v7_6) (fun q15 => ?_) (fun q15 => ?_)
      · replace h := H.t q15 h
        refine r_start ?_
        refine p 3 ?_
        refine rend ?_
        refine c_seq ?_
        refine r_start ?_
        refine p 2 ?_
        refine rend ?_
        replace h := H.done h
        subst h
        exact ret func115 rfl (vs := [.int .i64 (wr ((wr ((wr (v2_6 + v2_13)) + 2)) + 3))]) (.tmp (by kernel_rfl) .nil) rfl (fun W S => ⟨rfl, S.below⟩)
      replace h := H.f q15 h
      refine c_skip ?_
      refine c_seq ?_
      refine r_start ?_
      refine p 2 ?_
      refine rend ?_
      replace h := H.done h
      subst h
      exact ret func115 rfl (vs := [.int .i64 (wr ((wr (v2_6 + v2_13)) + 2))]) (.tmp (by kernel_rfl) .nil) rfl (fun W S => ⟨rfl, S.below⟩)
    replace h := H.f q14 h
    refine c_skip ?_
    refine c_seq ?_
    refine c_seq ?_
    refine as_start 8 8 ?_
    refine ap 0 1 ?_
    refine aq 1 rfl (y_load (.string (bs a0.Steps)) 0 g0_0 3) ?_
    refine ap 2 2 ?_
    refine aq 4 rfl (y_load (.agg (eMove v1_1.Main.Move).toArray) 2 g1_2 11) ?_
    obtain ⟨v7_5, hv7_5, h⟩ := H.call h
    refine aq 5 rfl (y_call [.agg (eMove v1_1.Main.Move).toArray] (.string (bs v7_5)) func126 (fun W S => C.s_mvAll W hv7_5)) ?_
    obtain ⟨v7_6, hv7_6, h⟩ := H.call h
    refine aq 6 rfl (y_call [.string (bs a0.Steps), .string (bs v7_5)] (.bool v7_6) func180 (fun W S => C.s_seSteps W hv7_6)) ?_
    refine ap 7 1 ?_
    refine a_done ?_
    refine c_or (!v7_6) (fun q16 => ?_) (fun q16 => ?_)
    · replace h := H.t q16 h
      refine r_start ?_
      refine p 3 ?_
      refine rend ?_
      refine c_seq ?_
      refine r_start ?_
      refine p 2 ?_
      refine rend ?_
      replace h := H.done h
      subst h
      exact ret func115 rfl (vs := [.int .i64 (wr ((wr (v2_6 + v2_13)) + 3))]) (.tmp (by kernel_rfl) .nil) rfl (fun W S => ⟨rfl, S.below⟩)
    replace h := H.f q16 h
    refine c_skip ?_
    refine c_seq ?_
    refine r_start ?_
    refine p 2 ?_
    refine rend ?_
    replace h := H.done h
    subst h
    exact ret func115 rfl (vs := [.int .i64 (wr (v2_6 + v2_13))]) (.tmp (by kernel_rfl) .nil) rfl (fun W S => ⟨rfl, S.below⟩)
  replace h := H.f q13 h
  refine a_set 41 (congrArg Value.bool q13) ?_
  refine ap 4 6 ?_
  refine a_done ?_
  refine c_f (by kernel_rfl) ?_
  refine c_skip ?_
  refine c_seq ?_
  refine c_seq ?_
  refine as_start 8 8 ?_
  refine ap 0 1 ?_
  refine aq 1 rfl (y_load (.string (bs a0.Steps)) 0 g0_0 3) ?_
  refine ap 2 2 ?_
  refine aq 4 rfl (y_load (.agg (eMove v1_1.Main.Move).toArray) 2 g1_2 11) ?_
  obtain ⟨v7_5, hv7_5, h⟩ := H.call h
  refine aq 5 rfl (y_call [.agg (eMove v1_1.Main.Move).toArray] (.string (bs v7_5)) func126 (fun W S => C.s_mvAll W hv7_5)) ?_
  obtain ⟨v7_6, hv7_6, h⟩ := H.call h
  refine aq 6 rfl (y_call [.string (bs a0.Steps), .string (bs v7_5)] (.bool v7_6) func180 (fun W S => C.s_seSteps W hv7_6)) ?_
  refine ap 7 1 ?_
  refine a_done ?_
  refine c_or (!v7_6) (fun q17 => ?_) (fun q17 => ?_)
  · replace h := H.t q17 h
    refine r_start ?_
    refine p 3 ?_
    refine rend ?_
    refine c_seq ?_
    refine r_start ?_
    refine p 2 ?_
    refine rend ?_
    replace h := H.done h
    subst h
    exact ret func115 rfl (vs := [.int .i64 (wr ((wr (v2_6 + v2_13)) + 3))]) (.tmp (by kernel_rfl) .nil) rfl (fun W S => ⟨rfl, S.below⟩)
  replace h := H.f q17 h
  refine c_skip ?_
  refine c_seq ?_
  refine r_start ?_
  refine p 2 ?_
  refine rend ?_
  replace h := H.done h
  subst h
  exact ret func115 rfl (vs := [.int .i64 (wr (v2_6 + v2_13))]) (.tmp (by kernel_rfl) .nil) rfl (fun W S => ⟨rfl, S.below⟩)
theorem C.s_seWithin {fu : Nat} {a0 : Pattern} {a1 : (List Sign)} {A1 : Option Addr} {k1 : Nat} {a2 : Int} {r : (List Int)} (w : World) (h : X.s_seWithin fu a0 a1 a2 = some r) (h1 : RdT nSign w (.slice A1 (List.length a1) k1) a1) : Calls prog 72 #[.agg (ePattern a0).toArray, .slice A1 (List.length a1) k1, .int .i64 a2] w (RetR (eI .i64) 3 w r (fun v => v)) := by
  refine calls (M := no) (args := [.agg (ePattern a0).toArray, .slice A1 (List.length a1) k1, .int .i64 a2]) func72 rfl ?_
  replace h : H (X.s_seWithin fu a0 a1 a2) (fun o => o = r) := H.mk h
  unfold X.s_seWithin at h
  refine c_seq ?_
  refine r_start ?_
  refine xx rfl (x_box (ePattern a0) fun g0_0 => ?_)
  refine p 1 ?_
  refine rend ?_
  refine c_seq ?_
  refine r_start ?_
  refine p 1 ?_
  refine rend ?_
  refine c_seq ?_
  refine c_seq ?_
  refine r_start ?_
  refine p 1 ?_
  refine rend ?_
  refine c_block ?_
  refine c_nil (eI .i64) 3 ?_
  refine joinH (X := ((List Int) × Option Addr × Nat)) 0 (H.bnd h) (fun ⟨l5, A6, k7⟩ => l5) (fun ⟨l5, A6, k7⟩ => [box g0_0 74 (ePattern a0), rowT (eI .i64) w.heap.size 3 (.slice A6 (List.length l5) k7) l5]) (fun ⟨l5, A6, k7⟩ u => (jk u 0 7 (.slice A6 (List.length l5) k7 :: (jk u 8 26 [])))) (fun h hj8 => ?_) ?_
  · skip
    refine loopR (X := (Int × (List Int) × Option Addr × Nat)) (fun ⟨n1, l2, A3, k4⟩ => (n1, l2)) (fun ⟨n1, l2, A3, k4⟩ => [box g0_0 74 (ePattern a0), rowT (eI .i64) w.heap.size 3 (.slice A3 (List.length l2) k4) l2]) (fun ⟨n1, l2, A3, k4⟩ u => (jk u 0 1 (.slice A1 (List.length a1) k1 :: .int .i64 a2 :: .pointer (some ⟨g0_0, 0, none⟩) :: (jk u 4 3 (.slice A3 (List.length l2) k4 :: .int .i64 n1 :: (jk u 9 25 [])))))) (0, ([] : List Int), none, 0) h (by kernel_rfl) (by kernel_rfl) ?_
    intro x u h
    obtain ⟨n1, l2, A3, k4⟩ := x
    refine c_seq ?_
    refine c_seq ?_
    refine r_start ?_
    refine p 3 ?_
    refine rend ?_
    refine c_or (decide (n1 ≤ a2)) (fun q9 => ?_) (fun q9 => ?_)
    · replace h := H.t q9 h
      refine c_skip ?_
      refine c_seq ?_
      refine c_block ?_
      refine c_seq ?_
      refine r_start ?_
      refine p 3 ?_
      refine rend ?_
      refine c_block ?_
      refine joinH (X := ((List Int) × Option Addr × Nat)) 2 (H.bnd h) (fun ⟨l13, A14, k15⟩ => l13) (fun ⟨l13, A14, k15⟩ => [box g0_0 74 (ePattern a0), rowT (eI .i64) w.heap.size 3 (.slice A14 (List.length l13) k15) l13]) (fun ⟨l13, A14, k15⟩ u => (jk u 0 1 (.slice A1 (List.length a1) k1 :: .int .i64 a2 :: .pointer (some ⟨g0_0, 0, none⟩) :: (jk u 4 3 (.slice A14 (List.length l13) k15 :: .int .i64 n1 :: (jk u 9 25 [])))))) (fun h hj16 => ?_) ?_
      · skip
        refine rangeR (X := ((List Int) × Option Addr × Nat)) (s_arg h1) (fun ⟨l10, A11, k12⟩ => l10) (fun ⟨l10, A11, k12⟩ => [box g0_0 74 (ePattern a0), rowT (eI .i64) w.heap.size 3 (.slice A11 (List.length l10) k12) l10]) (fun (j17 : Nat) ⟨l10, A11, k12⟩ u => (jk u 0 1 (.slice A1 (List.length a1) k1 :: .int .i64 a2 :: .pointer (some ⟨g0_0, 0, none⟩) :: (jk u 4 3 (.slice A11 (List.length l10) k12 :: .int .i64 n1 :: (jk u 9 7 (.slice A1 (List.length a1) k1 :: .int .i64 (List.length a1 : Int) :: .int .i64 (j17 : Int) :: (jk u 19 15 [])))))))) (l2, A3, k4) h (by kernel_rfl) (by kernel_rfl) ?_ ?_
        · intro j17 x u x18 q19 hg20 hw21 h
          obtain ⟨l10, A11, k12⟩ := x
          refine c_seq ?_
          refine r_start ?_
          refine p 1 ?_
          refine rend ?_
          refine c_seq ?_
          refine c_yes q19 ?_
          refine c_skip ?_
          refine c_seq ?_
          refine c_block ?_
          refine c_seq ?_
          refine r_start ?_
          refine p 1 ?_
          refine xq rfl (y_idx (e := nSign) (el := 47) hg20 (s_arg h1)) ?_
          refine xq rfl (y_el (e := nSign) 0 (.agg (eSign x18).toArray) hg20 (s_arg h1)) ?_
          refine xx rfl (x_new (eSign zSign) fun g7_3 => ?_)
          refine p 1 ?_
          refine xx rfl (x_sto 2 g7_3 0 (eSign x18) ?_)
          refine rend ?_
          refine c_seq ?_
          refine r_start ?_
          refine xq rfl (y_load (.agg (ePattern a0).toArray) 0 g0_0 0) ?_
          refine xq rfl (y_load (.agg (eSign x18).toArray) 2 g7_3 0) ?_
          obtain ⟨v8_2, hv8_2, h⟩ := H.call h
          refine xq rfl (y_call [.agg (ePattern a0).toArray, .agg (eSign x18).toArray] (.int .i64 v8_2) func115 (fun W S => C.s_seCost W hv8_2)) ?_
          refine p 2 ?_
          refine rend ?_
          refine c_or (v8_2 == n1) (fun q22 => ?_) (fun q22 => ?_)
          · replace h := H.t q22 h
            refine r_start ?_
            refine p 2 ?_
            refine xx rfl (e_lit (e := (eI .i64)) (el := 3) [.int .i64 (j17 : Int)] ([(j17 : Int)] : List Int) fun A9_2 k9_2 => ?_)
            obtain ⟨y9_3, hy9_3, h⟩ := H.call h
            refine xx rfl (e_app 1 hy9_3 (s_own 3) fun A9_3 k9_3 => ?_)
            refine p 1 ?_
            refine rend ?_
            refine c_inb ?_
            refine r_start ?_
            refine p 2 ?_
            refine rend ?_
            refine c_set 18 (ci hw21) ?_
            replace h := H.inl h
            exact h (y9_3, A9_3, k9_3) _ _ rfl (by kernel_rfl) (by kernel_rfl)
          replace h := H.f q22 h
          refine c_skip ?_
          refine c_inb ?_
          refine r_start ?_
          refine p 2 ?_
          refine rend ?_
          refine c_set 18 (ci hw21) ?_
          replace h := H.inl h
          exact h (l10, A11, k12) _ _ rfl (by kernel_rfl) (by kernel_rfl)
        · intro x u q19 h
          obtain ⟨l10, A11, k12⟩ := x
          refine c_seq ?_
          refine r_start ?_
          refine p 1 ?_
          refine rend ?_
          refine c_seq ?_
          refine c_no q19 ?_
          refine cx ?_
          replace h := H.done h
          exact hj16 (l10, A11, k12) _ _ h (by kernel_rfl) (by kernel_rfl)
      intro x u h
      obtain ⟨l13, A14, k15⟩ := x
      refine c_inb ?_
      refine r_start ?_
      refine p 3 ?_
      refine rend ?_
      replace h := H.inl h
      exact h ((wr (n1 + 1)), l13, A14, k15) _ _ rfl (by kernel_rfl) (by kernel_rfl)
    replace h := H.f q9 h
    refine cx ?_
    replace h := H.inr h
    exact hj8 (l2, A3, k4) _ _ h (by kernel_rfl) (by kernel_rfl)
  intro x u h
  obtain ⟨l5, A6, k7⟩ := x
  refine c_seq ?_
  refine r_start ?_
  refine p 2 ?_
  refine rend ?_
  replace h := H.done h
  subst h
  exact ret func72 rfl (vs := [.slice A6 (List.length l5) k7]) (.tmp (by kernel_rfl) .nil) rfl (fun W S => ⟨_, _, rfl, S.row 1, S.below⟩)
theorem C.s_l1Least {a0 : Int} {a1 : Int} {r : Int} (w : World) (h : X.s_l1Least a0 a1 = some r) : Calls prog 74 #[.int .i64 a0, .int .i64 a1] w (Ret w (.int .i64 r)) := by
  refine calls (M := no) (args := [.int .i64 a0, .int .i64 a1]) func74 rfl ?_
  replace h : H (X.s_l1Least a0 a1) (fun o => o = r) := H.mk h
  unfold X.s_l1Least at h
  refine c_seq ?_
  refine r_start ?_
  refine p 1 ?_
  refine rend ?_
  refine c_seq ?_
  refine c_seq ?_
  refine r_start ?_
  refine p 3 ?_
  refine rend ?_
  refine c_or (decide (a0 < a1)) (fun q1 => ?_) (fun q1 => ?_)
  · replace h := H.t q1 h
    refine c_seq ?_
    refine r_start ?_
    refine p 2 ?_
    refine rend ?_
    replace h := H.done h
    subst h
    exact ret func74 rfl (vs := [.int .i64 a0]) (.tmp (by kernel_rfl) .nil) rfl (fun W S => ⟨rfl, S.below⟩)
  replace h := H.f q1 h
  refine c_skip ?_
  refine c_seq ?_
  refine r_start ?_
  refine p 2 ?_
  refine rend ?_
  replace h := H.done h
  subst h
  exact ret func74 rfl (vs := [.int .i64 a1]) (.tmp (by kernel_rfl) .nil) rfl (fun W S => ⟨rfl, S.below⟩)
theorem C.s_BestAnswers {fu : Nat} {a0 : Pattern} {a1 : (List Sign)} {A1 : Option Addr} {k1 : Nat} {a2 : Int} {r : ((List Int) × Bool)} (w : World) (h : X.s_BestAnswers fu a0 a1 a2 = some r) (h1 : RdT nSign w (.slice A1 (List.length a1) k1) a1) : Calls prog 32 #[.agg (ePattern a0).toArray, .slice A1 (List.length a1) k1, .int .i64 a2] w (RetR (eI .i64) 3 w r.1 (fun v => .tuple #[v, .bool r.2])) := by
  refine calls (M := no) (args := [.agg (ePattern a0).toArray, .slice A1 (List.length a1) k1, .int .i64 a2]) func32 rfl ?_
  replace h : H (X.s_BestAnswers fu a0 a1 a2) (fun o => o = r) := H.mk h
  unfold X.s_BestAnswers at h
  refine c_seq ?_
  refine r_start ?_
  refine xx rfl (x_box (ePattern a0) fun g0_0 => ?_)
  refine p 2 ?_
  refine rend ?_
  refine c_seq ?_
  refine c_seq ?_
  refine r_start ?_
  refine xq rfl (y_load (.agg (ePattern a0).toArray) 0 g0_0 0) ?_
  refine p 1 ?_
  obtain ⟨v1_2, hv1_2, h⟩ := H.call h
  refine xq rfl (y_call [.agg (ePattern a0).toArray, .slice A1 (List.length a1) k1] (.bool v1_2) func71 (fun W S => C.s_seAsked W hv1_2 ((s_arg h1).out W S))) ?_
  refine p 2 ?_
  refine br (!v1_2) (fun q1 => ?_) (fun q1 => ?_)
  · replace h := H.t q1 h
    refine o_set 13 (congrArg Value.bool q1) ?_
    refine p 4 ?_
    refine rend ?_
    refine c_t (by kernel_rfl) ?_
    refine c_seq ?_
    refine r_start ?_
    refine p 2 ?_
    refine rend ?_
    replace h := H.done h
    subst h
    exact ret func32 rfl (vs := [.slice none 0 0, .bool false]) (.tmp (by kernel_rfl) (.tmp (by kernel_rfl) .nil)) rfl (fun W S => ⟨none, 0, rfl, World.ownsRow_nil _ _ _ _, S.below⟩)
  replace h := H.f q1 h
  refine o_set 13 (congrArg Value.bool q1) ?_
  refine p 1 ?_
  obtain ⟨v1_6, hv1_6, h⟩ := H.call h
  refine xq rfl (y_call [.int .i64 a2, .int .i64 0, .int .i64 16] (.bool v1_6) func45 (fun W S => C.s_l1In W hv1_6)) ?_
  refine p 2 ?_
  refine rend ?_
  refine c_or (!v1_6) (fun q2 => ?_) (fun q2 => ?_)
  · replace h := H.t q2 h
    refine c_seq ?_
    refine r_start ?_
    refine p 2 ?_
    refine rend ?_
    replace h := H.done h
    subst h
    exact ret func32 rfl (vs := [.slice none 0 0, .bool false]) (.tmp (by kernel_rfl) (.tmp (by kernel_rfl) .nil)) rfl (fun W S => ⟨none, 0, rfl, World.ownsRow_nil _ _ _ _, S.below⟩)
  replace h := H.f q2 h
  refine c_skip ?_
  refine c_seq ?_
  refine r_start ?_
  refine xq rfl (y_load (.agg (ePattern a0).toArray) 0 g0_0 0) ?_
  refine p 1 ?_
  obtain ⟨v3_2, hv3_2, h⟩ := H.call h
  refine xx rfl (e_cr [.agg (ePattern a0).toArray, .slice A1 (List.length a1) k1, .int .i64 14] (fun v => v) func72 (fun W S => C.s_seWithin W hv3_2 ((s_arg h1).out W S)) fun A3_2 k3_2 => ?_)
  refine p 1 ?_
  refine rend ?_
  refine c_seq ?_
  refine r_start ?_
  refine p 4 ?_
  obtain ⟨v4_4, hv4_4, h⟩ := H.call h
  refine xq rfl (y_call [.int .i64 a2, .int .i64 (List.length v3_2 : Int)] (.int .i64 v4_4) func74 (fun W S => C.s_l1Least W hv4_4)) ?_
  obtain ⟨y4_5, hy4_5, h⟩ := H.call h
  refine xq rfl (y_cutl (e := (eI .i64)) (el := 3) hy4_5 (s_own 1)) ?_
  obtain ⟨v4_6, hv4_6, h⟩ := H.call h
  refine xx rfl (e_cr [.slice (cutA (eI .i64) A3_2 k3_2 (Int.toNat 0)) (List.length y4_5) (k3_2 - Int.toNat 0)] (fun v => v) func73 (fun W S => C.s_l1Own W hv4_6 ((s_cut hy4_5 (s_own 1)).out W S)) fun A4_6 k4_6 => ?_)
  refine p 2 ?_
  refine rend ?_
  replace h := H.done h
  subst h
  exact ret func32 rfl (vs := [.slice A4_6 (List.length v4_6) k4_6, .bool true]) (.tmp (by kernel_rfl) (.tmp (by kernel_rfl) .nil)) rfl (fun W S => ⟨_, _, rfl, S.row 2, S.below⟩)
theorem C.l_toPattern {a0 : Pattern} {r : Pattern} (w : World) (h : X.l_toPattern a0 = some r) : Calls prog 33 #[.agg (ePattern a0).toArray] w (Ret w (.agg (ePattern r).toArray)) := by
  refine calls (M := no) (args := [.agg (ePattern a0).toArray]) func33 rfl ?_
  replace h : H (X.l_toPattern a0) (fun o => o = r) := H.mk h
  unfold X.l_toPattern at h
  refine c_seq ?_
  refine r_start ?_
  refine xx rfl (x_box (ePattern a0) fun g0_0 => ?_)
  refine xx rfl (x_new (ePattern zPattern) fun g0_1 => ?_)
  refine rend ?_
  refine c_seq ?_
  refine r_start ?_
  refine xx rfl (x_new (ePattern zPattern) fun g1_0 => ?_)
  refine rend ?_
  refine c_seq ?_
  refine r_start ?_
  refine p 1 ?_
  refine xq rfl (y_load (.string (bs a0.Shape)) 0 g0_0 0) ?_
  refine p 1 ?_
  refine xx rfl (x_sto 2 g1_0 0 (ePattern ({ zPattern with Shape := a0.Shape })) ?_)
  refine rend ?_
  refine c_seq ?_
  refine r_start ?_
  refine p 1 ?_
  refine xq rfl (y_load (.string (bs a0.Orient)) 0 g0_0 1) ?_
  refine p 1 ?_
  refine xx rfl (x_sto 2 g1_0 1 (ePattern ({ zPattern with Shape := a0.Shape, Orient := a0.Orient })) ?_)
  refine rend ?_
  refine c_seq ?_
  refine r_start ?_
  refine p 1 ?_
  refine xq rfl (y_load (.int .i64 a0.Region) 0 g0_0 2) ?_
  refine p 1 ?_
  refine xx rfl (x_sto 2 g1_0 2 (ePattern ({ a0 with Steps := zPattern.Steps, Hands := zPattern.Hands })) ?_)
  refine rend ?_
  refine c_seq ?_
  refine r_start ?_
  refine p 1 ?_
  refine xq rfl (y_load (.string (bs a0.Steps)) 0 g0_0 3) ?_
  refine p 1 ?_
  refine xx rfl (x_sto 2 g1_0 3 (ePattern ({ a0 with Hands := zPattern.Hands })) ?_)
  refine rend ?_
  refine c_seq ?_
  refine r_start ?_
  refine p 1 ?_
  refine xq rfl (y_load (.int .i64 a0.Hands) 0 g0_0 4) ?_
  refine p 1 ?_
  refine xx rfl (x_sto 2 g1_0 4 (ePattern a0) ?_)
  refine rend ?_
  refine c_seq ?_
  refine r_start ?_
  refine xq rfl (y_load (.agg (ePattern a0).toArray) 2 g1_0 0) ?_
  refine xx rfl (x_sto 1 g0_1 0 (ePattern a0) ?_)
  refine rend ?_
  replace h := H.done h
  subst h
  exact ret func33 rfl (vs := [.agg (ePattern a0).toArray]) (.cell 1 g0_1 rfl (by kernel_rfl) (by kernel_rfl) .nil) rfl (fun W S => ⟨rfl, S.below⟩)
theorem C.i_IsPattern {a0 : Pattern} {r : Bool} (w : World) (h : X.i_IsPattern a0 = some r) : Calls prog 75 #[.agg (ePattern a0).toArray] w (Ret w (.bool r)) := by
  refine calls (M := no) (args := [.agg (ePattern a0).toArray]) func75 rfl ?_
  replace h : H (X.i_IsPattern a0) (fun o => o = r) := H.mk h
  unfold X.i_IsPattern at h
  refine c_seq ?_
  refine r_start ?_
  refine xx rfl (x_box (ePattern a0) fun g0_0 => ?_)
  refine p 1 ?_
  refine rend ?_
  refine c_seq ?_
  refine r_start ?_
  refine p 1 ?_
  refine xq rfl (y_load (.string (bs a0.Shape)) 0 g0_0 0) ?_
  refine p 3 ?_
  refine br ((List.length a0.Shape : Int) == 5) (fun q1 => ?_) (fun q1 => ?_)
  · replace h := H.t q1 h
    refine o_set 7 (congrArg Value.bool q1) ?_
    refine p 1 ?_
    refine xq rfl (y_load (.string (bs a0.Shape)) 0 g0_0 0) ?_
    obtain ⟨v1_7, hv1_7, h⟩ := H.call h
    refine xq rfl (y_call [.string (bs a0.Shape), .string (bs ([48, 49, 50, 63] : Str))] (.bool v1_7) func116 (fun W S => C.i_hasOnly W hv1_7)) ?_
    refine p 2 ?_
    refine br v1_7 (fun q2 => ?_) (fun q2 => ?_)
    · replace h := H.t q2 h
      refine o_set 12 (congrArg Value.bool q2) ?_
      refine p 1 ?_
      refine xq rfl (y_load (.string (bs a0.Orient)) 0 g0_0 1) ?_
      refine p 4 ?_
      refine br ((List.length a0.Orient : Int) == 2) (fun q3 => ?_) (fun q3 => ?_)
      · replace h := H.t q3 h
        refine o_set 18 (congrArg Value.bool q3) ?_
        refine p 1 ?_
        refine xq rfl (y_load (.string (bs a0.Orient)) 0 g0_0 1) ?_
        obtain ⟨v1_18, hv1_18, h⟩ := H.call h
        refine xq rfl (y_call [.string (bs a0.Orient), .string (bs ([117, 100, 108, 114, 102, 98, 63] : Str))] (.bool v1_18) func116 (fun W S => C.i_hasOnly W hv1_18)) ?_
        refine p 2 ?_
        refine br v1_18 (fun q4 => ?_) (fun q4 => ?_)
        · replace h := H.t q4 h
          refine o_set 23 (congrArg Value.bool q4) ?_
          refine p 1 ?_
          refine xq rfl (y_load (.int .i64 a0.Region) 0 g0_0 2) ?_
          obtain ⟨v1_23, hv1_23, h⟩ := H.call h
          refine xq rfl (y_call [.int .i64 a0.Region, .int .i64 (-1), .int .i64 9] (.bool v1_23) func49 (fun W S => C.i_within W hv1_23)) ?_
          refine p 2 ?_
          refine br v1_23 (fun q5 => ?_) (fun q5 => ?_)
          · replace h := H.t q5 h
            refine o_set 28 (congrArg Value.bool q5) ?_
            refine p 1 ?_
            refine xq rfl (y_load (.string (bs a0.Steps)) 0 g0_0 3) ?_
            refine p 4 ?_
            refine br (decide ((List.length a0.Steps : Int) ≤ 20)) (fun q6 => ?_) (fun q6 => ?_)
            · replace h := H.t q6 h
              refine o_set 34 (congrArg Value.bool q6) ?_
              refine p 1 ?_
              refine xq rfl (y_load (.string (bs a0.Steps)) 0 g0_0 3) ?_
              obtain ⟨v1_34, hv1_34, h⟩ := H.call h
              refine xq rfl (y_call [.string (bs a0.Steps), .string (bs ([117, 100, 108, 114, 102, 98, 63, 42] : Str))] (.bool v1_34) func116 (fun W S => C.i_hasOnly W hv1_34)) ?_
              refine p 2 ?_
              refine br v1_34 (fun q7 => ?_) (fun q7 => ?_)
              · replace h := H.t q7 h
                refine o_set 39 (congrArg Value.bool q7) ?_
                refine p 1 ?_
                refine xq rfl (y_load (.int .i64 a0.Hands) 0 g0_0 4) ?_
                obtain ⟨v1_39, hv1_39, h⟩ := H.call h
                refine xq rfl (y_call [.int .i64 a0.Hands, .int .i64 0, .int .i64 2] (.bool v1_39) func49 (fun W S => C.i_within W hv1_39)) ?_
                refine p 2 ?_
                refine rend ?_
                replace h := H.done h
                subst h
                exact ret func75 rfl (vs := [.bool v1_39]) (.tmp (by kernel_rfl) .nil) rfl (fun W S => ⟨rfl, S.below⟩)
              replace h := H.f q7 h
              refine o_set 39 (congrArg Value.bool q7) ?_
              refine p 5 ?_
              refine rend ?_
              replace h := H.done h
              subst h
              exact ret func75 rfl (vs := [.bool false]) (.tmp (by kernel_rfl) .nil) rfl (fun W S => ⟨rfl, S.below⟩)
            replace h := H.f q6 h
            refine o_set 34 (congrArg Value.bool q6) ?_
            refine p 10 ?_
            refine rend ?_
            replace h := H.done h
            subst h
            exact ret func75 rfl (vs := [.bool false]) (.tmp (by kernel_rfl) .nil) rfl (fun W S => ⟨rfl, S.below⟩)
          replace h := H.f q5 h
          refine o_set 28 (congrArg Value.bool q5) ?_
          refine p 16 ?_
          refine rend ?_
          replace h := H.done h
          subst h
          exact ret func75 rfl (vs := [.bool false]) (.tmp (by kernel_rfl) .nil) rfl (fun W S => ⟨rfl, S.below⟩)
        replace h := H.f q4 h
        refine o_set 23 (congrArg Value.bool q4) ?_
        refine p 21 ?_
        refine rend ?_
        replace h := H.done h
        subst h
        exact ret func75 rfl (vs := [.bool false]) (.tmp (by kernel_rfl) .nil) rfl (fun W S => ⟨rfl, S.below⟩)
      replace h := H.f q3 h
      refine o_set 18 (congrArg Value.bool q3) ?_
      refine p 26 ?_
      refine rend ?_
      replace h := H.done h
      subst h
      exact ret func75 rfl (vs := [.bool false]) (.tmp (by kernel_rfl) .nil) rfl (fun W S => ⟨rfl, S.below⟩)
    replace h := H.f q2 h
    refine o_set 12 (congrArg Value.bool q2) ?_
    refine p 32 ?_
    refine rend ?_
    replace h := H.done h
    subst h
    exact ret func75 rfl (vs := [.bool false]) (.tmp (by kernel_rfl) .nil) rfl (fun W S => ⟨rfl, S.below⟩)
  replace h := H.f q1 h
  refine o_set 7 (congrArg Value.bool q1) ?_
  refine p 37 ?_
  refine rend ?_
  replace h := H.done h
  subst h
  exact ret func75 rfl (vs := [.bool false]) (.tmp (by kernel_rfl) .nil) rfl (fun W S => ⟨rfl, S.below⟩)
theorem C.slices_Clip_int_int {a0 : (List Int)} {A0 : Option Addr} {k0 : Nat} {r : (List Int)} (w : World) (h : X.slices_Clip_int_int a0 = some r) (h0 : RdT (eI .i64) w (.slice A0 (List.length a0) k0) a0) : Calls prog 76 #[.slice A0 (List.length a0) k0] w (Ret w (.slice A0 (List.length a0) (List.length a0))) := by
  refine calls (M := no) (args := [.slice A0 (List.length a0) k0]) func76 rfl ?_
  refine c_seq ?_
  refine r_start ?_
  refine p 1 ?_
  refine rend ?_
  refine c_seq ?_
  refine r_start ?_
  refine p 5 ?_
  refine xq rfl (y_clip (e := (eI .i64)) (el := 3) (s_arg h0)) ?_
  refine p 1 ?_
  refine rend ?_
  exact ret func76 rfl (vs := [.slice A0 (List.length a0) (List.length a0)]) (.tmp (by kernel_rfl) .nil) rfl (fun W S => ⟨rfl, S.below⟩)
theorem C.slices_insertionSortCmpFunc_int {fu : Nat} {a0 : (List Int)} {A0 : Option Addr} {k0 B0 n0 : Nat} {a1 : Int} {a2 : Int} {a3 : (Int → Int → Option Int)} {g3 : Nat} {cp3 : List Value} {r : (List Int)} (w : World) (h : X.slices_insertionSortCmpFunc_int fu a0 a1 a2 a3 = some r) (hn0 : List.length a0 = n0) (h0 : World.ownsRow w B0 3 (Enc.sz (eI .i64)) (.slice A0 n0 k0) n0 (Enc.flat (eI .i64) a0)) (hg3 : isFn prog g3 = true) (hF3 : ∀ (x0 : Int) (x1 : Int) (r : Int) (W : World), World.grownBy w W (Value.slice A0 n0 k0).ownBlock → a3 x0 x1 = some r → Calls prog g3 (([.int .i64 x0, .int .i64 x1] : List Value) ++ cp3).toArray W (Ret W (.int .i64 r))) : Calls prog 224 #[.slice A0 (n0) k0, .int .i64 a1, .int .i64 a2, .func (.func g3) #[] cp3.toArray] w (RetW (eI .i64) B0 3 A0 n0 k0 w r (.tuple #[])) := by
  subst hn0
  refine callsW (args := [.slice A0 (List.length a0) k0, .int .i64 a1, .int .i64 a2, .func (.func g3) #[] cp3.toArray]) rfl h0 func224 rfl ?_
  replace h : H (X.slices_insertionSortCmpFunc_int fu a0 a1 a2 a3) (fun o => o = r) := H.mk h
  unfold X.slices_insertionSortCmpFunc_int at h
  refine c_seq ?_
  refine r_start ?_
  refine p 3 ?_
  refine rend ?_
  refine c_block ?_
  refine joinH (X := (List Int)) 0 (H.bnd h) (fun (x : (List Int)) => x) (fun l3 => [argW (eI .i64) B0 3 A0 (List.length a0) k0 l3]) (fun l3 u => (jk u 0 53 [])) (fun h hj4 => ?_) ?_
  · skip
    refine loopR (X := (Int × (List Int))) (fun (x : (Int × (List Int))) => x) (fun ⟨n1, l2⟩ => [argW (eI .i64) B0 3 A0 (List.length a0) k0 l2]) (fun ⟨n1, l2⟩ u => (.slice A0 (List.length a0) k0 :: .int .i64 a1 :: .int .i64 a2 :: .func (.func g3) #[] cp3.toArray :: (jk u 4 4 (.int .i64 n1 :: (jk u 9 44 []))))) ((wr (a1 + 1)), a0) h (by kernel_rfl) (by kernel_rfl) ?_
    intro x u h
    obtain ⟨n1, l2⟩ := x
    refine c_seq ?_
    refine c_seq ?_
    refine r_start ?_
    refine p 3 ?_
    refine rend ?_
    refine c_or (decide (n1 < a2)) (fun q5 => ?_) (fun q5 => ?_)
    · replace h := H.t q5 h
      refine c_skip ?_
      refine c_seq ?_
      refine c_block ?_
      refine c_seq ?_
      refine r_start ?_
      refine p 2 ?_
      refine rend ?_
      refine c_block ?_
      refine joinH (X := (List Int)) 2 (H.bnd h) (fun (x : (List Int)) => x) (fun l8 => [argW (eI .i64) B0 3 A0 (List.length a0) k0 l8]) (fun l8 u => (.slice A0 (List.length a0) k0 :: .int .i64 a1 :: .int .i64 a2 :: .func (.func g3) #[] cp3.toArray :: (jk u 4 4 (.int .i64 n1 :: (jk u 9 44 []))))) (fun h hj9 => ?_) ?_
      · skip
        refine loopR (X := (Int × (List Int))) (fun (x : (Int × (List Int))) => x) (fun ⟨n6, l7⟩ => [argW (eI .i64) B0 3 A0 (List.length a0) k0 l7]) (fun ⟨n6, l7⟩ u => (.slice A0 (List.length a0) k0 :: .int .i64 a1 :: .int .i64 a2 :: .func (.func g3) #[] cp3.toArray :: (jk u 4 4 (.int .i64 n1 :: .int .i64 n6 :: (jk u 10 43 []))))) (n1, l2) h (by kernel_rfl) (by kernel_rfl) ?_
        intro x u h
        obtain ⟨n6, l7⟩ := x
        refine c_seq ?_
        refine c_seq ?_
        refine as_start 17 17 ?_
        refine ap 0 4 ?_
        refine br (decide (n6 > a1)) (fun q10 => ?_) (fun q10 => ?_)
        · replace h := H.t q10 h
          refine a_set 21 (congrArg Value.bool q10) ?_
          refine ap 4 3 ?_
          obtain ⟨y4_7, hy4_7, h⟩ := H.call h
          refine aq 7 rfl (y_idxW (e := (eI .i64)) (el := 3) 0 hy4_7) ?_
          refine aq 8 rfl (y_elW (e := (eI .i64)) 0 0 (.int .i64 y4_7) hy4_7) ?_
          refine ap 9 3 ?_
          obtain ⟨y4_12, hy4_12, h⟩ := H.call h
          refine aq 12 rfl (y_idxW (e := (eI .i64)) (el := 3) 0 hy4_12) ?_
          refine aq 13 rfl (y_elW (e := (eI .i64)) 0 0 (.int .i64 y4_12) hy4_12) ?_
          obtain ⟨v4_14, hv4_14, h⟩ := H.call h
          refine aq 14 rfl (y_cf cp3 [.int .i64 y4_7, .int .i64 y4_12] (.int .i64 v4_14) hg3 (fun W S => hF3 _ _ _ W S.grw hv4_14)) ?_
          refine ap 15 2 ?_
          refine a_done ?_
          refine c_or (decide (v4_14 < 0)) (fun q11 => ?_) (fun q11 => ?_)
          · replace h := H.t q11 h
            refine c_skip ?_
            refine c_seq ?_
            refine c_block ?_
            refine as_start 15 18 ?_
            refine apx 0 8 ?_
            refine aq 8 rfl (y_idxW (e := (eI .i64)) (el := 3) 0 hy4_12) ?_
            refine aq 9 rfl (y_elW (e := (eI .i64)) 0 0 (.int .i64 y4_12) hy4_12) ?_
            refine ap 10 2 ?_
            refine aq 12 rfl (y_idxW (e := (eI .i64)) (el := 3) 0 hy4_7) ?_
            refine aq 13 rfl (y_elW (e := (eI .i64)) 0 0 (.int .i64 y4_7) hy4_7) ?_
            refine aq 14 rfl (y_idxW (e := (eI .i64)) (el := 3) 0 hy4_7) ?_
            refine ax 15 rfl (e_stW (e := (eI .i64)) (b := y4_12) 0 0 ([.int .i64 y4_12]) hy4_7 (by kernel_rfl) ⟨.inl (by kernel_rfl), ?_⟩)
            obtain ⟨y6_16, hy6_16, h⟩ := H.call h
            refine ax 16 rfl (e_y (y_idxW (e := (eI .i64)) (el := 3) 0 hy6_16) ⟨.inl (by kernel_rfl), ?_⟩)
            refine ax 17 rfl (e_stW (e := (eI .i64)) (b := y4_7) 0 0 ([.int .i64 y4_7]) hy6_16 (by kernel_rfl) ⟨.inl (by kernel_rfl), ?_⟩)
            refine a_done ?_
            refine c_inb ?_
            refine r_start ?_
            refine p 3 ?_
            refine rend ?_
            replace h := H.inl h
            exact h ((wr (n6 - 1)), (List.set (List.set l7 (Int.toNat n6) y4_12) (Int.toNat (wr (n6 - 1))) y4_7)) _ _ rfl (by kernel_rfl) (by kernel_rfl)
          replace h := H.f q11 h
          refine cx ?_
          replace h := H.inr h
          exact hj9 l7 _ _ h (by kernel_rfl) (by kernel_rfl)
        replace h := H.f q10 h
        refine a_set 21 (congrArg Value.bool q10) ?_
        refine ap 4 13 ?_
        refine a_done ?_
        refine c_f (by kernel_rfl) ?_
        refine cx ?_
        replace h := H.inr h
        exact hj9 l7 _ _ h (by kernel_rfl) (by kernel_rfl)
      intro l8 u h
      refine c_inb ?_
      refine r_start ?_
      refine p 3 ?_
      refine rend ?_
      replace h := H.inl h
      exact h ((wr (n1 + 1)), l8) _ _ rfl (by kernel_rfl) (by kernel_rfl)
    replace h := H.f q5 h
    refine cx ?_
    replace h := H.inr h
    exact hj4 l2 _ _ h (by kernel_rfl) (by kernel_rfl)
  intro l3 u h
  replace h := H.done h
  subst h
  exact fin func224 rfl (vs := []) .nil rfl (fun W S => S.retW)
theorem C.slices_stableCmpFunc_int {fu : Nat} {a0 : (List Int)} {A0 : Option Addr} {k0 B0 n0 : Nat} {a1 : Int} {a2 : (Int → Int → Option Int)} {g2 : Nat} {cp2 : List Value} {r : (List Int)} (w : World) (h : X.slices_stableCmpFunc_int fu a0 a1 a2 = some r) (hn0 : List.length a0 = n0) (h0 : World.ownsRow w B0 3 (Enc.sz (eI .i64)) (.slice A0 n0 k0) n0 (Enc.flat (eI .i64) a0)) (hg2 : isFn prog g2 = true) (hF2 : ∀ (x0 : Int) (x1 : Int) (r : Int) (W : World), World.grownBy w W (Value.slice A0 n0 k0).ownBlock → a2 x0 x1 = some r → Calls prog g2 (([.int .i64 x0, .int .i64 x1] : List Value) ++ cp2).toArray W (Ret W (.int .i64 r))) : Calls prog 182 #[.slice A0 (n0) k0, .int .i64 a1, .func (.func g2) #[] cp2.toArray] w (RetW (eI .i64) B0 3 A0 n0 k0 w r (.tuple #[])) := by
  subst hn0
  refine callsW (args := [.slice A0 (List.length a0) k0, .int .i64 a1, .func (.func g2) #[] cp2.toArray]) rfl h0 func182 rfl ?_
  replace h : H (X.slices_stableCmpFunc_int fu a0 a1 a2) (fun o => o = r) := H.mk h
  unfold X.slices_stableCmpFunc_int at h
  refine c_seq ?_
  refine r_start ?_
  refine p 1 ?_
  refine rend ?_
  refine c_seq ?_
  refine r_start ?_
  refine p 3 ?_
  refine rend ?_
  refine c_seq ?_
  refine c_block ?_
  refine joinH (X := (Int × (List Int))) 0 (H.bnd h) (fun (x : (Int × (List Int))) => x) (fun ⟨n4, l5⟩ => [argW (eI .i64) B0 3 A0 (List.length a0) k0 l5]) (fun ⟨n4, l5⟩ u => (.slice A0 (List.length a0) k0 :: .int .i64 a1 :: .func (.func g2) #[] cp2.toArray :: (jk u 3 3 (.int .i64 20 :: .int .i64 n4 :: (jk u 8 55 []))))) (fun h hj6 => ?_) ?_
  · skip
    refine loopR (X := (Int × Int × (List Int))) (fun (x : (Int × Int × (List Int))) => x) (fun ⟨n1, n2, l3⟩ => [argW (eI .i64) B0 3 A0 (List.length a0) k0 l3]) (fun ⟨n1, n2, l3⟩ u => (.slice A0 (List.length a0) k0 :: .int .i64 a1 :: .func (.func g2) #[] cp2.toArray :: (jk u 3 3 (.int .i64 20 :: .int .i64 n1 :: .int .i64 n2 :: (jk u 9 54 []))))) (0, 20, a0) h (by kernel_rfl) (by kernel_rfl) ?_
    intro x u h
    obtain ⟨n1, n2, l3⟩ := x
    refine c_seq ?_
    refine c_seq ?_
    refine r_start ?_
    refine p 3 ?_
    refine rend ?_
    refine c_or (decide (n2 ≤ a1)) (fun q7 => ?_) (fun q7 => ?_)
    · replace h := H.t q7 h
      refine c_skip ?_
      refine c_block ?_
      refine c_seq ?_
      refine r_start ?_
      refine p 4 ?_
      obtain ⟨v3_4, hv3_4, h⟩ := H.call h
      refine xx rfl (e_cwW (e := (eI .i64)) (l' := v3_4) (v := .tuple #[]) 0 [.slice A0 (List.length a0) k0, .int .i64 n1, .int .i64 n2, .func (.func g2) #[] cp2.toArray] func224 (fun W S => C.slices_insertionSortCmpFunc_int W hv3_4 (S.rowW 0).1 (S.rowW 0).2 hg2 (fun x0_2 x1_2 r W2 hu2 hx2 => hF2 x0_2 x1_2 r W2 (grw_tr S.grw hu2) hx2)) ?_)
      refine rend ?_
      refine c_seq ?_
      refine r_start ?_
      refine p 2 ?_
      refine rend ?_
      refine r_start ?_
      refine p 4 ?_
      refine rend ?_
      refine c_inb ?_
      replace h := H.inl h
      exact h (n2, (wr (n2 + 20)), v3_4) _ _ rfl (by kernel_rfl) (by kernel_rfl)
    replace h := H.f q7 h
    refine cx ?_
    replace h := H.inr h
    exact hj6 (n1, l3) _ _ h (by kernel_rfl) (by kernel_rfl)
  intro x u h
  obtain ⟨n4, l5⟩ := x
  refine c_seq ?_
  refine r_start ?_
  refine p 4 ?_
  obtain ⟨v6_4, hv6_4, h⟩ := H.call h
  refine xx rfl (e_cwW (e := (eI .i64)) (l' := v6_4) (v := .tuple #[]) 0 [.slice A0 (List.length a0) k0, .int .i64 n4, .int .i64 a1, .func (.func g2) #[] cp2.toArray] func224 (fun W S => C.slices_insertionSortCmpFunc_int W hv6_4 (S.rowW 0).1 (S.rowW 0).2 hg2 (fun x0_2 x1_2 r W2 hu2 hx2 => hF2 x0_2 x1_2 r W2 (grw_tr S.grw hu2) hx2)) ?_)
  refine rend ?_
  refine c_block ?_
  refine joinH (X := Unit) 2 (H.bnd h) (fun (x : Unit) => x) (fun _ => [argW (eI .i64) B0 3 A0 (List.length a0) k0 v6_4]) (fun _ u => (jk u 0 63 [])) (fun h hj9 => ?_) ?_
  · skip
    refine loopR (X := Int) (fun (x : Int) => x) (fun n8 => [argW (eI .i64) B0 3 A0 (List.length a0) k0 v6_4]) (fun n8 u => (.slice A0 (List.length a0) k0 :: .int .i64 a1 :: .func (.func g2) #[] cp2.toArray :: (jk u 3 3 (.int .i64 n8 :: (jk u 7 56 []))))) 20 h (by kernel_rfl) (by kernel_rfl) ?_
    intro n8 u h
    refine c_seq ?_
    refine c_seq ?_
    refine r_start ?_
    refine p 3 ?_
    refine rend ?_
    refine c_or (decide (n8 < a1)) (fun q10 => ?_) (fun q10 => ?_)
    · replace h := H.t q10 h
      refine c_skip ?_
      refine c_block ?_
      refine c_seq ?_
      refine r_start ?_
      refine p 4 ?_
      refine rend ?_
      refine c_seq ?_
      refine c_block ?_
      refine joinH (X := Unit) 4 (H.bnd h) (fun (x : Unit) => x) (fun _ => [argW (eI .i64) B0 3 A0 (List.length a0) k0 v6_4]) (fun _ u => (.slice A0 (List.length a0) k0 :: .int .i64 a1 :: .func (.func g2) #[] cp2.toArray :: (jk u 3 3 (.int .i64 n8 :: .int .i64 0 :: (jk u 8 55 []))))) (fun h hj11 => ?_) ?_
      · skip
        refine loopR (X := Unit) (fun (x : Unit) => x) (fun _ => [argW (eI .i64) B0 3 A0 (List.length a0) k0 v6_4]) (fun _ u => (.slice A0 (List.length a0) k0 :: .int .i64 a1 :: .func (.func g2) #[] cp2.toArray :: (jk u 3 3 (.int .i64 n8 :: .int .i64 0 :: .int .i64 (wr (2 * n8)) :: (jk u 9 54 []))))) () h (by kernel_rfl) (by kernel_rfl) ?_
        intro x u h
        refine c_seq ?_
        refine c_seq ?_
        refine r_start ?_
        refine p 3 ?_
        refine rend ?_
        refine c_or (decide ((wr (2 * n8)) ≤ a1)) (fun q12 => ?_) (fun q12 => ?_)
        · replace h := H.t q12 h
          refine c_skip ?_
          refine c_block ?_
          refine c_seq ?_
          refine r_start ?_
          refine p 7 ?_
          exact H.none h
        replace h := H.f q12 h
        refine cx ?_
        replace h := H.inr h
        exact hj11 () _ _ h (by kernel_rfl) (by kernel_rfl)
      intro x u h
      refine c_seq ?_
      refine c_seq ?_
      refine r_start ?_
      refine p 4 ?_
      refine rend ?_
      refine c_seq ?_
      refine r_start ?_
      refine p 3 ?_
      refine rend ?_
      refine c_or (decide ((wr (0 + n8)) < a1)) (fun q13 => ?_) (fun q13 => ?_)
      · replace h := H.t q13 h
        refine r_start ?_
        refine p 5 ?_
        exact H.none h
      replace h := H.f q13 h
      refine c_skip ?_
      refine r_start ?_
      refine p 3 ?_
      refine rend ?_
      refine c_inb ?_
      replace h := H.inl h
      exact h (wr (n8 * 2)) _ _ rfl (by kernel_rfl) (by kernel_rfl)
    replace h := H.f q10 h
    refine cx ?_
    replace h := H.inr h
    exact hj9 () _ _ h (by kernel_rfl) (by kernel_rfl)
  intro x u h
  replace h := H.done h
  subst h
  exact fin func182 rfl (vs := []) .nil rfl (fun W S => S.retW)
theorem C.slices_SortStableFunc_int_int {fu : Nat} {a0 : (List Int)} {A0 : Option Addr} {k0 B0 n0 : Nat} {a1 : (Int → Int → Option Int)} {g1 : Nat} {cp1 : List Value} {r : (List Int)} (w : World) (h : X.slices_SortStableFunc_int_int fu a0 a1 = some r) (hn0 : List.length a0 = n0) (h0 : World.ownsRow w B0 3 (Enc.sz (eI .i64)) (.slice A0 n0 k0) n0 (Enc.flat (eI .i64) a0)) (hg1 : isFn prog g1 = true) (hF1 : ∀ (x0 : Int) (x1 : Int) (r : Int) (W : World), World.grownBy w W (Value.slice A0 n0 k0).ownBlock → a1 x0 x1 = some r → Calls prog g1 (([.int .i64 x0, .int .i64 x1] : List Value) ++ cp1).toArray W (Ret W (.int .i64 r))) : Calls prog 117 #[.slice A0 (n0) k0, .func (.func g1) #[] cp1.toArray] w (RetW (eI .i64) B0 3 A0 n0 k0 w r (.tuple #[])) := by
  subst hn0
  refine callsW (args := [.slice A0 (List.length a0) k0, .func (.func g1) #[] cp1.toArray]) rfl h0 func117 rfl ?_
  replace h : H (X.slices_SortStableFunc_int_int fu a0 a1) (fun o => o = r) := H.mk h
  unfold X.slices_SortStableFunc_int_int at h
  refine r_start ?_
  refine p 4 ?_
  obtain ⟨v0_4, hv0_4, h⟩ := H.call h
  refine xx rfl (e_cwW (e := (eI .i64)) (l' := v0_4) (v := .tuple #[]) 0 [.slice A0 (List.length a0) k0, .int .i64 (List.length a0 : Int), .func (.func g1) #[] cp1.toArray] func182 (fun W S => C.slices_stableCmpFunc_int W hv0_4 (S.rowW 0).1 (S.rowW 0).2 hg1 (fun x0_2 x1_2 r W2 hu2 hx2 => hF1 x0_2 x1_2 r W2 (grw_tr S.grw hu2) hx2)) ?_)
  refine rend ?_
  replace h := H.done h
  subst h
  exact fin func117 rfl (vs := []) .nil rfl (fun W S => S.retW)
theorem C.i_patternOf {fu : Nat} {a0 : Sign} {r : Pattern} (w : World) (h : X.i_patternOf fu a0 = some r) : Calls prog 183 #[.agg (eSign a0).toArray] w (Ret w (.agg (ePattern r).toArray)) := by
  refine calls (M := no) (args := [.agg (eSign a0).toArray]) func183 rfl ?_
  replace h : H (X.i_patternOf fu a0) (fun o => o = r) := H.mk h
  unfold X.i_patternOf at h
  refine c_seq ?_
  refine r_start ?_
  refine xx rfl (x_box (eSign a0) fun g0_0 => ?_)
  refine xx rfl (x_new (ePattern zPattern) fun g0_1 => ?_)
  refine rend ?_
  refine c_seq ?_
  refine r_start ?_
  refine xq rfl (y_load (.agg (eSign a0).toArray) 0 g0_0 0) ?_
  obtain ⟨v1_1, hv1_1, h⟩ := H.call h
  refine xq rfl (y_call [.agg (eSign a0).toArray] (.agg (eSign v1_1).toArray) func61 (fun W S => C.i_Sign_normal W hv1_1)) ?_
  refine p 1 ?_
  refine xx rfl (x_new (eHand zHand) fun g1_3 => ?_)
  refine xx rfl (x_sto 2 g1_3 0 (eHand v1_1.Main) ?_)
  refine rend ?_
  refine c_seq ?_
  refine as_start 16 16 ?_
  refine ap 0 1 ?_
  refine aq 1 rfl (y_load (.agg (eShape v1_1.Main.Shape).toArray) 2 g1_3 0) ?_
  obtain ⟨v2_2, hv2_2, h⟩ := H.call h
  refine aq 2 rfl (y_call [.agg (eShape v1_1.Main.Shape).toArray] (.string (bs v2_2)) func154 (fun W S => C.i_Shape_text W hv2_2)) ?_
  obtain ⟨y2_3, hy2_3, h⟩ := H.call h
  refine aq 3 rfl (y_cut hy2_3) ?_
  refine ap 4 1 ?_
  refine aq 5 rfl (y_load (.agg (eOrient v1_1.Main.Orient).toArray) 2 g1_3 6) ?_
  obtain ⟨v2_6, hv2_6, h⟩ := H.call h
  refine aq 6 rfl (y_call [.agg (eOrient v1_1.Main.Orient).toArray] (.string (bs v2_6)) func155 (fun W S => C.i_Orient_text W hv2_6)) ?_
  refine ap 7 2 ?_
  refine aq 9 rfl (y_load (.int .i64 v1_1.Main.Place.Region) 2 g1_3 8) ?_
  refine ap 10 1 ?_
  refine aq 11 rfl (y_load (.agg (eMove v1_1.Main.Move).toArray) 2 g1_3 11) ?_
  obtain ⟨v2_12, hv2_12, h⟩ := H.call h
  refine aq 12 rfl (y_call [.agg (eMove v1_1.Main.Move).toArray] (.string (bs v2_12)) func140 (fun W S => C.i_Move_all W hv2_12)) ?_
  refine ap 13 1 ?_
  refine ax 14 rfl (x_new (ePattern zPattern) fun g2_14 => ⟨.inr (by kernel_rfl), ?_⟩)
  refine ax 15 rfl (x_sto 3 g2_14 0 (ePattern (⟨y2_3, v2_6, v1_1.Main.Place.Region, v2_12, 1⟩ : Pattern)) ⟨.inr (by kernel_rfl), ?_⟩)
  refine a_done ?_
  refine c_seq ?_
  refine c_seq ?_
  refine r_start ?_
  refine p 1 ?_
  refine xq rfl (y_load (.bool a0.Two) 0 g0_0 13) ?_
  refine rend ?_
  refine c_or a0.Two (fun q1 => ?_) (fun q1 => ?_)
  · replace h := H.t q1 h
    refine r_start ?_
    refine p 1 ?_
    refine xx rfl (x_sto 3 g2_14 4 (ePattern (⟨y2_3, v2_6, v1_1.Main.Place.Region, v2_12, 2⟩ : Pattern)) ?_)
    refine rend ?_
    refine c_seq ?_
    refine r_start ?_
    refine xq rfl (y_load (.agg (ePattern (⟨y2_3, v2_6, v1_1.Main.Place.Region, v2_12, 2⟩ : Pattern)).toArray) 3 g2_14 0) ?_
    refine xx rfl (x_sto 1 g0_1 0 (ePattern (⟨y2_3, v2_6, v1_1.Main.Place.Region, v2_12, 2⟩ : Pattern)) ?_)
    refine rend ?_
    replace h := H.done h
    subst h
    exact ret func183 rfl (vs := [.agg (ePattern (⟨y2_3, v2_6, v1_1.Main.Place.Region, v2_12, 2⟩ : Pattern)).toArray]) (.cell 1 g0_1 rfl (by kernel_rfl) (by kernel_rfl) .nil) rfl (fun W S => ⟨rfl, S.below⟩)
  replace h := H.f q1 h
  refine c_skip ?_
  refine c_seq ?_
  refine r_start ?_
  refine xq rfl (y_load (.agg (ePattern (⟨y2_3, v2_6, v1_1.Main.Place.Region, v2_12, 1⟩ : Pattern)).toArray) 3 g2_14 0) ?_
  refine xx rfl (x_sto 1 g0_1 0 (ePattern (⟨y2_3, v2_6, v1_1.Main.Place.Region, v2_12, 1⟩ : Pattern)) ?_)
  refine rend ?_
  replace h := H.done h
  subst h
  exact ret func183 rfl (vs := [.agg (ePattern (⟨y2_3, v2_6, v1_1.Main.Place.Region, v2_12, 1⟩ : Pattern)).toArray]) (.cell 1 g0_1 rfl (by kernel_rfl) (by kernel_rfl) .nil) rfl (fun W S => ⟨rfl, S.below⟩)
theorem C.i_apart {a0 : Str} {a1 : Str} {r : Int} (w : World) (h : X.i_apart a0 a1 = some r) : Calls prog 184 #[.string (bs a0), .string (bs a1)] w (Ret w (.int .i64 r)) := by
  refine calls (M := no) (args := [.string (bs a0), .string (bs a1)]) func184 rfl ?_
  replace h : H (X.i_apart a0 a1) (fun o => o = r) := H.mk h
  unfold X.i_apart at h
  refine c_seq ?_
  refine r_start ?_
  refine p 1 ?_
  refine rend ?_
  refine c_seq ?_
  refine r_start ?_
  refine p 1 ?_
  refine rend ?_
  refine c_seq ?_
  refine c_seq ?_
  refine r_start ?_
  refine p 3 ?_
  refine rend ?_
  refine c_block ?_
  refine joinH (X := Int) 0 (H.bnd h) (fun (x : Int) => x) (fun n2 => []) (fun n2 u => (jk u 0 5 (.int .i64 n2 :: (jk u 6 23 [])))) (fun h hj3 => ?_) ?_
  · skip
    refine rangeNR (X := Int) (fun (x : Int) => x) (fun n1 => []) (fun (j4 : Int) n1 u => (.string (bs a0) :: .string (bs a1) :: (jk u 2 3 (.int .i64 n1 :: (jk u 6 2 (.int .i64 (List.length a0 : Int) :: .int .i64 j4 :: (jk u 10 19 []))))))) 0 h (by kernel_rfl) (by kernel_rfl) ?_ ?_
    · intro j4 n1 u q5 hw6 h
      refine c_seq ?_
      refine r_start ?_
      refine p 1 ?_
      refine rend ?_
      refine c_seq ?_
      refine c_yes q5 ?_
      refine c_skip ?_
      refine c_seq ?_
      refine c_block ?_
      refine c_seq ?_
      refine r_start ?_
      refine p 2 ?_
      refine rend ?_
      refine c_seq ?_
      refine as_start 13 13 ?_
      refine ap 0 2 ?_
      obtain ⟨y5_2, hy5_2, h⟩ := H.call h
      refine aq 2 rfl (y_byte hy5_2) ?_
      refine ap 3 2 ?_
      refine br (y5_2 != 63) (fun q8 => ?_) (fun q8 => ?_)
      · replace h := H.t q8 h
        refine a_set 16 (congrArg Value.bool q8) ?_
        refine ap 5 2 ?_
        refine aq 7 rfl (y_byte hy5_2) ?_
        refine ap 8 2 ?_
        obtain ⟨y5_10, hy5_10, h⟩ := H.call h
        refine aq 10 rfl (y_byte hy5_10) ?_
        refine ap 11 2 ?_
        refine a_done ?_
        refine c_or (y5_2 != y5_10) (fun q9 => ?_) (fun q9 => ?_)
        · replace h := H.t q9 h
          refine r_start ?_
          refine p 3 ?_
          refine rend ?_
          refine c_inb ?_
          refine r_start ?_
          refine p 2 ?_
          refine rend ?_
          refine c_set 9 (ci hw6) ?_
          replace h := H.inl h
          exact h (wr (n1 + 1)) _ _ rfl (by kernel_rfl) (by kernel_rfl)
        replace h := H.f q9 h
        refine c_skip ?_
        refine c_inb ?_
        refine r_start ?_
        refine p 2 ?_
        refine rend ?_
        refine c_set 9 (ci hw6) ?_
        replace h := H.inl h
        exact h n1 _ _ rfl (by kernel_rfl) (by kernel_rfl)
      replace h := H.f q8 h
      refine a_set 16 (congrArg Value.bool q8) ?_
      refine ap 5 8 ?_
      refine a_done ?_
      refine c_f (by kernel_rfl) ?_
      refine c_skip ?_
      refine c_inb ?_
      refine r_start ?_
      refine p 2 ?_
      refine rend ?_
      refine c_set 9 (ci hw6) ?_
      replace h := H.inl h
      exact h n1 _ _ rfl (by kernel_rfl) (by kernel_rfl)
    · intro j7 n1 u q5 h
      refine c_seq ?_
      refine r_start ?_
      refine p 1 ?_
      refine rend ?_
      refine c_seq ?_
      refine c_no q5 ?_
      refine cx ?_
      replace h := H.done h
      exact hj3 n1 _ _ h (by kernel_rfl) (by kernel_rfl)
  intro n2 u h
  refine c_seq ?_
  refine r_start ?_
  refine p 2 ?_
  refine rend ?_
  replace h := H.done h
  subst h
  exact ret func184 rfl (vs := [.int .i64 n2]) (.tmp (by kernel_rfl) .nil) rfl (fun W S => ⟨rfl, S.below⟩)
theorem C.i_fits {a0 : Str} {a1 : Str} {r : Bool} (w : World) (h : X.i_fits a0 a1 = some r) : Calls prog 185 #[.string (bs a0), .string (bs a1)] w (Ret w (.bool r)) := by
  refine calls (M := no) (args := [.string (bs a0), .string (bs a1)]) func185 rfl ?_
  replace h : H (X.i_fits a0 a1) (fun o => o = r) := H.mk h
  unfold X.i_fits at h
  refine c_seq ?_
  refine r_start ?_
  refine p 1 ?_
  refine rend ?_
  refine c_seq ?_
  refine c_seq ?_
  refine r_start ?_
  refine p 2 ?_
  refine rend ?_
  refine c_or (seq a0 ([] : Str)) (fun q1 => ?_) (fun q1 => ?_)
  · replace h := H.t q1 h
    refine c_seq ?_
    refine r_start ?_
    refine p 3 ?_
    refine rend ?_
    replace h := H.done h
    subst h
    exact ret func185 rfl (vs := [.bool (seq a1 ([] : Str))]) (.tmp (by kernel_rfl) .nil) rfl (fun W S => ⟨rfl, S.below⟩)
  replace h := H.f q1 h
  refine c_skip ?_
  refine c_seq ?_
  refine r_start ?_
  refine p 3 ?_
  obtain ⟨y3_3, hy3_3, h⟩ := H.call h
  refine xx rfl (e_make (el := 4) hy3_3 fun A3_3 k3_3 => ?_)
  refine p 1 ?_
  refine rend ?_
  refine c_seq ?_
  refine r_start ?_
  refine p 1 ?_
  obtain ⟨y4_1, hy4_1, h⟩ := H.call h
  refine xq rfl (y_idx (e := eB) (el := 4) hy4_1 (s_own 0)) ?_
  refine xx rfl (e_stel (e := eB) (b := true) 0 0 ([.bool true]) hy4_1 (by kernel_rfl) ?_)
  refine o_set 5 (sl_set (A := A3_3) (c := k3_3) (l := y3_3) (n := Int.toNat 0) (b := true)) ?_
  refine rend ?_
  refine c_seq ?_
  refine c_seq ?_
  refine r_start ?_
  refine p 3 ?_
  refine rend ?_
  refine c_block ?_
  refine joinH (X := ((List Bool) × Option Addr × Nat)) 0 (H.bnd h) (fun ⟨l5, A6, k7⟩ => l5) (fun ⟨l5, A6, k7⟩ => [rowT eB w.heap.size 4 (.slice A6 (List.length l5) k7) l5]) (fun ⟨l5, A6, k7⟩ u => (jk u 0 1 (.string (bs a1) :: (jk u 2 3 (.slice A6 (List.length l5) k7 :: (jk u 6 84 [])))))) (fun h hj8 => ?_) ?_
  · skip
    refine rangeNR (X := ((List Bool) × Option Addr × Nat)) (fun ⟨l2, A3, k4⟩ => l2) (fun ⟨l2, A3, k4⟩ => [rowT eB w.heap.size 4 (.slice A3 (List.length l2) k4) l2]) (fun (j9 : Int) ⟨l2, A3, k4⟩ u => (.string (bs a0) :: .string (bs a1) :: (jk u 2 3 (.slice A3 (List.length l2) k4 :: (jk u 6 14 (.int .i64 (List.length a0 : Int) :: .int .i64 j9 :: (jk u 22 68 []))))))) ((List.set y3_3 (Int.toNat 0) true), A3_3, k3_3) h (by kernel_rfl) (by kernel_rfl) ?_ ?_
    · intro j9 x u q10 hw11 h
      obtain ⟨l2, A3, k4⟩ := x
      refine c_seq ?_
      refine r_start ?_
      refine p 1 ?_
      refine rend ?_
      refine c_seq ?_
      refine c_yes q10 ?_
      refine c_skip ?_
      refine c_seq ?_
      refine c_block ?_
      refine c_seq ?_
      refine r_start ?_
      refine p 2 ?_
      refine rend ?_
      refine c_seq ?_
      refine r_start ?_
      refine p 2 ?_
      obtain ⟨y8_2, hy8_2, h⟩ := H.call h
      refine xx rfl (e_make (el := 4) hy8_2 fun A8_2 k8_2 => ?_)
      refine p 1 ?_
      refine rend ?_
      refine c_seq ?_
      refine c_seq ?_
      refine r_start ?_
      refine p 3 ?_
      refine rend ?_
      refine c_block ?_
      refine joinH (X := ((List Bool) × Option Addr × Nat)) 2 (H.bnd h) (fun ⟨l16, A17, k18⟩ => l16) (fun ⟨l16, A17, k18⟩ => [rowT eB w.heap.size 4 (.slice A3 (List.length l2) k4) l2, rowT eB w.heap.size 4 (.slice A17 (List.length l16) k18) l16]) (fun ⟨l16, A17, k18⟩ u => (.string (bs a0) :: .string (bs a1) :: (jk u 2 5 (.slice A17 (List.length l16) k18 :: (jk u 8 12 (.int .i64 (List.length a0 : Int) :: .int .i64 (j9 : Int) :: (jk u 22 68 []))))))) (fun h hj19 => ?_) ?_
      · skip
        refine rangeR (X := ((List Bool) × Option Addr × Nat)) (s_own 0) (fun ⟨l13, A14, k15⟩ => l13) (fun ⟨l13, A14, k15⟩ => [rowT eB w.heap.size 4 (.slice A3 (List.length l2) k4) l2, rowT eB w.heap.size 4 (.slice A14 (List.length l13) k15) l13]) (fun (j20 : Nat) ⟨l13, A14, k15⟩ u => (.string (bs a0) :: .string (bs a1) :: (jk u 2 3 (.slice A3 (List.length l2) k4 :: .int .i64 (j9 : Int) :: .slice A14 (List.length l13) k15 :: (jk u 8 12 (.int .i64 (List.length a0 : Int) :: .int .i64 (j9 : Int) :: (jk u 22 6 (.int .i64 (List.length l2 : Int) :: .int .i64 (j20 : Int) :: (jk u 30 60 []))))))))) (y8_2, A8_2, k8_2) h (by kernel_rfl) (by kernel_rfl) ?_ ?_
        · intro j20 x u x21 q22 hg23 hw24 h
          obtain ⟨l13, A14, k15⟩ := x
          refine c_seq ?_
          refine r_start ?_
          refine p 1 ?_
          refine rend ?_
          refine c_seq ?_
          refine c_yes q22 ?_
          refine c_skip ?_
          refine c_seq ?_
          refine c_block ?_
          refine c_seq ?_
          refine r_start ?_
          refine p 2 ?_
          refine rend ?_
          refine c_seq ?_
          refine r_start ?_
          refine p 2 ?_
          obtain ⟨y12_2, hy12_2, h⟩ := H.call h
          refine xq rfl (y_byte hy12_2) ?_
          refine p 1 ?_
          refine rend ?_
          refine frg (fun u => (.string (bs a0) :: .string (bs a1) :: (jk u 2 3 (.slice A3 (List.length l2) k4 :: .int .i64 (j9 : Int) :: .slice A14 (List.length l13) k15 :: .int .i64 (j20 : Int) :: (jk u 9 11 (.int .i64 (List.length a0 : Int) :: .int .i64 (j9 : Int) :: (jk u 22 6 (.int .i64 (List.length l2 : Int) :: .int .i64 (j20 : Int) :: (jk u 30 5 (.bool (y12_2 == 42) :: (jk u 36 54 []))))))))))) (by kernel_rfl) fun u => ?_
          refine keep 2 (its' := [rowT eB w.heap.size 4 (.slice A3 (List.length l2) k4) l2, rowT eB w.heap.size 4 (.slice A14 (List.length l13) k15) l13]) (by kernel_rfl) ?_
          refine c_or (y12_2 == 42) (fun q25 => ?_) (fun q25 => ?_)
          · replace h := H.t q25 h
            refine r_start ?_
            refine p 4 ?_
            refine xq rfl (y_idx (e := eB) (el := 4) hg23 (s_own 0)) ?_
            refine xq rfl (y_el (e := eB) 0 (.bool x21) hg23 (s_own 0)) ?_
            refine p 1 ?_
            refine br x21 (fun q26 => ?_) (fun q26 => ?_)
            · replace h := H.t q26 h
              refine o_set 42 (congrArg Value.bool q26) ?_
              refine p 10 ?_
              obtain ⟨y13_17, hy13_17, h⟩ := H.call h
              refine xq rfl (y_idx (e := eB) (el := 4) hy13_17 (s_own 1)) ?_
              refine xx rfl (e_stel (e := eB) (b := true) 1 0 ([.bool true]) hy13_17 (by kernel_rfl) ?_)
              refine o_set 7 (sl_set (A := A14) (c := k15) (l := l13) (n := Int.toNat (j20 : Int)) (b := true)) ?_
              refine rend ?_
              refine c_inb ?_
              refine r_start ?_
              refine p 2 ?_
              refine rend ?_
              refine c_set 29 (ci hw24) ?_
              replace h := H.inl h
              exact h ((List.set l13 (Int.toNat (j20 : Int)) true), A14, k15) _ _ rfl (by kernel_rfl) (by kernel_rfl)
            replace h := H.f q26 h
            refine o_set 42 (congrArg Value.bool q26) ?_
            refine p 3 ?_
            refine br (decide ((j20 : Int) > 0)) (fun q27 => ?_) (fun q27 => ?_)
            · replace h := H.t q27 h
              refine o_set 45 (congrArg Value.bool q27) ?_
              refine p 3 ?_
              obtain ⟨y13_13, hy13_13, h⟩ := H.call h
              refine xq rfl (y_idx (e := eB) (el := 4) hy13_13 (s_own 1)) ?_
              refine xq rfl (y_el (e := eB) 0 (.bool y13_13) hy13_13 (s_own 1)) ?_
              refine p 2 ?_
              obtain ⟨y13_17, hy13_17, h⟩ := H.call h
              refine xq rfl (y_idx (e := eB) (el := 4) hy13_17 (s_own 1)) ?_
              refine xx rfl (e_stel (e := eB) (b := y13_13) 1 0 ([.bool y13_13]) hy13_17 (by kernel_rfl) ?_)
              refine o_set 7 (sl_set (A := A14) (c := k15) (l := l13) (n := Int.toNat (j20 : Int)) (b := y13_13)) ?_
              refine rend ?_
              refine c_inb ?_
              refine r_start ?_
              refine p 2 ?_
              refine rend ?_
              refine c_set 29 (ci hw24) ?_
              replace h := H.inl h
              exact h ((List.set l13 (Int.toNat (j20 : Int)) y13_13), A14, k15) _ _ rfl (by kernel_rfl) (by kernel_rfl)
            replace h := H.f q27 h
            refine o_set 45 (congrArg Value.bool q27) ?_
            refine p 7 ?_
            obtain ⟨y13_17, hy13_17, h⟩ := H.call h
            refine xq rfl (y_idx (e := eB) (el := 4) hy13_17 (s_own 1)) ?_
            refine xx rfl (e_stel (e := eB) (b := false) 1 0 ([.bool false]) hy13_17 (by kernel_rfl) ?_)
            refine o_set 7 (sl_set (A := A14) (c := k15) (l := l13) (n := Int.toNat (j20 : Int)) (b := false)) ?_
            refine rend ?_
            refine c_inb ?_
            refine r_start ?_
            refine p 2 ?_
            refine rend ?_
            refine c_set 29 (ci hw24) ?_
            replace h := H.inl h
            exact h ((List.set l13 (Int.toNat (j20 : Int)) false), A14, k15) _ _ rfl (by kernel_rfl) (by kernel_rfl)
          replace h := H.f q25 h
          refine as_start 28 29 ?_
          refine ap 0 5 ?_
          refine br (decide ((j20 : Int) > 0)) (fun q28 => ?_) (fun q28 => ?_)
          · replace h := H.t q28 h
            refine a_set 58 (congrArg Value.bool q28) ?_
            refine ap 5 3 ?_
            obtain ⟨y14_8, hy14_8, h⟩ := H.call h
            refine aq 8 rfl (y_idx (e := eB) (el := 4) hy14_8 (s_own 0)) ?_
            refine aq 9 rfl (y_el (e := eB) 0 (.bool y14_8) hy14_8 (s_own 0)) ?_
            refine ap 10 2 ?_
            refine br y14_8 (fun q29 => ?_) (fun q29 => ?_)
            · replace h := H.t q29 h
              refine a_set 65 (congrArg Value.bool q29) ?_
              refine ap 12 2 ?_
              refine aq 14 rfl (y_byte hy12_2) ?_
              refine ap 15 2 ?_
              refine br (y12_2 == 63) (fun q30 => ?_) (fun q30 => ?_)
              · replace h := H.t q30 h
                refine a_set 70 (congrArg Value.bool q30) ?_
                refine ap 17 10 ?_
                obtain ⟨y14_27, hy14_27, h⟩ := H.call h
                refine aq 27 rfl (y_idx (e := eB) (el := 4) hy14_27 (s_own 1)) ?_
                refine ax 28 rfl (e_stel (e := eB) (b := true) 1 0 ([.bool true]) hy14_27 (by kernel_rfl) ⟨.inl (by kernel_rfl), ?_⟩)
                refine a_set 7 (sl_set (A := A14) (c := k15) (l := l13) (n := Int.toNat (j20 : Int)) (b := true)) ?_
                refine a_done ?_
                refine c_inb ?_
                refine r_start ?_
                refine p 2 ?_
                refine rend ?_
                refine c_set 29 (ci hw24) ?_
                replace h := H.inl h
                exact h ((List.set l13 (Int.toNat (j20 : Int)) true), A14, k15) _ _ rfl (by kernel_rfl) (by kernel_rfl)
              replace h := H.f q30 h
              refine a_set 70 (congrArg Value.bool q30) ?_
              refine ap 17 2 ?_
              refine aq 19 rfl (y_byte hy12_2) ?_
              refine ap 20 3 ?_
              obtain ⟨y14_23, hy14_23, h⟩ := H.call h
              refine aq 23 rfl (y_byte hy14_23) ?_
              refine ap 24 3 ?_
              obtain ⟨y14_27, hy14_27, h⟩ := H.call h
              refine aq 27 rfl (y_idx (e := eB) (el := 4) hy14_27 (s_own 1)) ?_
              refine ax 28 rfl (e_stel (e := eB) (b := (y12_2 == y14_23)) 1 0 ([.bool (y12_2 == y14_23)]) hy14_27 (by kernel_rfl) ⟨.inl (by kernel_rfl), ?_⟩)
              refine a_set 7 (sl_set (A := A14) (c := k15) (l := l13) (n := Int.toNat (j20 : Int)) (b := (y12_2 == y14_23))) ?_
              refine a_done ?_
              refine c_inb ?_
              refine r_start ?_
              refine p 2 ?_
              refine rend ?_
              refine c_set 29 (ci hw24) ?_
              replace h := H.inl h
              exact h ((List.set l13 (Int.toNat (j20 : Int)) (y12_2 == y14_23)), A14, k15) _ _ rfl (by kernel_rfl) (by kernel_rfl)
            replace h := H.f q29 h
            refine a_set 65 (congrArg Value.bool q29) ?_
            refine ap 12 15 ?_
            obtain ⟨y14_27, hy14_27, h⟩ := H.call h
            refine aq 27 rfl (y_idx (e := eB) (el := 4) hy14_27 (s_own 1)) ?_
            refine ax 28 rfl (e_stel (e := eB) (b := false) 1 0 ([.bool false]) hy14_27 (by kernel_rfl) ⟨.inl (by kernel_rfl), ?_⟩)
            refine a_set 7 (sl_set (A := A14) (c := k15) (l := l13) (n := Int.toNat (j20 : Int)) (b := false)) ?_
            refine a_done ?_
            refine c_inb ?_
            refine r_start ?_
            refine p 2 ?_
            refine rend ?_
            refine c_set 29 (ci hw24) ?_
            replace h := H.inl h
            exact h ((List.set l13 (Int.toNat (j20 : Int)) false), A14, k15) _ _ rfl (by kernel_rfl) (by kernel_rfl)
          replace h := H.f q28 h
          refine a_set 58 (congrArg Value.bool q28) ?_
          refine ap 5 22 ?_
          obtain ⟨y14_27, hy14_27, h⟩ := H.call h
          refine aq 27 rfl (y_idx (e := eB) (el := 4) hy14_27 (s_own 1)) ?_
          refine ax 28 rfl (e_stel (e := eB) (b := false) 1 0 ([.bool false]) hy14_27 (by kernel_rfl) ⟨.inl (by kernel_rfl), ?_⟩)
          refine a_set 7 (sl_set (A := A14) (c := k15) (l := l13) (n := Int.toNat (j20 : Int)) (b := false)) ?_
          refine a_done ?_
          refine c_inb ?_
          refine r_start ?_
          refine p 2 ?_
          refine rend ?_
          refine c_set 29 (ci hw24) ?_
          replace h := H.inl h
          exact h ((List.set l13 (Int.toNat (j20 : Int)) false), A14, k15) _ _ rfl (by kernel_rfl) (by kernel_rfl)
        · intro x u q22 h
          obtain ⟨l13, A14, k15⟩ := x
          refine c_seq ?_
          refine r_start ?_
          refine p 1 ?_
          refine rend ?_
          refine c_seq ?_
          refine c_no q22 ?_
          refine cx ?_
          replace h := H.done h
          exact hj19 (l13, A14, k15) _ _ h (by kernel_rfl) (by kernel_rfl)
      intro x u h
      obtain ⟨l16, A17, k18⟩ := x
      refine r_start ?_
      refine p 2 ?_
      refine rend ?_
      refine c_inb ?_
      refine r_start ?_
      refine p 2 ?_
      refine rend ?_
      refine pick [1] [rowT eB w.heap.size 4 (.slice A17 (List.length l16) k18) l16] ?_
      refine c_set 21 (ci hw11) ?_
      replace h := H.inl h
      exact h (l16, A17, k18) _ _ rfl (by kernel_rfl) (by kernel_rfl)
    · intro j12 x u q10 h
      obtain ⟨l2, A3, k4⟩ := x
      refine c_seq ?_
      refine r_start ?_
      refine p 1 ?_
      refine rend ?_
      refine c_seq ?_
      refine c_no q10 ?_
      refine cx ?_
      replace h := H.done h
      exact hj8 (l2, A3, k4) _ _ h (by kernel_rfl) (by kernel_rfl)
  intro x u h
  obtain ⟨l5, A6, k7⟩ := x
  refine c_seq ?_
  refine r_start ?_
  refine p 3 ?_
  obtain ⟨y18_3, hy18_3, h⟩ := H.call h
  refine xq rfl (y_idx (e := eB) (el := 4) hy18_3 (s_own 0)) ?_
  refine xq rfl (y_el (e := eB) 0 (.bool y18_3) hy18_3 (s_own 0)) ?_
  refine p 1 ?_
  refine rend ?_
  replace h := H.done h
  subst h
  exact ret func185 rfl (vs := [.bool y18_3]) (.tmp (by kernel_rfl) .nil) rfl (fun W S => ⟨rfl, S.below⟩)
theorem C.i_Pattern_cost {fu : Nat} {a0 : Pattern} {a1 : Sign} {r : Int} (w : World) (h : X.i_Pattern_cost fu a0 a1 = some r) : Calls prog 119 #[.agg (ePattern a0).toArray, .agg (eSign a1).toArray] w (Ret w (.int .i64 r)) := by
  refine calls (M := no) (args := [.agg (ePattern a0).toArray, .agg (eSign a1).toArray]) func119 rfl ?_
  replace h : H (X.i_Pattern_cost fu a0 a1) (fun o => o = r) := H.mk h
  unfold X.i_Pattern_cost at h
  refine c_seq ?_
  refine r_start ?_
  refine xx rfl (x_box (ePattern a0) fun g0_0 => ?_)
  refine xx rfl (x_box (eSign a1) fun g0_1 => ?_)
  refine p 1 ?_
  refine rend ?_
  refine c_seq ?_
  refine r_start ?_
  refine xq rfl (y_load (.agg (eSign a1).toArray) 1 g0_1 0) ?_
  obtain ⟨v1_1, hv1_1, h⟩ := H.call h
  refine xq rfl (y_call [.agg (eSign a1).toArray] (.agg (ePattern v1_1).toArray) func183 (fun W S => C.i_patternOf W hv1_1)) ?_
  refine xx rfl (x_new (ePattern zPattern) fun g1_2 => ?_)
  refine xx rfl (x_sto 2 g1_2 0 (ePattern v1_1) ?_)
  refine rend ?_
  refine c_seq ?_
  refine as_start 12 12 ?_
  refine ap 0 1 ?_
  refine aq 1 rfl (y_load (.string (bs a0.Shape)) 0 g0_0 0) ?_
  refine ap 2 1 ?_
  refine aq 3 rfl (y_load (.string (bs v1_1.Shape)) 2 g1_2 0) ?_
  obtain ⟨v2_4, hv2_4, h⟩ := H.call h
  refine aq 4 rfl (y_call [.string (bs a0.Shape), .string (bs v1_1.Shape)] (.int .i64 v2_4) func184 (fun W S => C.i_apart W hv2_4)) ?_
  refine ap 5 1 ?_
  refine aq 6 rfl (y_load (.string (bs a0.Orient)) 0 g0_0 1) ?_
  refine ap 7 1 ?_
  refine aq 8 rfl (y_load (.string (bs v1_1.Orient)) 2 g1_2 1) ?_
  obtain ⟨v2_9, hv2_9, h⟩ := H.call h
  refine aq 9 rfl (y_call [.string (bs a0.Orient), .string (bs v1_1.Orient)] (.int .i64 v2_9) func184 (fun W S => C.i_apart W hv2_9)) ?_
  refine ap 10 2 ?_
  refine a_done ?_
  refine c_seq ?_
  refine c_seq ?_
  refine r_start ?_
  refine p 1 ?_
  refine xq rfl (y_load (.int .i64 a0.Region) 0 g0_0 2) ?_
  refine p 2 ?_
  refine br (decide (a0.Region ≥ 0)) (fun q1 => ?_) (fun q1 => ?_)
  · replace h := H.t q1 h
    refine o_set 23 (congrArg Value.bool q1) ?_
    refine p 1 ?_
    refine xq rfl (y_load (.int .i64 a0.Region) 0 g0_0 2) ?_
    refine p 1 ?_
    refine xq rfl (y_load (.int .i64 v1_1.Region) 2 g1_2 2) ?_
    refine p 2 ?_
    refine rend ?_
    refine c_or (a0.Region != v1_1.Region) (fun q2 => ?_) (fun q2 => ?_)
    · replace h := H.t q2 h
      refine r_start ?_
      refine p 3 ?_
      refine rend ?_
      refine c_seq ?_
      refine c_seq ?_
      refine r_start ?_
      refine p 1 ?_
      refine xq rfl (y_load (.int .i64 a0.Hands) 0 g0_0 4) ?_
      refine p 2 ?_
      refine br (decide (a0.Hands > 0)) (fun q3 => ?_) (fun q3 => ?_)
      · replace h := H.t q3 h
        refine o_set 35 (congrArg Value.bool q3) ?_
        refine p 1 ?_
        refine xq rfl (y_load (.int .i64 a0.Hands) 0 g0_0 4) ?_
        refine p 1 ?_
        refine xq rfl (y_load (.int .i64 v1_1.Hands) 2 g1_2 4) ?_
        refine p 2 ?_
        refine rend ?_
        refine c_or (a0.Hands != v1_1.Hands) (fun q4 => ?_) (fun q4 => ?_)
        · replace h := H.t q4 h
          refine r_start ?_
          refine p 3 ?_
          refine rend ?_
          refine c_seq ?_
          refine c_seq ?_
          refine r_start ?_
          refine p 1 ?_
          refine xq rfl (y_load (.string (bs a0.Steps)) 0 g0_0 3) ?_
          refine p 1 ?_
          refine xq rfl (y_load (.string (bs v1_1.Steps)) 2 g1_2 3) ?_
          obtain ⟨v7_4, hv7_4, h⟩ := H.call h
          refine xq rfl (y_call [.string (bs a0.Steps), .string (bs v1_1.Steps)] (.bool v7_4) func185 (fun W S => C.i_fits W hv7_4)) ?_
          refine p 1 ?_
          refine rend ?_
          refine c_or (!v7_4) (fun q5 => ?_) (fun q5 => ?_)
          · replace h := H.t q5 h
            refine r_start ?_
            refine p 3 ?_
            refine rend ?_
            refine c_seq ?_
            refine r_start ?_
            refine p 2 ?_
            refine rend ?_
            replace h := H.done h
            subst h
            exact ret func119 rfl (vs := [.int .i64 (wr ((wr ((wr ((wr (v2_4 + v2_9)) + 2)) + 2)) + 3))]) (.tmp (by kernel_rfl) .nil) rfl (fun W S => ⟨rfl, S.below⟩)
          replace h := H.f q5 h
          refine c_skip ?_
          refine c_seq ?_
          refine r_start ?_
          refine p 2 ?_
          refine rend ?_
          replace h := H.done h
          subst h
          exact ret func119 rfl (vs := [.int .i64 (wr ((wr ((wr (v2_4 + v2_9)) + 2)) + 2))]) (.tmp (by kernel_rfl) .nil) rfl (fun W S => ⟨rfl, S.below⟩)
        replace h := H.f q4 h
        refine c_skip ?_
        refine c_seq ?_
        refine c_seq ?_
        refine r_start ?_
        refine p 1 ?_
        refine xq rfl (y_load (.string (bs a0.Steps)) 0 g0_0 3) ?_
        refine p 1 ?_
        refine xq rfl (y_load (.string (bs v1_1.Steps)) 2 g1_2 3) ?_
        obtain ⟨v7_4, hv7_4, h⟩ := H.call h
        refine xq rfl (y_call [.string (bs a0.Steps), .string (bs v1_1.Steps)] (.bool v7_4) func185 (fun W S => C.i_fits W hv7_4)) ?_
        refine p 1 ?_
        refine rend ?_
        refine c_or (!v7_4) (fun q6 => ?_) (fun q6 => ?_)
        · replace h := H.t q6 h
          refine r_start ?_
          refine p 3 ?_
          refine rend ?_
          refine c_seq ?_
          refine r_start ?_
          refine p 2 ?_
          refine rend ?_
          replace h := H.done h
          subst h
          exact ret func119 rfl (vs := [.int .i64 (wr ((wr ((wr (v2_4 + v2_9)) + 2)) + 3))]) (.tmp (by kernel_rfl) .nil) rfl (fun W S => ⟨rfl, S.below⟩)
        replace h := H.f q6 h
        refine c_skip ?_
        refine c_seq ?_
        refine r_start ?_
        refine p 2 ?_
        refine rend ?_
        replace h := H.done h
        subst h
        exact ret func119 rfl (vs := [.int .i64 (wr ((wr (v2_4 + v2_9)) + 2))]) (.tmp (by kernel_rfl) .nil) rfl (fun W S => ⟨rfl, S.below⟩)
      replace h := H.f q3 h
      refine o_set 35 (congrArg Value.bool q3) ?_
      refine p 6 ?_
      refine rend ?_
      refine c_f (by kernel_rfl) ?_
      refine c_skip ?_
      refine c_seq ?_
      refine c_seq ?_
      refine r_start ?_
      refine p 1 ?_
      refine xq rfl (y_load (.string (bs a0.Steps)) 0 g0_0 3) ?_
      refine p 1 ?_
      refine xq rfl (y_load (.string (bs v1_1.Steps)) 2 g1_2 3) ?_
      obtain ⟨v7_4, hv7_4, h⟩ := H.call h
      refine xq rfl (y_call [.string (bs a0.Steps), .string (bs v1_1.Steps)] (.bool v7_4) func185 (fun W S => C.i_fits W hv7_4)) ?_
      refine p 1 ?_
      refine rend ?_
      refine c_or (!v7_4) (fun q7 => ?_) (fun q7 => ?_)
      · replace h := H.t q7 h
        refine r_start ?_
        refine p 3 ?_
        refine rend ?_
        refine c_seq ?_
        refine r_start ?_
        refine p 2 ?_
        refine rend ?_
        replace h := H.done h
        subst h
        exact ret func119 rfl (vs := [.int .i64 (wr ((wr ((wr (v2_4 + v2_9)) + 2)) + 3))]) (.tmp (by kernel_rfl) .nil) rfl (fun W S => ⟨rfl, S.below⟩)
      replace h := H.f q7 h
      refine c_skip ?_
      refine c_seq ?_
      refine r_start ?_
      refine p 2 ?_
      refine rend ?_
      replace h := H.done h
      subst h
      exact ret func119 rfl (vs := [.int .i64 (wr ((wr (v2_4 + v2_9)) + 2))]) (.tmp (by kernel_rfl) .nil) rfl (fun W S => ⟨rfl, S.below⟩)
    replace h := H.f q2 h
    refine c_skip ?_
    refine c_seq ?_
    refine c_seq ?_
    refine r_start ?_
    refine p 1 ?_
    refine xq rfl (y_load (.int .i64 a0.Hands) 0 g0_0 4) ?_
    refine p 2 ?_
    refine br (decide (a0.Hands > 0)) (fun q8 => ?_) (fun q8 => ?_)
    · replace h := H.t q8 h
      refine o_set 35 (congrArg Value.bool q8) ?_
      refine p 1 ?_
      refine xq rfl (y_load (.int .i64 a0.Hands) 0 g0_0 4) ?_
      refine p 1 ?_
      refine xq rfl (y_load (.int .i64 v1_1.Hands) 2 g1_2 4) ?_
      refine p 2 ?_
      refine rend ?_
      refine c_or (a0.Hands != v1_1.Hands) (fun q9 => ?_) (fun q9 => ?_)
      · replace h := H.t q9 h
        refine r_start ?_
        refine p 3 ?_
        refine rend ?_
        refine c_seq ?_
        refine c_seq ?_
        refine r_start ?_
        refine p 1 ?_
        refine xq rfl (y_load (.string (bs a0.Steps)) 0 g0_0 3) ?_
        refine p 1 ?_
        refine xq rfl (y_load (.string (bs v1_1.Steps)) 2 g1_2 3) ?_
        obtain ⟨v7_4, hv7_4, h⟩ := H.call h
        refine xq rfl (y_call [.string (bs a0.Steps), .string (bs v1_1.Steps)] (.bool v7_4) func185 (fun W S => C.i_fits W hv7_4)) ?_
        refine p 1 ?_
        refine rend ?_
        refine c_or (!v7_4) (fun q10 => ?_) (fun q10 => ?_)
        · replace h := H.t q10 h
          refine r_start ?_
          refine p 3 ?_
          refine rend ?_
          refine c_seq ?_
          refine r_start ?_
          refine p 2 ?_
          refine rend ?_
          replace h := H.done h
          subst h
          exact ret func119 rfl (vs := [.int .i64 (wr ((wr ((wr (v2_4 + v2_9)) + 2)) + 3))]) (.tmp (by kernel_rfl) .nil) rfl (fun W S => ⟨rfl, S.below⟩)
        replace h := H.f q10 h
        refine c_skip ?_
        refine c_seq ?_
        refine r_start ?_
        refine p 2 ?_
        refine rend ?_
        replace h := H.done h
        subst h
        exact ret func119 rfl (vs := [.int .i64 (wr ((wr (v2_4 + v2_9)) + 2))]) (.tmp (by kernel_rfl) .nil) rfl (fun W S => ⟨rfl, S.below⟩)
      replace h := H.f q9 h
      refine c_skip ?_
      refine c_seq ?_
      refine c_seq ?_
      refine r_start ?_
      refine p 1 ?_
      refine xq rfl (y_load (.string (bs a0.Steps)) 0 g0_0 3) ?_
      refine p 1 ?_
      refine xq rfl (y_load (.string (bs v1_1.Steps)) 2 g1_2 3) ?_
      obtain ⟨v7_4, hv7_4, h⟩ := H.call h
      refine xq rfl (y_call [.string (bs a0.Steps), .string (bs v1_1.Steps)] (.bool v7_4) func185 (fun W S => C.i_fits W hv7_4)) ?_
      refine p 1 ?_
      refine rend ?_
      refine c_or (!v7_4) (fun q11 => ?_) (fun q11 => ?_)
      · replace h := H.t q11 h
        refine r_start ?_
        refine p 3 ?_
        refine rend ?_
        refine c_seq ?_
        refine r_start ?_
        refine p 2 ?_
        refine rend ?_
        replace h := H.done h
        subst h
        exact ret func119 rfl (vs := [.int .i64 (wr ((wr (v2_4 + v2_9)) + 3))]) (.tmp (by kernel_rfl) .nil) rfl (fun W S => ⟨rfl, S.below⟩)
      replace h := H.f q11 h
      refine c_skip ?_
      refine c_seq ?_
      refine r_start ?_
      refine p 2 ?_
      refine rend ?_
      replace h := H.done h
      subst h
      exact ret func119 rfl (vs := [.int .i64 (wr (v2_4 + v2_9))]) (.tmp (by kernel_rfl) .nil) rfl (fun W S => ⟨rfl, S.below⟩)
    replace h := H.f q8 h
    refine o_set 35 (congrArg Value.bool q8) ?_
    refine p 6 ?_
    refine rend ?_
    refine c_f (by kernel_rfl) ?_
    refine c_skip ?_
    refine c_seq ?_
    refine c_seq ?_
    refine r_start ?_
    refine p 1 ?_
    refine xq rfl (y_load (.string (bs a0.Steps)) 0 g0_0 3) ?_
    refine p 1 ?_
    refine xq rfl (y_load (.string (bs v1_1.Steps)) 2 g1_2 3) ?_
    obtain ⟨v7_4, hv7_4, h⟩ := H.call h
    refine xq rfl (y_call [.string (bs a0.Steps), .string (bs v1_1.Steps)] (.bool v7_4) func185 (fun W S => C.i_fits W hv7_4)) ?_
    refine p 1 ?_
    refine rend ?_
    refine c_or (!v7_4) (fun q12 => ?_) (fun q12 => ?_)
    · replace h := H.t q12 h
      refine r_start ?_
      refine p 3 ?_
      refine rend ?_
      refine c_seq ?_
      refine r_start ?_
      refine p 2 ?_
      refine rend ?_
      replace h := H.done h
      subst h
      exact ret func119 rfl (vs := [.int .i64 (wr ((wr (v2_4 + v2_9)) + 3))]) (.tmp (by kernel_rfl) .nil) rfl (fun W S => ⟨rfl, S.below⟩)
    replace h := H.f q12 h
    refine c_skip ?_
    refine c_seq ?_
    refine r_start ?_
    refine p 2 ?_
    refine rend ?_
    replace h := H.done h
    subst h
    exact ret func119 rfl (vs := [.int .i64 (wr (v2_4 + v2_9))]) (.tmp (by kernel_rfl) .nil) rfl (fun W S => ⟨rfl, S.below⟩)
  replace h := H.f q1 h
  refine o_set 23 (congrArg Value.bool q1) ?_
  refine p 6 ?_
  refine rend ?_
  refine c_f (by kernel_rfl) ?_
  refine c_skip ?_
  refine c_seq ?_
  refine c_seq ?_
  refine r_start ?_
  refine p 1 ?_
  refine xq rfl (y_load (.int .i64 a0.Hands) 0 g0_0 4) ?_
  refine p 2 ?_
  refine br (decide (a0.Hands > 0)) (fun q13 => ?_) (fun q13 => ?_)
  · replace h := H.t q13 h
    refine o_set 35 (congrArg Value.bool q13) ?_
    refine p 1 ?_
    refine xq rfl (y_load (.int .i64 a0.Hands) 0 g0_0 4) ?_
    refine p 1 ?_
    refine xq rfl (y_load (.int .i64 v1_1.Hands) 2 g1_2 4) ?_
    refine p 2 ?_
    refine rend ?_
    refine c_or (a0.Hands != v1_1.Hands) (fun q14 => ?_) (fun q14 => ?_)
    · replace h := H.t q14 h
      refine r_start ?_
      refine p 3 ?_
      refine rend ?_
      refine c_seq ?_
      refine c_seq ?_
      refine r_start ?_
      refine p 1 ?_
      refine xq rfl (y_load (.string (bs a0.Steps)) 0 g0_0 3) ?_
      refine p 1 ?_
      refine xq rfl (y_load (.string (bs v1_1.Steps)) 2 g1_2 3) ?_
      obtain ⟨v7_4, hv7_4, h⟩ := H.call h
      refine xq rfl (y_call [.string (bs a0.Steps), .string (bs v1_1.Steps)] (.bool v7_4) func185 (fun W S => C.i_fits W hv7_4)) ?_
      refine p 1 ?_
      refine rend ?_
      refine c_or (!v7_4) (fun q15 => ?_) (fun q15 => ?_)
      · replace h := H.t q15 h
        refine r_start ?_
        refine p 3 ?_
        refine rend ?_
        refine c_seq ?_
        refine r_start ?_
        refine p 2 ?_
        refine rend ?_
        replace h := H.done h
        subst h
        exact ret func119 rfl (vs := [.int .i64 (wr ((wr ((wr (v2_4 + v2_9)) + 2)) + 3))]) (.tmp (by kernel_rfl) .nil) rfl (fun W S => ⟨rfl, S.below⟩)
      replace h := H.f q15 h
      refine c_skip ?_
      refine c_seq ?_
      refine r_start ?_
      refine p 2 ?_
      refine rend ?_
      replace h := H.done h
      subst h
      exact ret func119 rfl (vs := [.int .i64 (wr ((wr (v2_4 + v2_9)) + 2))]) (.tmp (by kernel_rfl) .nil) rfl (fun W S => ⟨rfl, S.below⟩)
    replace h := H.f q14 h
    refine c_skip ?_
    refine c_seq ?_
    refine c_seq ?_
    refine r_start ?_
    refine p 1 ?_
    refine xq rfl (y_load (.string (bs a0.Steps)) 0 g0_0 3) ?_
    refine p 1 ?_
    refine xq rfl (y_load (.string (bs v1_1.Steps)) 2 g1_2 3) ?_
    obtain ⟨v7_4, hv7_4, h⟩ := H.call h
    refine xq rfl (y_call [.string (bs a0.Steps), .string (bs v1_1.Steps)] (.bool v7_4) func185 (fun W S => C.i_fits W hv7_4)) ?_
    refine p 1 ?_
    refine rend ?_
    refine c_or (!v7_4) (fun q16 => ?_) (fun q16 => ?_)
    · replace h := H.t q16 h
      refine r_start ?_
      refine p 3 ?_
      refine rend ?_
      refine c_seq ?_
      refine r_start ?_
      refine p 2 ?_
      refine rend ?_
      replace h := H.done h
      subst h
      exact ret func119 rfl (vs := [.int .i64 (wr ((wr (v2_4 + v2_9)) + 3))]) (.tmp (by kernel_rfl) .nil) rfl (fun W S => ⟨rfl, S.below⟩)
    replace h := H.f q16 h
    refine c_skip ?_
    refine c_seq ?_
    refine r_start ?_
    refine p 2 ?_
    refine rend ?_
    replace h := H.done h
    subst h
    exact ret func119 rfl (vs := [.int .i64 (wr (v2_4 + v2_9))]) (.tmp (by kernel_rfl) .nil) rfl (fun W S => ⟨rfl, S.below⟩)
  replace h := H.f q13 h
  refine o_set 35 (congrArg Value.bool q13) ?_
  refine p 6 ?_
  refine rend ?_
  refine c_f (by kernel_rfl) ?_
  refine c_skip ?_
  refine c_seq ?_
  refine c_seq ?_
  refine r_start ?_
  refine p 1 ?_
  refine xq rfl (y_load (.string (bs a0.Steps)) 0 g0_0 3) ?_
  refine p 1 ?_
  refine xq rfl (y_load (.string (bs v1_1.Steps)) 2 g1_2 3) ?_
  obtain ⟨v7_4, hv7_4, h⟩ := H.call h
  refine xq rfl (y_call [.string (bs a0.Steps), .string (bs v1_1.Steps)] (.bool v7_4) func185 (fun W S => C.i_fits W hv7_4)) ?_
  refine p 1 ?_
  refine rend ?_
  refine c_or (!v7_4) (fun q17 => ?_) (fun q17 => ?_)
  · replace h := H.t q17 h
    refine r_start ?_
    refine p 3 ?_
    refine rend ?_
    refine c_seq ?_
    refine r_start ?_
    refine p 2 ?_
    refine rend ?_
    replace h := H.done h
    subst h
    exact ret func119 rfl (vs := [.int .i64 (wr ((wr (v2_4 + v2_9)) + 3))]) (.tmp (by kernel_rfl) .nil) rfl (fun W S => ⟨rfl, S.below⟩)
  replace h := H.f q17 h
  refine c_skip ?_
  refine c_seq ?_
  refine r_start ?_
  refine p 2 ?_
  refine rend ?_
  replace h := H.done h
  subst h
  exact ret func119 rfl (vs := [.int .i64 (wr (v2_4 + v2_9))]) (.tmp (by kernel_rfl) .nil) rfl (fun W S => ⟨rfl, S.below⟩)
theorem C.i_Pattern_byCost_1 {fu : Nat} {a0 : Int} {a1 : Int} {a2 : Pattern} {p2 : Nat} {a3 : (List Sign)} {A3 : Option Addr} {k3 : Nat} {p3 : Nat} {r : Int} (w : World) (h : X.i_Pattern_byCost_1 fu a2 a3 a0 a1 = some r) (hp2 : w.heap[p2]? = some (.cells (ePattern a2 : List Value).toArray 74 (0, 0))) (h3 : RdT nSign w (.slice A3 (List.length a3) k3) a3) (hp3 : w.heap[p3]? = some (.cells ([.slice A3 (List.length a3) k3] : List Value).toArray 55 (0, 0))) : Calls prog 118 #[.int .i64 a0, .int .i64 a1, .pointer (some ⟨p2, 0, none⟩), .pointer (some ⟨p3, 0, none⟩)] w (Ret w (.int .i64 r)) := by
  refine calls (M := no) (args := [.int .i64 a0, .int .i64 a1, .pointer (some ⟨p2, 0, none⟩), .pointer (some ⟨p3, 0, none⟩)]) func118 rfl ?_
  replace h : H (X.i_Pattern_byCost_1 fu a2 a3 a0 a1) (fun o => o = r) := H.mk h
  unfold X.i_Pattern_byCost_1 at h
  refine c_seq ?_
  refine r_start ?_
  refine p 1 ?_
  refine rend ?_
  refine c_seq ?_
  refine as_start 14 14 ?_
  refine aq 0 rfl (y_ld0 (.agg (ePattern a2).toArray) p2 0 hp2) ?_
  refine aq 1 rfl (y_ld0 (.slice A3 (List.length a3) k3) p3 0 hp3) ?_
  refine ap 2 1 ?_
  obtain ⟨y1_3, hy1_3, h⟩ := H.call h
  refine aq 3 rfl (y_idx (e := nSign) (el := 47) hy1_3 (s_arg h3)) ?_
  refine aq 4 rfl (y_el (e := nSign) 0 (.agg (eSign y1_3).toArray) hy1_3 (s_arg h3)) ?_
  obtain ⟨v1_5, hv1_5, h⟩ := H.call h
  refine aq 5 rfl (y_call [.agg (ePattern a2).toArray, .agg (eSign y1_3).toArray] (.int .i64 v1_5) func119 (fun W S => C.i_Pattern_cost W hv1_5)) ?_
  refine aq 6 rfl (y_ld0 (.agg (ePattern a2).toArray) p2 0 hp2) ?_
  refine aq 7 rfl (y_ld0 (.slice A3 (List.length a3) k3) p3 0 hp3) ?_
  refine ap 8 1 ?_
  obtain ⟨y1_9, hy1_9, h⟩ := H.call h
  refine aq 9 rfl (y_idx (e := nSign) (el := 47) hy1_9 (s_arg h3)) ?_
  refine aq 10 rfl (y_el (e := nSign) 0 (.agg (eSign y1_9).toArray) hy1_9 (s_arg h3)) ?_
  obtain ⟨v1_11, hv1_11, h⟩ := H.call h
  refine aq 11 rfl (y_call [.agg (ePattern a2).toArray, .agg (eSign y1_9).toArray] (.int .i64 v1_11) func119 (fun W S => C.i_Pattern_cost W hv1_11)) ?_
  refine ap 12 2 ?_
  refine a_done ?_
  replace h := H.done h
  subst h
  exact ret func118 rfl (vs := [.int .i64 (wr (v1_5 - v1_11))]) (.tmp (by kernel_rfl) .nil) rfl (fun W S => ⟨rfl, S.below⟩)
theorem C.i_Pattern_byCost {fu : Nat} {a0 : Pattern} {a1 : (List Sign)} {A1 : Option Addr} {k1 : Nat} {r : (List Int)} (w : World) (h : X.i_Pattern_byCost fu a0 a1 = some r) (h1 : RdT nSign w (.slice A1 (List.length a1) k1) a1) : Calls prog 77 #[.agg (ePattern a0).toArray, .slice A1 (List.length a1) k1] w (RetR (eI .i64) 3 w r (fun v => v)) := by
  refine calls (M := no) (args := [.agg (ePattern a0).toArray, .slice A1 (List.length a1) k1]) func77 rfl ?_
  replace h : H (X.i_Pattern_byCost fu a0 a1) (fun o => o = r) := H.mk h
  unfold X.i_Pattern_byCost at h
  refine c_seq ?_
  refine r_start ?_
  refine xx rfl (x_box (ePattern a0) fun g0_0 => ?_)
  refine xx rfl (x_box [.slice A1 (List.length a1) k1] fun g0_1 => ?_)
  refine p 1 ?_
  refine rend ?_
  refine c_seq ?_
  refine r_start ?_
  refine xq rfl (y_load (.slice A1 (List.length a1) k1) 1 g0_1 0) ?_
  obtain ⟨v1_1, hv1_1, h⟩ := H.call h
  refine xx rfl (e_cr [.slice A1 (List.length a1) k1, .func (.func 42) #[] #[]] (fun v => v) func101 (fun W S => C.i_those_i_Sign W hv1_1 ((s_arg h1).out W S) (isFn_of func42) (fun x0_2 r W2 hu2 hx2 => C.i_IsSign W2 hx2)) fun A1_1 k1_1 => ?_)
  refine p 1 ?_
  refine rend ?_
  refine c_seq ?_
  refine r_start ?_
  refine p 2 ?_
  obtain ⟨v2_2, hv2_2, h⟩ := H.call h
  refine xx rfl (e_cw (e := (eI .i64)) (l' := v2_2) (v := .tuple #[]) 2 [.slice A1_1 (List.length v1_1) k1_1, .func (.func 118) #[] #[.pointer (some ⟨g0_0, 0, none⟩), .pointer (some ⟨g0_1, 0, none⟩)]] func117 (fun W S => C.slices_SortStableFunc_int_int W hv2_2 rfl (S.row 2) (isFn_of func118) (fun x0_2 x1_2 r W2 hu2 hx2 => C.i_Pattern_byCost_1 W2 hx2 (bx_far S 0 2 (by decide) rfl rfl hu2) (Rd.up h1 (up_far S 2 rfl hu2)) (bx_far S 1 2 (by decide) rfl rfl hu2))) fun hl2_2 => ?_)
  refine o_set 5 (sl_len (A := A1_1) (c := k1_1) hl2_2) ?_
  refine rend ?_
  refine c_seq ?_
  refine r_start ?_
  refine p 2 ?_
  refine rend ?_
  replace h := H.done h
  subst h
  exact ret func77 rfl (vs := [.slice A1_1 (List.length v2_2) k1_1]) (.tmp (by kernel_rfl) .nil) rfl (fun W S => ⟨_, _, rfl, S.row 2, S.below⟩)
theorem C.i_BestAnswers {fu : Nat} {a0 : Pattern} {a1 : (List Sign)} {A1 : Option Addr} {k1 : Nat} {a2 : Int} {r : ((List Int) × Bool)} (w : World) (h : X.i_BestAnswers fu a0 a1 a2 = some r) (h1 : RdT nSign w (.slice A1 (List.length a1) k1) a1) : Calls prog 34 #[.agg (ePattern a0).toArray, .slice A1 (List.length a1) k1, .int .i64 a2] w (RetX (eI .i64) 3 w r.1 (fun v => .tuple #[v, .bool r.2])) := by
  refine calls (M := no) (args := [.agg (ePattern a0).toArray, .slice A1 (List.length a1) k1, .int .i64 a2]) func34 rfl ?_
  replace h : H (X.i_BestAnswers fu a0 a1 a2) (fun o => o = r) := H.mk h
  unfold X.i_BestAnswers at h
  refine c_seq ?_
  refine r_start ?_
  refine xx rfl (x_box (ePattern a0) fun g0_0 => ?_)
  refine p 2 ?_
  refine rend ?_
  refine c_seq ?_
  refine c_seq ?_
  refine r_start ?_
  refine xq rfl (y_load (.agg (ePattern a0).toArray) 0 g0_0 0) ?_
  obtain ⟨v1_1, hv1_1, h⟩ := H.call h
  refine xq rfl (y_call [.agg (ePattern a0).toArray] (.bool v1_1) func75 (fun W S => C.i_IsPattern W hv1_1)) ?_
  refine p 2 ?_
  refine br (!v1_1) (fun q1 => ?_) (fun q1 => ?_)
  · replace h := H.t q1 h
    refine o_set 11 (congrArg Value.bool q1) ?_
    refine p 9 ?_
    refine rend ?_
    refine c_t (by kernel_rfl) ?_
    refine c_seq ?_
    refine r_start ?_
    refine p 2 ?_
    refine rend ?_
    replace h := H.done h
    subst h
    exact ret func34 rfl (vs := [.slice none 0 0, .bool false]) (.tmp (by kernel_rfl) (.tmp (by kernel_rfl) .nil)) rfl (fun W S => ⟨none, 0, rfl, ownsX_of (World.ownsRow_nil _ _ _ _), S.below⟩)
  replace h := H.f q1 h
  refine o_set 11 (congrArg Value.bool q1) ?_
  refine p 1 ?_
  obtain ⟨v1_5, hv1_5, h⟩ := H.call h
  refine xq rfl (y_call [.slice A1 (List.length a1) k1, .int .i64 16] (.bool v1_5) func48 (fun W S => C.i_areSigns W hv1_5 ((s_arg h1).out W S))) ?_
  refine p 3 ?_
  refine br (!v1_5) (fun q2 => ?_) (fun q2 => ?_)
  · replace h := H.t q2 h
    refine o_set 16 (congrArg Value.bool q2) ?_
    refine p 4 ?_
    refine rend ?_
    refine c_t (by kernel_rfl) ?_
    refine c_seq ?_
    refine r_start ?_
    refine p 2 ?_
    refine rend ?_
    replace h := H.done h
    subst h
    exact ret func34 rfl (vs := [.slice none 0 0, .bool false]) (.tmp (by kernel_rfl) (.tmp (by kernel_rfl) .nil)) rfl (fun W S => ⟨none, 0, rfl, ownsX_of (World.ownsRow_nil _ _ _ _), S.below⟩)
  replace h := H.f q2 h
  refine o_set 16 (congrArg Value.bool q2) ?_
  refine p 1 ?_
  obtain ⟨v1_10, hv1_10, h⟩ := H.call h
  refine xq rfl (y_call [.int .i64 a2, .int .i64 0, .int .i64 16] (.bool v1_10) func49 (fun W S => C.i_within W hv1_10)) ?_
  refine p 2 ?_
  refine rend ?_
  refine c_or (!v1_10) (fun q3 => ?_) (fun q3 => ?_)
  · replace h := H.t q3 h
    refine c_seq ?_
    refine r_start ?_
    refine p 2 ?_
    refine rend ?_
    replace h := H.done h
    subst h
    exact ret func34 rfl (vs := [.slice none 0 0, .bool false]) (.tmp (by kernel_rfl) (.tmp (by kernel_rfl) .nil)) rfl (fun W S => ⟨none, 0, rfl, ownsX_of (World.ownsRow_nil _ _ _ _), S.below⟩)
  replace h := H.f q3 h
  refine c_skip ?_
  refine c_seq ?_
  refine r_start ?_
  refine xq rfl (y_load (.agg (ePattern a0).toArray) 0 g0_0 0) ?_
  refine p 1 ?_
  obtain ⟨v3_2, hv3_2, h⟩ := H.call h
  refine xx rfl (e_cr [.agg (ePattern a0).toArray, .slice A1 (List.length a1) k1] (fun v => v) func77 (fun W S => C.i_Pattern_byCost W hv3_2 ((s_arg h1).out W S)) fun A3_2 k3_2 => ?_)
  refine p 4 ?_
  refine o_toX 1 ?_
  obtain ⟨y3_7, hy3_7, h⟩ := H.call h
  refine xq rfl (y_cutl (e := (eI .i64)) (el := 3) hy3_7 (s_ownX 1)) ?_
  refine o_cutX 1 hy3_7 ?_
  refine xq rfl (y_call [.slice (cutA (eI .i64) A3_2 k3_2 (Int.toNat 0)) (List.length y3_7) (k3_2 - Int.toNat 0)] (.slice (cutA (eI .i64) A3_2 k3_2 (Int.toNat 0)) (List.length y3_7) (List.length y3_7)) func76 (fun W S => C.slices_Clip_int_int W (r := y3_7) rfl ((s_ownX 1).out W S))) ?_
  refine o_clipX 1 ?_
  refine p 2 ?_
  refine rend ?_
  replace h := H.done h
  subst h
  exact ret func34 rfl (vs := [.slice (cutA (eI .i64) A3_2 k3_2 (Int.toNat 0)) (List.length y3_7) (List.length y3_7), .bool true]) (.tmp (by kernel_rfl) (.tmp (by kernel_rfl) .nil)) rfl (fun W S => ⟨_, _, rfl, S.rowX 1, S.below⟩)
theorem C.l_FnExactBestAnswers {fu : Nat} {a0 : Pattern} {a1 : (List Sign)} {A1 : Option Addr} {k1 : Nat} {a2 : Int} {r : Bool} (w : World) (h : X.l_FnExactBestAnswers fu a0 a1 a2 = some r) (h1 : RdT nSign w (.slice A1 (List.length a1) k1) a1) : Calls prog 8 #[.agg (ePattern a0).toArray, .slice A1 (List.length a1) k1, .int .i64 a2] w (Ret w (.bool r)) := by
  refine calls (M := no) (args := [.agg (ePattern a0).toArray, .slice A1 (List.length a1) k1, .int .i64 a2]) func8 rfl ?_
  replace h : H (X.l_FnExactBestAnswers fu a0 a1 a2) (fun o => o = r) := H.mk h
  unfold X.l_FnExactBestAnswers at h
  refine c_seq ?_
  refine r_start ?_
  refine xx rfl (x_box (ePattern a0) fun g0_0 => ?_)
  refine p 1 ?_
  refine rend ?_
  refine c_seq ?_
  refine r_start ?_
  refine p 1 ?_
  refine rend ?_
  refine c_seq ?_
  refine r_start ?_
  refine xq rfl (y_load (.agg (ePattern a0).toArray) 0 g0_0 0) ?_
  refine p 1 ?_
  obtain ⟨v2_2, hv2_2, h⟩ := H.call h
  refine xq rfl (y_call [.agg (ePattern a0).toArray, .int .i64 1048576] (.int .i64 v2_2) func31 (fun W S => C.l_szPattern W hv2_2)) ?_
  refine p 1 ?_
  refine rend ?_
  refine c_seq ?_
  refine c_seq ?_
  refine r_start ?_
  refine p 2 ?_
  refine rend ?_
  refine c_or (decide (v2_2 < 0)) (fun q1 => ?_) (fun q1 => ?_)
  · replace h := H.t q1 h
    refine c_seq ?_
    refine r_start ?_
    refine p 1 ?_
    refine rend ?_
    replace h := H.done h
    subst h
    exact ret func8 rfl (vs := [.bool true]) (.tmp (by kernel_rfl) .nil) rfl (fun W S => ⟨rfl, S.below⟩)
  replace h := H.f q1 h
  refine c_skip ?_
  refine c_seq ?_
  refine r_start ?_
  refine p 2 ?_
  obtain ⟨v5_2, hv5_2, h⟩ := H.call h
  refine xq rfl (y_call [.slice A1 (List.length a1) k1, .int .i64 v2_2] (.int .i64 v5_2) func15 (fun W S => C.l_szSignS W hv5_2 ((s_arg h1).out W S))) ?_
  refine p 1 ?_
  refine rend ?_
  refine c_seq ?_
  refine c_seq ?_
  refine r_start ?_
  refine p 2 ?_
  refine rend ?_
  refine c_or (decide (v5_2 < 0)) (fun q2 => ?_) (fun q2 => ?_)
  · replace h := H.t q2 h
    refine c_seq ?_
    refine r_start ?_
    refine p 1 ?_
    refine rend ?_
    replace h := H.done h
    subst h
    exact ret func8 rfl (vs := [.bool true]) (.tmp (by kernel_rfl) .nil) rfl (fun W S => ⟨rfl, S.below⟩)
  replace h := H.f q2 h
  refine c_skip ?_
  refine c_seq ?_
  refine r_start ?_
  refine xq rfl (y_load (.agg (ePattern a0).toArray) 0 g0_0 0) ?_
  obtain ⟨v8_1, hv8_1, h⟩ := H.call h
  refine xq rfl (y_call [.agg (ePattern a0).toArray] (.agg (ePattern v8_1).toArray) func33 (fun W S => C.l_toPattern W hv8_1)) ?_
  refine p 1 ?_
  obtain ⟨v8_3, hv8_3, h⟩ := H.call h
  refine xx rfl (e_cr [.slice A1 (List.length a1) k1] (fun v => v) func17 (fun W S => C.l_toSignS W hv8_3 ((s_arg h1).out W S)) fun A8_3 k8_3 => ?_)
  refine p 1 ?_
  obtain ⟨v8_5, hv8_5, h⟩ := H.call h
  refine xx rfl (e_cr [.agg (ePattern v8_1).toArray, .slice A8_3 (List.length v8_3) k8_3, .int .i64 a2] (fun v => .tuple #[v, .bool v8_5.2]) func32 (fun W S => C.s_BestAnswers W hv8_5 ((s_own 1).out W S)) fun A8_5 k8_5 => ?_)
  refine p 5 ?_
  refine rend ?_
  refine c_seq ?_
  refine r_start ?_
  refine p 1 ?_
  obtain ⟨v9_1, hv9_1, h⟩ := H.call h
  refine xx rfl (e_cr [.slice A1 (List.length a1) k1] (fun v => v) func17 (fun W S => C.l_toSignS W hv9_1 ((s_arg h1).out W S)) fun A9_1 k9_1 => ?_)
  refine p 1 ?_
  refine rend ?_
  refine c_seq ?_
  refine r_start ?_
  refine xq rfl (y_load (.agg (ePattern a0).toArray) 0 g0_0 0) ?_
  obtain ⟨v10_1, hv10_1, h⟩ := H.call h
  refine xq rfl (y_call [.agg (ePattern a0).toArray] (.agg (ePattern v10_1).toArray) func33 (fun W S => C.l_toPattern W hv10_1)) ?_
  refine p 2 ?_
  obtain ⟨v10_4, hv10_4, h⟩ := H.call h
  refine xx rfl (e_crX [.agg (ePattern v10_1).toArray, .slice A9_1 (List.length v9_1) k9_1, .int .i64 a2] (fun v => .tuple #[v, .bool v10_4.2]) func34 (fun W S => C.i_BestAnswers W hv10_4 ((s_own 3).out W S)) fun A10_4 k10_4 => ?_)
  refine p 5 ?_
  refine rend ?_
  refine c_seq ?_
  refine c_seq ?_
  refine r_start ?_
  refine p 2 ?_
  obtain ⟨v11_2, hv11_2, h⟩ := H.call h
  refine xq rfl (y_call [.slice A10_4 (List.length v10_4.1) k10_4, .slice A8_5 (List.length v8_5.1) k8_5] (.bool v11_2) func19 (fun W S => C.l_eqIntS W hv11_2 ((s_ownX 4).out W S) ((s_own 2).out W S))) ?_
  refine p 2 ?_
  refine br (!v11_2) (fun q3 => ?_) (fun q3 => ?_)
  · replace h := H.t q3 h
    refine o_set 51 (congrArg Value.bool q3) ?_
    refine p 4 ?_
    refine rend ?_
    refine c_t (by kernel_rfl) ?_
    refine c_seq ?_
    refine r_start ?_
    refine p 1 ?_
    refine rend ?_
    replace h := H.done h
    subst h
    exact ret func8 rfl (vs := [.bool false]) (.tmp (by kernel_rfl) .nil) rfl (fun W S => ⟨rfl, S.below⟩)
  replace h := H.f q3 h
  refine o_set 51 (congrArg Value.bool q3) ?_
  refine p 4 ?_
  refine rend ?_
  refine c_or (!(v10_4.2 == v8_5.2)) (fun q4 => ?_) (fun q4 => ?_)
  · replace h := H.t q4 h
    refine c_seq ?_
    refine r_start ?_
    refine p 1 ?_
    refine rend ?_
    replace h := H.done h
    subst h
    exact ret func8 rfl (vs := [.bool false]) (.tmp (by kernel_rfl) .nil) rfl (fun W S => ⟨rfl, S.below⟩)
  replace h := H.f q4 h
  refine c_skip ?_
  refine c_seq ?_
  refine c_seq ?_
  refine r_start ?_
  refine p 2 ?_
  obtain ⟨v13_2, hv13_2, h⟩ := H.call h
  refine xx rfl (e_cr [.slice A1 (List.length a1) k1] (fun v => v) func17 (fun W S => C.l_toSignS W hv13_2 ((s_arg h1).out W S)) fun A13_2 k13_2 => ?_)
  obtain ⟨v13_3, hv13_3, h⟩ := H.call h
  refine xq rfl (y_call [.slice A9_1 (List.length v9_1) k9_1, .slice A13_2 (List.length v13_2) k13_2] (.bool v13_3) func20 (fun W S => C.l_eqSignS W hv13_3 ((s_own 3).out W S) ((s_own 5).out W S))) ?_
  refine p 1 ?_
  refine rend ?_
  refine c_or (!v13_3) (fun q5 => ?_) (fun q5 => ?_)
  · replace h := H.t q5 h
    refine c_seq ?_
    refine r_start ?_
    refine p 1 ?_
    refine rend ?_
    refine frg (fun u => (jk u 0 6 (.bool false :: (jk u 7 107 [])))) (by kernel_rfl) fun u => ?_
    refine keep 6 (its' := [box g0_0 71 (ePattern a0), rowT nSign w.heap.size 47 (.slice A8_3 (List.length v8_3) k8_3) v8_3, rowT (eI .i64) w.heap.size 3 (.slice A8_5 (List.length v8_5.1) k8_5) v8_5.1, rowT nSign w.heap.size 47 (.slice A9_1 (List.length v9_1) k9_1) v9_1, rowX (eI .i64) w.heap.size 3 (.slice A10_4 (List.length v10_4.1) k10_4) v10_4.1, rowT nSign w.heap.size 47 (.slice A13_2 (List.length v13_2) k13_2) v13_2]) (by kernel_rfl) ?_
    replace h := H.done h
    subst h
    exact ret func8 rfl (vs := [.bool false]) (.tmp (by kernel_rfl) .nil) rfl (fun W S => ⟨rfl, S.below⟩)
  replace h := H.f q5 h
  refine c_skip ?_
  refine c_seq ?_
  refine r_start ?_
  refine p 1 ?_
  refine rend ?_
  refine frg (fun u => (jk u 0 1 (.slice A1 (List.length a1) k1 :: .int .i64 a2 :: .pointer (some ⟨g0_0, 0, none⟩) :: (jk u 4 4 (.slice A8_5 (List.length v8_5.1) k8_5 :: .bool v8_5.2 :: .slice A9_1 (List.length v9_1) k9_1 :: .slice A10_4 (List.length v10_4.1) k10_4 :: .bool v10_4.2 :: .int .i64 1 :: (jk u 14 100 [])))))) (by kernel_rfl) fun u => ?_
  refine keep 6 (its' := [box g0_0 71 (ePattern a0), rowT nSign w.heap.size 47 (.slice A8_3 (List.length v8_3) k8_3) v8_3, rowT (eI .i64) w.heap.size 3 (.slice A8_5 (List.length v8_5.1) k8_5) v8_5.1, rowT nSign w.heap.size 47 (.slice A9_1 (List.length v9_1) k9_1) v9_1, rowX (eI .i64) w.heap.size 3 (.slice A10_4 (List.length v10_4.1) k10_4) v10_4.1, rowT nSign w.heap.size 47 (.slice A13_2 (List.length v13_2) k13_2) v13_2]) (by kernel_rfl) ?_
  refine c_seq ?_
  refine r_start ?_
  refine p 2 ?_
  obtain ⟨v16_2, hv16_2, h⟩ := H.call h
  refine xx rfl (e_cw (e := nSign) (l' := v16_2.2) (v := .int .i64 v16_2.1) 3 [.slice A9_1 (List.length v9_1) k9_1, .int .i64 1] func21 (fun W S => C.l_markSignS W hv16_2 rfl (S.row 3)) fun hl16_2 => ?_)
  refine o_set 10 (sl_len (A := A9_1) (c := k9_1) hl16_2) ?_
  refine p 1 ?_
  refine rend ?_
  refine c_seq ?_
  refine c_seq ?_
  refine r_start ?_
  refine p 3 ?_
  refine br (decide (v16_2.1 < 0)) (fun q6 => ?_) (fun q6 => ?_)
  · replace h := H.t q6 h
    refine o_set 66 (congrArg Value.bool q6) ?_
    refine p 10 ?_
    refine rend ?_
    refine c_t (by kernel_rfl) ?_
    refine c_seq ?_
    refine r_start ?_
    refine p 1 ?_
    refine rend ?_
    replace h := H.done h
    subst h
    exact ret func8 rfl (vs := [.bool false]) (.tmp (by kernel_rfl) .nil) rfl (fun W S => ⟨rfl, S.below⟩)
  replace h := H.f q6 h
  refine o_set 66 (congrArg Value.bool q6) ?_
  refine p 2 ?_
  obtain ⟨v17_5, hv17_5, h⟩ := H.call h
  refine xq rfl (y_call [.slice A10_4 (List.length v10_4.1) k10_4, .slice A8_5 (List.length v8_5.1) k8_5] (.bool v17_5) func19 (fun W S => C.l_eqIntS W hv17_5 ((s_ownX 4).out W S) ((s_own 2).out W S))) ?_
  refine p 3 ?_
  refine br (!v17_5) (fun q7 => ?_) (fun q7 => ?_)
  · replace h := H.t q7 h
    refine o_set 72 (congrArg Value.bool q7) ?_
    refine p 4 ?_
    refine rend ?_
    refine c_t (by kernel_rfl) ?_
    refine c_seq ?_
    refine r_start ?_
    refine p 1 ?_
    refine rend ?_
    replace h := H.done h
    subst h
    exact ret func8 rfl (vs := [.bool false]) (.tmp (by kernel_rfl) .nil) rfl (fun W S => ⟨rfl, S.below⟩)
  replace h := H.f q7 h
  refine o_set 72 (congrArg Value.bool q7) ?_
  refine p 4 ?_
  refine rend ?_
  refine c_no q4 ?_
  refine c_skip ?_
  refine c_seq ?_
  refine r_start ?_
  refine p 1 ?_
  refine rend ?_
  refine c_seq ?_
  refine r_start ?_
  refine p 2 ?_
  obtain ⟨v20_2, hv20_2, h⟩ := H.call h
  refine xx rfl (e_cwX (e := (eI .i64)) (l' := v20_2.2) (v := .int .i64 v20_2.1) 4 [.slice A10_4 (List.length v10_4.1) k10_4, .int .i64 1] func22 (fun W S => CX.l_markIntS W hv20_2 rfl (S.rowX 4)) fun hl20_2 => ?_)
  refine o_set 11 (sl_len (A := A10_4) (c := k10_4) hl20_2) ?_
  refine p 1 ?_
  refine rend ?_
  refine c_seq ?_
  refine r_start ?_
  refine p 1 ?_
  refine rend ?_
  refine c_seq ?_
  refine r_start ?_
  refine p 2 ?_
  obtain ⟨v22_2, hv22_2, h⟩ := H.call h
  refine xq rfl (y_call [.slice A10_4 (List.length v20_2.2) k10_4, .int .i64 1] (.int .i64 v22_2) func23 (fun W S => C.l_heldIntS W hv22_2 ((s_ownX 4).out W S))) ?_
  refine p 1 ?_
  refine rend ?_
  refine c_seq ?_
  refine c_seq ?_
  refine r_start ?_
  refine p 2 ?_
  refine rend ?_
  refine c_or (decide (v22_2 < 0)) (fun q8 => ?_) (fun q8 => ?_)
  · replace h := H.t q8 h
    refine c_seq ?_
    refine r_start ?_
    refine p 1 ?_
    refine rend ?_
    replace h := H.done h
    subst h
    exact ret func8 rfl (vs := [.bool false]) (.tmp (by kernel_rfl) .nil) rfl (fun W S => ⟨rfl, S.below⟩)
  replace h := H.f q8 h
  refine c_skip ?_
  refine c_seq ?_
  refine c_seq ?_
  refine r_start ?_
  refine p 3 ?_
  refine rend ?_
  refine c_or (v22_2 != v20_2.1) (fun q9 => ?_) (fun q9 => ?_)
  · replace h := H.t q9 h
    refine c_seq ?_
    refine r_start ?_
    refine p 1 ?_
    refine rend ?_
    replace h := H.done h
    subst h
    exact ret func8 rfl (vs := [.bool false]) (.tmp (by kernel_rfl) .nil) rfl (fun W S => ⟨rfl, S.below⟩)
  replace h := H.f q9 h
  refine c_skip ?_
  refine c_seq ?_
  refine r_start ?_
  refine xq rfl (y_load (.agg (ePattern a0).toArray) 0 g0_0 0) ?_
  obtain ⟨v27_1, hv27_1, h⟩ := H.call h
  refine xq rfl (y_call [.agg (ePattern a0).toArray] (.agg (ePattern v27_1).toArray) func33 (fun W S => C.l_toPattern W hv27_1)) ?_
  refine p 1 ?_
  obtain ⟨v27_3, hv27_3, h⟩ := H.call h
  refine xx rfl (e_cr [.slice A1 (List.length a1) k1] (fun v => v) func17 (fun W S => C.l_toSignS W hv27_3 ((s_arg h1).out W S)) fun A27_3 k27_3 => ?_)
  refine p 1 ?_
  obtain ⟨v27_5, hv27_5, h⟩ := H.call h
  refine xx rfl (e_crX [.agg (ePattern v27_1).toArray, .slice A27_3 (List.length v27_3) k27_3, .int .i64 a2] (fun v => .tuple #[v, .bool v27_5.2]) func34 (fun W S => C.i_BestAnswers W hv27_5 ((s_own 6).out W S)) fun A27_5 k27_5 => ?_)
  refine p 5 ?_
  refine rend ?_
  refine c_seq ?_
  refine c_seq ?_
  refine r_start ?_
  refine p 2 ?_
  obtain ⟨v28_2, hv28_2, h⟩ := H.call h
  refine xq rfl (y_call [.slice A27_5 (List.length v27_5.1) k27_5, .slice A8_5 (List.length v8_5.1) k8_5] (.bool v28_2) func19 (fun W S => C.l_eqIntS W hv28_2 ((s_ownX 7).out W S) ((s_own 2).out W S))) ?_
  refine p 2 ?_
  refine br (!v28_2) (fun q10 => ?_) (fun q10 => ?_)
  · replace h := H.t q10 h
    refine o_set 101 (congrArg Value.bool q10) ?_
    refine p 4 ?_
    refine rend ?_
    refine c_t (by kernel_rfl) ?_
    refine c_seq ?_
    refine r_start ?_
    refine p 1 ?_
    refine rend ?_
    replace h := H.done h
    subst h
    exact ret func8 rfl (vs := [.bool false]) (.tmp (by kernel_rfl) .nil) rfl (fun W S => ⟨rfl, S.below⟩)
  replace h := H.f q10 h
  refine o_set 101 (congrArg Value.bool q10) ?_
  refine p 4 ?_
  refine rend ?_
  refine c_or (!(v27_5.2 == v8_5.2)) (fun q11 => ?_) (fun q11 => ?_)
  · replace h := H.t q11 h
    refine c_seq ?_
    refine r_start ?_
    refine p 1 ?_
    refine rend ?_
    replace h := H.done h
    subst h
    exact ret func8 rfl (vs := [.bool false]) (.tmp (by kernel_rfl) .nil) rfl (fun W S => ⟨rfl, S.below⟩)
  replace h := H.f q11 h
  refine c_skip ?_
  refine c_seq ?_
  refine r_start ?_
  refine p 1 ?_
  refine rend ?_
  refine c_seq ?_
  refine r_start ?_
  refine p 2 ?_
  obtain ⟨v31_2, hv31_2, h⟩ := H.call h
  refine xq rfl (y_call [.slice A10_4 (List.length v20_2.2) k10_4, .int .i64 1] (.int .i64 v31_2) func23 (fun W S => C.l_heldIntS W hv31_2 ((s_ownX 4).out W S))) ?_
  refine p 1 ?_
  refine rend ?_
  refine frg (fun u => (jk u 0 14 (.int .i64 v20_2.1 :: .int .i64 v31_2 :: (jk u 16 98 [])))) (by kernel_rfl) fun u => ?_
  refine keep 8 (its' := [box g0_0 71 (ePattern a0), rowT nSign w.heap.size 47 (.slice A8_3 (List.length v8_3) k8_3) v8_3, rowT (eI .i64) w.heap.size 3 (.slice A8_5 (List.length v8_5.1) k8_5) v8_5.1, rowT nSign w.heap.size 47 (.slice A9_1 (List.length v16_2.2) k9_1) v16_2.2, rowX (eI .i64) w.heap.size 3 (.slice A10_4 (List.length v20_2.2) k10_4) v20_2.2, rowT nSign w.heap.size 47 (.slice A13_2 (List.length v13_2) k13_2) v13_2, rowT nSign w.heap.size 47 (.slice A27_3 (List.length v27_3) k27_3) v27_3, rowX (eI .i64) w.heap.size 3 (.slice A27_5 (List.length v27_5.1) k27_5) v27_5.1]) (by kernel_rfl) ?_
  refine c_seq ?_
  refine c_seq ?_
  refine r_start ?_
  refine p 2 ?_
  refine rend ?_
  refine c_or (decide (v31_2 < 0)) (fun q12 => ?_) (fun q12 => ?_)
  · replace h := H.t q12 h
    refine c_seq ?_
    refine r_start ?_
    refine p 1 ?_
    refine rend ?_
    replace h := H.done h
    subst h
    exact ret func8 rfl (vs := [.bool false]) (.tmp (by kernel_rfl) .nil) rfl (fun W S => ⟨rfl, S.below⟩)
  replace h := H.f q12 h
  refine c_skip ?_
  refine c_seq ?_
  refine c_seq ?_
  refine r_start ?_
  refine p 3 ?_
  refine rend ?_
  refine c_or (v31_2 != v20_2.1) (fun q13 => ?_) (fun q13 => ?_)
  · replace h := H.t q13 h
    refine c_seq ?_
    refine r_start ?_
    refine p 1 ?_
    refine rend ?_
    replace h := H.done h
    subst h
    exact ret func8 rfl (vs := [.bool false]) (.tmp (by kernel_rfl) .nil) rfl (fun W S => ⟨rfl, S.below⟩)
  replace h := H.f q13 h
  refine c_skip ?_
  refine c_seq ?_
  refine r_start ?_
  refine p 1 ?_
  refine rend ?_
  replace h := H.done h
  subst h
  exact ret func8 rfl (vs := [.bool true]) (.tmp (by kernel_rfl) .nil) rfl (fun W S => ⟨rfl, S.below⟩)
end Go.Proofs.XC
