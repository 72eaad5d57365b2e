/- Contracts: each function, called where its plain function gives an answer, returns just that answer and changes nothing that was there. By AI agents; no person has read it. -/
import Derived.Test.YtaoeiaoenjilbaaGreatDoorC1
import Derived.Test.YtaoeiaoenjilbaaGreatDoorE0
set_option linter.unusedVariables false
set_option linter.unusedSimpArgs false
set_option maxRecDepth 100000
set_option maxHeartbeats 40000000
namespace Go.Proofs.XC
open Go Go.RowKit
open Tryz
theorem C.s_MiddleSign {fu : Nat} {a0 : (List Sign)} {A0 : Option Addr} {k0 : Nat} {r : (Int × Int × Bool)} (w : World) (h : X.s_MiddleSign fu a0 = some r) (h0 : RdT nSign w (.slice A0 (List.length a0) k0) a0) : Calls prog 26 #[.slice A0 (List.length a0) k0] w (Ret w (.tuple #[.int .i64 r.1, .int .i64 r.2.1, .bool r.2.2])) := by
  refine calls (M := no) (args := [.slice A0 (List.length a0) k0]) func26 rfl ?_
  replace h : H (X.s_MiddleSign fu a0) (fun o => o = r) := H.mk h
  unfold X.s_MiddleSign at h
  refine c_seq ?_
  refine r_start ?_
  refine p 3 ?_
  refine rend ?_
  refine c_seq ?_
  refine c_seq ?_
  refine r_start ?_
  refine p 1 ?_
  obtain ⟨v1_1, hv1_1, h⟩ := H.call h
  refine xq rfl (y_call [.slice A0 (List.length a0) k0] (.bool v1_1) func59 (fun W S => C.s_paList W hv1_1 ((s_arg h0).out W S))) ?_
  refine p 2 ?_
  refine br (!v1_1) (fun q1 => ?_) (fun q1 => ?_)
  · replace h := H.t q1 h
    refine o_set 15 (congrArg Value.bool q1) ?_
    refine p 4 ?_
    refine rend ?_
    refine c_t (by kernel_rfl) ?_
    refine c_seq ?_
    refine r_start ?_
    refine p 3 ?_
    refine rend ?_
    replace h := H.done h
    subst h
    exact ret func26 rfl (vs := [.int .i64 0, .int .i64 0, .bool false]) (.tmp (by kernel_rfl) (.tmp (by kernel_rfl) (.tmp (by kernel_rfl) .nil))) rfl (fun W S => ⟨rfl, S.below⟩)
  replace h := H.f q1 h
  refine o_set 15 (congrArg Value.bool q1) ?_
  refine p 4 ?_
  refine rend ?_
  refine c_or ((List.length a0 : Int) == 0) (fun q2 => ?_) (fun q2 => ?_)
  · replace h := H.t q2 h
    refine c_seq ?_
    refine r_start ?_
    refine p 3 ?_
    refine rend ?_
    replace h := H.done h
    subst h
    exact ret func26 rfl (vs := [.int .i64 0, .int .i64 0, .bool false]) (.tmp (by kernel_rfl) (.tmp (by kernel_rfl) (.tmp (by kernel_rfl) .nil))) rfl (fun W S => ⟨rfl, S.below⟩)
  replace h := H.f q2 h
  refine c_skip ?_
  refine c_seq ?_
  refine r_start ?_
  refine p 2 ?_
  refine rend ?_
  refine c_seq ?_
  refine c_seq ?_
  refine r_start ?_
  refine p 3 ?_
  refine rend ?_
  refine c_block ?_
  refine joinH (X := (Int × Int)) 0 (H.bnd h) (fun (x : (Int × Int)) => x) (fun ⟨n5, n6⟩ => []) (fun ⟨n5, n6⟩ u => (jk u 0 5 (.int .i64 n5 :: .int .i64 n6 :: (jk u 7 44 [])))) (fun h hj7 => ?_) ?_
  · skip
    refine rangeR (X := (Int × Int)) (s_arg h0) (fun (x : (Int × Int)) => x) (fun ⟨n3, n4⟩ => []) (fun (j8 : Nat) ⟨n3, n4⟩ u => (.slice A0 (List.length a0) k0 :: (jk u 1 4 (.int .i64 n3 :: .int .i64 n4 :: (jk u 7 13 (.slice A0 (List.length a0) k0 :: .int .i64 (List.length a0 : Int) :: .int .i64 (j8 : Int) :: (jk u 23 28 []))))))) ((-1), 0) h (by kernel_rfl) (by kernel_rfl) ?_ ?_
    · intro j8 x u x9 q10 hg11 hw12 h
      obtain ⟨n3, n4⟩ := x
      refine c_seq ?_
      refine r_start ?_
      refine p 1 ?_
      refine rend ?_
      refine c_seq ?_
      refine c_yes q10 ?_
      refine c_skip ?_
      refine c_seq ?_
      refine c_block ?_
      refine c_seq ?_
      refine r_start ?_
      refine p 1 ?_
      refine xq rfl (y_idx (e := nSign) (el := 85) hg11 (s_arg h0)) ?_
      refine xq rfl (y_el (e := nSign) 0 (.agg (eSign x9).toArray) hg11 (s_arg h0)) ?_
      refine xx rfl (x_new (eSign zSign) fun g6_3 => ?_)
      refine p 1 ?_
      refine xx rfl (x_sto 0 g6_3 0 (eSign x9) ?_)
      refine rend ?_
      refine c_seq ?_
      refine r_start ?_
      refine p 1 ?_
      refine rend ?_
      refine c_seq ?_
      refine c_seq ?_
      refine r_start ?_
      refine p 3 ?_
      refine rend ?_
      refine c_block ?_
      refine joinH (X := Int) 2 (H.bnd h) (fun (x : Int) => x) (fun n14 => [box g6_3 85 (eSign x9)]) (fun n14 u => (.slice A0 (List.length a0) k0 :: (jk u 1 4 (.int .i64 n3 :: .int .i64 n4 :: .int .i64 (j8 : Int) :: (jk u 8 1 (.int .i64 n14 :: (jk u 10 10 (.slice A0 (List.length a0) k0 :: .int .i64 (List.length a0 : Int) :: .int .i64 (j8 : Int) :: (jk u 23 28 []))))))))) (fun h hj15 => ?_) ?_
      · skip
        refine rangeR (X := Int) (s_arg h0) (fun (x : Int) => x) (fun n13 => [box g6_3 85 (eSign x9)]) (fun (j16 : Nat) n13 u => (.slice A0 (List.length a0) k0 :: (jk u 1 4 (.int .i64 n3 :: .int .i64 n4 :: .int .i64 (j8 : Int) :: .pointer (some ⟨g6_3, 0, none⟩) :: .int .i64 n13 :: (jk u 10 10 (.slice A0 (List.length a0) k0 :: .int .i64 (List.length a0 : Int) :: .int .i64 (j8 : Int) :: (jk u 23 4 (.slice A0 (List.length a0) k0 :: .int .i64 (List.length a0 : Int) :: .int .i64 (j16 : Int) :: (jk u 30 21 []))))))))) 0 h (by kernel_rfl) (by kernel_rfl) ?_ ?_
        · intro j16 n13 u x17 q18 hg19 hw20 h
          refine c_seq ?_
          refine r_start ?_
          refine p 1 ?_
          refine rend ?_
          refine c_seq ?_
          refine c_yes q18 ?_
          refine c_skip ?_
          refine c_seq ?_
          refine c_block ?_
          refine c_seq ?_
          refine r_start ?_
          refine xq rfl (y_idx (e := nSign) (el := 85) hg19 (s_arg h0)) ?_
          refine xq rfl (y_el (e := nSign) 0 (.agg (eSign x17).toArray) hg19 (s_arg h0)) ?_
          refine xx rfl (x_new (eSign zSign) fun g10_2 => ?_)
          refine xx rfl (x_sto 1 g10_2 0 (eSign x17) ?_)
          refine rend ?_
          refine r_start ?_
          refine p 1 ?_
          refine xq rfl (y_load (.agg (eSign x9).toArray) 0 g6_3 0) ?_
          refine xq rfl (y_load (.agg (eSign x17).toArray) 1 g10_2 0) ?_
          obtain ⟨v11_3, hv11_3, h⟩ := H.call h
          refine xq rfl (y_call [.agg (eSign x9).toArray, .agg (eSign x17).toArray] (.int .i64 v11_3) func60 (fun W S => C.s_feFar W hv11_3)) ?_
          refine p 2 ?_
          refine rend ?_
          refine c_inb ?_
          refine r_start ?_
          refine p 2 ?_
          refine rend ?_
          refine c_set 29 (ci hw20) ?_
          replace h := H.inl h
          exact h (wr (n13 + v11_3)) _ _ rfl (by kernel_rfl) (by kernel_rfl)
        · intro n13 u q18 h
          refine c_seq ?_
          refine r_start ?_
          refine p 1 ?_
          refine rend ?_
          refine c_seq ?_
          refine c_no q18 ?_
          refine cx ?_
          replace h := H.done h
          exact hj15 n13 _ _ h (by kernel_rfl) (by kernel_rfl)
      intro n14 u h
      refine c_seq ?_
      refine r_start ?_
      refine p 3 ?_
      refine br (decide (n3 < 0)) (fun q21 => ?_) (fun q21 => ?_)
      · replace h := H.t q21 h
        refine o_set 41 (congrArg Value.bool q21) ?_
        refine p 4 ?_
        refine rend ?_
        refine c_t (by kernel_rfl) ?_
        refine c_seq ?_
        refine r_start ?_
        refine p 2 ?_
        refine rend ?_
        refine r_start ?_
        refine p 2 ?_
        refine rend ?_
        refine frg (fun u => (.slice A0 (List.length a0) k0 :: (jk u 1 4 (.int .i64 (j8 : Int) :: .int .i64 n14 :: (jk u 7 13 (.slice A0 (List.length a0) k0 :: .int .i64 (List.length a0 : Int) :: .int .i64 (j8 : Int) :: (jk u 23 28 []))))))) (by kernel_rfl) fun u => ?_
        refine keep 1 (its' := [box g6_3 85 (eSign x9)]) (by kernel_rfl) ?_
        refine c_inb ?_
        refine r_start ?_
        refine p 2 ?_
        refine rend ?_
        refine c_set 22 (ci hw12) ?_
        replace h := H.inl h
        exact h ((j8 : Int), n14) _ _ rfl (by kernel_rfl) (by kernel_rfl)
      replace h := H.f q21 h
      refine o_set 41 (congrArg Value.bool q21) ?_
      refine p 4 ?_
      refine rend ?_
      refine c_or (decide (n14 < n4)) (fun q22 => ?_) (fun q22 => ?_)
      · replace h := H.t q22 h
        refine c_seq ?_
        refine r_start ?_
        refine p 2 ?_
        refine rend ?_
        refine r_start ?_
        refine p 2 ?_
        refine rend ?_
        refine frg (fun u => (.slice A0 (List.length a0) k0 :: (jk u 1 4 (.int .i64 (j8 : Int) :: .int .i64 n14 :: (jk u 7 13 (.slice A0 (List.length a0) k0 :: .int .i64 (List.length a0 : Int) :: .int .i64 (j8 : Int) :: (jk u 23 28 []))))))) (by kernel_rfl) fun u => ?_
        refine keep 1 (its' := [box g6_3 85 (eSign x9)]) (by kernel_rfl) ?_
        refine c_inb ?_
        refine r_start ?_
        refine p 2 ?_
        refine rend ?_
        refine c_set 22 (ci hw12) ?_
        replace h := H.inl h
        exact h ((j8 : Int), n14) _ _ rfl (by kernel_rfl) (by kernel_rfl)
      replace h := H.f q22 h
      refine c_skip ?_
      refine c_inb ?_
      refine r_start ?_
      refine p 2 ?_
      refine rend ?_
      refine c_set 22 (ci hw12) ?_
      replace h := H.inl h
      exact h (n3, n4) _ _ rfl (by kernel_rfl) (by kernel_rfl)
    · intro x u q10 h
      obtain ⟨n3, n4⟩ := x
      refine c_seq ?_
      refine r_start ?_
      refine p 1 ?_
      refine rend ?_
      refine c_seq ?_
      refine c_no q10 ?_
      refine cx ?_
      replace h := H.done h
      exact hj7 (n3, n4) _ _ h (by kernel_rfl) (by kernel_rfl)
  intro x u h
  obtain ⟨n5, n6⟩ := x
  refine c_seq ?_
  refine r_start ?_
  refine p 5 ?_
  refine rend ?_
  replace h := H.done h
  subst h
  exact ret func26 rfl (vs := [.int .i64 n5, .int .i64 n6, .bool true]) (.tmp (by kernel_rfl) (.tmp (by kernel_rfl) (.tmp (by kernel_rfl) .nil))) rfl (fun W S => ⟨rfl, S.below⟩)
theorem C.i_sumOf {a0 : (List Int)} {A0 : Option Addr} {k0 : Nat} {r : Int} (w : World) (h : X.i_sumOf a0 = some r) (h0 : RdT (eI .i64) w (.slice A0 (List.length a0) k0) a0) : Calls prog 66 #[.slice A0 (List.length a0) k0] w (Ret w (.int .i64 r)) := by
  refine calls (M := no) (args := [.slice A0 (List.length a0) k0]) func66 rfl ?_
  replace h : H (X.i_sumOf a0) (fun o => o = r) := H.mk h
  unfold X.i_sumOf at h
  refine c_seq ?_
  refine r_start ?_
  refine p 1 ?_
  refine rend ?_
  refine c_seq ?_
  refine r_start ?_
  refine p 1 ?_
  refine rend ?_
  refine c_seq ?_
  refine c_seq ?_
  refine r_start ?_
  refine p 3 ?_
  refine rend ?_
  refine c_block ?_
  refine joinH (X := Int) 0 (H.bnd h) (fun (x : Int) => x) (fun n2 => []) (fun n2 u => (jk u 0 3 (.int .i64 n2 :: (jk u 4 13 [])))) (fun h hj3 => ?_) ?_
  · skip
    refine rangeR (X := Int) (s_arg h0) (fun (x : Int) => x) (fun n1 => []) (fun (j4 : Nat) n1 u => (jk u 0 3 (.int .i64 n1 :: (jk u 4 2 (.slice A0 (List.length a0) k0 :: .int .i64 (List.length a0 : Int) :: .int .i64 (j4 : Int) :: (jk u 9 8 [])))))) 0 h (by kernel_rfl) (by kernel_rfl) ?_ ?_
    · intro j4 n1 u x5 q6 hg7 hw8 h
      refine c_seq ?_
      refine r_start ?_
      refine p 1 ?_
      refine rend ?_
      refine c_seq ?_
      refine c_yes q6 ?_
      refine c_skip ?_
      refine c_seq ?_
      refine c_block ?_
      refine c_seq ?_
      refine r_start ?_
      refine xq rfl (y_idx (e := (eI .i64)) (el := 3) hg7 (s_arg h0)) ?_
      refine xq rfl (y_el (e := (eI .i64)) 0 (.int .i64 x5) hg7 (s_arg h0)) ?_
      refine p 1 ?_
      refine rend ?_
      refine r_start ?_
      refine p 4 ?_
      refine rend ?_
      refine c_inb ?_
      refine r_start ?_
      refine p 2 ?_
      refine rend ?_
      refine c_set 8 (ci hw8) ?_
      replace h := H.inl h
      exact h (wr (n1 + x5)) _ _ rfl (by kernel_rfl) (by kernel_rfl)
    · intro n1 u q6 h
      refine c_seq ?_
      refine r_start ?_
      refine p 1 ?_
      refine rend ?_
      refine c_seq ?_
      refine c_no q6 ?_
      refine cx ?_
      replace h := H.done h
      exact hj3 n1 _ _ h (by kernel_rfl) (by kernel_rfl)
  intro n2 u h
  refine c_seq ?_
  refine r_start ?_
  refine p 2 ?_
  refine rend ?_
  replace h := H.done h
  subst h
  exact ret func66 rfl (vs := [.int .i64 n2]) (.tmp (by kernel_rfl) .nil) rfl (fun W S => ⟨rfl, S.below⟩)
theorem C.i_MiddleSign {fu : Nat} {a0 : (List Sign)} {A0 : Option Addr} {k0 : Nat} {r : (Int × Int × Bool)} (w : World) (h : X.i_MiddleSign fu a0 = some r) (h0 : RdT nSign w (.slice A0 (List.length a0) k0) a0) : Calls prog 27 #[.slice A0 (List.length a0) k0] w (Ret w (.tuple #[.int .i64 r.1, .int .i64 r.2.1, .bool r.2.2])) := by
  refine calls (M := no) (args := [.slice A0 (List.length a0) k0]) func27 rfl ?_
  replace h : H (X.i_MiddleSign fu a0) (fun o => o = r) := H.mk h
  unfold X.i_MiddleSign at h
  refine c_seq ?_
  refine r_start ?_
  refine p 3 ?_
  refine rend ?_
  refine c_seq ?_
  refine r_start ?_
  refine p 1 ?_
  obtain ⟨v1_1, hv1_1, h⟩ := H.call h
  refine xx rfl (e_crd [.slice A0 (List.length a0) k0] (fun v => .tuple #[v, .bool v1_1.2]) func36 (fun W S => C.i_DistanceTable W hv1_1 ((s_arg h0).out W S)) fun A1_1 k1_1 u1_1 => ?_)
  refine p 5 ?_
  refine rend ?_
  refine c_seq ?_
  refine c_seq ?_
  refine r_start ?_
  refine p 3 ?_
  refine br (!v1_1.2) (fun q1 => ?_) (fun q1 => ?_)
  · replace h := H.t q1 h
    refine o_set 17 (congrArg Value.bool q1) ?_
    refine p 4 ?_
    refine rend ?_
    refine c_t (by kernel_rfl) ?_
    refine c_seq ?_
    refine r_start ?_
    refine p 3 ?_
    refine rend ?_
    replace h := H.done h
    subst h
    exact ret func27 rfl (vs := [.int .i64 0, .int .i64 0, .bool false]) (.tmp (by kernel_rfl) (.tmp (by kernel_rfl) (.tmp (by kernel_rfl) .nil))) rfl (fun W S => ⟨rfl, S.below⟩)
  replace h := H.f q1 h
  refine o_set 17 (congrArg Value.bool q1) ?_
  refine p 4 ?_
  refine rend ?_
  refine c_or ((List.length a0 : Int) == 0) (fun q2 => ?_) (fun q2 => ?_)
  · replace h := H.t q2 h
    refine c_seq ?_
    refine r_start ?_
    refine p 3 ?_
    refine rend ?_
    replace h := H.done h
    subst h
    exact ret func27 rfl (vs := [.int .i64 0, .int .i64 0, .bool false]) (.tmp (by kernel_rfl) (.tmp (by kernel_rfl) (.tmp (by kernel_rfl) .nil))) rfl (fun W S => ⟨rfl, S.below⟩)
  replace h := H.f q2 h
  refine c_skip ?_
  refine c_seq ?_
  refine r_start ?_
  refine p 1 ?_
  refine rend ?_
  refine c_seq ?_
  refine c_seq ?_
  refine r_start ?_
  refine p 1 ?_
  refine p 1 ?_
  refine o_fact (f_len (i_own 1)) fun hl5_1 => ?_
  refine o_set 23 (len_sl hl5_1) ?_
  refine p 1 ?_
  refine rend ?_
  refine c_block ?_
  refine joinH (X := Int) 0 (H.bnd h) (fun (x : Int) => x) (fun n4 => [rowT eSl w.heap.size 30 (.slice A1_1 (List.length u1_1) k1_1) u1_1, inns (eI .i64) w.heap.size 3 u1_1 v1_1.1]) (fun n4 u => (jk u 0 5 (.slice A1_1 (List.length u1_1) k1_1 :: (jk u 6 1 (.int .i64 n4 :: (jk u 8 37 [])))))) (fun h hj5 => ?_) ?_
  · skip
    refine rangeRD (X := Int) (s_own 0) (i_own 1) (fun (x : Int) => x) (fun n3 => [rowT eSl w.heap.size 30 (.slice A1_1 (List.length u1_1) k1_1) u1_1, inns (eI .i64) w.heap.size 3 u1_1 v1_1.1]) (fun (j6 : Nat) n3 u => (jk u 0 5 (.slice A1_1 (List.length u1_1) k1_1 :: (jk u 6 1 (.int .i64 n3 :: (jk u 8 14 (.slice A1_1 (List.length u1_1) k1_1 :: .int .i64 (List.length v1_1.1 : Int) :: .int .i64 (j6 : Int) :: (jk u 25 20 [])))))))) 0 h (by kernel_rfl) (by kernel_rfl) ?_ ?_
    · intro j6 n3 u x7 q8 hg9 hw10 h
      refine c_seq ?_
      refine r_start ?_
      refine p 1 ?_
      refine rend ?_
      refine c_seq ?_
      refine c_yes q8 ?_
      refine c_skip ?_
      refine c_seq ?_
      refine c_block ?_
      refine c_seq ?_
      refine r_start ?_
      refine p 1 ?_
      refine o_fact (f_len (i_own 1)) fun hl7_1 => ?_
      obtain ⟨s7_1, hs7_1⟩ := getI_both hl7_1 hg9
      refine xq rfl (y_idx (e := eSl) (el := 30) hs7_1 (s_own 0)) ?_
      refine xq rfl (y_el (e := eSl) 0 (.slice s7_1.A s7_1.n s7_1.c) hs7_1 (s_own 0)) ?_
      refine o_fact (f_n (i_own 1) hs7_1 hg9) fun he7_2 => ?_
      refine o_set 28 (sl_n he7_2) ?_
      refine p 2 ?_
      refine rend ?_
      refine c_seq ?_
      refine as_start 8 8 ?_
      refine ap 0 1 ?_
      obtain ⟨v8_1, hv8_1, h⟩ := H.call h
      refine aq 1 rfl (y_call [.slice s7_1.A (List.length x7) s7_1.c] (.int .i64 v8_1) func66 (fun W S => C.i_sumOf W hv8_1 ((s_in (i_own 1) hs7_1 hg9).out W S))) ?_
      refine ap 2 2 ?_
      obtain ⟨y8_4, hy8_4, h⟩ := H.call h
      refine a_fact (f_len (i_own 1)) fun hl8_4 => ?_
      obtain ⟨s8_4, hs8_4⟩ := getI_both hl8_4 hy8_4
      refine aq 4 rfl (y_idx (e := eSl) (el := 30) hs8_4 (s_own 0)) ?_
      refine aq 5 rfl (y_el (e := eSl) 0 (.slice s8_4.A s8_4.n s8_4.c) hs8_4 (s_own 0)) ?_
      refine a_fact (f_n (i_own 1) hs8_4 hy8_4) fun he8_5 => ?_
      refine a_set 34 (sl_n he8_5) ?_
      obtain ⟨v8_6, hv8_6, h⟩ := H.call h
      refine aq 6 rfl (y_call [.slice s8_4.A (List.length y8_4) s8_4.c] (.int .i64 v8_6) func66 (fun W S => C.i_sumOf W hv8_6 ((s_in (i_own 1) hs8_4 hy8_4).out W S))) ?_
      refine ap 7 1 ?_
      refine a_done ?_
      refine c_or (decide (v8_1 < v8_6)) (fun q11 => ?_) (fun q11 => ?_)
      · replace h := H.t q11 h
        refine r_start ?_
        refine p 2 ?_
        refine rend ?_
        refine c_inb ?_
        refine r_start ?_
        refine p 2 ?_
        refine rend ?_
        refine c_set 24 (ci hw10) ?_
        replace h := H.inl h
        exact h (j6 : Int) _ _ rfl (by kernel_rfl) (by kernel_rfl)
      replace h := H.f q11 h
      refine c_skip ?_
      refine c_inb ?_
      refine r_start ?_
      refine p 2 ?_
      refine rend ?_
      refine c_set 24 (ci hw10) ?_
      replace h := H.inl h
      exact h n3 _ _ rfl (by kernel_rfl) (by kernel_rfl)
    · intro n3 u q8 h
      refine c_seq ?_
      refine r_start ?_
      refine p 1 ?_
      refine rend ?_
      refine c_seq ?_
      refine c_no q8 ?_
      refine cx ?_
      replace h := H.done h
      exact hj5 n3 _ _ h (by kernel_rfl) (by kernel_rfl)
  intro n4 u h
  refine c_seq ?_
  refine r_start ?_
  refine p 3 ?_
  obtain ⟨y11_3, hy11_3, h⟩ := H.call h
  refine o_fact (f_len (i_own 1)) fun hl11_3 => ?_
  obtain ⟨s11_3, hs11_3⟩ := getI_both hl11_3 hy11_3
  refine xq rfl (y_idx (e := eSl) (el := 30) hs11_3 (s_own 0)) ?_
  refine xq rfl (y_el (e := eSl) 0 (.slice s11_3.A s11_3.n s11_3.c) hs11_3 (s_own 0)) ?_
  refine o_fact (f_n (i_own 1) hs11_3 hy11_3) fun he11_4 => ?_
  refine o_set 43 (sl_n he11_4) ?_
  obtain ⟨v11_5, hv11_5, h⟩ := H.call h
  refine xq rfl (y_call [.slice s11_3.A (List.length y11_3) s11_3.c] (.int .i64 v11_5) func66 (fun W S => C.i_sumOf W hv11_5 ((s_in (i_own 1) hs11_3 hy11_3).out W S))) ?_
  refine p 3 ?_
  refine rend ?_
  replace h := H.done h
  subst h
  exact ret func27 rfl (vs := [.int .i64 n4, .int .i64 v11_5, .bool true]) (.tmp (by kernel_rfl) (.tmp (by kernel_rfl) (.tmp (by kernel_rfl) .nil))) rfl (fun W S => ⟨rfl, S.below⟩)
theorem C.l_FnExactMiddleSign {fu : Nat} {a0 : (List Sign)} {A0 : Option Addr} {k0 : Nat} {r : Bool} (w : World) (h : X.l_FnExactMiddleSign fu a0 = some r) (h0 : RdT nSign w (.slice A0 (List.length a0) k0) a0) : Calls prog 5 #[.slice A0 (List.length a0) k0] w (Ret w (.bool r)) := by
  refine calls (M := no) (args := [.slice A0 (List.length a0) k0]) func5 rfl ?_
  replace h : H (X.l_FnExactMiddleSign fu a0) (fun o => o = r) := H.mk h
  unfold X.l_FnExactMiddleSign at h
  refine c_seq ?_
  refine r_start ?_
  refine p 1 ?_
  refine rend ?_
  refine c_seq ?_
  refine r_start ?_
  refine p 1 ?_
  refine rend ?_
  refine c_seq ?_
  refine r_start ?_
  refine p 2 ?_
  obtain ⟨v2_2, hv2_2, h⟩ := H.call h
  refine xq rfl (y_call [.slice A0 (List.length a0) k0, .int .i64 1048576] (.int .i64 v2_2) func15 (fun W S => C.l_szSignS W hv2_2 ((s_arg h0).out W S))) ?_
  refine p 1 ?_
  refine rend ?_
  refine c_seq ?_
  refine c_seq ?_
  refine r_start ?_
  refine p 2 ?_
  refine rend ?_
  refine c_or (decide (v2_2 < 0)) (fun q1 => ?_) (fun q1 => ?_)
  · replace h := H.t q1 h
    refine c_seq ?_
    refine r_start ?_
    refine p 1 ?_
    refine rend ?_
    replace h := H.done h
    subst h
    exact ret func5 rfl (vs := [.bool true]) (.tmp (by kernel_rfl) .nil) rfl (fun W S => ⟨rfl, S.below⟩)
  replace h := H.f q1 h
  refine c_skip ?_
  refine c_seq ?_
  refine r_start ?_
  refine p 1 ?_
  obtain ⟨v5_1, hv5_1, h⟩ := H.call h
  refine xx rfl (e_cr [.slice A0 (List.length a0) k0] (fun v => v) func17 (fun W S => C.l_toSignS W hv5_1 ((s_arg h0).out W S)) fun A5_1 k5_1 => ?_)
  obtain ⟨v5_2, hv5_2, h⟩ := H.call h
  refine xq rfl (y_call [.slice A5_1 (List.length v5_1) k5_1] (.tuple #[.int .i64 v5_2.1, .int .i64 v5_2.2.1, .bool v5_2.2.2]) func26 (fun W S => C.s_MiddleSign W hv5_2 ((s_own 0).out W S))) ?_
  refine p 7 ?_
  refine rend ?_
  refine c_seq ?_
  refine r_start ?_
  refine p 1 ?_
  obtain ⟨v6_1, hv6_1, h⟩ := H.call h
  refine xx rfl (e_cr [.slice A0 (List.length a0) k0] (fun v => v) func17 (fun W S => C.l_toSignS W hv6_1 ((s_arg h0).out W S)) fun A6_1 k6_1 => ?_)
  refine p 1 ?_
  refine rend ?_
  refine c_seq ?_
  refine r_start ?_
  refine p 1 ?_
  obtain ⟨v7_1, hv7_1, h⟩ := H.call h
  refine xq rfl (y_call [.slice A6_1 (List.length v6_1) k6_1] (.tuple #[.int .i64 v7_1.1, .int .i64 v7_1.2.1, .bool v7_1.2.2]) func27 (fun W S => C.i_MiddleSign W hv7_1 ((s_own 1).out W S))) ?_
  refine p 7 ?_
  refine rend ?_
  refine c_seq ?_
  refine c_seq ?_
  refine r_start ?_
  refine p 4 ?_
  refine br (v7_1.1 != v5_2.1) (fun q2 => ?_) (fun q2 => ?_)
  · replace h := H.t q2 h
    refine o_set 34 (congrArg Value.bool q2) ?_
    refine p 9 ?_
    refine rend ?_
    refine c_t (by kernel_rfl) ?_
    refine c_seq ?_
    refine r_start ?_
    refine p 1 ?_
    refine rend ?_
    replace h := H.done h
    subst h
    exact ret func5 rfl (vs := [.bool false]) (.tmp (by kernel_rfl) .nil) rfl (fun W S => ⟨rfl, S.below⟩)
  replace h := H.f q2 h
  refine o_set 34 (congrArg Value.bool q2) ?_
  refine p 5 ?_
  refine br (v7_1.2.1 != v5_2.2.1) (fun q3 => ?_) (fun q3 => ?_)
  · replace h := H.t q3 h
    refine o_set 39 (congrArg Value.bool q3) ?_
    refine p 4 ?_
    refine rend ?_
    refine c_t (by kernel_rfl) ?_
    refine c_seq ?_
    refine r_start ?_
    refine p 1 ?_
    refine rend ?_
    replace h := H.done h
    subst h
    exact ret func5 rfl (vs := [.bool false]) (.tmp (by kernel_rfl) .nil) rfl (fun W S => ⟨rfl, S.below⟩)
  replace h := H.f q3 h
  refine o_set 39 (congrArg Value.bool q3) ?_
  refine p 4 ?_
  refine rend ?_
  refine c_or (!(v7_1.2.2 == v5_2.2.2)) (fun q4 => ?_) (fun q4 => ?_)
  · replace h := H.t q4 h
    refine c_seq ?_
    refine r_start ?_
    refine p 1 ?_
    refine rend ?_
    replace h := H.done h
    subst h
    exact ret func5 rfl (vs := [.bool false]) (.tmp (by kernel_rfl) .nil) rfl (fun W S => ⟨rfl, S.below⟩)
  replace h := H.f q4 h
  refine c_skip ?_
  refine c_seq ?_
  refine c_seq ?_
  refine r_start ?_
  refine p 2 ?_
  obtain ⟨v10_2, hv10_2, h⟩ := H.call h
  refine xx rfl (e_cr [.slice A0 (List.length a0) k0] (fun v => v) func17 (fun W S => C.l_toSignS W hv10_2 ((s_arg h0).out W S)) fun A10_2 k10_2 => ?_)
  obtain ⟨v10_3, hv10_3, h⟩ := H.call h
  refine xq rfl (y_call [.slice A6_1 (List.length v6_1) k6_1, .slice A10_2 (List.length v10_2) k10_2] (.bool v10_3) func19 (fun W S => C.l_eqSignS W hv10_3 ((s_own 1).out W S) ((s_own 2).out W S))) ?_
  refine p 1 ?_
  refine rend ?_
  refine c_or (!v10_3) (fun q5 => ?_) (fun q5 => ?_)
  · replace h := H.t q5 h
    refine c_seq ?_
    refine r_start ?_
    refine p 1 ?_
    refine rend ?_
    replace h := H.done h
    subst h
    exact ret func5 rfl (vs := [.bool false]) (.tmp (by kernel_rfl) .nil) rfl (fun W S => ⟨rfl, S.below⟩)
  replace h := H.f q5 h
  refine c_skip ?_
  refine c_seq ?_
  refine r_start ?_
  refine p 1 ?_
  refine rend ?_
  replace h := H.done h
  subst h
  exact ret func5 rfl (vs := [.bool true]) (.tmp (by kernel_rfl) .nil) rfl (fun W S => ⟨rfl, S.below⟩)
end Go.Proofs.XC
