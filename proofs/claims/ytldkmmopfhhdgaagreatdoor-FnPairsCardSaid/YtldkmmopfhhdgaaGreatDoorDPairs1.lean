/- Contracts: each function, called where its plain function gives an answer, returns just that answer and changes nothing that was there. By AI agents; no person has read it. -/
import Derived.Test.YtldkmmopfhhdgaaGreatDoorDPairs
set_option linter.unusedVariables false
set_option linter.unusedSimpArgs false
set_option maxRecDepth 100000
set_option maxHeartbeats 40000000
namespace Go.Proofs.XC
open Go Go.RowKit
open Tryz
theorem C.s_MostPairs {fu : Nat} {a0 : (List Sign)} {A0 : Option Addr} {k0 : Nat} {r : (Int × Int × Bool)} (w : World) (h : X.s_MostPairs fu a0 = some r) (h0 : RdT nSign w (.slice A0 (List.length a0) k0) a0) : Calls prog 59 #[.slice A0 (List.length a0) k0] w (Ret w (.tuple #[.int .i64 r.1, .int .i64 r.2.1, .bool r.2.2])) := by
  refine calls (M := no) (args := [.slice A0 (List.length a0) k0]) func59 rfl ?_
  replace h : H (X.s_MostPairs fu a0) (fun o => o = r) := H.mk h
  unfold X.s_MostPairs at h
  refine c_seq ?_
  refine r_start ?_
  refine p 3 ?_
  refine rend ?_
  refine c_seq ?_
  refine c_seq ?_
  refine r_start ?_
  refine p 1 ?_
  obtain ⟨v1_1, hv1_1, h⟩ := H.call h
  refine xq rfl (y_call [.slice A0 (List.length a0) k0] (.bool v1_1) func135 (fun W S => C.s_noList W hv1_1 ((s_arg h0).out W S))) ?_
  refine p 2 ?_
  refine br (!v1_1) (fun q1 => ?_) (fun q1 => ?_)
  · replace h := H.t q1 h
    refine o_set 12 (congrArg Value.bool q1) ?_
    refine p 4 ?_
    refine rend ?_
    refine c_t (by kernel_rfl) ?_
    refine c_seq ?_
    refine r_start ?_
    refine p 3 ?_
    refine rend ?_
    replace h := H.done h
    subst h
    exact ret func59 rfl (vs := [.int .i64 0, .int .i64 0, .bool false]) (.tmp (by kernel_rfl) (.tmp (by kernel_rfl) (.tmp (by kernel_rfl) .nil))) rfl (fun W S => ⟨rfl, S.below⟩)
  replace h := H.f q1 h
  refine o_set 12 (congrArg Value.bool q1) ?_
  refine p 4 ?_
  refine rend ?_
  refine c_or ((List.length a0 : Int) == 0) (fun q2 => ?_) (fun q2 => ?_)
  · replace h := H.t q2 h
    refine c_seq ?_
    refine r_start ?_
    refine p 3 ?_
    refine rend ?_
    replace h := H.done h
    subst h
    exact ret func59 rfl (vs := [.int .i64 0, .int .i64 0, .bool false]) (.tmp (by kernel_rfl) (.tmp (by kernel_rfl) (.tmp (by kernel_rfl) .nil))) rfl (fun W S => ⟨rfl, S.below⟩)
  replace h := H.f q2 h
  refine c_skip ?_
  refine c_seq ?_
  refine r_start ?_
  refine p 2 ?_
  refine rend ?_
  refine c_seq ?_
  refine c_seq ?_
  refine r_start ?_
  refine p 3 ?_
  refine rend ?_
  refine c_block ?_
  refine joinH (X := (Int × Int)) 0 (H.bnd h) (fun (x : (Int × Int)) => x) (fun ⟨n5, n6⟩ => []) (fun ⟨n5, n6⟩ u => (jk u 0 5 (.int .i64 n5 :: .int .i64 n6 :: (jk u 7 27 [])))) (fun h hj7 => ?_) ?_
  · skip
    refine rangeR (X := (Int × Int)) (s_arg h0) (fun (x : (Int × Int)) => x) (fun ⟨n3, n4⟩ => []) (fun (j8 : Nat) ⟨n3, n4⟩ u => (.slice A0 (List.length a0) k0 :: (jk u 1 4 (.int .i64 n3 :: .int .i64 n4 :: (jk u 7 11 (.int .i64 (List.length a0 : Int) :: .int .i64 (j8 : Int) :: (jk u 20 14 []))))))) (0, (-1)) h (by kernel_rfl) (by kernel_rfl) ?_ ?_
    · intro j8 x u x9 q10 hg11 hw12 h
      obtain ⟨n3, n4⟩ := x
      refine c_seq ?_
      refine r_start ?_
      refine p 1 ?_
      refine rend ?_
      refine c_seq ?_
      refine c_yes q10 ?_
      refine c_skip ?_
      refine c_seq ?_
      refine c_block ?_
      refine c_seq ?_
      refine r_start ?_
      refine p 2 ?_
      refine rend ?_
      refine c_seq ?_
      refine r_start ?_
      refine p 2 ?_
      obtain ⟨v7_2, hv7_2, h⟩ := H.call h
      refine xx rfl (e_cr [.slice A0 (List.length a0) k0, .int .i64 (j8 : Int)] (fun v => v) func138 (fun W S => C.s_prWith W hv7_2 ((s_arg h0).out W S)) fun A7_2 k7_2 => ?_)
      refine p 2 ?_
      refine rend ?_
      refine c_seq ?_
      refine r_start ?_
      refine p 3 ?_
      refine rend ?_
      refine c_or (decide ((List.length v7_2 : Int) > n4)) (fun q13 => ?_) (fun q13 => ?_)
      · replace h := H.t q13 h
        refine c_seq ?_
        refine r_start ?_
        refine p 2 ?_
        refine rend ?_
        refine r_start ?_
        refine p 2 ?_
        refine rend ?_
        refine c_inb ?_
        refine r_start ?_
        refine p 2 ?_
        refine rend ?_
        refine c_set 19 (ci hw12) ?_
        replace h := H.inl h
        exact h ((j8 : Int), (List.length v7_2 : Int)) _ _ rfl (by kernel_rfl) (by kernel_rfl)
      replace h := H.f q13 h
      refine c_skip ?_
      refine c_inb ?_
      refine r_start ?_
      refine p 2 ?_
      refine rend ?_
      refine c_set 19 (ci hw12) ?_
      replace h := H.inl h
      exact h (n3, n4) _ _ rfl (by kernel_rfl) (by kernel_rfl)
    · intro x u q10 h
      obtain ⟨n3, n4⟩ := x
      refine c_seq ?_
      refine r_start ?_
      refine p 1 ?_
      refine rend ?_
      refine c_seq ?_
      refine c_no q10 ?_
      refine cx ?_
      replace h := H.done h
      exact hj7 (n3, n4) _ _ h (by kernel_rfl) (by kernel_rfl)
  intro x u h
  obtain ⟨n5, n6⟩ := x
  refine c_seq ?_
  refine r_start ?_
  refine p 5 ?_
  refine rend ?_
  replace h := H.done h
  subst h
  exact ret func59 rfl (vs := [.int .i64 n5, .int .i64 n6, .bool true]) (.tmp (by kernel_rfl) (.tmp (by kernel_rfl) (.tmp (by kernel_rfl) .nil))) rfl (fun W S => ⟨rfl, S.below⟩)
theorem C.l_sameInts {a0 : (List Int)} {A0 : Option Addr} {k0 : Nat} {a1 : (List Int)} {A1 : Option Addr} {k1 : Nat} {r : Bool} (w : World) (h : X.l_sameInts a0 a1 = some r) (h0 : RdT (eI .i64) w (.slice A0 (List.length a0) k0) a0) (h1 : RdT (eI .i64) w (.slice A1 (List.length a1) k1) a1) : Calls prog 61 #[.slice A0 (List.length a0) k0, .slice A1 (List.length a1) k1] w (Ret w (.bool r)) := by
  refine calls (M := no) (args := [.slice A0 (List.length a0) k0, .slice A1 (List.length a1) k1]) func61 rfl ?_
  replace h : H (X.l_sameInts a0 a1) (fun o => o = r) := H.mk h
  unfold X.l_sameInts at h
  refine c_seq ?_
  refine r_start ?_
  refine p 1 ?_
  refine rend ?_
  refine c_seq ?_
  refine c_seq ?_
  refine r_start ?_
  refine p 5 ?_
  refine rend ?_
  refine c_or ((List.length a0 : Int) != (List.length a1 : Int)) (fun q1 => ?_) (fun q1 => ?_)
  · replace h := H.t q1 h
    refine c_seq ?_
    refine r_start ?_
    refine p 1 ?_
    refine rend ?_
    replace h := H.done h
    subst h
    exact ret func61 rfl (vs := [.bool false]) (.tmp (by kernel_rfl) .nil) rfl (fun W S => ⟨rfl, S.below⟩)
  replace h := H.f q1 h
  refine c_skip ?_
  refine c_seq ?_
  refine c_seq ?_
  refine r_start ?_
  refine p 3 ?_
  refine rend ?_
  refine c_block ?_
  refine joinE (X := Unit) 0 (H.or h) (fun (x : Unit) => x) (fun _ => []) (fun _ u => (jk u 0 26 [])) (fun h hj2 => ?_) ?_
  · skip
    refine rangeR (X := Unit) (s_arg h0) (fun (x : Unit) => x) (fun _ => []) (fun (j3 : Nat) _ u => (.slice A0 (List.length a0) k0 :: .slice A1 (List.length a1) k1 :: (jk u 2 10 (.int .i64 (List.length a0 : Int) :: .int .i64 (j3 : Int) :: (jk u 14 12 []))))) () h (by kernel_rfl) (by kernel_rfl) ?_ ?_
    · intro j3 x u x4 q5 hg6 hw7 h
      refine c_seq ?_
      refine r_start ?_
      refine p 1 ?_
      refine rend ?_
      refine c_seq ?_
      refine c_yes q5 ?_
      refine c_skip ?_
      refine c_seq ?_
      refine c_block ?_
      refine c_seq ?_
      refine r_start ?_
      refine p 2 ?_
      refine rend ?_
      refine c_seq ?_
      refine as_start 9 9 ?_
      refine ap 0 2 ?_
      refine aq 2 rfl (y_idx (e := (eI .i64)) (el := 3) hg6 (s_arg h0)) ?_
      refine aq 3 rfl (y_el (e := (eI .i64)) 0 (.int .i64 x4) hg6 (s_arg h0)) ?_
      refine ap 4 2 ?_
      obtain ⟨y6_6, hy6_6, h⟩ := H.call h
      refine aq 6 rfl (y_idx (e := (eI .i64)) (el := 3) hy6_6 (s_arg h1)) ?_
      refine aq 7 rfl (y_el (e := (eI .i64)) 0 (.int .i64 y6_6) hy6_6 (s_arg h1)) ?_
      refine ap 8 1 ?_
      refine a_done ?_
      refine c_or (x4 != y6_6) (fun q8 => ?_) (fun q8 => ?_)
      · replace h := H.t q8 h
        refine c_seq ?_
        refine r_start ?_
        refine p 1 ?_
        refine rend ?_
        replace h := H.inr h
        replace h := H.done h
        subst h
        exact ret func61 rfl (vs := [.bool false]) (.tmp (by kernel_rfl) .nil) rfl (fun W S => ⟨rfl, S.below⟩)
      replace h := H.f q8 h
      refine c_skip ?_
      refine c_inb ?_
      refine r_start ?_
      refine p 2 ?_
      refine rend ?_
      refine c_set 13 (ci hw7) ?_
      replace h := H.inl h
      exact h () _ _ rfl (by kernel_rfl) (by kernel_rfl)
    · intro x u q5 h
      refine c_seq ?_
      refine r_start ?_
      refine p 1 ?_
      refine rend ?_
      refine c_seq ?_
      refine c_no q5 ?_
      refine cx ?_
      replace h := H.done h
      exact hj2 () _ _ h (by kernel_rfl) (by kernel_rfl)
  intro x u h
  refine c_seq ?_
  refine r_start ?_
  refine p 1 ?_
  refine rend ?_
  replace h := H.done h
  subst h
  exact ret func61 rfl (vs := [.bool true]) (.tmp (by kernel_rfl) .nil) rfl (fun W S => ⟨rfl, S.below⟩)
theorem C.l_sameLists {a0 : (List (List Int))} {us0 : List Sl} {A0 : Option Addr} {k0 : Nat} {a1 : (List (List Int))} {us1 : List Sl} {A1 : Option Addr} {k1 : Nat} {r : Bool} (w : World) (h : X.l_sameLists a0 a1 = some r) (h0 : RdT eSl w (.slice A0 (List.length us0) k0) us0) (i0 : RdI (eI .i64) w us0 a0) (h1 : RdT eSl w (.slice A1 (List.length us1) k1) us1) (i1 : RdI (eI .i64) w us1 a1) : Calls prog 60 #[.slice A0 (List.length us0) k0, .slice A1 (List.length us1) k1] w (Ret w (.bool r)) := by
  refine calls (M := no) (args := [.slice A0 (List.length us0) k0, .slice A1 (List.length us1) k1]) func60 rfl ?_
  replace h : H (X.l_sameLists a0 a1) (fun o => o = r) := H.mk h
  unfold X.l_sameLists at h
  refine c_seq ?_
  refine r_start ?_
  refine p 1 ?_
  refine rend ?_
  refine c_seq ?_
  refine c_seq ?_
  refine r_start ?_
  refine p 1 ?_
  refine p 1 ?_
  refine o_fact (f_len (i_arg i0)) fun hl1_1 => ?_
  refine o_set 7 (len_sl hl1_1) ?_
  refine p 1 ?_
  refine p 1 ?_
  refine o_fact (f_len (i_arg i1)) fun hl1_3 => ?_
  refine o_set 9 (len_sl hl1_3) ?_
  refine p 1 ?_
  refine rend ?_
  refine c_or ((List.length a0 : Int) != (List.length a1 : Int)) (fun q1 => ?_) (fun q1 => ?_)
  · replace h := H.t q1 h
    refine c_seq ?_
    refine r_start ?_
    refine p 1 ?_
    refine rend ?_
    replace h := H.done h
    subst h
    exact ret func60 rfl (vs := [.bool false]) (.tmp (by kernel_rfl) .nil) rfl (fun W S => ⟨rfl, S.below⟩)
  replace h := H.f q1 h
  refine c_skip ?_
  refine c_seq ?_
  refine c_seq ?_
  refine r_start ?_
  refine p 1 ?_
  refine p 1 ?_
  refine o_fact (f_len (i_arg i0)) fun hl3_1 => ?_
  refine o_set 12 (len_sl hl3_1) ?_
  refine p 1 ?_
  refine rend ?_
  refine c_block ?_
  refine joinE (X := Unit) 0 (H.or h) (fun (x : Unit) => x) (fun _ => []) (fun _ u => (jk u 0 27 [])) (fun h hj2 => ?_) ?_
  · skip
    refine rangeRD (X := Unit) (s_arg h0) (i_arg i0) (fun (x : Unit) => x) (fun _ => []) (fun (j3 : Nat) _ u => (.slice A0 (List.length us0) k0 :: .slice A1 (List.length us1) k1 :: (jk u 2 10 (.int .i64 (List.length a0 : Int) :: .int .i64 (j3 : Int) :: (jk u 14 13 []))))) () h (by kernel_rfl) (by kernel_rfl) ?_ ?_
    · intro j3 x u x4 q5 hg6 hw7 h
      refine c_seq ?_
      refine r_start ?_
      refine p 1 ?_
      refine rend ?_
      refine c_seq ?_
      refine c_yes q5 ?_
      refine c_skip ?_
      refine c_seq ?_
      refine c_block ?_
      refine c_seq ?_
      refine r_start ?_
      refine p 2 ?_
      refine rend ?_
      refine c_seq ?_
      refine as_start 10 10 ?_
      refine ap 0 2 ?_
      refine a_fact (f_len (i_arg i0)) fun hl6_2 => ?_
      obtain ⟨s6_2, hs6_2⟩ := getI_both hl6_2 hg6
      refine aq 2 rfl (y_idx (e := eSl) (el := 69) hs6_2 (s_arg h0)) ?_
      refine aq 3 rfl (y_el (e := eSl) 0 (.slice s6_2.A s6_2.n s6_2.c) hs6_2 (s_arg h0)) ?_
      refine a_fact (f_n (i_arg i0) hs6_2 hg6) fun he6_3 => ?_
      refine a_set 19 (sl_n he6_3) ?_
      refine ap 4 2 ?_
      obtain ⟨y6_6, hy6_6, h⟩ := H.call h
      refine a_fact (f_len (i_arg i1)) fun hl6_6 => ?_
      obtain ⟨s6_6, hs6_6⟩ := getI_both hl6_6 hy6_6
      refine aq 6 rfl (y_idx (e := eSl) (el := 69) hs6_6 (s_arg h1)) ?_
      refine aq 7 rfl (y_el (e := eSl) 0 (.slice s6_6.A s6_6.n s6_6.c) hs6_6 (s_arg h1)) ?_
      refine a_fact (f_n (i_arg i1) hs6_6 hy6_6) fun he6_7 => ?_
      refine a_set 23 (sl_n he6_7) ?_
      obtain ⟨v6_8, hv6_8, h⟩ := H.call h
      refine aq 8 rfl (y_call [.slice s6_2.A (List.length x4) s6_2.c, .slice s6_6.A (List.length y6_6) s6_6.c] (.bool v6_8) func61 (fun W S => C.l_sameInts W hv6_8 ((s_in (i_arg i0) hs6_2 hg6).out W S) ((s_in (i_arg i1) hs6_6 hy6_6).out W S))) ?_
      refine ap 9 1 ?_
      refine a_done ?_
      refine c_or (!v6_8) (fun q8 => ?_) (fun q8 => ?_)
      · replace h := H.t q8 h
        refine c_seq ?_
        refine r_start ?_
        refine p 1 ?_
        refine rend ?_
        replace h := H.inr h
        replace h := H.done h
        subst h
        exact ret func60 rfl (vs := [.bool false]) (.tmp (by kernel_rfl) .nil) rfl (fun W S => ⟨rfl, S.below⟩)
      replace h := H.f q8 h
      refine c_skip ?_
      refine c_inb ?_
      refine r_start ?_
      refine p 2 ?_
      refine rend ?_
      refine c_set 13 (ci hw7) ?_
      replace h := H.inl h
      exact h () _ _ rfl (by kernel_rfl) (by kernel_rfl)
    · intro x u q5 h
      refine c_seq ?_
      refine r_start ?_
      refine p 1 ?_
      refine rend ?_
      refine c_seq ?_
      refine c_no q5 ?_
      refine cx ?_
      replace h := H.done h
      exact hj2 () _ _ h (by kernel_rfl) (by kernel_rfl)
  intro x u h
  refine c_seq ?_
  refine r_start ?_
  refine p 1 ?_
  refine rend ?_
  replace h := H.done h
  subst h
  exact ret func60 rfl (vs := [.bool true]) (.tmp (by kernel_rfl) .nil) rfl (fun W S => ⟨rfl, S.below⟩)
theorem C.l_pSum {a0 : (List Int)} {A0 : Option Addr} {k0 : Nat} {r : Int} (w : World) (h : X.l_pSum a0 = some r) (h0 : RdT (eI .i64) w (.slice A0 (List.length a0) k0) a0) : Calls prog 62 #[.slice A0 (List.length a0) k0] w (Ret w (.int .i64 r)) := by
  refine calls (M := no) (args := [.slice A0 (List.length a0) k0]) func62 rfl ?_
  replace h : H (X.l_pSum a0) (fun o => o = r) := H.mk h
  unfold X.l_pSum at h
  refine c_seq ?_
  refine r_start ?_
  refine p 1 ?_
  refine rend ?_
  refine c_seq ?_
  refine r_start ?_
  refine p 1 ?_
  refine rend ?_
  refine c_seq ?_
  refine c_seq ?_
  refine r_start ?_
  refine p 3 ?_
  refine rend ?_
  refine c_block ?_
  refine joinH (X := Int) 0 (H.bnd h) (fun (x : Int) => x) (fun n2 => []) (fun n2 u => (jk u 0 3 (.int .i64 n2 :: (jk u 4 13 [])))) (fun h hj3 => ?_) ?_
  · skip
    refine rangeR (X := Int) (s_arg h0) (fun (x : Int) => x) (fun n1 => []) (fun (j4 : Nat) n1 u => (jk u 0 3 (.int .i64 n1 :: (jk u 4 2 (.slice A0 (List.length a0) k0 :: .int .i64 (List.length a0 : Int) :: .int .i64 (j4 : Int) :: (jk u 9 8 [])))))) 0 h (by kernel_rfl) (by kernel_rfl) ?_ ?_
    · intro j4 n1 u x5 q6 hg7 hw8 h
      refine c_seq ?_
      refine r_start ?_
      refine p 1 ?_
      refine rend ?_
      refine c_seq ?_
      refine c_yes q6 ?_
      refine c_skip ?_
      refine c_seq ?_
      refine c_block ?_
      refine c_seq ?_
      refine r_start ?_
      refine xq rfl (y_idx (e := (eI .i64)) (el := 3) hg7 (s_arg h0)) ?_
      refine xq rfl (y_el (e := (eI .i64)) 0 (.int .i64 x5) hg7 (s_arg h0)) ?_
      refine p 1 ?_
      refine rend ?_
      refine r_start ?_
      refine p 4 ?_
      refine rend ?_
      refine c_inb ?_
      refine r_start ?_
      refine p 2 ?_
      refine rend ?_
      refine c_set 8 (ci hw8) ?_
      replace h := H.inl h
      exact h (wr (n1 + x5)) _ _ rfl (by kernel_rfl) (by kernel_rfl)
    · intro n1 u q6 h
      refine c_seq ?_
      refine r_start ?_
      refine p 1 ?_
      refine rend ?_
      refine c_seq ?_
      refine c_no q6 ?_
      refine cx ?_
      replace h := H.done h
      exact hj3 n1 _ _ h (by kernel_rfl) (by kernel_rfl)
  intro n2 u h
  refine c_seq ?_
  refine r_start ?_
  refine p 2 ?_
  refine rend ?_
  replace h := H.done h
  subst h
  exact ret func62 rfl (vs := [.int .i64 n2]) (.tmp (by kernel_rfl) .nil) rfl (fun W S => ⟨rfl, S.below⟩)
theorem C.s_prPart {a0 : Int} {r : Bool} (w : World) (h : X.s_prPart a0 = some r) : Calls prog 143 #[.int .i64 a0] w (Ret w (.bool r)) := by
  refine calls (M := no) (args := [.int .i64 a0]) func143 rfl ?_
  replace h : H (X.s_prPart a0) (fun o => o = r) := H.mk h
  unfold X.s_prPart at h
  refine c_seq ?_
  refine r_start ?_
  refine p 1 ?_
  refine rend ?_
  refine c_seq ?_
  refine r_start ?_
  refine p 1 ?_
  obtain ⟨v1_1, hv1_1, h⟩ := H.call h
  refine xq rfl (y_call [.int .i64 a0, .int .i64 0, .int .i64 4] (.bool v1_1) func152 (fun W S => C.s_l1In W hv1_1)) ?_
  refine p 1 ?_
  refine rend ?_
  replace h := H.done h
  subst h
  exact ret func143 rfl (vs := [.bool v1_1]) (.tmp (by kernel_rfl) .nil) rfl (fun W S => ⟨rfl, S.below⟩)
theorem C.s_PairsBy {fu : Nat} {a0 : (List Sign)} {A0 : Option Addr} {k0 : Nat} {a1 : Int} {r : ((List (List Int)) × Bool)} (w : World) (h : X.s_PairsBy fu a0 a1 = some r) (h0 : RdT nSign w (.slice A0 (List.length a0) k0) a0) : Calls prog 64 #[.slice A0 (List.length a0) k0, .int .i64 a1] w (RetD (eI .i64) 69 3 w r.1 (fun v => .tuple #[v, .bool r.2])) := by
  refine calls (M := no) (args := [.slice A0 (List.length a0) k0, .int .i64 a1]) func64 rfl ?_
  replace h : H (X.s_PairsBy fu a0 a1) (fun o => o = r) := H.mk h
  unfold X.s_PairsBy at h
  refine c_seq ?_
  refine r_start ?_
  refine p 2 ?_
  refine rend ?_
  refine c_seq ?_
  refine c_seq ?_
  refine r_start ?_
  refine p 1 ?_
  obtain ⟨v1_1, hv1_1, h⟩ := H.call h
  refine xq rfl (y_call [.slice A0 (List.length a0) k0] (.bool v1_1) func135 (fun W S => C.s_noList W hv1_1 ((s_arg h0).out W S))) ?_
  refine p 2 ?_
  refine br (!v1_1) (fun q1 => ?_) (fun q1 => ?_)
  · replace h := H.t q1 h
    refine o_set 9 (congrArg Value.bool q1) ?_
    refine p 4 ?_
    refine rend ?_
    refine c_t (by kernel_rfl) ?_
    refine c_seq ?_
    refine r_start ?_
    refine p 2 ?_
    refine rend ?_
    replace h := H.done h
    subst h
    exact ret func64 rfl (vs := [.slice none 0 0, .bool false]) (.tmp (by kernel_rfl) (.tmp (by kernel_rfl) .nil)) rfl (fun W S => ⟨none, 0, [], rfl, World.ownsRow_nil _ _ _ _, Inn.nil _ _ _ _, (fun k hk => by cases hk), (fun k ⟨_, hk, _⟩ => by cases hk), S.below⟩)
  replace h := H.f q1 h
  refine o_set 9 (congrArg Value.bool q1) ?_
  refine p 1 ?_
  obtain ⟨v1_5, hv1_5, h⟩ := H.call h
  refine xq rfl (y_call [.int .i64 a1] (.bool v1_5) func143 (fun W S => C.s_prPart W hv1_5)) ?_
  refine p 2 ?_
  refine rend ?_
  refine c_or (!v1_5) (fun q2 => ?_) (fun q2 => ?_)
  · replace h := H.t q2 h
    refine c_seq ?_
    refine r_start ?_
    refine p 2 ?_
    refine rend ?_
    replace h := H.done h
    subst h
    exact ret func64 rfl (vs := [.slice none 0 0, .bool false]) (.tmp (by kernel_rfl) (.tmp (by kernel_rfl) .nil)) rfl (fun W S => ⟨none, 0, [], rfl, World.ownsRow_nil _ _ _ _, Inn.nil _ _ _ _, (fun k hk => by cases hk), (fun k ⟨_, hk, _⟩ => by cases hk), S.below⟩)
  replace h := H.f q2 h
  refine c_skip ?_
  refine c_seq ?_
  refine r_start ?_
  refine p 2 ?_
  obtain ⟨v3_2, hv3_2, h⟩ := H.call h
  refine xx rfl (e_crd [.slice A0 (List.length a0) k0, .int .i64 a1] (fun v => v) func136 (fun W S => C.s_prPairs W hv3_2 ((s_arg h0).out W S)) fun A3_2 k3_2 u3_2 => ?_)
  refine p 2 ?_
  refine rend ?_
  replace h := H.done h
  subst h
  exact ret func64 rfl (vs := [.slice A3_2 (List.length u3_2) k3_2, .bool true]) (.tmp (by kernel_rfl) (.tmp (by kernel_rfl) .nil)) rfl (fun W S => S.retD (res := fun v => .tuple #[v, .bool true]) 0 1 (by decide))
theorem C.i_PartsApart {fu : Nat} {a0 : Sign} {a1 : Sign} {r : ((List Int) × Bool)} (w : World) (h : X.i_PartsApart fu a0 a1 = some r) : Calls prog 65 #[.agg (eSign a0).toArray, .agg (eSign a1).toArray] w (RetR (eI .i64) 3 w r.1 (fun v => .tuple #[v, .bool r.2])) := by
  refine calls (M := no) (args := [.agg (eSign a0).toArray, .agg (eSign a1).toArray]) func65 rfl ?_
  replace h : H (X.i_PartsApart fu a0 a1) (fun o => o = r) := H.mk h
  unfold X.i_PartsApart at h
  refine c_seq ?_
  refine r_start ?_
  refine xx rfl (x_box (eSign a0) fun g0_0 => ?_)
  refine xx rfl (x_box (eSign a1) fun g0_1 => ?_)
  refine p 2 ?_
  refine rend ?_
  refine c_seq ?_
  refine c_seq ?_
  refine r_start ?_
  refine xq rfl (y_load (.agg (eSign a0).toArray) 0 g0_0 0) ?_
  obtain ⟨v1_1, hv1_1, h⟩ := H.call h
  refine xq rfl (y_call [.agg (eSign a0).toArray] (.bool v1_1) func19 (fun W S => C.i_IsSign W hv1_1)) ?_
  refine p 2 ?_
  refine br (!v1_1) (fun q1 => ?_) (fun q1 => ?_)
  · replace h := H.t q1 h
    refine o_set 9 (congrArg Value.bool q1) ?_
    refine p 4 ?_
    refine rend ?_
    refine c_t (by kernel_rfl) ?_
    refine c_seq ?_
    refine r_start ?_
    refine p 2 ?_
    refine rend ?_
    replace h := H.done h
    subst h
    exact ret func65 rfl (vs := [.slice none 0 0, .bool false]) (.tmp (by kernel_rfl) (.tmp (by kernel_rfl) .nil)) rfl (fun W S => ⟨none, 0, rfl, World.ownsRow_nil _ _ _ _, S.below⟩)
  replace h := H.f q1 h
  refine o_set 9 (congrArg Value.bool q1) ?_
  refine xq rfl (y_load (.agg (eSign a1).toArray) 1 g0_1 0) ?_
  obtain ⟨v1_5, hv1_5, h⟩ := H.call h
  refine xq rfl (y_call [.agg (eSign a1).toArray] (.bool v1_5) func19 (fun W S => C.i_IsSign W hv1_5)) ?_
  refine p 2 ?_
  refine rend ?_
  refine c_or (!v1_5) (fun q2 => ?_) (fun q2 => ?_)
  · replace h := H.t q2 h
    refine c_seq ?_
    refine r_start ?_
    refine p 2 ?_
    refine rend ?_
    replace h := H.done h
    subst h
    exact ret func65 rfl (vs := [.slice none 0 0, .bool false]) (.tmp (by kernel_rfl) (.tmp (by kernel_rfl) .nil)) rfl (fun W S => ⟨none, 0, rfl, World.ownsRow_nil _ _ _ _, S.below⟩)
  replace h := H.f q2 h
  refine c_skip ?_
  refine c_seq ?_
  refine r_start ?_
  refine xq rfl (y_load (.agg (eSign a0).toArray) 0 g0_0 0) ?_
  refine xq rfl (y_load (.agg (eSign a1).toArray) 1 g0_1 0) ?_
  obtain ⟨v3_2, hv3_2, h⟩ := H.call h
  refine xx rfl (e_cr [.agg (eSign a0).toArray, .agg (eSign a1).toArray] (fun v => v) func142 (fun W S => C.i_partsApart W hv3_2) fun A3_2 k3_2 => ?_)
  refine p 2 ?_
  refine rend ?_
  replace h := H.done h
  subst h
  exact ret func65 rfl (vs := [.slice A3_2 (List.length v3_2) k3_2, .bool true]) (.tmp (by kernel_rfl) (.tmp (by kernel_rfl) .nil)) rfl (fun W S => ⟨_, _, rfl, S.row 2, S.below⟩)
theorem C.i_IsMinimalPair {fu : Nat} {a0 : Sign} {a1 : Sign} {r : (Bool × Bool)} (w : World) (h : X.i_IsMinimalPair fu a0 a1 = some r) : Calls prog 66 #[.agg (eSign a0).toArray, .agg (eSign a1).toArray] w (Ret w (.tuple #[.bool r.1, .bool r.2])) := by
  refine calls (M := no) (args := [.agg (eSign a0).toArray, .agg (eSign a1).toArray]) func66 rfl ?_
  replace h : H (X.i_IsMinimalPair fu a0 a1) (fun o => o = r) := H.mk h
  unfold X.i_IsMinimalPair at h
  refine c_seq ?_
  refine r_start ?_
  refine xx rfl (x_box (eSign a0) fun g0_0 => ?_)
  refine xx rfl (x_box (eSign a1) fun g0_1 => ?_)
  refine p 2 ?_
  refine rend ?_
  refine c_seq ?_
  refine c_seq ?_
  refine r_start ?_
  refine xq rfl (y_load (.agg (eSign a0).toArray) 0 g0_0 0) ?_
  obtain ⟨v1_1, hv1_1, h⟩ := H.call h
  refine xq rfl (y_call [.agg (eSign a0).toArray] (.bool v1_1) func19 (fun W S => C.i_IsSign W hv1_1)) ?_
  refine p 2 ?_
  refine br (!v1_1) (fun q1 => ?_) (fun q1 => ?_)
  · replace h := H.t q1 h
    refine o_set 9 (congrArg Value.bool q1) ?_
    refine p 4 ?_
    refine rend ?_
    refine c_t (by kernel_rfl) ?_
    refine c_seq ?_
    refine r_start ?_
    refine p 2 ?_
    refine rend ?_
    replace h := H.done h
    subst h
    exact ret func66 rfl (vs := [.bool false, .bool false]) (.tmp (by kernel_rfl) (.tmp (by kernel_rfl) .nil)) rfl (fun W S => ⟨rfl, S.below⟩)
  replace h := H.f q1 h
  refine o_set 9 (congrArg Value.bool q1) ?_
  refine xq rfl (y_load (.agg (eSign a1).toArray) 1 g0_1 0) ?_
  obtain ⟨v1_5, hv1_5, h⟩ := H.call h
  refine xq rfl (y_call [.agg (eSign a1).toArray] (.bool v1_5) func19 (fun W S => C.i_IsSign W hv1_5)) ?_
  refine p 2 ?_
  refine rend ?_
  refine c_or (!v1_5) (fun q2 => ?_) (fun q2 => ?_)
  · replace h := H.t q2 h
    refine c_seq ?_
    refine r_start ?_
    refine p 2 ?_
    refine rend ?_
    replace h := H.done h
    subst h
    exact ret func66 rfl (vs := [.bool false, .bool false]) (.tmp (by kernel_rfl) (.tmp (by kernel_rfl) .nil)) rfl (fun W S => ⟨rfl, S.below⟩)
  replace h := H.f q2 h
  refine c_skip ?_
  refine c_seq ?_
  refine r_start ?_
  refine xq rfl (y_load (.agg (eSign a0).toArray) 0 g0_0 0) ?_
  refine xq rfl (y_load (.agg (eSign a1).toArray) 1 g0_1 0) ?_
  obtain ⟨v3_2, hv3_2, h⟩ := H.call h
  refine xq rfl (y_call [.agg (eSign a0).toArray, .agg (eSign a1).toArray] (.bool v3_2) func134 (fun W S => C.i_isPair W hv3_2)) ?_
  refine p 2 ?_
  refine rend ?_
  replace h := H.done h
  subst h
  exact ret func66 rfl (vs := [.bool v3_2, .bool true]) (.tmp (by kernel_rfl) (.tmp (by kernel_rfl) .nil)) rfl (fun W S => ⟨rfl, S.below⟩)
theorem C.i_PairsWith {fu : Nat} {a0 : (List Sign)} {A0 : Option Addr} {k0 : Nat} {a1 : Int} {r : ((List Int) × Bool)} (w : World) (h : X.i_PairsWith fu a0 a1 = some r) (h0 : RdT nSign w (.slice A0 (List.length a0) k0) a0) : Calls prog 67 #[.slice A0 (List.length a0) k0, .int .i64 a1] w (RetR (eI .i64) 3 w r.1 (fun v => .tuple #[v, .bool r.2])) := by
  refine calls (M := no) (args := [.slice A0 (List.length a0) k0, .int .i64 a1]) func67 rfl ?_
  replace h : H (X.i_PairsWith fu a0 a1) (fun o => o = r) := H.mk h
  unfold X.i_PairsWith at h
  refine c_seq ?_
  refine r_start ?_
  refine p 2 ?_
  refine rend ?_
  refine c_seq ?_
  refine c_seq ?_
  refine r_start ?_
  refine p 1 ?_
  obtain ⟨v1_1, hv1_1, h⟩ := H.call h
  refine xq rfl (y_call [.slice A0 (List.length a0) k0, .int .i64 16] (.bool v1_1) func132 (fun W S => C.i_areSigns W hv1_1 ((s_arg h0).out W S))) ?_
  refine p 2 ?_
  refine br (!v1_1) (fun q1 => ?_) (fun q1 => ?_)
  · replace h := H.t q1 h
    refine o_set 9 (congrArg Value.bool q1) ?_
    refine p 7 ?_
    refine rend ?_
    refine c_t (by kernel_rfl) ?_
    refine c_seq ?_
    refine r_start ?_
    refine p 2 ?_
    refine rend ?_
    replace h := H.done h
    subst h
    exact ret func67 rfl (vs := [.slice none 0 0, .bool false]) (.tmp (by kernel_rfl) (.tmp (by kernel_rfl) .nil)) rfl (fun W S => ⟨none, 0, rfl, World.ownsRow_nil _ _ _ _, S.below⟩)
  replace h := H.f q1 h
  refine o_set 9 (congrArg Value.bool q1) ?_
  refine p 4 ?_
  obtain ⟨v1_8, hv1_8, h⟩ := H.call h
  refine xq rfl (y_call [.int .i64 a1, .int .i64 0, .int .i64 (wr ((List.length a0 : Int) - 1))] (.bool v1_8) func139 (fun W S => C.i_within W hv1_8)) ?_
  refine p 2 ?_
  refine rend ?_
  refine c_or (!v1_8) (fun q2 => ?_) (fun q2 => ?_)
  · replace h := H.t q2 h
    refine c_seq ?_
    refine r_start ?_
    refine p 2 ?_
    refine rend ?_
    replace h := H.done h
    subst h
    exact ret func67 rfl (vs := [.slice none 0 0, .bool false]) (.tmp (by kernel_rfl) (.tmp (by kernel_rfl) .nil)) rfl (fun W S => ⟨none, 0, rfl, World.ownsRow_nil _ _ _ _, S.below⟩)
  replace h := H.f q2 h
  refine c_skip ?_
  refine c_seq ?_
  refine r_start ?_
  refine p 2 ?_
  obtain ⟨v3_2, hv3_2, h⟩ := H.call h
  refine xx rfl (e_cr [.slice A0 (List.length a0) k0, .int .i64 a1] (fun v => v) func137 (fun W S => C.i_pairsWith W hv3_2 ((s_arg h0).out W S)) fun A3_2 k3_2 => ?_)
  refine p 2 ?_
  refine rend ?_
  replace h := H.done h
  subst h
  exact ret func67 rfl (vs := [.slice A3_2 (List.length v3_2) k3_2, .bool true]) (.tmp (by kernel_rfl) (.tmp (by kernel_rfl) .nil)) rfl (fun W S => ⟨_, _, rfl, S.row 0, S.below⟩)
theorem C.s_prIndex {fu : Nat} {a0 : (List Sign)} {A0 : Option Addr} {k0 : Nat} {a1 : Int} {r : Bool} (w : World) (h : X.s_prIndex fu a0 a1 = some r) (h0 : RdT nSign w (.slice A0 (List.length a0) k0) a0) : Calls prog 144 #[.slice A0 (List.length a0) k0, .int .i64 a1] w (Ret w (.bool r)) := by
  refine calls (M := no) (args := [.slice A0 (List.length a0) k0, .int .i64 a1]) func144 rfl ?_
  replace h : H (X.s_prIndex fu a0 a1) (fun o => o = r) := H.mk h
  unfold X.s_prIndex at h
  refine c_seq ?_
  refine r_start ?_
  refine p 1 ?_
  refine rend ?_
  refine c_seq ?_
  refine r_start ?_
  refine p 1 ?_
  obtain ⟨v1_1, hv1_1, h⟩ := H.call h
  refine xq rfl (y_call [.slice A0 (List.length a0) k0] (.bool v1_1) func135 (fun W S => C.s_noList W hv1_1 ((s_arg h0).out W S))) ?_
  refine p 1 ?_
  refine br v1_1 (fun q1 => ?_) (fun q1 => ?_)
  · replace h := H.t q1 h
    refine o_set 7 (congrArg Value.bool q1) ?_
    refine p 4 ?_
    obtain ⟨v1_7, hv1_7, h⟩ := H.call h
    refine xq rfl (y_call [.int .i64 a1, .int .i64 0, .int .i64 (wr ((List.length a0 : Int) - 1))] (.bool v1_7) func152 (fun W S => C.s_l1In W hv1_7)) ?_
    refine p 2 ?_
    refine rend ?_
    replace h := H.done h
    subst h
    exact ret func144 rfl (vs := [.bool v1_7]) (.tmp (by kernel_rfl) .nil) rfl (fun W S => ⟨rfl, S.below⟩)
  replace h := H.f q1 h
  refine o_set 7 (congrArg Value.bool q1) ?_
  refine p 7 ?_
  refine rend ?_
  replace h := H.done h
  subst h
  exact ret func144 rfl (vs := [.bool false]) (.tmp (by kernel_rfl) .nil) rfl (fun W S => ⟨rfl, S.below⟩)
theorem C.s_PairsWith {fu : Nat} {a0 : (List Sign)} {A0 : Option Addr} {k0 : Nat} {a1 : Int} {r : ((List Int) × Bool)} (w : World) (h : X.s_PairsWith fu a0 a1 = some r) (h0 : RdT nSign w (.slice A0 (List.length a0) k0) a0) : Calls prog 68 #[.slice A0 (List.length a0) k0, .int .i64 a1] w (RetR (eI .i64) 3 w r.1 (fun v => .tuple #[v, .bool r.2])) := by
  refine calls (M := no) (args := [.slice A0 (List.length a0) k0, .int .i64 a1]) func68 rfl ?_
  replace h : H (X.s_PairsWith fu a0 a1) (fun o => o = r) := H.mk h
  unfold X.s_PairsWith at h
  refine c_seq ?_
  refine r_start ?_
  refine p 2 ?_
  refine rend ?_
  refine c_seq ?_
  refine c_seq ?_
  refine r_start ?_
  refine p 2 ?_
  obtain ⟨v1_2, hv1_2, h⟩ := H.call h
  refine xq rfl (y_call [.slice A0 (List.length a0) k0, .int .i64 a1] (.bool v1_2) func144 (fun W S => C.s_prIndex W hv1_2 ((s_arg h0).out W S))) ?_
  refine p 1 ?_
  refine rend ?_
  refine c_or (!v1_2) (fun q1 => ?_) (fun q1 => ?_)
  · replace h := H.t q1 h
    refine c_seq ?_
    refine r_start ?_
    refine p 2 ?_
    refine rend ?_
    replace h := H.done h
    subst h
    exact ret func68 rfl (vs := [.slice none 0 0, .bool false]) (.tmp (by kernel_rfl) (.tmp (by kernel_rfl) .nil)) rfl (fun W S => ⟨none, 0, rfl, World.ownsRow_nil _ _ _ _, S.below⟩)
  replace h := H.f q1 h
  refine c_skip ?_
  refine c_seq ?_
  refine r_start ?_
  refine p 2 ?_
  obtain ⟨v3_2, hv3_2, h⟩ := H.call h
  refine xx rfl (e_cr [.slice A0 (List.length a0) k0, .int .i64 a1] (fun v => v) func138 (fun W S => C.s_prWith W hv3_2 ((s_arg h0).out W S)) fun A3_2 k3_2 => ?_)
  refine p 2 ?_
  refine rend ?_
  replace h := H.done h
  subst h
  exact ret func68 rfl (vs := [.slice A3_2 (List.length v3_2) k3_2, .bool true]) (.tmp (by kernel_rfl) (.tmp (by kernel_rfl) .nil)) rfl (fun W S => ⟨_, _, rfl, S.row 0, S.below⟩)
theorem C.l_pIn {a0 : (List Int)} {A0 : Option Addr} {k0 : Nat} {a1 : Int} {r : Bool} (w : World) (h : X.l_pIn a0 a1 = some r) (h0 : RdT (eI .i64) w (.slice A0 (List.length a0) k0) a0) : Calls prog 69 #[.slice A0 (List.length a0) k0, .int .i64 a1] w (Ret w (.bool r)) := by
  refine calls (M := no) (args := [.slice A0 (List.length a0) k0, .int .i64 a1]) func69 rfl ?_
  replace h : H (X.l_pIn a0 a1) (fun o => o = r) := H.mk h
  unfold X.l_pIn at h
  refine c_seq ?_
  refine r_start ?_
  refine p 1 ?_
  refine rend ?_
  refine c_seq ?_
  refine c_seq ?_
  refine r_start ?_
  refine p 3 ?_
  refine rend ?_
  refine c_block ?_
  refine joinE (X := Unit) 0 (H.or h) (fun (x : Unit) => x) (fun _ => []) (fun _ u => (jk u 0 17 [])) (fun h hj1 => ?_) ?_
  · skip
    refine rangeR (X := Unit) (s_arg h0) (fun (x : Unit) => x) (fun _ => []) (fun (j2 : Nat) _ u => (jk u 0 1 (.int .i64 a1 :: (jk u 2 5 (.slice A0 (List.length a0) k0 :: .int .i64 (List.length a0 : Int) :: .int .i64 (j2 : Int) :: (jk u 10 7 [])))))) () h (by kernel_rfl) (by kernel_rfl) ?_ ?_
    · intro j2 x u x3 q4 hg5 hw6 h
      refine c_seq ?_
      refine r_start ?_
      refine p 1 ?_
      refine rend ?_
      refine c_seq ?_
      refine c_yes q4 ?_
      refine c_skip ?_
      refine c_seq ?_
      refine c_block ?_
      refine c_seq ?_
      refine r_start ?_
      refine xq rfl (y_idx (e := (eI .i64)) (el := 3) hg5 (s_arg h0)) ?_
      refine xq rfl (y_el (e := (eI .i64)) 0 (.int .i64 x3) hg5 (s_arg h0)) ?_
      refine p 1 ?_
      refine rend ?_
      refine c_seq ?_
      refine r_start ?_
      refine p 3 ?_
      refine rend ?_
      refine c_or (x3 == a1) (fun q7 => ?_) (fun q7 => ?_)
      · replace h := H.t q7 h
        refine c_seq ?_
        refine r_start ?_
        refine p 1 ?_
        refine rend ?_
        replace h := H.inr h
        replace h := H.done h
        subst h
        exact ret func69 rfl (vs := [.bool true]) (.tmp (by kernel_rfl) .nil) rfl (fun W S => ⟨rfl, S.below⟩)
      replace h := H.f q7 h
      refine c_skip ?_
      refine c_inb ?_
      refine r_start ?_
      refine p 2 ?_
      refine rend ?_
      refine c_set 9 (ci hw6) ?_
      replace h := H.inl h
      exact h () _ _ rfl (by kernel_rfl) (by kernel_rfl)
    · intro x u q4 h
      refine c_seq ?_
      refine r_start ?_
      refine p 1 ?_
      refine rend ?_
      refine c_seq ?_
      refine c_no q4 ?_
      refine cx ?_
      replace h := H.done h
      exact hj1 () _ _ h (by kernel_rfl) (by kernel_rfl)
  intro x u h
  refine c_seq ?_
  refine r_start ?_
  refine p 1 ?_
  refine rend ?_
  replace h := H.done h
  subst h
  exact ret func69 rfl (vs := [.bool false]) (.tmp (by kernel_rfl) .nil) rfl (fun W S => ⟨rfl, S.below⟩)
theorem C.s_l1Cur_nearSigns {fu : Nat} {a0 : List Int} {A0 : Option Addr} {k0 g0 : Nat} {t0 s0 : Int} {r : (Sign × Sign × Int × Int)} (w : World) (h : X.s_l1Cur_nearSigns fu a0 t0 s0 = some r) (m0 : w.heap[g0]? = some (.cells ([.slice A0 (List.length a0) k0, .int .i64 t0, .int .u64 s0] : List Value).toArray 92 (0, 0))) (h0 : RdT (eI .u8) w (.slice A0 (List.length a0) k0) a0) (q0 : 0 < List.length a0 → ∀ k, (Value.slice A0 (List.length a0) k0).ownBlock = some k → ¬ k = g0) : Calls prog 145 #[.pointer (some ⟨g0, 0, none⟩)] w (RetQ g0 92 [.slice A0 (List.length a0) k0, .int .i64 r.2.2.1, .int .u64 r.2.2.2] w (.tuple #[.agg (eSign r.1).toArray, .agg (eSign r.2.1).toArray])) := by
  refine callsQ (args := [.pointer (some ⟨g0, 0, none⟩)]) m0 func145 rfl ?_
  replace h : H (X.s_l1Cur_nearSigns fu a0 t0 s0) (fun o => o = r) := H.mk h
  unfold X.s_l1Cur_nearSigns at h
  refine c_seq ?_
  refine r_start ?_
  refine xx rfl (x_new (eSign zSign) fun g0_0 => ?_)
  refine xx rfl (x_new (eSign zSign) fun g0_1 => ?_)
  refine rend ?_
  refine c_seq ?_
  refine r_start ?_
  refine p 1 ?_
  obtain ⟨v1_1, hv1_1, h⟩ := H.call h
  refine xx rfl (e_cq (cs' := [.slice A0 (List.length a0) k0, .int .i64 v1_1.2.1, .int .u64 v1_1.2.2]) (v := .agg (eSign v1_1.1).toArray) 0 [.pointer (some ⟨g0, 0, none⟩)] func116 (fun W S => C.s_l1Cur_anySign W hv1_1 (S.bx 0) ((s_argN h0 q0).out W S) q0) ?_)
  refine xx rfl (x_new (eSign zSign) fun g1_2 => ?_)
  refine xx rfl (x_sto 3 g1_2 0 (eSign v1_1.1) ?_)
  refine rend ?_
  refine c_seq ?_
  refine r_start ?_
  refine p 1 ?_
  obtain ⟨v2_1, hv2_1, h⟩ := H.call h
  refine xx rfl (e_cq (cs' := [.slice A0 (List.length a0) k0, .int .i64 v2_1.2.1, .int .u64 v2_1.2.2]) (v := .agg (eSign v2_1.1).toArray) 0 [.pointer (some ⟨g0, 0, none⟩)] func189 (fun W S => C.s_l1Cur_sign W hv2_1 (S.bx 0) ((s_argN h0 q0).out W S) q0) ?_)
  refine xx rfl (x_new (eSign zSign) fun g2_2 => ?_)
  refine xx rfl (x_sto 4 g2_2 0 (eSign v2_1.1) ?_)
  refine rend ?_
  refine c_seq ?_
  refine c_seq ?_
  refine r_start ?_
  refine p 1 ?_
  obtain ⟨v3_1, hv3_1, h⟩ := H.call h
  refine xx rfl (e_cq (cs' := [.slice A0 (List.length a0) k0, .int .i64 v3_1.2.1, .int .u64 v3_1.2.2]) (v := .bool v3_1.1) 0 [.pointer (some ⟨g0, 0, none⟩), .int .i64 2] func90 (fun W S => C.s_l1Cur_one W hv3_1 (S.bx 0) ((s_argN h0 q0).out W S) q0) ?_)
  refine rend ?_
  refine c_or v3_1.1 (fun q1 => ?_) (fun q1 => ?_)
  · replace h := H.t q1 h
    refine c_seq ?_
    refine r_start ?_
    refine xq rfl (y_load (.agg (eSign v1_1.1).toArray) 3 g1_2 0) ?_
    refine xx rfl (x_sto 4 g2_2 0 (eSign v1_1.1) ?_)
    refine rend ?_
    refine c_seq ?_
    refine c_seq ?_
    refine r_start ?_
    refine p 1 ?_
    obtain ⟨v5_1, hv5_1, h⟩ := H.call h
    refine xx rfl (e_cq (cs' := [.slice A0 (List.length a0) k0, .int .i64 v5_1.2.1, .int .u64 v5_1.2.2]) (v := .int .i64 v5_1.1) 0 [.pointer (some ⟨g0, 0, none⟩), .int .i64 4] func123 (fun W S => C.s_l1Cur_pick W hv5_1 (S.bx 0) ((s_argN h0 q0).out W S) q0) ?_)
    refine rend ?_
    refine c_block ?_
    refine c_seq ?_
    refine r_start ?_
    refine p 2 ?_
    refine rend ?_
    refine c_or (v5_1.1 == 0) (fun q2 => ?_) (fun q2 => ?_)
    · replace h := H.t q2 h
      refine r_start ?_
      refine p 1 ?_
      obtain ⟨v7_1, hv7_1, h⟩ := H.call h
      refine xx rfl (e_cq (cs' := [.slice A0 (List.length a0) k0, .int .i64 v7_1.2.1, .int .u64 v7_1.2.2]) (v := .agg (ePlace v7_1.1).toArray) 0 [.pointer (some ⟨g0, 0, none⟩)] func124 (fun W S => C.s_l1Cur_place W hv7_1 (S.bx 0) ((s_argN h0 q0).out W S) q0) ?_)
      refine p 2 ?_
      refine xx rfl (x_sto 4 g2_2 8 (eSign ({ v1_1.1 with Main := { v1_1.1.Main with Place := v7_1.1 } })) ?_)
      refine rend ?_
      refine c_inb ?_
      refine c_seq ?_
      refine r_start ?_
      refine xq rfl (y_load (.agg (eSign ({ v1_1.1 with Main := { v1_1.1.Main with Place := v7_1.1 } })).toArray) 4 g2_2 0) ?_
      obtain ⟨v12_1, hv12_1, h⟩ := H.call h
      refine xq rfl (y_call [.agg (eSign ({ v1_1.1 with Main := { v1_1.1.Main with Place := v7_1.1 } })).toArray] (.bool v12_1) func91 (fun W S => C.s_siGood W hv12_1)) ?_
      refine p 1 ?_
      refine rend ?_
      refine c_or (!v12_1) (fun q3 => ?_) (fun q3 => ?_)
      · replace h := H.t q3 h
        refine r_start ?_
        refine p 1 ?_
        obtain ⟨v13_1, hv13_1, h⟩ := H.call h
        refine xx rfl (e_cq (cs' := [.slice A0 (List.length a0) k0, .int .i64 v13_1.2.1, .int .u64 v13_1.2.2]) (v := .agg (eSign v13_1.1).toArray) 0 [.pointer (some ⟨g0, 0, none⟩)] func189 (fun W S => C.s_l1Cur_sign W hv13_1 (S.bx 0) ((s_argN h0 q0).out W S) q0) ?_)
        refine xx rfl (x_sto 4 g2_2 0 (eSign v13_1.1) ?_)
        refine rend ?_
        refine c_seq ?_
        refine pick [0, 3, 4, 1, 2] [box g0 92 [.slice A0 (List.length a0) k0, .int .i64 v13_1.2.1, .int .u64 v13_1.2.2], box g1_2 37 (eSign v1_1.1), box g2_2 37 (eSign v13_1.1), box g0_0 37 (eSign zSign), box g0_1 37 (eSign zSign)] ?_
        refine as_startN 4 3 4 ?_
        refine aq 0 rfl (y_load (.agg (eSign v1_1.1).toArray) 1 g1_2 0) ?_
        refine aq 1 rfl (y_load (.agg (eSign v13_1.1).toArray) 2 g2_2 0) ?_
        refine ax 2 rfl (x_sto 3 g0_0 0 (eSign v1_1.1) ⟨.inr (by kernel_rfl), ?_⟩)
        refine ax 3 rfl (x_sto 4 g0_1 0 (eSign v13_1.1) ⟨.inr (by kernel_rfl), ?_⟩)
        refine a_done ?_
        refine pick [0, 3, 4, 1, 2] [box g0 92 [.slice A0 (List.length a0) k0, .int .i64 v13_1.2.1, .int .u64 v13_1.2.2], box g0_0 37 (eSign v1_1.1), box g0_1 37 (eSign v13_1.1), box g1_2 37 (eSign v1_1.1), box g2_2 37 (eSign v13_1.1)] ?_
        replace h := H.done h
        subst h
        exact ret func145 rfl (vs := [.agg (eSign v1_1.1).toArray, .agg (eSign v13_1.1).toArray]) (.cell 1 g0_0 rfl (by kernel_rfl) (by kernel_rfl) (.cell 2 g0_1 rfl (by kernel_rfl) (by kernel_rfl) .nil)) rfl (fun W S => S.retQ)
      replace h := H.f q3 h
      refine c_skip ?_
      refine c_seq ?_
      refine pick [0, 3, 4, 1, 2] [box g0 92 [.slice A0 (List.length a0) k0, .int .i64 v7_1.2.1, .int .u64 v7_1.2.2], box g1_2 37 (eSign v1_1.1), box g2_2 37 (eSign ({ v1_1.1 with Main := { v1_1.1.Main with Place := v7_1.1 } })), box g0_0 37 (eSign zSign), box g0_1 37 (eSign zSign)] ?_
      refine as_startN 4 3 4 ?_
      refine aq 0 rfl (y_load (.agg (eSign v1_1.1).toArray) 1 g1_2 0) ?_
      refine aq 1 rfl (y_load (.agg (eSign ({ v1_1.1 with Main := { v1_1.1.Main with Place := v7_1.1 } })).toArray) 2 g2_2 0) ?_
      refine ax 2 rfl (x_sto 3 g0_0 0 (eSign v1_1.1) ⟨.inr (by kernel_rfl), ?_⟩)
      refine ax 3 rfl (x_sto 4 g0_1 0 (eSign ({ v1_1.1 with Main := { v1_1.1.Main with Place := v7_1.1 } })) ⟨.inr (by kernel_rfl), ?_⟩)
      refine a_done ?_
      refine pick [0, 3, 4, 1, 2] [box g0 92 [.slice A0 (List.length a0) k0, .int .i64 v7_1.2.1, .int .u64 v7_1.2.2], box g0_0 37 (eSign v1_1.1), box g0_1 37 (eSign ({ v1_1.1 with Main := { v1_1.1.Main with Place := v7_1.1 } })), box g1_2 37 (eSign v1_1.1), box g2_2 37 (eSign ({ v1_1.1 with Main := { v1_1.1.Main with Place := v7_1.1 } }))] ?_
      replace h := H.done h
      subst h
      exact ret func145 rfl (vs := [.agg (eSign v1_1.1).toArray, .agg (eSign ({ v1_1.1 with Main := { v1_1.1.Main with Place := v7_1.1 } })).toArray]) (.cell 1 g0_0 rfl (by kernel_rfl) (by kernel_rfl) (.cell 2 g0_1 rfl (by kernel_rfl) (by kernel_rfl) .nil)) rfl (fun W S => S.retQ)
    replace h := H.f q2 h
    refine c_seq ?_
    refine r_start ?_
    refine p 2 ?_
    refine rend ?_
    refine c_or (v5_1.1 == 1) (fun q4 => ?_) (fun q4 => ?_)
    · replace h := H.t q4 h
      refine r_start ?_
      refine p 1 ?_
      obtain ⟨v9_1, hv9_1, h⟩ := H.call h
      refine xx rfl (e_cq (cs' := [.slice A0 (List.length a0) k0, .int .i64 v9_1.2.1, .int .u64 v9_1.2.2]) (v := .agg (eShape v9_1.1).toArray) 0 [.pointer (some ⟨g0, 0, none⟩)] func203 (fun W S => C.s_l1Cur_shape W hv9_1 (S.bx 0) ((s_argN h0 q0).out W S) q0) ?_)
      refine p 2 ?_
      refine xx rfl (x_sto 4 g2_2 0 (eSign ({ v1_1.1 with Main := { v1_1.1.Main with Shape := v9_1.1 } })) ?_)
      refine rend ?_
      refine c_inb ?_
      refine c_seq ?_
      refine r_start ?_
      refine xq rfl (y_load (.agg (eSign ({ v1_1.1 with Main := { v1_1.1.Main with Shape := v9_1.1 } })).toArray) 4 g2_2 0) ?_
      obtain ⟨v12_1, hv12_1, h⟩ := H.call h
      refine xq rfl (y_call [.agg (eSign ({ v1_1.1 with Main := { v1_1.1.Main with Shape := v9_1.1 } })).toArray] (.bool v12_1) func91 (fun W S => C.s_siGood W hv12_1)) ?_
      refine p 1 ?_
      refine rend ?_
      refine c_or (!v12_1) (fun q5 => ?_) (fun q5 => ?_)
      · replace h := H.t q5 h
        refine r_start ?_
        refine p 1 ?_
        obtain ⟨v13_1, hv13_1, h⟩ := H.call h
        refine xx rfl (e_cq (cs' := [.slice A0 (List.length a0) k0, .int .i64 v13_1.2.1, .int .u64 v13_1.2.2]) (v := .agg (eSign v13_1.1).toArray) 0 [.pointer (some ⟨g0, 0, none⟩)] func189 (fun W S => C.s_l1Cur_sign W hv13_1 (S.bx 0) ((s_argN h0 q0).out W S) q0) ?_)
        refine xx rfl (x_sto 4 g2_2 0 (eSign v13_1.1) ?_)
        refine rend ?_
        refine c_seq ?_
        refine pick [0, 3, 4, 1, 2] [box g0 92 [.slice A0 (List.length a0) k0, .int .i64 v13_1.2.1, .int .u64 v13_1.2.2], box g1_2 37 (eSign v1_1.1), box g2_2 37 (eSign v13_1.1), box g0_0 37 (eSign zSign), box g0_1 37 (eSign zSign)] ?_
        refine as_startN 4 3 4 ?_
        refine aq 0 rfl (y_load (.agg (eSign v1_1.1).toArray) 1 g1_2 0) ?_
        refine aq 1 rfl (y_load (.agg (eSign v13_1.1).toArray) 2 g2_2 0) ?_
        refine ax 2 rfl (x_sto 3 g0_0 0 (eSign v1_1.1) ⟨.inr (by kernel_rfl), ?_⟩)
        refine ax 3 rfl (x_sto 4 g0_1 0 (eSign v13_1.1) ⟨.inr (by kernel_rfl), ?_⟩)
        refine a_done ?_
        refine pick [0, 3, 4, 1, 2] [box g0 92 [.slice A0 (List.length a0) k0, .int .i64 v13_1.2.1, .int .u64 v13_1.2.2], box g0_0 37 (eSign v1_1.1), box g0_1 37 (eSign v13_1.1), box g1_2 37 (eSign v1_1.1), box g2_2 37 (eSign v13_1.1)] ?_
        replace h := H.done h
        subst h
        exact ret func145 rfl (vs := [.agg (eSign v1_1.1).toArray, .agg (eSign v13_1.1).toArray]) (.cell 1 g0_0 rfl (by kernel_rfl) (by kernel_rfl) (.cell 2 g0_1 rfl (by kernel_rfl) (by kernel_rfl) .nil)) rfl (fun W S => S.retQ)
      replace h := H.f q5 h
      refine c_skip ?_
      refine c_seq ?_
      refine pick [0, 3, 4, 1, 2] [box g0 92 [.slice A0 (List.length a0) k0, .int .i64 v9_1.2.1, .int .u64 v9_1.2.2], box g1_2 37 (eSign v1_1.1), box g2_2 37 (eSign ({ v1_1.1 with Main := { v1_1.1.Main with Shape := v9_1.1 } })), box g0_0 37 (eSign zSign), box g0_1 37 (eSign zSign)] ?_
      refine as_startN 4 3 4 ?_
      refine aq 0 rfl (y_load (.agg (eSign v1_1.1).toArray) 1 g1_2 0) ?_
      refine aq 1 rfl (y_load (.agg (eSign ({ v1_1.1 with Main := { v1_1.1.Main with Shape := v9_1.1 } })).toArray) 2 g2_2 0) ?_
      refine ax 2 rfl (x_sto 3 g0_0 0 (eSign v1_1.1) ⟨.inr (by kernel_rfl), ?_⟩)
      refine ax 3 rfl (x_sto 4 g0_1 0 (eSign ({ v1_1.1 with Main := { v1_1.1.Main with Shape := v9_1.1 } })) ⟨.inr (by kernel_rfl), ?_⟩)
      refine a_done ?_
      refine pick [0, 3, 4, 1, 2] [box g0 92 [.slice A0 (List.length a0) k0, .int .i64 v9_1.2.1, .int .u64 v9_1.2.2], box g0_0 37 (eSign v1_1.1), box g0_1 37 (eSign ({ v1_1.1 with Main := { v1_1.1.Main with Shape := v9_1.1 } })), box g1_2 37 (eSign v1_1.1), box g2_2 37 (eSign ({ v1_1.1 with Main := { v1_1.1.Main with Shape := v9_1.1 } }))] ?_
      replace h := H.done h
      subst h
      exact ret func145 rfl (vs := [.agg (eSign v1_1.1).toArray, .agg (eSign ({ v1_1.1 with Main := { v1_1.1.Main with Shape := v9_1.1 } })).toArray]) (.cell 1 g0_0 rfl (by kernel_rfl) (by kernel_rfl) (.cell 2 g0_1 rfl (by kernel_rfl) (by kernel_rfl) .nil)) rfl (fun W S => S.retQ)
    replace h := H.f q4 h
    refine c_seq ?_
    refine r_start ?_
    refine p 2 ?_
    refine rend ?_
    refine c_or (v5_1.1 == 2) (fun q6 => ?_) (fun q6 => ?_)
    · replace h := H.t q6 h
      refine r_start ?_
      refine p 1 ?_
      obtain ⟨v11_1, hv11_1, h⟩ := H.call h
      refine xx rfl (e_cq (cs' := [.slice A0 (List.length a0) k0, .int .i64 v11_1.2.1, .int .u64 v11_1.2.2]) (v := .agg (eMove v11_1.1).toArray) 0 [.pointer (some ⟨g0, 0, none⟩)] func109 (fun W S => C.s_l1Cur_move W hv11_1 (S.bx 0) ((s_argN h0 q0).out W S) q0) ?_)
      refine p 2 ?_
      refine xx rfl (x_sto 4 g2_2 11 (eSign ({ v1_1.1 with Main := { v1_1.1.Main with Move := v11_1.1 } })) ?_)
      refine rend ?_
      refine c_inb ?_
      refine c_seq ?_
      refine r_start ?_
      refine xq rfl (y_load (.agg (eSign ({ v1_1.1 with Main := { v1_1.1.Main with Move := v11_1.1 } })).toArray) 4 g2_2 0) ?_
      obtain ⟨v12_1, hv12_1, h⟩ := H.call h
      refine xq rfl (y_call [.agg (eSign ({ v1_1.1 with Main := { v1_1.1.Main with Move := v11_1.1 } })).toArray] (.bool v12_1) func91 (fun W S => C.s_siGood W hv12_1)) ?_
      refine p 1 ?_
      refine rend ?_
      refine c_or (!v12_1) (fun q7 => ?_) (fun q7 => ?_)
      · replace h := H.t q7 h
        refine r_start ?_
        refine p 1 ?_
        obtain ⟨v13_1, hv13_1, h⟩ := H.call h
        refine xx rfl (e_cq (cs' := [.slice A0 (List.length a0) k0, .int .i64 v13_1.2.1, .int .u64 v13_1.2.2]) (v := .agg (eSign v13_1.1).toArray) 0 [.pointer (some ⟨g0, 0, none⟩)] func189 (fun W S => C.s_l1Cur_sign W hv13_1 (S.bx 0) ((s_argN h0 q0).out W S) q0) ?_)
        refine xx rfl (x_sto 4 g2_2 0 (eSign v13_1.1) ?_)
        refine rend ?_
        refine frg (fun u => (jk u 0 2 (.pointer (some ⟨g0_0, 0, none⟩) :: .pointer (some ⟨g0_1, 0, none⟩) :: .pointer (some ⟨g1_2, 0, none⟩) :: .pointer (some ⟨g2_2, 0, none⟩) :: (jk u 6 34 [])))) (by kernel_rfl) fun u => ?_
        refine keep 5 (its' := [box g0 92 [.slice A0 (List.length a0) k0, .int .i64 v13_1.2.1, .int .u64 v13_1.2.2], box g0_0 37 (eSign zSign), box g0_1 37 (eSign zSign), box g1_2 37 (eSign v1_1.1), box g2_2 37 (eSign v13_1.1)]) (by kernel_rfl) ?_
        refine c_seq ?_
        refine pick [0, 3, 4, 1, 2] [box g0 92 [.slice A0 (List.length a0) k0, .int .i64 v13_1.2.1, .int .u64 v13_1.2.2], box g1_2 37 (eSign v1_1.1), box g2_2 37 (eSign v13_1.1), box g0_0 37 (eSign zSign), box g0_1 37 (eSign zSign)] ?_
        refine as_startN 4 3 4 ?_
        refine aq 0 rfl (y_load (.agg (eSign v1_1.1).toArray) 1 g1_2 0) ?_
        refine aq 1 rfl (y_load (.agg (eSign v13_1.1).toArray) 2 g2_2 0) ?_
        refine ax 2 rfl (x_sto 3 g0_0 0 (eSign v1_1.1) ⟨.inr (by kernel_rfl), ?_⟩)
        refine ax 3 rfl (x_sto 4 g0_1 0 (eSign v13_1.1) ⟨.inr (by kernel_rfl), ?_⟩)
        refine a_done ?_
        refine pick [0, 3, 4, 1, 2] [box g0 92 [.slice A0 (List.length a0) k0, .int .i64 v13_1.2.1, .int .u64 v13_1.2.2], box g0_0 37 (eSign v1_1.1), box g0_1 37 (eSign v13_1.1), box g1_2 37 (eSign v1_1.1), box g2_2 37 (eSign v13_1.1)] ?_
        replace h := H.done h
        subst h
        exact ret func145 rfl (vs := [.agg (eSign v1_1.1).toArray, .agg (eSign v13_1.1).toArray]) (.cell 1 g0_0 rfl (by kernel_rfl) (by kernel_rfl) (.cell 2 g0_1 rfl (by kernel_rfl) (by kernel_rfl) .nil)) rfl (fun W S => S.retQ)
      replace h := H.f q7 h
      refine c_skip ?_
      refine c_seq ?_
      refine pick [0, 3, 4, 1, 2] [box g0 92 [.slice A0 (List.length a0) k0, .int .i64 v11_1.2.1, .int .u64 v11_1.2.2], box g1_2 37 (eSign v1_1.1), box g2_2 37 (eSign ({ v1_1.1 with Main := { v1_1.1.Main with Move := v11_1.1 } })), box g0_0 37 (eSign zSign), box g0_1 37 (eSign zSign)] ?_
      refine as_startN 4 3 4 ?_
      refine aq 0 rfl (y_load (.agg (eSign v1_1.1).toArray) 1 g1_2 0) ?_
      refine aq 1 rfl (y_load (.agg (eSign ({ v1_1.1 with Main := { v1_1.1.Main with Move := v11_1.1 } })).toArray) 2 g2_2 0) ?_
      refine ax 2 rfl (x_sto 3 g0_0 0 (eSign v1_1.1) ⟨.inr (by kernel_rfl), ?_⟩)
      refine ax 3 rfl (x_sto 4 g0_1 0 (eSign ({ v1_1.1 with Main := { v1_1.1.Main with Move := v11_1.1 } })) ⟨.inr (by kernel_rfl), ?_⟩)
      refine a_done ?_
      refine pick [0, 3, 4, 1, 2] [box g0 92 [.slice A0 (List.length a0) k0, .int .i64 v11_1.2.1, .int .u64 v11_1.2.2], box g0_0 37 (eSign v1_1.1), box g0_1 37 (eSign ({ v1_1.1 with Main := { v1_1.1.Main with Move := v11_1.1 } })), box g1_2 37 (eSign v1_1.1), box g2_2 37 (eSign ({ v1_1.1 with Main := { v1_1.1.Main with Move := v11_1.1 } }))] ?_
      replace h := H.done h
      subst h
      exact ret func145 rfl (vs := [.agg (eSign v1_1.1).toArray, .agg (eSign ({ v1_1.1 with Main := { v1_1.1.Main with Move := v11_1.1 } })).toArray]) (.cell 1 g0_0 rfl (by kernel_rfl) (by kernel_rfl) (.cell 2 g0_1 rfl (by kernel_rfl) (by kernel_rfl) .nil)) rfl (fun W S => S.retQ)
    replace h := H.f q6 h
    refine c_skip ?_
    refine c_inb ?_
    refine c_seq ?_
    refine r_start ?_
    refine xq rfl (y_load (.agg (eSign v1_1.1).toArray) 4 g2_2 0) ?_
    obtain ⟨v12_1, hv12_1, h⟩ := H.call h
    refine xq rfl (y_call [.agg (eSign v1_1.1).toArray] (.bool v12_1) func91 (fun W S => C.s_siGood W hv12_1)) ?_
    refine p 1 ?_
    refine rend ?_
    refine c_or (!v12_1) (fun q8 => ?_) (fun q8 => ?_)
    · replace h := H.t q8 h
      refine r_start ?_
      refine p 1 ?_
      obtain ⟨v13_1, hv13_1, h⟩ := H.call h
      refine xx rfl (e_cq (cs' := [.slice A0 (List.length a0) k0, .int .i64 v13_1.2.1, .int .u64 v13_1.2.2]) (v := .agg (eSign v13_1.1).toArray) 0 [.pointer (some ⟨g0, 0, none⟩)] func189 (fun W S => C.s_l1Cur_sign W hv13_1 (S.bx 0) ((s_argN h0 q0).out W S) q0) ?_)
      refine xx rfl (x_sto 4 g2_2 0 (eSign v13_1.1) ?_)
      refine rend ?_
      refine c_seq ?_
      refine pick [0, 3, 4, 1, 2] [box g0 92 [.slice A0 (List.length a0) k0, .int .i64 v13_1.2.1, .int .u64 v13_1.2.2], box g1_2 37 (eSign v1_1.1), box g2_2 37 (eSign v13_1.1), box g0_0 37 (eSign zSign), box g0_1 37 (eSign zSign)] ?_
      refine as_startN 4 3 4 ?_
      refine aq 0 rfl (y_load (.agg (eSign v1_1.1).toArray) 1 g1_2 0) ?_
      refine aq 1 rfl (y_load (.agg (eSign v13_1.1).toArray) 2 g2_2 0) ?_
      refine ax 2 rfl (x_sto 3 g0_0 0 (eSign v1_1.1) ⟨.inr (by kernel_rfl), ?_⟩)
      refine ax 3 rfl (x_sto 4 g0_1 0 (eSign v13_1.1) ⟨.inr (by kernel_rfl), ?_⟩)
      refine a_done ?_
      refine pick [0, 3, 4, 1, 2] [box g0 92 [.slice A0 (List.length a0) k0, .int .i64 v13_1.2.1, .int .u64 v13_1.2.2], box g0_0 37 (eSign v1_1.1), box g0_1 37 (eSign v13_1.1), box g1_2 37 (eSign v1_1.1), box g2_2 37 (eSign v13_1.1)] ?_
      replace h := H.done h
      subst h
      exact ret func145 rfl (vs := [.agg (eSign v1_1.1).toArray, .agg (eSign v13_1.1).toArray]) (.cell 1 g0_0 rfl (by kernel_rfl) (by kernel_rfl) (.cell 2 g0_1 rfl (by kernel_rfl) (by kernel_rfl) .nil)) rfl (fun W S => S.retQ)
    replace h := H.f q8 h
    refine c_skip ?_
    refine c_seq ?_
    refine pick [0, 3, 4, 1, 2] [box g0 92 [.slice A0 (List.length a0) k0, .int .i64 v5_1.2.1, .int .u64 v5_1.2.2], box g1_2 37 (eSign v1_1.1), box g2_2 37 (eSign v1_1.1), box g0_0 37 (eSign zSign), box g0_1 37 (eSign zSign)] ?_
    refine as_startN 4 3 4 ?_
    refine aq 0 rfl (y_load (.agg (eSign v1_1.1).toArray) 1 g1_2 0) ?_
    refine aq 1 rfl (y_load (.agg (eSign v1_1.1).toArray) 2 g2_2 0) ?_
    refine ax 2 rfl (x_sto 3 g0_0 0 (eSign v1_1.1) ⟨.inr (by kernel_rfl), ?_⟩)
    refine ax 3 rfl (x_sto 4 g0_1 0 (eSign v1_1.1) ⟨.inr (by kernel_rfl), ?_⟩)
    refine a_done ?_
    refine pick [0, 3, 4, 1, 2] [box g0 92 [.slice A0 (List.length a0) k0, .int .i64 v5_1.2.1, .int .u64 v5_1.2.2], box g0_0 37 (eSign v1_1.1), box g0_1 37 (eSign v1_1.1), box g1_2 37 (eSign v1_1.1), box g2_2 37 (eSign v1_1.1)] ?_
    replace h := H.done h
    subst h
    exact ret func145 rfl (vs := [.agg (eSign v1_1.1).toArray, .agg (eSign v1_1.1).toArray]) (.cell 1 g0_0 rfl (by kernel_rfl) (by kernel_rfl) (.cell 2 g0_1 rfl (by kernel_rfl) (by kernel_rfl) .nil)) rfl (fun W S => S.retQ)
  replace h := H.f q1 h
  refine c_skip ?_
  refine c_seq ?_
  refine pick [0, 3, 4, 1, 2] [box g0 92 [.slice A0 (List.length a0) k0, .int .i64 v3_1.2.1, .int .u64 v3_1.2.2], box g1_2 37 (eSign v1_1.1), box g2_2 37 (eSign v2_1.1), box g0_0 37 (eSign zSign), box g0_1 37 (eSign zSign)] ?_
  refine as_startN 4 3 4 ?_
  refine aq 0 rfl (y_load (.agg (eSign v1_1.1).toArray) 1 g1_2 0) ?_
  refine aq 1 rfl (y_load (.agg (eSign v2_1.1).toArray) 2 g2_2 0) ?_
  refine ax 2 rfl (x_sto 3 g0_0 0 (eSign v1_1.1) ⟨.inr (by kernel_rfl), ?_⟩)
  refine ax 3 rfl (x_sto 4 g0_1 0 (eSign v2_1.1) ⟨.inr (by kernel_rfl), ?_⟩)
  refine a_done ?_
  refine pick [0, 3, 4, 1, 2] [box g0 92 [.slice A0 (List.length a0) k0, .int .i64 v3_1.2.1, .int .u64 v3_1.2.2], box g0_0 37 (eSign v1_1.1), box g0_1 37 (eSign v2_1.1), box g1_2 37 (eSign v1_1.1), box g2_2 37 (eSign v2_1.1)] ?_
  replace h := H.done h
  subst h
  exact ret func145 rfl (vs := [.agg (eSign v1_1.1).toArray, .agg (eSign v2_1.1).toArray]) (.cell 1 g0_0 rfl (by kernel_rfl) (by kernel_rfl) (.cell 2 g0_1 rfl (by kernel_rfl) (by kernel_rfl) .nil)) rfl (fun W S => S.retQ)
theorem C.s_DrawPartsApart {fu : Nat} {a0 : (List Int)} {A0 : Option Addr} {k0 : Nat} {r : (Sign × Sign)} (w : World) (h : X.s_DrawPartsApart fu a0 = some r) (h0 : RdT (eI .u8) w (.slice A0 (List.length a0) k0) a0) : Calls prog 70 #[.slice A0 (List.length a0) k0] w (Ret w (.tuple #[.agg (eSign r.1).toArray, .agg (eSign r.2).toArray])) := by
  refine calls (M := no) (args := [.slice A0 (List.length a0) k0]) func70 rfl ?_
  replace h : H (X.s_DrawPartsApart fu a0) (fun o => o = r) := H.mk h
  unfold X.s_DrawPartsApart at h
  refine c_seq ?_
  refine r_start ?_
  refine xx rfl (x_new (eSign zSign) fun g0_0 => ?_)
  refine xx rfl (x_new (eSign zSign) fun g0_1 => ?_)
  refine rend ?_
  refine c_seq ?_
  refine r_start ?_
  refine p 2 ?_
  refine xx rfl (x_box [.slice A0 (List.length a0) k0, .int .i64 0, .int .u64 0] fun g1_2 => ?_)
  refine p 1 ?_
  refine rend ?_
  refine c_seq ?_
  refine r_start ?_
  refine p 1 ?_
  obtain ⟨v2_1, hv2_1, h⟩ := H.call h
  refine xx rfl (e_cq (cs' := [.slice A0 (List.length a0) k0, .int .i64 v2_1.2.2.1, .int .u64 v2_1.2.2.2]) (v := .tuple #[.agg (eSign v2_1.1).toArray, .agg (eSign v2_1.2.1).toArray]) 2 [.pointer (some ⟨g1_2, 0, none⟩)] func145 (fun W S => C.s_l1Cur_nearSigns W hv2_1 (S.bx 2) ((s_arg h0).out W S) (ap_arg h0 S 2)) ?_)
  refine p 2 ?_
  refine xx rfl (x_sto 0 g0_0 0 (eSign v2_1.1) ?_)
  refine xx rfl (x_sto 1 g0_1 0 (eSign v2_1.2.1) ?_)
  refine rend ?_
  replace h := H.done h
  subst h
  exact ret func70 rfl (vs := [.agg (eSign v2_1.1).toArray, .agg (eSign v2_1.2.1).toArray]) (.cell 0 g0_0 rfl (by kernel_rfl) (by kernel_rfl) (.cell 1 g0_1 rfl (by kernel_rfl) (by kernel_rfl) .nil)) rfl (fun W S => ⟨rfl, S.below⟩)
theorem C.s_PartsApart {fu : Nat} {a0 : Sign} {a1 : Sign} {r : ((List Int) × Bool)} (w : World) (h : X.s_PartsApart fu a0 a1 = some r) : Calls prog 71 #[.agg (eSign a0).toArray, .agg (eSign a1).toArray] w (RetR (eI .i64) 3 w r.1 (fun v => .tuple #[v, .bool r.2])) := by
  refine calls (M := no) (args := [.agg (eSign a0).toArray, .agg (eSign a1).toArray]) func71 rfl ?_
  replace h : H (X.s_PartsApart fu a0 a1) (fun o => o = r) := H.mk h
  unfold X.s_PartsApart at h
  refine c_seq ?_
  refine r_start ?_
  refine xx rfl (x_box (eSign a0) fun g0_0 => ?_)
  refine xx rfl (x_box (eSign a1) fun g0_1 => ?_)
  refine p 2 ?_
  refine rend ?_
  refine c_seq ?_
  refine c_seq ?_
  refine r_start ?_
  refine xq rfl (y_load (.agg (eSign a0).toArray) 0 g0_0 0) ?_
  obtain ⟨v1_1, hv1_1, h⟩ := H.call h
  refine xq rfl (y_call [.agg (eSign a0).toArray] (.bool v1_1) func91 (fun W S => C.s_siGood W hv1_1)) ?_
  refine p 2 ?_
  refine br (!v1_1) (fun q1 => ?_) (fun q1 => ?_)
  · replace h := H.t q1 h
    refine o_set 9 (congrArg Value.bool q1) ?_
    refine p 4 ?_
    refine rend ?_
    refine c_t (by kernel_rfl) ?_
    refine c_seq ?_
    refine r_start ?_
    refine p 2 ?_
    refine rend ?_
    replace h := H.done h
    subst h
    exact ret func71 rfl (vs := [.slice none 0 0, .bool false]) (.tmp (by kernel_rfl) (.tmp (by kernel_rfl) .nil)) rfl (fun W S => ⟨none, 0, rfl, World.ownsRow_nil _ _ _ _, S.below⟩)
  replace h := H.f q1 h
  refine o_set 9 (congrArg Value.bool q1) ?_
  refine xq rfl (y_load (.agg (eSign a1).toArray) 1 g0_1 0) ?_
  obtain ⟨v1_5, hv1_5, h⟩ := H.call h
  refine xq rfl (y_call [.agg (eSign a1).toArray] (.bool v1_5) func91 (fun W S => C.s_siGood W hv1_5)) ?_
  refine p 2 ?_
  refine rend ?_
  refine c_or (!v1_5) (fun q2 => ?_) (fun q2 => ?_)
  · replace h := H.t q2 h
    refine c_seq ?_
    refine r_start ?_
    refine p 2 ?_
    refine rend ?_
    replace h := H.done h
    subst h
    exact ret func71 rfl (vs := [.slice none 0 0, .bool false]) (.tmp (by kernel_rfl) (.tmp (by kernel_rfl) .nil)) rfl (fun W S => ⟨none, 0, rfl, World.ownsRow_nil _ _ _ _, S.below⟩)
  replace h := H.f q2 h
  refine c_skip ?_
  refine c_seq ?_
  refine r_start ?_
  refine xq rfl (y_load (.agg (eSign a0).toArray) 0 g0_0 0) ?_
  refine xq rfl (y_load (.agg (eSign a1).toArray) 1 g0_1 0) ?_
  obtain ⟨v3_2, hv3_2, h⟩ := H.call h
  refine xx rfl (e_cr [.agg (eSign a0).toArray, .agg (eSign a1).toArray] (fun v => v) func146 (fun W S => C.s_prApart W hv3_2) fun A3_2 k3_2 => ?_)
  refine p 2 ?_
  refine rend ?_
  replace h := H.done h
  subst h
  exact ret func71 rfl (vs := [.slice A3_2 (List.length v3_2) k3_2, .bool true]) (.tmp (by kernel_rfl) (.tmp (by kernel_rfl) .nil)) rfl (fun W S => ⟨_, _, rfl, S.row 2, S.below⟩)
theorem C.l_FnPairs {fu : Nat} {a0 : (List Int)} {A0 : Option Addr} {k0 : Nat} {a1 : (List Int)} {A1 : Option Addr} {k1 : Nat} {r : Bool} (w : World) (h : X.l_FnPairs fu a0 a1 = some r) (h0 : RdT (eI .u8) w (.slice A0 (List.length a0) k0) a0) (h1 : RdT (eI .u8) w (.slice A1 (List.length a1) k1) a1) : Calls prog 6 #[.slice A0 (List.length a0) k0, .slice A1 (List.length a1) k1] w (Ret w (.bool r)) := by
  refine calls (M := no) (args := [.slice A0 (List.length a0) k0, .slice A1 (List.length a1) k1]) func6 rfl ?_
  replace h : H (X.l_FnPairs fu a0 a1) (fun o => o = r) := H.mk h
  unfold X.l_FnPairs at h
  refine c_seq ?_
  refine r_start ?_
  refine p 1 ?_
  refine rend ?_
  refine c_seq ?_
  refine c_seq ?_
  refine r_start ?_
  refine p 2 ?_
  obtain ⟨v1_2, hv1_2, h⟩ := H.call h
  refine xq rfl (y_call [.slice A0 (List.length a0) k0, .slice A1 (List.length a1) k1] (.bool v1_2) func8 (fun W S => C.l_big W hv1_2 ((s_arg h0).out W S) ((s_arg h1).out W S))) ?_
  refine rend ?_
  refine c_or v1_2 (fun q1 => ?_) (fun q1 => ?_)
  · replace h := H.t q1 h
    refine c_seq ?_
    refine r_start ?_
    refine p 1 ?_
    refine rend ?_
    replace h := H.done h
    subst h
    exact ret func6 rfl (vs := [.bool true]) (.tmp (by kernel_rfl) .nil) rfl (fun W S => ⟨rfl, S.below⟩)
  replace h := H.f q1 h
  refine c_skip ?_
  refine c_seq ?_
  refine r_start ?_
  refine p 1 ?_
  obtain ⟨v3_1, hv3_1, h⟩ := H.call h
  refine xx rfl (e_cr [.slice A0 (List.length a0) k0] (fun v => v) func51 (fun W S => C.s_DrawMinimalPairs W hv3_1 ((s_arg h0).out W S)) fun A3_1 k3_1 => ?_)
  refine p 1 ?_
  refine rend ?_
  refine c_seq ?_
  refine r_start ?_
  refine p 1 ?_
  obtain ⟨v4_1, hv4_1, h⟩ := H.call h
  refine xx rfl (e_crd [.slice A3_1 (List.length v3_1) k3_1] (fun v => .tuple #[v, .bool v4_1.2]) func52 (fun W S => C.i_MinimalPairs W hv4_1 ((s_own 0).out W S)) fun A4_1 k4_1 u4_1 => ?_)
  refine p 5 ?_
  refine rend ?_
  refine c_seq ?_
  refine r_start ?_
  refine p 1 ?_
  obtain ⟨v5_1, hv5_1, h⟩ := H.call h
  refine xx rfl (e_crd [.slice A3_1 (List.length v3_1) k3_1] (fun v => .tuple #[v, .bool v5_1.2]) func53 (fun W S => C.s_MinimalPairs W hv5_1 ((s_own 0).out W S)) fun A5_1 k5_1 u5_1 => ?_)
  refine p 5 ?_
  refine rend ?_
  refine c_seq ?_
  refine r_start ?_
  refine p 1 ?_
  obtain ⟨v6_1, hv6_1, h⟩ := H.call h
  refine xx rfl (e_cr [.slice A3_1 (List.length v3_1) k3_1] (fun v => .tuple #[v, .bool v6_1.2]) func54 (fun W S => C.i_LoadOf W hv6_1 ((s_own 0).out W S)) fun A6_1 k6_1 => ?_)
  refine p 5 ?_
  refine rend ?_
  refine c_seq ?_
  refine r_start ?_
  refine p 1 ?_
  obtain ⟨v7_1, hv7_1, h⟩ := H.call h
  refine xx rfl (e_cr [.slice A3_1 (List.length v3_1) k3_1] (fun v => .tuple #[v, .bool v7_1.2]) func55 (fun W S => C.s_LoadOf W hv7_1 ((s_own 0).out W S)) fun A7_1 k7_1 => ?_)
  refine p 5 ?_
  refine rend ?_
  refine c_seq ?_
  refine r_start ?_
  refine p 1 ?_
  obtain ⟨v8_1, hv8_1, h⟩ := H.call h
  refine xx rfl (e_cr [.slice A3_1 (List.length v3_1) k3_1] (fun v => .tuple #[v, .bool v8_1.2]) func56 (fun W S => C.i_LonelySigns W hv8_1 ((s_own 0).out W S)) fun A8_1 k8_1 => ?_)
  refine p 5 ?_
  refine rend ?_
  refine c_seq ?_
  refine r_start ?_
  refine p 1 ?_
  obtain ⟨v9_1, hv9_1, h⟩ := H.call h
  refine xx rfl (e_cr [.slice A3_1 (List.length v3_1) k3_1] (fun v => .tuple #[v, .bool v9_1.2]) func57 (fun W S => C.s_LonelySigns W hv9_1 ((s_own 0).out W S)) fun A9_1 k9_1 => ?_)
  refine p 5 ?_
  refine rend ?_
  refine c_seq ?_
  refine r_start ?_
  refine p 1 ?_
  obtain ⟨v10_1, hv10_1, h⟩ := H.call h
  refine xq rfl (y_call [.slice A3_1 (List.length v3_1) k3_1] (.tuple #[.int .i64 v10_1.1, .int .i64 v10_1.2.1, .bool v10_1.2.2]) func58 (fun W S => C.i_MostPairs W hv10_1 ((s_own 0).out W S))) ?_
  refine p 7 ?_
  refine rend ?_
  refine c_seq ?_
  refine r_start ?_
  refine p 1 ?_
  obtain ⟨v11_1, hv11_1, h⟩ := H.call h
  refine xq rfl (y_call [.slice A3_1 (List.length v3_1) k3_1] (.tuple #[.int .i64 v11_1.1, .int .i64 v11_1.2.1, .bool v11_1.2.2]) func59 (fun W S => C.s_MostPairs W hv11_1 ((s_own 0).out W S))) ?_
  refine p 7 ?_
  refine rend ?_
  refine c_seq ?_
  refine c_seq ?_
  refine joinT (X := Bool) (H.bnd h) (fun (x : Bool) => x) (fun b2 => [rowT nSign w.heap.size 37 (.slice A3_1 (List.length v3_1) k3_1) v3_1, rowT eSl w.heap.size 69 (.slice A4_1 (List.length u4_1) k4_1) u4_1, inns (eI .i64) w.heap.size 3 u4_1 v4_1.1, rowT eSl w.heap.size 69 (.slice A5_1 (List.length u5_1) k5_1) u5_1, inns (eI .i64) w.heap.size 3 u5_1 v5_1.1, rowT (eI .i64) w.heap.size 3 (.slice A6_1 (List.length v6_1.1) k6_1) v6_1.1, rowT (eI .i64) w.heap.size 3 (.slice A7_1 (List.length v7_1.1) k7_1) v7_1.1, rowT (eI .i64) w.heap.size 3 (.slice A8_1 (List.length v8_1.1) k8_1) v8_1.1, rowT (eI .i64) w.heap.size 3 (.slice A9_1 (List.length v9_1.1) k9_1) v9_1.1]) (fun b2 u => (jk u 0 1 (.slice A1 (List.length a1) k1 :: (jk u 2 3 (.slice A3_1 (List.length v3_1) k3_1 :: (jk u 6 1 (.bool v4_1.2 :: .slice A5_1 (List.length u5_1) k5_1 :: (jk u 9 3 (.slice A7_1 (List.length v7_1.1) k7_1 :: (jk u 13 3 (.slice A9_1 (List.length v9_1.1) k9_1 :: (jk u 17 4 (.int .i64 v11_1.1 :: .int .i64 v11_1.2.1 :: (jk u 23 140 (.bool b2 :: (jk u 164 223 [])))))))))))))))) (fun h hj3 => ?_) ?_
  · skip
    refine r_start ?_
    refine p 4 ?_
    refine br (!(v4_1.2 == v5_1.2)) (fun q4 => ?_) (fun q4 => ?_)
    · replace h := H.t q4 h
      refine o_set 101 (congrArg Value.bool q4) ?_
      refine p 62 ?_
      refine rend ?_
      replace h := H.done h
      exact hj3 true _ _ h (by kernel_rfl) (by kernel_rfl)
    replace h := H.f q4 h
    refine o_set 101 (congrArg Value.bool q4) ?_
    refine p 2 ?_
    obtain ⟨v12_6, hv12_6, h⟩ := H.call h
    refine xq rfl (y_call [.slice A4_1 (List.length u4_1) k4_1, .slice A5_1 (List.length u5_1) k5_1] (.bool v12_6) func60 (fun W S => C.l_sameLists W hv12_6 ((s_own 1).out W S) ((i_own 2).out W S) ((s_own 3).out W S) ((i_own 4).out W S))) ?_
    refine p 3 ?_
    refine br (!v12_6) (fun q5 => ?_) (fun q5 => ?_)
    · replace h := H.t q5 h
      refine o_set 107 (congrArg Value.bool q5) ?_
      refine p 56 ?_
      refine rend ?_
      replace h := H.done h
      exact hj3 true _ _ h (by kernel_rfl) (by kernel_rfl)
    replace h := H.f q5 h
    refine o_set 107 (congrArg Value.bool q5) ?_
    refine p 5 ?_
    refine br (!(v6_1.2 == v7_1.2)) (fun q6 => ?_) (fun q6 => ?_)
    · replace h := H.t q6 h
      refine o_set 112 (congrArg Value.bool q6) ?_
      refine p 51 ?_
      refine rend ?_
      replace h := H.done h
      exact hj3 true _ _ h (by kernel_rfl) (by kernel_rfl)
    replace h := H.f q6 h
    refine o_set 112 (congrArg Value.bool q6) ?_
    refine p 2 ?_
    obtain ⟨v12_17, hv12_17, h⟩ := H.call h
    refine xq rfl (y_call [.slice A6_1 (List.length v6_1.1) k6_1, .slice A7_1 (List.length v7_1.1) k7_1] (.bool v12_17) func61 (fun W S => C.l_sameInts W hv12_17 ((s_own 5).out W S) ((s_own 6).out W S))) ?_
    refine p 3 ?_
    refine br (!v12_17) (fun q7 => ?_) (fun q7 => ?_)
    · replace h := H.t q7 h
      refine o_set 118 (congrArg Value.bool q7) ?_
      refine p 45 ?_
      refine rend ?_
      replace h := H.done h
      exact hj3 true _ _ h (by kernel_rfl) (by kernel_rfl)
    replace h := H.f q7 h
    refine o_set 118 (congrArg Value.bool q7) ?_
    refine p 5 ?_
    refine br (!(v8_1.2 == v9_1.2)) (fun q8 => ?_) (fun q8 => ?_)
    · replace h := H.t q8 h
      refine o_set 123 (congrArg Value.bool q8) ?_
      refine p 40 ?_
      refine rend ?_
      replace h := H.done h
      exact hj3 true _ _ h (by kernel_rfl) (by kernel_rfl)
    replace h := H.f q8 h
    refine o_set 123 (congrArg Value.bool q8) ?_
    refine p 2 ?_
    obtain ⟨v12_28, hv12_28, h⟩ := H.call h
    refine xq rfl (y_call [.slice A8_1 (List.length v8_1.1) k8_1, .slice A9_1 (List.length v9_1.1) k9_1] (.bool v12_28) func61 (fun W S => C.l_sameInts W hv12_28 ((s_own 7).out W S) ((s_own 8).out W S))) ?_
    refine p 3 ?_
    refine br (!v12_28) (fun q9 => ?_) (fun q9 => ?_)
    · replace h := H.t q9 h
      refine o_set 129 (congrArg Value.bool q9) ?_
      refine p 34 ?_
      refine rend ?_
      replace h := H.done h
      exact hj3 true _ _ h (by kernel_rfl) (by kernel_rfl)
    replace h := H.f q9 h
    refine o_set 129 (congrArg Value.bool q9) ?_
    refine p 5 ?_
    refine br (!(v10_1.2.2 == v11_1.2.2)) (fun q10 => ?_) (fun q10 => ?_)
    · replace h := H.t q10 h
      refine o_set 134 (congrArg Value.bool q10) ?_
      refine p 29 ?_
      refine rend ?_
      replace h := H.done h
      exact hj3 true _ _ h (by kernel_rfl) (by kernel_rfl)
    replace h := H.f q10 h
    refine o_set 134 (congrArg Value.bool q10) ?_
    refine p 5 ?_
    refine br (v10_1.1 != v11_1.1) (fun q11 => ?_) (fun q11 => ?_)
    · replace h := H.t q11 h
      refine o_set 139 (congrArg Value.bool q11) ?_
      refine p 24 ?_
      refine rend ?_
      replace h := H.done h
      exact hj3 true _ _ h (by kernel_rfl) (by kernel_rfl)
    replace h := H.f q11 h
    refine o_set 139 (congrArg Value.bool q11) ?_
    refine p 5 ?_
    refine br (v10_1.2.1 != v11_1.2.1) (fun q12 => ?_) (fun q12 => ?_)
    · replace h := H.t q12 h
      refine o_set 144 (congrArg Value.bool q12) ?_
      refine p 19 ?_
      refine rend ?_
      replace h := H.done h
      exact hj3 true _ _ h (by kernel_rfl) (by kernel_rfl)
    replace h := H.f q12 h
    refine o_set 144 (congrArg Value.bool q12) ?_
    refine p 5 ?_
    refine br (!(v6_1.2 == v4_1.2)) (fun q13 => ?_) (fun q13 => ?_)
    · replace h := H.t q13 h
      refine o_set 149 (congrArg Value.bool q13) ?_
      refine p 14 ?_
      refine rend ?_
      replace h := H.done h
      exact hj3 true _ _ h (by kernel_rfl) (by kernel_rfl)
    replace h := H.f q13 h
    refine o_set 149 (congrArg Value.bool q13) ?_
    refine p 5 ?_
    refine br (!(v8_1.2 == v4_1.2)) (fun q14 => ?_) (fun q14 => ?_)
    · replace h := H.t q14 h
      refine o_set 154 (congrArg Value.bool q14) ?_
      refine p 9 ?_
      refine rend ?_
      replace h := H.done h
      exact hj3 true _ _ h (by kernel_rfl) (by kernel_rfl)
    replace h := H.f q14 h
    refine o_set 154 (congrArg Value.bool q14) ?_
    refine p 3 ?_
    refine br v4_1.2 (fun q15 => ?_) (fun q15 => ?_)
    · replace h := H.t q15 h
      refine o_set 157 (congrArg Value.bool q15) ?_
      refine p 6 ?_
      refine rend ?_
      replace h := H.done h
      exact hj3 (!(v10_1.2.2 == (decide ((List.length v3_1 : Int) > 0)))) _ _ h (by kernel_rfl) (by kernel_rfl)
    replace h := H.f q15 h
    refine o_set 157 (congrArg Value.bool q15) ?_
    refine p 6 ?_
    refine rend ?_
    replace h := H.done h
    exact hj3 (!(v10_1.2.2 == false)) _ _ h (by kernel_rfl) (by kernel_rfl)
  intro b2 u h
  refine c_or b2 (fun q16 => ?_) (fun q16 => ?_)
  · replace h := H.t q16 h
    refine c_seq ?_
    refine r_start ?_
    refine p 1 ?_
    refine rend ?_
    refine frg (fun u => (jk u 0 4 (.bool false :: (jk u 5 382 [])))) (by kernel_rfl) fun u => ?_
    refine keep 9 (its' := [rowT nSign w.heap.size 37 (.slice A3_1 (List.length v3_1) k3_1) v3_1, rowT eSl w.heap.size 69 (.slice A4_1 (List.length u4_1) k4_1) u4_1, inns (eI .i64) w.heap.size 3 u4_1 v4_1.1, rowT eSl w.heap.size 69 (.slice A5_1 (List.length u5_1) k5_1) u5_1, inns (eI .i64) w.heap.size 3 u5_1 v5_1.1, rowT (eI .i64) w.heap.size 3 (.slice A6_1 (List.length v6_1.1) k6_1) v6_1.1, rowT (eI .i64) w.heap.size 3 (.slice A7_1 (List.length v7_1.1) k7_1) v7_1.1, rowT (eI .i64) w.heap.size 3 (.slice A8_1 (List.length v8_1.1) k8_1) v8_1.1, rowT (eI .i64) w.heap.size 3 (.slice A9_1 (List.length v9_1.1) k9_1) v9_1.1]) (by kernel_rfl) ?_
    replace h := H.done h
    subst h
    exact ret func6 rfl (vs := [.bool false]) (.tmp (by kernel_rfl) .nil) rfl (fun W S => ⟨rfl, S.below⟩)
  replace h := H.f q16 h
  refine c_skip ?_
  refine c_seq ?_
  refine c_seq ?_
  refine r_start ?_
  refine p 1 ?_
  refine rend ?_
  refine frg (fun u => (jk u 0 1 (.slice A1 (List.length a1) k1 :: (jk u 2 3 (.slice A3_1 (List.length v3_1) k3_1 :: (jk u 6 2 (.slice A5_1 (List.length u5_1) k5_1 :: (jk u 9 3 (.slice A7_1 (List.length v7_1.1) k7_1 :: (jk u 13 3 (.slice A9_1 (List.length v9_1.1) k9_1 :: (jk u 17 4 (.int .i64 v11_1.1 :: .int .i64 v11_1.2.1 :: (jk u 23 141 (.bool v4_1.2 :: (jk u 165 222 [])))))))))))))))) (by kernel_rfl) fun u => ?_
  refine keep 9 (its' := [rowT nSign w.heap.size 37 (.slice A3_1 (List.length v3_1) k3_1) v3_1, rowT eSl w.heap.size 69 (.slice A4_1 (List.length u4_1) k4_1) u4_1, inns (eI .i64) w.heap.size 3 u4_1 v4_1.1, rowT eSl w.heap.size 69 (.slice A5_1 (List.length u5_1) k5_1) u5_1, inns (eI .i64) w.heap.size 3 u5_1 v5_1.1, rowT (eI .i64) w.heap.size 3 (.slice A6_1 (List.length v6_1.1) k6_1) v6_1.1, rowT (eI .i64) w.heap.size 3 (.slice A7_1 (List.length v7_1.1) k7_1) v7_1.1, rowT (eI .i64) w.heap.size 3 (.slice A8_1 (List.length v8_1.1) k8_1) v8_1.1, rowT (eI .i64) w.heap.size 3 (.slice A9_1 (List.length v9_1.1) k9_1) v9_1.1]) (by kernel_rfl) ?_
  refine joinTE (X := Unit) (H.or h) (fun (x : Unit) => x) (fun _ => [rowT nSign w.heap.size 37 (.slice A3_1 (List.length v3_1) k3_1) v3_1, rowT eSl w.heap.size 69 (.slice A4_1 (List.length u4_1) k4_1) u4_1, inns (eI .i64) w.heap.size 3 u4_1 v4_1.1, rowT eSl w.heap.size 69 (.slice A5_1 (List.length u5_1) k5_1) u5_1, inns (eI .i64) w.heap.size 3 u5_1 v5_1.1, rowT (eI .i64) w.heap.size 3 (.slice A6_1 (List.length v6_1.1) k6_1) v6_1.1, rowT (eI .i64) w.heap.size 3 (.slice A7_1 (List.length v7_1.1) k7_1) v7_1.1, rowT (eI .i64) w.heap.size 3 (.slice A8_1 (List.length v8_1.1) k8_1) v8_1.1, rowT (eI .i64) w.heap.size 3 (.slice A9_1 (List.length v9_1.1) k9_1) v9_1.1]) (fun _ u => (jk u 0 1 (.slice A1 (List.length a1) k1 :: (jk u 2 385 [])))) (fun h hj17 => ?_) ?_
  · skip
    refine c_or v4_1.2 (fun q18 => ?_) (fun q18 => ?_)
    · replace h := H.t q18 h
      refine c_seq ?_
      refine c_seq ?_
      refine joinT (X := Bool) (H.bnd h) (fun (x : Bool) => x) (fun b19 => [rowT nSign w.heap.size 37 (.slice A3_1 (List.length v3_1) k3_1) v3_1, rowT eSl w.heap.size 69 (.slice A4_1 (List.length u4_1) k4_1) u4_1, inns (eI .i64) w.heap.size 3 u4_1 v4_1.1, rowT eSl w.heap.size 69 (.slice A5_1 (List.length u5_1) k5_1) u5_1, inns (eI .i64) w.heap.size 3 u5_1 v5_1.1, rowT (eI .i64) w.heap.size 3 (.slice A6_1 (List.length v6_1.1) k6_1) v6_1.1, rowT (eI .i64) w.heap.size 3 (.slice A7_1 (List.length v7_1.1) k7_1) v7_1.1, rowT (eI .i64) w.heap.size 3 (.slice A8_1 (List.length v8_1.1) k8_1) v8_1.1, rowT (eI .i64) w.heap.size 3 (.slice A9_1 (List.length v9_1.1) k9_1) v9_1.1]) (fun b19 u => (jk u 0 1 (.slice A1 (List.length a1) k1 :: (jk u 2 3 (.slice A3_1 (List.length v3_1) k3_1 :: (jk u 6 2 (.slice A5_1 (List.length u5_1) k5_1 :: (jk u 9 3 (.slice A7_1 (List.length v7_1.1) k7_1 :: (jk u 13 3 (.slice A9_1 (List.length v9_1.1) k9_1 :: (jk u 17 4 (.int .i64 v11_1.1 :: .int .i64 v11_1.2.1 :: (jk u 23 151 (.bool b19 :: (jk u 175 212 [])))))))))))))))) (fun h hj20 => ?_) ?_
      · skip
        refine r_start ?_
        refine p 1 ?_
        obtain ⟨v15_1, hv15_1, h⟩ := H.call h
        refine xq rfl (y_call [.slice A7_1 (List.length v7_1.1) k7_1] (.int .i64 v15_1) func62 (fun W S => C.l_pSum W hv15_1 ((s_own 6).out W S))) ?_
        refine p 1 ?_
        refine p 1 ?_
        refine o_fact (f_len (i_own 4)) fun hl15_3 => ?_
        refine o_set 168 (len_sl hl15_3) ?_
        refine p 2 ?_
        refine br (v15_1 != (List.length v5_1.1 : Int)) (fun q21 => ?_) (fun q21 => ?_)
        · replace h := H.t q21 h
          refine o_set 170 (congrArg Value.bool q21) ?_
          refine p 4 ?_
          refine rend ?_
          replace h := H.done h
          exact hj20 true _ _ h (by kernel_rfl) (by kernel_rfl)
        replace h := H.f q21 h
        refine o_set 170 (congrArg Value.bool q21) ?_
        refine p 4 ?_
        refine rend ?_
        replace h := H.done h
        exact hj20 ((List.length v7_1.1 : Int) != 5) _ _ h (by kernel_rfl) (by kernel_rfl)
      intro b19 u h
      refine c_or b19 (fun q22 => ?_) (fun q22 => ?_)
      · replace h := H.t q22 h
        refine c_seq ?_
        refine r_start ?_
        refine p 1 ?_
        refine rend ?_
        replace h := H.inl h
        replace h := H.done h
        subst h
        exact ret func6 rfl (vs := [.bool false]) (.tmp (by kernel_rfl) .nil) rfl (fun W S => ⟨rfl, S.below⟩)
      replace h := H.f q22 h
      refine c_skip ?_
      refine c_seq ?_
      refine c_seq ?_
      refine r_start ?_
      refine p 3 ?_
      refine rend ?_
      refine c_block ?_
      refine joinE (X := Unit) 0 (H.or h) (fun (x : Unit) => x) (fun _ => [rowT nSign w.heap.size 37 (.slice A3_1 (List.length v3_1) k3_1) v3_1, rowT eSl w.heap.size 69 (.slice A4_1 (List.length u4_1) k4_1) u4_1, inns (eI .i64) w.heap.size 3 u4_1 v4_1.1, rowT eSl w.heap.size 69 (.slice A5_1 (List.length u5_1) k5_1) u5_1, inns (eI .i64) w.heap.size 3 u5_1 v5_1.1, rowT (eI .i64) w.heap.size 3 (.slice A6_1 (List.length v6_1.1) k6_1) v6_1.1, rowT (eI .i64) w.heap.size 3 (.slice A7_1 (List.length v7_1.1) k7_1) v7_1.1, rowT (eI .i64) w.heap.size 3 (.slice A8_1 (List.length v8_1.1) k8_1) v8_1.1, rowT (eI .i64) w.heap.size 3 (.slice A9_1 (List.length v9_1.1) k9_1) v9_1.1]) (fun _ u => (jk u 0 1 (.slice A1 (List.length a1) k1 :: (jk u 2 3 (.slice A3_1 (List.length v3_1) k3_1 :: (jk u 6 2 (.slice A5_1 (List.length u5_1) k5_1 :: (jk u 9 7 (.slice A9_1 (List.length v9_1.1) k9_1 :: (jk u 17 4 (.int .i64 v11_1.1 :: .int .i64 v11_1.2.1 :: (jk u 23 364 [])))))))))))) (fun h hj23 => ?_) ?_
      · skip
        refine rangeR (X := Unit) (s_own 6) (fun (x : Unit) => x) (fun _ => [rowT nSign w.heap.size 37 (.slice A3_1 (List.length v3_1) k3_1) v3_1, rowT eSl w.heap.size 69 (.slice A4_1 (List.length u4_1) k4_1) u4_1, inns (eI .i64) w.heap.size 3 u4_1 v4_1.1, rowT eSl w.heap.size 69 (.slice A5_1 (List.length u5_1) k5_1) u5_1, inns (eI .i64) w.heap.size 3 u5_1 v5_1.1, rowT (eI .i64) w.heap.size 3 (.slice A6_1 (List.length v6_1.1) k6_1) v6_1.1, rowT (eI .i64) w.heap.size 3 (.slice A7_1 (List.length v7_1.1) k7_1) v7_1.1, rowT (eI .i64) w.heap.size 3 (.slice A8_1 (List.length v8_1.1) k8_1) v8_1.1, rowT (eI .i64) w.heap.size 3 (.slice A9_1 (List.length v9_1.1) k9_1) v9_1.1]) (fun (j24 : Nat) _ u => (jk u 0 1 (.slice A1 (List.length a1) k1 :: (jk u 2 3 (.slice A3_1 (List.length v3_1) k3_1 :: (jk u 6 2 (.slice A5_1 (List.length u5_1) k5_1 :: (jk u 9 7 (.slice A9_1 (List.length v9_1.1) k9_1 :: (jk u 17 4 (.int .i64 v11_1.1 :: .int .i64 v11_1.2.1 :: (jk u 23 152 (.slice A7_1 (List.length v7_1.1) k7_1 :: .int .i64 (List.length v7_1.1 : Int) :: .int .i64 (j24 : Int) :: (jk u 178 209 [])))))))))))))) () h (by kernel_rfl) (by kernel_rfl) ?_ ?_
        · intro j24 x u x25 q26 hg27 hw28 h
          refine c_seq ?_
          refine r_start ?_
          refine p 1 ?_
          refine rend ?_
          refine c_seq ?_
          refine c_yes q26 ?_
          refine c_skip ?_
          refine c_seq ?_
          refine c_block ?_
          refine c_seq ?_
          refine r_start ?_
          refine p 1 ?_
          refine xq rfl (y_idx (e := (eI .i64)) (el := 3) hg27 (s_own 6)) ?_
          refine xq rfl (y_el (e := (eI .i64)) 0 (.int .i64 x25) hg27 (s_own 6)) ?_
          refine p 2 ?_
          refine rend ?_
          refine c_seq ?_
          refine r_start ?_
          refine p 2 ?_
          obtain ⟨v20_2, hv20_2, h⟩ := H.call h
          refine xx rfl (e_crd [.slice A3_1 (List.length v3_1) k3_1, .int .i64 (j24 : Int)] (fun v => .tuple #[v, .bool v20_2.2]) func63 (fun W S => C.i_PairsBy W hv20_2 ((s_own 0).out W S)) fun A20_2 k20_2 u20_2 => ?_)
          refine p 5 ?_
          refine rend ?_
          refine c_seq ?_
          refine r_start ?_
          refine p 2 ?_
          obtain ⟨v21_2, hv21_2, h⟩ := H.call h
          refine xx rfl (e_crd [.slice A3_1 (List.length v3_1) k3_1, .int .i64 (j24 : Int)] (fun v => .tuple #[v, .bool v21_2.2]) func64 (fun W S => C.s_PairsBy W hv21_2 ((s_own 0).out W S)) fun A21_2 k21_2 u21_2 => ?_)
          refine p 5 ?_
          refine rend ?_
          refine c_seq ?_
          refine r_start ?_
          refine p 3 ?_
          refine br (!v20_2.2) (fun q29 => ?_) (fun q29 => ?_)
          · replace h := H.t q29 h
            refine o_set 196 (congrArg Value.bool q29) ?_
            refine p 15 ?_
            refine rend ?_
            refine c_t (by kernel_rfl) ?_
            refine c_seq ?_
            refine r_start ?_
            refine p 1 ?_
            refine rend ?_
            replace h := H.inr h
            replace h := H.inl h
            replace h := H.done h
            subst h
            exact ret func6 rfl (vs := [.bool false]) (.tmp (by kernel_rfl) .nil) rfl (fun W S => ⟨rfl, S.below⟩)
          replace h := H.f q29 h
          refine o_set 196 (congrArg Value.bool q29) ?_
          refine p 4 ?_
          refine br (!v21_2.2) (fun q30 => ?_) (fun q30 => ?_)
          · replace h := H.t q30 h
            refine o_set 200 (congrArg Value.bool q30) ?_
            refine p 11 ?_
            refine rend ?_
            refine c_t (by kernel_rfl) ?_
            refine c_seq ?_
            refine r_start ?_
            refine p 1 ?_
            refine rend ?_
            replace h := H.inr h
            replace h := H.inl h
            replace h := H.done h
            subst h
            exact ret func6 rfl (vs := [.bool false]) (.tmp (by kernel_rfl) .nil) rfl (fun W S => ⟨rfl, S.below⟩)
          replace h := H.f q30 h
          refine o_set 200 (congrArg Value.bool q30) ?_
          refine p 2 ?_
          obtain ⟨v22_9, hv22_9, h⟩ := H.call h
          refine xq rfl (y_call [.slice A20_2 (List.length u20_2) k20_2, .slice A21_2 (List.length u21_2) k21_2] (.bool v22_9) func60 (fun W S => C.l_sameLists W hv22_9 ((s_own 9).out W S) ((i_own 10).out W S) ((s_own 11).out W S) ((i_own 12).out W S))) ?_
          refine p 3 ?_
          refine br (!v22_9) (fun q31 => ?_) (fun q31 => ?_)
          · replace h := H.t q31 h
            refine o_set 206 (congrArg Value.bool q31) ?_
            refine p 5 ?_
            refine rend ?_
            refine c_t (by kernel_rfl) ?_
            refine c_seq ?_
            refine r_start ?_
            refine p 1 ?_
            refine rend ?_
            replace h := H.inr h
            replace h := H.inl h
            replace h := H.done h
            subst h
            exact ret func6 rfl (vs := [.bool false]) (.tmp (by kernel_rfl) .nil) rfl (fun W S => ⟨rfl, S.below⟩)
          replace h := H.f q31 h
          refine o_set 206 (congrArg Value.bool q31) ?_
          refine p 1 ?_
          refine p 1 ?_
          refine o_fact (f_len (i_own 12)) fun hl22_14 => ?_
          refine o_set 208 (len_sl hl22_14) ?_
          refine p 3 ?_
          refine rend ?_
          refine c_or ((List.length v21_2.1 : Int) != x25) (fun q32 => ?_) (fun q32 => ?_)
          · replace h := H.t q32 h
            refine c_seq ?_
            refine r_start ?_
            refine p 1 ?_
            refine rend ?_
            replace h := H.inr h
            replace h := H.inl h
            replace h := H.done h
            subst h
            exact ret func6 rfl (vs := [.bool false]) (.tmp (by kernel_rfl) .nil) rfl (fun W S => ⟨rfl, S.below⟩)
          replace h := H.f q32 h
          refine c_skip ?_
          refine c_inb ?_
          refine r_start ?_
          refine p 2 ?_
          refine rend ?_
          refine c_set 177 (ci hw28) ?_
          replace h := H.inl h
          exact h () _ _ rfl (by kernel_rfl) (by kernel_rfl)
        · intro x u q26 h
          refine c_seq ?_
          refine r_start ?_
          refine p 1 ?_
          refine rend ?_
          refine c_seq ?_
          refine c_no q26 ?_
          refine cx ?_
          replace h := H.done h
          exact hj23 () _ _ h (by kernel_rfl) (by kernel_rfl)
      intro x u h
      refine c_seq ?_
      refine c_seq ?_
      refine r_start ?_
      refine p 1 ?_
      refine p 1 ?_
      refine o_fact (f_len (i_own 4)) fun hl25_1 => ?_
      refine o_set 214 (len_sl hl25_1) ?_
      refine p 1 ?_
      refine rend ?_
      refine c_block ?_
      refine joinE (X := Unit) 2 (H.or h) (fun (x : Unit) => x) (fun _ => [rowT nSign w.heap.size 37 (.slice A3_1 (List.length v3_1) k3_1) v3_1, rowT eSl w.heap.size 69 (.slice A4_1 (List.length u4_1) k4_1) u4_1, inns (eI .i64) w.heap.size 3 u4_1 v4_1.1, rowT eSl w.heap.size 69 (.slice A5_1 (List.length u5_1) k5_1) u5_1, inns (eI .i64) w.heap.size 3 u5_1 v5_1.1, rowT (eI .i64) w.heap.size 3 (.slice A6_1 (List.length v6_1.1) k6_1) v6_1.1, rowT (eI .i64) w.heap.size 3 (.slice A7_1 (List.length v7_1.1) k7_1) v7_1.1, rowT (eI .i64) w.heap.size 3 (.slice A8_1 (List.length v8_1.1) k8_1) v8_1.1, rowT (eI .i64) w.heap.size 3 (.slice A9_1 (List.length v9_1.1) k9_1) v9_1.1]) (fun _ u => (jk u 0 1 (.slice A1 (List.length a1) k1 :: (jk u 2 3 (.slice A3_1 (List.length v3_1) k3_1 :: (jk u 6 10 (.slice A9_1 (List.length v9_1.1) k9_1 :: (jk u 17 4 (.int .i64 v11_1.1 :: .int .i64 v11_1.2.1 :: (jk u 23 364 [])))))))))) (fun h hj33 => ?_) ?_
      · skip
        refine rangeRD (X := Unit) (s_own 3) (i_own 4) (fun (x : Unit) => x) (fun _ => [rowT nSign w.heap.size 37 (.slice A3_1 (List.length v3_1) k3_1) v3_1, rowT eSl w.heap.size 69 (.slice A4_1 (List.length u4_1) k4_1) u4_1, inns (eI .i64) w.heap.size 3 u4_1 v4_1.1, rowT eSl w.heap.size 69 (.slice A5_1 (List.length u5_1) k5_1) u5_1, inns (eI .i64) w.heap.size 3 u5_1 v5_1.1, rowT (eI .i64) w.heap.size 3 (.slice A6_1 (List.length v6_1.1) k6_1) v6_1.1, rowT (eI .i64) w.heap.size 3 (.slice A7_1 (List.length v7_1.1) k7_1) v7_1.1, rowT (eI .i64) w.heap.size 3 (.slice A8_1 (List.length v8_1.1) k8_1) v8_1.1, rowT (eI .i64) w.heap.size 3 (.slice A9_1 (List.length v9_1.1) k9_1) v9_1.1]) (fun (j34 : Nat) _ u => (jk u 0 1 (.slice A1 (List.length a1) k1 :: (jk u 2 3 (.slice A3_1 (List.length v3_1) k3_1 :: (jk u 6 10 (.slice A9_1 (List.length v9_1.1) k9_1 :: (jk u 17 4 (.int .i64 v11_1.1 :: .int .i64 v11_1.2.1 :: (jk u 23 190 (.slice A5_1 (List.length u5_1) k5_1 :: .int .i64 (List.length v5_1.1 : Int) :: .int .i64 (j34 : Int) :: (jk u 216 171 [])))))))))))) () h (by kernel_rfl) (by kernel_rfl) ?_ ?_
        · intro j34 x u x35 q36 hg37 hw38 h
          refine c_seq ?_
          refine r_start ?_
          refine p 1 ?_
          refine rend ?_
          refine c_seq ?_
          refine c_yes q36 ?_
          refine c_skip ?_
          refine c_seq ?_
          refine c_block ?_
          refine c_seq ?_
          refine r_start ?_
          refine o_fact (f_len (i_own 4)) fun hl27_0 => ?_
          obtain ⟨s27_0, hs27_0⟩ := getI_both hl27_0 hg37
          refine xq rfl (y_idx (e := eSl) (el := 69) hs27_0 (s_own 3)) ?_
          refine xq rfl (y_el (e := eSl) 0 (.slice s27_0.A s27_0.n s27_0.c) hs27_0 (s_own 3)) ?_
          refine o_fact (f_n (i_own 4) hs27_0 hg37) fun he27_1 => ?_
          refine o_set 218 (sl_n he27_1) ?_
          refine p 1 ?_
          refine rend ?_
          refine c_seq ?_
          refine as_start 18 18 ?_
          refine ap 0 2 ?_
          obtain ⟨y28_2, hy28_2, h⟩ := H.call h
          refine aq 2 rfl (y_idx (e := (eI .i64)) (el := 3) hy28_2 (s_in (i_own 4) hs27_0 hg37)) ?_
          refine aq 3 rfl (y_el (e := (eI .i64)) 0 (.int .i64 y28_2) hy28_2 (s_in (i_own 4) hs27_0 hg37)) ?_
          obtain ⟨y28_4, hy28_4, h⟩ := H.call h
          refine aq 4 rfl (y_idx (e := nSign) (el := 37) hy28_4 (s_own 0)) ?_
          refine aq 5 rfl (y_el (e := nSign) 0 (.agg (eSign y28_4).toArray) hy28_4 (s_own 0)) ?_
          refine ap 6 2 ?_
          obtain ⟨y28_8, hy28_8, h⟩ := H.call h
          refine aq 8 rfl (y_idx (e := (eI .i64)) (el := 3) hy28_8 (s_in (i_own 4) hs27_0 hg37)) ?_
          refine aq 9 rfl (y_el (e := (eI .i64)) 0 (.int .i64 y28_8) hy28_8 (s_in (i_own 4) hs27_0 hg37)) ?_
          obtain ⟨y28_10, hy28_10, h⟩ := H.call h
          refine aq 10 rfl (y_idx (e := nSign) (el := 37) hy28_10 (s_own 0)) ?_
          refine aq 11 rfl (y_el (e := nSign) 0 (.agg (eSign y28_10).toArray) hy28_10 (s_own 0)) ?_
          obtain ⟨v28_12, hv28_12, h⟩ := H.call h
          refine ax 12 rfl (e_cr [.agg (eSign y28_4).toArray, .agg (eSign y28_10).toArray] (fun v => .tuple #[v, .bool v28_12.2]) func65 (fun W S => C.i_PartsApart W hv28_12) fun A28_12 k28_12 => ⟨.inr (by kernel_rfl), ?_⟩)
          refine ap 13 5 ?_
          refine a_done ?_
          refine c_seq ?_
          refine as_start 18 18 ?_
          refine ap 0 2 ?_
          refine aq 2 rfl (y_idx (e := (eI .i64)) (el := 3) hy28_8 (s_in (i_own 4) hs27_0 hg37)) ?_
          refine aq 3 rfl (y_el (e := (eI .i64)) 0 (.int .i64 y28_8) hy28_8 (s_in (i_own 4) hs27_0 hg37)) ?_
          refine aq 4 rfl (y_idx (e := nSign) (el := 37) hy28_10 (s_own 0)) ?_
          refine aq 5 rfl (y_el (e := nSign) 0 (.agg (eSign y28_10).toArray) hy28_10 (s_own 0)) ?_
          refine ap 6 2 ?_
          refine aq 8 rfl (y_idx (e := (eI .i64)) (el := 3) hy28_2 (s_in (i_own 4) hs27_0 hg37)) ?_
          refine aq 9 rfl (y_el (e := (eI .i64)) 0 (.int .i64 y28_2) hy28_2 (s_in (i_own 4) hs27_0 hg37)) ?_
          refine aq 10 rfl (y_idx (e := nSign) (el := 37) hy28_4 (s_own 0)) ?_
          refine aq 11 rfl (y_el (e := nSign) 0 (.agg (eSign y28_4).toArray) hy28_4 (s_own 0)) ?_
          obtain ⟨v29_12, hv29_12, h⟩ := H.call h
          refine aq 12 rfl (y_call [.agg (eSign y28_10).toArray, .agg (eSign y28_4).toArray] (.tuple #[.bool v29_12.1, .bool v29_12.2]) func66 (fun W S => C.i_IsMinimalPair W hv29_12)) ?_
          refine ap 13 5 ?_
          refine a_done ?_
          refine c_seq ?_
          refine as_start 24 24 ?_
          refine ap 0 3 ?_
          refine br (!v28_12.2) (fun q39 => ?_) (fun q39 => ?_)
          · replace h := H.t q39 h
            refine a_set 253 (congrArg Value.bool q39) ?_
            refine ap 3 21 ?_
            refine a_done ?_
            refine c_t (by kernel_rfl) ?_
            refine c_seq ?_
            refine r_start ?_
            refine p 1 ?_
            refine rend ?_
            replace h := H.inr h
            replace h := H.inl h
            replace h := H.done h
            subst h
            exact ret func6 rfl (vs := [.bool false]) (.tmp (by kernel_rfl) .nil) rfl (fun W S => ⟨rfl, S.below⟩)
          replace h := H.f q39 h
          refine a_set 253 (congrArg Value.bool q39) ?_
          refine ap 3 5 ?_
          refine br ((List.length v28_12.1 : Int) != 1) (fun q40 => ?_) (fun q40 => ?_)
          · replace h := H.t q40 h
            refine a_set 258 (congrArg Value.bool q40) ?_
            refine ap 8 16 ?_
            refine a_done ?_
            refine c_t (by kernel_rfl) ?_
            refine c_seq ?_
            refine r_start ?_
            refine p 1 ?_
            refine rend ?_
            replace h := H.inr h
            replace h := H.inl h
            replace h := H.done h
            subst h
            exact ret func6 rfl (vs := [.bool false]) (.tmp (by kernel_rfl) .nil) rfl (fun W S => ⟨rfl, S.below⟩)
          replace h := H.f q40 h
          refine a_set 258 (congrArg Value.bool q40) ?_
          refine ap 8 4 ?_
          refine br (!v29_12.2) (fun q41 => ?_) (fun q41 => ?_)
          · replace h := H.t q41 h
            refine a_set 262 (congrArg Value.bool q41) ?_
            refine ap 12 12 ?_
            refine a_done ?_
            refine c_t (by kernel_rfl) ?_
            refine c_seq ?_
            refine r_start ?_
            refine p 1 ?_
            refine rend ?_
            replace h := H.inr h
            replace h := H.inl h
            replace h := H.done h
            subst h
            exact ret func6 rfl (vs := [.bool false]) (.tmp (by kernel_rfl) .nil) rfl (fun W S => ⟨rfl, S.below⟩)
          replace h := H.f q41 h
          refine a_set 262 (congrArg Value.bool q41) ?_
          refine ap 12 4 ?_
          refine br (!v29_12.1) (fun q42 => ?_) (fun q42 => ?_)
          · replace h := H.t q42 h
            refine a_set 266 (congrArg Value.bool q42) ?_
            refine ap 16 8 ?_
            refine a_done ?_
            refine c_t (by kernel_rfl) ?_
            refine c_seq ?_
            refine r_start ?_
            refine p 1 ?_
            refine rend ?_
            replace h := H.inr h
            replace h := H.inl h
            replace h := H.done h
            subst h
            exact ret func6 rfl (vs := [.bool false]) (.tmp (by kernel_rfl) .nil) rfl (fun W S => ⟨rfl, S.below⟩)
          replace h := H.f q42 h
          refine a_set 266 (congrArg Value.bool q42) ?_
          refine ap 16 1 ?_
          refine aq 17 rfl (y_idx (e := (eI .i64)) (el := 3) hy28_2 (s_in (i_own 4) hs27_0 hg37)) ?_
          refine aq 18 rfl (y_el (e := (eI .i64)) 0 (.int .i64 y28_2) hy28_2 (s_in (i_own 4) hs27_0 hg37)) ?_
          refine ap 19 1 ?_
          refine aq 20 rfl (y_idx (e := (eI .i64)) (el := 3) hy28_8 (s_in (i_own 4) hs27_0 hg37)) ?_
          refine aq 21 rfl (y_el (e := (eI .i64)) 0 (.int .i64 y28_8) hy28_8 (s_in (i_own 4) hs27_0 hg37)) ?_
          refine ap 22 2 ?_
          refine a_done ?_
          refine c_or (decide (y28_2 ≥ y28_8)) (fun q43 => ?_) (fun q43 => ?_)
          · replace h := H.t q43 h
            refine c_seq ?_
            refine r_start ?_
            refine p 1 ?_
            refine rend ?_
            replace h := H.inr h
            replace h := H.inl h
            replace h := H.done h
            subst h
            exact ret func6 rfl (vs := [.bool false]) (.tmp (by kernel_rfl) .nil) rfl (fun W S => ⟨rfl, S.below⟩)
          replace h := H.f q43 h
          refine c_skip ?_
          refine c_inb ?_
          refine r_start ?_
          refine p 2 ?_
          refine rend ?_
          refine c_set 215 (ci hw38) ?_
          replace h := H.inl h
          exact h () _ _ rfl (by kernel_rfl) (by kernel_rfl)
        · intro x u q36 h
          refine c_seq ?_
          refine r_start ?_
          refine p 1 ?_
          refine rend ?_
          refine c_seq ?_
          refine c_no q36 ?_
          refine cx ?_
          replace h := H.done h
          exact hj33 () _ _ h (by kernel_rfl) (by kernel_rfl)
      intro x u h
      refine c_seq ?_
      refine r_start ?_
      refine p 3 ?_
      refine rend ?_
      refine c_block ?_
      refine joinE (X := Unit) 4 (H.or h) (fun (x : Unit) => x) (fun _ => [rowT nSign w.heap.size 37 (.slice A3_1 (List.length v3_1) k3_1) v3_1, rowT eSl w.heap.size 69 (.slice A4_1 (List.length u4_1) k4_1) u4_1, inns (eI .i64) w.heap.size 3 u4_1 v4_1.1, rowT eSl w.heap.size 69 (.slice A5_1 (List.length u5_1) k5_1) u5_1, inns (eI .i64) w.heap.size 3 u5_1 v5_1.1, rowT (eI .i64) w.heap.size 3 (.slice A6_1 (List.length v6_1.1) k6_1) v6_1.1, rowT (eI .i64) w.heap.size 3 (.slice A7_1 (List.length v7_1.1) k7_1) v7_1.1, rowT (eI .i64) w.heap.size 3 (.slice A8_1 (List.length v8_1.1) k8_1) v8_1.1, rowT (eI .i64) w.heap.size 3 (.slice A9_1 (List.length v9_1.1) k9_1) v9_1.1]) (fun _ u => (jk u 0 1 (.slice A1 (List.length a1) k1 :: (jk u 2 385 [])))) (fun h hj44 => ?_) ?_
      · skip
        refine rangeR (X := Unit) (s_own 0) (fun (x : Unit) => x) (fun _ => [rowT nSign w.heap.size 37 (.slice A3_1 (List.length v3_1) k3_1) v3_1, rowT eSl w.heap.size 69 (.slice A4_1 (List.length u4_1) k4_1) u4_1, inns (eI .i64) w.heap.size 3 u4_1 v4_1.1, rowT eSl w.heap.size 69 (.slice A5_1 (List.length u5_1) k5_1) u5_1, inns (eI .i64) w.heap.size 3 u5_1 v5_1.1, rowT (eI .i64) w.heap.size 3 (.slice A6_1 (List.length v6_1.1) k6_1) v6_1.1, rowT (eI .i64) w.heap.size 3 (.slice A7_1 (List.length v7_1.1) k7_1) v7_1.1, rowT (eI .i64) w.heap.size 3 (.slice A8_1 (List.length v8_1.1) k8_1) v8_1.1, rowT (eI .i64) w.heap.size 3 (.slice A9_1 (List.length v9_1.1) k9_1) v9_1.1]) (fun (j45 : Nat) _ u => (jk u 0 1 (.slice A1 (List.length a1) k1 :: (jk u 2 3 (.slice A3_1 (List.length v3_1) k3_1 :: (jk u 6 10 (.slice A9_1 (List.length v9_1.1) k9_1 :: (jk u 17 4 (.int .i64 v11_1.1 :: .int .i64 v11_1.2.1 :: (jk u 23 254 (.int .i64 (List.length v3_1 : Int) :: .int .i64 (j45 : Int) :: (jk u 279 108 [])))))))))))) () h (by kernel_rfl) (by kernel_rfl) ?_ ?_
        · intro j45 x u x46 q47 hg48 hw49 h
          refine c_seq ?_
          refine r_start ?_
          refine p 1 ?_
          refine rend ?_
          refine c_seq ?_
          refine c_yes q47 ?_
          refine c_skip ?_
          refine c_seq ?_
          refine c_block ?_
          refine c_seq ?_
          refine r_start ?_
          refine p 2 ?_
          refine rend ?_
          refine c_seq ?_
          refine r_start ?_
          refine p 2 ?_
          obtain ⟨v36_2, hv36_2, h⟩ := H.call h
          refine xx rfl (e_cr [.slice A3_1 (List.length v3_1) k3_1, .int .i64 (j45 : Int)] (fun v => .tuple #[v, .bool v36_2.2]) func67 (fun W S => C.i_PairsWith W hv36_2 ((s_own 0).out W S)) fun A36_2 k36_2 => ?_)
          refine p 5 ?_
          refine rend ?_
          refine c_seq ?_
          refine r_start ?_
          refine p 2 ?_
          obtain ⟨v37_2, hv37_2, h⟩ := H.call h
          refine xx rfl (e_cr [.slice A3_1 (List.length v3_1) k3_1, .int .i64 (j45 : Int)] (fun v => .tuple #[v, .bool v37_2.2]) func68 (fun W S => C.s_PairsWith W hv37_2 ((s_own 0).out W S)) fun A37_2 k37_2 => ?_)
          refine p 5 ?_
          refine rend ?_
          refine c_seq ?_
          refine r_start ?_
          refine p 3 ?_
          refine br (!v36_2.2) (fun q50 => ?_) (fun q50 => ?_)
          · replace h := H.t q50 h
            refine o_set 295 (congrArg Value.bool q50) ?_
            refine p 35 ?_
            refine rend ?_
            refine c_t (by kernel_rfl) ?_
            refine c_seq ?_
            refine r_start ?_
            refine p 1 ?_
            refine rend ?_
            refine frg (fun u => (jk u 0 4 (.bool false :: (jk u 5 382 [])))) (by kernel_rfl) fun u => ?_
            refine keep 11 (its' := [rowT nSign w.heap.size 37 (.slice A3_1 (List.length v3_1) k3_1) v3_1, rowT eSl w.heap.size 69 (.slice A4_1 (List.length u4_1) k4_1) u4_1, inns (eI .i64) w.heap.size 3 u4_1 v4_1.1, rowT eSl w.heap.size 69 (.slice A5_1 (List.length u5_1) k5_1) u5_1, inns (eI .i64) w.heap.size 3 u5_1 v5_1.1, rowT (eI .i64) w.heap.size 3 (.slice A6_1 (List.length v6_1.1) k6_1) v6_1.1, rowT (eI .i64) w.heap.size 3 (.slice A7_1 (List.length v7_1.1) k7_1) v7_1.1, rowT (eI .i64) w.heap.size 3 (.slice A8_1 (List.length v8_1.1) k8_1) v8_1.1, rowT (eI .i64) w.heap.size 3 (.slice A9_1 (List.length v9_1.1) k9_1) v9_1.1, rowT (eI .i64) w.heap.size 3 (.slice A36_2 (List.length v36_2.1) k36_2) v36_2.1, rowT (eI .i64) w.heap.size 3 (.slice A37_2 (List.length v37_2.1) k37_2) v37_2.1]) (by kernel_rfl) ?_
            replace h := H.inr h
            replace h := H.inl h
            replace h := H.done h
            subst h
            exact ret func6 rfl (vs := [.bool false]) (.tmp (by kernel_rfl) .nil) rfl (fun W S => ⟨rfl, S.below⟩)
          replace h := H.f q50 h
          refine o_set 295 (congrArg Value.bool q50) ?_
          refine p 4 ?_
          refine br (!v37_2.2) (fun q51 => ?_) (fun q51 => ?_)
          · replace h := H.t q51 h
            refine o_set 299 (congrArg Value.bool q51) ?_
            refine p 31 ?_
            refine rend ?_
            refine c_t (by kernel_rfl) ?_
            refine c_seq ?_
            refine r_start ?_
            refine p 1 ?_
            refine rend ?_
            refine frg (fun u => (jk u 0 4 (.bool false :: (jk u 5 382 [])))) (by kernel_rfl) fun u => ?_
            refine keep 11 (its' := [rowT nSign w.heap.size 37 (.slice A3_1 (List.length v3_1) k3_1) v3_1, rowT eSl w.heap.size 69 (.slice A4_1 (List.length u4_1) k4_1) u4_1, inns (eI .i64) w.heap.size 3 u4_1 v4_1.1, rowT eSl w.heap.size 69 (.slice A5_1 (List.length u5_1) k5_1) u5_1, inns (eI .i64) w.heap.size 3 u5_1 v5_1.1, rowT (eI .i64) w.heap.size 3 (.slice A6_1 (List.length v6_1.1) k6_1) v6_1.1, rowT (eI .i64) w.heap.size 3 (.slice A7_1 (List.length v7_1.1) k7_1) v7_1.1, rowT (eI .i64) w.heap.size 3 (.slice A8_1 (List.length v8_1.1) k8_1) v8_1.1, rowT (eI .i64) w.heap.size 3 (.slice A9_1 (List.length v9_1.1) k9_1) v9_1.1, rowT (eI .i64) w.heap.size 3 (.slice A36_2 (List.length v36_2.1) k36_2) v36_2.1, rowT (eI .i64) w.heap.size 3 (.slice A37_2 (List.length v37_2.1) k37_2) v37_2.1]) (by kernel_rfl) ?_
            replace h := H.inr h
            replace h := H.inl h
            replace h := H.done h
            subst h
            exact ret func6 rfl (vs := [.bool false]) (.tmp (by kernel_rfl) .nil) rfl (fun W S => ⟨rfl, S.below⟩)
          replace h := H.f q51 h
          refine o_set 299 (congrArg Value.bool q51) ?_
          refine p 2 ?_
          obtain ⟨v38_9, hv38_9, h⟩ := H.call h
          refine xq rfl (y_call [.slice A36_2 (List.length v36_2.1) k36_2, .slice A37_2 (List.length v37_2.1) k37_2] (.bool v38_9) func61 (fun W S => C.l_sameInts W hv38_9 ((s_own 9).out W S) ((s_own 10).out W S))) ?_
          refine p 3 ?_
          refine br (!v38_9) (fun q52 => ?_) (fun q52 => ?_)
          · replace h := H.t q52 h
            refine o_set 305 (congrArg Value.bool q52) ?_
            refine p 25 ?_
            refine rend ?_
            refine c_t (by kernel_rfl) ?_
            refine c_seq ?_
            refine r_start ?_
            refine p 1 ?_
            refine rend ?_
            refine frg (fun u => (jk u 0 4 (.bool false :: (jk u 5 382 [])))) (by kernel_rfl) fun u => ?_
            refine keep 11 (its' := [rowT nSign w.heap.size 37 (.slice A3_1 (List.length v3_1) k3_1) v3_1, rowT eSl w.heap.size 69 (.slice A4_1 (List.length u4_1) k4_1) u4_1, inns (eI .i64) w.heap.size 3 u4_1 v4_1.1, rowT eSl w.heap.size 69 (.slice A5_1 (List.length u5_1) k5_1) u5_1, inns (eI .i64) w.heap.size 3 u5_1 v5_1.1, rowT (eI .i64) w.heap.size 3 (.slice A6_1 (List.length v6_1.1) k6_1) v6_1.1, rowT (eI .i64) w.heap.size 3 (.slice A7_1 (List.length v7_1.1) k7_1) v7_1.1, rowT (eI .i64) w.heap.size 3 (.slice A8_1 (List.length v8_1.1) k8_1) v8_1.1, rowT (eI .i64) w.heap.size 3 (.slice A9_1 (List.length v9_1.1) k9_1) v9_1.1, rowT (eI .i64) w.heap.size 3 (.slice A36_2 (List.length v36_2.1) k36_2) v36_2.1, rowT (eI .i64) w.heap.size 3 (.slice A37_2 (List.length v37_2.1) k37_2) v37_2.1]) (by kernel_rfl) ?_
            replace h := H.inr h
            replace h := H.inl h
            replace h := H.done h
            subst h
            exact ret func6 rfl (vs := [.bool false]) (.tmp (by kernel_rfl) .nil) rfl (fun W S => ⟨rfl, S.below⟩)
          replace h := H.f q52 h
          refine o_set 305 (congrArg Value.bool q52) ?_
          refine p 2 ?_
          obtain ⟨v38_15, hv38_15, h⟩ := H.call h
          refine xq rfl (y_call [.slice A9_1 (List.length v9_1.1) k9_1, .int .i64 (j45 : Int)] (.bool v38_15) func69 (fun W S => C.l_pIn W hv38_15 ((s_own 8).out W S))) ?_
          refine p 6 ?_
          refine br (!(v38_15 == ((List.length v37_2.1 : Int) == 0))) (fun q53 => ?_) (fun q53 => ?_)
          · replace h := H.t q53 h
            refine o_set 314 (congrArg Value.bool q53) ?_
            refine p 16 ?_
            refine rend ?_
            refine c_t (by kernel_rfl) ?_
            refine c_seq ?_
            refine r_start ?_
            refine p 1 ?_
            refine rend ?_
            refine frg (fun u => (jk u 0 4 (.bool false :: (jk u 5 382 [])))) (by kernel_rfl) fun u => ?_
            refine keep 11 (its' := [rowT nSign w.heap.size 37 (.slice A3_1 (List.length v3_1) k3_1) v3_1, rowT eSl w.heap.size 69 (.slice A4_1 (List.length u4_1) k4_1) u4_1, inns (eI .i64) w.heap.size 3 u4_1 v4_1.1, rowT eSl w.heap.size 69 (.slice A5_1 (List.length u5_1) k5_1) u5_1, inns (eI .i64) w.heap.size 3 u5_1 v5_1.1, rowT (eI .i64) w.heap.size 3 (.slice A6_1 (List.length v6_1.1) k6_1) v6_1.1, rowT (eI .i64) w.heap.size 3 (.slice A7_1 (List.length v7_1.1) k7_1) v7_1.1, rowT (eI .i64) w.heap.size 3 (.slice A8_1 (List.length v8_1.1) k8_1) v8_1.1, rowT (eI .i64) w.heap.size 3 (.slice A9_1 (List.length v9_1.1) k9_1) v9_1.1, rowT (eI .i64) w.heap.size 3 (.slice A36_2 (List.length v36_2.1) k36_2) v36_2.1, rowT (eI .i64) w.heap.size 3 (.slice A37_2 (List.length v37_2.1) k37_2) v37_2.1]) (by kernel_rfl) ?_
            replace h := H.inr h
            replace h := H.inl h
            replace h := H.done h
            subst h
            exact ret func6 rfl (vs := [.bool false]) (.tmp (by kernel_rfl) .nil) rfl (fun W S => ⟨rfl, S.below⟩)
          replace h := H.f q53 h
          refine o_set 314 (congrArg Value.bool q53) ?_
          refine p 6 ?_
          refine br (decide ((List.length v37_2.1 : Int) > v11_1.2.1)) (fun q54 => ?_) (fun q54 => ?_)
          · replace h := H.t q54 h
            refine o_set 320 (congrArg Value.bool q54) ?_
            refine p 10 ?_
            refine rend ?_
            refine c_t (by kernel_rfl) ?_
            refine c_seq ?_
            refine r_start ?_
            refine p 1 ?_
            refine rend ?_
            refine frg (fun u => (jk u 0 4 (.bool false :: (jk u 5 382 [])))) (by kernel_rfl) fun u => ?_
            refine keep 11 (its' := [rowT nSign w.heap.size 37 (.slice A3_1 (List.length v3_1) k3_1) v3_1, rowT eSl w.heap.size 69 (.slice A4_1 (List.length u4_1) k4_1) u4_1, inns (eI .i64) w.heap.size 3 u4_1 v4_1.1, rowT eSl w.heap.size 69 (.slice A5_1 (List.length u5_1) k5_1) u5_1, inns (eI .i64) w.heap.size 3 u5_1 v5_1.1, rowT (eI .i64) w.heap.size 3 (.slice A6_1 (List.length v6_1.1) k6_1) v6_1.1, rowT (eI .i64) w.heap.size 3 (.slice A7_1 (List.length v7_1.1) k7_1) v7_1.1, rowT (eI .i64) w.heap.size 3 (.slice A8_1 (List.length v8_1.1) k8_1) v8_1.1, rowT (eI .i64) w.heap.size 3 (.slice A9_1 (List.length v9_1.1) k9_1) v9_1.1, rowT (eI .i64) w.heap.size 3 (.slice A36_2 (List.length v36_2.1) k36_2) v36_2.1, rowT (eI .i64) w.heap.size 3 (.slice A37_2 (List.length v37_2.1) k37_2) v37_2.1]) (by kernel_rfl) ?_
            replace h := H.inr h
            replace h := H.inl h
            replace h := H.done h
            subst h
            exact ret func6 rfl (vs := [.bool false]) (.tmp (by kernel_rfl) .nil) rfl (fun W S => ⟨rfl, S.below⟩)
          replace h := H.f q54 h
          refine o_set 320 (congrArg Value.bool q54) ?_
          refine p 4 ?_
          refine br ((j45 : Int) == v11_1.1) (fun q55 => ?_) (fun q55 => ?_)
          · replace h := H.t q55 h
            refine o_set 324 (congrArg Value.bool q55) ?_
            refine p 6 ?_
            refine rend ?_
            refine c_or ((List.length v37_2.1 : Int) != v11_1.2.1) (fun q56 => ?_) (fun q56 => ?_)
            · replace h := H.t q56 h
              refine c_seq ?_
              refine r_start ?_
              refine p 1 ?_
              refine rend ?_
              refine frg (fun u => (jk u 0 4 (.bool false :: (jk u 5 382 [])))) (by kernel_rfl) fun u => ?_
              refine keep 11 (its' := [rowT nSign w.heap.size 37 (.slice A3_1 (List.length v3_1) k3_1) v3_1, rowT eSl w.heap.size 69 (.slice A4_1 (List.length u4_1) k4_1) u4_1, inns (eI .i64) w.heap.size 3 u4_1 v4_1.1, rowT eSl w.heap.size 69 (.slice A5_1 (List.length u5_1) k5_1) u5_1, inns (eI .i64) w.heap.size 3 u5_1 v5_1.1, rowT (eI .i64) w.heap.size 3 (.slice A6_1 (List.length v6_1.1) k6_1) v6_1.1, rowT (eI .i64) w.heap.size 3 (.slice A7_1 (List.length v7_1.1) k7_1) v7_1.1, rowT (eI .i64) w.heap.size 3 (.slice A8_1 (List.length v8_1.1) k8_1) v8_1.1, rowT (eI .i64) w.heap.size 3 (.slice A9_1 (List.length v9_1.1) k9_1) v9_1.1, rowT (eI .i64) w.heap.size 3 (.slice A36_2 (List.length v36_2.1) k36_2) v36_2.1, rowT (eI .i64) w.heap.size 3 (.slice A37_2 (List.length v37_2.1) k37_2) v37_2.1]) (by kernel_rfl) ?_
              replace h := H.inr h
              replace h := H.inl h
              replace h := H.done h
              subst h
              exact ret func6 rfl (vs := [.bool false]) (.tmp (by kernel_rfl) .nil) rfl (fun W S => ⟨rfl, S.below⟩)
            replace h := H.f q56 h
            refine c_skip ?_
            refine c_inb ?_
            refine r_start ?_
            refine p 2 ?_
            refine rend ?_
            refine c_set 278 (ci hw49) ?_
            replace h := H.inl h
            exact h () _ _ rfl (by kernel_rfl) (by kernel_rfl)
          replace h := H.f q55 h
          refine o_set 324 (congrArg Value.bool q55) ?_
          refine p 6 ?_
          refine rend ?_
          refine c_f (by kernel_rfl) ?_
          refine c_skip ?_
          refine c_inb ?_
          refine r_start ?_
          refine p 2 ?_
          refine rend ?_
          refine c_set 278 (ci hw49) ?_
          replace h := H.inl h
          exact h () _ _ rfl (by kernel_rfl) (by kernel_rfl)
        · intro x u q47 h
          refine c_seq ?_
          refine r_start ?_
          refine p 1 ?_
          refine rend ?_
          refine c_seq ?_
          refine c_no q47 ?_
          refine cx ?_
          replace h := H.done h
          exact hj44 () _ _ h (by kernel_rfl) (by kernel_rfl)
      intro x u h
      replace h := H.inr h
      exact hj17 () _ _ h (by kernel_rfl) (by kernel_rfl)
    replace h := H.f q18 h
    refine c_skip ?_
    replace h := H.inr h
    exact hj17 () _ _ h (by kernel_rfl) (by kernel_rfl)
  intro x u h
  refine c_seq ?_
  refine r_start ?_
  refine p 1 ?_
  obtain ⟨v41_1, hv41_1, h⟩ := H.call h
  refine xq rfl (y_call [.slice A1 (List.length a1) k1] (.tuple #[.agg (eSign v41_1.1).toArray, .agg (eSign v41_1.2).toArray]) func70 (fun W S => C.s_DrawPartsApart W hv41_1 ((s_arg h1).out W S))) ?_
  refine p 3 ?_
  refine xx rfl (x_new (eSign zSign) fun g41_5 => ?_)
  refine xx rfl (x_new (eSign zSign) fun g41_6 => ?_)
  refine xx rfl (x_sto 9 g41_5 0 (eSign v41_1.1) ?_)
  refine xx rfl (x_sto 10 g41_6 0 (eSign v41_1.2) ?_)
  refine rend ?_
  refine c_seq ?_
  refine r_start ?_
  refine xq rfl (y_load (.agg (eSign v41_1.1).toArray) 9 g41_5 0) ?_
  refine xq rfl (y_load (.agg (eSign v41_1.2).toArray) 10 g41_6 0) ?_
  obtain ⟨v42_2, hv42_2, h⟩ := H.call h
  refine xx rfl (e_cr [.agg (eSign v41_1.1).toArray, .agg (eSign v41_1.2).toArray] (fun v => .tuple #[v, .bool v42_2.2]) func65 (fun W S => C.i_PartsApart W hv42_2) fun A42_2 k42_2 => ?_)
  refine p 5 ?_
  refine rend ?_
  refine c_seq ?_
  refine r_start ?_
  refine xq rfl (y_load (.agg (eSign v41_1.1).toArray) 9 g41_5 0) ?_
  refine xq rfl (y_load (.agg (eSign v41_1.2).toArray) 10 g41_6 0) ?_
  obtain ⟨v43_2, hv43_2, h⟩ := H.call h
  refine xx rfl (e_cr [.agg (eSign v41_1.1).toArray, .agg (eSign v41_1.2).toArray] (fun v => .tuple #[v, .bool v43_2.2]) func71 (fun W S => C.s_PartsApart W hv43_2) fun A43_2 k43_2 => ?_)
  refine p 5 ?_
  refine rend ?_
  refine c_seq ?_
  refine c_seq ?_
  refine r_start ?_
  refine p 4 ?_
  refine br (!(v42_2.2 == v43_2.2)) (fun q57 => ?_) (fun q57 => ?_)
  · replace h := H.t q57 h
    refine o_set 352 (congrArg Value.bool q57) ?_
    refine p 5 ?_
    refine rend ?_
    refine c_t (by kernel_rfl) ?_
    refine c_seq ?_
    refine r_start ?_
    refine p 1 ?_
    refine rend ?_
    refine frg (fun u => (jk u 0 4 (.bool false :: (jk u 5 382 [])))) (by kernel_rfl) fun u => ?_
    refine keep 13 (its' := [rowT nSign w.heap.size 37 (.slice A3_1 (List.length v3_1) k3_1) v3_1, rowT eSl w.heap.size 69 (.slice A4_1 (List.length u4_1) k4_1) u4_1, inns (eI .i64) w.heap.size 3 u4_1 v4_1.1, rowT eSl w.heap.size 69 (.slice A5_1 (List.length u5_1) k5_1) u5_1, inns (eI .i64) w.heap.size 3 u5_1 v5_1.1, rowT (eI .i64) w.heap.size 3 (.slice A6_1 (List.length v6_1.1) k6_1) v6_1.1, rowT (eI .i64) w.heap.size 3 (.slice A7_1 (List.length v7_1.1) k7_1) v7_1.1, rowT (eI .i64) w.heap.size 3 (.slice A8_1 (List.length v8_1.1) k8_1) v8_1.1, rowT (eI .i64) w.heap.size 3 (.slice A9_1 (List.length v9_1.1) k9_1) v9_1.1, box g41_5 37 (eSign v41_1.1), box g41_6 37 (eSign v41_1.2), rowT (eI .i64) w.heap.size 3 (.slice A42_2 (List.length v42_2.1) k42_2) v42_2.1, rowT (eI .i64) w.heap.size 3 (.slice A43_2 (List.length v43_2.1) k43_2) v43_2.1]) (by kernel_rfl) ?_
    replace h := H.done h
    subst h
    exact ret func6 rfl (vs := [.bool false]) (.tmp (by kernel_rfl) .nil) rfl (fun W S => ⟨rfl, S.below⟩)
  replace h := H.f q57 h
  refine o_set 352 (congrArg Value.bool q57) ?_
  refine p 2 ?_
  obtain ⟨v44_6, hv44_6, h⟩ := H.call h
  refine xq rfl (y_call [.slice A42_2 (List.length v42_2.1) k42_2, .slice A43_2 (List.length v43_2.1) k43_2] (.bool v44_6) func61 (fun W S => C.l_sameInts W hv44_6 ((s_own 11).out W S) ((s_own 12).out W S))) ?_
  refine p 2 ?_
  refine rend ?_
  refine c_or (!v44_6) (fun q58 => ?_) (fun q58 => ?_)
  · replace h := H.t q58 h
    refine c_seq ?_
    refine r_start ?_
    refine p 1 ?_
    refine rend ?_
    refine frg (fun u => (jk u 0 4 (.bool false :: (jk u 5 382 [])))) (by kernel_rfl) fun u => ?_
    refine keep 13 (its' := [rowT nSign w.heap.size 37 (.slice A3_1 (List.length v3_1) k3_1) v3_1, rowT eSl w.heap.size 69 (.slice A4_1 (List.length u4_1) k4_1) u4_1, inns (eI .i64) w.heap.size 3 u4_1 v4_1.1, rowT eSl w.heap.size 69 (.slice A5_1 (List.length u5_1) k5_1) u5_1, inns (eI .i64) w.heap.size 3 u5_1 v5_1.1, rowT (eI .i64) w.heap.size 3 (.slice A6_1 (List.length v6_1.1) k6_1) v6_1.1, rowT (eI .i64) w.heap.size 3 (.slice A7_1 (List.length v7_1.1) k7_1) v7_1.1, rowT (eI .i64) w.heap.size 3 (.slice A8_1 (List.length v8_1.1) k8_1) v8_1.1, rowT (eI .i64) w.heap.size 3 (.slice A9_1 (List.length v9_1.1) k9_1) v9_1.1, box g41_5 37 (eSign v41_1.1), box g41_6 37 (eSign v41_1.2), rowT (eI .i64) w.heap.size 3 (.slice A42_2 (List.length v42_2.1) k42_2) v42_2.1, rowT (eI .i64) w.heap.size 3 (.slice A43_2 (List.length v43_2.1) k43_2) v43_2.1]) (by kernel_rfl) ?_
    replace h := H.done h
    subst h
    exact ret func6 rfl (vs := [.bool false]) (.tmp (by kernel_rfl) .nil) rfl (fun W S => ⟨rfl, S.below⟩)
  replace h := H.f q58 h
  refine c_skip ?_
  refine c_seq ?_
  refine c_seq ?_
  refine r_start ?_
  refine p 1 ?_
  refine rend ?_
  refine frg (fun u => (jk u 0 41 (.pointer (some ⟨g41_5, 0, none⟩) :: .pointer (some ⟨g41_6, 0, none⟩) :: (jk u 43 2 (.slice A43_2 (List.length v43_2.1) k43_2 :: (jk u 46 312 (.bool v42_2.2 :: (jk u 359 28 [])))))))) (by kernel_rfl) fun u => ?_
  refine keep 13 (its' := [rowT nSign w.heap.size 37 (.slice A3_1 (List.length v3_1) k3_1) v3_1, rowT eSl w.heap.size 69 (.slice A4_1 (List.length u4_1) k4_1) u4_1, inns (eI .i64) w.heap.size 3 u4_1 v4_1.1, rowT eSl w.heap.size 69 (.slice A5_1 (List.length u5_1) k5_1) u5_1, inns (eI .i64) w.heap.size 3 u5_1 v5_1.1, rowT (eI .i64) w.heap.size 3 (.slice A6_1 (List.length v6_1.1) k6_1) v6_1.1, rowT (eI .i64) w.heap.size 3 (.slice A7_1 (List.length v7_1.1) k7_1) v7_1.1, rowT (eI .i64) w.heap.size 3 (.slice A8_1 (List.length v8_1.1) k8_1) v8_1.1, rowT (eI .i64) w.heap.size 3 (.slice A9_1 (List.length v9_1.1) k9_1) v9_1.1, box g41_5 37 (eSign v41_1.1), box g41_6 37 (eSign v41_1.2), rowT (eI .i64) w.heap.size 3 (.slice A42_2 (List.length v42_2.1) k42_2) v42_2.1, rowT (eI .i64) w.heap.size 3 (.slice A43_2 (List.length v43_2.1) k43_2) v43_2.1]) (by kernel_rfl) ?_
  refine c_or v42_2.2 (fun q59 => ?_) (fun q59 => ?_)
  · replace h := H.t q59 h
    refine c_seq ?_
    refine r_start ?_
    refine xq rfl (y_load (.agg (eSign v41_1.1).toArray) 9 g41_5 0) ?_
    refine xq rfl (y_load (.agg (eSign v41_1.2).toArray) 10 g41_6 0) ?_
    obtain ⟨v47_2, hv47_2, h⟩ := H.call h
    refine xq rfl (y_call [.agg (eSign v41_1.1).toArray, .agg (eSign v41_1.2).toArray] (.tuple #[.bool v47_2.1, .bool v47_2.2]) func48 (fun W S => C.i_AreSameSign W hv47_2)) ?_
    refine p 5 ?_
    refine rend ?_
    refine c_seq ?_
    refine r_start ?_
    refine xq rfl (y_load (.agg (eSign v41_1.2).toArray) 10 g41_6 0) ?_
    refine xq rfl (y_load (.agg (eSign v41_1.1).toArray) 9 g41_5 0) ?_
    obtain ⟨v48_2, hv48_2, h⟩ := H.call h
    refine xx rfl (e_cr [.agg (eSign v41_1.2).toArray, .agg (eSign v41_1.1).toArray] (fun v => .tuple #[v, .bool v48_2.2]) func65 (fun W S => C.i_PartsApart W hv48_2) fun A48_2 k48_2 => ?_)
    refine p 5 ?_
    refine rend ?_
    refine c_seq ?_
    refine r_start ?_
    refine p 2 ?_
    refine br v47_2.2 (fun q60 => ?_) (fun q60 => ?_)
    · replace h := H.t q60 h
      refine o_set 372 (congrArg Value.bool q60) ?_
      refine p 7 ?_
      refine br (v47_2.1 == ((List.length v43_2.1 : Int) == 0)) (fun q61 => ?_) (fun q61 => ?_)
      · replace h := H.t q61 h
        refine o_set 379 (congrArg Value.bool q61) ?_
        refine p 3 ?_
        refine br v48_2.2 (fun q62 => ?_) (fun q62 => ?_)
        · replace h := H.t q62 h
          refine o_set 382 (congrArg Value.bool q62) ?_
          refine p 2 ?_
          obtain ⟨v49_14, hv49_14, h⟩ := H.call h
          refine xq rfl (y_call [.slice A48_2 (List.length v48_2.1) k48_2, .slice A43_2 (List.length v43_2.1) k43_2] (.bool v49_14) func61 (fun W S => C.l_sameInts W hv49_14 ((s_own 13).out W S) ((s_own 12).out W S))) ?_
          refine p 2 ?_
          refine rend ?_
          replace h := H.done h
          subst h
          exact ret func6 rfl (vs := [.bool v49_14]) (.tmp (by kernel_rfl) .nil) rfl (fun W S => ⟨rfl, S.below⟩)
        replace h := H.f q62 h
        refine o_set 382 (congrArg Value.bool q62) ?_
        refine p 5 ?_
        refine rend ?_
        replace h := H.done h
        subst h
        exact ret func6 rfl (vs := [.bool false]) (.tmp (by kernel_rfl) .nil) rfl (fun W S => ⟨rfl, S.below⟩)
      replace h := H.f q61 h
      refine o_set 379 (congrArg Value.bool q61) ?_
      refine p 8 ?_
      refine rend ?_
      replace h := H.done h
      subst h
      exact ret func6 rfl (vs := [.bool false]) (.tmp (by kernel_rfl) .nil) rfl (fun W S => ⟨rfl, S.below⟩)
    replace h := H.f q60 h
    refine o_set 372 (congrArg Value.bool q60) ?_
    refine p 15 ?_
    refine rend ?_
    replace h := H.done h
    subst h
    exact ret func6 rfl (vs := [.bool false]) (.tmp (by kernel_rfl) .nil) rfl (fun W S => ⟨rfl, S.below⟩)
  replace h := H.f q59 h
  refine c_skip ?_
  refine c_seq ?_
  refine r_start ?_
  refine p 1 ?_
  refine rend ?_
  replace h := H.done h
  subst h
  exact ret func6 rfl (vs := [.bool true]) (.tmp (by kernel_rfl) .nil) rfl (fun W S => ⟨rfl, S.below⟩)
end Go.Proofs.XC
