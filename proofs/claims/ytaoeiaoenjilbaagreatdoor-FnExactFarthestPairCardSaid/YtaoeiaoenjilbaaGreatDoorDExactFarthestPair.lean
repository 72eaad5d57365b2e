/- Contracts: each function, called where its plain function gives an answer, returns just that answer and changes nothing that was there. By AI agents; no person has read it. -/
import Derived.Test.YtaoeiaoenjilbaaGreatDoorC1
import Derived.Test.YtaoeiaoenjilbaaGreatDoorE0
set_option linter.unusedVariables false
set_option linter.unusedSimpArgs false
set_option maxRecDepth 100000
set_option maxHeartbeats 40000000
namespace Go.Proofs.XC
open Go Go.RowKit
open Tryz
theorem C.s_FarthestPair {fu : Nat} {a0 : (List Sign)} {A0 : Option Addr} {k0 : Nat} {r : (Int × Int × Int × Bool)} (w : World) (h : X.s_FarthestPair fu a0 = some r) (h0 : RdT nSign w (.slice A0 (List.length a0) k0) a0) : Calls prog 16 #[.slice A0 (List.length a0) k0] w (Ret w (.tuple #[.int .i64 r.1, .int .i64 r.2.1, .int .i64 r.2.2.1, .bool r.2.2.2])) := by
  refine calls (M := no) (args := [.slice A0 (List.length a0) k0]) func16 rfl ?_
  replace h : H (X.s_FarthestPair fu a0) (fun o => o = r) := H.mk h
  unfold X.s_FarthestPair at h
  refine c_seq ?_
  refine r_start ?_
  refine p 4 ?_
  refine rend ?_
  refine c_seq ?_
  refine c_seq ?_
  refine r_start ?_
  refine p 1 ?_
  obtain ⟨v1_1, hv1_1, h⟩ := H.call h
  refine xq rfl (y_call [.slice A0 (List.length a0) k0] (.bool v1_1) func59 (fun W S => C.s_paList W hv1_1 ((s_arg h0).out W S))) ?_
  refine p 2 ?_
  refine br (!v1_1) (fun q1 => ?_) (fun q1 => ?_)
  · replace h := H.t q1 h
    refine o_set 16 (congrArg Value.bool q1) ?_
    refine p 4 ?_
    refine rend ?_
    refine c_t (by kernel_rfl) ?_
    refine c_seq ?_
    refine r_start ?_
    refine p 4 ?_
    refine rend ?_
    replace h := H.done h
    subst h
    exact ret func16 rfl (vs := [.int .i64 0, .int .i64 0, .int .i64 0, .bool false]) (.tmp (by kernel_rfl) (.tmp (by kernel_rfl) (.tmp (by kernel_rfl) (.tmp (by kernel_rfl) .nil)))) rfl (fun W S => ⟨rfl, S.below⟩)
  replace h := H.f q1 h
  refine o_set 16 (congrArg Value.bool q1) ?_
  refine p 4 ?_
  refine rend ?_
  refine c_or (decide ((List.length a0 : Int) < 2)) (fun q2 => ?_) (fun q2 => ?_)
  · replace h := H.t q2 h
    refine c_seq ?_
    refine r_start ?_
    refine p 4 ?_
    refine rend ?_
    replace h := H.done h
    subst h
    exact ret func16 rfl (vs := [.int .i64 0, .int .i64 0, .int .i64 0, .bool false]) (.tmp (by kernel_rfl) (.tmp (by kernel_rfl) (.tmp (by kernel_rfl) (.tmp (by kernel_rfl) .nil)))) rfl (fun W S => ⟨rfl, S.below⟩)
  replace h := H.f q2 h
  refine c_skip ?_
  refine c_seq ?_
  refine r_start ?_
  refine p 3 ?_
  refine rend ?_
  refine c_seq ?_
  refine c_seq ?_
  refine r_start ?_
  refine p 3 ?_
  refine rend ?_
  refine c_block ?_
  refine joinH (X := (Int × Int × Int)) 0 (H.bnd h) (fun (x : (Int × Int × Int)) => x) (fun ⟨n6, n7, n8⟩ => []) (fun ⟨n6, n7, n8⟩ u => (jk u 0 6 (.int .i64 n6 :: .int .i64 n7 :: .int .i64 n8 :: (jk u 9 43 [])))) (fun h hj9 => ?_) ?_
  · skip
    refine rangeR (X := (Int × Int × Int)) (s_arg h0) (fun (x : (Int × Int × Int)) => x) (fun ⟨n3, n4, n5⟩ => []) (fun (j10 : Nat) ⟨n3, n4, n5⟩ u => (.slice A0 (List.length a0) k0 :: (jk u 1 5 (.int .i64 n3 :: .int .i64 n4 :: .int .i64 n5 :: (jk u 9 12 (.slice A0 (List.length a0) k0 :: .int .i64 (List.length a0 : Int) :: .int .i64 (j10 : Int) :: (jk u 24 28 []))))))) (0, 0, (-1)) h (by kernel_rfl) (by kernel_rfl) ?_ ?_
    · intro j10 x u x11 q12 hg13 hw14 h
      obtain ⟨n3, n4, n5⟩ := x
      refine c_seq ?_
      refine r_start ?_
      refine p 1 ?_
      refine rend ?_
      refine c_seq ?_
      refine c_yes q12 ?_
      refine c_skip ?_
      refine c_seq ?_
      refine c_block ?_
      refine c_seq ?_
      refine r_start ?_
      refine p 1 ?_
      refine xq rfl (y_idx (e := nSign) (el := 85) hg13 (s_arg h0)) ?_
      refine xq rfl (y_el (e := nSign) 0 (.agg (eSign x11).toArray) hg13 (s_arg h0)) ?_
      refine xx rfl (x_new (eSign zSign) fun g6_3 => ?_)
      refine p 1 ?_
      refine xx rfl (x_sto 0 g6_3 0 (eSign x11) ?_)
      refine rend ?_
      refine c_seq ?_
      refine r_start ?_
      refine p 3 ?_
      refine rend ?_
      refine c_block ?_
      refine joinH (X := (Int × Int × Int)) 2 (H.bnd h) (fun (x : (Int × Int × Int)) => x) (fun ⟨n19, n20, n21⟩ => [box g6_3 85 (eSign x11)]) (fun ⟨n19, n20, n21⟩ u => (.slice A0 (List.length a0) k0 :: (jk u 1 5 (.int .i64 n19 :: .int .i64 n20 :: .int .i64 n21 :: (jk u 9 12 (.slice A0 (List.length a0) k0 :: .int .i64 (List.length a0 : Int) :: .int .i64 (j10 : Int) :: (jk u 24 28 []))))))) (fun h hj22 => ?_) ?_
      · skip
        refine loopR (X := (Int × Int × Int × Int)) (fun (x : (Int × Int × Int × Int)) => x) (fun ⟨n15, n16, n17, n18⟩ => [box g6_3 85 (eSign x11)]) (fun ⟨n15, n16, n17, n18⟩ u => (.slice A0 (List.length a0) k0 :: (jk u 1 5 (.int .i64 n15 :: .int .i64 n16 :: .int .i64 n17 :: .int .i64 (j10 : Int) :: .pointer (some ⟨g6_3, 0, none⟩) :: .int .i64 n18 :: (jk u 12 9 (.slice A0 (List.length a0) k0 :: .int .i64 (List.length a0 : Int) :: .int .i64 (j10 : Int) :: (jk u 24 28 []))))))) (n3, n4, n5, (wr ((j10 : Int) + 1))) h (by kernel_rfl) (by kernel_rfl) ?_
        intro x u h
        obtain ⟨n15, n16, n17, n18⟩ := x
        refine c_seq ?_
        refine c_seq ?_
        refine r_start ?_
        refine p 4 ?_
        refine rend ?_
        refine c_or (decide (n18 < (List.length a0 : Int))) (fun q23 => ?_) (fun q23 => ?_)
        · replace h := H.t q23 h
          refine c_skip ?_
          refine c_seq ?_
          refine c_block ?_
          refine c_seq ?_
          refine as_start 7 7 ?_
          refine aq 0 rfl (y_load (.agg (eSign x11).toArray) 0 g6_3 0) ?_
          refine ap 1 2 ?_
          obtain ⟨y10_3, hy10_3, h⟩ := H.call h
          refine aq 3 rfl (y_idx (e := nSign) (el := 85) hy10_3 (s_arg h0)) ?_
          refine aq 4 rfl (y_el (e := nSign) 0 (.agg (eSign y10_3).toArray) hy10_3 (s_arg h0)) ?_
          obtain ⟨v10_5, hv10_5, h⟩ := H.call h
          refine aq 5 rfl (y_call [.agg (eSign x11).toArray, .agg (eSign y10_3).toArray] (.int .i64 v10_5) func60 (fun W S => C.s_feFar W hv10_5)) ?_
          refine ap 6 1 ?_
          refine a_done ?_
          refine c_seq ?_
          refine r_start ?_
          refine p 3 ?_
          refine rend ?_
          refine c_or (decide (v10_5 > n17)) (fun q24 => ?_) (fun q24 => ?_)
          · replace h := H.t q24 h
            refine c_seq ?_
            refine r_start ?_
            refine p 2 ?_
            refine rend ?_
            refine c_seq ?_
            refine r_start ?_
            refine p 2 ?_
            refine rend ?_
            refine r_start ?_
            refine p 2 ?_
            refine rend ?_
            refine frg (fun u => (.slice A0 (List.length a0) k0 :: (jk u 1 5 (.int .i64 (j10 : Int) :: .int .i64 n18 :: .int .i64 v10_5 :: .int .i64 (j10 : Int) :: .pointer (some ⟨g6_3, 0, none⟩) :: .int .i64 n18 :: (jk u 12 9 (.slice A0 (List.length a0) k0 :: .int .i64 (List.length a0 : Int) :: .int .i64 (j10 : Int) :: (jk u 24 28 []))))))) (by kernel_rfl) fun u => ?_
            refine keep 1 (its' := [box g6_3 85 (eSign x11)]) (by kernel_rfl) ?_
            refine c_inb ?_
            refine r_start ?_
            refine p 3 ?_
            refine rend ?_
            replace h := H.inl h
            exact h ((j10 : Int), n18, v10_5, (wr (n18 + 1))) _ _ rfl (by kernel_rfl) (by kernel_rfl)
          replace h := H.f q24 h
          refine c_skip ?_
          refine c_inb ?_
          refine r_start ?_
          refine p 3 ?_
          refine rend ?_
          replace h := H.inl h
          exact h (n15, n16, n17, (wr (n18 + 1))) _ _ rfl (by kernel_rfl) (by kernel_rfl)
        replace h := H.f q23 h
        refine cx ?_
        replace h := H.inr h
        exact hj22 (n15, n16, n17) _ _ h (by kernel_rfl) (by kernel_rfl)
      intro x u h
      obtain ⟨n19, n20, n21⟩ := x
      refine c_inb ?_
      refine r_start ?_
      refine p 2 ?_
      refine rend ?_
      refine c_set 23 (ci hw14) ?_
      replace h := H.inl h
      exact h (n19, n20, n21) _ _ rfl (by kernel_rfl) (by kernel_rfl)
    · intro x u q12 h
      obtain ⟨n3, n4, n5⟩ := x
      refine c_seq ?_
      refine r_start ?_
      refine p 1 ?_
      refine rend ?_
      refine c_seq ?_
      refine c_no q12 ?_
      refine cx ?_
      replace h := H.done h
      exact hj9 (n3, n4, n5) _ _ h (by kernel_rfl) (by kernel_rfl)
  intro x u h
  obtain ⟨n6, n7, n8⟩ := x
  refine c_seq ?_
  refine r_start ?_
  refine p 7 ?_
  refine rend ?_
  replace h := H.done h
  subst h
  exact ret func16 rfl (vs := [.int .i64 n6, .int .i64 n7, .int .i64 n8, .bool true]) (.tmp (by kernel_rfl) (.tmp (by kernel_rfl) (.tmp (by kernel_rfl) (.tmp (by kernel_rfl) .nil)))) rfl (fun W S => ⟨rfl, S.below⟩)
theorem C.i_FarthestPair {fu : Nat} {a0 : (List Sign)} {A0 : Option Addr} {k0 : Nat} {r : (Int × Int × Int × Bool)} (w : World) (h : X.i_FarthestPair fu a0 = some r) (h0 : RdT nSign w (.slice A0 (List.length a0) k0) a0) : Calls prog 18 #[.slice A0 (List.length a0) k0] w (Ret w (.tuple #[.int .i64 r.1, .int .i64 r.2.1, .int .i64 r.2.2.1, .bool r.2.2.2])) := by
  refine calls (M := no) (args := [.slice A0 (List.length a0) k0]) func18 rfl ?_
  replace h : H (X.i_FarthestPair fu a0) (fun o => o = r) := H.mk h
  unfold X.i_FarthestPair at h
  refine c_seq ?_
  refine r_start ?_
  refine p 4 ?_
  refine rend ?_
  refine c_seq ?_
  refine r_start ?_
  refine p 1 ?_
  obtain ⟨v1_1, hv1_1, h⟩ := H.call h
  refine xx rfl (e_crd [.slice A0 (List.length a0) k0] (fun v => .tuple #[v, .bool v1_1.2]) func36 (fun W S => C.i_DistanceTable W hv1_1 ((s_arg h0).out W S)) fun A1_1 k1_1 u1_1 => ?_)
  refine p 5 ?_
  refine rend ?_
  refine c_seq ?_
  refine c_seq ?_
  refine r_start ?_
  refine p 3 ?_
  refine br (!v1_1.2) (fun q1 => ?_) (fun q1 => ?_)
  · replace h := H.t q1 h
    refine o_set 20 (congrArg Value.bool q1) ?_
    refine p 4 ?_
    refine rend ?_
    refine c_t (by kernel_rfl) ?_
    refine c_seq ?_
    refine r_start ?_
    refine p 4 ?_
    refine rend ?_
    replace h := H.done h
    subst h
    exact ret func18 rfl (vs := [.int .i64 0, .int .i64 0, .int .i64 0, .bool false]) (.tmp (by kernel_rfl) (.tmp (by kernel_rfl) (.tmp (by kernel_rfl) (.tmp (by kernel_rfl) .nil)))) rfl (fun W S => ⟨rfl, S.below⟩)
  replace h := H.f q1 h
  refine o_set 20 (congrArg Value.bool q1) ?_
  refine p 4 ?_
  refine rend ?_
  refine c_or (decide ((List.length a0 : Int) < 2)) (fun q2 => ?_) (fun q2 => ?_)
  · replace h := H.t q2 h
    refine c_seq ?_
    refine r_start ?_
    refine p 4 ?_
    refine rend ?_
    replace h := H.done h
    subst h
    exact ret func18 rfl (vs := [.int .i64 0, .int .i64 0, .int .i64 0, .bool false]) (.tmp (by kernel_rfl) (.tmp (by kernel_rfl) (.tmp (by kernel_rfl) (.tmp (by kernel_rfl) .nil)))) rfl (fun W S => ⟨rfl, S.below⟩)
  replace h := H.f q2 h
  refine c_skip ?_
  refine c_seq ?_
  refine r_start ?_
  refine p 2 ?_
  refine rend ?_
  refine c_seq ?_
  refine c_seq ?_
  refine r_start ?_
  refine p 1 ?_
  refine p 1 ?_
  refine o_fact (f_len (i_own 1)) fun hl5_1 => ?_
  refine o_set 26 (len_sl hl5_1) ?_
  refine p 1 ?_
  refine rend ?_
  refine c_block ?_
  refine joinH (X := (Int × Int)) 0 (H.bnd h) (fun (x : (Int × Int)) => x) (fun ⟨n5, n6⟩ => [rowT eSl w.heap.size 30 (.slice A1_1 (List.length u1_1) k1_1) u1_1, inns (eI .i64) w.heap.size 3 u1_1 v1_1.1]) (fun ⟨n5, n6⟩ u => (jk u 0 6 (.slice A1_1 (List.length u1_1) k1_1 :: (jk u 7 1 (.int .i64 n5 :: .int .i64 n6 :: (jk u 10 54 [])))))) (fun h hj7 => ?_) ?_
  · skip
    refine rangeRD (X := (Int × Int)) (s_own 0) (i_own 1) (fun (x : (Int × Int)) => x) (fun ⟨n3, n4⟩ => [rowT eSl w.heap.size 30 (.slice A1_1 (List.length u1_1) k1_1) u1_1, inns (eI .i64) w.heap.size 3 u1_1 v1_1.1]) (fun (j8 : Nat) ⟨n3, n4⟩ u => (jk u 0 6 (.slice A1_1 (List.length u1_1) k1_1 :: (jk u 7 1 (.int .i64 n3 :: .int .i64 n4 :: (jk u 10 15 (.slice A1_1 (List.length u1_1) k1_1 :: .int .i64 (List.length v1_1.1 : Int) :: .int .i64 (j8 : Int) :: (jk u 28 36 [])))))))) (0, 1) h (by kernel_rfl) (by kernel_rfl) ?_ ?_
    · intro j8 x u x9 q10 hg11 hw12 h
      obtain ⟨n3, n4⟩ := x
      refine c_seq ?_
      refine r_start ?_
      refine p 1 ?_
      refine rend ?_
      refine c_seq ?_
      refine c_yes q10 ?_
      refine c_skip ?_
      refine c_seq ?_
      refine c_block ?_
      refine c_seq ?_
      refine r_start ?_
      refine p 1 ?_
      refine o_fact (f_len (i_own 1)) fun hl7_1 => ?_
      obtain ⟨s7_1, hs7_1⟩ := getI_both hl7_1 hg11
      refine xq rfl (y_idx (e := eSl) (el := 30) hs7_1 (s_own 0)) ?_
      refine xq rfl (y_el (e := eSl) 0 (.slice s7_1.A s7_1.n s7_1.c) hs7_1 (s_own 0)) ?_
      refine o_fact (f_n (i_own 1) hs7_1 hg11) fun he7_2 => ?_
      refine o_set 31 (sl_n he7_2) ?_
      refine p 2 ?_
      refine rend ?_
      refine c_seq ?_
      refine r_start ?_
      refine p 3 ?_
      refine rend ?_
      refine c_block ?_
      refine joinH (X := (Int × Int)) 2 (H.bnd h) (fun (x : (Int × Int)) => x) (fun ⟨n16, n17⟩ => [rowT eSl w.heap.size 30 (.slice A1_1 (List.length u1_1) k1_1) u1_1, inns (eI .i64) w.heap.size 3 u1_1 v1_1.1]) (fun ⟨n16, n17⟩ u => (jk u 0 6 (.slice A1_1 (List.length u1_1) k1_1 :: (jk u 7 1 (.int .i64 n16 :: .int .i64 n17 :: (jk u 10 15 (.slice A1_1 (List.length u1_1) k1_1 :: .int .i64 (List.length v1_1.1 : Int) :: .int .i64 (j8 : Int) :: (jk u 28 36 [])))))))) (fun h hj18 => ?_) ?_
      · skip
        refine loopR (X := (Int × Int × Int)) (fun (x : (Int × Int × Int)) => x) (fun ⟨n13, n14, n15⟩ => [rowT eSl w.heap.size 30 (.slice A1_1 (List.length u1_1) k1_1) u1_1, inns (eI .i64) w.heap.size 3 u1_1 v1_1.1]) (fun ⟨n13, n14, n15⟩ u => (jk u 0 6 (.slice A1_1 (List.length u1_1) k1_1 :: (jk u 7 1 (.int .i64 n13 :: .int .i64 n14 :: .int .i64 (j8 : Int) :: .slice s7_1.A (List.length x9) s7_1.c :: .int .i64 n15 :: (jk u 13 12 (.slice A1_1 (List.length u1_1) k1_1 :: .int .i64 (List.length v1_1.1 : Int) :: .int .i64 (j8 : Int) :: (jk u 28 36 [])))))))) (n3, n4, (wr ((j8 : Int) + 1))) h (by kernel_rfl) (by kernel_rfl) ?_
        intro x u h
        obtain ⟨n13, n14, n15⟩ := x
        refine c_seq ?_
        refine c_seq ?_
        refine r_start ?_
        refine p 4 ?_
        refine rend ?_
        refine c_or (decide (n15 < (List.length x9 : Int))) (fun q19 => ?_) (fun q19 => ?_)
        · replace h := H.t q19 h
          refine c_skip ?_
          refine c_seq ?_
          refine c_block ?_
          refine c_seq ?_
          refine as_start 12 12 ?_
          refine ap 0 2 ?_
          obtain ⟨y11_2, hy11_2, h⟩ := H.call h
          refine aq 2 rfl (y_idx (e := (eI .i64)) (el := 3) hy11_2 (s_in (i_own 1) hs7_1 hg11)) ?_
          refine aq 3 rfl (y_el (e := (eI .i64)) 0 (.int .i64 y11_2) hy11_2 (s_in (i_own 1) hs7_1 hg11)) ?_
          refine ap 4 2 ?_
          obtain ⟨y11_6, hy11_6, h⟩ := H.call h
          refine a_fact (f_len (i_own 1)) fun hl11_6 => ?_
          obtain ⟨s11_6, hs11_6⟩ := getI_both hl11_6 hy11_6
          refine aq 6 rfl (y_idx (e := eSl) (el := 30) hs11_6 (s_own 0)) ?_
          refine aq 7 rfl (y_el (e := eSl) 0 (.slice s11_6.A s11_6.n s11_6.c) hs11_6 (s_own 0)) ?_
          refine a_fact (f_n (i_own 1) hs11_6 hy11_6) fun he11_7 => ?_
          refine a_set 47 (sl_n he11_7) ?_
          refine ap 8 1 ?_
          obtain ⟨y11_9, hy11_9, h⟩ := H.call h
          refine aq 9 rfl (y_idx (e := (eI .i64)) (el := 3) hy11_9 (s_in (i_own 1) hs11_6 hy11_6)) ?_
          refine aq 10 rfl (y_el (e := (eI .i64)) 0 (.int .i64 y11_9) hy11_9 (s_in (i_own 1) hs11_6 hy11_6)) ?_
          refine ap 11 1 ?_
          refine a_done ?_
          refine c_or (decide (y11_2 > y11_9)) (fun q20 => ?_) (fun q20 => ?_)
          · replace h := H.t q20 h
            refine r_start ?_
            refine p 4 ?_
            refine rend ?_
            refine c_inb ?_
            refine r_start ?_
            refine p 3 ?_
            refine rend ?_
            replace h := H.inl h
            exact h ((j8 : Int), n15, (wr (n15 + 1))) _ _ rfl (by kernel_rfl) (by kernel_rfl)
          replace h := H.f q20 h
          refine c_skip ?_
          refine c_inb ?_
          refine r_start ?_
          refine p 3 ?_
          refine rend ?_
          replace h := H.inl h
          exact h (n13, n14, (wr (n15 + 1))) _ _ rfl (by kernel_rfl) (by kernel_rfl)
        replace h := H.f q19 h
        refine cx ?_
        replace h := H.inr h
        exact hj18 (n13, n14) _ _ h (by kernel_rfl) (by kernel_rfl)
      intro x u h
      obtain ⟨n16, n17⟩ := x
      refine c_inb ?_
      refine r_start ?_
      refine p 2 ?_
      refine rend ?_
      refine c_set 27 (ci hw12) ?_
      replace h := H.inl h
      exact h (n16, n17) _ _ rfl (by kernel_rfl) (by kernel_rfl)
    · intro x u q10 h
      obtain ⟨n3, n4⟩ := x
      refine c_seq ?_
      refine r_start ?_
      refine p 1 ?_
      refine rend ?_
      refine c_seq ?_
      refine c_no q10 ?_
      refine cx ?_
      replace h := H.done h
      exact hj7 (n3, n4) _ _ h (by kernel_rfl) (by kernel_rfl)
  intro x u h
  obtain ⟨n5, n6⟩ := x
  refine c_seq ?_
  refine as_start 13 13 ?_
  refine ap 0 4 ?_
  obtain ⟨y14_4, hy14_4, h⟩ := H.call h
  refine a_fact (f_len (i_own 1)) fun hl14_4 => ?_
  obtain ⟨s14_4, hs14_4⟩ := getI_both hl14_4 hy14_4
  refine aq 4 rfl (y_idx (e := eSl) (el := 30) hs14_4 (s_own 0)) ?_
  refine aq 5 rfl (y_el (e := eSl) 0 (.slice s14_4.A s14_4.n s14_4.c) hs14_4 (s_own 0)) ?_
  refine a_fact (f_n (i_own 1) hs14_4 hy14_4) fun he14_5 => ?_
  refine a_set 60 (sl_n he14_5) ?_
  refine ap 6 1 ?_
  obtain ⟨y14_7, hy14_7, h⟩ := H.call h
  refine aq 7 rfl (y_idx (e := (eI .i64)) (el := 3) hy14_7 (s_in (i_own 1) hs14_4 hy14_4)) ?_
  refine aq 8 rfl (y_el (e := (eI .i64)) 0 (.int .i64 y14_7) hy14_7 (s_in (i_own 1) hs14_4 hy14_4)) ?_
  refine ap 9 4 ?_
  refine a_done ?_
  replace h := H.done h
  subst h
  exact ret func18 rfl (vs := [.int .i64 n5, .int .i64 n6, .int .i64 y14_7, .bool true]) (.tmp (by kernel_rfl) (.tmp (by kernel_rfl) (.tmp (by kernel_rfl) (.tmp (by kernel_rfl) .nil)))) rfl (fun W S => ⟨rfl, S.below⟩)
theorem C.l_FnExactFarthestPair {fu : Nat} {a0 : (List Sign)} {A0 : Option Addr} {k0 : Nat} {r : Bool} (w : World) (h : X.l_FnExactFarthestPair fu a0 = some r) (h0 : RdT nSign w (.slice A0 (List.length a0) k0) a0) : Calls prog 3 #[.slice A0 (List.length a0) k0] w (Ret w (.bool r)) := by
  refine calls (M := no) (args := [.slice A0 (List.length a0) k0]) func3 rfl ?_
  replace h : H (X.l_FnExactFarthestPair fu a0) (fun o => o = r) := H.mk h
  unfold X.l_FnExactFarthestPair at h
  refine c_seq ?_
  refine r_start ?_
  refine p 1 ?_
  refine rend ?_
  refine c_seq ?_
  refine r_start ?_
  refine p 1 ?_
  refine rend ?_
  refine c_seq ?_
  refine r_start ?_
  refine p 2 ?_
  obtain ⟨v2_2, hv2_2, h⟩ := H.call h
  refine xq rfl (y_call [.slice A0 (List.length a0) k0, .int .i64 1048576] (.int .i64 v2_2) func15 (fun W S => C.l_szSignS W hv2_2 ((s_arg h0).out W S))) ?_
  refine p 1 ?_
  refine rend ?_
  refine c_seq ?_
  refine c_seq ?_
  refine r_start ?_
  refine p 2 ?_
  refine rend ?_
  refine c_or (decide (v2_2 < 0)) (fun q1 => ?_) (fun q1 => ?_)
  · replace h := H.t q1 h
    refine c_seq ?_
    refine r_start ?_
    refine p 1 ?_
    refine rend ?_
    replace h := H.done h
    subst h
    exact ret func3 rfl (vs := [.bool true]) (.tmp (by kernel_rfl) .nil) rfl (fun W S => ⟨rfl, S.below⟩)
  replace h := H.f q1 h
  refine c_skip ?_
  refine c_seq ?_
  refine r_start ?_
  refine p 1 ?_
  obtain ⟨v5_1, hv5_1, h⟩ := H.call h
  refine xx rfl (e_cr [.slice A0 (List.length a0) k0] (fun v => v) func17 (fun W S => C.l_toSignS W hv5_1 ((s_arg h0).out W S)) fun A5_1 k5_1 => ?_)
  obtain ⟨v5_2, hv5_2, h⟩ := H.call h
  refine xq rfl (y_call [.slice A5_1 (List.length v5_1) k5_1] (.tuple #[.int .i64 v5_2.1, .int .i64 v5_2.2.1, .int .i64 v5_2.2.2.1, .bool v5_2.2.2.2]) func16 (fun W S => C.s_FarthestPair W hv5_2 ((s_own 0).out W S))) ?_
  refine p 9 ?_
  refine rend ?_
  refine c_seq ?_
  refine r_start ?_
  refine p 1 ?_
  obtain ⟨v6_1, hv6_1, h⟩ := H.call h
  refine xx rfl (e_cr [.slice A0 (List.length a0) k0] (fun v => v) func17 (fun W S => C.l_toSignS W hv6_1 ((s_arg h0).out W S)) fun A6_1 k6_1 => ?_)
  refine p 1 ?_
  refine rend ?_
  refine c_seq ?_
  refine r_start ?_
  refine p 1 ?_
  obtain ⟨v7_1, hv7_1, h⟩ := H.call h
  refine xq rfl (y_call [.slice A6_1 (List.length v6_1) k6_1] (.tuple #[.int .i64 v7_1.1, .int .i64 v7_1.2.1, .int .i64 v7_1.2.2.1, .bool v7_1.2.2.2]) func18 (fun W S => C.i_FarthestPair W hv7_1 ((s_own 1).out W S))) ?_
  refine p 9 ?_
  refine rend ?_
  refine c_seq ?_
  refine c_seq ?_
  refine r_start ?_
  refine p 4 ?_
  refine br (v7_1.1 != v5_2.1) (fun q2 => ?_) (fun q2 => ?_)
  · replace h := H.t q2 h
    refine o_set 38 (congrArg Value.bool q2) ?_
    refine p 14 ?_
    refine rend ?_
    refine c_t (by kernel_rfl) ?_
    refine c_seq ?_
    refine r_start ?_
    refine p 1 ?_
    refine rend ?_
    replace h := H.done h
    subst h
    exact ret func3 rfl (vs := [.bool false]) (.tmp (by kernel_rfl) .nil) rfl (fun W S => ⟨rfl, S.below⟩)
  replace h := H.f q2 h
  refine o_set 38 (congrArg Value.bool q2) ?_
  refine p 5 ?_
  refine br (v7_1.2.1 != v5_2.2.1) (fun q3 => ?_) (fun q3 => ?_)
  · replace h := H.t q3 h
    refine o_set 43 (congrArg Value.bool q3) ?_
    refine p 9 ?_
    refine rend ?_
    refine c_t (by kernel_rfl) ?_
    refine c_seq ?_
    refine r_start ?_
    refine p 1 ?_
    refine rend ?_
    replace h := H.done h
    subst h
    exact ret func3 rfl (vs := [.bool false]) (.tmp (by kernel_rfl) .nil) rfl (fun W S => ⟨rfl, S.below⟩)
  replace h := H.f q3 h
  refine o_set 43 (congrArg Value.bool q3) ?_
  refine p 5 ?_
  refine br (v7_1.2.2.1 != v5_2.2.2.1) (fun q4 => ?_) (fun q4 => ?_)
  · replace h := H.t q4 h
    refine o_set 48 (congrArg Value.bool q4) ?_
    refine p 4 ?_
    refine rend ?_
    refine c_t (by kernel_rfl) ?_
    refine c_seq ?_
    refine r_start ?_
    refine p 1 ?_
    refine rend ?_
    replace h := H.done h
    subst h
    exact ret func3 rfl (vs := [.bool false]) (.tmp (by kernel_rfl) .nil) rfl (fun W S => ⟨rfl, S.below⟩)
  replace h := H.f q4 h
  refine o_set 48 (congrArg Value.bool q4) ?_
  refine p 4 ?_
  refine rend ?_
  refine c_or (!(v7_1.2.2.2 == v5_2.2.2.2)) (fun q5 => ?_) (fun q5 => ?_)
  · replace h := H.t q5 h
    refine c_seq ?_
    refine r_start ?_
    refine p 1 ?_
    refine rend ?_
    replace h := H.done h
    subst h
    exact ret func3 rfl (vs := [.bool false]) (.tmp (by kernel_rfl) .nil) rfl (fun W S => ⟨rfl, S.below⟩)
  replace h := H.f q5 h
  refine c_skip ?_
  refine c_seq ?_
  refine c_seq ?_
  refine r_start ?_
  refine p 2 ?_
  obtain ⟨v10_2, hv10_2, h⟩ := H.call h
  refine xx rfl (e_cr [.slice A0 (List.length a0) k0] (fun v => v) func17 (fun W S => C.l_toSignS W hv10_2 ((s_arg h0).out W S)) fun A10_2 k10_2 => ?_)
  obtain ⟨v10_3, hv10_3, h⟩ := H.call h
  refine xq rfl (y_call [.slice A6_1 (List.length v6_1) k6_1, .slice A10_2 (List.length v10_2) k10_2] (.bool v10_3) func19 (fun W S => C.l_eqSignS W hv10_3 ((s_own 1).out W S) ((s_own 2).out W S))) ?_
  refine p 1 ?_
  refine rend ?_
  refine c_or (!v10_3) (fun q6 => ?_) (fun q6 => ?_)
  · replace h := H.t q6 h
    refine c_seq ?_
    refine r_start ?_
    refine p 1 ?_
    refine rend ?_
    replace h := H.done h
    subst h
    exact ret func3 rfl (vs := [.bool false]) (.tmp (by kernel_rfl) .nil) rfl (fun W S => ⟨rfl, S.below⟩)
  replace h := H.f q6 h
  refine c_skip ?_
  refine c_seq ?_
  refine r_start ?_
  refine p 1 ?_
  refine rend ?_
  replace h := H.done h
  subst h
  exact ret func3 rfl (vs := [.bool true]) (.tmp (by kernel_rfl) .nil) rfl (fun W S => ⟨rfl, S.below⟩)
end Go.Proofs.XC
