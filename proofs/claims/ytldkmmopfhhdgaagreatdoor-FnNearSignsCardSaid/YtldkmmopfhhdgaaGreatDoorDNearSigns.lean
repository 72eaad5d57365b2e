/- Contracts: each function, called where its plain function gives an answer, returns just that answer and changes nothing that was there. By AI agents; no person has read it. -/
import Derived.Test.YtldkmmopfhhdgaaGreatDoorC1
set_option linter.unusedVariables false
set_option linter.unusedSimpArgs false
set_option maxRecDepth 100000
set_option maxHeartbeats 40000000
namespace Go.Proofs.XC
open Go Go.RowKit
open Tryz
theorem C.s_l1Most {a0 : Int} {a1 : Int} {r : Int} (w : World) (h : X.s_l1Most a0 a1 = some r) : Calls prog 105 #[.int .i64 a0, .int .i64 a1] w (Ret w (.int .i64 r)) := by
  refine calls (M := no) (args := [.int .i64 a0, .int .i64 a1]) func105 rfl ?_
  replace h : H (X.s_l1Most a0 a1) (fun o => o = r) := H.mk h
  unfold X.s_l1Most at h
  refine c_seq ?_
  refine r_start ?_
  refine p 1 ?_
  refine rend ?_
  refine c_seq ?_
  refine c_seq ?_
  refine r_start ?_
  refine p 3 ?_
  refine rend ?_
  refine c_or (decide (a0 > a1)) (fun q1 => ?_) (fun q1 => ?_)
  · replace h := H.t q1 h
    refine c_seq ?_
    refine r_start ?_
    refine p 2 ?_
    refine rend ?_
    replace h := H.done h
    subst h
    exact ret func105 rfl (vs := [.int .i64 a0]) (.tmp (by kernel_rfl) .nil) rfl (fun W S => ⟨rfl, S.below⟩)
  replace h := H.f q1 h
  refine c_skip ?_
  refine c_seq ?_
  refine r_start ?_
  refine p 2 ?_
  refine rend ?_
  replace h := H.done h
  subst h
  exact ret func105 rfl (vs := [.int .i64 a1]) (.tmp (by kernel_rfl) .nil) rfl (fun W S => ⟨rfl, S.below⟩)
theorem C.i_stepDistance {a0 : Str} {a1 : Str} {r : Int} (w : World) (h : X.i_stepDistance a0 a1 = some r) : Calls prog 128 #[.string (bs a0), .string (bs a1)] w (Ret w (.int .i64 r)) := by
  refine calls (M := no) (args := [.string (bs a0), .string (bs a1)]) func128 rfl ?_
  replace h : H (X.i_stepDistance a0 a1) (fun o => o = r) := H.mk h
  unfold X.i_stepDistance at h
  refine c_seq ?_
  refine r_start ?_
  refine p 1 ?_
  refine rend ?_
  refine c_seq ?_
  refine r_start ?_
  refine p 3 ?_
  obtain ⟨y1_3, hy1_3, h⟩ := H.call h
  refine xx rfl (e_make (el := 3) hy1_3 fun A1_3 k1_3 => ?_)
  refine p 1 ?_
  refine rend ?_
  refine c_seq ?_
  refine c_seq ?_
  refine r_start ?_
  refine p 3 ?_
  refine rend ?_
  refine c_block ?_
  refine joinH (X := ((List Int) × Option Addr × Nat)) 0 (H.bnd h) (fun ⟨l4, A5, k6⟩ => l4) (fun ⟨l4, A5, k6⟩ => [rowT (eI .i64) w.heap.size 3 (.slice A5 (List.length l4) k6) l4]) (fun ⟨l4, A5, k6⟩ u => (.string (bs a0) :: .string (bs a1) :: (jk u 2 3 (.slice A5 (List.length l4) k6 :: (jk u 6 71 []))))) (fun h hj7 => ?_) ?_
  · skip
    refine rangeR (X := ((List Int) × Option Addr × Nat)) (s_own 0) (fun ⟨l1, A2, k3⟩ => l1) (fun ⟨l1, A2, k3⟩ => [rowT (eI .i64) w.heap.size 3 (.slice A2 (List.length l1) k3) l1]) (fun (j8 : Nat) ⟨l1, A2, k3⟩ u => (.string (bs a0) :: .string (bs a1) :: (jk u 2 3 (.slice A2 (List.length l1) k3 :: (jk u 6 10 (.int .i64 (List.length y1_3 : Int) :: .int .i64 (j8 : Int) :: (jk u 18 59 []))))))) (y1_3, A1_3, k1_3) h (by kernel_rfl) (by kernel_rfl) ?_ ?_
    · intro j8 x u x9 q10 hg11 hw12 h
      obtain ⟨l1, A2, k3⟩ := x
      refine c_seq ?_
      refine r_start ?_
      refine p 1 ?_
      refine rend ?_
      refine c_seq ?_
      refine c_yes q10 ?_
      refine c_skip ?_
      refine c_seq ?_
      refine c_block ?_
      refine c_seq ?_
      refine r_start ?_
      refine p 2 ?_
      refine rend ?_
      refine r_start ?_
      refine p 3 ?_
      obtain ⟨y5_3, hy5_3, h⟩ := H.call h
      refine xq rfl (y_idx (e := (eI .i64)) (el := 3) hy5_3 (s_own 0)) ?_
      refine xx rfl (e_stel (e := (eI .i64)) (b := (j8 : Int)) 0 0 ([.int .i64 (j8 : Int)]) hy5_3 (by kernel_rfl) ?_)
      refine o_set 5 (sl_set (A := A2) (c := k3) (l := l1) (n := Int.toNat (j8 : Int)) (b := (j8 : Int))) ?_
      refine rend ?_
      refine c_inb ?_
      refine r_start ?_
      refine p 2 ?_
      refine rend ?_
      refine c_set 17 (ci hw12) ?_
      replace h := H.inl h
      exact h ((List.set l1 (Int.toNat (j8 : Int)) (j8 : Int)), A2, k3) _ _ rfl (by kernel_rfl) (by kernel_rfl)
    · intro x u q10 h
      obtain ⟨l1, A2, k3⟩ := x
      refine c_seq ?_
      refine r_start ?_
      refine p 1 ?_
      refine rend ?_
      refine c_seq ?_
      refine c_no q10 ?_
      refine cx ?_
      replace h := H.done h
      exact hj7 (l1, A2, k3) _ _ h (by kernel_rfl) (by kernel_rfl)
  intro x u h
  obtain ⟨l4, A5, k6⟩ := x
  refine c_seq ?_
  refine c_seq ?_
  refine r_start ?_
  refine p 3 ?_
  refine rend ?_
  refine c_block ?_
  refine joinH (X := ((List Int) × Option Addr × Nat)) 2 (H.bnd h) (fun ⟨l16, A17, k18⟩ => l16) (fun ⟨l16, A17, k18⟩ => [rowT (eI .i64) w.heap.size 3 (.slice A17 (List.length l16) k18) l16]) (fun ⟨l16, A17, k18⟩ u => (jk u 0 1 (.string (bs a1) :: (jk u 2 3 (.slice A17 (List.length l16) k18 :: (jk u 6 71 [])))))) (fun h hj19 => ?_) ?_
  · skip
    refine rangeNR (X := ((List Int) × Option Addr × Nat)) (fun ⟨l13, A14, k15⟩ => l13) (fun ⟨l13, A14, k15⟩ => [rowT (eI .i64) w.heap.size 3 (.slice A14 (List.length l13) k15) l13]) (fun (j20 : Int) ⟨l13, A14, k15⟩ u => (.string (bs a0) :: .string (bs a1) :: (jk u 2 3 (.slice A14 (List.length l13) k15 :: (jk u 6 20 (.int .i64 (List.length a0 : Int) :: .int .i64 j20 :: (jk u 28 49 []))))))) (l4, A5, k6) h (by kernel_rfl) (by kernel_rfl) ?_ ?_
    · intro j20 x u q21 hw22 h
      obtain ⟨l13, A14, k15⟩ := x
      refine c_seq ?_
      refine r_start ?_
      refine p 1 ?_
      refine rend ?_
      refine c_seq ?_
      refine c_yes q21 ?_
      refine c_skip ?_
      refine c_seq ?_
      refine c_block ?_
      refine c_seq ?_
      refine r_start ?_
      refine p 2 ?_
      refine rend ?_
      refine c_seq ?_
      refine r_start ?_
      refine p 1 ?_
      obtain ⟨y10_1, hy10_1, h⟩ := H.call h
      refine xq rfl (y_idx (e := (eI .i64)) (el := 3) hy10_1 (s_own 0)) ?_
      refine xq rfl (y_el (e := (eI .i64)) 0 (.int .i64 y10_1) hy10_1 (s_own 0)) ?_
      refine p 1 ?_
      refine rend ?_
      refine c_seq ?_
      refine r_start ?_
      refine p 3 ?_
      refine xq rfl (y_idx (e := (eI .i64)) (el := 3) hy10_1 (s_own 0)) ?_
      refine xx rfl (e_stel (e := (eI .i64)) (b := (wr ((j20 : Int) + 1))) 0 0 ([.int .i64 (wr ((j20 : Int) + 1))]) hy10_1 (by kernel_rfl) ?_)
      refine o_set 5 (sl_set (A := A14) (c := k15) (l := l13) (n := Int.toNat 0) (b := (wr ((j20 : Int) + 1)))) ?_
      refine rend ?_
      refine c_seq ?_
      refine r_start ?_
      refine p 3 ?_
      refine rend ?_
      refine c_block ?_
      refine joinH (X := ((List Int) × Option Addr × Nat)) 4 (H.bnd h) (fun ⟨l28, A29, k30⟩ => l28) (fun ⟨l28, A29, k30⟩ => [rowT (eI .i64) w.heap.size 3 (.slice A29 (List.length l28) k30) l28]) (fun ⟨l28, A29, k30⟩ u => (.string (bs a0) :: .string (bs a1) :: (jk u 2 3 (.slice A29 (List.length l28) k30 :: (jk u 6 20 (.int .i64 (List.length a0 : Int) :: .int .i64 (j20 : Int) :: (jk u 28 49 []))))))) (fun h hj31 => ?_) ?_
      · skip
        refine rangeNR (X := (Int × (List Int) × Option Addr × Nat)) (fun ⟨n24, l25, A26, k27⟩ => (n24, l25)) (fun ⟨n24, l25, A26, k27⟩ => [rowT (eI .i64) w.heap.size 3 (.slice A26 (List.length l25) k27) l25]) (fun (j32 : Int) ⟨n24, l25, A26, k27⟩ u => (.string (bs a0) :: .string (bs a1) :: (jk u 2 3 (.slice A26 (List.length l25) k27 :: (jk u 6 1 (.int .i64 (j20 : Int) :: .int .i64 n24 :: (jk u 9 17 (.int .i64 (List.length a0 : Int) :: .int .i64 (j20 : Int) :: (jk u 28 10 (.int .i64 (List.length a1 : Int) :: .int .i64 j32 :: (jk u 40 37 []))))))))))) (y10_1, (List.set l13 (Int.toNat 0) (wr ((j20 : Int) + 1))), A14, k15) h (by kernel_rfl) (by kernel_rfl) ?_ ?_
        · intro j32 x u q33 hw34 h
          obtain ⟨n24, l25, A26, k27⟩ := x
          refine c_seq ?_
          refine r_start ?_
          refine p 1 ?_
          refine rend ?_
          refine c_seq ?_
          refine c_yes q33 ?_
          refine c_skip ?_
          refine c_seq ?_
          refine c_block ?_
          refine c_seq ?_
          refine r_start ?_
          refine p 2 ?_
          refine rend ?_
          refine frg (fun u => (.string (bs a0) :: .string (bs a1) :: (jk u 2 3 (.slice A26 (List.length l25) k27 :: (jk u 6 1 (.int .i64 (j20 : Int) :: .int .i64 n24 :: .int .i64 (j32 : Int) :: (jk u 10 16 (.int .i64 (List.length a0 : Int) :: .int .i64 (j20 : Int) :: (jk u 28 10 (.int .i64 (List.length a1 : Int) :: .int .i64 (j32 : Int) :: (jk u 40 37 []))))))))))) (by kernel_rfl) fun u => ?_
          refine keep 1 (its' := [rowT (eI .i64) w.heap.size 3 (.slice A26 (List.length l25) k27) l25]) (by kernel_rfl) ?_
          refine c_seq ?_
          refine r_start ?_
          refine p 2 ?_
          refine rend ?_
          refine c_seq ?_
          refine c_seq ?_
          refine as_start 7 7 ?_
          refine ap 0 2 ?_
          obtain ⟨y16_2, hy16_2, h⟩ := H.call h
          refine aq 2 rfl (y_byte hy16_2) ?_
          refine ap 3 2 ?_
          obtain ⟨y16_5, hy16_5, h⟩ := H.call h
          refine aq 5 rfl (y_byte hy16_5) ?_
          refine ap 6 1 ?_
          refine a_done ?_
          refine c_or (y16_2 != y16_5) (fun q36 => ?_) (fun q36 => ?_)
          · replace h := H.t q36 h
            refine r_start ?_
            refine p 3 ?_
            refine rend ?_
            refine c_seq ?_
            refine r_start ?_
            refine p 3 ?_
            obtain ⟨y18_3, hy18_3, h⟩ := H.call h
            refine xq rfl (y_idx (e := (eI .i64)) (el := 3) hy18_3 (s_own 0)) ?_
            refine xq rfl (y_el (e := (eI .i64)) 0 (.int .i64 y18_3) hy18_3 (s_own 0)) ?_
            refine p 1 ?_
            refine rend ?_
            refine r_start ?_
            refine p 6 ?_
            obtain ⟨y19_6, hy19_6, h⟩ := H.call h
            refine xq rfl (y_idx (e := (eI .i64)) (el := 3) hy19_6 (s_own 0)) ?_
            refine xq rfl (y_el (e := (eI .i64)) 0 (.int .i64 y19_6) hy19_6 (s_own 0)) ?_
            refine p 4 ?_
            refine xq rfl (y_idx (e := (eI .i64)) (el := 3) hy18_3 (s_own 0)) ?_
            refine xx rfl (e_stel (e := (eI .i64)) (b := (if (wr (y18_3 + 1)) < (if (wr (y19_6 + 1)) < (wr (n24 + 1)) then (wr (y19_6 + 1)) else (wr (n24 + 1))) then (wr (y18_3 + 1)) else (if (wr (y19_6 + 1)) < (wr (n24 + 1)) then (wr (y19_6 + 1)) else (wr (n24 + 1))))) 0 0 ([.int .i64 (if (wr (y18_3 + 1)) < (if (wr (y19_6 + 1)) < (wr (n24 + 1)) then (wr (y19_6 + 1)) else (wr (n24 + 1))) then (wr (y18_3 + 1)) else (if (wr (y19_6 + 1)) < (wr (n24 + 1)) then (wr (y19_6 + 1)) else (wr (n24 + 1))))]) hy18_3 (by kernel_rfl) ?_)
            refine o_set 5 (sl_set (A := A26) (c := k27) (l := l25) (n := Int.toNat (wr ((j32 : Int) + 1))) (b := (if (wr (y18_3 + 1)) < (if (wr (y19_6 + 1)) < (wr (n24 + 1)) then (wr (y19_6 + 1)) else (wr (n24 + 1))) then (wr (y18_3 + 1)) else (if (wr (y19_6 + 1)) < (wr (n24 + 1)) then (wr (y19_6 + 1)) else (wr (n24 + 1)))))) ?_
            refine rend ?_
            refine c_inb ?_
            refine r_start ?_
            refine p 2 ?_
            refine rend ?_
            refine c_set 39 (ci hw34) ?_
            replace h := H.inl h
            exact h (y18_3, (List.set l25 (Int.toNat (wr ((j32 : Int) + 1))) (if (wr (y18_3 + 1)) < (if (wr (y19_6 + 1)) < (wr (n24 + 1)) then (wr (y19_6 + 1)) else (wr (n24 + 1))) then (wr (y18_3 + 1)) else (if (wr (y19_6 + 1)) < (wr (n24 + 1)) then (wr (y19_6 + 1)) else (wr (n24 + 1))))), A26, k27) _ _ rfl (by kernel_rfl) (by kernel_rfl)
          replace h := H.f q36 h
          refine c_skip ?_
          refine c_seq ?_
          refine r_start ?_
          refine p 3 ?_
          obtain ⟨y18_3, hy18_3, h⟩ := H.call h
          refine xq rfl (y_idx (e := (eI .i64)) (el := 3) hy18_3 (s_own 0)) ?_
          refine xq rfl (y_el (e := (eI .i64)) 0 (.int .i64 y18_3) hy18_3 (s_own 0)) ?_
          refine p 1 ?_
          refine rend ?_
          refine r_start ?_
          refine p 6 ?_
          obtain ⟨y19_6, hy19_6, h⟩ := H.call h
          refine xq rfl (y_idx (e := (eI .i64)) (el := 3) hy19_6 (s_own 0)) ?_
          refine xq rfl (y_el (e := (eI .i64)) 0 (.int .i64 y19_6) hy19_6 (s_own 0)) ?_
          refine p 4 ?_
          refine xq rfl (y_idx (e := (eI .i64)) (el := 3) hy18_3 (s_own 0)) ?_
          refine xx rfl (e_stel (e := (eI .i64)) (b := (if (wr (y18_3 + 1)) < (if (wr (y19_6 + 1)) < n24 then (wr (y19_6 + 1)) else n24) then (wr (y18_3 + 1)) else (if (wr (y19_6 + 1)) < n24 then (wr (y19_6 + 1)) else n24))) 0 0 ([.int .i64 (if (wr (y18_3 + 1)) < (if (wr (y19_6 + 1)) < n24 then (wr (y19_6 + 1)) else n24) then (wr (y18_3 + 1)) else (if (wr (y19_6 + 1)) < n24 then (wr (y19_6 + 1)) else n24))]) hy18_3 (by kernel_rfl) ?_)
          refine o_set 5 (sl_set (A := A26) (c := k27) (l := l25) (n := Int.toNat (wr ((j32 : Int) + 1))) (b := (if (wr (y18_3 + 1)) < (if (wr (y19_6 + 1)) < n24 then (wr (y19_6 + 1)) else n24) then (wr (y18_3 + 1)) else (if (wr (y19_6 + 1)) < n24 then (wr (y19_6 + 1)) else n24)))) ?_
          refine rend ?_
          refine c_inb ?_
          refine r_start ?_
          refine p 2 ?_
          refine rend ?_
          refine c_set 39 (ci hw34) ?_
          replace h := H.inl h
          exact h (y18_3, (List.set l25 (Int.toNat (wr ((j32 : Int) + 1))) (if (wr (y18_3 + 1)) < (if (wr (y19_6 + 1)) < n24 then (wr (y19_6 + 1)) else n24) then (wr (y18_3 + 1)) else (if (wr (y19_6 + 1)) < n24 then (wr (y19_6 + 1)) else n24))), A26, k27) _ _ rfl (by kernel_rfl) (by kernel_rfl)
        · intro j35 x u q33 h
          obtain ⟨n24, l25, A26, k27⟩ := x
          refine c_seq ?_
          refine r_start ?_
          refine p 1 ?_
          refine rend ?_
          refine c_seq ?_
          refine c_no q33 ?_
          refine cx ?_
          replace h := H.done h
          exact hj31 (l25, A26, k27) _ _ h (by kernel_rfl) (by kernel_rfl)
      intro x u h
      obtain ⟨l28, A29, k30⟩ := x
      refine c_inb ?_
      refine r_start ?_
      refine p 2 ?_
      refine rend ?_
      refine c_set 27 (ci hw22) ?_
      replace h := H.inl h
      exact h (l28, A29, k30) _ _ rfl (by kernel_rfl) (by kernel_rfl)
    · intro j23 x u q21 h
      obtain ⟨l13, A14, k15⟩ := x
      refine c_seq ?_
      refine r_start ?_
      refine p 1 ?_
      refine rend ?_
      refine c_seq ?_
      refine c_no q21 ?_
      refine cx ?_
      replace h := H.done h
      exact hj19 (l13, A14, k15) _ _ h (by kernel_rfl) (by kernel_rfl)
  intro x u h
  obtain ⟨l16, A17, k18⟩ := x
  refine c_seq ?_
  refine r_start ?_
  refine p 3 ?_
  obtain ⟨y22_3, hy22_3, h⟩ := H.call h
  refine xq rfl (y_idx (e := (eI .i64)) (el := 3) hy22_3 (s_own 0)) ?_
  refine xq rfl (y_el (e := (eI .i64)) 0 (.int .i64 y22_3) hy22_3 (s_own 0)) ?_
  refine p 1 ?_
  refine rend ?_
  replace h := H.done h
  subst h
  exact ret func128 rfl (vs := [.int .i64 y22_3]) (.tmp (by kernel_rfl) .nil) rfl (fun W S => ⟨rfl, S.below⟩)
theorem C.i_distance {a0 : Int} {a1 : Int} {r : Int} (w : World) (h : X.i_distance a0 a1 = some r) : Calls prog 233 #[.int .i64 a0, .int .i64 a1] w (Ret w (.int .i64 r)) := by
  refine calls (M := no) (args := [.int .i64 a0, .int .i64 a1]) func233 rfl ?_
  replace h : H (X.i_distance a0 a1) (fun o => o = r) := H.mk h
  unfold X.i_distance at h
  refine c_seq ?_
  refine r_start ?_
  refine p 1 ?_
  refine rend ?_
  refine c_seq ?_
  refine r_start ?_
  refine p 8 ?_
  refine rend ?_
  replace h := H.done h
  subst h
  exact ret func233 rfl (vs := [.int .i64 (if (wr (a1 - a0)) > (wr (a0 - a1)) then (wr (a1 - a0)) else (wr (a0 - a1)))]) (.tmp (by kernel_rfl) .nil) rfl (fun W S => ⟨rfl, S.below⟩)
theorem C.i_Shape_distance {a0 : Shape} {a1 : Shape} {r : Int} (w : World) (h : X.i_Shape_distance a0 a1 = some r) : Calls prog 197 #[.agg (eShape a0).toArray, .agg (eShape a1).toArray] w (Ret w (.int .i64 r)) := by
  refine calls (M := no) (args := [.agg (eShape a0).toArray, .agg (eShape a1).toArray]) func197 rfl ?_
  replace h : H (X.i_Shape_distance a0 a1) (fun o => o = r) := H.mk h
  unfold X.i_Shape_distance at h
  refine c_seq ?_
  refine r_start ?_
  refine xx rfl (x_box (eShape a0) fun g0_0 => ?_)
  refine xx rfl (x_box (eShape a1) fun g0_1 => ?_)
  refine p 1 ?_
  refine rend ?_
  refine c_seq ?_
  refine r_start ?_
  refine p 1 ?_
  refine rend ?_
  refine c_seq ?_
  refine c_seq ?_
  refine r_start ?_
  refine xq rfl (y_load (.agg (eShape a0).toArray) 0 g0_0 0) ?_
  obtain ⟨v2_1, hv2_1, h⟩ := H.call h
  refine xx rfl (e_cr [.agg (eShape a0).toArray] (fun v => v) func171 (fun W S => C.i_Shape_bends W hv2_1) fun A2_1 k2_1 => ?_)
  refine p 2 ?_
  refine rend ?_
  refine c_block ?_
  refine joinH (X := Int) 0 (H.bnd h) (fun (x : Int) => x) (fun n2 => [box g0_0 25 (eShape a0), box g0_1 25 (eShape a1), rowT (eI .i64) w.heap.size 3 (.slice A2_1 (List.length v2_1) k2_1) v2_1]) (fun n2 u => (jk u 0 2 (.pointer (some ⟨g0_0, 0, none⟩) :: .pointer (some ⟨g0_1, 0, none⟩) :: (jk u 4 1 (.int .i64 n2 :: (jk u 6 35 [])))))) (fun h hj3 => ?_) ?_
  · skip
    refine rangeR (X := Int) (s_own 2) (fun (x : Int) => x) (fun n1 => [box g0_0 25 (eShape a0), box g0_1 25 (eShape a1), rowT (eI .i64) w.heap.size 3 (.slice A2_1 (List.length v2_1) k2_1) v2_1]) (fun (j4 : Nat) n1 u => (jk u 0 2 (.pointer (some ⟨g0_0, 0, none⟩) :: .pointer (some ⟨g0_1, 0, none⟩) :: (jk u 4 1 (.int .i64 n1 :: (jk u 6 3 (.slice A2_1 (List.length v2_1) k2_1 :: .int .i64 (List.length v2_1 : Int) :: .int .i64 (j4 : Int) :: (jk u 12 29 [])))))))) 0 h (by kernel_rfl) (by kernel_rfl) ?_ ?_
    · intro j4 n1 u x5 q6 hg7 hw8 h
      refine c_seq ?_
      refine r_start ?_
      refine p 1 ?_
      refine rend ?_
      refine c_seq ?_
      refine c_yes q6 ?_
      refine c_skip ?_
      refine c_seq ?_
      refine c_block ?_
      refine c_seq ?_
      refine r_start ?_
      refine p 1 ?_
      refine xq rfl (y_idx (e := (eI .i64)) (el := 3) hg7 (s_own 2)) ?_
      refine xq rfl (y_el (e := (eI .i64)) 0 (.int .i64 x5) hg7 (s_own 2)) ?_
      refine p 2 ?_
      refine rend ?_
      refine r_start ?_
      refine p 2 ?_
      refine xq rfl (y_load (.agg (eShape a1).toArray) 1 g0_1 0) ?_
      obtain ⟨v5_3, hv5_3, h⟩ := H.call h
      refine xx rfl (e_cr [.agg (eShape a1).toArray] (fun v => v) func171 (fun W S => C.i_Shape_bends W hv5_3) fun A5_3 k5_3 => ?_)
      refine p 1 ?_
      obtain ⟨y5_5, hy5_5, h⟩ := H.call h
      refine xq rfl (y_idx (e := (eI .i64)) (el := 3) hy5_5 (s_own 3)) ?_
      refine xq rfl (y_el (e := (eI .i64)) 0 (.int .i64 y5_5) hy5_5 (s_own 3)) ?_
      obtain ⟨v5_7, hv5_7, h⟩ := H.call h
      refine xq rfl (y_call [.int .i64 x5, .int .i64 y5_5] (.int .i64 v5_7) func233 (fun W S => C.i_distance W hv5_7)) ?_
      refine p 2 ?_
      refine rend ?_
      refine c_inb ?_
      refine r_start ?_
      refine p 2 ?_
      refine rend ?_
      refine c_set 11 (ci hw8) ?_
      replace h := H.inl h
      exact h (wr (n1 + v5_7)) _ _ rfl (by kernel_rfl) (by kernel_rfl)
    · intro n1 u q6 h
      refine c_seq ?_
      refine r_start ?_
      refine p 1 ?_
      refine rend ?_
      refine c_seq ?_
      refine c_no q6 ?_
      refine cx ?_
      replace h := H.done h
      exact hj3 n1 _ _ h (by kernel_rfl) (by kernel_rfl)
  intro n2 u h
  refine c_seq ?_
  refine c_seq ?_
  refine r_start ?_
  refine p 1 ?_
  refine xq rfl (y_load (.int .i64 a0.Thumb) 0 g0_0 0) ?_
  refine p 1 ?_
  refine xq rfl (y_load (.int .i64 a1.Thumb) 1 g0_1 0) ?_
  refine p 1 ?_
  refine rend ?_
  refine c_or (a0.Thumb != a1.Thumb) (fun q9 => ?_) (fun q9 => ?_)
  · replace h := H.t q9 h
    refine r_start ?_
    refine p 3 ?_
    refine rend ?_
    refine c_seq ?_
    refine c_seq ?_
    refine r_start ?_
    refine p 1 ?_
    refine xq rfl (y_load (.bool a0.Spread) 0 g0_0 5) ?_
    refine p 1 ?_
    refine xq rfl (y_load (.bool a1.Spread) 1 g0_1 5) ?_
    refine p 1 ?_
    refine rend ?_
    refine c_or (!(a0.Spread == a1.Spread)) (fun q10 => ?_) (fun q10 => ?_)
    · replace h := H.t q10 h
      refine r_start ?_
      refine p 3 ?_
      refine rend ?_
      refine c_seq ?_
      refine r_start ?_
      refine p 2 ?_
      refine rend ?_
      replace h := H.done h
      subst h
      exact ret func197 rfl (vs := [.int .i64 (wr ((wr (n2 + 1)) + 1))]) (.tmp (by kernel_rfl) .nil) rfl (fun W S => ⟨rfl, S.below⟩)
    replace h := H.f q10 h
    refine c_skip ?_
    refine c_seq ?_
    refine r_start ?_
    refine p 2 ?_
    refine rend ?_
    replace h := H.done h
    subst h
    exact ret func197 rfl (vs := [.int .i64 (wr (n2 + 1))]) (.tmp (by kernel_rfl) .nil) rfl (fun W S => ⟨rfl, S.below⟩)
  replace h := H.f q9 h
  refine c_skip ?_
  refine c_seq ?_
  refine c_seq ?_
  refine r_start ?_
  refine p 1 ?_
  refine xq rfl (y_load (.bool a0.Spread) 0 g0_0 5) ?_
  refine p 1 ?_
  refine xq rfl (y_load (.bool a1.Spread) 1 g0_1 5) ?_
  refine p 1 ?_
  refine rend ?_
  refine c_or (!(a0.Spread == a1.Spread)) (fun q11 => ?_) (fun q11 => ?_)
  · replace h := H.t q11 h
    refine r_start ?_
    refine p 3 ?_
    refine rend ?_
    refine c_seq ?_
    refine r_start ?_
    refine p 2 ?_
    refine rend ?_
    replace h := H.done h
    subst h
    exact ret func197 rfl (vs := [.int .i64 (wr (n2 + 1))]) (.tmp (by kernel_rfl) .nil) rfl (fun W S => ⟨rfl, S.below⟩)
  replace h := H.f q11 h
  refine c_skip ?_
  refine c_seq ?_
  refine r_start ?_
  refine p 2 ?_
  refine rend ?_
  replace h := H.done h
  subst h
  exact ret func197 rfl (vs := [.int .i64 n2]) (.tmp (by kernel_rfl) .nil) rfl (fun W S => ⟨rfl, S.below⟩)
theorem C.i_Place_distance {a0 : Place} {a1 : Place} {r : Int} (w : World) (h : X.i_Place_distance a0 a1 = some r) : Calls prog 198 #[.agg (ePlace a0).toArray, .agg (ePlace a1).toArray] w (Ret w (.int .i64 r)) := by
  refine calls (M := no) (args := [.agg (ePlace a0).toArray, .agg (ePlace a1).toArray]) func198 rfl ?_
  replace h : H (X.i_Place_distance a0 a1) (fun o => o = r) := H.mk h
  unfold X.i_Place_distance at h
  refine c_seq ?_
  refine r_start ?_
  refine xx rfl (x_box (ePlace a0) fun g0_0 => ?_)
  refine xx rfl (x_box (ePlace a1) fun g0_1 => ?_)
  refine p 1 ?_
  refine rend ?_
  refine c_seq ?_
  refine r_start ?_
  refine p 1 ?_
  refine xq rfl (y_load (.int .i64 a0.Side) 0 g0_0 1) ?_
  refine p 1 ?_
  refine xq rfl (y_load (.int .i64 a1.Side) 1 g0_1 1) ?_
  obtain ⟨v1_4, hv1_4, h⟩ := H.call h
  refine xq rfl (y_call [.int .i64 a0.Side, .int .i64 a1.Side] (.int .i64 v1_4) func233 (fun W S => C.i_distance W hv1_4)) ?_
  refine p 1 ?_
  refine rend ?_
  refine c_seq ?_
  refine c_seq ?_
  refine r_start ?_
  refine p 1 ?_
  refine xq rfl (y_load (.bool a0.Contact) 0 g0_0 2) ?_
  refine p 1 ?_
  refine xq rfl (y_load (.bool a1.Contact) 1 g0_1 2) ?_
  refine p 1 ?_
  refine rend ?_
  refine c_or (!(a0.Contact == a1.Contact)) (fun q1 => ?_) (fun q1 => ?_)
  · replace h := H.t q1 h
    refine r_start ?_
    refine p 3 ?_
    refine rend ?_
    refine c_seq ?_
    refine c_seq ?_
    refine r_start ?_
    refine p 1 ?_
    refine xq rfl (y_load (.int .i64 a0.Region) 0 g0_0 0) ?_
    refine p 2 ?_
    refine xq rfl (y_load (.int .i64 a1.Region) 1 g0_1 0) ?_
    refine p 2 ?_
    refine rend ?_
    refine c_or (!((a0.Region == 0) == (a1.Region == 0))) (fun q2 => ?_) (fun q2 => ?_)
    · replace h := H.t q2 h
      refine c_seq ?_
      refine r_start ?_
      refine p 3 ?_
      refine rend ?_
      replace h := H.done h
      subst h
      exact ret func198 rfl (vs := [.int .i64 (wr ((wr (v1_4 + 1)) + 4))]) (.tmp (by kernel_rfl) .nil) rfl (fun W S => ⟨rfl, S.below⟩)
    replace h := H.f q2 h
    refine c_skip ?_
    refine c_seq ?_
    refine r_start ?_
    refine p 2 ?_
    refine xq rfl (y_load (.int .i64 a0.Region) 0 g0_0 0) ?_
    refine p 1 ?_
    refine xq rfl (y_load (.int .i64 a1.Region) 1 g0_1 0) ?_
    obtain ⟨v6_5, hv6_5, h⟩ := H.call h
    refine xq rfl (y_call [.int .i64 a0.Region, .int .i64 a1.Region] (.int .i64 v6_5) func233 (fun W S => C.i_distance W hv6_5)) ?_
    refine p 2 ?_
    refine rend ?_
    replace h := H.done h
    subst h
    exact ret func198 rfl (vs := [.int .i64 (wr ((wr (v1_4 + 1)) + v6_5))]) (.tmp (by kernel_rfl) .nil) rfl (fun W S => ⟨rfl, S.below⟩)
  replace h := H.f q1 h
  refine c_skip ?_
  refine c_seq ?_
  refine c_seq ?_
  refine r_start ?_
  refine p 1 ?_
  refine xq rfl (y_load (.int .i64 a0.Region) 0 g0_0 0) ?_
  refine p 2 ?_
  refine xq rfl (y_load (.int .i64 a1.Region) 1 g0_1 0) ?_
  refine p 2 ?_
  refine rend ?_
  refine c_or (!((a0.Region == 0) == (a1.Region == 0))) (fun q3 => ?_) (fun q3 => ?_)
  · replace h := H.t q3 h
    refine c_seq ?_
    refine r_start ?_
    refine p 3 ?_
    refine rend ?_
    replace h := H.done h
    subst h
    exact ret func198 rfl (vs := [.int .i64 (wr (v1_4 + 4))]) (.tmp (by kernel_rfl) .nil) rfl (fun W S => ⟨rfl, S.below⟩)
  replace h := H.f q3 h
  refine c_skip ?_
  refine c_seq ?_
  refine r_start ?_
  refine p 2 ?_
  refine xq rfl (y_load (.int .i64 a0.Region) 0 g0_0 0) ?_
  refine p 1 ?_
  refine xq rfl (y_load (.int .i64 a1.Region) 1 g0_1 0) ?_
  obtain ⟨v6_5, hv6_5, h⟩ := H.call h
  refine xq rfl (y_call [.int .i64 a0.Region, .int .i64 a1.Region] (.int .i64 v6_5) func233 (fun W S => C.i_distance W hv6_5)) ?_
  refine p 2 ?_
  refine rend ?_
  replace h := H.done h
  subst h
  exact ret func198 rfl (vs := [.int .i64 (wr (v1_4 + v6_5))]) (.tmp (by kernel_rfl) .nil) rfl (fun W S => ⟨rfl, S.below⟩)
theorem C.i_Hand_distance {a0 : Hand} {a1 : Hand} {r : Int} (w : World) (h : X.i_Hand_distance a0 a1 = some r) : Calls prog 125 #[.agg (eHand a0).toArray, .agg (eHand a1).toArray] w (Ret w (.int .i64 r)) := by
  refine calls (M := no) (args := [.agg (eHand a0).toArray, .agg (eHand a1).toArray]) func125 rfl ?_
  replace h : H (X.i_Hand_distance a0 a1) (fun o => o = r) := H.mk h
  unfold X.i_Hand_distance at h
  refine c_seq ?_
  refine r_start ?_
  refine xx rfl (x_box (eHand a0) fun g0_0 => ?_)
  refine xx rfl (x_box (eHand a1) fun g0_1 => ?_)
  refine p 1 ?_
  refine rend ?_
  refine c_seq ?_
  refine as_start 20 20 ?_
  refine ap 0 1 ?_
  refine aq 1 rfl (y_load (.agg (eShape a0.Shape).toArray) 0 g0_0 0) ?_
  refine ap 2 1 ?_
  refine aq 3 rfl (y_load (.agg (eShape a1.Shape).toArray) 1 g0_1 0) ?_
  obtain ⟨v1_4, hv1_4, h⟩ := H.call h
  refine aq 4 rfl (y_call [.agg (eShape a0.Shape).toArray, .agg (eShape a1.Shape).toArray] (.int .i64 v1_4) func197 (fun W S => C.i_Shape_distance W hv1_4)) ?_
  refine ap 5 1 ?_
  refine aq 6 rfl (y_load (.agg (ePlace a0.Place).toArray) 0 g0_0 8) ?_
  refine ap 7 1 ?_
  refine aq 8 rfl (y_load (.agg (ePlace a1.Place).toArray) 1 g0_1 8) ?_
  obtain ⟨v1_9, hv1_9, h⟩ := H.call h
  refine aq 9 rfl (y_call [.agg (ePlace a0.Place).toArray, .agg (ePlace a1.Place).toArray] (.int .i64 v1_9) func198 (fun W S => C.i_Place_distance W hv1_9)) ?_
  refine ap 10 2 ?_
  refine aq 12 rfl (y_load (.agg (eMove a0.Move).toArray) 0 g0_0 11) ?_
  obtain ⟨v1_13, hv1_13, h⟩ := H.call h
  refine aq 13 rfl (y_call [.agg (eMove a0.Move).toArray] (.string (bs v1_13)) func107 (fun W S => C.i_Move_all W hv1_13)) ?_
  refine ap 14 1 ?_
  refine aq 15 rfl (y_load (.agg (eMove a1.Move).toArray) 1 g0_1 11) ?_
  obtain ⟨v1_16, hv1_16, h⟩ := H.call h
  refine aq 16 rfl (y_call [.agg (eMove a1.Move).toArray] (.string (bs v1_16)) func107 (fun W S => C.i_Move_all W hv1_16)) ?_
  obtain ⟨v1_17, hv1_17, h⟩ := H.call h
  refine aq 17 rfl (y_call [.string (bs v1_13), .string (bs v1_16)] (.int .i64 v1_17) func128 (fun W S => C.i_stepDistance W hv1_17)) ?_
  refine ap 18 2 ?_
  refine a_done ?_
  refine c_seq ?_
  refine c_seq ?_
  refine r_start ?_
  refine p 2 ?_
  refine xq rfl (y_load (.int .i64 a0.Orient.Palm) 0 g0_0 6) ?_
  refine p 2 ?_
  refine xq rfl (y_load (.int .i64 a1.Orient.Palm) 1 g0_1 6) ?_
  refine p 1 ?_
  refine rend ?_
  refine c_or (a0.Orient.Palm != a1.Orient.Palm) (fun q1 => ?_) (fun q1 => ?_)
  · replace h := H.t q1 h
    refine r_start ?_
    refine p 3 ?_
    refine rend ?_
    refine c_seq ?_
    refine c_seq ?_
    refine r_start ?_
    refine p 2 ?_
    refine xq rfl (y_load (.int .i64 a0.Orient.Fingers) 0 g0_0 7) ?_
    refine p 2 ?_
    refine xq rfl (y_load (.int .i64 a1.Orient.Fingers) 1 g0_1 7) ?_
    refine p 1 ?_
    refine rend ?_
    refine c_or (a0.Orient.Fingers != a1.Orient.Fingers) (fun q2 => ?_) (fun q2 => ?_)
    · replace h := H.t q2 h
      refine r_start ?_
      refine p 3 ?_
      refine rend ?_
      refine c_seq ?_
      refine r_start ?_
      refine p 2 ?_
      refine rend ?_
      replace h := H.done h
      subst h
      exact ret func125 rfl (vs := [.int .i64 (wr ((wr ((wr ((wr (v1_4 + v1_9)) + v1_17)) + 1)) + 1))]) (.tmp (by kernel_rfl) .nil) rfl (fun W S => ⟨rfl, S.below⟩)
    replace h := H.f q2 h
    refine c_skip ?_
    refine c_seq ?_
    refine r_start ?_
    refine p 2 ?_
    refine rend ?_
    replace h := H.done h
    subst h
    exact ret func125 rfl (vs := [.int .i64 (wr ((wr ((wr (v1_4 + v1_9)) + v1_17)) + 1))]) (.tmp (by kernel_rfl) .nil) rfl (fun W S => ⟨rfl, S.below⟩)
  replace h := H.f q1 h
  refine c_skip ?_
  refine c_seq ?_
  refine c_seq ?_
  refine r_start ?_
  refine p 2 ?_
  refine xq rfl (y_load (.int .i64 a0.Orient.Fingers) 0 g0_0 7) ?_
  refine p 2 ?_
  refine xq rfl (y_load (.int .i64 a1.Orient.Fingers) 1 g0_1 7) ?_
  refine p 1 ?_
  refine rend ?_
  refine c_or (a0.Orient.Fingers != a1.Orient.Fingers) (fun q3 => ?_) (fun q3 => ?_)
  · replace h := H.t q3 h
    refine r_start ?_
    refine p 3 ?_
    refine rend ?_
    refine c_seq ?_
    refine r_start ?_
    refine p 2 ?_
    refine rend ?_
    replace h := H.done h
    subst h
    exact ret func125 rfl (vs := [.int .i64 (wr ((wr ((wr (v1_4 + v1_9)) + v1_17)) + 1))]) (.tmp (by kernel_rfl) .nil) rfl (fun W S => ⟨rfl, S.below⟩)
  replace h := H.f q3 h
  refine c_skip ?_
  refine c_seq ?_
  refine r_start ?_
  refine p 2 ?_
  refine rend ?_
  replace h := H.done h
  subst h
  exact ret func125 rfl (vs := [.int .i64 (wr ((wr (v1_4 + v1_9)) + v1_17))]) (.tmp (by kernel_rfl) .nil) rfl (fun W S => ⟨rfl, S.below⟩)
theorem C.i_Sign_distance {fu : Nat} {a0 : Sign} {a1 : Sign} {r : Int} (w : World) (h : X.i_Sign_distance fu a0 a1 = some r) : Calls prog 118 #[.agg (eSign a0).toArray, .agg (eSign a1).toArray] w (Ret w (.int .i64 r)) := by
  refine calls (M := no) (args := [.agg (eSign a0).toArray, .agg (eSign a1).toArray]) func118 rfl ?_
  replace h : H (X.i_Sign_distance fu a0 a1) (fun o => o = r) := H.mk h
  unfold X.i_Sign_distance at h
  refine c_seq ?_
  refine r_start ?_
  refine xx rfl (x_box (eSign a0) fun g0_0 => ?_)
  refine xx rfl (x_box (eSign a1) fun g0_1 => ?_)
  refine p 1 ?_
  refine rend ?_
  refine c_seq ?_
  refine as_start 4 6 ?_
  refine aq 0 rfl (y_load (.agg (eSign a0).toArray) 0 g0_0 0) ?_
  obtain ⟨v1_1, hv1_1, h⟩ := H.call h
  refine aq 1 rfl (y_call [.agg (eSign a0).toArray] (.agg (eSign v1_1).toArray) func121 (fun W S => C.i_Sign_normal W hv1_1)) ?_
  refine aq 2 rfl (y_load (.agg (eSign a1).toArray) 1 g0_1 0) ?_
  obtain ⟨v1_3, hv1_3, h⟩ := H.call h
  refine aq 3 rfl (y_call [.agg (eSign a1).toArray] (.agg (eSign v1_3).toArray) func121 (fun W S => C.i_Sign_normal W hv1_3)) ?_
  refine ax 4 rfl (x_sto 0 g0_0 0 (eSign v1_1) ⟨.inl (by kernel_rfl), ?_⟩)
  refine ax 5 rfl (x_sto 1 g0_1 0 (eSign v1_3) ⟨.inl (by kernel_rfl), ?_⟩)
  refine a_done ?_
  refine c_seq ?_
  refine r_start ?_
  refine p 1 ?_
  refine xq rfl (y_load (.agg (eHand v1_1.Main).toArray) 0 g0_0 0) ?_
  refine p 1 ?_
  refine xq rfl (y_load (.agg (eHand v1_3.Main).toArray) 1 g0_1 0) ?_
  obtain ⟨v2_4, hv2_4, h⟩ := H.call h
  refine xq rfl (y_call [.agg (eHand v1_1.Main).toArray, .agg (eHand v1_3.Main).toArray] (.int .i64 v2_4) func125 (fun W S => C.i_Hand_distance W hv2_4)) ?_
  refine p 1 ?_
  refine rend ?_
  refine c_seq ?_
  refine c_block ?_
  refine c_seq ?_
  refine r_start ?_
  refine p 1 ?_
  refine xq rfl (y_load (.bool v1_1.Two) 0 g0_0 13) ?_
  refine p 1 ?_
  refine br v1_1.Two (fun q1 => ?_) (fun q1 => ?_)
  · replace h := H.t q1 h
    refine o_set 18 (congrArg Value.bool q1) ?_
    refine p 1 ?_
    refine xq rfl (y_load (.bool v1_3.Two) 1 g0_1 13) ?_
    refine p 2 ?_
    refine rend ?_
    refine c_or v1_3.Two (fun q2 => ?_) (fun q2 => ?_)
    · replace h := H.t q2 h
      refine r_start ?_
      refine p 2 ?_
      refine xq rfl (y_load (.agg (eHand v1_1.Other).toArray) 0 g0_0 14) ?_
      refine p 1 ?_
      refine xq rfl (y_load (.agg (eHand v1_3.Other).toArray) 1 g0_1 14) ?_
      obtain ⟨v4_5, hv4_5, h⟩ := H.call h
      refine xq rfl (y_call [.agg (eHand v1_1.Other).toArray, .agg (eHand v1_3.Other).toArray] (.int .i64 v4_5) func125 (fun W S => C.i_Hand_distance W hv4_5)) ?_
      refine p 2 ?_
      refine rend ?_
      refine c_inb ?_
      refine c_seq ?_
      refine r_start ?_
      refine p 2 ?_
      refine rend ?_
      replace h := H.done h
      subst h
      exact ret func118 rfl (vs := [.int .i64 (wr (v2_4 + v4_5))]) (.tmp (by kernel_rfl) .nil) rfl (fun W S => ⟨rfl, S.below⟩)
    replace h := H.f q2 h
    refine c_seq ?_
    refine r_start ?_
    refine p 1 ?_
    refine xq rfl (y_load (.bool v1_1.Two) 0 g0_0 13) ?_
    refine p 1 ?_
    refine xq rfl (y_load (.bool v1_3.Two) 1 g0_1 13) ?_
    refine p 2 ?_
    refine rend ?_
    refine c_or (!(v1_1.Two == v1_3.Two)) (fun q3 => ?_) (fun q3 => ?_)
    · replace h := H.t q3 h
      refine r_start ?_
      refine p 3 ?_
      refine rend ?_
      refine c_inb ?_
      refine c_seq ?_
      refine r_start ?_
      refine p 2 ?_
      refine rend ?_
      replace h := H.done h
      subst h
      exact ret func118 rfl (vs := [.int .i64 (wr (v2_4 + 6))]) (.tmp (by kernel_rfl) .nil) rfl (fun W S => ⟨rfl, S.below⟩)
    replace h := H.f q3 h
    refine c_skip ?_
    refine c_inb ?_
    refine c_seq ?_
    refine r_start ?_
    refine p 2 ?_
    refine rend ?_
    replace h := H.done h
    subst h
    exact ret func118 rfl (vs := [.int .i64 v2_4]) (.tmp (by kernel_rfl) .nil) rfl (fun W S => ⟨rfl, S.below⟩)
  replace h := H.f q1 h
  refine o_set 18 (congrArg Value.bool q1) ?_
  refine p 4 ?_
  refine rend ?_
  refine c_f (by kernel_rfl) ?_
  refine c_seq ?_
  refine r_start ?_
  refine p 1 ?_
  refine xq rfl (y_load (.bool v1_1.Two) 0 g0_0 13) ?_
  refine p 1 ?_
  refine xq rfl (y_load (.bool v1_3.Two) 1 g0_1 13) ?_
  refine p 2 ?_
  refine rend ?_
  refine c_or (!(v1_1.Two == v1_3.Two)) (fun q4 => ?_) (fun q4 => ?_)
  · replace h := H.t q4 h
    refine r_start ?_
    refine p 3 ?_
    refine rend ?_
    refine c_inb ?_
    refine c_seq ?_
    refine r_start ?_
    refine p 2 ?_
    refine rend ?_
    replace h := H.done h
    subst h
    exact ret func118 rfl (vs := [.int .i64 (wr (v2_4 + 6))]) (.tmp (by kernel_rfl) .nil) rfl (fun W S => ⟨rfl, S.below⟩)
  replace h := H.f q4 h
  refine c_skip ?_
  refine c_inb ?_
  refine c_seq ?_
  refine r_start ?_
  refine p 2 ?_
  refine rend ?_
  replace h := H.done h
  subst h
  exact ret func118 rfl (vs := [.int .i64 v2_4]) (.tmp (by kernel_rfl) .nil) rfl (fun W S => ⟨rfl, S.below⟩)
theorem C.i_SignDistance {fu : Nat} {a0 : Sign} {a1 : Sign} {r : (Int × Bool)} (w : World) (h : X.i_SignDistance fu a0 a1 = some r) : Calls prog 38 #[.agg (eSign a0).toArray, .agg (eSign a1).toArray] w (Ret w (.tuple #[.int .i64 r.1, .bool r.2])) := by
  refine calls (M := no) (args := [.agg (eSign a0).toArray, .agg (eSign a1).toArray]) func38 rfl ?_
  replace h : H (X.i_SignDistance fu a0 a1) (fun o => o = r) := H.mk h
  unfold X.i_SignDistance at h
  refine c_seq ?_
  refine r_start ?_
  refine xx rfl (x_box (eSign a0) fun g0_0 => ?_)
  refine xx rfl (x_box (eSign a1) fun g0_1 => ?_)
  refine p 2 ?_
  refine rend ?_
  refine c_seq ?_
  refine c_seq ?_
  refine r_start ?_
  refine xq rfl (y_load (.agg (eSign a0).toArray) 0 g0_0 0) ?_
  obtain ⟨v1_1, hv1_1, h⟩ := H.call h
  refine xq rfl (y_call [.agg (eSign a0).toArray] (.bool v1_1) func19 (fun W S => C.i_IsSign W hv1_1)) ?_
  refine p 2 ?_
  refine br (!v1_1) (fun q1 => ?_) (fun q1 => ?_)
  · replace h := H.t q1 h
    refine o_set 9 (congrArg Value.bool q1) ?_
    refine p 4 ?_
    refine rend ?_
    refine c_t (by kernel_rfl) ?_
    refine c_seq ?_
    refine r_start ?_
    refine p 2 ?_
    refine rend ?_
    replace h := H.done h
    subst h
    exact ret func38 rfl (vs := [.int .i64 0, .bool false]) (.tmp (by kernel_rfl) (.tmp (by kernel_rfl) .nil)) rfl (fun W S => ⟨rfl, S.below⟩)
  replace h := H.f q1 h
  refine o_set 9 (congrArg Value.bool q1) ?_
  refine xq rfl (y_load (.agg (eSign a1).toArray) 1 g0_1 0) ?_
  obtain ⟨v1_5, hv1_5, h⟩ := H.call h
  refine xq rfl (y_call [.agg (eSign a1).toArray] (.bool v1_5) func19 (fun W S => C.i_IsSign W hv1_5)) ?_
  refine p 2 ?_
  refine rend ?_
  refine c_or (!v1_5) (fun q2 => ?_) (fun q2 => ?_)
  · replace h := H.t q2 h
    refine c_seq ?_
    refine r_start ?_
    refine p 2 ?_
    refine rend ?_
    replace h := H.done h
    subst h
    exact ret func38 rfl (vs := [.int .i64 0, .bool false]) (.tmp (by kernel_rfl) (.tmp (by kernel_rfl) .nil)) rfl (fun W S => ⟨rfl, S.below⟩)
  replace h := H.f q2 h
  refine c_skip ?_
  refine c_seq ?_
  refine r_start ?_
  refine xq rfl (y_load (.agg (eSign a0).toArray) 0 g0_0 0) ?_
  refine xq rfl (y_load (.agg (eSign a1).toArray) 1 g0_1 0) ?_
  obtain ⟨v3_2, hv3_2, h⟩ := H.call h
  refine xq rfl (y_call [.agg (eSign a0).toArray, .agg (eSign a1).toArray] (.int .i64 v3_2) func118 (fun W S => C.i_Sign_distance W hv3_2)) ?_
  refine p 2 ?_
  refine rend ?_
  replace h := H.done h
  subst h
  exact ret func38 rfl (vs := [.int .i64 v3_2, .bool true]) (.tmp (by kernel_rfl) (.tmp (by kernel_rfl) .nil)) rfl (fun W S => ⟨rfl, S.below⟩)
theorem C.s_feBoth {fu : Nat} {a0 : Sign} {a1 : Sign} {r : Bool} (w : World) (h : X.s_feBoth fu a0 a1 = some r) : Calls prog 119 #[.agg (eSign a0).toArray, .agg (eSign a1).toArray] w (Ret w (.bool r)) := by
  refine calls (M := no) (args := [.agg (eSign a0).toArray, .agg (eSign a1).toArray]) func119 rfl ?_
  replace h : H (X.s_feBoth fu a0 a1) (fun o => o = r) := H.mk h
  unfold X.s_feBoth at h
  refine c_seq ?_
  refine r_start ?_
  refine xx rfl (x_box (eSign a0) fun g0_0 => ?_)
  refine xx rfl (x_box (eSign a1) fun g0_1 => ?_)
  refine p 1 ?_
  refine rend ?_
  refine c_seq ?_
  refine r_start ?_
  refine xq rfl (y_load (.agg (eSign a0).toArray) 0 g0_0 0) ?_
  obtain ⟨v1_1, hv1_1, h⟩ := H.call h
  refine xq rfl (y_call [.agg (eSign a0).toArray] (.bool v1_1) func91 (fun W S => C.s_siGood W hv1_1)) ?_
  refine p 1 ?_
  refine br v1_1 (fun q1 => ?_) (fun q1 => ?_)
  · replace h := H.t q1 h
    refine o_set 7 (congrArg Value.bool q1) ?_
    refine xq rfl (y_load (.agg (eSign a1).toArray) 1 g0_1 0) ?_
    obtain ⟨v1_4, hv1_4, h⟩ := H.call h
    refine xq rfl (y_call [.agg (eSign a1).toArray] (.bool v1_4) func91 (fun W S => C.s_siGood W hv1_4)) ?_
    refine p 2 ?_
    refine rend ?_
    replace h := H.done h
    subst h
    exact ret func119 rfl (vs := [.bool v1_4]) (.tmp (by kernel_rfl) .nil) rfl (fun W S => ⟨rfl, S.below⟩)
  replace h := H.f q1 h
  refine o_set 7 (congrArg Value.bool q1) ?_
  refine p 4 ?_
  refine rend ?_
  replace h := H.done h
  subst h
  exact ret func119 rfl (vs := [.bool false]) (.tmp (by kernel_rfl) .nil) rfl (fun W S => ⟨rfl, S.below⟩)
theorem C.s_l1Least {a0 : Int} {a1 : Int} {r : Int} (w : World) (h : X.s_l1Least a0 a1 = some r) : Calls prog 202 #[.int .i64 a0, .int .i64 a1] w (Ret w (.int .i64 r)) := by
  refine calls (M := no) (args := [.int .i64 a0, .int .i64 a1]) func202 rfl ?_
  replace h : H (X.s_l1Least a0 a1) (fun o => o = r) := H.mk h
  unfold X.s_l1Least at h
  refine c_seq ?_
  refine r_start ?_
  refine p 1 ?_
  refine rend ?_
  refine c_seq ?_
  refine c_seq ?_
  refine r_start ?_
  refine p 3 ?_
  refine rend ?_
  refine c_or (decide (a0 < a1)) (fun q1 => ?_) (fun q1 => ?_)
  · replace h := H.t q1 h
    refine c_seq ?_
    refine r_start ?_
    refine p 2 ?_
    refine rend ?_
    replace h := H.done h
    subst h
    exact ret func202 rfl (vs := [.int .i64 a0]) (.tmp (by kernel_rfl) .nil) rfl (fun W S => ⟨rfl, S.below⟩)
  replace h := H.f q1 h
  refine c_skip ?_
  refine c_seq ?_
  refine r_start ?_
  refine p 2 ?_
  refine rend ?_
  replace h := H.done h
  subst h
  exact ret func202 rfl (vs := [.int .i64 a1]) (.tmp (by kernel_rfl) .nil) rfl (fun W S => ⟨rfl, S.below⟩)
theorem C.s_feSteps {fu : Nat} {a0 : Str} {a1 : Str} {r : Int} (w : World) (h : X.s_feSteps fu a0 a1 = some r) : Calls prog 130 #[.string (bs a0), .string (bs a1)] w (Ret w (.int .i64 r)) := by
  refine calls (M := no) (args := [.string (bs a0), .string (bs a1)]) func130 rfl ?_
  replace h : H (X.s_feSteps fu a0 a1) (fun o => o = r) := H.mk h
  unfold X.s_feSteps at h
  refine c_seq ?_
  refine r_start ?_
  refine p 1 ?_
  refine rend ?_
  refine c_seq ?_
  refine r_start ?_
  refine p 3 ?_
  obtain ⟨y1_3, hy1_3, h⟩ := H.call h
  refine xx rfl (e_make (el := 3) hy1_3 fun A1_3 k1_3 => ?_)
  refine p 1 ?_
  refine rend ?_
  refine c_seq ?_
  refine c_seq ?_
  refine r_start ?_
  refine p 3 ?_
  refine rend ?_
  refine c_block ?_
  refine joinH (X := ((List Int) × Option Addr × Nat)) 0 (H.bnd h) (fun ⟨l4, A5, k6⟩ => l4) (fun ⟨l4, A5, k6⟩ => [rowT (eI .i64) w.heap.size 3 (.slice A5 (List.length l4) k6) l4]) (fun ⟨l4, A5, k6⟩ u => (.string (bs a0) :: .string (bs a1) :: (jk u 2 3 (.slice A5 (List.length l4) k6 :: (jk u 6 75 []))))) (fun h hj7 => ?_) ?_
  · skip
    refine rangeR (X := ((List Int) × Option Addr × Nat)) (s_own 0) (fun ⟨l1, A2, k3⟩ => l1) (fun ⟨l1, A2, k3⟩ => [rowT (eI .i64) w.heap.size 3 (.slice A2 (List.length l1) k3) l1]) (fun (j8 : Nat) ⟨l1, A2, k3⟩ u => (.string (bs a0) :: .string (bs a1) :: (jk u 2 3 (.slice A2 (List.length l1) k3 :: (jk u 6 10 (.int .i64 (List.length y1_3 : Int) :: .int .i64 (j8 : Int) :: (jk u 18 63 []))))))) (y1_3, A1_3, k1_3) h (by kernel_rfl) (by kernel_rfl) ?_ ?_
    · intro j8 x u x9 q10 hg11 hw12 h
      obtain ⟨l1, A2, k3⟩ := x
      refine c_seq ?_
      refine r_start ?_
      refine p 1 ?_
      refine rend ?_
      refine c_seq ?_
      refine c_yes q10 ?_
      refine c_skip ?_
      refine c_seq ?_
      refine c_block ?_
      refine c_seq ?_
      refine r_start ?_
      refine p 2 ?_
      refine rend ?_
      refine r_start ?_
      refine p 3 ?_
      obtain ⟨y5_3, hy5_3, h⟩ := H.call h
      refine xq rfl (y_idx (e := (eI .i64)) (el := 3) hy5_3 (s_own 0)) ?_
      refine xx rfl (e_stel (e := (eI .i64)) (b := (j8 : Int)) 0 0 ([.int .i64 (j8 : Int)]) hy5_3 (by kernel_rfl) ?_)
      refine o_set 5 (sl_set (A := A2) (c := k3) (l := l1) (n := Int.toNat (j8 : Int)) (b := (j8 : Int))) ?_
      refine rend ?_
      refine c_inb ?_
      refine r_start ?_
      refine p 2 ?_
      refine rend ?_
      refine c_set 17 (ci hw12) ?_
      replace h := H.inl h
      exact h ((List.set l1 (Int.toNat (j8 : Int)) (j8 : Int)), A2, k3) _ _ rfl (by kernel_rfl) (by kernel_rfl)
    · intro x u q10 h
      obtain ⟨l1, A2, k3⟩ := x
      refine c_seq ?_
      refine r_start ?_
      refine p 1 ?_
      refine rend ?_
      refine c_seq ?_
      refine c_no q10 ?_
      refine cx ?_
      replace h := H.done h
      exact hj7 (l1, A2, k3) _ _ h (by kernel_rfl) (by kernel_rfl)
  intro x u h
  obtain ⟨l4, A5, k6⟩ := x
  refine c_seq ?_
  refine c_seq ?_
  refine r_start ?_
  refine p 1 ?_
  refine rend ?_
  refine c_block ?_
  refine joinH (X := ((List Int) × Option Addr × Nat)) 2 (H.bnd h) (fun ⟨l17, A18, k19⟩ => l17) (fun ⟨l17, A18, k19⟩ => [rowT (eI .i64) w.heap.size 3 (.slice A18 (List.length l17) k19) l17]) (fun ⟨l17, A18, k19⟩ u => (jk u 0 1 (.string (bs a1) :: (jk u 2 3 (.slice A18 (List.length l17) k19 :: (jk u 6 75 [])))))) (fun h hj20 => ?_) ?_
  · skip
    refine loopR (X := (Int × (List Int) × Option Addr × Nat)) (fun ⟨n13, l14, A15, k16⟩ => (n13, l14)) (fun ⟨n13, l14, A15, k16⟩ => [rowT (eI .i64) w.heap.size 3 (.slice A15 (List.length l14) k16) l14]) (fun ⟨n13, l14, A15, k16⟩ u => (.string (bs a0) :: .string (bs a1) :: (jk u 2 3 (.slice A15 (List.length l14) k16 :: (jk u 6 1 (.int .i64 n13 :: (jk u 8 73 []))))))) (0, l4, A5, k6) h (by kernel_rfl) (by kernel_rfl) ?_
    intro x u h
    obtain ⟨n13, l14, A15, k16⟩ := x
    refine c_seq ?_
    refine c_seq ?_
    refine r_start ?_
    refine p 4 ?_
    refine rend ?_
    refine c_or (decide (n13 < (List.length a0 : Int))) (fun q21 => ?_) (fun q21 => ?_)
    · replace h := H.t q21 h
      refine c_skip ?_
      refine c_seq ?_
      refine c_block ?_
      refine c_seq ?_
      refine r_start ?_
      refine p 1 ?_
      obtain ⟨y10_1, hy10_1, h⟩ := H.call h
      refine xq rfl (y_idx (e := (eI .i64)) (el := 3) hy10_1 (s_own 0)) ?_
      refine xq rfl (y_el (e := (eI .i64)) 0 (.int .i64 y10_1) hy10_1 (s_own 0)) ?_
      refine p 1 ?_
      refine rend ?_
      refine c_seq ?_
      refine r_start ?_
      refine p 3 ?_
      refine xq rfl (y_idx (e := (eI .i64)) (el := 3) hy10_1 (s_own 0)) ?_
      refine xx rfl (e_stel (e := (eI .i64)) (b := (wr (n13 + 1))) 0 0 ([.int .i64 (wr (n13 + 1))]) hy10_1 (by kernel_rfl) ?_)
      refine o_set 5 (sl_set (A := A15) (c := k16) (l := l14) (n := Int.toNat 0) (b := (wr (n13 + 1)))) ?_
      refine rend ?_
      refine c_seq ?_
      refine r_start ?_
      refine p 1 ?_
      refine rend ?_
      refine c_block ?_
      refine joinH (X := ((List Int) × Option Addr × Nat)) 4 (H.bnd h) (fun ⟨l27, A28, k29⟩ => l27) (fun ⟨l27, A28, k29⟩ => [rowT (eI .i64) w.heap.size 3 (.slice A28 (List.length l27) k29) l27]) (fun ⟨l27, A28, k29⟩ u => (.string (bs a0) :: .string (bs a1) :: (jk u 2 3 (.slice A28 (List.length l27) k29 :: (jk u 6 1 (.int .i64 n13 :: (jk u 8 73 []))))))) (fun h hj30 => ?_) ?_
      · skip
        refine loopR (X := (Int × Int × (List Int) × Option Addr × Nat)) (fun ⟨n22, n23, l24, A25, k26⟩ => (n22, n23, l24)) (fun ⟨n22, n23, l24, A25, k26⟩ => [rowT (eI .i64) w.heap.size 3 (.slice A25 (List.length l24) k26) l24]) (fun ⟨n22, n23, l24, A25, k26⟩ u => (.string (bs a0) :: .string (bs a1) :: (jk u 2 3 (.slice A25 (List.length l24) k26 :: (jk u 6 1 (.int .i64 n13 :: .int .i64 n22 :: .int .i64 n23 :: (jk u 10 71 []))))))) (y10_1, 0, (List.set l14 (Int.toNat 0) (wr (n13 + 1))), A15, k16) h (by kernel_rfl) (by kernel_rfl) ?_
        intro x u h
        obtain ⟨n22, n23, l24, A25, k26⟩ := x
        refine c_seq ?_
        refine c_seq ?_
        refine r_start ?_
        refine p 4 ?_
        refine rend ?_
        refine c_or (decide (n23 < (List.length a1 : Int))) (fun q31 => ?_) (fun q31 => ?_)
        · replace h := H.t q31 h
          refine c_skip ?_
          refine c_seq ?_
          refine c_block ?_
          refine c_seq ?_
          refine r_start ?_
          refine p 2 ?_
          refine rend ?_
          refine c_seq ?_
          refine c_seq ?_
          refine as_start 7 7 ?_
          refine ap 0 2 ?_
          obtain ⟨y16_2, hy16_2, h⟩ := H.call h
          refine aq 2 rfl (y_byte hy16_2) ?_
          refine ap 3 2 ?_
          obtain ⟨y16_5, hy16_5, h⟩ := H.call h
          refine aq 5 rfl (y_byte hy16_5) ?_
          refine ap 6 1 ?_
          refine a_done ?_
          refine c_or (y16_2 != y16_5) (fun q32 => ?_) (fun q32 => ?_)
          · replace h := H.t q32 h
            refine r_start ?_
            refine p 3 ?_
            refine rend ?_
            refine frg (fun u => (.string (bs a0) :: .string (bs a1) :: (jk u 2 3 (.slice A25 (List.length l24) k26 :: (jk u 6 1 (.int .i64 n13 :: (jk u 8 1 (.int .i64 n23 :: .int .i64 (wr (n22 + 1)) :: (jk u 11 70 []))))))))) (by kernel_rfl) fun u => ?_
            refine keep 1 (its' := [rowT (eI .i64) w.heap.size 3 (.slice A25 (List.length l24) k26) l24]) (by kernel_rfl) ?_
            refine c_seq ?_
            refine r_start ?_
            refine p 3 ?_
            obtain ⟨y18_3, hy18_3, h⟩ := H.call h
            refine xq rfl (y_idx (e := (eI .i64)) (el := 3) hy18_3 (s_own 0)) ?_
            refine xq rfl (y_el (e := (eI .i64)) 0 (.int .i64 y18_3) hy18_3 (s_own 0)) ?_
            refine p 1 ?_
            refine rend ?_
            refine as_start 17 18 ?_
            refine ap 0 6 ?_
            obtain ⟨y19_6, hy19_6, h⟩ := H.call h
            refine aq 6 rfl (y_idx (e := (eI .i64)) (el := 3) hy19_6 (s_own 0)) ?_
            refine aq 7 rfl (y_el (e := (eI .i64)) 0 (.int .i64 y19_6) hy19_6 (s_own 0)) ?_
            refine ap 8 3 ?_
            refine aq 11 rfl (y_idx (e := (eI .i64)) (el := 3) hy18_3 (s_own 0)) ?_
            refine aq 12 rfl (y_el (e := (eI .i64)) 0 (.int .i64 y18_3) hy18_3 (s_own 0)) ?_
            obtain ⟨v19_13, hv19_13, h⟩ := H.call h
            refine aq 13 rfl (y_call [.int .i64 y19_6, .int .i64 y18_3] (.int .i64 v19_13) func202 (fun W S => C.s_l1Least W hv19_13)) ?_
            refine ap 14 1 ?_
            obtain ⟨v19_15, hv19_15, h⟩ := H.call h
            refine aq 15 rfl (y_call [.int .i64 (wr (n22 + 1)), .int .i64 (wr (v19_13 + 1))] (.int .i64 v19_15) func202 (fun W S => C.s_l1Least W hv19_15)) ?_
            refine aq 16 rfl (y_idx (e := (eI .i64)) (el := 3) hy18_3 (s_own 0)) ?_
            refine ax 17 rfl (e_stel (e := (eI .i64)) (b := v19_15) 0 0 ([.int .i64 v19_15]) hy18_3 (by kernel_rfl) ⟨.inl (by kernel_rfl), ?_⟩)
            refine a_set 5 (sl_set (A := A25) (c := k26) (l := l24) (n := Int.toNat (wr (n23 + 1))) (b := v19_15)) ?_
            refine a_done ?_
            refine c_inb ?_
            refine r_start ?_
            refine p 3 ?_
            refine rend ?_
            replace h := H.inl h
            exact h (y18_3, (wr (n23 + 1)), (List.set l24 (Int.toNat (wr (n23 + 1))) v19_15), A25, k26) _ _ rfl (by kernel_rfl) (by kernel_rfl)
          replace h := H.f q32 h
          refine c_skip ?_
          refine c_seq ?_
          refine r_start ?_
          refine p 3 ?_
          obtain ⟨y18_3, hy18_3, h⟩ := H.call h
          refine xq rfl (y_idx (e := (eI .i64)) (el := 3) hy18_3 (s_own 0)) ?_
          refine xq rfl (y_el (e := (eI .i64)) 0 (.int .i64 y18_3) hy18_3 (s_own 0)) ?_
          refine p 1 ?_
          refine rend ?_
          refine frg (fun u => (.string (bs a0) :: .string (bs a1) :: (jk u 2 3 (.slice A25 (List.length l24) k26 :: (jk u 6 1 (.int .i64 n13 :: .int .i64 y18_3 :: .int .i64 n23 :: .int .i64 n22 :: (jk u 11 70 []))))))) (by kernel_rfl) fun u => ?_
          refine keep 1 (its' := [rowT (eI .i64) w.heap.size 3 (.slice A25 (List.length l24) k26) l24]) (by kernel_rfl) ?_
          refine as_start 17 18 ?_
          refine ap 0 6 ?_
          obtain ⟨y19_6, hy19_6, h⟩ := H.call h
          refine aq 6 rfl (y_idx (e := (eI .i64)) (el := 3) hy19_6 (s_own 0)) ?_
          refine aq 7 rfl (y_el (e := (eI .i64)) 0 (.int .i64 y19_6) hy19_6 (s_own 0)) ?_
          refine ap 8 3 ?_
          refine aq 11 rfl (y_idx (e := (eI .i64)) (el := 3) hy18_3 (s_own 0)) ?_
          refine aq 12 rfl (y_el (e := (eI .i64)) 0 (.int .i64 y18_3) hy18_3 (s_own 0)) ?_
          obtain ⟨v19_13, hv19_13, h⟩ := H.call h
          refine aq 13 rfl (y_call [.int .i64 y19_6, .int .i64 y18_3] (.int .i64 v19_13) func202 (fun W S => C.s_l1Least W hv19_13)) ?_
          refine ap 14 1 ?_
          obtain ⟨v19_15, hv19_15, h⟩ := H.call h
          refine aq 15 rfl (y_call [.int .i64 n22, .int .i64 (wr (v19_13 + 1))] (.int .i64 v19_15) func202 (fun W S => C.s_l1Least W hv19_15)) ?_
          refine aq 16 rfl (y_idx (e := (eI .i64)) (el := 3) hy18_3 (s_own 0)) ?_
          refine ax 17 rfl (e_stel (e := (eI .i64)) (b := v19_15) 0 0 ([.int .i64 v19_15]) hy18_3 (by kernel_rfl) ⟨.inl (by kernel_rfl), ?_⟩)
          refine a_set 5 (sl_set (A := A25) (c := k26) (l := l24) (n := Int.toNat (wr (n23 + 1))) (b := v19_15)) ?_
          refine a_done ?_
          refine c_inb ?_
          refine r_start ?_
          refine p 3 ?_
          refine rend ?_
          replace h := H.inl h
          exact h (y18_3, (wr (n23 + 1)), (List.set l24 (Int.toNat (wr (n23 + 1))) v19_15), A25, k26) _ _ rfl (by kernel_rfl) (by kernel_rfl)
        replace h := H.f q31 h
        refine cx ?_
        replace h := H.inr h
        exact hj30 (l24, A25, k26) _ _ h (by kernel_rfl) (by kernel_rfl)
      intro x u h
      obtain ⟨l27, A28, k29⟩ := x
      refine c_inb ?_
      refine r_start ?_
      refine p 3 ?_
      refine rend ?_
      replace h := H.inl h
      exact h ((wr (n13 + 1)), l27, A28, k29) _ _ rfl (by kernel_rfl) (by kernel_rfl)
    replace h := H.f q21 h
    refine cx ?_
    replace h := H.inr h
    exact hj20 (l14, A15, k16) _ _ h (by kernel_rfl) (by kernel_rfl)
  intro x u h
  obtain ⟨l17, A18, k19⟩ := x
  refine c_seq ?_
  refine r_start ?_
  refine p 3 ?_
  obtain ⟨y20_3, hy20_3, h⟩ := H.call h
  refine xq rfl (y_idx (e := (eI .i64)) (el := 3) hy20_3 (s_own 0)) ?_
  refine xq rfl (y_el (e := (eI .i64)) 0 (.int .i64 y20_3) hy20_3 (s_own 0)) ?_
  refine p 1 ?_
  refine rend ?_
  replace h := H.done h
  subst h
  exact ret func130 rfl (vs := [.int .i64 y20_3]) (.tmp (by kernel_rfl) .nil) rfl (fun W S => ⟨rfl, S.below⟩)
theorem C.s_l1Abs {a0 : Int} {r : Int} (w : World) (h : X.s_l1Abs a0 = some r) : Calls prog 234 #[.int .i64 a0] w (Ret w (.int .i64 r)) := by
  refine calls (M := no) (args := [.int .i64 a0]) func234 rfl ?_
  replace h : H (X.s_l1Abs a0) (fun o => o = r) := H.mk h
  unfold X.s_l1Abs at h
  refine c_seq ?_
  refine r_start ?_
  refine p 1 ?_
  refine rend ?_
  refine c_seq ?_
  refine r_start ?_
  refine p 3 ?_
  obtain ⟨v1_3, hv1_3, h⟩ := H.call h
  refine xq rfl (y_call [.int .i64 a0, .int .i64 (wr (0 - a0))] (.int .i64 v1_3) func105 (fun W S => C.s_l1Most W hv1_3)) ?_
  refine p 1 ?_
  refine rend ?_
  replace h := H.done h
  subst h
  exact ret func234 rfl (vs := [.int .i64 v1_3]) (.tmp (by kernel_rfl) .nil) rfl (fun W S => ⟨rfl, S.below⟩)
theorem C.s_shFar {a0 : Shape} {a1 : Shape} {r : Int} (w : World) (h : X.s_shFar a0 a1 = some r) : Calls prog 199 #[.agg (eShape a0).toArray, .agg (eShape a1).toArray] w (Ret w (.int .i64 r)) := by
  refine calls (M := no) (args := [.agg (eShape a0).toArray, .agg (eShape a1).toArray]) func199 rfl ?_
  replace h : H (X.s_shFar a0 a1) (fun o => o = r) := H.mk h
  unfold X.s_shFar at h
  refine c_seq ?_
  refine r_start ?_
  refine xx rfl (x_box (eShape a0) fun g0_0 => ?_)
  refine xx rfl (x_box (eShape a1) fun g0_1 => ?_)
  refine p 1 ?_
  refine rend ?_
  refine c_seq ?_
  refine as_start 6 6 ?_
  refine aq 0 rfl (y_load (.agg (eShape a0).toArray) 0 g0_0 0) ?_
  refine aq 2 rfl (y_load (.agg (eShape a1).toArray) 1 g0_1 0) ?_
  obtain ⟨v1_1, hv1_1, h⟩ := H.call h
  refine ax 1 rfl (e_cr [.agg (eShape a0).toArray] (fun v => v) func215 (fun W S => C.s_shFingers W hv1_1) fun A1_1 k1_1 => ⟨.inr (by kernel_rfl), ?_⟩)
  obtain ⟨v1_3, hv1_3, h⟩ := H.call h
  refine ax 3 rfl (e_cr [.agg (eShape a1).toArray] (fun v => v) func215 (fun W S => C.s_shFingers W hv1_3) fun A1_3 k1_3 => ⟨.inr (by kernel_rfl), ?_⟩)
  refine ap 4 2 ?_
  refine a_done ?_
  refine c_seq ?_
  refine r_start ?_
  refine p 1 ?_
  refine rend ?_
  refine c_seq ?_
  refine c_seq ?_
  refine r_start ?_
  refine p 3 ?_
  refine rend ?_
  refine c_block ?_
  refine joinH (X := Int) 0 (H.bnd h) (fun (x : Int) => x) (fun n2 => [box g0_0 25 (eShape a0), box g0_1 25 (eShape a1), rowT (eI .i64) w.heap.size 3 (.slice A1_1 (List.length v1_1) k1_1) v1_1, rowT (eI .i64) w.heap.size 3 (.slice A1_3 (List.length v1_3) k1_3) v1_3]) (fun n2 u => (jk u 0 2 (.pointer (some ⟨g0_0, 0, none⟩) :: .pointer (some ⟨g0_1, 0, none⟩) :: (jk u 4 3 (.int .i64 n2 :: (jk u 8 38 [])))))) (fun h hj3 => ?_) ?_
  · skip
    refine rangeR (X := Int) (s_own 2) (fun (x : Int) => x) (fun n1 => [box g0_0 25 (eShape a0), box g0_1 25 (eShape a1), rowT (eI .i64) w.heap.size 3 (.slice A1_1 (List.length v1_1) k1_1) v1_1, rowT (eI .i64) w.heap.size 3 (.slice A1_3 (List.length v1_3) k1_3) v1_3]) (fun (j4 : Nat) n1 u => (jk u 0 2 (.pointer (some ⟨g0_0, 0, none⟩) :: .pointer (some ⟨g0_1, 0, none⟩) :: (jk u 4 1 (.slice A1_1 (List.length v1_1) k1_1 :: .slice A1_3 (List.length v1_3) k1_3 :: .int .i64 n1 :: (jk u 8 6 (.int .i64 (List.length v1_1 : Int) :: .int .i64 (j4 : Int) :: (jk u 16 30 [])))))))) 0 h (by kernel_rfl) (by kernel_rfl) ?_ ?_
    · intro j4 n1 u x5 q6 hg7 hw8 h
      refine c_seq ?_
      refine r_start ?_
      refine p 1 ?_
      refine rend ?_
      refine c_seq ?_
      refine c_yes q6 ?_
      refine c_skip ?_
      refine c_seq ?_
      refine c_block ?_
      refine c_seq ?_
      refine r_start ?_
      refine p 2 ?_
      refine rend ?_
      refine as_start 13 13 ?_
      refine ap 0 3 ?_
      refine aq 3 rfl (y_idx (e := (eI .i64)) (el := 3) hg7 (s_own 2)) ?_
      refine aq 4 rfl (y_el (e := (eI .i64)) 0 (.int .i64 x5) hg7 (s_own 2)) ?_
      refine ap 5 2 ?_
      obtain ⟨y6_7, hy6_7, h⟩ := H.call h
      refine aq 7 rfl (y_idx (e := (eI .i64)) (el := 3) hy6_7 (s_own 3)) ?_
      refine aq 8 rfl (y_el (e := (eI .i64)) 0 (.int .i64 y6_7) hy6_7 (s_own 3)) ?_
      refine ap 9 1 ?_
      obtain ⟨v6_10, hv6_10, h⟩ := H.call h
      refine aq 10 rfl (y_call [.int .i64 (wr (x5 - y6_7))] (.int .i64 v6_10) func234 (fun W S => C.s_l1Abs W hv6_10)) ?_
      refine ap 11 2 ?_
      refine a_done ?_
      refine c_inb ?_
      refine r_start ?_
      refine p 2 ?_
      refine rend ?_
      refine c_set 15 (ci hw8) ?_
      replace h := H.inl h
      exact h (wr (n1 + v6_10)) _ _ rfl (by kernel_rfl) (by kernel_rfl)
    · intro n1 u q6 h
      refine c_seq ?_
      refine r_start ?_
      refine p 1 ?_
      refine rend ?_
      refine c_seq ?_
      refine c_no q6 ?_
      refine cx ?_
      replace h := H.done h
      exact hj3 n1 _ _ h (by kernel_rfl) (by kernel_rfl)
  intro n2 u h
  refine c_seq ?_
  refine c_seq ?_
  refine r_start ?_
  refine p 1 ?_
  refine xq rfl (y_load (.int .i64 a0.Thumb) 0 g0_0 0) ?_
  refine p 1 ?_
  refine xq rfl (y_load (.int .i64 a1.Thumb) 1 g0_1 0) ?_
  refine p 1 ?_
  refine rend ?_
  refine c_or (a0.Thumb != a1.Thumb) (fun q9 => ?_) (fun q9 => ?_)
  · replace h := H.t q9 h
    refine r_start ?_
    refine p 3 ?_
    refine rend ?_
    refine c_seq ?_
    refine c_seq ?_
    refine r_start ?_
    refine p 1 ?_
    refine xq rfl (y_load (.bool a0.Spread) 0 g0_0 5) ?_
    refine p 1 ?_
    refine xq rfl (y_load (.bool a1.Spread) 1 g0_1 5) ?_
    refine p 1 ?_
    refine rend ?_
    refine c_or (!(a0.Spread == a1.Spread)) (fun q10 => ?_) (fun q10 => ?_)
    · replace h := H.t q10 h
      refine r_start ?_
      refine p 3 ?_
      refine rend ?_
      refine c_seq ?_
      refine r_start ?_
      refine p 2 ?_
      refine rend ?_
      replace h := H.done h
      subst h
      exact ret func199 rfl (vs := [.int .i64 (wr ((wr (n2 + 1)) + 1))]) (.tmp (by kernel_rfl) .nil) rfl (fun W S => ⟨rfl, S.below⟩)
    replace h := H.f q10 h
    refine c_skip ?_
    refine c_seq ?_
    refine r_start ?_
    refine p 2 ?_
    refine rend ?_
    replace h := H.done h
    subst h
    exact ret func199 rfl (vs := [.int .i64 (wr (n2 + 1))]) (.tmp (by kernel_rfl) .nil) rfl (fun W S => ⟨rfl, S.below⟩)
  replace h := H.f q9 h
  refine c_skip ?_
  refine c_seq ?_
  refine c_seq ?_
  refine r_start ?_
  refine p 1 ?_
  refine xq rfl (y_load (.bool a0.Spread) 0 g0_0 5) ?_
  refine p 1 ?_
  refine xq rfl (y_load (.bool a1.Spread) 1 g0_1 5) ?_
  refine p 1 ?_
  refine rend ?_
  refine c_or (!(a0.Spread == a1.Spread)) (fun q11 => ?_) (fun q11 => ?_)
  · replace h := H.t q11 h
    refine r_start ?_
    refine p 3 ?_
    refine rend ?_
    refine c_seq ?_
    refine r_start ?_
    refine p 2 ?_
    refine rend ?_
    replace h := H.done h
    subst h
    exact ret func199 rfl (vs := [.int .i64 (wr (n2 + 1))]) (.tmp (by kernel_rfl) .nil) rfl (fun W S => ⟨rfl, S.below⟩)
  replace h := H.f q11 h
  refine c_skip ?_
  refine c_seq ?_
  refine r_start ?_
  refine p 2 ?_
  refine rend ?_
  replace h := H.done h
  subst h
  exact ret func199 rfl (vs := [.int .i64 n2]) (.tmp (by kernel_rfl) .nil) rfl (fun W S => ⟨rfl, S.below⟩)
theorem C.s_plFar {a0 : Place} {a1 : Place} {r : Int} (w : World) (h : X.s_plFar a0 a1 = some r) : Calls prog 200 #[.agg (ePlace a0).toArray, .agg (ePlace a1).toArray] w (Ret w (.int .i64 r)) := by
  refine calls (M := no) (args := [.agg (ePlace a0).toArray, .agg (ePlace a1).toArray]) func200 rfl ?_
  replace h : H (X.s_plFar a0 a1) (fun o => o = r) := H.mk h
  unfold X.s_plFar at h
  refine c_seq ?_
  refine r_start ?_
  refine xx rfl (x_box (ePlace a0) fun g0_0 => ?_)
  refine xx rfl (x_box (ePlace a1) fun g0_1 => ?_)
  refine p 1 ?_
  refine rend ?_
  refine c_seq ?_
  refine r_start ?_
  refine p 1 ?_
  refine xq rfl (y_load (.int .i64 a0.Side) 0 g0_0 1) ?_
  refine p 1 ?_
  refine xq rfl (y_load (.int .i64 a1.Side) 1 g0_1 1) ?_
  refine p 1 ?_
  obtain ⟨v1_5, hv1_5, h⟩ := H.call h
  refine xq rfl (y_call [.int .i64 (wr (a0.Side - a1.Side))] (.int .i64 v1_5) func234 (fun W S => C.s_l1Abs W hv1_5)) ?_
  refine p 1 ?_
  refine rend ?_
  refine c_seq ?_
  refine c_seq ?_
  refine r_start ?_
  refine p 1 ?_
  refine xq rfl (y_load (.bool a0.Contact) 0 g0_0 2) ?_
  refine p 1 ?_
  refine xq rfl (y_load (.bool a1.Contact) 1 g0_1 2) ?_
  refine p 1 ?_
  refine rend ?_
  refine c_or (!(a0.Contact == a1.Contact)) (fun q1 => ?_) (fun q1 => ?_)
  · replace h := H.t q1 h
    refine r_start ?_
    refine p 3 ?_
    refine rend ?_
    refine c_seq ?_
    refine c_seq ?_
    refine r_start ?_
    refine p 1 ?_
    refine xq rfl (y_load (.int .i64 a0.Region) 0 g0_0 0) ?_
    refine p 2 ?_
    refine xq rfl (y_load (.int .i64 a1.Region) 1 g0_1 0) ?_
    refine p 2 ?_
    refine rend ?_
    refine c_or (!((a0.Region == 0) == (a1.Region == 0))) (fun q2 => ?_) (fun q2 => ?_)
    · replace h := H.t q2 h
      refine c_seq ?_
      refine r_start ?_
      refine p 3 ?_
      refine rend ?_
      replace h := H.done h
      subst h
      exact ret func200 rfl (vs := [.int .i64 (wr ((wr (v1_5 + 1)) + 4))]) (.tmp (by kernel_rfl) .nil) rfl (fun W S => ⟨rfl, S.below⟩)
    replace h := H.f q2 h
    refine c_skip ?_
    refine c_seq ?_
    refine r_start ?_
    refine p 2 ?_
    refine xq rfl (y_load (.int .i64 a0.Region) 0 g0_0 0) ?_
    refine p 1 ?_
    refine xq rfl (y_load (.int .i64 a1.Region) 1 g0_1 0) ?_
    refine p 1 ?_
    obtain ⟨v6_6, hv6_6, h⟩ := H.call h
    refine xq rfl (y_call [.int .i64 (wr (a0.Region - a1.Region))] (.int .i64 v6_6) func234 (fun W S => C.s_l1Abs W hv6_6)) ?_
    refine p 2 ?_
    refine rend ?_
    replace h := H.done h
    subst h
    exact ret func200 rfl (vs := [.int .i64 (wr ((wr (v1_5 + 1)) + v6_6))]) (.tmp (by kernel_rfl) .nil) rfl (fun W S => ⟨rfl, S.below⟩)
  replace h := H.f q1 h
  refine c_skip ?_
  refine c_seq ?_
  refine c_seq ?_
  refine r_start ?_
  refine p 1 ?_
  refine xq rfl (y_load (.int .i64 a0.Region) 0 g0_0 0) ?_
  refine p 2 ?_
  refine xq rfl (y_load (.int .i64 a1.Region) 1 g0_1 0) ?_
  refine p 2 ?_
  refine rend ?_
  refine c_or (!((a0.Region == 0) == (a1.Region == 0))) (fun q3 => ?_) (fun q3 => ?_)
  · replace h := H.t q3 h
    refine c_seq ?_
    refine r_start ?_
    refine p 3 ?_
    refine rend ?_
    replace h := H.done h
    subst h
    exact ret func200 rfl (vs := [.int .i64 (wr (v1_5 + 4))]) (.tmp (by kernel_rfl) .nil) rfl (fun W S => ⟨rfl, S.below⟩)
  replace h := H.f q3 h
  refine c_skip ?_
  refine c_seq ?_
  refine r_start ?_
  refine p 2 ?_
  refine xq rfl (y_load (.int .i64 a0.Region) 0 g0_0 0) ?_
  refine p 1 ?_
  refine xq rfl (y_load (.int .i64 a1.Region) 1 g0_1 0) ?_
  refine p 1 ?_
  obtain ⟨v6_6, hv6_6, h⟩ := H.call h
  refine xq rfl (y_call [.int .i64 (wr (a0.Region - a1.Region))] (.int .i64 v6_6) func234 (fun W S => C.s_l1Abs W hv6_6)) ?_
  refine p 2 ?_
  refine rend ?_
  replace h := H.done h
  subst h
  exact ret func200 rfl (vs := [.int .i64 (wr (v1_5 + v6_6))]) (.tmp (by kernel_rfl) .nil) rfl (fun W S => ⟨rfl, S.below⟩)
theorem C.s_feHand {fu : Nat} {a0 : Hand} {a1 : Hand} {r : Int} (w : World) (h : X.s_feHand fu a0 a1 = some r) : Calls prog 126 #[.agg (eHand a0).toArray, .agg (eHand a1).toArray] w (Ret w (.int .i64 r)) := by
  refine calls (M := no) (args := [.agg (eHand a0).toArray, .agg (eHand a1).toArray]) func126 rfl ?_
  replace h : H (X.s_feHand fu a0 a1) (fun o => o = r) := H.mk h
  unfold X.s_feHand at h
  refine c_seq ?_
  refine r_start ?_
  refine xx rfl (x_box (eHand a0) fun g0_0 => ?_)
  refine xx rfl (x_box (eHand a1) fun g0_1 => ?_)
  refine p 1 ?_
  refine rend ?_
  refine c_seq ?_
  refine as_start 20 20 ?_
  refine ap 0 1 ?_
  refine aq 1 rfl (y_load (.agg (eShape a0.Shape).toArray) 0 g0_0 0) ?_
  refine ap 2 1 ?_
  refine aq 3 rfl (y_load (.agg (eShape a1.Shape).toArray) 1 g0_1 0) ?_
  obtain ⟨v1_4, hv1_4, h⟩ := H.call h
  refine aq 4 rfl (y_call [.agg (eShape a0.Shape).toArray, .agg (eShape a1.Shape).toArray] (.int .i64 v1_4) func199 (fun W S => C.s_shFar W hv1_4)) ?_
  refine ap 5 1 ?_
  refine aq 6 rfl (y_load (.agg (ePlace a0.Place).toArray) 0 g0_0 8) ?_
  refine ap 7 1 ?_
  refine aq 8 rfl (y_load (.agg (ePlace a1.Place).toArray) 1 g0_1 8) ?_
  obtain ⟨v1_9, hv1_9, h⟩ := H.call h
  refine aq 9 rfl (y_call [.agg (ePlace a0.Place).toArray, .agg (ePlace a1.Place).toArray] (.int .i64 v1_9) func200 (fun W S => C.s_plFar W hv1_9)) ?_
  refine ap 10 2 ?_
  refine aq 12 rfl (y_load (.agg (eMove a0.Move).toArray) 0 g0_0 11) ?_
  obtain ⟨v1_13, hv1_13, h⟩ := H.call h
  refine aq 13 rfl (y_call [.agg (eMove a0.Move).toArray] (.string (bs v1_13)) func106 (fun W S => C.s_mvAll W hv1_13)) ?_
  refine ap 14 1 ?_
  refine aq 15 rfl (y_load (.agg (eMove a1.Move).toArray) 1 g0_1 11) ?_
  obtain ⟨v1_16, hv1_16, h⟩ := H.call h
  refine aq 16 rfl (y_call [.agg (eMove a1.Move).toArray] (.string (bs v1_16)) func106 (fun W S => C.s_mvAll W hv1_16)) ?_
  obtain ⟨v1_17, hv1_17, h⟩ := H.call h
  refine aq 17 rfl (y_call [.string (bs v1_13), .string (bs v1_16)] (.int .i64 v1_17) func130 (fun W S => C.s_feSteps W hv1_17)) ?_
  refine ap 18 2 ?_
  refine a_done ?_
  refine c_seq ?_
  refine c_seq ?_
  refine r_start ?_
  refine p 2 ?_
  refine xq rfl (y_load (.int .i64 a0.Orient.Palm) 0 g0_0 6) ?_
  refine p 2 ?_
  refine xq rfl (y_load (.int .i64 a1.Orient.Palm) 1 g0_1 6) ?_
  refine p 1 ?_
  refine rend ?_
  refine c_or (a0.Orient.Palm != a1.Orient.Palm) (fun q1 => ?_) (fun q1 => ?_)
  · replace h := H.t q1 h
    refine r_start ?_
    refine p 3 ?_
    refine rend ?_
    refine c_seq ?_
    refine c_seq ?_
    refine r_start ?_
    refine p 2 ?_
    refine xq rfl (y_load (.int .i64 a0.Orient.Fingers) 0 g0_0 7) ?_
    refine p 2 ?_
    refine xq rfl (y_load (.int .i64 a1.Orient.Fingers) 1 g0_1 7) ?_
    refine p 1 ?_
    refine rend ?_
    refine c_or (a0.Orient.Fingers != a1.Orient.Fingers) (fun q2 => ?_) (fun q2 => ?_)
    · replace h := H.t q2 h
      refine r_start ?_
      refine p 3 ?_
      refine rend ?_
      refine c_seq ?_
      refine r_start ?_
      refine p 2 ?_
      refine rend ?_
      replace h := H.done h
      subst h
      exact ret func126 rfl (vs := [.int .i64 (wr ((wr ((wr ((wr (v1_4 + v1_9)) + v1_17)) + 1)) + 1))]) (.tmp (by kernel_rfl) .nil) rfl (fun W S => ⟨rfl, S.below⟩)
    replace h := H.f q2 h
    refine c_skip ?_
    refine c_seq ?_
    refine r_start ?_
    refine p 2 ?_
    refine rend ?_
    replace h := H.done h
    subst h
    exact ret func126 rfl (vs := [.int .i64 (wr ((wr ((wr (v1_4 + v1_9)) + v1_17)) + 1))]) (.tmp (by kernel_rfl) .nil) rfl (fun W S => ⟨rfl, S.below⟩)
  replace h := H.f q1 h
  refine c_skip ?_
  refine c_seq ?_
  refine c_seq ?_
  refine r_start ?_
  refine p 2 ?_
  refine xq rfl (y_load (.int .i64 a0.Orient.Fingers) 0 g0_0 7) ?_
  refine p 2 ?_
  refine xq rfl (y_load (.int .i64 a1.Orient.Fingers) 1 g0_1 7) ?_
  refine p 1 ?_
  refine rend ?_
  refine c_or (a0.Orient.Fingers != a1.Orient.Fingers) (fun q3 => ?_) (fun q3 => ?_)
  · replace h := H.t q3 h
    refine r_start ?_
    refine p 3 ?_
    refine rend ?_
    refine c_seq ?_
    refine r_start ?_
    refine p 2 ?_
    refine rend ?_
    replace h := H.done h
    subst h
    exact ret func126 rfl (vs := [.int .i64 (wr ((wr ((wr (v1_4 + v1_9)) + v1_17)) + 1))]) (.tmp (by kernel_rfl) .nil) rfl (fun W S => ⟨rfl, S.below⟩)
  replace h := H.f q3 h
  refine c_skip ?_
  refine c_seq ?_
  refine r_start ?_
  refine p 2 ?_
  refine rend ?_
  replace h := H.done h
  subst h
  exact ret func126 rfl (vs := [.int .i64 (wr ((wr (v1_4 + v1_9)) + v1_17))]) (.tmp (by kernel_rfl) .nil) rfl (fun W S => ⟨rfl, S.below⟩)
theorem C.s_feFar {fu : Nat} {a0 : Sign} {a1 : Sign} {r : Int} (w : World) (h : X.s_feFar fu a0 a1 = some r) : Calls prog 120 #[.agg (eSign a0).toArray, .agg (eSign a1).toArray] w (Ret w (.int .i64 r)) := by
  refine calls (M := no) (args := [.agg (eSign a0).toArray, .agg (eSign a1).toArray]) func120 rfl ?_
  replace h : H (X.s_feFar fu a0 a1) (fun o => o = r) := H.mk h
  unfold X.s_feFar at h
  refine c_seq ?_
  refine r_start ?_
  refine xx rfl (x_box (eSign a0) fun g0_0 => ?_)
  refine xx rfl (x_box (eSign a1) fun g0_1 => ?_)
  refine p 1 ?_
  refine rend ?_
  refine c_seq ?_
  refine joinT (X := (Sign × Sign × Nat × Nat)) (H.bnd h) (fun ⟨s1, s2, g1_4, g1_5⟩ => (s1, s2)) (fun ⟨s1, s2, g1_4, g1_5⟩ => [box g0_0 37 (eSign a0), box g0_1 37 (eSign a1), box g1_4 37 (eSign s1), box g1_5 37 (eSign s2)]) (fun ⟨s1, s2, g1_4, g1_5⟩ u => (jk u 0 5 (.pointer (some ⟨g1_4, 0, none⟩) :: .pointer (some ⟨g1_5, 0, none⟩) :: (jk u 7 33 [])))) (fun h hj3 => ?_) ?_
  · skip
    refine as_start 8 8 ?_
    refine aq 0 rfl (y_load (.agg (eSign a0).toArray) 0 g0_0 0) ?_
    obtain ⟨v1_1, hv1_1, h⟩ := H.call h
    refine aq 1 rfl (y_call [.agg (eSign a0).toArray] (.agg (eSign v1_1).toArray) func117 (fun W S => C.s_noForm W hv1_1)) ?_
    refine aq 2 rfl (y_load (.agg (eSign a1).toArray) 1 g0_1 0) ?_
    obtain ⟨v1_3, hv1_3, h⟩ := H.call h
    refine aq 3 rfl (y_call [.agg (eSign a1).toArray] (.agg (eSign v1_3).toArray) func117 (fun W S => C.s_noForm W hv1_3)) ?_
    refine a_two 4 5 rfl rfl ?_ ?_
    · skip
      refine (x_new (eSign zSign) fun g1_4 => ⟨.inr (by kernel_rfl), ?_⟩)
      refine ax 5 rfl (x_new (eSign zSign) fun g1_5 => ⟨.inr (by kernel_rfl), ?_⟩)
      refine ax 6 rfl (x_sto 2 g1_4 0 (eSign v1_1) ⟨.inr (by kernel_rfl), ?_⟩)
      refine ax 7 rfl (x_sto 3 g1_5 0 (eSign v1_3) ⟨.inr (by kernel_rfl), ?_⟩)
      refine a_done ?_
      replace h := H.done h
      exact hj3 (v1_1, v1_3, g1_4, g1_5) _ _ h (by kernel_rfl) (by kernel_rfl)
    refine (x_new (eSign zSign) fun g1_5 => ⟨.inr (by kernel_rfl), ?_⟩)
    refine ax 4 rfl (x_new (eSign zSign) fun g1_4 => ⟨.inr (by kernel_rfl), ?_⟩)
    refine ax 6 rfl (x_sto 3 g1_4 0 (eSign v1_1) ⟨.inr (by kernel_rfl), ?_⟩)
    refine ax 7 rfl (x_sto 2 g1_5 0 (eSign v1_3) ⟨.inr (by kernel_rfl), ?_⟩)
    refine a_done ?_
    refine swp [box g0_0 37 (eSign a0), box g0_1 37 (eSign a1)] (box g1_5 37 (eSign v1_3)) (box g1_4 37 (eSign v1_1)) ?_
    replace h := H.done h
    exact hj3 (v1_1, v1_3, g1_4, g1_5) _ _ h (by kernel_rfl) (by kernel_rfl)
  intro x u h
  obtain ⟨s1, s2, g1_4, g1_5⟩ := x
  refine c_seq ?_
  refine r_start ?_
  refine p 1 ?_
  refine xq rfl (y_load (.agg (eHand s1.Main).toArray) 2 g1_4 0) ?_
  refine p 1 ?_
  refine xq rfl (y_load (.agg (eHand s2.Main).toArray) 3 g1_5 0) ?_
  obtain ⟨v2_4, hv2_4, h⟩ := H.call h
  refine xq rfl (y_call [.agg (eHand s1.Main).toArray, .agg (eHand s2.Main).toArray] (.int .i64 v2_4) func126 (fun W S => C.s_feHand W hv2_4)) ?_
  refine p 1 ?_
  refine rend ?_
  refine c_seq ?_
  refine c_block ?_
  refine c_seq ?_
  refine r_start ?_
  refine p 1 ?_
  refine xq rfl (y_load (.bool s1.Two) 2 g1_4 13) ?_
  refine p 1 ?_
  refine br s1.Two (fun q4 => ?_) (fun q4 => ?_)
  · replace h := H.t q4 h
    refine o_set 20 (congrArg Value.bool q4) ?_
    refine p 1 ?_
    refine xq rfl (y_load (.bool s2.Two) 3 g1_5 13) ?_
    refine p 2 ?_
    refine rend ?_
    refine c_or s2.Two (fun q5 => ?_) (fun q5 => ?_)
    · replace h := H.t q5 h
      refine c_seq ?_
      refine r_start ?_
      refine p 2 ?_
      refine xq rfl (y_load (.agg (eHand s1.Other).toArray) 2 g1_4 14) ?_
      refine p 1 ?_
      refine xq rfl (y_load (.agg (eHand s2.Other).toArray) 3 g1_5 14) ?_
      obtain ⟨v4_5, hv4_5, h⟩ := H.call h
      refine xq rfl (y_call [.agg (eHand s1.Other).toArray, .agg (eHand s2.Other).toArray] (.int .i64 v4_5) func126 (fun W S => C.s_feHand W hv4_5)) ?_
      refine p 2 ?_
      refine rend ?_
      replace h := H.done h
      subst h
      exact ret func120 rfl (vs := [.int .i64 (wr (v2_4 + v4_5))]) (.tmp (by kernel_rfl) .nil) rfl (fun W S => ⟨rfl, S.below⟩)
    replace h := H.f q5 h
    refine c_seq ?_
    refine r_start ?_
    refine p 1 ?_
    refine xq rfl (y_load (.bool s1.Two) 2 g1_4 13) ?_
    refine p 1 ?_
    refine xq rfl (y_load (.bool s2.Two) 3 g1_5 13) ?_
    refine p 2 ?_
    refine rend ?_
    refine c_or (!(s1.Two == s2.Two)) (fun q6 => ?_) (fun q6 => ?_)
    · replace h := H.t q6 h
      refine c_seq ?_
      refine r_start ?_
      refine p 3 ?_
      refine rend ?_
      replace h := H.done h
      subst h
      exact ret func120 rfl (vs := [.int .i64 (wr (v2_4 + 6))]) (.tmp (by kernel_rfl) .nil) rfl (fun W S => ⟨rfl, S.below⟩)
    replace h := H.f q6 h
    refine c_skip ?_
    refine c_inb ?_
    refine c_seq ?_
    refine r_start ?_
    refine p 2 ?_
    refine rend ?_
    replace h := H.done h
    subst h
    exact ret func120 rfl (vs := [.int .i64 v2_4]) (.tmp (by kernel_rfl) .nil) rfl (fun W S => ⟨rfl, S.below⟩)
  replace h := H.f q4 h
  refine o_set 20 (congrArg Value.bool q4) ?_
  refine p 4 ?_
  refine rend ?_
  refine c_f (by kernel_rfl) ?_
  refine c_seq ?_
  refine r_start ?_
  refine p 1 ?_
  refine xq rfl (y_load (.bool s1.Two) 2 g1_4 13) ?_
  refine p 1 ?_
  refine xq rfl (y_load (.bool s2.Two) 3 g1_5 13) ?_
  refine p 2 ?_
  refine rend ?_
  refine c_or (!(s1.Two == s2.Two)) (fun q7 => ?_) (fun q7 => ?_)
  · replace h := H.t q7 h
    refine c_seq ?_
    refine r_start ?_
    refine p 3 ?_
    refine rend ?_
    replace h := H.done h
    subst h
    exact ret func120 rfl (vs := [.int .i64 (wr (v2_4 + 6))]) (.tmp (by kernel_rfl) .nil) rfl (fun W S => ⟨rfl, S.below⟩)
  replace h := H.f q7 h
  refine c_skip ?_
  refine c_inb ?_
  refine c_seq ?_
  refine r_start ?_
  refine p 2 ?_
  refine rend ?_
  replace h := H.done h
  subst h
  exact ret func120 rfl (vs := [.int .i64 v2_4]) (.tmp (by kernel_rfl) .nil) rfl (fun W S => ⟨rfl, S.below⟩)
theorem C.s_SignDistance {fu : Nat} {a0 : Sign} {a1 : Sign} {r : (Int × Bool)} (w : World) (h : X.s_SignDistance fu a0 a1 = some r) : Calls prog 39 #[.agg (eSign a0).toArray, .agg (eSign a1).toArray] w (Ret w (.tuple #[.int .i64 r.1, .bool r.2])) := by
  refine calls (M := no) (args := [.agg (eSign a0).toArray, .agg (eSign a1).toArray]) func39 rfl ?_
  replace h : H (X.s_SignDistance fu a0 a1) (fun o => o = r) := H.mk h
  unfold X.s_SignDistance at h
  refine c_seq ?_
  refine r_start ?_
  refine xx rfl (x_box (eSign a0) fun g0_0 => ?_)
  refine xx rfl (x_box (eSign a1) fun g0_1 => ?_)
  refine p 2 ?_
  refine rend ?_
  refine c_seq ?_
  refine c_seq ?_
  refine r_start ?_
  refine xq rfl (y_load (.agg (eSign a0).toArray) 0 g0_0 0) ?_
  refine xq rfl (y_load (.agg (eSign a1).toArray) 1 g0_1 0) ?_
  obtain ⟨v1_2, hv1_2, h⟩ := H.call h
  refine xq rfl (y_call [.agg (eSign a0).toArray, .agg (eSign a1).toArray] (.bool v1_2) func119 (fun W S => C.s_feBoth W hv1_2)) ?_
  refine p 1 ?_
  refine rend ?_
  refine c_or (!v1_2) (fun q1 => ?_) (fun q1 => ?_)
  · replace h := H.t q1 h
    refine c_seq ?_
    refine r_start ?_
    refine p 2 ?_
    refine rend ?_
    replace h := H.done h
    subst h
    exact ret func39 rfl (vs := [.int .i64 0, .bool false]) (.tmp (by kernel_rfl) (.tmp (by kernel_rfl) .nil)) rfl (fun W S => ⟨rfl, S.below⟩)
  replace h := H.f q1 h
  refine c_skip ?_
  refine c_seq ?_
  refine r_start ?_
  refine xq rfl (y_load (.agg (eSign a0).toArray) 0 g0_0 0) ?_
  refine xq rfl (y_load (.agg (eSign a1).toArray) 1 g0_1 0) ?_
  obtain ⟨v3_2, hv3_2, h⟩ := H.call h
  refine xq rfl (y_call [.agg (eSign a0).toArray, .agg (eSign a1).toArray] (.int .i64 v3_2) func120 (fun W S => C.s_feFar W hv3_2)) ?_
  refine p 2 ?_
  refine rend ?_
  replace h := H.done h
  subst h
  exact ret func39 rfl (vs := [.int .i64 v3_2, .bool true]) (.tmp (by kernel_rfl) (.tmp (by kernel_rfl) .nil)) rfl (fun W S => ⟨rfl, S.below⟩)
theorem C.s_l1Cur_signList {fu : Nat} {a0 : List Int} {A0 : Option Addr} {k0 g0 : Nat} {t0 s0 : Int} {r : ((List Sign) × Int × Int)} (w : World) (h : X.s_l1Cur_signList fu a0 t0 s0 = some r) (m0 : w.heap[g0]? = some (.cells ([.slice A0 (List.length a0) k0, .int .i64 t0, .int .u64 s0] : List Value).toArray 92 (0, 0))) (h0 : RdT (eI .u8) w (.slice A0 (List.length a0) k0) a0) (q0 : 0 < List.length a0 → ∀ k, (Value.slice A0 (List.length a0) k0).ownBlock = some k → ¬ k = g0) : Calls prog 147 #[.pointer (some ⟨g0, 0, none⟩)] w (RetQR nSign 37 g0 92 [.slice A0 (List.length a0) k0, .int .i64 r.2.1, .int .u64 r.2.2] w r.1 (fun v => v)) := by
  refine callsQ (args := [.pointer (some ⟨g0, 0, none⟩)]) m0 func147 rfl ?_
  replace h : H (X.s_l1Cur_signList fu a0 t0 s0) (fun o => o = r) := H.mk h
  unfold X.s_l1Cur_signList at h
  refine c_seq ?_
  refine r_start ?_
  refine p 1 ?_
  refine rend ?_
  refine c_seq ?_
  refine r_start ?_
  refine p 1 ?_
  refine rend ?_
  refine c_seq ?_
  refine r_start ?_
  refine p 1 ?_
  obtain ⟨v2_1, hv2_1, h⟩ := H.call h
  refine xx rfl (e_cq (cs' := [.slice A0 (List.length a0) k0, .int .i64 v2_1.2.1, .int .u64 v2_1.2.2]) (v := .int .i64 v2_1.1) 0 [.pointer (some ⟨g0, 0, none⟩), .int .i64 6] func123 (fun W S => C.s_l1Cur_pick W hv2_1 (S.bx 0) ((s_argN h0 q0).out W S) q0) ?_)
  refine p 1 ?_
  refine rend ?_
  refine c_seq ?_
  refine c_seq ?_
  refine r_start ?_
  refine p 1 ?_
  obtain ⟨v3_1, hv3_1, h⟩ := H.call h
  refine xx rfl (e_cq (cs' := [.slice A0 (List.length a0) k0, .int .i64 v3_1.2.1, .int .u64 v3_1.2.2]) (v := .bool v3_1.1) 0 [.pointer (some ⟨g0, 0, none⟩), .int .i64 12] func90 (fun W S => C.s_l1Cur_one W hv3_1 (S.bx 0) ((s_argN h0 q0).out W S) q0) ?_)
  refine rend ?_
  refine c_or v3_1.1 (fun q1 => ?_) (fun q1 => ?_)
  · replace h := H.t q1 h
    refine r_start ?_
    refine p 1 ?_
    obtain ⟨v4_1, hv4_1, h⟩ := H.call h
    refine xx rfl (e_cq (cs' := [.slice A0 (List.length a0) k0, .int .i64 v4_1.2.1, .int .u64 v4_1.2.2]) (v := .int .i64 v4_1.1) 0 [.pointer (some ⟨g0, 0, none⟩), .int .i64 2] func123 (fun W S => C.s_l1Cur_pick W hv4_1 (S.bx 0) ((s_argN h0 q0).out W S) q0) ?_)
    refine p 2 ?_
    refine rend ?_
    refine c_seq ?_
    refine c_block ?_
    refine c_nil nSign 37 ?_
    refine joinH (X := (Int × Int × (List Sign) × Option Addr × Nat)) 0 (H.bnd h) (fun ⟨n7, n8, l9, A10, k11⟩ => (n7, n8, l9)) (fun ⟨n7, n8, l9, A10, k11⟩ => [box g0 92 [.slice A0 (List.length a0) k0, .int .i64 n7, .int .u64 n8], rowT nSign w.heap.size 37 (.slice A10 (List.length l9) k11) l9]) (fun ⟨n7, n8, l9, A10, k11⟩ u => (.pointer (some ⟨g0, 0, none⟩) :: (jk u 1 2 (.slice A10 (List.length l9) k11 :: .int .i64 (wr (20 + v4_1.1)) :: (jk u 5 68 []))))) (fun h hj12 => ?_) ?_
    · skip
      refine loopR (X := (Int × Int × (List Sign) × Option Addr × Nat)) (fun ⟨n2, n3, l4, A5, k6⟩ => (n2, n3, l4)) (fun ⟨n2, n3, l4, A5, k6⟩ => [box g0 92 [.slice A0 (List.length a0) k0, .int .i64 n2, .int .u64 n3], rowT nSign w.heap.size 37 (.slice A5 (List.length l4) k6) l4]) (fun ⟨n2, n3, l4, A5, k6⟩ u => (.pointer (some ⟨g0, 0, none⟩) :: (jk u 1 2 (.slice A5 (List.length l4) k6 :: .int .i64 (wr (20 + v4_1.1)) :: (jk u 5 68 []))))) (v4_1.2.1, v4_1.2.2, ([] : List Sign), none, 0) h (by kernel_rfl) (by kernel_rfl) ?_
      intro x u h
      obtain ⟨n2, n3, l4, A5, k6⟩ := x
      refine c_seq ?_
      refine c_seq ?_
      refine r_start ?_
      refine p 4 ?_
      refine rend ?_
      refine c_or (decide ((List.length l4 : Int) < (wr (20 + v4_1.1)))) (fun q13 => ?_) (fun q13 => ?_)
      · replace h := H.t q13 h
        refine c_skip ?_
        refine c_block ?_
        refine c_seq ?_
        refine r_start ?_
        refine p 2 ?_
        obtain ⟨v6_2, hv6_2, h⟩ := H.call h
        refine xx rfl (e_cq (cs' := [.slice A0 (List.length a0) k0, .int .i64 v6_2.2.1, .int .u64 v6_2.2.2]) (v := .agg (eSign v6_2.1).toArray) 0 [.pointer (some ⟨g0, 0, none⟩)] func189 (fun W S => C.s_l1Cur_sign W hv6_2 (S.bx 0) ((s_argN h0 q0).out W S) q0) ?_)
        refine xx rfl (e_lit (e := nSign) (el := 37) [.agg (eSign v6_2.1).toArray] ([v6_2.1] : List Sign) fun A6_3 k6_3 => ?_)
        obtain ⟨y6_4, hy6_4, h⟩ := H.call h
        refine xx rfl (e_app 1 hy6_4 (s_own 2) fun A6_4 k6_4 => ?_)
        refine p 1 ?_
        refine rend ?_
        refine c_seq ?_
        refine r_start ?_
        refine p 3 ?_
        refine rend ?_
        refine c_seq ?_
        refine r_start ?_
        refine p 3 ?_
        refine br (decide ((List.length y6_4 : Int) > 1)) (fun q14 => ?_) (fun q14 => ?_)
        · replace h := H.t q14 h
          refine o_set 26 (congrArg Value.bool q14) ?_
          refine p 1 ?_
          obtain ⟨v8_4, hv8_4, h⟩ := H.call h
          refine xx rfl (e_cq (cs' := [.slice A0 (List.length a0) k0, .int .i64 v8_4.2.1, .int .u64 v8_4.2.2]) (v := .bool v8_4.1) 0 [.pointer (some ⟨g0, 0, none⟩), .int .i64 3] func90 (fun W S => C.s_l1Cur_one W hv8_4 (S.bx 0) ((s_argN h0 q0).out W S) q0) ?_)
          refine p 1 ?_
          refine rend ?_
          refine c_or v8_4.1 (fun q15 => ?_) (fun q15 => ?_)
          · replace h := H.t q15 h
            refine c_seq ?_
            refine r_start ?_
            refine p 6 ?_
            obtain ⟨y9_6, hy9_6, h⟩ := H.call h
            refine xq rfl (y_idx (e := nSign) (el := 37) hy9_6 (s_own 1)) ?_
            refine p 2 ?_
            refine xq rfl (y_el (e := nSign) 11 (.agg (eMove y9_6.Main.Move).toArray) hy9_6 (s_own 1)) ?_
            obtain ⟨y9_10, hy9_10, h⟩ := H.call h
            refine xq rfl (y_idx (e := nSign) (el := 37) hy9_10 (s_own 1)) ?_
            refine p 2 ?_
            refine xx rfl (e_stel (e := nSign) (b := { y9_10 with Main := { y9_10.Main with Move := y9_6.Main.Move } }) 1 11 (eMove y9_6.Main.Move) hy9_10 (by kernel_rfl) ?_)
            refine o_set 3 (sl_set (A := A6_4) (c := k6_4) (l := y6_4) (n := Int.toNat (wr ((List.length y6_4 : Int) - 1))) (b := { y9_10 with Main := { y9_10.Main with Move := y9_6.Main.Move } })) ?_
            refine rend ?_
            refine c_seq ?_
            refine r_start ?_
            refine p 3 ?_
            obtain ⟨y10_3, hy10_3, h⟩ := H.call h
            refine xq rfl (y_idx (e := nSign) (el := 37) hy10_3 (s_own 1)) ?_
            refine xq rfl (y_el (e := nSign) 0 (.agg (eSign y10_3).toArray) hy10_3 (s_own 1)) ?_
            obtain ⟨v10_5, hv10_5, h⟩ := H.call h
            refine xq rfl (y_call [.agg (eSign y10_3).toArray] (.bool v10_5) func91 (fun W S => C.s_siGood W hv10_5)) ?_
            refine p 1 ?_
            refine rend ?_
            refine c_or (!v10_5) (fun q16 => ?_) (fun q16 => ?_)
            · replace h := H.t q16 h
              refine r_start ?_
              refine p 6 ?_
              obtain ⟨y11_6, hy11_6, h⟩ := H.call h
              refine xq rfl (y_idx (e := nSign) (el := 37) hy11_6 (s_own 1)) ?_
              refine xq rfl (y_el (e := nSign) 0 (.agg (eSign y11_6).toArray) hy11_6 (s_own 1)) ?_
              refine xq rfl (y_idx (e := nSign) (el := 37) hy10_3 (s_own 1)) ?_
              refine xx rfl (e_stel (e := nSign) (b := y11_6) 1 0 (eSign y11_6) hy10_3 (by kernel_rfl) ?_)
              refine o_set 3 (sl_set (A := A6_4) (c := k6_4) (l := (List.set y6_4 (Int.toNat (wr ((List.length y6_4 : Int) - 1))) ({ y9_10 with Main := { y9_10.Main with Move := y9_6.Main.Move } }))) (n := Int.toNat (wr ((List.length y6_4 : Int) - 1))) (b := y11_6)) ?_
              refine rend ?_
              refine frg (fun u => (.pointer (some ⟨g0, 0, none⟩) :: (jk u 1 2 (.slice A6_4 (List.length (List.set (List.set y6_4 (Int.toNat (wr ((List.length y6_4 : Int) - 1))) ({ y9_10 with Main := { y9_10.Main with Move := y9_6.Main.Move } })) (Int.toNat (wr ((List.length y6_4 : Int) - 1))) y11_6)) k6_4 :: .int .i64 (wr (20 + v4_1.1)) :: (jk u 5 68 []))))) (by kernel_rfl) fun u => ?_
              refine keep 3 (its' := [box g0 92 [.slice A0 (List.length a0) k0, .int .i64 v8_4.2.1, .int .u64 v8_4.2.2], rowT nSign w.heap.size 37 (.slice A6_4 (List.length (List.set (List.set y6_4 (Int.toNat (wr ((List.length y6_4 : Int) - 1))) ({ y9_10 with Main := { y9_10.Main with Move := y9_6.Main.Move } })) (Int.toNat (wr ((List.length y6_4 : Int) - 1))) y11_6)) k6_4) (List.set (List.set y6_4 (Int.toNat (wr ((List.length y6_4 : Int) - 1))) ({ y9_10 with Main := { y9_10.Main with Move := y9_6.Main.Move } })) (Int.toNat (wr ((List.length y6_4 : Int) - 1))) y11_6), rowT nSign w.heap.size 37 (.slice A6_3 (List.length ([v6_2.1] : List Sign)) k6_3) ([v6_2.1] : List Sign)]) (by kernel_rfl) ?_
              refine c_inb ?_
              replace h := H.inl h
              exact h (v8_4.2.1, v8_4.2.2, (List.set (List.set y6_4 (Int.toNat (wr ((List.length y6_4 : Int) - 1))) ({ y9_10 with Main := { y9_10.Main with Move := y9_6.Main.Move } })) (Int.toNat (wr ((List.length y6_4 : Int) - 1))) y11_6), A6_4, k6_4) _ _ rfl (by kernel_rfl) (by kernel_rfl)
            replace h := H.f q16 h
            refine c_skip ?_
            refine c_inb ?_
            replace h := H.inl h
            exact h (v8_4.2.1, v8_4.2.2, (List.set y6_4 (Int.toNat (wr ((List.length y6_4 : Int) - 1))) ({ y9_10 with Main := { y9_10.Main with Move := y9_6.Main.Move } })), A6_4, k6_4) _ _ rfl (by kernel_rfl) (by kernel_rfl)
          replace h := H.f q15 h
          refine c_skip ?_
          refine c_inb ?_
          replace h := H.inl h
          exact h (v8_4.2.1, v8_4.2.2, y6_4, A6_4, k6_4) _ _ rfl (by kernel_rfl) (by kernel_rfl)
        replace h := H.f q14 h
        refine o_set 26 (congrArg Value.bool q14) ?_
        refine p 3 ?_
        refine rend ?_
        refine c_f (by kernel_rfl) ?_
        refine c_skip ?_
        refine c_inb ?_
        replace h := H.inl h
        exact h (v6_2.2.1, v6_2.2.2, y6_4, A6_4, k6_4) _ _ rfl (by kernel_rfl) (by kernel_rfl)
      replace h := H.f q13 h
      refine cx ?_
      replace h := H.inr h
      exact hj12 (n2, n3, l4, A5, k6) _ _ h (by kernel_rfl) (by kernel_rfl)
    intro x u h
    obtain ⟨n7, n8, l9, A10, k11⟩ := x
    refine c_seq ?_
    refine c_seq ?_
    refine r_start ?_
    refine p 3 ?_
    refine br (decide ((wr (20 + v4_1.1)) > 0)) (fun q17 => ?_) (fun q17 => ?_)
    · replace h := H.t q17 h
      refine o_set 61 (congrArg Value.bool q17) ?_
      refine p 1 ?_
      obtain ⟨v12_4, hv12_4, h⟩ := H.call h
      refine xx rfl (e_cq (cs' := [.slice A0 (List.length a0) k0, .int .i64 v12_4.2.1, .int .u64 v12_4.2.2]) (v := .bool v12_4.1) 0 [.pointer (some ⟨g0, 0, none⟩), .int .i64 20] func90 (fun W S => C.s_l1Cur_one W hv12_4 (S.bx 0) ((s_argN h0 q0).out W S) q0) ?_)
      refine p 1 ?_
      refine rend ?_
      refine c_or v12_4.1 (fun q18 => ?_) (fun q18 => ?_)
      · replace h := H.t q18 h
        refine r_start ?_
        refine p 3 ?_
        obtain ⟨v13_3, hv13_3, h⟩ := H.call h
        refine xx rfl (e_cq (cs' := [.slice A0 (List.length a0) k0, .int .i64 v13_3.2.1, .int .u64 v13_3.2.2]) (v := .int .i64 v13_3.1) 0 [.pointer (some ⟨g0, 0, none⟩), .int .i64 (wr (20 + v4_1.1))] func123 (fun W S => C.s_l1Cur_pick W hv13_3 (S.bx 0) ((s_argN h0 q0).out W S) q0) ?_)
        refine p 1 ?_
        obtain ⟨v13_5, hv13_5, h⟩ := H.call h
        refine xx rfl (e_cq (cs' := [.slice A0 (List.length a0) k0, .int .i64 v13_5.2.1, .int .u64 v13_5.2.2]) (v := .agg (eSign v13_5.1).toArray) 0 [.pointer (some ⟨g0, 0, none⟩)] func116 (fun W S => C.s_l1Cur_anySign W hv13_5 (S.bx 0) ((s_argN h0 q0).out W S) q0) ?_)
        obtain ⟨y13_6, hy13_6, h⟩ := H.call h
        refine xq rfl (y_idx (e := nSign) (el := 37) hy13_6 (s_own 1)) ?_
        refine xx rfl (e_stel (e := nSign) (b := v13_5.1) 1 0 (eSign v13_5.1) hy13_6 (by kernel_rfl) ?_)
        refine o_set 3 (sl_set (A := A10) (c := k11) (l := l9) (n := Int.toNat v13_3.1) (b := v13_5.1)) ?_
        refine rend ?_
        refine c_seq ?_
        refine r_start ?_
        refine p 2 ?_
        refine rend ?_
        replace h := H.done h
        subst h
        exact ret func147 rfl (vs := [.slice A10 (List.length (List.set l9 (Int.toNat v13_3.1) v13_5.1)) k11]) (.tmp (by kernel_rfl) .nil) rfl (fun W S => S.retQR (res := fun v => v) 1 (by decide))
      replace h := H.f q18 h
      refine c_skip ?_
      refine c_seq ?_
      refine r_start ?_
      refine p 2 ?_
      refine rend ?_
      replace h := H.done h
      subst h
      exact ret func147 rfl (vs := [.slice A10 (List.length l9) k11]) (.tmp (by kernel_rfl) .nil) rfl (fun W S => S.retQR (res := fun v => v) 1 (by decide))
    replace h := H.f q17 h
    refine o_set 61 (congrArg Value.bool q17) ?_
    refine p 3 ?_
    refine rend ?_
    refine c_f (by kernel_rfl) ?_
    refine c_skip ?_
    refine c_seq ?_
    refine r_start ?_
    refine p 2 ?_
    refine rend ?_
    replace h := H.done h
    subst h
    exact ret func147 rfl (vs := [.slice A10 (List.length l9) k11]) (.tmp (by kernel_rfl) .nil) rfl (fun W S => S.retQR (res := fun v => v) 1 (by decide))
  replace h := H.f q1 h
  refine c_skip ?_
  refine c_seq ?_
  refine c_block ?_
  refine c_nil nSign 37 ?_
  refine joinH (X := (Int × Int × (List Sign) × Option Addr × Nat)) 0 (H.bnd h) (fun ⟨n24, n25, l26, A27, k28⟩ => (n24, n25, l26)) (fun ⟨n24, n25, l26, A27, k28⟩ => [box g0 92 [.slice A0 (List.length a0) k0, .int .i64 n24, .int .u64 n25], rowT nSign w.heap.size 37 (.slice A27 (List.length l26) k28) l26]) (fun ⟨n24, n25, l26, A27, k28⟩ u => (.pointer (some ⟨g0, 0, none⟩) :: (jk u 1 2 (.slice A27 (List.length l26) k28 :: .int .i64 v2_1.1 :: (jk u 5 68 []))))) (fun h hj29 => ?_) ?_
  · skip
    refine loopR (X := (Int × Int × (List Sign) × Option Addr × Nat)) (fun ⟨n19, n20, l21, A22, k23⟩ => (n19, n20, l21)) (fun ⟨n19, n20, l21, A22, k23⟩ => [box g0 92 [.slice A0 (List.length a0) k0, .int .i64 n19, .int .u64 n20], rowT nSign w.heap.size 37 (.slice A22 (List.length l21) k23) l21]) (fun ⟨n19, n20, l21, A22, k23⟩ u => (.pointer (some ⟨g0, 0, none⟩) :: (jk u 1 2 (.slice A22 (List.length l21) k23 :: .int .i64 v2_1.1 :: (jk u 5 68 []))))) (v3_1.2.1, v3_1.2.2, ([] : List Sign), none, 0) h (by kernel_rfl) (by kernel_rfl) ?_
    intro x u h
    obtain ⟨n19, n20, l21, A22, k23⟩ := x
    refine c_seq ?_
    refine c_seq ?_
    refine r_start ?_
    refine p 4 ?_
    refine rend ?_
    refine c_or (decide ((List.length l21 : Int) < v2_1.1)) (fun q30 => ?_) (fun q30 => ?_)
    · replace h := H.t q30 h
      refine c_skip ?_
      refine c_block ?_
      refine c_seq ?_
      refine r_start ?_
      refine p 2 ?_
      obtain ⟨v6_2, hv6_2, h⟩ := H.call h
      refine xx rfl (e_cq (cs' := [.slice A0 (List.length a0) k0, .int .i64 v6_2.2.1, .int .u64 v6_2.2.2]) (v := .agg (eSign v6_2.1).toArray) 0 [.pointer (some ⟨g0, 0, none⟩)] func189 (fun W S => C.s_l1Cur_sign W hv6_2 (S.bx 0) ((s_argN h0 q0).out W S) q0) ?_)
      refine xx rfl (e_lit (e := nSign) (el := 37) [.agg (eSign v6_2.1).toArray] ([v6_2.1] : List Sign) fun A6_3 k6_3 => ?_)
      obtain ⟨y6_4, hy6_4, h⟩ := H.call h
      refine xx rfl (e_app 1 hy6_4 (s_own 2) fun A6_4 k6_4 => ?_)
      refine p 1 ?_
      refine rend ?_
      refine c_seq ?_
      refine r_start ?_
      refine p 3 ?_
      refine rend ?_
      refine c_seq ?_
      refine r_start ?_
      refine p 3 ?_
      refine br (decide ((List.length y6_4 : Int) > 1)) (fun q31 => ?_) (fun q31 => ?_)
      · replace h := H.t q31 h
        refine o_set 26 (congrArg Value.bool q31) ?_
        refine p 1 ?_
        obtain ⟨v8_4, hv8_4, h⟩ := H.call h
        refine xx rfl (e_cq (cs' := [.slice A0 (List.length a0) k0, .int .i64 v8_4.2.1, .int .u64 v8_4.2.2]) (v := .bool v8_4.1) 0 [.pointer (some ⟨g0, 0, none⟩), .int .i64 3] func90 (fun W S => C.s_l1Cur_one W hv8_4 (S.bx 0) ((s_argN h0 q0).out W S) q0) ?_)
        refine p 1 ?_
        refine rend ?_
        refine c_or v8_4.1 (fun q32 => ?_) (fun q32 => ?_)
        · replace h := H.t q32 h
          refine c_seq ?_
          refine r_start ?_
          refine p 6 ?_
          obtain ⟨y9_6, hy9_6, h⟩ := H.call h
          refine xq rfl (y_idx (e := nSign) (el := 37) hy9_6 (s_own 1)) ?_
          refine p 2 ?_
          refine xq rfl (y_el (e := nSign) 11 (.agg (eMove y9_6.Main.Move).toArray) hy9_6 (s_own 1)) ?_
          obtain ⟨y9_10, hy9_10, h⟩ := H.call h
          refine xq rfl (y_idx (e := nSign) (el := 37) hy9_10 (s_own 1)) ?_
          refine p 2 ?_
          refine xx rfl (e_stel (e := nSign) (b := { y9_10 with Main := { y9_10.Main with Move := y9_6.Main.Move } }) 1 11 (eMove y9_6.Main.Move) hy9_10 (by kernel_rfl) ?_)
          refine o_set 3 (sl_set (A := A6_4) (c := k6_4) (l := y6_4) (n := Int.toNat (wr ((List.length y6_4 : Int) - 1))) (b := { y9_10 with Main := { y9_10.Main with Move := y9_6.Main.Move } })) ?_
          refine rend ?_
          refine c_seq ?_
          refine r_start ?_
          refine p 3 ?_
          obtain ⟨y10_3, hy10_3, h⟩ := H.call h
          refine xq rfl (y_idx (e := nSign) (el := 37) hy10_3 (s_own 1)) ?_
          refine xq rfl (y_el (e := nSign) 0 (.agg (eSign y10_3).toArray) hy10_3 (s_own 1)) ?_
          obtain ⟨v10_5, hv10_5, h⟩ := H.call h
          refine xq rfl (y_call [.agg (eSign y10_3).toArray] (.bool v10_5) func91 (fun W S => C.s_siGood W hv10_5)) ?_
          refine p 1 ?_
          refine rend ?_
          refine c_or (!v10_5) (fun q33 => ?_) (fun q33 => ?_)
          · replace h := H.t q33 h
            refine r_start ?_
            refine p 6 ?_
            obtain ⟨y11_6, hy11_6, h⟩ := H.call h
            refine xq rfl (y_idx (e := nSign) (el := 37) hy11_6 (s_own 1)) ?_
            refine xq rfl (y_el (e := nSign) 0 (.agg (eSign y11_6).toArray) hy11_6 (s_own 1)) ?_
            refine xq rfl (y_idx (e := nSign) (el := 37) hy10_3 (s_own 1)) ?_
            refine xx rfl (e_stel (e := nSign) (b := y11_6) 1 0 (eSign y11_6) hy10_3 (by kernel_rfl) ?_)
            refine o_set 3 (sl_set (A := A6_4) (c := k6_4) (l := (List.set y6_4 (Int.toNat (wr ((List.length y6_4 : Int) - 1))) ({ y9_10 with Main := { y9_10.Main with Move := y9_6.Main.Move } }))) (n := Int.toNat (wr ((List.length y6_4 : Int) - 1))) (b := y11_6)) ?_
            refine rend ?_
            refine c_inb ?_
            replace h := H.inl h
            exact h (v8_4.2.1, v8_4.2.2, (List.set (List.set y6_4 (Int.toNat (wr ((List.length y6_4 : Int) - 1))) ({ y9_10 with Main := { y9_10.Main with Move := y9_6.Main.Move } })) (Int.toNat (wr ((List.length y6_4 : Int) - 1))) y11_6), A6_4, k6_4) _ _ rfl (by kernel_rfl) (by kernel_rfl)
          replace h := H.f q33 h
          refine c_skip ?_
          refine c_inb ?_
          replace h := H.inl h
          exact h (v8_4.2.1, v8_4.2.2, (List.set y6_4 (Int.toNat (wr ((List.length y6_4 : Int) - 1))) ({ y9_10 with Main := { y9_10.Main with Move := y9_6.Main.Move } })), A6_4, k6_4) _ _ rfl (by kernel_rfl) (by kernel_rfl)
        replace h := H.f q32 h
        refine c_skip ?_
        refine c_inb ?_
        replace h := H.inl h
        exact h (v8_4.2.1, v8_4.2.2, y6_4, A6_4, k6_4) _ _ rfl (by kernel_rfl) (by kernel_rfl)
      replace h := H.f q31 h
      refine o_set 26 (congrArg Value.bool q31) ?_
      refine p 3 ?_
      refine rend ?_
      refine c_f (by kernel_rfl) ?_
      refine c_skip ?_
      refine c_inb ?_
      replace h := H.inl h
      exact h (v6_2.2.1, v6_2.2.2, y6_4, A6_4, k6_4) _ _ rfl (by kernel_rfl) (by kernel_rfl)
    replace h := H.f q30 h
    refine cx ?_
    replace h := H.inr h
    exact hj29 (n19, n20, l21, A22, k23) _ _ h (by kernel_rfl) (by kernel_rfl)
  intro x u h
  obtain ⟨n24, n25, l26, A27, k28⟩ := x
  refine c_seq ?_
  refine c_seq ?_
  refine r_start ?_
  refine p 3 ?_
  refine br (decide (v2_1.1 > 0)) (fun q34 => ?_) (fun q34 => ?_)
  · replace h := H.t q34 h
    refine o_set 61 (congrArg Value.bool q34) ?_
    refine p 1 ?_
    obtain ⟨v12_4, hv12_4, h⟩ := H.call h
    refine xx rfl (e_cq (cs' := [.slice A0 (List.length a0) k0, .int .i64 v12_4.2.1, .int .u64 v12_4.2.2]) (v := .bool v12_4.1) 0 [.pointer (some ⟨g0, 0, none⟩), .int .i64 20] func90 (fun W S => C.s_l1Cur_one W hv12_4 (S.bx 0) ((s_argN h0 q0).out W S) q0) ?_)
    refine p 1 ?_
    refine rend ?_
    refine c_or v12_4.1 (fun q35 => ?_) (fun q35 => ?_)
    · replace h := H.t q35 h
      refine r_start ?_
      refine p 3 ?_
      obtain ⟨v13_3, hv13_3, h⟩ := H.call h
      refine xx rfl (e_cq (cs' := [.slice A0 (List.length a0) k0, .int .i64 v13_3.2.1, .int .u64 v13_3.2.2]) (v := .int .i64 v13_3.1) 0 [.pointer (some ⟨g0, 0, none⟩), .int .i64 v2_1.1] func123 (fun W S => C.s_l1Cur_pick W hv13_3 (S.bx 0) ((s_argN h0 q0).out W S) q0) ?_)
      refine p 1 ?_
      obtain ⟨v13_5, hv13_5, h⟩ := H.call h
      refine xx rfl (e_cq (cs' := [.slice A0 (List.length a0) k0, .int .i64 v13_5.2.1, .int .u64 v13_5.2.2]) (v := .agg (eSign v13_5.1).toArray) 0 [.pointer (some ⟨g0, 0, none⟩)] func116 (fun W S => C.s_l1Cur_anySign W hv13_5 (S.bx 0) ((s_argN h0 q0).out W S) q0) ?_)
      obtain ⟨y13_6, hy13_6, h⟩ := H.call h
      refine xq rfl (y_idx (e := nSign) (el := 37) hy13_6 (s_own 1)) ?_
      refine xx rfl (e_stel (e := nSign) (b := v13_5.1) 1 0 (eSign v13_5.1) hy13_6 (by kernel_rfl) ?_)
      refine o_set 3 (sl_set (A := A27) (c := k28) (l := l26) (n := Int.toNat v13_3.1) (b := v13_5.1)) ?_
      refine rend ?_
      refine c_seq ?_
      refine r_start ?_
      refine p 2 ?_
      refine rend ?_
      replace h := H.done h
      subst h
      exact ret func147 rfl (vs := [.slice A27 (List.length (List.set l26 (Int.toNat v13_3.1) v13_5.1)) k28]) (.tmp (by kernel_rfl) .nil) rfl (fun W S => S.retQR (res := fun v => v) 1 (by decide))
    replace h := H.f q35 h
    refine c_skip ?_
    refine c_seq ?_
    refine r_start ?_
    refine p 2 ?_
    refine rend ?_
    replace h := H.done h
    subst h
    exact ret func147 rfl (vs := [.slice A27 (List.length l26) k28]) (.tmp (by kernel_rfl) .nil) rfl (fun W S => S.retQR (res := fun v => v) 1 (by decide))
  replace h := H.f q34 h
  refine o_set 61 (congrArg Value.bool q34) ?_
  refine p 3 ?_
  refine rend ?_
  refine c_f (by kernel_rfl) ?_
  refine c_skip ?_
  refine c_seq ?_
  refine r_start ?_
  refine p 2 ?_
  refine rend ?_
  replace h := H.done h
  subst h
  exact ret func147 rfl (vs := [.slice A27 (List.length l26) k28]) (.tmp (by kernel_rfl) .nil) rfl (fun W S => S.retQR (res := fun v => v) 1 (by decide))
theorem C.s_DrawNearestSign {fu : Nat} {a0 : (List Int)} {A0 : Option Addr} {k0 : Nat} {r : ((List Sign) × Sign)} (w : World) (h : X.s_DrawNearestSign fu a0 = some r) (h0 : RdT (eI .u8) w (.slice A0 (List.length a0) k0) a0) : Calls prog 72 #[.slice A0 (List.length a0) k0] w (RetR nSign 37 w r.1 (fun v => .tuple #[v, .agg (eSign r.2).toArray])) := by
  refine calls (M := no) (args := [.slice A0 (List.length a0) k0]) func72 rfl ?_
  replace h : H (X.s_DrawNearestSign fu a0) (fun o => o = r) := H.mk h
  unfold X.s_DrawNearestSign at h
  refine c_seq ?_
  refine r_start ?_
  refine p 1 ?_
  refine xx rfl (x_new (eSign zSign) fun g0_1 => ?_)
  refine rend ?_
  refine c_seq ?_
  refine r_start ?_
  refine p 2 ?_
  refine xx rfl (x_box [.slice A0 (List.length a0) k0, .int .i64 0, .int .u64 0] fun g1_2 => ?_)
  refine p 1 ?_
  refine rend ?_
  refine c_seq ?_
  refine r_start ?_
  refine p 1 ?_
  obtain ⟨v2_1, hv2_1, h⟩ := H.call h
  refine xx rfl (e_cqR (cs' := [.slice A0 (List.length a0) k0, .int .i64 v2_1.2.1, .int .u64 v2_1.2.2]) 1 [.pointer (some ⟨g1_2, 0, none⟩)] (fun v => v) func147 (fun W S => C.s_l1Cur_signList W hv2_1 (S.bx 1) ((s_arg h0).out W S) (ap_arg h0 S 1)) fun A2_1 k2_1 => ?_)
  refine p 1 ?_
  refine rend ?_
  refine c_seq ?_
  refine c_seq ?_
  refine r_start ?_
  refine p 3 ?_
  refine rend ?_
  refine c_seq ?_
  refine r_start ?_
  refine p 3 ?_
  refine br (decide ((List.length v2_1.1 : Int) > 0)) (fun q1 => ?_) (fun q1 => ?_)
  · replace h := H.t q1 h
    refine o_set 16 (congrArg Value.bool q1) ?_
    refine p 1 ?_
    obtain ⟨v4_4, hv4_4, h⟩ := H.call h
    refine xx rfl (e_cq (cs' := [.slice A0 (List.length a0) k0, .int .i64 v4_4.2.1, .int .u64 v4_4.2.2]) (v := .bool v4_4.1) 1 [.pointer (some ⟨g1_2, 0, none⟩), .int .i64 3] func90 (fun W S => C.s_l1Cur_one W hv4_4 (S.bx 1) ((s_arg h0).out W S) (ap_arg h0 S 1)) ?_)
    refine p 1 ?_
    refine rend ?_
    refine c_or v4_4.1 (fun q2 => ?_) (fun q2 => ?_)
    · replace h := H.t q2 h
      refine c_seq ?_
      refine pick [0, 2, 1] [box g0_1 37 (eSign zSign), rowT nSign w.heap.size 37 (.slice A2_1 (List.length v2_1.1) k2_1) v2_1.1, box g1_2 92 [.slice A0 (List.length a0) k0, .int .i64 v4_4.2.1, .int .u64 v4_4.2.2]] ?_
      refine as_startN 8 2 9 ?_
      refine ap 0 4 ?_
      obtain ⟨v5_4, hv5_4, h⟩ := H.call h
      refine ax 4 rfl (e_cq (cs' := [.slice A0 (List.length a0) k0, .int .i64 v5_4.2.1, .int .u64 v5_4.2.2]) (v := .int .i64 v5_4.1) 2 [.pointer (some ⟨g1_2, 0, none⟩), .int .i64 (List.length v2_1.1 : Int)] func123 (fun W S => C.s_l1Cur_pick W hv5_4 (S.bx 2) ((s_arg h0).out W S) (ap_arg h0 S 2)) ⟨.inr (by kernel_rfl), ?_⟩)
      obtain ⟨y5_5, hy5_5, h⟩ := H.call h
      refine aq 5 rfl (y_idx (e := nSign) (el := 37) hy5_5 (s_own 1)) ?_
      refine aq 6 rfl (y_el (e := nSign) 0 (.agg (eSign y5_5).toArray) hy5_5 (s_own 1)) ?_
      refine ap 7 1 ?_
      refine ax 8 rfl (x_sto 0 g0_1 0 (eSign y5_5) ⟨.inl (by kernel_rfl), ?_⟩)
      refine a_done ?_
      refine pick [0, 2, 1] [box g0_1 37 (eSign y5_5), box g1_2 92 [.slice A0 (List.length a0) k0, .int .i64 v5_4.2.1, .int .u64 v5_4.2.2], rowT nSign w.heap.size 37 (.slice A2_1 (List.length v2_1.1) k2_1) v2_1.1] ?_
      replace h := H.done h
      subst h
      exact ret func72 rfl (vs := [.slice A2_1 (List.length v2_1.1) k2_1, .agg (eSign y5_5).toArray]) (.tmp (by kernel_rfl) (.cell 0 g0_1 rfl (by kernel_rfl) (by kernel_rfl) .nil)) rfl (fun W S => ⟨_, _, rfl, S.row 2, S.below⟩)
    replace h := H.f q2 h
    refine c_skip ?_
    refine c_seq ?_
    refine r_start ?_
    refine p 2 ?_
    obtain ⟨v6_2, hv6_2, h⟩ := H.call h
    refine xx rfl (e_cq (cs' := [.slice A0 (List.length a0) k0, .int .i64 v6_2.2.1, .int .u64 v6_2.2.2]) (v := .agg (eSign v6_2.1).toArray) 1 [.pointer (some ⟨g1_2, 0, none⟩)] func116 (fun W S => C.s_l1Cur_anySign W hv6_2 (S.bx 1) ((s_arg h0).out W S) (ap_arg h0 S 1)) ?_)
    refine p 1 ?_
    refine xx rfl (x_sto 0 g0_1 0 (eSign v6_2.1) ?_)
    refine rend ?_
    replace h := H.done h
    subst h
    exact ret func72 rfl (vs := [.slice A2_1 (List.length v2_1.1) k2_1, .agg (eSign v6_2.1).toArray]) (.tmp (by kernel_rfl) (.cell 0 g0_1 rfl (by kernel_rfl) (by kernel_rfl) .nil)) rfl (fun W S => ⟨_, _, rfl, S.row 2, S.below⟩)
  replace h := H.f q1 h
  refine o_set 16 (congrArg Value.bool q1) ?_
  refine p 3 ?_
  refine rend ?_
  refine c_f (by kernel_rfl) ?_
  refine c_skip ?_
  refine c_seq ?_
  refine r_start ?_
  refine p 2 ?_
  obtain ⟨v6_2, hv6_2, h⟩ := H.call h
  refine xx rfl (e_cq (cs' := [.slice A0 (List.length a0) k0, .int .i64 v6_2.2.1, .int .u64 v6_2.2.2]) (v := .agg (eSign v6_2.1).toArray) 1 [.pointer (some ⟨g1_2, 0, none⟩)] func116 (fun W S => C.s_l1Cur_anySign W hv6_2 (S.bx 1) ((s_arg h0).out W S) (ap_arg h0 S 1)) ?_)
  refine p 1 ?_
  refine xx rfl (x_sto 0 g0_1 0 (eSign v6_2.1) ?_)
  refine rend ?_
  replace h := H.done h
  subst h
  exact ret func72 rfl (vs := [.slice A2_1 (List.length v2_1.1) k2_1, .agg (eSign v6_2.1).toArray]) (.tmp (by kernel_rfl) (.cell 0 g0_1 rfl (by kernel_rfl) (by kernel_rfl) .nil)) rfl (fun W S => ⟨_, _, rfl, S.row 2, S.below⟩)
theorem C.i_NearestSign {fu : Nat} {a0 : (List Sign)} {A0 : Option Addr} {k0 : Nat} {a1 : Sign} {r : (Int × Int × Bool)} (w : World) (h : X.i_NearestSign fu a0 a1 = some r) (h0 : RdT nSign w (.slice A0 (List.length a0) k0) a0) : Calls prog 73 #[.slice A0 (List.length a0) k0, .agg (eSign a1).toArray] w (Ret w (.tuple #[.int .i64 r.1, .int .i64 r.2.1, .bool r.2.2])) := by
  refine calls (M := no) (args := [.slice A0 (List.length a0) k0, .agg (eSign a1).toArray]) func73 rfl ?_
  replace h : H (X.i_NearestSign fu a0 a1) (fun o => o = r) := H.mk h
  unfold X.i_NearestSign at h
  refine c_seq ?_
  refine r_start ?_
  refine xx rfl (x_box (eSign a1) fun g0_0 => ?_)
  refine p 3 ?_
  refine rend ?_
  refine c_seq ?_
  refine c_seq ?_
  refine r_start ?_
  refine p 4 ?_
  refine br ((List.length a0 : Int) == 0) (fun q1 => ?_) (fun q1 => ?_)
  · replace h := H.t q1 h
    refine o_set 13 (congrArg Value.bool q1) ?_
    refine p 9 ?_
    refine rend ?_
    refine c_t (by kernel_rfl) ?_
    refine c_seq ?_
    refine r_start ?_
    refine p 3 ?_
    refine rend ?_
    replace h := H.done h
    subst h
    exact ret func73 rfl (vs := [.int .i64 0, .int .i64 0, .bool false]) (.tmp (by kernel_rfl) (.tmp (by kernel_rfl) (.tmp (by kernel_rfl) .nil))) rfl (fun W S => ⟨rfl, S.below⟩)
  replace h := H.f q1 h
  refine o_set 13 (congrArg Value.bool q1) ?_
  refine p 1 ?_
  obtain ⟨v1_5, hv1_5, h⟩ := H.call h
  refine xq rfl (y_call [.slice A0 (List.length a0) k0, .int .i64 20] (.bool v1_5) func132 (fun W S => C.i_areSigns W hv1_5 ((s_arg h0).out W S))) ?_
  refine p 3 ?_
  refine br (!v1_5) (fun q2 => ?_) (fun q2 => ?_)
  · replace h := H.t q2 h
    refine o_set 18 (congrArg Value.bool q2) ?_
    refine p 4 ?_
    refine rend ?_
    refine c_t (by kernel_rfl) ?_
    refine c_seq ?_
    refine r_start ?_
    refine p 3 ?_
    refine rend ?_
    replace h := H.done h
    subst h
    exact ret func73 rfl (vs := [.int .i64 0, .int .i64 0, .bool false]) (.tmp (by kernel_rfl) (.tmp (by kernel_rfl) (.tmp (by kernel_rfl) .nil))) rfl (fun W S => ⟨rfl, S.below⟩)
  replace h := H.f q2 h
  refine o_set 18 (congrArg Value.bool q2) ?_
  refine xq rfl (y_load (.agg (eSign a1).toArray) 0 g0_0 0) ?_
  obtain ⟨v1_10, hv1_10, h⟩ := H.call h
  refine xq rfl (y_call [.agg (eSign a1).toArray] (.bool v1_10) func19 (fun W S => C.i_IsSign W hv1_10)) ?_
  refine p 2 ?_
  refine rend ?_
  refine c_or (!v1_10) (fun q3 => ?_) (fun q3 => ?_)
  · replace h := H.t q3 h
    refine c_seq ?_
    refine r_start ?_
    refine p 3 ?_
    refine rend ?_
    replace h := H.done h
    subst h
    exact ret func73 rfl (vs := [.int .i64 0, .int .i64 0, .bool false]) (.tmp (by kernel_rfl) (.tmp (by kernel_rfl) (.tmp (by kernel_rfl) .nil))) rfl (fun W S => ⟨rfl, S.below⟩)
  replace h := H.f q3 h
  refine c_skip ?_
  refine c_seq ?_
  refine r_start ?_
  refine p 1 ?_
  refine rend ?_
  refine c_seq ?_
  refine c_seq ?_
  refine r_start ?_
  refine p 3 ?_
  refine rend ?_
  refine c_block ?_
  refine joinH (X := Int) 0 (H.bnd h) (fun (x : Int) => x) (fun n5 => [box g0_0 37 (eSign a1)]) (fun n5 u => (.slice A0 (List.length a0) k0 :: (jk u 1 2 (.pointer (some ⟨g0_0, 0, none⟩) :: (jk u 4 3 (.int .i64 n5 :: (jk u 8 41 []))))))) (fun h hj6 => ?_) ?_
  · skip
    refine rangeR (X := Int) (s_arg h0) (fun (x : Int) => x) (fun n4 => [box g0_0 37 (eSign a1)]) (fun (j7 : Nat) n4 u => (.slice A0 (List.length a0) k0 :: (jk u 1 2 (.pointer (some ⟨g0_0, 0, none⟩) :: (jk u 4 3 (.int .i64 n4 :: (jk u 8 15 (.slice A0 (List.length a0) k0 :: .int .i64 (List.length a0 : Int) :: .int .i64 (j7 : Int) :: (jk u 26 23 []))))))))) 0 h (by kernel_rfl) (by kernel_rfl) ?_ ?_
    · intro j7 n4 u x8 q9 hg10 hw11 h
      refine c_seq ?_
      refine r_start ?_
      refine p 1 ?_
      refine rend ?_
      refine c_seq ?_
      refine c_yes q9 ?_
      refine c_skip ?_
      refine c_seq ?_
      refine c_block ?_
      refine c_seq ?_
      refine r_start ?_
      refine p 1 ?_
      refine xq rfl (y_idx (e := nSign) (el := 37) hg10 (s_arg h0)) ?_
      refine xq rfl (y_el (e := nSign) 0 (.agg (eSign x8).toArray) hg10 (s_arg h0)) ?_
      refine xx rfl (x_new (eSign zSign) fun g6_3 => ?_)
      refine p 1 ?_
      refine xx rfl (x_sto 1 g6_3 0 (eSign x8) ?_)
      refine rend ?_
      refine c_seq ?_
      refine as_start 10 10 ?_
      refine aq 0 rfl (y_load (.agg (eSign x8).toArray) 1 g6_3 0) ?_
      refine aq 1 rfl (y_load (.agg (eSign a1).toArray) 0 g0_0 0) ?_
      obtain ⟨v7_2, hv7_2, h⟩ := H.call h
      refine aq 2 rfl (y_call [.agg (eSign x8).toArray, .agg (eSign a1).toArray] (.int .i64 v7_2) func118 (fun W S => C.i_Sign_distance W hv7_2)) ?_
      refine ap 3 2 ?_
      obtain ⟨y7_5, hy7_5, h⟩ := H.call h
      refine aq 5 rfl (y_idx (e := nSign) (el := 37) hy7_5 (s_arg h0)) ?_
      refine aq 6 rfl (y_el (e := nSign) 0 (.agg (eSign y7_5).toArray) hy7_5 (s_arg h0)) ?_
      refine aq 7 rfl (y_load (.agg (eSign a1).toArray) 0 g0_0 0) ?_
      obtain ⟨v7_8, hv7_8, h⟩ := H.call h
      refine aq 8 rfl (y_call [.agg (eSign y7_5).toArray, .agg (eSign a1).toArray] (.int .i64 v7_8) func118 (fun W S => C.i_Sign_distance W hv7_8)) ?_
      refine ap 9 1 ?_
      refine a_done ?_
      refine c_or (decide (v7_2 < v7_8)) (fun q12 => ?_) (fun q12 => ?_)
      · replace h := H.t q12 h
        refine r_start ?_
        refine p 2 ?_
        refine rend ?_
        refine c_inb ?_
        refine r_start ?_
        refine p 2 ?_
        refine rend ?_
        refine c_set 25 (ci hw11) ?_
        replace h := H.inl h
        exact h (j7 : Int) _ _ rfl (by kernel_rfl) (by kernel_rfl)
      replace h := H.f q12 h
      refine c_skip ?_
      refine c_inb ?_
      refine r_start ?_
      refine p 2 ?_
      refine rend ?_
      refine c_set 25 (ci hw11) ?_
      replace h := H.inl h
      exact h n4 _ _ rfl (by kernel_rfl) (by kernel_rfl)
    · intro n4 u q9 h
      refine c_seq ?_
      refine r_start ?_
      refine p 1 ?_
      refine rend ?_
      refine c_seq ?_
      refine c_no q9 ?_
      refine cx ?_
      replace h := H.done h
      exact hj6 n4 _ _ h (by kernel_rfl) (by kernel_rfl)
  intro n5 u h
  refine c_seq ?_
  refine as_start 10 10 ?_
  refine ap 0 3 ?_
  obtain ⟨y10_3, hy10_3, h⟩ := H.call h
  refine aq 3 rfl (y_idx (e := nSign) (el := 37) hy10_3 (s_arg h0)) ?_
  refine aq 4 rfl (y_el (e := nSign) 0 (.agg (eSign y10_3).toArray) hy10_3 (s_arg h0)) ?_
  refine aq 5 rfl (y_load (.agg (eSign a1).toArray) 0 g0_0 0) ?_
  obtain ⟨v10_6, hv10_6, h⟩ := H.call h
  refine aq 6 rfl (y_call [.agg (eSign y10_3).toArray, .agg (eSign a1).toArray] (.int .i64 v10_6) func118 (fun W S => C.i_Sign_distance W hv10_6)) ?_
  refine ap 7 3 ?_
  refine a_done ?_
  replace h := H.done h
  subst h
  exact ret func73 rfl (vs := [.int .i64 n5, .int .i64 v10_6, .bool true]) (.tmp (by kernel_rfl) (.tmp (by kernel_rfl) (.tmp (by kernel_rfl) .nil))) rfl (fun W S => ⟨rfl, S.below⟩)
theorem C.s_paList {fu : Nat} {a0 : (List Sign)} {A0 : Option Addr} {k0 : Nat} {r : Bool} (w : World) (h : X.s_paList fu a0 = some r) (h0 : RdT nSign w (.slice A0 (List.length a0) k0) a0) : Calls prog 148 #[.slice A0 (List.length a0) k0] w (Ret w (.bool r)) := by
  refine calls (M := no) (args := [.slice A0 (List.length a0) k0]) func148 rfl ?_
  replace h : H (X.s_paList fu a0) (fun o => o = r) := H.mk h
  unfold X.s_paList at h
  refine c_seq ?_
  refine r_start ?_
  refine p 1 ?_
  refine rend ?_
  refine c_seq ?_
  refine c_seq ?_
  refine r_start ?_
  refine p 3 ?_
  refine rend ?_
  refine c_block ?_
  refine joinE (X := Unit) 0 (H.or h) (fun (x : Unit) => x) (fun _ => []) (fun _ u => (.slice A0 (List.length a0) k0 :: (jk u 1 17 []))) (fun h hj1 => ?_) ?_
  · skip
    refine rangeR (X := Unit) (s_arg h0) (fun (x : Unit) => x) (fun _ => []) (fun (j2 : Nat) _ u => (.slice A0 (List.length a0) k0 :: (jk u 1 4 (.slice A0 (List.length a0) k0 :: .int .i64 (List.length a0 : Int) :: .int .i64 (j2 : Int) :: (jk u 8 10 []))))) () h (by kernel_rfl) (by kernel_rfl) ?_ ?_
    · intro j2 x u x3 q4 hg5 hw6 h
      refine c_seq ?_
      refine r_start ?_
      refine p 1 ?_
      refine rend ?_
      refine c_seq ?_
      refine c_yes q4 ?_
      refine c_skip ?_
      refine c_seq ?_
      refine c_block ?_
      refine c_seq ?_
      refine r_start ?_
      refine xq rfl (y_idx (e := nSign) (el := 37) hg5 (s_arg h0)) ?_
      refine xq rfl (y_el (e := nSign) 0 (.agg (eSign x3).toArray) hg5 (s_arg h0)) ?_
      refine xx rfl (x_new (eSign zSign) fun g3_2 => ?_)
      refine xx rfl (x_sto 0 g3_2 0 (eSign x3) ?_)
      refine rend ?_
      refine c_seq ?_
      refine r_start ?_
      refine xq rfl (y_load (.agg (eSign x3).toArray) 0 g3_2 0) ?_
      obtain ⟨v4_1, hv4_1, h⟩ := H.call h
      refine xq rfl (y_call [.agg (eSign x3).toArray] (.bool v4_1) func91 (fun W S => C.s_siGood W hv4_1)) ?_
      refine p 1 ?_
      refine rend ?_
      refine c_or (!v4_1) (fun q7 => ?_) (fun q7 => ?_)
      · replace h := H.t q7 h
        refine c_seq ?_
        refine r_start ?_
        refine p 1 ?_
        refine rend ?_
        replace h := H.inr h
        replace h := H.done h
        subst h
        exact ret func148 rfl (vs := [.bool false]) (.tmp (by kernel_rfl) .nil) rfl (fun W S => ⟨rfl, S.below⟩)
      replace h := H.f q7 h
      refine c_skip ?_
      refine c_inb ?_
      refine r_start ?_
      refine p 2 ?_
      refine rend ?_
      refine c_set 7 (ci hw6) ?_
      replace h := H.inl h
      exact h () _ _ rfl (by kernel_rfl) (by kernel_rfl)
    · intro x u q4 h
      refine c_seq ?_
      refine r_start ?_
      refine p 1 ?_
      refine rend ?_
      refine c_seq ?_
      refine c_no q4 ?_
      refine cx ?_
      replace h := H.done h
      exact hj1 () _ _ h (by kernel_rfl) (by kernel_rfl)
  intro x u h
  refine c_seq ?_
  refine r_start ?_
  refine p 4 ?_
  refine rend ?_
  replace h := H.done h
  subst h
  exact ret func148 rfl (vs := [.bool (decide ((List.length a0 : Int) ≤ 20))]) (.tmp (by kernel_rfl) .nil) rfl (fun W S => ⟨rfl, S.below⟩)
theorem C.s_NearestSign {fu : Nat} {a0 : (List Sign)} {A0 : Option Addr} {k0 : Nat} {a1 : Sign} {r : (Int × Int × Bool)} (w : World) (h : X.s_NearestSign fu a0 a1 = some r) (h0 : RdT nSign w (.slice A0 (List.length a0) k0) a0) : Calls prog 74 #[.slice A0 (List.length a0) k0, .agg (eSign a1).toArray] w (Ret w (.tuple #[.int .i64 r.1, .int .i64 r.2.1, .bool r.2.2])) := by
  refine calls (M := no) (args := [.slice A0 (List.length a0) k0, .agg (eSign a1).toArray]) func74 rfl ?_
  replace h : H (X.s_NearestSign fu a0 a1) (fun o => o = r) := H.mk h
  unfold X.s_NearestSign at h
  refine c_seq ?_
  refine r_start ?_
  refine xx rfl (x_box (eSign a1) fun g0_0 => ?_)
  refine p 3 ?_
  refine rend ?_
  refine c_seq ?_
  refine c_seq ?_
  refine r_start ?_
  refine p 1 ?_
  obtain ⟨v1_1, hv1_1, h⟩ := H.call h
  refine xq rfl (y_call [.slice A0 (List.length a0) k0] (.bool v1_1) func148 (fun W S => C.s_paList W hv1_1 ((s_arg h0).out W S))) ?_
  refine p 2 ?_
  refine br (!v1_1) (fun q1 => ?_) (fun q1 => ?_)
  · replace h := H.t q1 h
    refine o_set 15 (congrArg Value.bool q1) ?_
    refine p 9 ?_
    refine rend ?_
    refine c_t (by kernel_rfl) ?_
    refine c_seq ?_
    refine r_start ?_
    refine p 3 ?_
    refine rend ?_
    replace h := H.done h
    subst h
    exact ret func74 rfl (vs := [.int .i64 0, .int .i64 0, .bool false]) (.tmp (by kernel_rfl) (.tmp (by kernel_rfl) (.tmp (by kernel_rfl) .nil))) rfl (fun W S => ⟨rfl, S.below⟩)
  replace h := H.f q1 h
  refine o_set 15 (congrArg Value.bool q1) ?_
  refine xq rfl (y_load (.agg (eSign a1).toArray) 0 g0_0 0) ?_
  obtain ⟨v1_5, hv1_5, h⟩ := H.call h
  refine xq rfl (y_call [.agg (eSign a1).toArray] (.bool v1_5) func91 (fun W S => C.s_siGood W hv1_5)) ?_
  refine p 3 ?_
  refine br (!v1_5) (fun q2 => ?_) (fun q2 => ?_)
  · replace h := H.t q2 h
    refine o_set 20 (congrArg Value.bool q2) ?_
    refine p 4 ?_
    refine rend ?_
    refine c_t (by kernel_rfl) ?_
    refine c_seq ?_
    refine r_start ?_
    refine p 3 ?_
    refine rend ?_
    replace h := H.done h
    subst h
    exact ret func74 rfl (vs := [.int .i64 0, .int .i64 0, .bool false]) (.tmp (by kernel_rfl) (.tmp (by kernel_rfl) (.tmp (by kernel_rfl) .nil))) rfl (fun W S => ⟨rfl, S.below⟩)
  replace h := H.f q2 h
  refine o_set 20 (congrArg Value.bool q2) ?_
  refine p 4 ?_
  refine rend ?_
  refine c_or ((List.length a0 : Int) == 0) (fun q3 => ?_) (fun q3 => ?_)
  · replace h := H.t q3 h
    refine c_seq ?_
    refine r_start ?_
    refine p 3 ?_
    refine rend ?_
    replace h := H.done h
    subst h
    exact ret func74 rfl (vs := [.int .i64 0, .int .i64 0, .bool false]) (.tmp (by kernel_rfl) (.tmp (by kernel_rfl) (.tmp (by kernel_rfl) .nil))) rfl (fun W S => ⟨rfl, S.below⟩)
  replace h := H.f q3 h
  refine c_skip ?_
  refine c_seq ?_
  refine as_start 7 7 ?_
  refine ap 0 1 ?_
  obtain ⟨y3_1, hy3_1, h⟩ := H.call h
  refine aq 1 rfl (y_idx (e := nSign) (el := 37) hy3_1 (s_arg h0)) ?_
  refine aq 2 rfl (y_el (e := nSign) 0 (.agg (eSign y3_1).toArray) hy3_1 (s_arg h0)) ?_
  refine aq 3 rfl (y_load (.agg (eSign a1).toArray) 0 g0_0 0) ?_
  obtain ⟨v3_4, hv3_4, h⟩ := H.call h
  refine aq 4 rfl (y_call [.agg (eSign y3_1).toArray, .agg (eSign a1).toArray] (.int .i64 v3_4) func120 (fun W S => C.s_feFar W hv3_4)) ?_
  refine ap 5 2 ?_
  refine a_done ?_
  refine c_seq ?_
  refine c_seq ?_
  refine r_start ?_
  refine p 3 ?_
  refine rend ?_
  refine c_block ?_
  refine joinH (X := (Int × Int)) 0 (H.bnd h) (fun (x : (Int × Int)) => x) (fun ⟨n6, n7⟩ => [box g0_0 37 (eSign a1)]) (fun ⟨n6, n7⟩ u => (jk u 0 7 (.int .i64 n6 :: .int .i64 n7 :: (jk u 9 39 [])))) (fun h hj8 => ?_) ?_
  · skip
    refine rangeR (X := (Int × Int)) (s_arg h0) (fun (x : (Int × Int)) => x) (fun ⟨n4, n5⟩ => [box g0_0 37 (eSign a1)]) (fun (j9 : Nat) ⟨n4, n5⟩ u => (jk u 0 3 (.pointer (some ⟨g0_0, 0, none⟩) :: (jk u 4 3 (.int .i64 n4 :: .int .i64 n5 :: (jk u 9 21 (.slice A0 (List.length a0) k0 :: .int .i64 (List.length a0 : Int) :: .int .i64 (j9 : Int) :: (jk u 33 15 [])))))))) (0, v3_4) h (by kernel_rfl) (by kernel_rfl) ?_ ?_
    · intro j9 x u x10 q11 hg12 hw13 h
      obtain ⟨n4, n5⟩ := x
      refine c_seq ?_
      refine r_start ?_
      refine p 1 ?_
      refine rend ?_
      refine c_seq ?_
      refine c_yes q11 ?_
      refine c_skip ?_
      refine c_seq ?_
      refine c_block ?_
      refine c_seq ?_
      refine r_start ?_
      refine p 1 ?_
      refine xq rfl (y_idx (e := nSign) (el := 37) hg12 (s_arg h0)) ?_
      refine xq rfl (y_el (e := nSign) 0 (.agg (eSign x10).toArray) hg12 (s_arg h0)) ?_
      refine xx rfl (x_new (eSign zSign) fun g6_3 => ?_)
      refine p 1 ?_
      refine xx rfl (x_sto 1 g6_3 0 (eSign x10) ?_)
      refine rend ?_
      refine c_seq ?_
      refine r_start ?_
      refine xq rfl (y_load (.agg (eSign x10).toArray) 1 g6_3 0) ?_
      refine xq rfl (y_load (.agg (eSign a1).toArray) 0 g0_0 0) ?_
      obtain ⟨v7_2, hv7_2, h⟩ := H.call h
      refine xq rfl (y_call [.agg (eSign x10).toArray, .agg (eSign a1).toArray] (.int .i64 v7_2) func120 (fun W S => C.s_feFar W hv7_2)) ?_
      refine p 1 ?_
      refine rend ?_
      refine c_seq ?_
      refine r_start ?_
      refine p 3 ?_
      refine rend ?_
      refine c_or (decide (v7_2 < n5)) (fun q14 => ?_) (fun q14 => ?_)
      · replace h := H.t q14 h
        refine c_seq ?_
        refine r_start ?_
        refine p 2 ?_
        refine rend ?_
        refine r_start ?_
        refine p 2 ?_
        refine rend ?_
        refine c_inb ?_
        refine r_start ?_
        refine p 2 ?_
        refine rend ?_
        refine c_set 32 (ci hw13) ?_
        replace h := H.inl h
        exact h ((j9 : Int), v7_2) _ _ rfl (by kernel_rfl) (by kernel_rfl)
      replace h := H.f q14 h
      refine c_skip ?_
      refine c_inb ?_
      refine r_start ?_
      refine p 2 ?_
      refine rend ?_
      refine c_set 32 (ci hw13) ?_
      replace h := H.inl h
      exact h (n4, n5) _ _ rfl (by kernel_rfl) (by kernel_rfl)
    · intro x u q11 h
      obtain ⟨n4, n5⟩ := x
      refine c_seq ?_
      refine r_start ?_
      refine p 1 ?_
      refine rend ?_
      refine c_seq ?_
      refine c_no q11 ?_
      refine cx ?_
      replace h := H.done h
      exact hj8 (n4, n5) _ _ h (by kernel_rfl) (by kernel_rfl)
  intro x u h
  obtain ⟨n6, n7⟩ := x
  refine c_seq ?_
  refine r_start ?_
  refine p 5 ?_
  refine rend ?_
  replace h := H.done h
  subst h
  exact ret func74 rfl (vs := [.int .i64 n6, .int .i64 n7, .bool true]) (.tmp (by kernel_rfl) (.tmp (by kernel_rfl) (.tmp (by kernel_rfl) .nil))) rfl (fun W S => ⟨rfl, S.below⟩)
theorem C.s_DrawSignsWithin {fu : Nat} {a0 : (List Int)} {A0 : Option Addr} {k0 : Nat} {r : ((List Sign) × Sign × Int)} (w : World) (h : X.s_DrawSignsWithin fu a0 = some r) (h0 : RdT (eI .u8) w (.slice A0 (List.length a0) k0) a0) : Calls prog 75 #[.slice A0 (List.length a0) k0] w (RetR nSign 37 w r.1 (fun v => .tuple #[v, .agg (eSign r.2.1).toArray, .int .i64 r.2.2])) := by
  refine calls (M := no) (args := [.slice A0 (List.length a0) k0]) func75 rfl ?_
  replace h : H (X.s_DrawSignsWithin fu a0) (fun o => o = r) := H.mk h
  unfold X.s_DrawSignsWithin at h
  refine c_seq ?_
  refine r_start ?_
  refine p 1 ?_
  refine xx rfl (x_new (eSign zSign) fun g0_1 => ?_)
  refine p 1 ?_
  refine rend ?_
  refine c_seq ?_
  refine r_start ?_
  refine p 2 ?_
  refine xx rfl (x_box [.slice A0 (List.length a0) k0, .int .i64 0, .int .u64 0] fun g1_2 => ?_)
  refine p 1 ?_
  refine rend ?_
  refine c_seq ?_
  refine r_start ?_
  refine p 1 ?_
  obtain ⟨v2_1, hv2_1, h⟩ := H.call h
  refine xx rfl (e_cr [.slice A0 (List.length a0) k0] (fun v => .tuple #[v, .agg (eSign v2_1.2).toArray]) func72 (fun W S => C.s_DrawNearestSign W hv2_1 ((s_arg h0).out W S)) fun A2_1 k2_1 => ?_)
  refine p 3 ?_
  refine xx rfl (x_new (eSign zSign) fun g2_5 => ?_)
  refine p 1 ?_
  refine xx rfl (x_sto 3 g2_5 0 (eSign v2_1.2) ?_)
  refine rend ?_
  refine c_seq ?_
  refine pick [0, 2, 3, 1] [box g0_1 37 (eSign zSign), rowT nSign w.heap.size 37 (.slice A2_1 (List.length v2_1.1) k2_1) v2_1.1, box g2_5 37 (eSign v2_1.2), box g1_2 92 [.slice A0 (List.length a0) k0, .int .i64 0, .int .u64 0]] ?_
  refine as_startN 9 3 11 ?_
  refine ap 0 1 ?_
  refine aq 1 rfl (y_load (.agg (eSign v2_1.2).toArray) 2 g2_5 0) ?_
  refine ap 2 2 ?_
  refine ax 4 rfl (e_lit (e := (eI .i64)) (el := 3) [.int .i64 1, .int .i64 (-1), .int .i64 101] ([1, (-1), 101] : List Int) fun A3_4 k3_4 => ⟨.inr (by kernel_rfl), ?_⟩)
  obtain ⟨v3_5, hv3_5, h⟩ := H.call h
  refine ax 5 rfl (e_cq (cs' := [.slice A0 (List.length a0) k0, .int .i64 v3_5.2.1, .int .u64 v3_5.2.2]) (v := .int .i64 v3_5.1) 3 [.pointer (some ⟨g1_2, 0, none⟩), .slice A3_4 (List.length ([1, (-1), 101] : List Int)) k3_4] func149 (fun W S => C.s_l1Cur_among W hv3_5 (S.bx 3) ((s_arg h0).out W S) (ap_arg h0 S 3) ((s_own 4).out W S) (ap_row S 4 3 (by decide))) ⟨.inr (by kernel_rfl), ?_⟩)
  refine ax 6 rfl (e_lit (e := (eI .i64)) (el := 3) [.int .i64 0, .int .i64 3, .int .i64 6, .int .i64 12, .int .i64 100, .int .i64 v3_5.1] ([0, 3, 6, 12, 100, v3_5.1] : List Int) fun A3_6 k3_6 => ⟨.inr (by kernel_rfl), ?_⟩)
  obtain ⟨v3_7, hv3_7, h⟩ := H.call h
  refine ax 7 rfl (e_cq (cs' := [.slice A0 (List.length a0) k0, .int .i64 v3_7.2.1, .int .u64 v3_7.2.2]) (v := .int .i64 v3_7.1) 3 [.pointer (some ⟨g1_2, 0, none⟩), .slice A3_6 (List.length ([0, 3, 6, 12, 100, v3_5.1] : List Int)) k3_6] func149 (fun W S => C.s_l1Cur_among W hv3_7 (S.bx 3) ((s_arg h0).out W S) (ap_arg h0 S 3) ((s_own 5).out W S) (ap_row S 5 3 (by decide))) ⟨.inr (by kernel_rfl), ?_⟩)
  refine ap 8 1 ?_
  refine ax 9 rfl (x_sto 0 g0_1 0 (eSign v2_1.2) ⟨.inl (by kernel_rfl), ?_⟩)
  refine ax 10 rfl (e_y (y_pure (v := .int .i64 v3_7.1) (by kernel_rfl)) ⟨.inl (by kernel_rfl), ?_⟩)
  refine a_done ?_
  refine pick [0, 3, 1, 2, 4, 5] [box g0_1 37 (eSign v2_1.2), box g1_2 92 [.slice A0 (List.length a0) k0, .int .i64 v3_7.2.1, .int .u64 v3_7.2.2], rowT nSign w.heap.size 37 (.slice A2_1 (List.length v2_1.1) k2_1) v2_1.1, box g2_5 37 (eSign v2_1.2), rowT (eI .i64) w.heap.size 3 (.slice A3_4 (List.length ([1, (-1), 101] : List Int)) k3_4) ([1, (-1), 101] : List Int), rowT (eI .i64) w.heap.size 3 (.slice A3_6 (List.length ([0, 3, 6, 12, 100, v3_5.1] : List Int)) k3_6) ([0, 3, 6, 12, 100, v3_5.1] : List Int)] ?_
  replace h := H.done h
  subst h
  exact ret func75 rfl (vs := [.slice A2_1 (List.length v2_1.1) k2_1, .agg (eSign v2_1.2).toArray, .int .i64 v3_7.1]) (.tmp (by kernel_rfl) (.cell 0 g0_1 rfl (by kernel_rfl) (by kernel_rfl) (.tmp (by kernel_rfl) .nil))) rfl (fun W S => ⟨_, _, rfl, S.row 2, S.below⟩)
theorem C.i_SignsWithin_1 {fu : Nat} {a0 : Sign} {a1 : Sign} {p1 : Nat} {a2 : Int} {p2 : Nat} {r : Bool} (w : World) (h : X.i_SignsWithin_1 fu a1 a2 a0 = some r) (hp1 : w.heap[p1]? = some (.cells (eSign a1 : List Value).toArray 37 (0, 0))) (hp2 : w.heap[p2]? = some (.cells ([.int .i64 a2] : List Value).toArray 3 (0, 0))) : Calls prog 151 #[.agg (eSign a0).toArray, .pointer (some ⟨p1, 0, none⟩), .pointer (some ⟨p2, 0, none⟩)] w (Ret w (.bool r)) := by
  refine calls (M := no) (args := [.agg (eSign a0).toArray, .pointer (some ⟨p1, 0, none⟩), .pointer (some ⟨p2, 0, none⟩)]) func151 rfl ?_
  replace h : H (X.i_SignsWithin_1 fu a1 a2 a0) (fun o => o = r) := H.mk h
  unfold X.i_SignsWithin_1 at h
  refine c_seq ?_
  refine r_start ?_
  refine xx rfl (x_box (eSign a0) fun g0_0 => ?_)
  refine p 1 ?_
  refine rend ?_
  refine c_seq ?_
  refine as_start 6 6 ?_
  refine aq 0 rfl (y_load (.agg (eSign a0).toArray) 0 g0_0 0) ?_
  refine aq 1 rfl (y_ld0 (.agg (eSign a1).toArray) p1 0 hp1) ?_
  obtain ⟨v1_2, hv1_2, h⟩ := H.call h
  refine aq 2 rfl (y_call [.agg (eSign a0).toArray, .agg (eSign a1).toArray] (.int .i64 v1_2) func118 (fun W S => C.i_Sign_distance W hv1_2)) ?_
  refine aq 3 rfl (y_ld0 (.int .i64 a2) p2 0 hp2) ?_
  refine ap 4 2 ?_
  refine a_done ?_
  replace h := H.done h
  subst h
  exact ret func151 rfl (vs := [.bool (decide (v1_2 ≤ a2))]) (.tmp (by kernel_rfl) .nil) rfl (fun W S => ⟨rfl, S.below⟩)
theorem C.i_SignsWithin {fu : Nat} {a0 : (List Sign)} {A0 : Option Addr} {k0 : Nat} {a1 : Sign} {a2 : Int} {r : ((List Int) × Bool)} (w : World) (h : X.i_SignsWithin fu a0 a1 a2 = some r) (h0 : RdT nSign w (.slice A0 (List.length a0) k0) a0) : Calls prog 76 #[.slice A0 (List.length a0) k0, .agg (eSign a1).toArray, .int .i64 a2] w (RetR (eI .i64) 3 w r.1 (fun v => .tuple #[v, .bool r.2])) := by
  refine calls (M := no) (args := [.slice A0 (List.length a0) k0, .agg (eSign a1).toArray, .int .i64 a2]) func76 rfl ?_
  replace h : H (X.i_SignsWithin fu a0 a1 a2) (fun o => o = r) := H.mk h
  unfold X.i_SignsWithin at h
  refine c_seq ?_
  refine r_start ?_
  refine xx rfl (x_box (eSign a1) fun g0_0 => ?_)
  refine xx rfl (x_box [.int .i64 a2] fun g0_1 => ?_)
  refine p 2 ?_
  refine rend ?_
  refine c_seq ?_
  refine c_seq ?_
  refine r_start ?_
  refine p 1 ?_
  obtain ⟨v1_1, hv1_1, h⟩ := H.call h
  refine xq rfl (y_call [.slice A0 (List.length a0) k0, .int .i64 20] (.bool v1_1) func132 (fun W S => C.i_areSigns W hv1_1 ((s_arg h0).out W S))) ?_
  refine p 2 ?_
  refine br (!v1_1) (fun q1 => ?_) (fun q1 => ?_)
  · replace h := H.t q1 h
    refine o_set 11 (congrArg Value.bool q1) ?_
    refine p 9 ?_
    refine rend ?_
    refine c_t (by kernel_rfl) ?_
    refine c_seq ?_
    refine r_start ?_
    refine p 2 ?_
    refine rend ?_
    replace h := H.done h
    subst h
    exact ret func76 rfl (vs := [.slice none 0 0, .bool false]) (.tmp (by kernel_rfl) (.tmp (by kernel_rfl) .nil)) rfl (fun W S => ⟨none, 0, rfl, World.ownsRow_nil _ _ _ _, S.below⟩)
  replace h := H.f q1 h
  refine o_set 11 (congrArg Value.bool q1) ?_
  refine xq rfl (y_load (.agg (eSign a1).toArray) 0 g0_0 0) ?_
  obtain ⟨v1_5, hv1_5, h⟩ := H.call h
  refine xq rfl (y_call [.agg (eSign a1).toArray] (.bool v1_5) func19 (fun W S => C.i_IsSign W hv1_5)) ?_
  refine p 3 ?_
  refine br (!v1_5) (fun q2 => ?_) (fun q2 => ?_)
  · replace h := H.t q2 h
    refine o_set 16 (congrArg Value.bool q2) ?_
    refine p 4 ?_
    refine rend ?_
    refine c_t (by kernel_rfl) ?_
    refine c_seq ?_
    refine r_start ?_
    refine p 2 ?_
    refine rend ?_
    replace h := H.done h
    subst h
    exact ret func76 rfl (vs := [.slice none 0 0, .bool false]) (.tmp (by kernel_rfl) (.tmp (by kernel_rfl) .nil)) rfl (fun W S => ⟨none, 0, rfl, World.ownsRow_nil _ _ _ _, S.below⟩)
  replace h := H.f q2 h
  refine o_set 16 (congrArg Value.bool q2) ?_
  refine xq rfl (y_load (.int .i64 a2) 1 g0_1 0) ?_
  obtain ⟨v1_10, hv1_10, h⟩ := H.call h
  refine xq rfl (y_call [.int .i64 a2, .int .i64 0, .int .i64 100] (.bool v1_10) func139 (fun W S => C.i_within W hv1_10)) ?_
  refine p 2 ?_
  refine rend ?_
  refine c_or (!v1_10) (fun q3 => ?_) (fun q3 => ?_)
  · replace h := H.t q3 h
    refine c_seq ?_
    refine r_start ?_
    refine p 2 ?_
    refine rend ?_
    replace h := H.done h
    subst h
    exact ret func76 rfl (vs := [.slice none 0 0, .bool false]) (.tmp (by kernel_rfl) (.tmp (by kernel_rfl) .nil)) rfl (fun W S => ⟨none, 0, rfl, World.ownsRow_nil _ _ _ _, S.below⟩)
  replace h := H.f q3 h
  refine c_skip ?_
  refine c_seq ?_
  refine r_start ?_
  refine p 2 ?_
  obtain ⟨v3_2, hv3_2, h⟩ := H.call h
  refine xx rfl (e_cr [.slice A0 (List.length a0) k0, .func (.func 151) #[] #[.pointer (some ⟨g0_0, 0, none⟩), .pointer (some ⟨g0_1, 0, none⟩)]] (fun v => v) func150 (fun W S => C.i_those_i_Sign W hv3_2 ((s_arg h0).out W S) (isFn_of func151) (fun x0_2 r W2 hu2 hx2 => C.i_SignsWithin_1 W2 hx2 (bx_up (S.bx 0) hu2) (bx_up (S.bx 1) hu2))) fun A3_2 k3_2 => ?_)
  refine p 2 ?_
  refine rend ?_
  replace h := H.done h
  subst h
  exact ret func76 rfl (vs := [.slice A3_2 (List.length v3_2) k3_2, .bool true]) (.tmp (by kernel_rfl) (.tmp (by kernel_rfl) .nil)) rfl (fun W S => ⟨_, _, rfl, S.row 2, S.below⟩)
theorem C.s_SignsWithin {fu : Nat} {a0 : (List Sign)} {A0 : Option Addr} {k0 : Nat} {a1 : Sign} {a2 : Int} {r : ((List Int) × Bool)} (w : World) (h : X.s_SignsWithin fu a0 a1 a2 = some r) (h0 : RdT nSign w (.slice A0 (List.length a0) k0) a0) : Calls prog 77 #[.slice A0 (List.length a0) k0, .agg (eSign a1).toArray, .int .i64 a2] w (RetR (eI .i64) 3 w r.1 (fun v => .tuple #[v, .bool r.2])) := by
  refine calls (M := no) (args := [.slice A0 (List.length a0) k0, .agg (eSign a1).toArray, .int .i64 a2]) func77 rfl ?_
  replace h : H (X.s_SignsWithin fu a0 a1 a2) (fun o => o = r) := H.mk h
  unfold X.s_SignsWithin at h
  refine c_seq ?_
  refine r_start ?_
  refine xx rfl (x_box (eSign a1) fun g0_0 => ?_)
  refine p 2 ?_
  refine rend ?_
  refine c_seq ?_
  refine c_seq ?_
  refine r_start ?_
  refine p 1 ?_
  obtain ⟨v1_1, hv1_1, h⟩ := H.call h
  refine xq rfl (y_call [.slice A0 (List.length a0) k0] (.bool v1_1) func148 (fun W S => C.s_paList W hv1_1 ((s_arg h0).out W S))) ?_
  refine p 2 ?_
  refine br (!v1_1) (fun q1 => ?_) (fun q1 => ?_)
  · replace h := H.t q1 h
    refine o_set 14 (congrArg Value.bool q1) ?_
    refine p 9 ?_
    refine rend ?_
    refine c_t (by kernel_rfl) ?_
    refine c_seq ?_
    refine r_start ?_
    refine p 2 ?_
    refine rend ?_
    replace h := H.done h
    subst h
    exact ret func77 rfl (vs := [.slice none 0 0, .bool false]) (.tmp (by kernel_rfl) (.tmp (by kernel_rfl) .nil)) rfl (fun W S => ⟨none, 0, rfl, World.ownsRow_nil _ _ _ _, S.below⟩)
  replace h := H.f q1 h
  refine o_set 14 (congrArg Value.bool q1) ?_
  refine xq rfl (y_load (.agg (eSign a1).toArray) 0 g0_0 0) ?_
  obtain ⟨v1_5, hv1_5, h⟩ := H.call h
  refine xq rfl (y_call [.agg (eSign a1).toArray] (.bool v1_5) func91 (fun W S => C.s_siGood W hv1_5)) ?_
  refine p 3 ?_
  refine br (!v1_5) (fun q2 => ?_) (fun q2 => ?_)
  · replace h := H.t q2 h
    refine o_set 19 (congrArg Value.bool q2) ?_
    refine p 4 ?_
    refine rend ?_
    refine c_t (by kernel_rfl) ?_
    refine c_seq ?_
    refine r_start ?_
    refine p 2 ?_
    refine rend ?_
    replace h := H.done h
    subst h
    exact ret func77 rfl (vs := [.slice none 0 0, .bool false]) (.tmp (by kernel_rfl) (.tmp (by kernel_rfl) .nil)) rfl (fun W S => ⟨none, 0, rfl, World.ownsRow_nil _ _ _ _, S.below⟩)
  replace h := H.f q2 h
  refine o_set 19 (congrArg Value.bool q2) ?_
  refine p 1 ?_
  obtain ⟨v1_10, hv1_10, h⟩ := H.call h
  refine xq rfl (y_call [.int .i64 a2, .int .i64 0, .int .i64 100] (.bool v1_10) func152 (fun W S => C.s_l1In W hv1_10)) ?_
  refine p 2 ?_
  refine rend ?_
  refine c_or (!v1_10) (fun q3 => ?_) (fun q3 => ?_)
  · replace h := H.t q3 h
    refine c_seq ?_
    refine r_start ?_
    refine p 2 ?_
    refine rend ?_
    replace h := H.done h
    subst h
    exact ret func77 rfl (vs := [.slice none 0 0, .bool false]) (.tmp (by kernel_rfl) (.tmp (by kernel_rfl) .nil)) rfl (fun W S => ⟨none, 0, rfl, World.ownsRow_nil _ _ _ _, S.below⟩)
  replace h := H.f q3 h
  refine c_skip ?_
  refine c_seq ?_
  refine r_start ?_
  refine p 1 ?_
  refine rend ?_
  refine c_seq ?_
  refine c_seq ?_
  refine r_start ?_
  refine p 3 ?_
  refine rend ?_
  refine c_block ?_
  refine c_nil (eI .i64) 3 ?_
  refine joinH (X := ((List Int) × Option Addr × Nat)) 0 (H.bnd h) (fun ⟨l7, A8, k9⟩ => l7) (fun ⟨l7, A8, k9⟩ => [box g0_0 37 (eSign a1), rowT (eI .i64) w.heap.size 3 (.slice A8 (List.length l7) k9) l7]) (fun ⟨l7, A8, k9⟩ u => (jk u 0 8 (.slice A8 (List.length l7) k9 :: (jk u 9 33 [])))) (fun h hj10 => ?_) ?_
  · skip
    refine rangeR (X := ((List Int) × Option Addr × Nat)) (s_arg h0) (fun ⟨l4, A5, k6⟩ => l4) (fun ⟨l4, A5, k6⟩ => [box g0_0 37 (eSign a1), rowT (eI .i64) w.heap.size 3 (.slice A5 (List.length l4) k6) l4]) (fun (j11 : Nat) ⟨l4, A5, k6⟩ u => (jk u 0 2 (.int .i64 a2 :: (jk u 3 1 (.pointer (some ⟨g0_0, 0, none⟩) :: (jk u 5 3 (.slice A5 (List.length l4) k6 :: (jk u 9 15 (.slice A0 (List.length a0) k0 :: .int .i64 (List.length a0 : Int) :: .int .i64 (j11 : Int) :: (jk u 27 15 [])))))))))) (([] : List Int), none, 0) h (by kernel_rfl) (by kernel_rfl) ?_ ?_
    · intro j11 x u x12 q13 hg14 hw15 h
      obtain ⟨l4, A5, k6⟩ := x
      refine c_seq ?_
      refine r_start ?_
      refine p 1 ?_
      refine rend ?_
      refine c_seq ?_
      refine c_yes q13 ?_
      refine c_skip ?_
      refine c_seq ?_
      refine c_block ?_
      refine c_seq ?_
      refine r_start ?_
      refine p 1 ?_
      refine xq rfl (y_idx (e := nSign) (el := 37) hg14 (s_arg h0)) ?_
      refine xq rfl (y_el (e := nSign) 0 (.agg (eSign x12).toArray) hg14 (s_arg h0)) ?_
      refine xx rfl (x_new (eSign zSign) fun g6_3 => ?_)
      refine p 1 ?_
      refine xx rfl (x_sto 2 g6_3 0 (eSign x12) ?_)
      refine rend ?_
      refine c_seq ?_
      refine r_start ?_
      refine xq rfl (y_load (.agg (eSign x12).toArray) 2 g6_3 0) ?_
      refine xq rfl (y_load (.agg (eSign a1).toArray) 0 g0_0 0) ?_
      obtain ⟨v7_2, hv7_2, h⟩ := H.call h
      refine xq rfl (y_call [.agg (eSign x12).toArray, .agg (eSign a1).toArray] (.int .i64 v7_2) func120 (fun W S => C.s_feFar W hv7_2)) ?_
      refine p 2 ?_
      refine rend ?_
      refine c_or (decide (v7_2 ≤ a2)) (fun q16 => ?_) (fun q16 => ?_)
      · replace h := H.t q16 h
        refine r_start ?_
        refine p 2 ?_
        refine xx rfl (e_lit (e := (eI .i64)) (el := 3) [.int .i64 (j11 : Int)] ([(j11 : Int)] : List Int) fun A8_2 k8_2 => ?_)
        obtain ⟨y8_3, hy8_3, h⟩ := H.call h
        refine xx rfl (e_app 1 hy8_3 (s_own 3) fun A8_3 k8_3 => ?_)
        refine p 1 ?_
        refine rend ?_
        refine c_inb ?_
        refine r_start ?_
        refine p 2 ?_
        refine rend ?_
        refine c_set 26 (ci hw15) ?_
        replace h := H.inl h
        exact h (y8_3, A8_3, k8_3) _ _ rfl (by kernel_rfl) (by kernel_rfl)
      replace h := H.f q16 h
      refine c_skip ?_
      refine c_inb ?_
      refine r_start ?_
      refine p 2 ?_
      refine rend ?_
      refine c_set 26 (ci hw15) ?_
      replace h := H.inl h
      exact h (l4, A5, k6) _ _ rfl (by kernel_rfl) (by kernel_rfl)
    · intro x u q13 h
      obtain ⟨l4, A5, k6⟩ := x
      refine c_seq ?_
      refine r_start ?_
      refine p 1 ?_
      refine rend ?_
      refine c_seq ?_
      refine c_no q13 ?_
      refine cx ?_
      replace h := H.done h
      exact hj10 (l4, A5, k6) _ _ h (by kernel_rfl) (by kernel_rfl)
  intro x u h
  obtain ⟨l7, A8, k9⟩ := x
  refine c_seq ?_
  refine r_start ?_
  refine p 3 ?_
  refine rend ?_
  replace h := H.done h
  subst h
  exact ret func77 rfl (vs := [.slice A8 (List.length l7) k9, .bool true]) (.tmp (by kernel_rfl) (.tmp (by kernel_rfl) .nil)) rfl (fun W S => ⟨_, _, rfl, S.row 1, S.below⟩)
theorem C.s_DrawSignsText {fu : Nat} {a0 : (List Int)} {A0 : Option Addr} {k0 : Nat} {r : (List Sign)} (w : World) (h : X.s_DrawSignsText fu a0 = some r) (h0 : RdT (eI .u8) w (.slice A0 (List.length a0) k0) a0) : Calls prog 153 #[.slice A0 (List.length a0) k0] w (RetR nSign 37 w r (fun v => v)) := by
  refine calls (M := no) (args := [.slice A0 (List.length a0) k0]) func153 rfl ?_
  replace h : H (X.s_DrawSignsText fu a0) (fun o => o = r) := H.mk h
  unfold X.s_DrawSignsText at h
  refine c_seq ?_
  refine r_start ?_
  refine p 1 ?_
  refine rend ?_
  refine c_seq ?_
  refine r_start ?_
  refine p 2 ?_
  refine xx rfl (x_box [.slice A0 (List.length a0) k0, .int .i64 0, .int .u64 0] fun g1_2 => ?_)
  refine p 1 ?_
  refine rend ?_
  refine c_seq ?_
  refine r_start ?_
  refine p 1 ?_
  obtain ⟨v2_1, hv2_1, h⟩ := H.call h
  refine xx rfl (e_cqR (cs' := [.slice A0 (List.length a0) k0, .int .i64 v2_1.2.1, .int .u64 v2_1.2.2]) 0 [.pointer (some ⟨g1_2, 0, none⟩)] (fun v => v) func147 (fun W S => C.s_l1Cur_signList W hv2_1 (S.bx 0) ((s_arg h0).out W S) (ap_arg h0 S 0)) fun A2_1 k2_1 => ?_)
  refine p 1 ?_
  refine rend ?_
  replace h := H.done h
  subst h
  exact ret func153 rfl (vs := [.slice A2_1 (List.length v2_1.1) k2_1]) (.tmp (by kernel_rfl) .nil) rfl (fun W S => ⟨_, _, rfl, S.row 1, S.below⟩)
theorem C.s_DrawDistanceTable {fu : Nat} {a0 : (List Int)} {A0 : Option Addr} {k0 : Nat} {r : (List Sign)} (w : World) (h : X.s_DrawDistanceTable fu a0 = some r) (h0 : RdT (eI .u8) w (.slice A0 (List.length a0) k0) a0) : Calls prog 78 #[.slice A0 (List.length a0) k0] w (RetR nSign 37 w r (fun v => v)) := by
  refine calls (M := no) (args := [.slice A0 (List.length a0) k0]) func78 rfl ?_
  replace h : H (X.s_DrawDistanceTable fu a0) (fun o => o = r) := H.mk h
  unfold X.s_DrawDistanceTable at h
  refine c_seq ?_
  refine r_start ?_
  refine p 1 ?_
  refine rend ?_
  refine c_seq ?_
  refine r_start ?_
  refine p 1 ?_
  obtain ⟨v1_1, hv1_1, h⟩ := H.call h
  refine xx rfl (e_cr [.slice A0 (List.length a0) k0] (fun v => v) func153 (fun W S => C.s_DrawSignsText W hv1_1 ((s_arg h0).out W S)) fun A1_1 k1_1 => ?_)
  refine p 1 ?_
  refine rend ?_
  replace h := H.done h
  subst h
  exact ret func78 rfl (vs := [.slice A1_1 (List.length v1_1) k1_1]) (.tmp (by kernel_rfl) .nil) rfl (fun W S => ⟨_, _, rfl, S.row 0, S.below⟩)
theorem C.i_DistanceTable {fu : Nat} {a0 : (List Sign)} {A0 : Option Addr} {k0 : Nat} {r : ((List (List Int)) × Bool)} (w : World) (h : X.i_DistanceTable fu a0 = some r) (h0 : RdT nSign w (.slice A0 (List.length a0) k0) a0) : Calls prog 79 #[.slice A0 (List.length a0) k0] w (RetD (eI .i64) 69 3 w r.1 (fun v => .tuple #[v, .bool r.2])) := by
  refine calls (M := no) (args := [.slice A0 (List.length a0) k0]) func79 rfl ?_
  replace h : H (X.i_DistanceTable fu a0) (fun o => o = r) := H.mk h
  unfold X.i_DistanceTable at h
  refine c_seq ?_
  refine r_start ?_
  refine p 2 ?_
  refine rend ?_
  refine c_seq ?_
  refine c_seq ?_
  refine r_start ?_
  refine p 1 ?_
  obtain ⟨v1_1, hv1_1, h⟩ := H.call h
  refine xq rfl (y_call [.slice A0 (List.length a0) k0, .int .i64 20] (.bool v1_1) func132 (fun W S => C.i_areSigns W hv1_1 ((s_arg h0).out W S))) ?_
  refine p 1 ?_
  refine rend ?_
  refine c_or (!v1_1) (fun q1 => ?_) (fun q1 => ?_)
  · replace h := H.t q1 h
    refine c_seq ?_
    refine r_start ?_
    refine p 2 ?_
    refine rend ?_
    replace h := H.done h
    subst h
    exact ret func79 rfl (vs := [.slice none 0 0, .bool false]) (.tmp (by kernel_rfl) (.tmp (by kernel_rfl) .nil)) rfl (fun W S => ⟨none, 0, [], rfl, World.ownsRow_nil _ _ _ _, Inn.nil _ _ _ _, (fun k hk => by cases hk), (fun k ⟨_, hk, _⟩ => by cases hk), S.below⟩)
  replace h := H.f q1 h
  refine c_skip ?_
  refine c_seq ?_
  refine r_start ?_
  refine p 1 ?_
  refine rend ?_
  refine c_seq ?_
  refine c_seq ?_
  refine r_start ?_
  refine p 3 ?_
  refine rend ?_
  refine c_block ?_
  refine c_nil eSl 69 ?_
  refine c_inn (eI .i64) 3 ?_
  refine joinH (X := ((List (List Int)) × List Sl × Option Addr × Nat)) 0 (H.bnd h) (fun ⟨l9, u6, A7, k8⟩ => l9) (fun ⟨l9, u6, A7, k8⟩ => [rowT eSl w.heap.size 69 (.slice A7 (List.length u6) k8) u6, inns (eI .i64) w.heap.size 3 u6 l9]) (fun ⟨l9, u6, A7, k8⟩ u => (jk u 0 4 (.slice A7 (List.length u6) k8 :: (jk u 5 33 [])))) (fun h hj10 => ?_) ?_
  · skip
    refine rangeR (X := ((List (List Int)) × List Sl × Option Addr × Nat)) (s_arg h0) (fun ⟨l5, u2, A3, k4⟩ => l5) (fun ⟨l5, u2, A3, k4⟩ => [rowT eSl w.heap.size 69 (.slice A3 (List.length u2) k4) u2, inns (eI .i64) w.heap.size 3 u2 l5]) (fun (j11 : Nat) ⟨l5, u2, A3, k4⟩ u => (.slice A0 (List.length a0) k0 :: (jk u 1 3 (.slice A3 (List.length u2) k4 :: (jk u 5 8 (.slice A0 (List.length a0) k0 :: .int .i64 (List.length a0 : Int) :: .int .i64 (j11 : Int) :: (jk u 16 22 []))))))) (([] : List (List Int)), ([] : List Sl), none, 0) h (by kernel_rfl) (by kernel_rfl) ?_ ?_
    · intro j11 x u x12 q13 hg14 hw15 h
      obtain ⟨l5, u2, A3, k4⟩ := x
      refine c_seq ?_
      refine r_start ?_
      refine p 1 ?_
      refine rend ?_
      refine c_seq ?_
      refine c_yes q13 ?_
      refine c_skip ?_
      refine c_seq ?_
      refine c_block ?_
      refine c_seq ?_
      refine r_start ?_
      refine xq rfl (y_idx (e := nSign) (el := 37) hg14 (s_arg h0)) ?_
      refine xq rfl (y_el (e := nSign) 0 (.agg (eSign x12).toArray) hg14 (s_arg h0)) ?_
      refine xx rfl (x_new (eSign zSign) fun g6_2 => ?_)
      refine xx rfl (x_sto 2 g6_2 0 (eSign x12) ?_)
      refine rend ?_
      refine c_seq ?_
      refine r_start ?_
      refine p 1 ?_
      refine rend ?_
      refine c_seq ?_
      refine c_seq ?_
      refine r_start ?_
      refine p 3 ?_
      refine rend ?_
      refine c_block ?_
      refine c_nil (eI .i64) 3 ?_
      refine joinH (X := ((List Int) × Option Addr × Nat)) 2 (H.bnd h) (fun ⟨l19, A20, k21⟩ => l19) (fun ⟨l19, A20, k21⟩ => [rowT eSl w.heap.size 69 (.slice A3 (List.length u2) k4) u2, inns (eI .i64) w.heap.size 3 u2 l5, box g6_2 37 (eSign x12), rowT (eI .i64) w.heap.size 3 (.slice A20 (List.length l19) k21) l19]) (fun ⟨l19, A20, k21⟩ u => (.slice A0 (List.length a0) k0 :: (jk u 1 3 (.slice A3 (List.length u2) k4 :: (jk u 5 2 (.slice A20 (List.length l19) k21 :: (jk u 8 5 (.slice A0 (List.length a0) k0 :: .int .i64 (List.length a0 : Int) :: .int .i64 (j11 : Int) :: (jk u 16 22 []))))))))) (fun h hj22 => ?_) ?_
      · skip
        refine rangeR (X := ((List Int) × Option Addr × Nat)) (s_arg h0) (fun ⟨l16, A17, k18⟩ => l16) (fun ⟨l16, A17, k18⟩ => [rowT eSl w.heap.size 69 (.slice A3 (List.length u2) k4) u2, inns (eI .i64) w.heap.size 3 u2 l5, box g6_2 37 (eSign x12), rowT (eI .i64) w.heap.size 3 (.slice A17 (List.length l16) k18) l16]) (fun (j23 : Nat) ⟨l16, A17, k18⟩ u => (.slice A0 (List.length a0) k0 :: (jk u 1 3 (.slice A3 (List.length u2) k4 :: (jk u 5 1 (.pointer (some ⟨g6_2, 0, none⟩) :: .slice A17 (List.length l16) k18 :: (jk u 8 5 (.slice A0 (List.length a0) k0 :: .int .i64 (List.length a0 : Int) :: .int .i64 (j11 : Int) :: (jk u 16 3 (.slice A0 (List.length a0) k0 :: .int .i64 (List.length a0 : Int) :: .int .i64 (j23 : Int) :: (jk u 22 16 []))))))))))) (([] : List Int), none, 0) h (by kernel_rfl) (by kernel_rfl) ?_ ?_
        · intro j23 x u x24 q25 hg26 hw27 h
          obtain ⟨l16, A17, k18⟩ := x
          refine c_seq ?_
          refine r_start ?_
          refine p 1 ?_
          refine rend ?_
          refine c_seq ?_
          refine c_yes q25 ?_
          refine c_skip ?_
          refine c_seq ?_
          refine c_block ?_
          refine c_seq ?_
          refine r_start ?_
          refine xq rfl (y_idx (e := nSign) (el := 37) hg26 (s_arg h0)) ?_
          refine xq rfl (y_el (e := nSign) 0 (.agg (eSign x24).toArray) hg26 (s_arg h0)) ?_
          refine xx rfl (x_new (eSign zSign) fun g10_2 => ?_)
          refine xx rfl (x_sto 4 g10_2 0 (eSign x24) ?_)
          refine rend ?_
          refine r_start ?_
          refine p 1 ?_
          refine xq rfl (y_load (.agg (eSign x12).toArray) 2 g6_2 0) ?_
          refine xq rfl (y_load (.agg (eSign x24).toArray) 4 g10_2 0) ?_
          obtain ⟨v11_3, hv11_3, h⟩ := H.call h
          refine xq rfl (y_call [.agg (eSign x12).toArray, .agg (eSign x24).toArray] (.int .i64 v11_3) func118 (fun W S => C.i_Sign_distance W hv11_3)) ?_
          refine xx rfl (e_lit (e := (eI .i64)) (el := 3) [.int .i64 v11_3] ([v11_3] : List Int) fun A11_4 k11_4 => ?_)
          obtain ⟨y11_5, hy11_5, h⟩ := H.call h
          refine xx rfl (e_app 3 hy11_5 (s_own 5) fun A11_5 k11_5 => ?_)
          refine p 1 ?_
          refine rend ?_
          refine c_inb ?_
          refine r_start ?_
          refine p 2 ?_
          refine rend ?_
          refine c_set 21 (ci hw27) ?_
          replace h := H.inl h
          exact h (y11_5, A11_5, k11_5) _ _ rfl (by kernel_rfl) (by kernel_rfl)
        · intro x u q25 h
          obtain ⟨l16, A17, k18⟩ := x
          refine c_seq ?_
          refine r_start ?_
          refine p 1 ?_
          refine rend ?_
          refine c_seq ?_
          refine c_no q25 ?_
          refine cx ?_
          replace h := H.done h
          exact hj22 (l16, A17, k18) _ _ h (by kernel_rfl) (by kernel_rfl)
      intro x u h
      obtain ⟨l19, A20, k21⟩ := x
      refine r_start ?_
      refine p 2 ?_
      refine xx rfl (e_lit (e := eSl) (el := 69) [.slice A20 (List.length l19) k21] ([⟨A20, List.length l19, k21⟩] : List Sl) fun A13_2 k13_2 => ?_)
      obtain ⟨y13_3, hy13_3, h⟩ := H.call h
      refine o_fact (f_len (i_own 1)) fun hl13_3 => ?_
      obtain ⟨ha13_3, hq13_3⟩ := appD_sl (ws := ([⟨A20, List.length l19, k21⟩] : List Sl)) hy13_3 hl13_3 rfl
      refine xx rfl (e_app 0 ha13_3 (s_own 4) fun A13_3 k13_3 => ?_)
      refine p 1 ?_
      refine rend ?_
      refine absorbE (e := (eI .i64)) (B := w.heap.size) (t := 3) (A := A20) (c := k21) (l := l19) (us := u2) [0, 2, 3, 1] [rowT eSl w.heap.size 69 (.slice A13_3 (List.length (u2 ++ ([⟨A20, List.length l19, k21⟩] : List Sl))) k13_3) (u2 ++ ([⟨A20, List.length l19, k21⟩] : List Sl)), box g6_2 37 (eSign x12)] hq13_3 ?_
      refine c_inb ?_
      refine r_start ?_
      refine p 2 ?_
      refine rend ?_
      refine pick [0, 2] [rowT eSl w.heap.size 69 (.slice A13_3 (List.length (u2 ++ ([⟨A20, List.length l19, k21⟩] : List Sl))) k13_3) (u2 ++ ([⟨A20, List.length l19, k21⟩] : List Sl)), inns (eI .i64) w.heap.size 3 (u2 ++ ([⟨A20, List.length l19, k21⟩] : List Sl)) y13_3] ?_
      refine c_set 15 (ci hw15) ?_
      replace h := H.inl h
      exact h (y13_3, (u2 ++ ([⟨A20, List.length l19, k21⟩] : List Sl)), A13_3, k13_3) _ _ rfl (by kernel_rfl) (by kernel_rfl)
    · intro x u q13 h
      obtain ⟨l5, u2, A3, k4⟩ := x
      refine c_seq ?_
      refine r_start ?_
      refine p 1 ?_
      refine rend ?_
      refine c_seq ?_
      refine c_no q13 ?_
      refine cx ?_
      replace h := H.done h
      exact hj10 (l5, u2, A3, k4) _ _ h (by kernel_rfl) (by kernel_rfl)
  intro x u h
  obtain ⟨l9, u6, A7, k8⟩ := x
  refine c_seq ?_
  refine r_start ?_
  refine p 3 ?_
  refine rend ?_
  replace h := H.done h
  subst h
  exact ret func79 rfl (vs := [.slice A7 (List.length u6) k8, .bool true]) (.tmp (by kernel_rfl) (.tmp (by kernel_rfl) .nil)) rfl (fun W S => S.retD (res := fun v => .tuple #[v, .bool true]) 0 1 (by decide))
theorem C.s_DistanceTable {fu : Nat} {a0 : (List Sign)} {A0 : Option Addr} {k0 : Nat} {r : ((List (List Int)) × Bool)} (w : World) (h : X.s_DistanceTable fu a0 = some r) (h0 : RdT nSign w (.slice A0 (List.length a0) k0) a0) : Calls prog 80 #[.slice A0 (List.length a0) k0] w (RetD (eI .i64) 69 3 w r.1 (fun v => .tuple #[v, .bool r.2])) := by
  refine calls (M := no) (args := [.slice A0 (List.length a0) k0]) func80 rfl ?_
  replace h : H (X.s_DistanceTable fu a0) (fun o => o = r) := H.mk h
  unfold X.s_DistanceTable at h
  refine c_seq ?_
  refine r_start ?_
  refine p 2 ?_
  refine rend ?_
  refine c_seq ?_
  refine c_seq ?_
  refine r_start ?_
  refine p 1 ?_
  obtain ⟨v1_1, hv1_1, h⟩ := H.call h
  refine xq rfl (y_call [.slice A0 (List.length a0) k0] (.bool v1_1) func148 (fun W S => C.s_paList W hv1_1 ((s_arg h0).out W S))) ?_
  refine p 1 ?_
  refine rend ?_
  refine c_or (!v1_1) (fun q1 => ?_) (fun q1 => ?_)
  · replace h := H.t q1 h
    refine c_seq ?_
    refine r_start ?_
    refine p 2 ?_
    refine rend ?_
    replace h := H.done h
    subst h
    exact ret func80 rfl (vs := [.slice none 0 0, .bool false]) (.tmp (by kernel_rfl) (.tmp (by kernel_rfl) .nil)) rfl (fun W S => ⟨none, 0, [], rfl, World.ownsRow_nil _ _ _ _, Inn.nil _ _ _ _, (fun k hk => by cases hk), (fun k ⟨_, hk, _⟩ => by cases hk), S.below⟩)
  replace h := H.f q1 h
  refine c_skip ?_
  refine c_seq ?_
  refine r_start ?_
  refine p 1 ?_
  refine rend ?_
  refine c_seq ?_
  refine c_seq ?_
  refine r_start ?_
  refine p 3 ?_
  refine rend ?_
  refine c_block ?_
  refine c_nil eSl 69 ?_
  refine c_inn (eI .i64) 3 ?_
  refine joinH (X := ((List (List Int)) × List Sl × Option Addr × Nat)) 0 (H.bnd h) (fun ⟨l9, u6, A7, k8⟩ => l9) (fun ⟨l9, u6, A7, k8⟩ => [rowT eSl w.heap.size 69 (.slice A7 (List.length u6) k8) u6, inns (eI .i64) w.heap.size 3 u6 l9]) (fun ⟨l9, u6, A7, k8⟩ u => (jk u 0 4 (.slice A7 (List.length u6) k8 :: (jk u 5 33 [])))) (fun h hj10 => ?_) ?_
  · skip
    refine rangeR (X := ((List (List Int)) × List Sl × Option Addr × Nat)) (s_arg h0) (fun ⟨l5, u2, A3, k4⟩ => l5) (fun ⟨l5, u2, A3, k4⟩ => [rowT eSl w.heap.size 69 (.slice A3 (List.length u2) k4) u2, inns (eI .i64) w.heap.size 3 u2 l5]) (fun (j11 : Nat) ⟨l5, u2, A3, k4⟩ u => (.slice A0 (List.length a0) k0 :: (jk u 1 3 (.slice A3 (List.length u2) k4 :: (jk u 5 8 (.slice A0 (List.length a0) k0 :: .int .i64 (List.length a0 : Int) :: .int .i64 (j11 : Int) :: (jk u 16 22 []))))))) (([] : List (List Int)), ([] : List Sl), none, 0) h (by kernel_rfl) (by kernel_rfl) ?_ ?_
    · intro j11 x u x12 q13 hg14 hw15 h
      obtain ⟨l5, u2, A3, k4⟩ := x
      refine c_seq ?_
      refine r_start ?_
      refine p 1 ?_
      refine rend ?_
      refine c_seq ?_
      refine c_yes q13 ?_
      refine c_skip ?_
      refine c_seq ?_
      refine c_block ?_
      refine c_seq ?_
      refine r_start ?_
      refine xq rfl (y_idx (e := nSign) (el := 37) hg14 (s_arg h0)) ?_
      refine xq rfl (y_el (e := nSign) 0 (.agg (eSign x12).toArray) hg14 (s_arg h0)) ?_
      refine xx rfl (x_new (eSign zSign) fun g6_2 => ?_)
      refine xx rfl (x_sto 2 g6_2 0 (eSign x12) ?_)
      refine rend ?_
      refine c_seq ?_
      refine r_start ?_
      refine p 1 ?_
      refine rend ?_
      refine c_seq ?_
      refine c_seq ?_
      refine r_start ?_
      refine p 3 ?_
      refine rend ?_
      refine c_block ?_
      refine c_nil (eI .i64) 3 ?_
      refine joinH (X := ((List Int) × Option Addr × Nat)) 2 (H.bnd h) (fun ⟨l19, A20, k21⟩ => l19) (fun ⟨l19, A20, k21⟩ => [rowT eSl w.heap.size 69 (.slice A3 (List.length u2) k4) u2, inns (eI .i64) w.heap.size 3 u2 l5, box g6_2 37 (eSign x12), rowT (eI .i64) w.heap.size 3 (.slice A20 (List.length l19) k21) l19]) (fun ⟨l19, A20, k21⟩ u => (.slice A0 (List.length a0) k0 :: (jk u 1 3 (.slice A3 (List.length u2) k4 :: (jk u 5 2 (.slice A20 (List.length l19) k21 :: (jk u 8 5 (.slice A0 (List.length a0) k0 :: .int .i64 (List.length a0 : Int) :: .int .i64 (j11 : Int) :: (jk u 16 22 []))))))))) (fun h hj22 => ?_) ?_
      · skip
        refine rangeR (X := ((List Int) × Option Addr × Nat)) (s_arg h0) (fun ⟨l16, A17, k18⟩ => l16) (fun ⟨l16, A17, k18⟩ => [rowT eSl w.heap.size 69 (.slice A3 (List.length u2) k4) u2, inns (eI .i64) w.heap.size 3 u2 l5, box g6_2 37 (eSign x12), rowT (eI .i64) w.heap.size 3 (.slice A17 (List.length l16) k18) l16]) (fun (j23 : Nat) ⟨l16, A17, k18⟩ u => (.slice A0 (List.length a0) k0 :: (jk u 1 3 (.slice A3 (List.length u2) k4 :: (jk u 5 1 (.pointer (some ⟨g6_2, 0, none⟩) :: .slice A17 (List.length l16) k18 :: (jk u 8 5 (.slice A0 (List.length a0) k0 :: .int .i64 (List.length a0 : Int) :: .int .i64 (j11 : Int) :: (jk u 16 3 (.slice A0 (List.length a0) k0 :: .int .i64 (List.length a0 : Int) :: .int .i64 (j23 : Int) :: (jk u 22 16 []))))))))))) (([] : List Int), none, 0) h (by kernel_rfl) (by kernel_rfl) ?_ ?_
        · intro j23 x u x24 q25 hg26 hw27 h
          obtain ⟨l16, A17, k18⟩ := x
          refine c_seq ?_
          refine r_start ?_
          refine p 1 ?_
          refine rend ?_
          refine c_seq ?_
          refine c_yes q25 ?_
          refine c_skip ?_
          refine c_seq ?_
          refine c_block ?_
          refine c_seq ?_
          refine r_start ?_
          refine xq rfl (y_idx (e := nSign) (el := 37) hg26 (s_arg h0)) ?_
          refine xq rfl (y_el (e := nSign) 0 (.agg (eSign x24).toArray) hg26 (s_arg h0)) ?_
          refine xx rfl (x_new (eSign zSign) fun g10_2 => ?_)
          refine xx rfl (x_sto 4 g10_2 0 (eSign x24) ?_)
          refine rend ?_
          refine r_start ?_
          refine p 1 ?_
          refine xq rfl (y_load (.agg (eSign x12).toArray) 2 g6_2 0) ?_
          refine xq rfl (y_load (.agg (eSign x24).toArray) 4 g10_2 0) ?_
          obtain ⟨v11_3, hv11_3, h⟩ := H.call h
          refine xq rfl (y_call [.agg (eSign x12).toArray, .agg (eSign x24).toArray] (.int .i64 v11_3) func120 (fun W S => C.s_feFar W hv11_3)) ?_
          refine xx rfl (e_lit (e := (eI .i64)) (el := 3) [.int .i64 v11_3] ([v11_3] : List Int) fun A11_4 k11_4 => ?_)
          obtain ⟨y11_5, hy11_5, h⟩ := H.call h
          refine xx rfl (e_app 3 hy11_5 (s_own 5) fun A11_5 k11_5 => ?_)
          refine p 1 ?_
          refine rend ?_
          refine c_inb ?_
          refine r_start ?_
          refine p 2 ?_
          refine rend ?_
          refine c_set 21 (ci hw27) ?_
          replace h := H.inl h
          exact h (y11_5, A11_5, k11_5) _ _ rfl (by kernel_rfl) (by kernel_rfl)
        · intro x u q25 h
          obtain ⟨l16, A17, k18⟩ := x
          refine c_seq ?_
          refine r_start ?_
          refine p 1 ?_
          refine rend ?_
          refine c_seq ?_
          refine c_no q25 ?_
          refine cx ?_
          replace h := H.done h
          exact hj22 (l16, A17, k18) _ _ h (by kernel_rfl) (by kernel_rfl)
      intro x u h
      obtain ⟨l19, A20, k21⟩ := x
      refine r_start ?_
      refine p 2 ?_
      refine xx rfl (e_lit (e := eSl) (el := 69) [.slice A20 (List.length l19) k21] ([⟨A20, List.length l19, k21⟩] : List Sl) fun A13_2 k13_2 => ?_)
      obtain ⟨y13_3, hy13_3, h⟩ := H.call h
      refine o_fact (f_len (i_own 1)) fun hl13_3 => ?_
      obtain ⟨ha13_3, hq13_3⟩ := appD_sl (ws := ([⟨A20, List.length l19, k21⟩] : List Sl)) hy13_3 hl13_3 rfl
      refine xx rfl (e_app 0 ha13_3 (s_own 4) fun A13_3 k13_3 => ?_)
      refine p 1 ?_
      refine rend ?_
      refine absorbE (e := (eI .i64)) (B := w.heap.size) (t := 3) (A := A20) (c := k21) (l := l19) (us := u2) [0, 2, 3, 1] [rowT eSl w.heap.size 69 (.slice A13_3 (List.length (u2 ++ ([⟨A20, List.length l19, k21⟩] : List Sl))) k13_3) (u2 ++ ([⟨A20, List.length l19, k21⟩] : List Sl)), box g6_2 37 (eSign x12)] hq13_3 ?_
      refine c_inb ?_
      refine r_start ?_
      refine p 2 ?_
      refine rend ?_
      refine pick [0, 2] [rowT eSl w.heap.size 69 (.slice A13_3 (List.length (u2 ++ ([⟨A20, List.length l19, k21⟩] : List Sl))) k13_3) (u2 ++ ([⟨A20, List.length l19, k21⟩] : List Sl)), inns (eI .i64) w.heap.size 3 (u2 ++ ([⟨A20, List.length l19, k21⟩] : List Sl)) y13_3] ?_
      refine c_set 15 (ci hw15) ?_
      replace h := H.inl h
      exact h (y13_3, (u2 ++ ([⟨A20, List.length l19, k21⟩] : List Sl)), A13_3, k13_3) _ _ rfl (by kernel_rfl) (by kernel_rfl)
    · intro x u q13 h
      obtain ⟨l5, u2, A3, k4⟩ := x
      refine c_seq ?_
      refine r_start ?_
      refine p 1 ?_
      refine rend ?_
      refine c_seq ?_
      refine c_no q13 ?_
      refine cx ?_
      replace h := H.done h
      exact hj10 (l5, u2, A3, k4) _ _ h (by kernel_rfl) (by kernel_rfl)
  intro x u h
  obtain ⟨l9, u6, A7, k8⟩ := x
  refine c_seq ?_
  refine r_start ?_
  refine p 3 ?_
  refine rend ?_
  replace h := H.done h
  subst h
  exact ret func80 rfl (vs := [.slice A7 (List.length u6) k8, .bool true]) (.tmp (by kernel_rfl) (.tmp (by kernel_rfl) .nil)) rfl (fun W S => S.retD (res := fun v => .tuple #[v, .bool true]) 0 1 (by decide))
theorem C.i_sumOf {a0 : (List Int)} {A0 : Option Addr} {k0 : Nat} {r : Int} (w : World) (h : X.i_sumOf a0 = some r) (h0 : RdT (eI .i64) w (.slice A0 (List.length a0) k0) a0) : Calls prog 154 #[.slice A0 (List.length a0) k0] w (Ret w (.int .i64 r)) := by
  refine calls (M := no) (args := [.slice A0 (List.length a0) k0]) func154 rfl ?_
  replace h : H (X.i_sumOf a0) (fun o => o = r) := H.mk h
  unfold X.i_sumOf at h
  refine c_seq ?_
  refine r_start ?_
  refine p 1 ?_
  refine rend ?_
  refine c_seq ?_
  refine r_start ?_
  refine p 1 ?_
  refine rend ?_
  refine c_seq ?_
  refine c_seq ?_
  refine r_start ?_
  refine p 3 ?_
  refine rend ?_
  refine c_block ?_
  refine joinH (X := Int) 0 (H.bnd h) (fun (x : Int) => x) (fun n2 => []) (fun n2 u => (jk u 0 3 (.int .i64 n2 :: (jk u 4 13 [])))) (fun h hj3 => ?_) ?_
  · skip
    refine rangeR (X := Int) (s_arg h0) (fun (x : Int) => x) (fun n1 => []) (fun (j4 : Nat) n1 u => (jk u 0 3 (.int .i64 n1 :: (jk u 4 2 (.slice A0 (List.length a0) k0 :: .int .i64 (List.length a0 : Int) :: .int .i64 (j4 : Int) :: (jk u 9 8 [])))))) 0 h (by kernel_rfl) (by kernel_rfl) ?_ ?_
    · intro j4 n1 u x5 q6 hg7 hw8 h
      refine c_seq ?_
      refine r_start ?_
      refine p 1 ?_
      refine rend ?_
      refine c_seq ?_
      refine c_yes q6 ?_
      refine c_skip ?_
      refine c_seq ?_
      refine c_block ?_
      refine c_seq ?_
      refine r_start ?_
      refine xq rfl (y_idx (e := (eI .i64)) (el := 3) hg7 (s_arg h0)) ?_
      refine xq rfl (y_el (e := (eI .i64)) 0 (.int .i64 x5) hg7 (s_arg h0)) ?_
      refine p 1 ?_
      refine rend ?_
      refine r_start ?_
      refine p 4 ?_
      refine rend ?_
      refine c_inb ?_
      refine r_start ?_
      refine p 2 ?_
      refine rend ?_
      refine c_set 8 (ci hw8) ?_
      replace h := H.inl h
      exact h (wr (n1 + x5)) _ _ rfl (by kernel_rfl) (by kernel_rfl)
    · intro n1 u q6 h
      refine c_seq ?_
      refine r_start ?_
      refine p 1 ?_
      refine rend ?_
      refine c_seq ?_
      refine c_no q6 ?_
      refine cx ?_
      replace h := H.done h
      exact hj3 n1 _ _ h (by kernel_rfl) (by kernel_rfl)
  intro n2 u h
  refine c_seq ?_
  refine r_start ?_
  refine p 2 ?_
  refine rend ?_
  replace h := H.done h
  subst h
  exact ret func154 rfl (vs := [.int .i64 n2]) (.tmp (by kernel_rfl) .nil) rfl (fun W S => ⟨rfl, S.below⟩)
theorem C.i_MiddleSign {fu : Nat} {a0 : (List Sign)} {A0 : Option Addr} {k0 : Nat} {r : (Int × Int × Bool)} (w : World) (h : X.i_MiddleSign fu a0 = some r) (h0 : RdT nSign w (.slice A0 (List.length a0) k0) a0) : Calls prog 81 #[.slice A0 (List.length a0) k0] w (Ret w (.tuple #[.int .i64 r.1, .int .i64 r.2.1, .bool r.2.2])) := by
  refine calls (M := no) (args := [.slice A0 (List.length a0) k0]) func81 rfl ?_
  replace h : H (X.i_MiddleSign fu a0) (fun o => o = r) := H.mk h
  unfold X.i_MiddleSign at h
  refine c_seq ?_
  refine r_start ?_
  refine p 3 ?_
  refine rend ?_
  refine c_seq ?_
  refine r_start ?_
  refine p 1 ?_
  obtain ⟨v1_1, hv1_1, h⟩ := H.call h
  refine xx rfl (e_crd [.slice A0 (List.length a0) k0] (fun v => .tuple #[v, .bool v1_1.2]) func79 (fun W S => C.i_DistanceTable W hv1_1 ((s_arg h0).out W S)) fun A1_1 k1_1 u1_1 => ?_)
  refine p 5 ?_
  refine rend ?_
  refine c_seq ?_
  refine c_seq ?_
  refine r_start ?_
  refine p 3 ?_
  refine br (!v1_1.2) (fun q1 => ?_) (fun q1 => ?_)
  · replace h := H.t q1 h
    refine o_set 17 (congrArg Value.bool q1) ?_
    refine p 4 ?_
    refine rend ?_
    refine c_t (by kernel_rfl) ?_
    refine c_seq ?_
    refine r_start ?_
    refine p 3 ?_
    refine rend ?_
    replace h := H.done h
    subst h
    exact ret func81 rfl (vs := [.int .i64 0, .int .i64 0, .bool false]) (.tmp (by kernel_rfl) (.tmp (by kernel_rfl) (.tmp (by kernel_rfl) .nil))) rfl (fun W S => ⟨rfl, S.below⟩)
  replace h := H.f q1 h
  refine o_set 17 (congrArg Value.bool q1) ?_
  refine p 4 ?_
  refine rend ?_
  refine c_or ((List.length a0 : Int) == 0) (fun q2 => ?_) (fun q2 => ?_)
  · replace h := H.t q2 h
    refine c_seq ?_
    refine r_start ?_
    refine p 3 ?_
    refine rend ?_
    replace h := H.done h
    subst h
    exact ret func81 rfl (vs := [.int .i64 0, .int .i64 0, .bool false]) (.tmp (by kernel_rfl) (.tmp (by kernel_rfl) (.tmp (by kernel_rfl) .nil))) rfl (fun W S => ⟨rfl, S.below⟩)
  replace h := H.f q2 h
  refine c_skip ?_
  refine c_seq ?_
  refine r_start ?_
  refine p 1 ?_
  refine rend ?_
  refine c_seq ?_
  refine c_seq ?_
  refine r_start ?_
  refine p 1 ?_
  refine p 1 ?_
  refine o_fact (f_len (i_own 1)) fun hl5_1 => ?_
  refine o_set 23 (len_sl hl5_1) ?_
  refine p 1 ?_
  refine rend ?_
  refine c_block ?_
  refine joinH (X := Int) 0 (H.bnd h) (fun (x : Int) => x) (fun n4 => [rowT eSl w.heap.size 69 (.slice A1_1 (List.length u1_1) k1_1) u1_1, inns (eI .i64) w.heap.size 3 u1_1 v1_1.1]) (fun n4 u => (jk u 0 5 (.slice A1_1 (List.length u1_1) k1_1 :: (jk u 6 1 (.int .i64 n4 :: (jk u 8 37 [])))))) (fun h hj5 => ?_) ?_
  · skip
    refine rangeRD (X := Int) (s_own 0) (i_own 1) (fun (x : Int) => x) (fun n3 => [rowT eSl w.heap.size 69 (.slice A1_1 (List.length u1_1) k1_1) u1_1, inns (eI .i64) w.heap.size 3 u1_1 v1_1.1]) (fun (j6 : Nat) n3 u => (jk u 0 5 (.slice A1_1 (List.length u1_1) k1_1 :: (jk u 6 1 (.int .i64 n3 :: (jk u 8 14 (.slice A1_1 (List.length u1_1) k1_1 :: .int .i64 (List.length v1_1.1 : Int) :: .int .i64 (j6 : Int) :: (jk u 25 20 [])))))))) 0 h (by kernel_rfl) (by kernel_rfl) ?_ ?_
    · intro j6 n3 u x7 q8 hg9 hw10 h
      refine c_seq ?_
      refine r_start ?_
      refine p 1 ?_
      refine rend ?_
      refine c_seq ?_
      refine c_yes q8 ?_
      refine c_skip ?_
      refine c_seq ?_
      refine c_block ?_
      refine c_seq ?_
      refine r_start ?_
      refine p 1 ?_
      refine o_fact (f_len (i_own 1)) fun hl7_1 => ?_
      obtain ⟨s7_1, hs7_1⟩ := getI_both hl7_1 hg9
      refine xq rfl (y_idx (e := eSl) (el := 69) hs7_1 (s_own 0)) ?_
      refine xq rfl (y_el (e := eSl) 0 (.slice s7_1.A s7_1.n s7_1.c) hs7_1 (s_own 0)) ?_
      refine o_fact (f_n (i_own 1) hs7_1 hg9) fun he7_2 => ?_
      refine o_set 28 (sl_n he7_2) ?_
      refine p 2 ?_
      refine rend ?_
      refine c_seq ?_
      refine as_start 8 8 ?_
      refine ap 0 1 ?_
      obtain ⟨v8_1, hv8_1, h⟩ := H.call h
      refine aq 1 rfl (y_call [.slice s7_1.A (List.length x7) s7_1.c] (.int .i64 v8_1) func154 (fun W S => C.i_sumOf W hv8_1 ((s_in (i_own 1) hs7_1 hg9).out W S))) ?_
      refine ap 2 2 ?_
      obtain ⟨y8_4, hy8_4, h⟩ := H.call h
      refine a_fact (f_len (i_own 1)) fun hl8_4 => ?_
      obtain ⟨s8_4, hs8_4⟩ := getI_both hl8_4 hy8_4
      refine aq 4 rfl (y_idx (e := eSl) (el := 69) hs8_4 (s_own 0)) ?_
      refine aq 5 rfl (y_el (e := eSl) 0 (.slice s8_4.A s8_4.n s8_4.c) hs8_4 (s_own 0)) ?_
      refine a_fact (f_n (i_own 1) hs8_4 hy8_4) fun he8_5 => ?_
      refine a_set 34 (sl_n he8_5) ?_
      obtain ⟨v8_6, hv8_6, h⟩ := H.call h
      refine aq 6 rfl (y_call [.slice s8_4.A (List.length y8_4) s8_4.c] (.int .i64 v8_6) func154 (fun W S => C.i_sumOf W hv8_6 ((s_in (i_own 1) hs8_4 hy8_4).out W S))) ?_
      refine ap 7 1 ?_
      refine a_done ?_
      refine c_or (decide (v8_1 < v8_6)) (fun q11 => ?_) (fun q11 => ?_)
      · replace h := H.t q11 h
        refine r_start ?_
        refine p 2 ?_
        refine rend ?_
        refine c_inb ?_
        refine r_start ?_
        refine p 2 ?_
        refine rend ?_
        refine c_set 24 (ci hw10) ?_
        replace h := H.inl h
        exact h (j6 : Int) _ _ rfl (by kernel_rfl) (by kernel_rfl)
      replace h := H.f q11 h
      refine c_skip ?_
      refine c_inb ?_
      refine r_start ?_
      refine p 2 ?_
      refine rend ?_
      refine c_set 24 (ci hw10) ?_
      replace h := H.inl h
      exact h n3 _ _ rfl (by kernel_rfl) (by kernel_rfl)
    · intro n3 u q8 h
      refine c_seq ?_
      refine r_start ?_
      refine p 1 ?_
      refine rend ?_
      refine c_seq ?_
      refine c_no q8 ?_
      refine cx ?_
      replace h := H.done h
      exact hj5 n3 _ _ h (by kernel_rfl) (by kernel_rfl)
  intro n4 u h
  refine c_seq ?_
  refine r_start ?_
  refine p 3 ?_
  obtain ⟨y11_3, hy11_3, h⟩ := H.call h
  refine o_fact (f_len (i_own 1)) fun hl11_3 => ?_
  obtain ⟨s11_3, hs11_3⟩ := getI_both hl11_3 hy11_3
  refine xq rfl (y_idx (e := eSl) (el := 69) hs11_3 (s_own 0)) ?_
  refine xq rfl (y_el (e := eSl) 0 (.slice s11_3.A s11_3.n s11_3.c) hs11_3 (s_own 0)) ?_
  refine o_fact (f_n (i_own 1) hs11_3 hy11_3) fun he11_4 => ?_
  refine o_set 43 (sl_n he11_4) ?_
  obtain ⟨v11_5, hv11_5, h⟩ := H.call h
  refine xq rfl (y_call [.slice s11_3.A (List.length y11_3) s11_3.c] (.int .i64 v11_5) func154 (fun W S => C.i_sumOf W hv11_5 ((s_in (i_own 1) hs11_3 hy11_3).out W S))) ?_
  refine p 3 ?_
  refine rend ?_
  replace h := H.done h
  subst h
  exact ret func81 rfl (vs := [.int .i64 n4, .int .i64 v11_5, .bool true]) (.tmp (by kernel_rfl) (.tmp (by kernel_rfl) (.tmp (by kernel_rfl) .nil))) rfl (fun W S => ⟨rfl, S.below⟩)
theorem C.s_MiddleSign {fu : Nat} {a0 : (List Sign)} {A0 : Option Addr} {k0 : Nat} {r : (Int × Int × Bool)} (w : World) (h : X.s_MiddleSign fu a0 = some r) (h0 : RdT nSign w (.slice A0 (List.length a0) k0) a0) : Calls prog 82 #[.slice A0 (List.length a0) k0] w (Ret w (.tuple #[.int .i64 r.1, .int .i64 r.2.1, .bool r.2.2])) := by
  refine calls (M := no) (args := [.slice A0 (List.length a0) k0]) func82 rfl ?_
  replace h : H (X.s_MiddleSign fu a0) (fun o => o = r) := H.mk h
  unfold X.s_MiddleSign at h
  refine c_seq ?_
  refine r_start ?_
  refine p 3 ?_
  refine rend ?_
  refine c_seq ?_
  refine c_seq ?_
  refine r_start ?_
  refine p 1 ?_
  obtain ⟨v1_1, hv1_1, h⟩ := H.call h
  refine xq rfl (y_call [.slice A0 (List.length a0) k0] (.bool v1_1) func148 (fun W S => C.s_paList W hv1_1 ((s_arg h0).out W S))) ?_
  refine p 2 ?_
  refine br (!v1_1) (fun q1 => ?_) (fun q1 => ?_)
  · replace h := H.t q1 h
    refine o_set 15 (congrArg Value.bool q1) ?_
    refine p 4 ?_
    refine rend ?_
    refine c_t (by kernel_rfl) ?_
    refine c_seq ?_
    refine r_start ?_
    refine p 3 ?_
    refine rend ?_
    replace h := H.done h
    subst h
    exact ret func82 rfl (vs := [.int .i64 0, .int .i64 0, .bool false]) (.tmp (by kernel_rfl) (.tmp (by kernel_rfl) (.tmp (by kernel_rfl) .nil))) rfl (fun W S => ⟨rfl, S.below⟩)
  replace h := H.f q1 h
  refine o_set 15 (congrArg Value.bool q1) ?_
  refine p 4 ?_
  refine rend ?_
  refine c_or ((List.length a0 : Int) == 0) (fun q2 => ?_) (fun q2 => ?_)
  · replace h := H.t q2 h
    refine c_seq ?_
    refine r_start ?_
    refine p 3 ?_
    refine rend ?_
    replace h := H.done h
    subst h
    exact ret func82 rfl (vs := [.int .i64 0, .int .i64 0, .bool false]) (.tmp (by kernel_rfl) (.tmp (by kernel_rfl) (.tmp (by kernel_rfl) .nil))) rfl (fun W S => ⟨rfl, S.below⟩)
  replace h := H.f q2 h
  refine c_skip ?_
  refine c_seq ?_
  refine r_start ?_
  refine p 2 ?_
  refine rend ?_
  refine c_seq ?_
  refine c_seq ?_
  refine r_start ?_
  refine p 3 ?_
  refine rend ?_
  refine c_block ?_
  refine joinH (X := (Int × Int)) 0 (H.bnd h) (fun (x : (Int × Int)) => x) (fun ⟨n5, n6⟩ => []) (fun ⟨n5, n6⟩ u => (jk u 0 5 (.int .i64 n5 :: .int .i64 n6 :: (jk u 7 44 [])))) (fun h hj7 => ?_) ?_
  · skip
    refine rangeR (X := (Int × Int)) (s_arg h0) (fun (x : (Int × Int)) => x) (fun ⟨n3, n4⟩ => []) (fun (j8 : Nat) ⟨n3, n4⟩ u => (.slice A0 (List.length a0) k0 :: (jk u 1 4 (.int .i64 n3 :: .int .i64 n4 :: (jk u 7 13 (.slice A0 (List.length a0) k0 :: .int .i64 (List.length a0 : Int) :: .int .i64 (j8 : Int) :: (jk u 23 28 []))))))) ((-1), 0) h (by kernel_rfl) (by kernel_rfl) ?_ ?_
    · intro j8 x u x9 q10 hg11 hw12 h
      obtain ⟨n3, n4⟩ := x
      refine c_seq ?_
      refine r_start ?_
      refine p 1 ?_
      refine rend ?_
      refine c_seq ?_
      refine c_yes q10 ?_
      refine c_skip ?_
      refine c_seq ?_
      refine c_block ?_
      refine c_seq ?_
      refine r_start ?_
      refine p 1 ?_
      refine xq rfl (y_idx (e := nSign) (el := 37) hg11 (s_arg h0)) ?_
      refine xq rfl (y_el (e := nSign) 0 (.agg (eSign x9).toArray) hg11 (s_arg h0)) ?_
      refine xx rfl (x_new (eSign zSign) fun g6_3 => ?_)
      refine p 1 ?_
      refine xx rfl (x_sto 0 g6_3 0 (eSign x9) ?_)
      refine rend ?_
      refine c_seq ?_
      refine r_start ?_
      refine p 1 ?_
      refine rend ?_
      refine c_seq ?_
      refine c_seq ?_
      refine r_start ?_
      refine p 3 ?_
      refine rend ?_
      refine c_block ?_
      refine joinH (X := Int) 2 (H.bnd h) (fun (x : Int) => x) (fun n14 => [box g6_3 37 (eSign x9)]) (fun n14 u => (.slice A0 (List.length a0) k0 :: (jk u 1 4 (.int .i64 n3 :: .int .i64 n4 :: .int .i64 (j8 : Int) :: (jk u 8 1 (.int .i64 n14 :: (jk u 10 10 (.slice A0 (List.length a0) k0 :: .int .i64 (List.length a0 : Int) :: .int .i64 (j8 : Int) :: (jk u 23 28 []))))))))) (fun h hj15 => ?_) ?_
      · skip
        refine rangeR (X := Int) (s_arg h0) (fun (x : Int) => x) (fun n13 => [box g6_3 37 (eSign x9)]) (fun (j16 : Nat) n13 u => (.slice A0 (List.length a0) k0 :: (jk u 1 4 (.int .i64 n3 :: .int .i64 n4 :: .int .i64 (j8 : Int) :: .pointer (some ⟨g6_3, 0, none⟩) :: .int .i64 n13 :: (jk u 10 10 (.slice A0 (List.length a0) k0 :: .int .i64 (List.length a0 : Int) :: .int .i64 (j8 : Int) :: (jk u 23 4 (.slice A0 (List.length a0) k0 :: .int .i64 (List.length a0 : Int) :: .int .i64 (j16 : Int) :: (jk u 30 21 []))))))))) 0 h (by kernel_rfl) (by kernel_rfl) ?_ ?_
        · intro j16 n13 u x17 q18 hg19 hw20 h
          refine c_seq ?_
          refine r_start ?_
          refine p 1 ?_
          refine rend ?_
          refine c_seq ?_
          refine c_yes q18 ?_
          refine c_skip ?_
          refine c_seq ?_
          refine c_block ?_
          refine c_seq ?_
          refine r_start ?_
          refine xq rfl (y_idx (e := nSign) (el := 37) hg19 (s_arg h0)) ?_
          refine xq rfl (y_el (e := nSign) 0 (.agg (eSign x17).toArray) hg19 (s_arg h0)) ?_
          refine xx rfl (x_new (eSign zSign) fun g10_2 => ?_)
          refine xx rfl (x_sto 1 g10_2 0 (eSign x17) ?_)
          refine rend ?_
          refine r_start ?_
          refine p 1 ?_
          refine xq rfl (y_load (.agg (eSign x9).toArray) 0 g6_3 0) ?_
          refine xq rfl (y_load (.agg (eSign x17).toArray) 1 g10_2 0) ?_
          obtain ⟨v11_3, hv11_3, h⟩ := H.call h
          refine xq rfl (y_call [.agg (eSign x9).toArray, .agg (eSign x17).toArray] (.int .i64 v11_3) func120 (fun W S => C.s_feFar W hv11_3)) ?_
          refine p 2 ?_
          refine rend ?_
          refine c_inb ?_
          refine r_start ?_
          refine p 2 ?_
          refine rend ?_
          refine c_set 29 (ci hw20) ?_
          replace h := H.inl h
          exact h (wr (n13 + v11_3)) _ _ rfl (by kernel_rfl) (by kernel_rfl)
        · intro n13 u q18 h
          refine c_seq ?_
          refine r_start ?_
          refine p 1 ?_
          refine rend ?_
          refine c_seq ?_
          refine c_no q18 ?_
          refine cx ?_
          replace h := H.done h
          exact hj15 n13 _ _ h (by kernel_rfl) (by kernel_rfl)
      intro n14 u h
      refine c_seq ?_
      refine r_start ?_
      refine p 3 ?_
      refine br (decide (n3 < 0)) (fun q21 => ?_) (fun q21 => ?_)
      · replace h := H.t q21 h
        refine o_set 41 (congrArg Value.bool q21) ?_
        refine p 4 ?_
        refine rend ?_
        refine c_t (by kernel_rfl) ?_
        refine c_seq ?_
        refine r_start ?_
        refine p 2 ?_
        refine rend ?_
        refine r_start ?_
        refine p 2 ?_
        refine rend ?_
        refine frg (fun u => (.slice A0 (List.length a0) k0 :: (jk u 1 4 (.int .i64 (j8 : Int) :: .int .i64 n14 :: (jk u 7 13 (.slice A0 (List.length a0) k0 :: .int .i64 (List.length a0 : Int) :: .int .i64 (j8 : Int) :: (jk u 23 28 []))))))) (by kernel_rfl) fun u => ?_
        refine keep 1 (its' := [box g6_3 37 (eSign x9)]) (by kernel_rfl) ?_
        refine c_inb ?_
        refine r_start ?_
        refine p 2 ?_
        refine rend ?_
        refine c_set 22 (ci hw12) ?_
        replace h := H.inl h
        exact h ((j8 : Int), n14) _ _ rfl (by kernel_rfl) (by kernel_rfl)
      replace h := H.f q21 h
      refine o_set 41 (congrArg Value.bool q21) ?_
      refine p 4 ?_
      refine rend ?_
      refine c_or (decide (n14 < n4)) (fun q22 => ?_) (fun q22 => ?_)
      · replace h := H.t q22 h
        refine c_seq ?_
        refine r_start ?_
        refine p 2 ?_
        refine rend ?_
        refine r_start ?_
        refine p 2 ?_
        refine rend ?_
        refine frg (fun u => (.slice A0 (List.length a0) k0 :: (jk u 1 4 (.int .i64 (j8 : Int) :: .int .i64 n14 :: (jk u 7 13 (.slice A0 (List.length a0) k0 :: .int .i64 (List.length a0 : Int) :: .int .i64 (j8 : Int) :: (jk u 23 28 []))))))) (by kernel_rfl) fun u => ?_
        refine keep 1 (its' := [box g6_3 37 (eSign x9)]) (by kernel_rfl) ?_
        refine c_inb ?_
        refine r_start ?_
        refine p 2 ?_
        refine rend ?_
        refine c_set 22 (ci hw12) ?_
        replace h := H.inl h
        exact h ((j8 : Int), n14) _ _ rfl (by kernel_rfl) (by kernel_rfl)
      replace h := H.f q22 h
      refine c_skip ?_
      refine c_inb ?_
      refine r_start ?_
      refine p 2 ?_
      refine rend ?_
      refine c_set 22 (ci hw12) ?_
      replace h := H.inl h
      exact h (n3, n4) _ _ rfl (by kernel_rfl) (by kernel_rfl)
    · intro x u q10 h
      obtain ⟨n3, n4⟩ := x
      refine c_seq ?_
      refine r_start ?_
      refine p 1 ?_
      refine rend ?_
      refine c_seq ?_
      refine c_no q10 ?_
      refine cx ?_
      replace h := H.done h
      exact hj7 (n3, n4) _ _ h (by kernel_rfl) (by kernel_rfl)
  intro x u h
  obtain ⟨n5, n6⟩ := x
  refine c_seq ?_
  refine r_start ?_
  refine p 5 ?_
  refine rend ?_
  replace h := H.done h
  subst h
  exact ret func82 rfl (vs := [.int .i64 n5, .int .i64 n6, .bool true]) (.tmp (by kernel_rfl) (.tmp (by kernel_rfl) (.tmp (by kernel_rfl) .nil))) rfl (fun W S => ⟨rfl, S.below⟩)
theorem C.i_FarthestPair {fu : Nat} {a0 : (List Sign)} {A0 : Option Addr} {k0 : Nat} {r : (Int × Int × Int × Bool)} (w : World) (h : X.i_FarthestPair fu a0 = some r) (h0 : RdT nSign w (.slice A0 (List.length a0) k0) a0) : Calls prog 83 #[.slice A0 (List.length a0) k0] w (Ret w (.tuple #[.int .i64 r.1, .int .i64 r.2.1, .int .i64 r.2.2.1, .bool r.2.2.2])) := by
  refine calls (M := no) (args := [.slice A0 (List.length a0) k0]) func83 rfl ?_
  replace h : H (X.i_FarthestPair fu a0) (fun o => o = r) := H.mk h
  unfold X.i_FarthestPair at h
  refine c_seq ?_
  refine r_start ?_
  refine p 4 ?_
  refine rend ?_
  refine c_seq ?_
  refine r_start ?_
  refine p 1 ?_
  obtain ⟨v1_1, hv1_1, h⟩ := H.call h
  refine xx rfl (e_crd [.slice A0 (List.length a0) k0] (fun v => .tuple #[v, .bool v1_1.2]) func79 (fun W S => C.i_DistanceTable W hv1_1 ((s_arg h0).out W S)) fun A1_1 k1_1 u1_1 => ?_)
  refine p 5 ?_
  refine rend ?_
  refine c_seq ?_
  refine c_seq ?_
  refine r_start ?_
  refine p 3 ?_
  refine br (!v1_1.2) (fun q1 => ?_) (fun q1 => ?_)
  · replace h := H.t q1 h
    refine o_set 20 (congrArg Value.bool q1) ?_
    refine p 4 ?_
    refine rend ?_
    refine c_t (by kernel_rfl) ?_
    refine c_seq ?_
    refine r_start ?_
    refine p 4 ?_
    refine rend ?_
    replace h := H.done h
    subst h
    exact ret func83 rfl (vs := [.int .i64 0, .int .i64 0, .int .i64 0, .bool false]) (.tmp (by kernel_rfl) (.tmp (by kernel_rfl) (.tmp (by kernel_rfl) (.tmp (by kernel_rfl) .nil)))) rfl (fun W S => ⟨rfl, S.below⟩)
  replace h := H.f q1 h
  refine o_set 20 (congrArg Value.bool q1) ?_
  refine p 4 ?_
  refine rend ?_
  refine c_or (decide ((List.length a0 : Int) < 2)) (fun q2 => ?_) (fun q2 => ?_)
  · replace h := H.t q2 h
    refine c_seq ?_
    refine r_start ?_
    refine p 4 ?_
    refine rend ?_
    replace h := H.done h
    subst h
    exact ret func83 rfl (vs := [.int .i64 0, .int .i64 0, .int .i64 0, .bool false]) (.tmp (by kernel_rfl) (.tmp (by kernel_rfl) (.tmp (by kernel_rfl) (.tmp (by kernel_rfl) .nil)))) rfl (fun W S => ⟨rfl, S.below⟩)
  replace h := H.f q2 h
  refine c_skip ?_
  refine c_seq ?_
  refine r_start ?_
  refine p 2 ?_
  refine rend ?_
  refine c_seq ?_
  refine c_seq ?_
  refine r_start ?_
  refine p 1 ?_
  refine p 1 ?_
  refine o_fact (f_len (i_own 1)) fun hl5_1 => ?_
  refine o_set 26 (len_sl hl5_1) ?_
  refine p 1 ?_
  refine rend ?_
  refine c_block ?_
  refine joinH (X := (Int × Int)) 0 (H.bnd h) (fun (x : (Int × Int)) => x) (fun ⟨n5, n6⟩ => [rowT eSl w.heap.size 69 (.slice A1_1 (List.length u1_1) k1_1) u1_1, inns (eI .i64) w.heap.size 3 u1_1 v1_1.1]) (fun ⟨n5, n6⟩ u => (jk u 0 6 (.slice A1_1 (List.length u1_1) k1_1 :: (jk u 7 1 (.int .i64 n5 :: .int .i64 n6 :: (jk u 10 54 [])))))) (fun h hj7 => ?_) ?_
  · skip
    refine rangeRD (X := (Int × Int)) (s_own 0) (i_own 1) (fun (x : (Int × Int)) => x) (fun ⟨n3, n4⟩ => [rowT eSl w.heap.size 69 (.slice A1_1 (List.length u1_1) k1_1) u1_1, inns (eI .i64) w.heap.size 3 u1_1 v1_1.1]) (fun (j8 : Nat) ⟨n3, n4⟩ u => (jk u 0 6 (.slice A1_1 (List.length u1_1) k1_1 :: (jk u 7 1 (.int .i64 n3 :: .int .i64 n4 :: (jk u 10 15 (.slice A1_1 (List.length u1_1) k1_1 :: .int .i64 (List.length v1_1.1 : Int) :: .int .i64 (j8 : Int) :: (jk u 28 36 [])))))))) (0, 1) h (by kernel_rfl) (by kernel_rfl) ?_ ?_
    · intro j8 x u x9 q10 hg11 hw12 h
      obtain ⟨n3, n4⟩ := x
      refine c_seq ?_
      refine r_start ?_
      refine p 1 ?_
      refine rend ?_
      refine c_seq ?_
      refine c_yes q10 ?_
      refine c_skip ?_
      refine c_seq ?_
      refine c_block ?_
      refine c_seq ?_
      refine r_start ?_
      refine p 1 ?_
      refine o_fact (f_len (i_own 1)) fun hl7_1 => ?_
      obtain ⟨s7_1, hs7_1⟩ := getI_both hl7_1 hg11
      refine xq rfl (y_idx (e := eSl) (el := 69) hs7_1 (s_own 0)) ?_
      refine xq rfl (y_el (e := eSl) 0 (.slice s7_1.A s7_1.n s7_1.c) hs7_1 (s_own 0)) ?_
      refine o_fact (f_n (i_own 1) hs7_1 hg11) fun he7_2 => ?_
      refine o_set 31 (sl_n he7_2) ?_
      refine p 2 ?_
      refine rend ?_
      refine c_seq ?_
      refine r_start ?_
      refine p 3 ?_
      refine rend ?_
      refine c_block ?_
      refine joinH (X := (Int × Int)) 2 (H.bnd h) (fun (x : (Int × Int)) => x) (fun ⟨n16, n17⟩ => [rowT eSl w.heap.size 69 (.slice A1_1 (List.length u1_1) k1_1) u1_1, inns (eI .i64) w.heap.size 3 u1_1 v1_1.1]) (fun ⟨n16, n17⟩ u => (jk u 0 6 (.slice A1_1 (List.length u1_1) k1_1 :: (jk u 7 1 (.int .i64 n16 :: .int .i64 n17 :: (jk u 10 15 (.slice A1_1 (List.length u1_1) k1_1 :: .int .i64 (List.length v1_1.1 : Int) :: .int .i64 (j8 : Int) :: (jk u 28 36 [])))))))) (fun h hj18 => ?_) ?_
      · skip
        refine loopR (X := (Int × Int × Int)) (fun (x : (Int × Int × Int)) => x) (fun ⟨n13, n14, n15⟩ => [rowT eSl w.heap.size 69 (.slice A1_1 (List.length u1_1) k1_1) u1_1, inns (eI .i64) w.heap.size 3 u1_1 v1_1.1]) (fun ⟨n13, n14, n15⟩ u => (jk u 0 6 (.slice A1_1 (List.length u1_1) k1_1 :: (jk u 7 1 (.int .i64 n13 :: .int .i64 n14 :: .int .i64 (j8 : Int) :: .slice s7_1.A (List.length x9) s7_1.c :: .int .i64 n15 :: (jk u 13 12 (.slice A1_1 (List.length u1_1) k1_1 :: .int .i64 (List.length v1_1.1 : Int) :: .int .i64 (j8 : Int) :: (jk u 28 36 [])))))))) (n3, n4, (wr ((j8 : Int) + 1))) h (by kernel_rfl) (by kernel_rfl) ?_
        intro x u h
        obtain ⟨n13, n14, n15⟩ := x
        refine c_seq ?_
        refine c_seq ?_
        refine r_start ?_
        refine p 4 ?_
        refine rend ?_
        refine c_or (decide (n15 < (List.length x9 : Int))) (fun q19 => ?_) (fun q19 => ?_)
        · replace h := H.t q19 h
          refine c_skip ?_
          refine c_seq ?_
          refine c_block ?_
          refine c_seq ?_
          refine as_start 12 12 ?_
          refine ap 0 2 ?_
          obtain ⟨y11_2, hy11_2, h⟩ := H.call h
          refine aq 2 rfl (y_idx (e := (eI .i64)) (el := 3) hy11_2 (s_in (i_own 1) hs7_1 hg11)) ?_
          refine aq 3 rfl (y_el (e := (eI .i64)) 0 (.int .i64 y11_2) hy11_2 (s_in (i_own 1) hs7_1 hg11)) ?_
          refine ap 4 2 ?_
          obtain ⟨y11_6, hy11_6, h⟩ := H.call h
          refine a_fact (f_len (i_own 1)) fun hl11_6 => ?_
          obtain ⟨s11_6, hs11_6⟩ := getI_both hl11_6 hy11_6
          refine aq 6 rfl (y_idx (e := eSl) (el := 69) hs11_6 (s_own 0)) ?_
          refine aq 7 rfl (y_el (e := eSl) 0 (.slice s11_6.A s11_6.n s11_6.c) hs11_6 (s_own 0)) ?_
          refine a_fact (f_n (i_own 1) hs11_6 hy11_6) fun he11_7 => ?_
          refine a_set 47 (sl_n he11_7) ?_
          refine ap 8 1 ?_
          obtain ⟨y11_9, hy11_9, h⟩ := H.call h
          refine aq 9 rfl (y_idx (e := (eI .i64)) (el := 3) hy11_9 (s_in (i_own 1) hs11_6 hy11_6)) ?_
          refine aq 10 rfl (y_el (e := (eI .i64)) 0 (.int .i64 y11_9) hy11_9 (s_in (i_own 1) hs11_6 hy11_6)) ?_
          refine ap 11 1 ?_
          refine a_done ?_
          refine c_or (decide (y11_2 > y11_9)) (fun q20 => ?_) (fun q20 => ?_)
          · replace h := H.t q20 h
            refine r_start ?_
            refine p 4 ?_
            refine rend ?_
            refine c_inb ?_
            refine r_start ?_
            refine p 3 ?_
            refine rend ?_
            replace h := H.inl h
            exact h ((j8 : Int), n15, (wr (n15 + 1))) _ _ rfl (by kernel_rfl) (by kernel_rfl)
          replace h := H.f q20 h
          refine c_skip ?_
          refine c_inb ?_
          refine r_start ?_
          refine p 3 ?_
          refine rend ?_
          replace h := H.inl h
          exact h (n13, n14, (wr (n15 + 1))) _ _ rfl (by kernel_rfl) (by kernel_rfl)
        replace h := H.f q19 h
        refine cx ?_
        replace h := H.inr h
        exact hj18 (n13, n14) _ _ h (by kernel_rfl) (by kernel_rfl)
      intro x u h
      obtain ⟨n16, n17⟩ := x
      refine c_inb ?_
      refine r_start ?_
      refine p 2 ?_
      refine rend ?_
      refine c_set 27 (ci hw12) ?_
      replace h := H.inl h
      exact h (n16, n17) _ _ rfl (by kernel_rfl) (by kernel_rfl)
    · intro x u q10 h
      obtain ⟨n3, n4⟩ := x
      refine c_seq ?_
      refine r_start ?_
      refine p 1 ?_
      refine rend ?_
      refine c_seq ?_
      refine c_no q10 ?_
      refine cx ?_
      replace h := H.done h
      exact hj7 (n3, n4) _ _ h (by kernel_rfl) (by kernel_rfl)
  intro x u h
  obtain ⟨n5, n6⟩ := x
  refine c_seq ?_
  refine as_start 13 13 ?_
  refine ap 0 4 ?_
  obtain ⟨y14_4, hy14_4, h⟩ := H.call h
  refine a_fact (f_len (i_own 1)) fun hl14_4 => ?_
  obtain ⟨s14_4, hs14_4⟩ := getI_both hl14_4 hy14_4
  refine aq 4 rfl (y_idx (e := eSl) (el := 69) hs14_4 (s_own 0)) ?_
  refine aq 5 rfl (y_el (e := eSl) 0 (.slice s14_4.A s14_4.n s14_4.c) hs14_4 (s_own 0)) ?_
  refine a_fact (f_n (i_own 1) hs14_4 hy14_4) fun he14_5 => ?_
  refine a_set 60 (sl_n he14_5) ?_
  refine ap 6 1 ?_
  obtain ⟨y14_7, hy14_7, h⟩ := H.call h
  refine aq 7 rfl (y_idx (e := (eI .i64)) (el := 3) hy14_7 (s_in (i_own 1) hs14_4 hy14_4)) ?_
  refine aq 8 rfl (y_el (e := (eI .i64)) 0 (.int .i64 y14_7) hy14_7 (s_in (i_own 1) hs14_4 hy14_4)) ?_
  refine ap 9 4 ?_
  refine a_done ?_
  replace h := H.done h
  subst h
  exact ret func83 rfl (vs := [.int .i64 n5, .int .i64 n6, .int .i64 y14_7, .bool true]) (.tmp (by kernel_rfl) (.tmp (by kernel_rfl) (.tmp (by kernel_rfl) (.tmp (by kernel_rfl) .nil)))) rfl (fun W S => ⟨rfl, S.below⟩)
theorem C.s_FarthestPair {fu : Nat} {a0 : (List Sign)} {A0 : Option Addr} {k0 : Nat} {r : (Int × Int × Int × Bool)} (w : World) (h : X.s_FarthestPair fu a0 = some r) (h0 : RdT nSign w (.slice A0 (List.length a0) k0) a0) : Calls prog 84 #[.slice A0 (List.length a0) k0] w (Ret w (.tuple #[.int .i64 r.1, .int .i64 r.2.1, .int .i64 r.2.2.1, .bool r.2.2.2])) := by
  refine calls (M := no) (args := [.slice A0 (List.length a0) k0]) func84 rfl ?_
  replace h : H (X.s_FarthestPair fu a0) (fun o => o = r) := H.mk h
  unfold X.s_FarthestPair at h
  refine c_seq ?_
  refine r_start ?_
  refine p 4 ?_
  refine rend ?_
  refine c_seq ?_
  refine c_seq ?_
  refine r_start ?_
  refine p 1 ?_
  obtain ⟨v1_1, hv1_1, h⟩ := H.call h
  refine xq rfl (y_call [.slice A0 (List.length a0) k0] (.bool v1_1) func148 (fun W S => C.s_paList W hv1_1 ((s_arg h0).out W S))) ?_
  refine p 2 ?_
  refine br (!v1_1) (fun q1 => ?_) (fun q1 => ?_)
  · replace h := H.t q1 h
    refine o_set 16 (congrArg Value.bool q1) ?_
    refine p 4 ?_
    refine rend ?_
    refine c_t (by kernel_rfl) ?_
    refine c_seq ?_
    refine r_start ?_
    refine p 4 ?_
    refine rend ?_
    replace h := H.done h
    subst h
    exact ret func84 rfl (vs := [.int .i64 0, .int .i64 0, .int .i64 0, .bool false]) (.tmp (by kernel_rfl) (.tmp (by kernel_rfl) (.tmp (by kernel_rfl) (.tmp (by kernel_rfl) .nil)))) rfl (fun W S => ⟨rfl, S.below⟩)
  replace h := H.f q1 h
  refine o_set 16 (congrArg Value.bool q1) ?_
  refine p 4 ?_
  refine rend ?_
  refine c_or (decide ((List.length a0 : Int) < 2)) (fun q2 => ?_) (fun q2 => ?_)
  · replace h := H.t q2 h
    refine c_seq ?_
    refine r_start ?_
    refine p 4 ?_
    refine rend ?_
    replace h := H.done h
    subst h
    exact ret func84 rfl (vs := [.int .i64 0, .int .i64 0, .int .i64 0, .bool false]) (.tmp (by kernel_rfl) (.tmp (by kernel_rfl) (.tmp (by kernel_rfl) (.tmp (by kernel_rfl) .nil)))) rfl (fun W S => ⟨rfl, S.below⟩)
  replace h := H.f q2 h
  refine c_skip ?_
  refine c_seq ?_
  refine r_start ?_
  refine p 3 ?_
  refine rend ?_
  refine c_seq ?_
  refine c_seq ?_
  refine r_start ?_
  refine p 3 ?_
  refine rend ?_
  refine c_block ?_
  refine joinH (X := (Int × Int × Int)) 0 (H.bnd h) (fun (x : (Int × Int × Int)) => x) (fun ⟨n6, n7, n8⟩ => []) (fun ⟨n6, n7, n8⟩ u => (jk u 0 6 (.int .i64 n6 :: .int .i64 n7 :: .int .i64 n8 :: (jk u 9 43 [])))) (fun h hj9 => ?_) ?_
  · skip
    refine rangeR (X := (Int × Int × Int)) (s_arg h0) (fun (x : (Int × Int × Int)) => x) (fun ⟨n3, n4, n5⟩ => []) (fun (j10 : Nat) ⟨n3, n4, n5⟩ u => (.slice A0 (List.length a0) k0 :: (jk u 1 5 (.int .i64 n3 :: .int .i64 n4 :: .int .i64 n5 :: (jk u 9 12 (.slice A0 (List.length a0) k0 :: .int .i64 (List.length a0 : Int) :: .int .i64 (j10 : Int) :: (jk u 24 28 []))))))) (0, 0, (-1)) h (by kernel_rfl) (by kernel_rfl) ?_ ?_
    · intro j10 x u x11 q12 hg13 hw14 h
      obtain ⟨n3, n4, n5⟩ := x
      refine c_seq ?_
      refine r_start ?_
      refine p 1 ?_
      refine rend ?_
      refine c_seq ?_
      refine c_yes q12 ?_
      refine c_skip ?_
      refine c_seq ?_
      refine c_block ?_
      refine c_seq ?_
      refine r_start ?_
      refine p 1 ?_
      refine xq rfl (y_idx (e := nSign) (el := 37) hg13 (s_arg h0)) ?_
      refine xq rfl (y_el (e := nSign) 0 (.agg (eSign x11).toArray) hg13 (s_arg h0)) ?_
      refine xx rfl (x_new (eSign zSign) fun g6_3 => ?_)
      refine p 1 ?_
      refine xx rfl (x_sto 0 g6_3 0 (eSign x11) ?_)
      refine rend ?_
      refine c_seq ?_
      refine r_start ?_
      refine p 3 ?_
      refine rend ?_
      refine c_block ?_
      refine joinH (X := (Int × Int × Int)) 2 (H.bnd h) (fun (x : (Int × Int × Int)) => x) (fun ⟨n19, n20, n21⟩ => [box g6_3 37 (eSign x11)]) (fun ⟨n19, n20, n21⟩ u => (.slice A0 (List.length a0) k0 :: (jk u 1 5 (.int .i64 n19 :: .int .i64 n20 :: .int .i64 n21 :: (jk u 9 12 (.slice A0 (List.length a0) k0 :: .int .i64 (List.length a0 : Int) :: .int .i64 (j10 : Int) :: (jk u 24 28 []))))))) (fun h hj22 => ?_) ?_
      · skip
        refine loopR (X := (Int × Int × Int × Int)) (fun (x : (Int × Int × Int × Int)) => x) (fun ⟨n15, n16, n17, n18⟩ => [box g6_3 37 (eSign x11)]) (fun ⟨n15, n16, n17, n18⟩ u => (.slice A0 (List.length a0) k0 :: (jk u 1 5 (.int .i64 n15 :: .int .i64 n16 :: .int .i64 n17 :: .int .i64 (j10 : Int) :: .pointer (some ⟨g6_3, 0, none⟩) :: .int .i64 n18 :: (jk u 12 9 (.slice A0 (List.length a0) k0 :: .int .i64 (List.length a0 : Int) :: .int .i64 (j10 : Int) :: (jk u 24 28 []))))))) (n3, n4, n5, (wr ((j10 : Int) + 1))) h (by kernel_rfl) (by kernel_rfl) ?_
        intro x u h
        obtain ⟨n15, n16, n17, n18⟩ := x
        refine c_seq ?_
        refine c_seq ?_
        refine r_start ?_
        refine p 4 ?_
        refine rend ?_
        refine c_or (decide (n18 < (List.length a0 : Int))) (fun q23 => ?_) (fun q23 => ?_)
        · replace h := H.t q23 h
          refine c_skip ?_
          refine c_seq ?_
          refine c_block ?_
          refine c_seq ?_
          refine as_start 7 7 ?_
          refine aq 0 rfl (y_load (.agg (eSign x11).toArray) 0 g6_3 0) ?_
          refine ap 1 2 ?_
          obtain ⟨y10_3, hy10_3, h⟩ := H.call h
          refine aq 3 rfl (y_idx (e := nSign) (el := 37) hy10_3 (s_arg h0)) ?_
          refine aq 4 rfl (y_el (e := nSign) 0 (.agg (eSign y10_3).toArray) hy10_3 (s_arg h0)) ?_
          obtain ⟨v10_5, hv10_5, h⟩ := H.call h
          refine aq 5 rfl (y_call [.agg (eSign x11).toArray, .agg (eSign y10_3).toArray] (.int .i64 v10_5) func120 (fun W S => C.s_feFar W hv10_5)) ?_
          refine ap 6 1 ?_
          refine a_done ?_
          refine c_seq ?_
          refine r_start ?_
          refine p 3 ?_
          refine rend ?_
          refine c_or (decide (v10_5 > n17)) (fun q24 => ?_) (fun q24 => ?_)
          · replace h := H.t q24 h
            refine c_seq ?_
            refine r_start ?_
            refine p 2 ?_
            refine rend ?_
            refine c_seq ?_
            refine r_start ?_
            refine p 2 ?_
            refine rend ?_
            refine r_start ?_
            refine p 2 ?_
            refine rend ?_
            refine frg (fun u => (.slice A0 (List.length a0) k0 :: (jk u 1 5 (.int .i64 (j10 : Int) :: .int .i64 n18 :: .int .i64 v10_5 :: .int .i64 (j10 : Int) :: .pointer (some ⟨g6_3, 0, none⟩) :: .int .i64 n18 :: (jk u 12 9 (.slice A0 (List.length a0) k0 :: .int .i64 (List.length a0 : Int) :: .int .i64 (j10 : Int) :: (jk u 24 28 []))))))) (by kernel_rfl) fun u => ?_
            refine keep 1 (its' := [box g6_3 37 (eSign x11)]) (by kernel_rfl) ?_
            refine c_inb ?_
            refine r_start ?_
            refine p 3 ?_
            refine rend ?_
            replace h := H.inl h
            exact h ((j10 : Int), n18, v10_5, (wr (n18 + 1))) _ _ rfl (by kernel_rfl) (by kernel_rfl)
          replace h := H.f q24 h
          refine c_skip ?_
          refine c_inb ?_
          refine r_start ?_
          refine p 3 ?_
          refine rend ?_
          replace h := H.inl h
          exact h (n15, n16, n17, (wr (n18 + 1))) _ _ rfl (by kernel_rfl) (by kernel_rfl)
        replace h := H.f q23 h
        refine cx ?_
        replace h := H.inr h
        exact hj22 (n15, n16, n17) _ _ h (by kernel_rfl) (by kernel_rfl)
      intro x u h
      obtain ⟨n19, n20, n21⟩ := x
      refine c_inb ?_
      refine r_start ?_
      refine p 2 ?_
      refine rend ?_
      refine c_set 23 (ci hw14) ?_
      replace h := H.inl h
      exact h (n19, n20, n21) _ _ rfl (by kernel_rfl) (by kernel_rfl)
    · intro x u q12 h
      obtain ⟨n3, n4, n5⟩ := x
      refine c_seq ?_
      refine r_start ?_
      refine p 1 ?_
      refine rend ?_
      refine c_seq ?_
      refine c_no q12 ?_
      refine cx ?_
      replace h := H.done h
      exact hj9 (n3, n4, n5) _ _ h (by kernel_rfl) (by kernel_rfl)
  intro x u h
  obtain ⟨n6, n7, n8⟩ := x
  refine c_seq ?_
  refine r_start ?_
  refine p 7 ?_
  refine rend ?_
  replace h := H.done h
  subst h
  exact ret func84 rfl (vs := [.int .i64 n6, .int .i64 n7, .int .i64 n8, .bool true]) (.tmp (by kernel_rfl) (.tmp (by kernel_rfl) (.tmp (by kernel_rfl) (.tmp (by kernel_rfl) .nil)))) rfl (fun W S => ⟨rfl, S.below⟩)
theorem C.l_qInts {a0 : (List Int)} {A0 : Option Addr} {k0 : Nat} {a1 : (List Int)} {A1 : Option Addr} {k1 : Nat} {r : Bool} (w : World) (h : X.l_qInts a0 a1 = some r) (h0 : RdT (eI .i64) w (.slice A0 (List.length a0) k0) a0) (h1 : RdT (eI .i64) w (.slice A1 (List.length a1) k1) a1) : Calls prog 85 #[.slice A0 (List.length a0) k0, .slice A1 (List.length a1) k1] w (Ret w (.bool r)) := by
  refine calls (M := no) (args := [.slice A0 (List.length a0) k0, .slice A1 (List.length a1) k1]) func85 rfl ?_
  replace h : H (X.l_qInts a0 a1) (fun o => o = r) := H.mk h
  unfold X.l_qInts at h
  refine c_seq ?_
  refine r_start ?_
  refine p 1 ?_
  refine rend ?_
  refine c_seq ?_
  refine c_seq ?_
  refine r_start ?_
  refine p 5 ?_
  refine rend ?_
  refine c_or ((List.length a0 : Int) != (List.length a1 : Int)) (fun q1 => ?_) (fun q1 => ?_)
  · replace h := H.t q1 h
    refine c_seq ?_
    refine r_start ?_
    refine p 1 ?_
    refine rend ?_
    replace h := H.done h
    subst h
    exact ret func85 rfl (vs := [.bool false]) (.tmp (by kernel_rfl) .nil) rfl (fun W S => ⟨rfl, S.below⟩)
  replace h := H.f q1 h
  refine c_skip ?_
  refine c_seq ?_
  refine c_seq ?_
  refine r_start ?_
  refine p 3 ?_
  refine rend ?_
  refine c_block ?_
  refine joinE (X := Unit) 0 (H.or h) (fun (x : Unit) => x) (fun _ => []) (fun _ u => (jk u 0 26 [])) (fun h hj2 => ?_) ?_
  · skip
    refine rangeR (X := Unit) (s_arg h0) (fun (x : Unit) => x) (fun _ => []) (fun (j3 : Nat) _ u => (.slice A0 (List.length a0) k0 :: .slice A1 (List.length a1) k1 :: (jk u 2 10 (.int .i64 (List.length a0 : Int) :: .int .i64 (j3 : Int) :: (jk u 14 12 []))))) () h (by kernel_rfl) (by kernel_rfl) ?_ ?_
    · intro j3 x u x4 q5 hg6 hw7 h
      refine c_seq ?_
      refine r_start ?_
      refine p 1 ?_
      refine rend ?_
      refine c_seq ?_
      refine c_yes q5 ?_
      refine c_skip ?_
      refine c_seq ?_
      refine c_block ?_
      refine c_seq ?_
      refine r_start ?_
      refine p 2 ?_
      refine rend ?_
      refine c_seq ?_
      refine as_start 9 9 ?_
      refine ap 0 2 ?_
      refine aq 2 rfl (y_idx (e := (eI .i64)) (el := 3) hg6 (s_arg h0)) ?_
      refine aq 3 rfl (y_el (e := (eI .i64)) 0 (.int .i64 x4) hg6 (s_arg h0)) ?_
      refine ap 4 2 ?_
      obtain ⟨y6_6, hy6_6, h⟩ := H.call h
      refine aq 6 rfl (y_idx (e := (eI .i64)) (el := 3) hy6_6 (s_arg h1)) ?_
      refine aq 7 rfl (y_el (e := (eI .i64)) 0 (.int .i64 y6_6) hy6_6 (s_arg h1)) ?_
      refine ap 8 1 ?_
      refine a_done ?_
      refine c_or (x4 != y6_6) (fun q8 => ?_) (fun q8 => ?_)
      · replace h := H.t q8 h
        refine c_seq ?_
        refine r_start ?_
        refine p 1 ?_
        refine rend ?_
        replace h := H.inr h
        replace h := H.done h
        subst h
        exact ret func85 rfl (vs := [.bool false]) (.tmp (by kernel_rfl) .nil) rfl (fun W S => ⟨rfl, S.below⟩)
      replace h := H.f q8 h
      refine c_skip ?_
      refine c_inb ?_
      refine r_start ?_
      refine p 2 ?_
      refine rend ?_
      refine c_set 13 (ci hw7) ?_
      replace h := H.inl h
      exact h () _ _ rfl (by kernel_rfl) (by kernel_rfl)
    · intro x u q5 h
      refine c_seq ?_
      refine r_start ?_
      refine p 1 ?_
      refine rend ?_
      refine c_seq ?_
      refine c_no q5 ?_
      refine cx ?_
      replace h := H.done h
      exact hj2 () _ _ h (by kernel_rfl) (by kernel_rfl)
  intro x u h
  refine c_seq ?_
  refine r_start ?_
  refine p 1 ?_
  refine rend ?_
  replace h := H.done h
  subst h
  exact ret func85 rfl (vs := [.bool true]) (.tmp (by kernel_rfl) .nil) rfl (fun W S => ⟨rfl, S.below⟩)
theorem C.l_qLists {a0 : (List (List Int))} {us0 : List Sl} {A0 : Option Addr} {k0 : Nat} {a1 : (List (List Int))} {us1 : List Sl} {A1 : Option Addr} {k1 : Nat} {r : Bool} (w : World) (h : X.l_qLists a0 a1 = some r) (h0 : RdT eSl w (.slice A0 (List.length us0) k0) us0) (i0 : RdI (eI .i64) w us0 a0) (h1 : RdT eSl w (.slice A1 (List.length us1) k1) us1) (i1 : RdI (eI .i64) w us1 a1) : Calls prog 86 #[.slice A0 (List.length us0) k0, .slice A1 (List.length us1) k1] w (Ret w (.bool r)) := by
  refine calls (M := no) (args := [.slice A0 (List.length us0) k0, .slice A1 (List.length us1) k1]) func86 rfl ?_
  replace h : H (X.l_qLists a0 a1) (fun o => o = r) := H.mk h
  unfold X.l_qLists at h
  refine c_seq ?_
  refine r_start ?_
  refine p 1 ?_
  refine rend ?_
  refine c_seq ?_
  refine c_seq ?_
  refine r_start ?_
  refine p 1 ?_
  refine p 1 ?_
  refine o_fact (f_len (i_arg i0)) fun hl1_1 => ?_
  refine o_set 7 (len_sl hl1_1) ?_
  refine p 1 ?_
  refine p 1 ?_
  refine o_fact (f_len (i_arg i1)) fun hl1_3 => ?_
  refine o_set 9 (len_sl hl1_3) ?_
  refine p 1 ?_
  refine rend ?_
  refine c_or ((List.length a0 : Int) != (List.length a1 : Int)) (fun q1 => ?_) (fun q1 => ?_)
  · replace h := H.t q1 h
    refine c_seq ?_
    refine r_start ?_
    refine p 1 ?_
    refine rend ?_
    replace h := H.done h
    subst h
    exact ret func86 rfl (vs := [.bool false]) (.tmp (by kernel_rfl) .nil) rfl (fun W S => ⟨rfl, S.below⟩)
  replace h := H.f q1 h
  refine c_skip ?_
  refine c_seq ?_
  refine c_seq ?_
  refine r_start ?_
  refine p 1 ?_
  refine p 1 ?_
  refine o_fact (f_len (i_arg i0)) fun hl3_1 => ?_
  refine o_set 12 (len_sl hl3_1) ?_
  refine p 1 ?_
  refine rend ?_
  refine c_block ?_
  refine joinE (X := Unit) 0 (H.or h) (fun (x : Unit) => x) (fun _ => []) (fun _ u => (jk u 0 27 [])) (fun h hj2 => ?_) ?_
  · skip
    refine rangeRD (X := Unit) (s_arg h0) (i_arg i0) (fun (x : Unit) => x) (fun _ => []) (fun (j3 : Nat) _ u => (.slice A0 (List.length us0) k0 :: .slice A1 (List.length us1) k1 :: (jk u 2 10 (.int .i64 (List.length a0 : Int) :: .int .i64 (j3 : Int) :: (jk u 14 13 []))))) () h (by kernel_rfl) (by kernel_rfl) ?_ ?_
    · intro j3 x u x4 q5 hg6 hw7 h
      refine c_seq ?_
      refine r_start ?_
      refine p 1 ?_
      refine rend ?_
      refine c_seq ?_
      refine c_yes q5 ?_
      refine c_skip ?_
      refine c_seq ?_
      refine c_block ?_
      refine c_seq ?_
      refine r_start ?_
      refine p 2 ?_
      refine rend ?_
      refine c_seq ?_
      refine as_start 10 10 ?_
      refine ap 0 2 ?_
      refine a_fact (f_len (i_arg i0)) fun hl6_2 => ?_
      obtain ⟨s6_2, hs6_2⟩ := getI_both hl6_2 hg6
      refine aq 2 rfl (y_idx (e := eSl) (el := 69) hs6_2 (s_arg h0)) ?_
      refine aq 3 rfl (y_el (e := eSl) 0 (.slice s6_2.A s6_2.n s6_2.c) hs6_2 (s_arg h0)) ?_
      refine a_fact (f_n (i_arg i0) hs6_2 hg6) fun he6_3 => ?_
      refine a_set 19 (sl_n he6_3) ?_
      refine ap 4 2 ?_
      obtain ⟨y6_6, hy6_6, h⟩ := H.call h
      refine a_fact (f_len (i_arg i1)) fun hl6_6 => ?_
      obtain ⟨s6_6, hs6_6⟩ := getI_both hl6_6 hy6_6
      refine aq 6 rfl (y_idx (e := eSl) (el := 69) hs6_6 (s_arg h1)) ?_
      refine aq 7 rfl (y_el (e := eSl) 0 (.slice s6_6.A s6_6.n s6_6.c) hs6_6 (s_arg h1)) ?_
      refine a_fact (f_n (i_arg i1) hs6_6 hy6_6) fun he6_7 => ?_
      refine a_set 23 (sl_n he6_7) ?_
      obtain ⟨v6_8, hv6_8, h⟩ := H.call h
      refine aq 8 rfl (y_call [.slice s6_2.A (List.length x4) s6_2.c, .slice s6_6.A (List.length y6_6) s6_6.c] (.bool v6_8) func85 (fun W S => C.l_qInts W hv6_8 ((s_in (i_arg i0) hs6_2 hg6).out W S) ((s_in (i_arg i1) hs6_6 hy6_6).out W S))) ?_
      refine ap 9 1 ?_
      refine a_done ?_
      refine c_or (!v6_8) (fun q8 => ?_) (fun q8 => ?_)
      · replace h := H.t q8 h
        refine c_seq ?_
        refine r_start ?_
        refine p 1 ?_
        refine rend ?_
        replace h := H.inr h
        replace h := H.done h
        subst h
        exact ret func86 rfl (vs := [.bool false]) (.tmp (by kernel_rfl) .nil) rfl (fun W S => ⟨rfl, S.below⟩)
      replace h := H.f q8 h
      refine c_skip ?_
      refine c_inb ?_
      refine r_start ?_
      refine p 2 ?_
      refine rend ?_
      refine c_set 13 (ci hw7) ?_
      replace h := H.inl h
      exact h () _ _ rfl (by kernel_rfl) (by kernel_rfl)
    · intro x u q5 h
      refine c_seq ?_
      refine r_start ?_
      refine p 1 ?_
      refine rend ?_
      refine c_seq ?_
      refine c_no q5 ?_
      refine cx ?_
      replace h := H.done h
      exact hj2 () _ _ h (by kernel_rfl) (by kernel_rfl)
  intro x u h
  refine c_seq ?_
  refine r_start ?_
  refine p 1 ?_
  refine rend ?_
  replace h := H.done h
  subst h
  exact ret func86 rfl (vs := [.bool true]) (.tmp (by kernel_rfl) .nil) rfl (fun W S => ⟨rfl, S.below⟩)
theorem C.l_qHas {a0 : (List Int)} {A0 : Option Addr} {k0 : Nat} {a1 : Int} {r : Bool} (w : World) (h : X.l_qHas a0 a1 = some r) (h0 : RdT (eI .i64) w (.slice A0 (List.length a0) k0) a0) : Calls prog 87 #[.slice A0 (List.length a0) k0, .int .i64 a1] w (Ret w (.bool r)) := by
  refine calls (M := no) (args := [.slice A0 (List.length a0) k0, .int .i64 a1]) func87 rfl ?_
  replace h : H (X.l_qHas a0 a1) (fun o => o = r) := H.mk h
  unfold X.l_qHas at h
  refine c_seq ?_
  refine r_start ?_
  refine p 1 ?_
  refine rend ?_
  refine c_seq ?_
  refine c_seq ?_
  refine r_start ?_
  refine p 3 ?_
  refine rend ?_
  refine c_block ?_
  refine joinE (X := Unit) 0 (H.or h) (fun (x : Unit) => x) (fun _ => []) (fun _ u => (jk u 0 17 [])) (fun h hj1 => ?_) ?_
  · skip
    refine rangeR (X := Unit) (s_arg h0) (fun (x : Unit) => x) (fun _ => []) (fun (j2 : Nat) _ u => (jk u 0 1 (.int .i64 a1 :: (jk u 2 5 (.slice A0 (List.length a0) k0 :: .int .i64 (List.length a0 : Int) :: .int .i64 (j2 : Int) :: (jk u 10 7 [])))))) () h (by kernel_rfl) (by kernel_rfl) ?_ ?_
    · intro j2 x u x3 q4 hg5 hw6 h
      refine c_seq ?_
      refine r_start ?_
      refine p 1 ?_
      refine rend ?_
      refine c_seq ?_
      refine c_yes q4 ?_
      refine c_skip ?_
      refine c_seq ?_
      refine c_block ?_
      refine c_seq ?_
      refine r_start ?_
      refine xq rfl (y_idx (e := (eI .i64)) (el := 3) hg5 (s_arg h0)) ?_
      refine xq rfl (y_el (e := (eI .i64)) 0 (.int .i64 x3) hg5 (s_arg h0)) ?_
      refine p 1 ?_
      refine rend ?_
      refine c_seq ?_
      refine r_start ?_
      refine p 3 ?_
      refine rend ?_
      refine c_or (x3 == a1) (fun q7 => ?_) (fun q7 => ?_)
      · replace h := H.t q7 h
        refine c_seq ?_
        refine r_start ?_
        refine p 1 ?_
        refine rend ?_
        replace h := H.inr h
        replace h := H.done h
        subst h
        exact ret func87 rfl (vs := [.bool true]) (.tmp (by kernel_rfl) .nil) rfl (fun W S => ⟨rfl, S.below⟩)
      replace h := H.f q7 h
      refine c_skip ?_
      refine c_inb ?_
      refine r_start ?_
      refine p 2 ?_
      refine rend ?_
      refine c_set 9 (ci hw6) ?_
      replace h := H.inl h
      exact h () _ _ rfl (by kernel_rfl) (by kernel_rfl)
    · intro x u q4 h
      refine c_seq ?_
      refine r_start ?_
      refine p 1 ?_
      refine rend ?_
      refine c_seq ?_
      refine c_no q4 ?_
      refine cx ?_
      replace h := H.done h
      exact hj1 () _ _ h (by kernel_rfl) (by kernel_rfl)
  intro x u h
  refine c_seq ?_
  refine r_start ?_
  refine p 1 ?_
  refine rend ?_
  replace h := H.done h
  subst h
  exact ret func87 rfl (vs := [.bool false]) (.tmp (by kernel_rfl) .nil) rfl (fun W S => ⟨rfl, S.below⟩)
end Go.Proofs.XC
