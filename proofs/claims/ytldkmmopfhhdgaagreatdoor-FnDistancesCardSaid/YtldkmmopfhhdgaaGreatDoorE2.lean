/- Contracts: each function of the given program, called where its plain function gives an answer, returns just that answer and changes nothing that was there. By AI agents; no person has read it. -/
import Derived.Test.YtldkmmopfhhdgaaGreatDoorC1
import Derived.Test.YtldkmmopfhhdgaaGreatDoorE1
set_option linter.unusedVariables false
set_option linter.unusedSimpArgs false
set_option maxRecDepth 100000
set_option maxHeartbeats 40000000
namespace Go.Proofs.XC
open Go Go.RowKit
open Tryz
theorem C.i_stepDistance {a0 : Str} {a1 : Str} {r : Int} (w : World) (h : X.i_stepDistance a0 a1 = some r) : Calls prog 128 #[.string (bs a0), .string (bs a1)] w (Ret w (.int .i64 r)) := by
  refine calls (M := no) (args := [.string (bs a0), .string (bs a1)]) func128 rfl ?_
  replace h : H (X.i_stepDistance a0 a1) (fun o => o = r) := H.mk h
  unfold X.i_stepDistance at h
  refine c_seq ?_
  refine r_start ?_
  refine p 1 ?_
  refine rend ?_
  refine c_seq ?_
  refine r_start ?_
  refine p 3 ?_
  obtain ⟨y1_3, hy1_3, h⟩ := H.call h
  refine xx rfl (e_make (el := 3) hy1_3 fun A1_3 k1_3 => ?_)
  refine p 1 ?_
  refine rend ?_
  refine c_seq ?_
  refine c_seq ?_
  refine r_start ?_
  refine p 3 ?_
  refine rend ?_
  refine c_block ?_
  refine joinH (X := ((List Int) × Option Addr × Nat)) 0 (H.bnd h) (fun ⟨l4, A5, k6⟩ => l4) (fun ⟨l4, A5, k6⟩ => [rowT (eI .i64) w.heap.size 3 (.slice A5 (List.length l4) k6) l4]) (fun ⟨l4, A5, k6⟩ u => (.string (bs a0) :: .string (bs a1) :: (jk u 2 3 (.slice A5 (List.length l4) k6 :: (jk u 6 71 []))))) (fun h hj7 => ?_) ?_
  · skip
    refine rangeR (X := ((List Int) × Option Addr × Nat)) (s_own 0) (fun ⟨l1, A2, k3⟩ => l1) (fun ⟨l1, A2, k3⟩ => [rowT (eI .i64) w.heap.size 3 (.slice A2 (List.length l1) k3) l1]) (fun (j8 : Nat) ⟨l1, A2, k3⟩ u => (.string (bs a0) :: .string (bs a1) :: (jk u 2 3 (.slice A2 (List.length l1) k3 :: (jk u 6 10 (.int .i64 (List.length y1_3 : Int) :: .int .i64 (j8 : Int) :: (jk u 18 59 []))))))) (y1_3, A1_3, k1_3) h (by kernel_rfl) (by kernel_rfl) ?_ ?_
    · intro j8 x u x9 q10 hg11 hw12 h
      obtain ⟨l1, A2, k3⟩ := x
      refine c_seq ?_
      refine r_start ?_
      refine p 1 ?_
      refine rend ?_
      refine c_seq ?_
      refine c_yes q10 ?_
      refine c_skip ?_
      refine c_seq ?_
      refine c_block ?_
      refine c_seq ?_
      refine r_start ?_
      refine p 2 ?_
      refine rend ?_
      refine r_start ?_
      refine p 3 ?_
      obtain ⟨y5_3, hy5_3, h⟩ := H.call h
      refine xq rfl (y_idx (e := (eI .i64)) (el := 3) hy5_3 (s_own 0)) ?_
      refine xx rfl (e_stel (e := (eI .i64)) (b := (j8 : Int)) 0 0 ([.int .i64 (j8 : Int)]) hy5_3 (by kernel_rfl) ?_)
      refine o_set 5 (sl_set (A := A2) (c := k3) (l := l1) (n := Int.toNat (j8 : Int)) (b := (j8 : Int))) ?_
      refine rend ?_
      refine c_inb ?_
      refine r_start ?_
      refine p 2 ?_
      refine rend ?_
      refine c_set 17 (ci hw12) ?_
      replace h := H.inl h
      exact h ((List.set l1 (Int.toNat (j8 : Int)) (j8 : Int)), A2, k3) _ _ rfl (by kernel_rfl) (by kernel_rfl)
    · intro x u q10 h
      obtain ⟨l1, A2, k3⟩ := x
      refine c_seq ?_
      refine r_start ?_
      refine p 1 ?_
      refine rend ?_
      refine c_seq ?_
      refine c_no q10 ?_
      refine cx ?_
      replace h := H.done h
      exact hj7 (l1, A2, k3) _ _ h (by kernel_rfl) (by kernel_rfl)
  intro x u h
  obtain ⟨l4, A5, k6⟩ := x
  refine c_seq ?_
  refine c_seq ?_
  refine r_start ?_
  refine p 3 ?_
  refine rend ?_
  refine c_block ?_
  refine joinH (X := ((List Int) × Option Addr × Nat)) 2 (H.bnd h) (fun ⟨l16, A17, k18⟩ => l16) (fun ⟨l16, A17, k18⟩ => [rowT (eI .i64) w.heap.size 3 (.slice A17 (List.length l16) k18) l16]) (fun ⟨l16, A17, k18⟩ u => (jk u 0 1 (.string (bs a1) :: (jk u 2 3 (.slice A17 (List.length l16) k18 :: (jk u 6 71 [])))))) (fun h hj19 => ?_) ?_
  · skip
    refine rangeNR (X := ((List Int) × Option Addr × Nat)) (fun ⟨l13, A14, k15⟩ => l13) (fun ⟨l13, A14, k15⟩ => [rowT (eI .i64) w.heap.size 3 (.slice A14 (List.length l13) k15) l13]) (fun (j20 : Int) ⟨l13, A14, k15⟩ u => (.string (bs a0) :: .string (bs a1) :: (jk u 2 3 (.slice A14 (List.length l13) k15 :: (jk u 6 20 (.int .i64 (List.length a0 : Int) :: .int .i64 j20 :: (jk u 28 49 []))))))) (l4, A5, k6) h (by kernel_rfl) (by kernel_rfl) ?_ ?_
    · intro j20 x u q21 hw22 h
      obtain ⟨l13, A14, k15⟩ := x
      refine c_seq ?_
      refine r_start ?_
      refine p 1 ?_
      refine rend ?_
      refine c_seq ?_
      refine c_yes q21 ?_
      refine c_skip ?_
      refine c_seq ?_
      refine c_block ?_
      refine c_seq ?_
      refine r_start ?_
      refine p 2 ?_
      refine rend ?_
      refine c_seq ?_
      refine r_start ?_
      refine p 1 ?_
      obtain ⟨y10_1, hy10_1, h⟩ := H.call h
      refine xq rfl (y_idx (e := (eI .i64)) (el := 3) hy10_1 (s_own 0)) ?_
      refine xq rfl (y_el (e := (eI .i64)) 0 (.int .i64 y10_1) hy10_1 (s_own 0)) ?_
      refine p 1 ?_
      refine rend ?_
      refine c_seq ?_
      refine r_start ?_
      refine p 3 ?_
      refine xq rfl (y_idx (e := (eI .i64)) (el := 3) hy10_1 (s_own 0)) ?_
      refine xx rfl (e_stel (e := (eI .i64)) (b := (wr ((j20 : Int) + 1))) 0 0 ([.int .i64 (wr ((j20 : Int) + 1))]) hy10_1 (by kernel_rfl) ?_)
      refine o_set 5 (sl_set (A := A14) (c := k15) (l := l13) (n := Int.toNat 0) (b := (wr ((j20 : Int) + 1)))) ?_
      refine rend ?_
      refine c_seq ?_
      refine r_start ?_
      refine p 3 ?_
      refine rend ?_
      refine c_block ?_
      refine joinH (X := ((List Int) × Option Addr × Nat)) 4 (H.bnd h) (fun ⟨l28, A29, k30⟩ => l28) (fun ⟨l28, A29, k30⟩ => [rowT (eI .i64) w.heap.size 3 (.slice A29 (List.length l28) k30) l28]) (fun ⟨l28, A29, k30⟩ u => (.string (bs a0) :: .string (bs a1) :: (jk u 2 3 (.slice A29 (List.length l28) k30 :: (jk u 6 20 (.int .i64 (List.length a0 : Int) :: .int .i64 (j20 : Int) :: (jk u 28 49 []))))))) (fun h hj31 => ?_) ?_
      · skip
        refine rangeNR (X := (Int × (List Int) × Option Addr × Nat)) (fun ⟨n24, l25, A26, k27⟩ => (n24, l25)) (fun ⟨n24, l25, A26, k27⟩ => [rowT (eI .i64) w.heap.size 3 (.slice A26 (List.length l25) k27) l25]) (fun (j32 : Int) ⟨n24, l25, A26, k27⟩ u => (.string (bs a0) :: .string (bs a1) :: (jk u 2 3 (.slice A26 (List.length l25) k27 :: (jk u 6 1 (.int .i64 (j20 : Int) :: .int .i64 n24 :: (jk u 9 17 (.int .i64 (List.length a0 : Int) :: .int .i64 (j20 : Int) :: (jk u 28 10 (.int .i64 (List.length a1 : Int) :: .int .i64 j32 :: (jk u 40 37 []))))))))))) (y10_1, (List.set l13 (Int.toNat 0) (wr ((j20 : Int) + 1))), A14, k15) h (by kernel_rfl) (by kernel_rfl) ?_ ?_
        · intro j32 x u q33 hw34 h
          obtain ⟨n24, l25, A26, k27⟩ := x
          refine c_seq ?_
          refine r_start ?_
          refine p 1 ?_
          refine rend ?_
          refine c_seq ?_
          refine c_yes q33 ?_
          refine c_skip ?_
          refine c_seq ?_
          refine c_block ?_
          refine c_seq ?_
          refine r_start ?_
          refine p 2 ?_
          refine rend ?_
          refine frg (fun u => (.string (bs a0) :: .string (bs a1) :: (jk u 2 3 (.slice A26 (List.length l25) k27 :: (jk u 6 1 (.int .i64 (j20 : Int) :: .int .i64 n24 :: .int .i64 (j32 : Int) :: (jk u 10 16 (.int .i64 (List.length a0 : Int) :: .int .i64 (j20 : Int) :: (jk u 28 10 (.int .i64 (List.length a1 : Int) :: .int .i64 (j32 : Int) :: (jk u 40 37 []))))))))))) (by kernel_rfl) fun u => ?_
          refine keep 1 (its' := [rowT (eI .i64) w.heap.size 3 (.slice A26 (List.length l25) k27) l25]) (by kernel_rfl) ?_
          refine c_seq ?_
          refine r_start ?_
          refine p 2 ?_
          refine rend ?_
          refine c_seq ?_
          refine c_seq ?_
          refine as_start 7 7 ?_
          refine ap 0 2 ?_
          obtain ⟨y16_2, hy16_2, h⟩ := H.call h
          refine aq 2 rfl (y_byte hy16_2) ?_
          refine ap 3 2 ?_
          obtain ⟨y16_5, hy16_5, h⟩ := H.call h
          refine aq 5 rfl (y_byte hy16_5) ?_
          refine ap 6 1 ?_
          refine a_done ?_
          refine c_or (y16_2 != y16_5) (fun q36 => ?_) (fun q36 => ?_)
          · replace h := H.t q36 h
            refine r_start ?_
            refine p 3 ?_
            refine rend ?_
            refine c_seq ?_
            refine r_start ?_
            refine p 3 ?_
            obtain ⟨y18_3, hy18_3, h⟩ := H.call h
            refine xq rfl (y_idx (e := (eI .i64)) (el := 3) hy18_3 (s_own 0)) ?_
            refine xq rfl (y_el (e := (eI .i64)) 0 (.int .i64 y18_3) hy18_3 (s_own 0)) ?_
            refine p 1 ?_
            refine rend ?_
            refine r_start ?_
            refine p 6 ?_
            obtain ⟨y19_6, hy19_6, h⟩ := H.call h
            refine xq rfl (y_idx (e := (eI .i64)) (el := 3) hy19_6 (s_own 0)) ?_
            refine xq rfl (y_el (e := (eI .i64)) 0 (.int .i64 y19_6) hy19_6 (s_own 0)) ?_
            refine p 4 ?_
            refine xq rfl (y_idx (e := (eI .i64)) (el := 3) hy18_3 (s_own 0)) ?_
            refine xx rfl (e_stel (e := (eI .i64)) (b := (if (wr (y18_3 + 1)) < (if (wr (y19_6 + 1)) < (wr (n24 + 1)) then (wr (y19_6 + 1)) else (wr (n24 + 1))) then (wr (y18_3 + 1)) else (if (wr (y19_6 + 1)) < (wr (n24 + 1)) then (wr (y19_6 + 1)) else (wr (n24 + 1))))) 0 0 ([.int .i64 (if (wr (y18_3 + 1)) < (if (wr (y19_6 + 1)) < (wr (n24 + 1)) then (wr (y19_6 + 1)) else (wr (n24 + 1))) then (wr (y18_3 + 1)) else (if (wr (y19_6 + 1)) < (wr (n24 + 1)) then (wr (y19_6 + 1)) else (wr (n24 + 1))))]) hy18_3 (by kernel_rfl) ?_)
            refine o_set 5 (sl_set (A := A26) (c := k27) (l := l25) (n := Int.toNat (wr ((j32 : Int) + 1))) (b := (if (wr (y18_3 + 1)) < (if (wr (y19_6 + 1)) < (wr (n24 + 1)) then (wr (y19_6 + 1)) else (wr (n24 + 1))) then (wr (y18_3 + 1)) else (if (wr (y19_6 + 1)) < (wr (n24 + 1)) then (wr (y19_6 + 1)) else (wr (n24 + 1)))))) ?_
            refine rend ?_
            refine c_inb ?_
            refine r_start ?_
            refine p 2 ?_
            refine rend ?_
            refine c_set 39 (ci hw34) ?_
            replace h := H.inl h
            exact h (y18_3, (List.set l25 (Int.toNat (wr ((j32 : Int) + 1))) (if (wr (y18_3 + 1)) < (if (wr (y19_6 + 1)) < (wr (n24 + 1)) then (wr (y19_6 + 1)) else (wr (n24 + 1))) then (wr (y18_3 + 1)) else (if (wr (y19_6 + 1)) < (wr (n24 + 1)) then (wr (y19_6 + 1)) else (wr (n24 + 1))))), A26, k27) _ _ rfl (by kernel_rfl) (by kernel_rfl)
          replace h := H.f q36 h
          refine c_skip ?_
          refine c_seq ?_
          refine r_start ?_
          refine p 3 ?_
          obtain ⟨y18_3, hy18_3, h⟩ := H.call h
          refine xq rfl (y_idx (e := (eI .i64)) (el := 3) hy18_3 (s_own 0)) ?_
          refine xq rfl (y_el (e := (eI .i64)) 0 (.int .i64 y18_3) hy18_3 (s_own 0)) ?_
          refine p 1 ?_
          refine rend ?_
          refine r_start ?_
          refine p 6 ?_
          obtain ⟨y19_6, hy19_6, h⟩ := H.call h
          refine xq rfl (y_idx (e := (eI .i64)) (el := 3) hy19_6 (s_own 0)) ?_
          refine xq rfl (y_el (e := (eI .i64)) 0 (.int .i64 y19_6) hy19_6 (s_own 0)) ?_
          refine p 4 ?_
          refine xq rfl (y_idx (e := (eI .i64)) (el := 3) hy18_3 (s_own 0)) ?_
          refine xx rfl (e_stel (e := (eI .i64)) (b := (if (wr (y18_3 + 1)) < (if (wr (y19_6 + 1)) < n24 then (wr (y19_6 + 1)) else n24) then (wr (y18_3 + 1)) else (if (wr (y19_6 + 1)) < n24 then (wr (y19_6 + 1)) else n24))) 0 0 ([.int .i64 (if (wr (y18_3 + 1)) < (if (wr (y19_6 + 1)) < n24 then (wr (y19_6 + 1)) else n24) then (wr (y18_3 + 1)) else (if (wr (y19_6 + 1)) < n24 then (wr (y19_6 + 1)) else n24))]) hy18_3 (by kernel_rfl) ?_)
          refine o_set 5 (sl_set (A := A26) (c := k27) (l := l25) (n := Int.toNat (wr ((j32 : Int) + 1))) (b := (if (wr (y18_3 + 1)) < (if (wr (y19_6 + 1)) < n24 then (wr (y19_6 + 1)) else n24) then (wr (y18_3 + 1)) else (if (wr (y19_6 + 1)) < n24 then (wr (y19_6 + 1)) else n24)))) ?_
          refine rend ?_
          refine c_inb ?_
          refine r_start ?_
          refine p 2 ?_
          refine rend ?_
          refine c_set 39 (ci hw34) ?_
          replace h := H.inl h
          exact h (y18_3, (List.set l25 (Int.toNat (wr ((j32 : Int) + 1))) (if (wr (y18_3 + 1)) < (if (wr (y19_6 + 1)) < n24 then (wr (y19_6 + 1)) else n24) then (wr (y18_3 + 1)) else (if (wr (y19_6 + 1)) < n24 then (wr (y19_6 + 1)) else n24))), A26, k27) _ _ rfl (by kernel_rfl) (by kernel_rfl)
        · intro j35 x u q33 h
          obtain ⟨n24, l25, A26, k27⟩ := x
          refine c_seq ?_
          refine r_start ?_
          refine p 1 ?_
          refine rend ?_
          refine c_seq ?_
          refine c_no q33 ?_
          refine cx ?_
          replace h := H.done h
          exact hj31 (l25, A26, k27) _ _ h (by kernel_rfl) (by kernel_rfl)
      intro x u h
      obtain ⟨l28, A29, k30⟩ := x
      refine c_inb ?_
      refine r_start ?_
      refine p 2 ?_
      refine rend ?_
      refine c_set 27 (ci hw22) ?_
      replace h := H.inl h
      exact h (l28, A29, k30) _ _ rfl (by kernel_rfl) (by kernel_rfl)
    · intro j23 x u q21 h
      obtain ⟨l13, A14, k15⟩ := x
      refine c_seq ?_
      refine r_start ?_
      refine p 1 ?_
      refine rend ?_
      refine c_seq ?_
      refine c_no q21 ?_
      refine cx ?_
      replace h := H.done h
      exact hj19 (l13, A14, k15) _ _ h (by kernel_rfl) (by kernel_rfl)
  intro x u h
  obtain ⟨l16, A17, k18⟩ := x
  refine c_seq ?_
  refine r_start ?_
  refine p 3 ?_
  obtain ⟨y22_3, hy22_3, h⟩ := H.call h
  refine xq rfl (y_idx (e := (eI .i64)) (el := 3) hy22_3 (s_own 0)) ?_
  refine xq rfl (y_el (e := (eI .i64)) 0 (.int .i64 y22_3) hy22_3 (s_own 0)) ?_
  refine p 1 ?_
  refine rend ?_
  replace h := H.done h
  subst h
  exact ret func128 rfl (vs := [.int .i64 y22_3]) (.tmp (by kernel_rfl) .nil) rfl (fun W S => ⟨rfl, S.below⟩)
theorem C.i_distance {a0 : Int} {a1 : Int} {r : Int} (w : World) (h : X.i_distance a0 a1 = some r) : Calls prog 233 #[.int .i64 a0, .int .i64 a1] w (Ret w (.int .i64 r)) := by
  refine calls (M := no) (args := [.int .i64 a0, .int .i64 a1]) func233 rfl ?_
  replace h : H (X.i_distance a0 a1) (fun o => o = r) := H.mk h
  unfold X.i_distance at h
  refine c_seq ?_
  refine r_start ?_
  refine p 1 ?_
  refine rend ?_
  refine c_seq ?_
  refine r_start ?_
  refine p 8 ?_
  refine rend ?_
  replace h := H.done h
  subst h
  exact ret func233 rfl (vs := [.int .i64 (if (wr (a1 - a0)) > (wr (a0 - a1)) then (wr (a1 - a0)) else (wr (a0 - a1)))]) (.tmp (by kernel_rfl) .nil) rfl (fun W S => ⟨rfl, S.below⟩)
theorem C.i_Shape_distance {a0 : Shape} {a1 : Shape} {r : Int} (w : World) (h : X.i_Shape_distance a0 a1 = some r) : Calls prog 197 #[.agg (eShape a0).toArray, .agg (eShape a1).toArray] w (Ret w (.int .i64 r)) := by
  refine calls (M := no) (args := [.agg (eShape a0).toArray, .agg (eShape a1).toArray]) func197 rfl ?_
  replace h : H (X.i_Shape_distance a0 a1) (fun o => o = r) := H.mk h
  unfold X.i_Shape_distance at h
  refine c_seq ?_
  refine r_start ?_
  refine xx rfl (x_box (eShape a0) fun g0_0 => ?_)
  refine xx rfl (x_box (eShape a1) fun g0_1 => ?_)
  refine p 1 ?_
  refine rend ?_
  refine c_seq ?_
  refine r_start ?_
  refine p 1 ?_
  refine rend ?_
  refine c_seq ?_
  refine c_seq ?_
  refine r_start ?_
  refine xq rfl (y_load (.agg (eShape a0).toArray) 0 g0_0 0) ?_
  obtain ⟨v2_1, hv2_1, h⟩ := H.call h
  refine xx rfl (e_cr [.agg (eShape a0).toArray] (fun v => v) func171 (fun W S => C.i_Shape_bends W hv2_1) fun A2_1 k2_1 => ?_)
  refine p 2 ?_
  refine rend ?_
  refine c_block ?_
  refine joinH (X := Int) 0 (H.bnd h) (fun (x : Int) => x) (fun n2 => [box g0_0 25 (eShape a0), box g0_1 25 (eShape a1), rowT (eI .i64) w.heap.size 3 (.slice A2_1 (List.length v2_1) k2_1) v2_1]) (fun n2 u => (jk u 0 2 (.pointer (some ⟨g0_0, 0, none⟩) :: .pointer (some ⟨g0_1, 0, none⟩) :: (jk u 4 1 (.int .i64 n2 :: (jk u 6 35 [])))))) (fun h hj3 => ?_) ?_
  · skip
    refine rangeR (X := Int) (s_own 2) (fun (x : Int) => x) (fun n1 => [box g0_0 25 (eShape a0), box g0_1 25 (eShape a1), rowT (eI .i64) w.heap.size 3 (.slice A2_1 (List.length v2_1) k2_1) v2_1]) (fun (j4 : Nat) n1 u => (jk u 0 2 (.pointer (some ⟨g0_0, 0, none⟩) :: .pointer (some ⟨g0_1, 0, none⟩) :: (jk u 4 1 (.int .i64 n1 :: (jk u 6 3 (.slice A2_1 (List.length v2_1) k2_1 :: .int .i64 (List.length v2_1 : Int) :: .int .i64 (j4 : Int) :: (jk u 12 29 [])))))))) 0 h (by kernel_rfl) (by kernel_rfl) ?_ ?_
    · intro j4 n1 u x5 q6 hg7 hw8 h
      refine c_seq ?_
      refine r_start ?_
      refine p 1 ?_
      refine rend ?_
      refine c_seq ?_
      refine c_yes q6 ?_
      refine c_skip ?_
      refine c_seq ?_
      refine c_block ?_
      refine c_seq ?_
      refine r_start ?_
      refine p 1 ?_
      refine xq rfl (y_idx (e := (eI .i64)) (el := 3) hg7 (s_own 2)) ?_
      refine xq rfl (y_el (e := (eI .i64)) 0 (.int .i64 x5) hg7 (s_own 2)) ?_
      refine p 2 ?_
      refine rend ?_
      refine r_start ?_
      refine p 2 ?_
      refine xq rfl (y_load (.agg (eShape a1).toArray) 1 g0_1 0) ?_
      obtain ⟨v5_3, hv5_3, h⟩ := H.call h
      refine xx rfl (e_cr [.agg (eShape a1).toArray] (fun v => v) func171 (fun W S => C.i_Shape_bends W hv5_3) fun A5_3 k5_3 => ?_)
      refine p 1 ?_
      obtain ⟨y5_5, hy5_5, h⟩ := H.call h
      refine xq rfl (y_idx (e := (eI .i64)) (el := 3) hy5_5 (s_own 3)) ?_
      refine xq rfl (y_el (e := (eI .i64)) 0 (.int .i64 y5_5) hy5_5 (s_own 3)) ?_
      obtain ⟨v5_7, hv5_7, h⟩ := H.call h
      refine xq rfl (y_call [.int .i64 x5, .int .i64 y5_5] (.int .i64 v5_7) func233 (fun W S => C.i_distance W hv5_7)) ?_
      refine p 2 ?_
      refine rend ?_
      refine c_inb ?_
      refine r_start ?_
      refine p 2 ?_
      refine rend ?_
      refine c_set 11 (ci hw8) ?_
      replace h := H.inl h
      exact h (wr (n1 + v5_7)) _ _ rfl (by kernel_rfl) (by kernel_rfl)
    · intro n1 u q6 h
      refine c_seq ?_
      refine r_start ?_
      refine p 1 ?_
      refine rend ?_
      refine c_seq ?_
      refine c_no q6 ?_
      refine cx ?_
      replace h := H.done h
      exact hj3 n1 _ _ h (by kernel_rfl) (by kernel_rfl)
  intro n2 u h
  refine c_seq ?_
  refine c_seq ?_
  refine r_start ?_
  refine p 1 ?_
  refine xq rfl (y_load (.int .i64 a0.Thumb) 0 g0_0 0) ?_
  refine p 1 ?_
  refine xq rfl (y_load (.int .i64 a1.Thumb) 1 g0_1 0) ?_
  refine p 1 ?_
  refine rend ?_
  refine c_or (a0.Thumb != a1.Thumb) (fun q9 => ?_) (fun q9 => ?_)
  · replace h := H.t q9 h
    refine r_start ?_
    refine p 3 ?_
    refine rend ?_
    refine c_seq ?_
    refine c_seq ?_
    refine r_start ?_
    refine p 1 ?_
    refine xq rfl (y_load (.bool a0.Spread) 0 g0_0 5) ?_
    refine p 1 ?_
    refine xq rfl (y_load (.bool a1.Spread) 1 g0_1 5) ?_
    refine p 1 ?_
    refine rend ?_
    refine c_or (!(a0.Spread == a1.Spread)) (fun q10 => ?_) (fun q10 => ?_)
    · replace h := H.t q10 h
      refine r_start ?_
      refine p 3 ?_
      refine rend ?_
      refine c_seq ?_
      refine r_start ?_
      refine p 2 ?_
      refine rend ?_
      replace h := H.done h
      subst h
      exact ret func197 rfl (vs := [.int .i64 (wr ((wr (n2 + 1)) + 1))]) (.tmp (by kernel_rfl) .nil) rfl (fun W S => ⟨rfl, S.below⟩)
    replace h := H.f q10 h
    refine c_skip ?_
    refine c_seq ?_
    refine r_start ?_
    refine p 2 ?_
    refine rend ?_
    replace h := H.done h
    subst h
    exact ret func197 rfl (vs := [.int .i64 (wr (n2 + 1))]) (.tmp (by kernel_rfl) .nil) rfl (fun W S => ⟨rfl, S.below⟩)
  replace h := H.f q9 h
  refine c_skip ?_
  refine c_seq ?_
  refine c_seq ?_
  refine r_start ?_
  refine p 1 ?_
  refine xq rfl (y_load (.bool a0.Spread) 0 g0_0 5) ?_
  refine p 1 ?_
  refine xq rfl (y_load (.bool a1.Spread) 1 g0_1 5) ?_
  refine p 1 ?_
  refine rend ?_
  refine c_or (!(a0.Spread == a1.Spread)) (fun q11 => ?_) (fun q11 => ?_)
  · replace h := H.t q11 h
    refine r_start ?_
    refine p 3 ?_
    refine rend ?_
    refine c_seq ?_
    refine r_start ?_
    refine p 2 ?_
    refine rend ?_
    replace h := H.done h
    subst h
    exact ret func197 rfl (vs := [.int .i64 (wr (n2 + 1))]) (.tmp (by kernel_rfl) .nil) rfl (fun W S => ⟨rfl, S.below⟩)
  replace h := H.f q11 h
  refine c_skip ?_
  refine c_seq ?_
  refine r_start ?_
  refine p 2 ?_
  refine rend ?_
  replace h := H.done h
  subst h
  exact ret func197 rfl (vs := [.int .i64 n2]) (.tmp (by kernel_rfl) .nil) rfl (fun W S => ⟨rfl, S.below⟩)
theorem C.i_Place_distance {a0 : Place} {a1 : Place} {r : Int} (w : World) (h : X.i_Place_distance a0 a1 = some r) : Calls prog 198 #[.agg (ePlace a0).toArray, .agg (ePlace a1).toArray] w (Ret w (.int .i64 r)) := by
  refine calls (M := no) (args := [.agg (ePlace a0).toArray, .agg (ePlace a1).toArray]) func198 rfl ?_
  replace h : H (X.i_Place_distance a0 a1) (fun o => o = r) := H.mk h
  unfold X.i_Place_distance at h
  refine c_seq ?_
  refine r_start ?_
  refine xx rfl (x_box (ePlace a0) fun g0_0 => ?_)
  refine xx rfl (x_box (ePlace a1) fun g0_1 => ?_)
  refine p 1 ?_
  refine rend ?_
  refine c_seq ?_
  refine r_start ?_
  refine p 1 ?_
  refine xq rfl (y_load (.int .i64 a0.Side) 0 g0_0 1) ?_
  refine p 1 ?_
  refine xq rfl (y_load (.int .i64 a1.Side) 1 g0_1 1) ?_
  obtain ⟨v1_4, hv1_4, h⟩ := H.call h
  refine xq rfl (y_call [.int .i64 a0.Side, .int .i64 a1.Side] (.int .i64 v1_4) func233 (fun W S => C.i_distance W hv1_4)) ?_
  refine p 1 ?_
  refine rend ?_
  refine c_seq ?_
  refine c_seq ?_
  refine r_start ?_
  refine p 1 ?_
  refine xq rfl (y_load (.bool a0.Contact) 0 g0_0 2) ?_
  refine p 1 ?_
  refine xq rfl (y_load (.bool a1.Contact) 1 g0_1 2) ?_
  refine p 1 ?_
  refine rend ?_
  refine c_or (!(a0.Contact == a1.Contact)) (fun q1 => ?_) (fun q1 => ?_)
  · replace h := H.t q1 h
    refine r_start ?_
    refine p 3 ?_
    refine rend ?_
    refine c_seq ?_
    refine c_seq ?_
    refine r_start ?_
    refine p 1 ?_
    refine xq rfl (y_load (.int .i64 a0.Region) 0 g0_0 0) ?_
    refine p 2 ?_
    refine xq rfl (y_load (.int .i64 a1.Region) 1 g0_1 0) ?_
    refine p 2 ?_
    refine rend ?_
    refine c_or (!((a0.Region == 0) == (a1.Region == 0))) (fun q2 => ?_) (fun q2 => ?_)
    · replace h := H.t q2 h
      refine c_seq ?_
      refine r_start ?_
      refine p 3 ?_
      refine rend ?_
      replace h := H.done h
      subst h
      exact ret func198 rfl (vs := [.int .i64 (wr ((wr (v1_4 + 1)) + 4))]) (.tmp (by kernel_rfl) .nil) rfl (fun W S => ⟨rfl, S.below⟩)
    replace h := H.f q2 h
    refine c_skip ?_
    refine c_seq ?_
    refine r_start ?_
    refine p 2 ?_
    refine xq rfl (y_load (.int .i64 a0.Region) 0 g0_0 0) ?_
    refine p 1 ?_
    refine xq rfl (y_load (.int .i64 a1.Region) 1 g0_1 0) ?_
    obtain ⟨v6_5, hv6_5, h⟩ := H.call h
    refine xq rfl (y_call [.int .i64 a0.Region, .int .i64 a1.Region] (.int .i64 v6_5) func233 (fun W S => C.i_distance W hv6_5)) ?_
    refine p 2 ?_
    refine rend ?_
    replace h := H.done h
    subst h
    exact ret func198 rfl (vs := [.int .i64 (wr ((wr (v1_4 + 1)) + v6_5))]) (.tmp (by kernel_rfl) .nil) rfl (fun W S => ⟨rfl, S.below⟩)
  replace h := H.f q1 h
  refine c_skip ?_
  refine c_seq ?_
  refine c_seq ?_
  refine r_start ?_
  refine p 1 ?_
  refine xq rfl (y_load (.int .i64 a0.Region) 0 g0_0 0) ?_
  refine p 2 ?_
  refine xq rfl (y_load (.int .i64 a1.Region) 1 g0_1 0) ?_
  refine p 2 ?_
  refine rend ?_
  refine c_or (!((a0.Region == 0) == (a1.Region == 0))) (fun q3 => ?_) (fun q3 => ?_)
  · replace h := H.t q3 h
    refine c_seq ?_
    refine r_start ?_
    refine p 3 ?_
    refine rend ?_
    replace h := H.done h
    subst h
    exact ret func198 rfl (vs := [.int .i64 (wr (v1_4 + 4))]) (.tmp (by kernel_rfl) .nil) rfl (fun W S => ⟨rfl, S.below⟩)
  replace h := H.f q3 h
  refine c_skip ?_
  refine c_seq ?_
  refine r_start ?_
  refine p 2 ?_
  refine xq rfl (y_load (.int .i64 a0.Region) 0 g0_0 0) ?_
  refine p 1 ?_
  refine xq rfl (y_load (.int .i64 a1.Region) 1 g0_1 0) ?_
  obtain ⟨v6_5, hv6_5, h⟩ := H.call h
  refine xq rfl (y_call [.int .i64 a0.Region, .int .i64 a1.Region] (.int .i64 v6_5) func233 (fun W S => C.i_distance W hv6_5)) ?_
  refine p 2 ?_
  refine rend ?_
  replace h := H.done h
  subst h
  exact ret func198 rfl (vs := [.int .i64 (wr (v1_4 + v6_5))]) (.tmp (by kernel_rfl) .nil) rfl (fun W S => ⟨rfl, S.below⟩)
theorem C.i_Hand_distance {a0 : Hand} {a1 : Hand} {r : Int} (w : World) (h : X.i_Hand_distance a0 a1 = some r) : Calls prog 125 #[.agg (eHand a0).toArray, .agg (eHand a1).toArray] w (Ret w (.int .i64 r)) := by
  refine calls (M := no) (args := [.agg (eHand a0).toArray, .agg (eHand a1).toArray]) func125 rfl ?_
  replace h : H (X.i_Hand_distance a0 a1) (fun o => o = r) := H.mk h
  unfold X.i_Hand_distance at h
  refine c_seq ?_
  refine r_start ?_
  refine xx rfl (x_box (eHand a0) fun g0_0 => ?_)
  refine xx rfl (x_box (eHand a1) fun g0_1 => ?_)
  refine p 1 ?_
  refine rend ?_
  refine c_seq ?_
  refine as_start 20 20 ?_
  refine ap 0 1 ?_
  refine aq 1 rfl (y_load (.agg (eShape a0.Shape).toArray) 0 g0_0 0) ?_
  refine ap 2 1 ?_
  refine aq 3 rfl (y_load (.agg (eShape a1.Shape).toArray) 1 g0_1 0) ?_
  obtain ⟨v1_4, hv1_4, h⟩ := H.call h
  refine aq 4 rfl (y_call [.agg (eShape a0.Shape).toArray, .agg (eShape a1.Shape).toArray] (.int .i64 v1_4) func197 (fun W S => C.i_Shape_distance W hv1_4)) ?_
  refine ap 5 1 ?_
  refine aq 6 rfl (y_load (.agg (ePlace a0.Place).toArray) 0 g0_0 8) ?_
  refine ap 7 1 ?_
  refine aq 8 rfl (y_load (.agg (ePlace a1.Place).toArray) 1 g0_1 8) ?_
  obtain ⟨v1_9, hv1_9, h⟩ := H.call h
  refine aq 9 rfl (y_call [.agg (ePlace a0.Place).toArray, .agg (ePlace a1.Place).toArray] (.int .i64 v1_9) func198 (fun W S => C.i_Place_distance W hv1_9)) ?_
  refine ap 10 2 ?_
  refine aq 12 rfl (y_load (.agg (eMove a0.Move).toArray) 0 g0_0 11) ?_
  obtain ⟨v1_13, hv1_13, h⟩ := H.call h
  refine aq 13 rfl (y_call [.agg (eMove a0.Move).toArray] (.string (bs v1_13)) func107 (fun W S => C.i_Move_all W hv1_13)) ?_
  refine ap 14 1 ?_
  refine aq 15 rfl (y_load (.agg (eMove a1.Move).toArray) 1 g0_1 11) ?_
  obtain ⟨v1_16, hv1_16, h⟩ := H.call h
  refine aq 16 rfl (y_call [.agg (eMove a1.Move).toArray] (.string (bs v1_16)) func107 (fun W S => C.i_Move_all W hv1_16)) ?_
  obtain ⟨v1_17, hv1_17, h⟩ := H.call h
  refine aq 17 rfl (y_call [.string (bs v1_13), .string (bs v1_16)] (.int .i64 v1_17) func128 (fun W S => C.i_stepDistance W hv1_17)) ?_
  refine ap 18 2 ?_
  refine a_done ?_
  refine c_seq ?_
  refine c_seq ?_
  refine r_start ?_
  refine p 2 ?_
  refine xq rfl (y_load (.int .i64 a0.Orient.Palm) 0 g0_0 6) ?_
  refine p 2 ?_
  refine xq rfl (y_load (.int .i64 a1.Orient.Palm) 1 g0_1 6) ?_
  refine p 1 ?_
  refine rend ?_
  refine c_or (a0.Orient.Palm != a1.Orient.Palm) (fun q1 => ?_) (fun q1 => ?_)
  · replace h := H.t q1 h
    refine r_start ?_
    refine p 3 ?_
    refine rend ?_
    refine c_seq ?_
    refine c_seq ?_
    refine r_start ?_
    refine p 2 ?_
    refine xq rfl (y_load (.int .i64 a0.Orient.Fingers) 0 g0_0 7) ?_
    refine p 2 ?_
    refine xq rfl (y_load (.int .i64 a1.Orient.Fingers) 1 g0_1 7) ?_
    refine p 1 ?_
    refine rend ?_
    refine c_or (a0.Orient.Fingers != a1.Orient.Fingers) (fun q2 => ?_) (fun q2 => ?_)
    · replace h := H.t q2 h
      refine r_start ?_
      refine p 3 ?_
      refine rend ?_
      refine c_seq ?_
      refine r_start ?_
      refine p 2 ?_
      refine rend ?_
      replace h := H.done h
      subst h
      exact ret func125 rfl (vs := [.int .i64 (wr ((wr ((wr ((wr (v1_4 + v1_9)) + v1_17)) + 1)) + 1))]) (.tmp (by kernel_rfl) .nil) rfl (fun W S => ⟨rfl, S.below⟩)
    replace h := H.f q2 h
    refine c_skip ?_
    refine c_seq ?_
    refine r_start ?_
    refine p 2 ?_
    refine rend ?_
    replace h := H.done h
    subst h
    exact ret func125 rfl (vs := [.int .i64 (wr ((wr ((wr (v1_4 + v1_9)) + v1_17)) + 1))]) (.tmp (by kernel_rfl) .nil) rfl (fun W S => ⟨rfl, S.below⟩)
  replace h := H.f q1 h
  refine c_skip ?_
  refine c_seq ?_
  refine c_seq ?_
  refine r_start ?_
  refine p 2 ?_
  refine xq rfl (y_load (.int .i64 a0.Orient.Fingers) 0 g0_0 7) ?_
  refine p 2 ?_
  refine xq rfl (y_load (.int .i64 a1.Orient.Fingers) 1 g0_1 7) ?_
  refine p 1 ?_
  refine rend ?_
  refine c_or (a0.Orient.Fingers != a1.Orient.Fingers) (fun q3 => ?_) (fun q3 => ?_)
  · replace h := H.t q3 h
    refine r_start ?_
    refine p 3 ?_
    refine rend ?_
    refine c_seq ?_
    refine r_start ?_
    refine p 2 ?_
    refine rend ?_
    replace h := H.done h
    subst h
    exact ret func125 rfl (vs := [.int .i64 (wr ((wr ((wr (v1_4 + v1_9)) + v1_17)) + 1))]) (.tmp (by kernel_rfl) .nil) rfl (fun W S => ⟨rfl, S.below⟩)
  replace h := H.f q3 h
  refine c_skip ?_
  refine c_seq ?_
  refine r_start ?_
  refine p 2 ?_
  refine rend ?_
  replace h := H.done h
  subst h
  exact ret func125 rfl (vs := [.int .i64 (wr ((wr (v1_4 + v1_9)) + v1_17))]) (.tmp (by kernel_rfl) .nil) rfl (fun W S => ⟨rfl, S.below⟩)
theorem C.i_Sign_distance {fu : Nat} {a0 : Sign} {a1 : Sign} {r : Int} (w : World) (h : X.i_Sign_distance fu a0 a1 = some r) : Calls prog 118 #[.agg (eSign a0).toArray, .agg (eSign a1).toArray] w (Ret w (.int .i64 r)) := by
  refine calls (M := no) (args := [.agg (eSign a0).toArray, .agg (eSign a1).toArray]) func118 rfl ?_
  replace h : H (X.i_Sign_distance fu a0 a1) (fun o => o = r) := H.mk h
  unfold X.i_Sign_distance at h
  refine c_seq ?_
  refine r_start ?_
  refine xx rfl (x_box (eSign a0) fun g0_0 => ?_)
  refine xx rfl (x_box (eSign a1) fun g0_1 => ?_)
  refine p 1 ?_
  refine rend ?_
  refine c_seq ?_
  refine as_start 4 6 ?_
  refine aq 0 rfl (y_load (.agg (eSign a0).toArray) 0 g0_0 0) ?_
  obtain ⟨v1_1, hv1_1, h⟩ := H.call h
  refine aq 1 rfl (y_call [.agg (eSign a0).toArray] (.agg (eSign v1_1).toArray) func121 (fun W S => C.i_Sign_normal W hv1_1)) ?_
  refine aq 2 rfl (y_load (.agg (eSign a1).toArray) 1 g0_1 0) ?_
  obtain ⟨v1_3, hv1_3, h⟩ := H.call h
  refine aq 3 rfl (y_call [.agg (eSign a1).toArray] (.agg (eSign v1_3).toArray) func121 (fun W S => C.i_Sign_normal W hv1_3)) ?_
  refine ax 4 rfl (x_sto 0 g0_0 0 (eSign v1_1) ⟨.inl (by kernel_rfl), ?_⟩)
  refine ax 5 rfl (x_sto 1 g0_1 0 (eSign v1_3) ⟨.inl (by kernel_rfl), ?_⟩)
  refine a_done ?_
  refine c_seq ?_
  refine r_start ?_
  refine p 1 ?_
  refine xq rfl (y_load (.agg (eHand v1_1.Main).toArray) 0 g0_0 0) ?_
  refine p 1 ?_
  refine xq rfl (y_load (.agg (eHand v1_3.Main).toArray) 1 g0_1 0) ?_
  obtain ⟨v2_4, hv2_4, h⟩ := H.call h
  refine xq rfl (y_call [.agg (eHand v1_1.Main).toArray, .agg (eHand v1_3.Main).toArray] (.int .i64 v2_4) func125 (fun W S => C.i_Hand_distance W hv2_4)) ?_
  refine p 1 ?_
  refine rend ?_
  refine c_seq ?_
  refine c_block ?_
  refine c_seq ?_
  refine r_start ?_
  refine p 1 ?_
  refine xq rfl (y_load (.bool v1_1.Two) 0 g0_0 13) ?_
  refine p 1 ?_
  refine br v1_1.Two (fun q1 => ?_) (fun q1 => ?_)
  · replace h := H.t q1 h
    refine o_set 18 (congrArg Value.bool q1) ?_
    refine p 1 ?_
    refine xq rfl (y_load (.bool v1_3.Two) 1 g0_1 13) ?_
    refine p 2 ?_
    refine rend ?_
    refine c_or v1_3.Two (fun q2 => ?_) (fun q2 => ?_)
    · replace h := H.t q2 h
      refine r_start ?_
      refine p 2 ?_
      refine xq rfl (y_load (.agg (eHand v1_1.Other).toArray) 0 g0_0 14) ?_
      refine p 1 ?_
      refine xq rfl (y_load (.agg (eHand v1_3.Other).toArray) 1 g0_1 14) ?_
      obtain ⟨v4_5, hv4_5, h⟩ := H.call h
      refine xq rfl (y_call [.agg (eHand v1_1.Other).toArray, .agg (eHand v1_3.Other).toArray] (.int .i64 v4_5) func125 (fun W S => C.i_Hand_distance W hv4_5)) ?_
      refine p 2 ?_
      refine rend ?_
      refine c_inb ?_
      refine c_seq ?_
      refine r_start ?_
      refine p 2 ?_
      refine rend ?_
      replace h := H.done h
      subst h
      exact ret func118 rfl (vs := [.int .i64 (wr (v2_4 + v4_5))]) (.tmp (by kernel_rfl) .nil) rfl (fun W S => ⟨rfl, S.below⟩)
    replace h := H.f q2 h
    refine c_seq ?_
    refine r_start ?_
    refine p 1 ?_
    refine xq rfl (y_load (.bool v1_1.Two) 0 g0_0 13) ?_
    refine p 1 ?_
    refine xq rfl (y_load (.bool v1_3.Two) 1 g0_1 13) ?_
    refine p 2 ?_
    refine rend ?_
    refine c_or (!(v1_1.Two == v1_3.Two)) (fun q3 => ?_) (fun q3 => ?_)
    · replace h := H.t q3 h
      refine r_start ?_
      refine p 3 ?_
      refine rend ?_
      refine c_inb ?_
      refine c_seq ?_
      refine r_start ?_
      refine p 2 ?_
      refine rend ?_
      replace h := H.done h
      subst h
      exact ret func118 rfl (vs := [.int .i64 (wr (v2_4 + 6))]) (.tmp (by kernel_rfl) .nil) rfl (fun W S => ⟨rfl, S.below⟩)
    replace h := H.f q3 h
    refine c_skip ?_
    refine c_inb ?_
    refine c_seq ?_
    refine r_start ?_
    refine p 2 ?_
    refine rend ?_
    replace h := H.done h
    subst h
    exact ret func118 rfl (vs := [.int .i64 v2_4]) (.tmp (by kernel_rfl) .nil) rfl (fun W S => ⟨rfl, S.below⟩)
  replace h := H.f q1 h
  refine o_set 18 (congrArg Value.bool q1) ?_
  refine p 4 ?_
  refine rend ?_
  refine c_f (by kernel_rfl) ?_
  refine c_seq ?_
  refine r_start ?_
  refine p 1 ?_
  refine xq rfl (y_load (.bool v1_1.Two) 0 g0_0 13) ?_
  refine p 1 ?_
  refine xq rfl (y_load (.bool v1_3.Two) 1 g0_1 13) ?_
  refine p 2 ?_
  refine rend ?_
  refine c_or (!(v1_1.Two == v1_3.Two)) (fun q4 => ?_) (fun q4 => ?_)
  · replace h := H.t q4 h
    refine r_start ?_
    refine p 3 ?_
    refine rend ?_
    refine c_inb ?_
    refine c_seq ?_
    refine r_start ?_
    refine p 2 ?_
    refine rend ?_
    replace h := H.done h
    subst h
    exact ret func118 rfl (vs := [.int .i64 (wr (v2_4 + 6))]) (.tmp (by kernel_rfl) .nil) rfl (fun W S => ⟨rfl, S.below⟩)
  replace h := H.f q4 h
  refine c_skip ?_
  refine c_inb ?_
  refine c_seq ?_
  refine r_start ?_
  refine p 2 ?_
  refine rend ?_
  replace h := H.done h
  subst h
  exact ret func118 rfl (vs := [.int .i64 v2_4]) (.tmp (by kernel_rfl) .nil) rfl (fun W S => ⟨rfl, S.below⟩)
theorem C.i_SignDistance {fu : Nat} {a0 : Sign} {a1 : Sign} {r : (Int × Bool)} (w : World) (h : X.i_SignDistance fu a0 a1 = some r) : Calls prog 38 #[.agg (eSign a0).toArray, .agg (eSign a1).toArray] w (Ret w (.tuple #[.int .i64 r.1, .bool r.2])) := by
  refine calls (M := no) (args := [.agg (eSign a0).toArray, .agg (eSign a1).toArray]) func38 rfl ?_
  replace h : H (X.i_SignDistance fu a0 a1) (fun o => o = r) := H.mk h
  unfold X.i_SignDistance at h
  refine c_seq ?_
  refine r_start ?_
  refine xx rfl (x_box (eSign a0) fun g0_0 => ?_)
  refine xx rfl (x_box (eSign a1) fun g0_1 => ?_)
  refine p 2 ?_
  refine rend ?_
  refine c_seq ?_
  refine c_seq ?_
  refine r_start ?_
  refine xq rfl (y_load (.agg (eSign a0).toArray) 0 g0_0 0) ?_
  obtain ⟨v1_1, hv1_1, h⟩ := H.call h
  refine xq rfl (y_call [.agg (eSign a0).toArray] (.bool v1_1) func19 (fun W S => C.i_IsSign W hv1_1)) ?_
  refine p 2 ?_
  refine br (!v1_1) (fun q1 => ?_) (fun q1 => ?_)
  · replace h := H.t q1 h
    refine o_set 9 (congrArg Value.bool q1) ?_
    refine p 4 ?_
    refine rend ?_
    refine c_t (by kernel_rfl) ?_
    refine c_seq ?_
    refine r_start ?_
    refine p 2 ?_
    refine rend ?_
    replace h := H.done h
    subst h
    exact ret func38 rfl (vs := [.int .i64 0, .bool false]) (.tmp (by kernel_rfl) (.tmp (by kernel_rfl) .nil)) rfl (fun W S => ⟨rfl, S.below⟩)
  replace h := H.f q1 h
  refine o_set 9 (congrArg Value.bool q1) ?_
  refine xq rfl (y_load (.agg (eSign a1).toArray) 1 g0_1 0) ?_
  obtain ⟨v1_5, hv1_5, h⟩ := H.call h
  refine xq rfl (y_call [.agg (eSign a1).toArray] (.bool v1_5) func19 (fun W S => C.i_IsSign W hv1_5)) ?_
  refine p 2 ?_
  refine rend ?_
  refine c_or (!v1_5) (fun q2 => ?_) (fun q2 => ?_)
  · replace h := H.t q2 h
    refine c_seq ?_
    refine r_start ?_
    refine p 2 ?_
    refine rend ?_
    replace h := H.done h
    subst h
    exact ret func38 rfl (vs := [.int .i64 0, .bool false]) (.tmp (by kernel_rfl) (.tmp (by kernel_rfl) .nil)) rfl (fun W S => ⟨rfl, S.below⟩)
  replace h := H.f q2 h
  refine c_skip ?_
  refine c_seq ?_
  refine r_start ?_
  refine xq rfl (y_load (.agg (eSign a0).toArray) 0 g0_0 0) ?_
  refine xq rfl (y_load (.agg (eSign a1).toArray) 1 g0_1 0) ?_
  obtain ⟨v3_2, hv3_2, h⟩ := H.call h
  refine xq rfl (y_call [.agg (eSign a0).toArray, .agg (eSign a1).toArray] (.int .i64 v3_2) func118 (fun W S => C.i_Sign_distance W hv3_2)) ?_
  refine p 2 ?_
  refine rend ?_
  replace h := H.done h
  subst h
  exact ret func38 rfl (vs := [.int .i64 v3_2, .bool true]) (.tmp (by kernel_rfl) (.tmp (by kernel_rfl) .nil)) rfl (fun W S => ⟨rfl, S.below⟩)
theorem C.s_feBoth {fu : Nat} {a0 : Sign} {a1 : Sign} {r : Bool} (w : World) (h : X.s_feBoth fu a0 a1 = some r) : Calls prog 119 #[.agg (eSign a0).toArray, .agg (eSign a1).toArray] w (Ret w (.bool r)) := by
  refine calls (M := no) (args := [.agg (eSign a0).toArray, .agg (eSign a1).toArray]) func119 rfl ?_
  replace h : H (X.s_feBoth fu a0 a1) (fun o => o = r) := H.mk h
  unfold X.s_feBoth at h
  refine c_seq ?_
  refine r_start ?_
  refine xx rfl (x_box (eSign a0) fun g0_0 => ?_)
  refine xx rfl (x_box (eSign a1) fun g0_1 => ?_)
  refine p 1 ?_
  refine rend ?_
  refine c_seq ?_
  refine r_start ?_
  refine xq rfl (y_load (.agg (eSign a0).toArray) 0 g0_0 0) ?_
  obtain ⟨v1_1, hv1_1, h⟩ := H.call h
  refine xq rfl (y_call [.agg (eSign a0).toArray] (.bool v1_1) func91 (fun W S => C.s_siGood W hv1_1)) ?_
  refine p 1 ?_
  refine br v1_1 (fun q1 => ?_) (fun q1 => ?_)
  · replace h := H.t q1 h
    refine o_set 7 (congrArg Value.bool q1) ?_
    refine xq rfl (y_load (.agg (eSign a1).toArray) 1 g0_1 0) ?_
    obtain ⟨v1_4, hv1_4, h⟩ := H.call h
    refine xq rfl (y_call [.agg (eSign a1).toArray] (.bool v1_4) func91 (fun W S => C.s_siGood W hv1_4)) ?_
    refine p 2 ?_
    refine rend ?_
    replace h := H.done h
    subst h
    exact ret func119 rfl (vs := [.bool v1_4]) (.tmp (by kernel_rfl) .nil) rfl (fun W S => ⟨rfl, S.below⟩)
  replace h := H.f q1 h
  refine o_set 7 (congrArg Value.bool q1) ?_
  refine p 4 ?_
  refine rend ?_
  replace h := H.done h
  subst h
  exact ret func119 rfl (vs := [.bool false]) (.tmp (by kernel_rfl) .nil) rfl (fun W S => ⟨rfl, S.below⟩)
theorem C.s_l1Least {a0 : Int} {a1 : Int} {r : Int} (w : World) (h : X.s_l1Least a0 a1 = some r) : Calls prog 202 #[.int .i64 a0, .int .i64 a1] w (Ret w (.int .i64 r)) := by
  refine calls (M := no) (args := [.int .i64 a0, .int .i64 a1]) func202 rfl ?_
  replace h : H (X.s_l1Least a0 a1) (fun o => o = r) := H.mk h
  unfold X.s_l1Least at h
  refine c_seq ?_
  refine r_start ?_
  refine p 1 ?_
  refine rend ?_
  refine c_seq ?_
  refine c_seq ?_
  refine r_start ?_
  refine p 3 ?_
  refine rend ?_
  refine c_or (decide (a0 < a1)) (fun q1 => ?_) (fun q1 => ?_)
  · replace h := H.t q1 h
    refine c_seq ?_
    refine r_start ?_
    refine p 2 ?_
    refine rend ?_
    replace h := H.done h
    subst h
    exact ret func202 rfl (vs := [.int .i64 a0]) (.tmp (by kernel_rfl) .nil) rfl (fun W S => ⟨rfl, S.below⟩)
  replace h := H.f q1 h
  refine c_skip ?_
  refine c_seq ?_
  refine r_start ?_
  refine p 2 ?_
  refine rend ?_
  replace h := H.done h
  subst h
  exact ret func202 rfl (vs := [.int .i64 a1]) (.tmp (by kernel_rfl) .nil) rfl (fun W S => ⟨rfl, S.below⟩)
theorem C.s_feSteps {fu : Nat} {a0 : Str} {a1 : Str} {r : Int} (w : World) (h : X.s_feSteps fu a0 a1 = some r) : Calls prog 130 #[.string (bs a0), .string (bs a1)] w (Ret w (.int .i64 r)) := by
  refine calls (M := no) (args := [.string (bs a0), .string (bs a1)]) func130 rfl ?_
  replace h : H (X.s_feSteps fu a0 a1) (fun o => o = r) := H.mk h
  unfold X.s_feSteps at h
  refine c_seq ?_
  refine r_start ?_
  refine p 1 ?_
  refine rend ?_
  refine c_seq ?_
  refine r_start ?_
  refine p 3 ?_
  obtain ⟨y1_3, hy1_3, h⟩ := H.call h
  refine xx rfl (e_make (el := 3) hy1_3 fun A1_3 k1_3 => ?_)
  refine p 1 ?_
  refine rend ?_
  refine c_seq ?_
  refine c_seq ?_
  refine r_start ?_
  refine p 3 ?_
  refine rend ?_
  refine c_block ?_
  refine joinH (X := ((List Int) × Option Addr × Nat)) 0 (H.bnd h) (fun ⟨l4, A5, k6⟩ => l4) (fun ⟨l4, A5, k6⟩ => [rowT (eI .i64) w.heap.size 3 (.slice A5 (List.length l4) k6) l4]) (fun ⟨l4, A5, k6⟩ u => (.string (bs a0) :: .string (bs a1) :: (jk u 2 3 (.slice A5 (List.length l4) k6 :: (jk u 6 75 []))))) (fun h hj7 => ?_) ?_
  · skip
    refine rangeR (X := ((List Int) × Option Addr × Nat)) (s_own 0) (fun ⟨l1, A2, k3⟩ => l1) (fun ⟨l1, A2, k3⟩ => [rowT (eI .i64) w.heap.size 3 (.slice A2 (List.length l1) k3) l1]) (fun (j8 : Nat) ⟨l1, A2, k3⟩ u => (.string (bs a0) :: .string (bs a1) :: (jk u 2 3 (.slice A2 (List.length l1) k3 :: (jk u 6 10 (.int .i64 (List.length y1_3 : Int) :: .int .i64 (j8 : Int) :: (jk u 18 63 []))))))) (y1_3, A1_3, k1_3) h (by kernel_rfl) (by kernel_rfl) ?_ ?_
    · intro j8 x u x9 q10 hg11 hw12 h
      obtain ⟨l1, A2, k3⟩ := x
      refine c_seq ?_
      refine r_start ?_
      refine p 1 ?_
      refine rend ?_
      refine c_seq ?_
      refine c_yes q10 ?_
      refine c_skip ?_
      refine c_seq ?_
      refine c_block ?_
      refine c_seq ?_
      refine r_start ?_
      refine p 2 ?_
      refine rend ?_
      refine r_start ?_
      refine p 3 ?_
      obtain ⟨y5_3, hy5_3, h⟩ := H.call h
      refine xq rfl (y_idx (e := (eI .i64)) (el := 3) hy5_3 (s_own 0)) ?_
      refine xx rfl (e_stel (e := (eI .i64)) (b := (j8 : Int)) 0 0 ([.int .i64 (j8 : Int)]) hy5_3 (by kernel_rfl) ?_)
      refine o_set 5 (sl_set (A := A2) (c := k3) (l := l1) (n := Int.toNat (j8 : Int)) (b := (j8 : Int))) ?_
      refine rend ?_
      refine c_inb ?_
      refine r_start ?_
      refine p 2 ?_
      refine rend ?_
      refine c_set 17 (ci hw12) ?_
      replace h := H.inl h
      exact h ((List.set l1 (Int.toNat (j8 : Int)) (j8 : Int)), A2, k3) _ _ rfl (by kernel_rfl) (by kernel_rfl)
    · intro x u q10 h
      obtain ⟨l1, A2, k3⟩ := x
      refine c_seq ?_
      refine r_start ?_
      refine p 1 ?_
      refine rend ?_
      refine c_seq ?_
      refine c_no q10 ?_
      refine cx ?_
      replace h := H.done h
      exact hj7 (l1, A2, k3) _ _ h (by kernel_rfl) (by kernel_rfl)
  intro x u h
  obtain ⟨l4, A5, k6⟩ := x
  refine c_seq ?_
  refine c_seq ?_
  refine r_start ?_
  refine p 1 ?_
  refine rend ?_
  refine c_block ?_
  refine joinH (X := ((List Int) × Option Addr × Nat)) 2 (H.bnd h) (fun ⟨l17, A18, k19⟩ => l17) (fun ⟨l17, A18, k19⟩ => [rowT (eI .i64) w.heap.size 3 (.slice A18 (List.length l17) k19) l17]) (fun ⟨l17, A18, k19⟩ u => (jk u 0 1 (.string (bs a1) :: (jk u 2 3 (.slice A18 (List.length l17) k19 :: (jk u 6 75 [])))))) (fun h hj20 => ?_) ?_
  · skip
    refine loopR (X := (Int × (List Int) × Option Addr × Nat)) (fun ⟨n13, l14, A15, k16⟩ => (n13, l14)) (fun ⟨n13, l14, A15, k16⟩ => [rowT (eI .i64) w.heap.size 3 (.slice A15 (List.length l14) k16) l14]) (fun ⟨n13, l14, A15, k16⟩ u => (.string (bs a0) :: .string (bs a1) :: (jk u 2 3 (.slice A15 (List.length l14) k16 :: (jk u 6 1 (.int .i64 n13 :: (jk u 8 73 []))))))) (0, l4, A5, k6) h (by kernel_rfl) (by kernel_rfl) ?_
    intro x u h
    obtain ⟨n13, l14, A15, k16⟩ := x
    refine c_seq ?_
    refine c_seq ?_
    refine r_start ?_
    refine p 4 ?_
    refine rend ?_
    refine c_or (decide (n13 < (List.length a0 : Int))) (fun q21 => ?_) (fun q21 => ?_)
    · replace h := H.t q21 h
      refine c_skip ?_
      refine c_seq ?_
      refine c_block ?_
      refine c_seq ?_
      refine r_start ?_
      refine p 1 ?_
      obtain ⟨y10_1, hy10_1, h⟩ := H.call h
      refine xq rfl (y_idx (e := (eI .i64)) (el := 3) hy10_1 (s_own 0)) ?_
      refine xq rfl (y_el (e := (eI .i64)) 0 (.int .i64 y10_1) hy10_1 (s_own 0)) ?_
      refine p 1 ?_
      refine rend ?_
      refine c_seq ?_
      refine r_start ?_
      refine p 3 ?_
      refine xq rfl (y_idx (e := (eI .i64)) (el := 3) hy10_1 (s_own 0)) ?_
      refine xx rfl (e_stel (e := (eI .i64)) (b := (wr (n13 + 1))) 0 0 ([.int .i64 (wr (n13 + 1))]) hy10_1 (by kernel_rfl) ?_)
      refine o_set 5 (sl_set (A := A15) (c := k16) (l := l14) (n := Int.toNat 0) (b := (wr (n13 + 1)))) ?_
      refine rend ?_
      refine c_seq ?_
      refine r_start ?_
      refine p 1 ?_
      refine rend ?_
      refine c_block ?_
      refine joinH (X := ((List Int) × Option Addr × Nat)) 4 (H.bnd h) (fun ⟨l27, A28, k29⟩ => l27) (fun ⟨l27, A28, k29⟩ => [rowT (eI .i64) w.heap.size 3 (.slice A28 (List.length l27) k29) l27]) (fun ⟨l27, A28, k29⟩ u => (.string (bs a0) :: .string (bs a1) :: (jk u 2 3 (.slice A28 (List.length l27) k29 :: (jk u 6 1 (.int .i64 n13 :: (jk u 8 73 []))))))) (fun h hj30 => ?_) ?_
      · skip
        refine loopR (X := (Int × Int × (List Int) × Option Addr × Nat)) (fun ⟨n22, n23, l24, A25, k26⟩ => (n22, n23, l24)) (fun ⟨n22, n23, l24, A25, k26⟩ => [rowT (eI .i64) w.heap.size 3 (.slice A25 (List.length l24) k26) l24]) (fun ⟨n22, n23, l24, A25, k26⟩ u => (.string (bs a0) :: .string (bs a1) :: (jk u 2 3 (.slice A25 (List.length l24) k26 :: (jk u 6 1 (.int .i64 n13 :: .int .i64 n22 :: .int .i64 n23 :: (jk u 10 71 []))))))) (y10_1, 0, (List.set l14 (Int.toNat 0) (wr (n13 + 1))), A15, k16) h (by kernel_rfl) (by kernel_rfl) ?_
        intro x u h
        obtain ⟨n22, n23, l24, A25, k26⟩ := x
        refine c_seq ?_
        refine c_seq ?_
        refine r_start ?_
        refine p 4 ?_
        refine rend ?_
        refine c_or (decide (n23 < (List.length a1 : Int))) (fun q31 => ?_) (fun q31 => ?_)
        · replace h := H.t q31 h
          refine c_skip ?_
          refine c_seq ?_
          refine c_block ?_
          refine c_seq ?_
          refine r_start ?_
          refine p 2 ?_
          refine rend ?_
          refine c_seq ?_
          refine c_seq ?_
          refine as_start 7 7 ?_
          refine ap 0 2 ?_
          obtain ⟨y16_2, hy16_2, h⟩ := H.call h
          refine aq 2 rfl (y_byte hy16_2) ?_
          refine ap 3 2 ?_
          obtain ⟨y16_5, hy16_5, h⟩ := H.call h
          refine aq 5 rfl (y_byte hy16_5) ?_
          refine ap 6 1 ?_
          refine a_done ?_
          refine c_or (y16_2 != y16_5) (fun q32 => ?_) (fun q32 => ?_)
          · replace h := H.t q32 h
            refine r_start ?_
            refine p 3 ?_
            refine rend ?_
            refine frg (fun u => (.string (bs a0) :: .string (bs a1) :: (jk u 2 3 (.slice A25 (List.length l24) k26 :: (jk u 6 1 (.int .i64 n13 :: (jk u 8 1 (.int .i64 n23 :: .int .i64 (wr (n22 + 1)) :: (jk u 11 70 []))))))))) (by kernel_rfl) fun u => ?_
            refine keep 1 (its' := [rowT (eI .i64) w.heap.size 3 (.slice A25 (List.length l24) k26) l24]) (by kernel_rfl) ?_
            refine c_seq ?_
            refine r_start ?_
            refine p 3 ?_
            obtain ⟨y18_3, hy18_3, h⟩ := H.call h
            refine xq rfl (y_idx (e := (eI .i64)) (el := 3) hy18_3 (s_own 0)) ?_
            refine xq rfl (y_el (e := (eI .i64)) 0 (.int .i64 y18_3) hy18_3 (s_own 0)) ?_
            refine p 1 ?_
            refine rend ?_
            refine as_start 17 18 ?_
            refine ap 0 6 ?_
            obtain ⟨y19_6, hy19_6, h⟩ := H.call h
            refine aq 6 rfl (y_idx (e := (eI .i64)) (el := 3) hy19_6 (s_own 0)) ?_
            refine aq 7 rfl (y_el (e := (eI .i64)) 0 (.int .i64 y19_6) hy19_6 (s_own 0)) ?_
            refine ap 8 3 ?_
            refine aq 11 rfl (y_idx (e := (eI .i64)) (el := 3) hy18_3 (s_own 0)) ?_
            refine aq 12 rfl (y_el (e := (eI .i64)) 0 (.int .i64 y18_3) hy18_3 (s_own 0)) ?_
            obtain ⟨v19_13, hv19_13, h⟩ := H.call h
            refine aq 13 rfl (y_call [.int .i64 y19_6, .int .i64 y18_3] (.int .i64 v19_13) func202 (fun W S => C.s_l1Least W hv19_13)) ?_
            refine ap 14 1 ?_
            obtain ⟨v19_15, hv19_15, h⟩ := H.call h
            refine aq 15 rfl (y_call [.int .i64 (wr (n22 + 1)), .int .i64 (wr (v19_13 + 1))] (.int .i64 v19_15) func202 (fun W S => C.s_l1Least W hv19_15)) ?_
            refine aq 16 rfl (y_idx (e := (eI .i64)) (el := 3) hy18_3 (s_own 0)) ?_
            refine ax 17 rfl (e_stel (e := (eI .i64)) (b := v19_15) 0 0 ([.int .i64 v19_15]) hy18_3 (by kernel_rfl) ⟨.inl (by kernel_rfl), ?_⟩)
            refine a_set 5 (sl_set (A := A25) (c := k26) (l := l24) (n := Int.toNat (wr (n23 + 1))) (b := v19_15)) ?_
            refine a_done ?_
            refine c_inb ?_
            refine r_start ?_
            refine p 3 ?_
            refine rend ?_
            replace h := H.inl h
            exact h (y18_3, (wr (n23 + 1)), (List.set l24 (Int.toNat (wr (n23 + 1))) v19_15), A25, k26) _ _ rfl (by kernel_rfl) (by kernel_rfl)
          replace h := H.f q32 h
          refine c_skip ?_
          refine c_seq ?_
          refine r_start ?_
          refine p 3 ?_
          obtain ⟨y18_3, hy18_3, h⟩ := H.call h
          refine xq rfl (y_idx (e := (eI .i64)) (el := 3) hy18_3 (s_own 0)) ?_
          refine xq rfl (y_el (e := (eI .i64)) 0 (.int .i64 y18_3) hy18_3 (s_own 0)) ?_
          refine p 1 ?_
          refine rend ?_
          refine frg (fun u => (.string (bs a0) :: .string (bs a1) :: (jk u 2 3 (.slice A25 (List.length l24) k26 :: (jk u 6 1 (.int .i64 n13 :: .int .i64 y18_3 :: .int .i64 n23 :: .int .i64 n22 :: (jk u 11 70 []))))))) (by kernel_rfl) fun u => ?_
          refine keep 1 (its' := [rowT (eI .i64) w.heap.size 3 (.slice A25 (List.length l24) k26) l24]) (by kernel_rfl) ?_
          refine as_start 17 18 ?_
          refine ap 0 6 ?_
          obtain ⟨y19_6, hy19_6, h⟩ := H.call h
          refine aq 6 rfl (y_idx (e := (eI .i64)) (el := 3) hy19_6 (s_own 0)) ?_
          refine aq 7 rfl (y_el (e := (eI .i64)) 0 (.int .i64 y19_6) hy19_6 (s_own 0)) ?_
          refine ap 8 3 ?_
          refine aq 11 rfl (y_idx (e := (eI .i64)) (el := 3) hy18_3 (s_own 0)) ?_
          refine aq 12 rfl (y_el (e := (eI .i64)) 0 (.int .i64 y18_3) hy18_3 (s_own 0)) ?_
          obtain ⟨v19_13, hv19_13, h⟩ := H.call h
          refine aq 13 rfl (y_call [.int .i64 y19_6, .int .i64 y18_3] (.int .i64 v19_13) func202 (fun W S => C.s_l1Least W hv19_13)) ?_
          refine ap 14 1 ?_
          obtain ⟨v19_15, hv19_15, h⟩ := H.call h
          refine aq 15 rfl (y_call [.int .i64 n22, .int .i64 (wr (v19_13 + 1))] (.int .i64 v19_15) func202 (fun W S => C.s_l1Least W hv19_15)) ?_
          refine aq 16 rfl (y_idx (e := (eI .i64)) (el := 3) hy18_3 (s_own 0)) ?_
          refine ax 17 rfl (e_stel (e := (eI .i64)) (b := v19_15) 0 0 ([.int .i64 v19_15]) hy18_3 (by kernel_rfl) ⟨.inl (by kernel_rfl), ?_⟩)
          refine a_set 5 (sl_set (A := A25) (c := k26) (l := l24) (n := Int.toNat (wr (n23 + 1))) (b := v19_15)) ?_
          refine a_done ?_
          refine c_inb ?_
          refine r_start ?_
          refine p 3 ?_
          refine rend ?_
          replace h := H.inl h
          exact h (y18_3, (wr (n23 + 1)), (List.set l24 (Int.toNat (wr (n23 + 1))) v19_15), A25, k26) _ _ rfl (by kernel_rfl) (by kernel_rfl)
        replace h := H.f q31 h
        refine cx ?_
        replace h := H.inr h
        exact hj30 (l24, A25, k26) _ _ h (by kernel_rfl) (by kernel_rfl)
      intro x u h
      obtain ⟨l27, A28, k29⟩ := x
      refine c_inb ?_
      refine r_start ?_
      refine p 3 ?_
      refine rend ?_
      replace h := H.inl h
      exact h ((wr (n13 + 1)), l27, A28, k29) _ _ rfl (by kernel_rfl) (by kernel_rfl)
    replace h := H.f q21 h
    refine cx ?_
    replace h := H.inr h
    exact hj20 (l14, A15, k16) _ _ h (by kernel_rfl) (by kernel_rfl)
  intro x u h
  obtain ⟨l17, A18, k19⟩ := x
  refine c_seq ?_
  refine r_start ?_
  refine p 3 ?_
  obtain ⟨y20_3, hy20_3, h⟩ := H.call h
  refine xq rfl (y_idx (e := (eI .i64)) (el := 3) hy20_3 (s_own 0)) ?_
  refine xq rfl (y_el (e := (eI .i64)) 0 (.int .i64 y20_3) hy20_3 (s_own 0)) ?_
  refine p 1 ?_
  refine rend ?_
  replace h := H.done h
  subst h
  exact ret func130 rfl (vs := [.int .i64 y20_3]) (.tmp (by kernel_rfl) .nil) rfl (fun W S => ⟨rfl, S.below⟩)
theorem C.s_l1Abs {a0 : Int} {r : Int} (w : World) (h : X.s_l1Abs a0 = some r) : Calls prog 234 #[.int .i64 a0] w (Ret w (.int .i64 r)) := by
  refine calls (M := no) (args := [.int .i64 a0]) func234 rfl ?_
  replace h : H (X.s_l1Abs a0) (fun o => o = r) := H.mk h
  unfold X.s_l1Abs at h
  refine c_seq ?_
  refine r_start ?_
  refine p 1 ?_
  refine rend ?_
  refine c_seq ?_
  refine r_start ?_
  refine p 3 ?_
  obtain ⟨v1_3, hv1_3, h⟩ := H.call h
  refine xq rfl (y_call [.int .i64 a0, .int .i64 (wr (0 - a0))] (.int .i64 v1_3) func105 (fun W S => C.s_l1Most W hv1_3)) ?_
  refine p 1 ?_
  refine rend ?_
  replace h := H.done h
  subst h
  exact ret func234 rfl (vs := [.int .i64 v1_3]) (.tmp (by kernel_rfl) .nil) rfl (fun W S => ⟨rfl, S.below⟩)
theorem C.s_shFar {a0 : Shape} {a1 : Shape} {r : Int} (w : World) (h : X.s_shFar a0 a1 = some r) : Calls prog 199 #[.agg (eShape a0).toArray, .agg (eShape a1).toArray] w (Ret w (.int .i64 r)) := by
  refine calls (M := no) (args := [.agg (eShape a0).toArray, .agg (eShape a1).toArray]) func199 rfl ?_
  replace h : H (X.s_shFar a0 a1) (fun o => o = r) := H.mk h
  unfold X.s_shFar at h
  refine c_seq ?_
  refine r_start ?_
  refine xx rfl (x_box (eShape a0) fun g0_0 => ?_)
  refine xx rfl (x_box (eShape a1) fun g0_1 => ?_)
  refine p 1 ?_
  refine rend ?_
  refine c_seq ?_
  refine as_start 6 6 ?_
  refine aq 0 rfl (y_load (.agg (eShape a0).toArray) 0 g0_0 0) ?_
  refine aq 2 rfl (y_load (.agg (eShape a1).toArray) 1 g0_1 0) ?_
  obtain ⟨v1_1, hv1_1, h⟩ := H.call h
  refine ax 1 rfl (e_cr [.agg (eShape a0).toArray] (fun v => v) func215 (fun W S => C.s_shFingers W hv1_1) fun A1_1 k1_1 => ⟨.inr (by kernel_rfl), ?_⟩)
  obtain ⟨v1_3, hv1_3, h⟩ := H.call h
  refine ax 3 rfl (e_cr [.agg (eShape a1).toArray] (fun v => v) func215 (fun W S => C.s_shFingers W hv1_3) fun A1_3 k1_3 => ⟨.inr (by kernel_rfl), ?_⟩)
  refine ap 4 2 ?_
  refine a_done ?_
  refine c_seq ?_
  refine r_start ?_
  refine p 1 ?_
  refine rend ?_
  refine c_seq ?_
  refine c_seq ?_
  refine r_start ?_
  refine p 3 ?_
  refine rend ?_
  refine c_block ?_
  refine joinH (X := Int) 0 (H.bnd h) (fun (x : Int) => x) (fun n2 => [box g0_0 25 (eShape a0), box g0_1 25 (eShape a1), rowT (eI .i64) w.heap.size 3 (.slice A1_1 (List.length v1_1) k1_1) v1_1, rowT (eI .i64) w.heap.size 3 (.slice A1_3 (List.length v1_3) k1_3) v1_3]) (fun n2 u => (jk u 0 2 (.pointer (some ⟨g0_0, 0, none⟩) :: .pointer (some ⟨g0_1, 0, none⟩) :: (jk u 4 3 (.int .i64 n2 :: (jk u 8 38 [])))))) (fun h hj3 => ?_) ?_
  · skip
    refine rangeR (X := Int) (s_own 2) (fun (x : Int) => x) (fun n1 => [box g0_0 25 (eShape a0), box g0_1 25 (eShape a1), rowT (eI .i64) w.heap.size 3 (.slice A1_1 (List.length v1_1) k1_1) v1_1, rowT (eI .i64) w.heap.size 3 (.slice A1_3 (List.length v1_3) k1_3) v1_3]) (fun (j4 : Nat) n1 u => (jk u 0 2 (.pointer (some ⟨g0_0, 0, none⟩) :: .pointer (some ⟨g0_1, 0, none⟩) :: (jk u 4 1 (.slice A1_1 (List.length v1_1) k1_1 :: .slice A1_3 (List.length v1_3) k1_3 :: .int .i64 n1 :: (jk u 8 6 (.int .i64 (List.length v1_1 : Int) :: .int .i64 (j4 : Int) :: (jk u 16 30 [])))))))) 0 h (by kernel_rfl) (by kernel_rfl) ?_ ?_
    · intro j4 n1 u x5 q6 hg7 hw8 h
      refine c_seq ?_
      refine r_start ?_
      refine p 1 ?_
      refine rend ?_
      refine c_seq ?_
      refine c_yes q6 ?_
      refine c_skip ?_
      refine c_seq ?_
      refine c_block ?_
      refine c_seq ?_
      refine r_start ?_
      refine p 2 ?_
      refine rend ?_
      refine as_start 13 13 ?_
      refine ap 0 3 ?_
      refine aq 3 rfl (y_idx (e := (eI .i64)) (el := 3) hg7 (s_own 2)) ?_
      refine aq 4 rfl (y_el (e := (eI .i64)) 0 (.int .i64 x5) hg7 (s_own 2)) ?_
      refine ap 5 2 ?_
      obtain ⟨y6_7, hy6_7, h⟩ := H.call h
      refine aq 7 rfl (y_idx (e := (eI .i64)) (el := 3) hy6_7 (s_own 3)) ?_
      refine aq 8 rfl (y_el (e := (eI .i64)) 0 (.int .i64 y6_7) hy6_7 (s_own 3)) ?_
      refine ap 9 1 ?_
      obtain ⟨v6_10, hv6_10, h⟩ := H.call h
      refine aq 10 rfl (y_call [.int .i64 (wr (x5 - y6_7))] (.int .i64 v6_10) func234 (fun W S => C.s_l1Abs W hv6_10)) ?_
      refine ap 11 2 ?_
      refine a_done ?_
      refine c_inb ?_
      refine r_start ?_
      refine p 2 ?_
      refine rend ?_
      refine c_set 15 (ci hw8) ?_
      replace h := H.inl h
      exact h (wr (n1 + v6_10)) _ _ rfl (by kernel_rfl) (by kernel_rfl)
    · intro n1 u q6 h
      refine c_seq ?_
      refine r_start ?_
      refine p 1 ?_
      refine rend ?_
      refine c_seq ?_
      refine c_no q6 ?_
      refine cx ?_
      replace h := H.done h
      exact hj3 n1 _ _ h (by kernel_rfl) (by kernel_rfl)
  intro n2 u h
  refine c_seq ?_
  refine c_seq ?_
  refine r_start ?_
  refine p 1 ?_
  refine xq rfl (y_load (.int .i64 a0.Thumb) 0 g0_0 0) ?_
  refine p 1 ?_
  refine xq rfl (y_load (.int .i64 a1.Thumb) 1 g0_1 0) ?_
  refine p 1 ?_
  refine rend ?_
  refine c_or (a0.Thumb != a1.Thumb) (fun q9 => ?_) (fun q9 => ?_)
  · replace h := H.t q9 h
    refine r_start ?_
    refine p 3 ?_
    refine rend ?_
    refine c_seq ?_
    refine c_seq ?_
    refine r_start ?_
    refine p 1 ?_
    refine xq rfl (y_load (.bool a0.Spread) 0 g0_0 5) ?_
    refine p 1 ?_
    refine xq rfl (y_load (.bool a1.Spread) 1 g0_1 5) ?_
    refine p 1 ?_
    refine rend ?_
    refine c_or (!(a0.Spread == a1.Spread)) (fun q10 => ?_) (fun q10 => ?_)
    · replace h := H.t q10 h
      refine r_start ?_
      refine p 3 ?_
      refine rend ?_
      refine c_seq ?_
      refine r_start ?_
      refine p 2 ?_
      refine rend ?_
      replace h := H.done h
      subst h
      exact ret func199 rfl (vs := [.int .i64 (wr ((wr (n2 + 1)) + 1))]) (.tmp (by kernel_rfl) .nil) rfl (fun W S => ⟨rfl, S.below⟩)
    replace h := H.f q10 h
    refine c_skip ?_
    refine c_seq ?_
    refine r_start ?_
    refine p 2 ?_
    refine rend ?_
    replace h := H.done h
    subst h
    exact ret func199 rfl (vs := [.int .i64 (wr (n2 + 1))]) (.tmp (by kernel_rfl) .nil) rfl (fun W S => ⟨rfl, S.below⟩)
  replace h := H.f q9 h
  refine c_skip ?_
  refine c_seq ?_
  refine c_seq ?_
  refine r_start ?_
  refine p 1 ?_
  refine xq rfl (y_load (.bool a0.Spread) 0 g0_0 5) ?_
  refine p 1 ?_
  refine xq rfl (y_load (.bool a1.Spread) 1 g0_1 5) ?_
  refine p 1 ?_
  refine rend ?_
  refine c_or (!(a0.Spread == a1.Spread)) (fun q11 => ?_) (fun q11 => ?_)
  · replace h := H.t q11 h
    refine r_start ?_
    refine p 3 ?_
    refine rend ?_
    refine c_seq ?_
    refine r_start ?_
    refine p 2 ?_
    refine rend ?_
    replace h := H.done h
    subst h
    exact ret func199 rfl (vs := [.int .i64 (wr (n2 + 1))]) (.tmp (by kernel_rfl) .nil) rfl (fun W S => ⟨rfl, S.below⟩)
  replace h := H.f q11 h
  refine c_skip ?_
  refine c_seq ?_
  refine r_start ?_
  refine p 2 ?_
  refine rend ?_
  replace h := H.done h
  subst h
  exact ret func199 rfl (vs := [.int .i64 n2]) (.tmp (by kernel_rfl) .nil) rfl (fun W S => ⟨rfl, S.below⟩)
theorem C.s_plFar {a0 : Place} {a1 : Place} {r : Int} (w : World) (h : X.s_plFar a0 a1 = some r) : Calls prog 200 #[.agg (ePlace a0).toArray, .agg (ePlace a1).toArray] w (Ret w (.int .i64 r)) := by
  refine calls (M := no) (args := [.agg (ePlace a0).toArray, .agg (ePlace a1).toArray]) func200 rfl ?_
  replace h : H (X.s_plFar a0 a1) (fun o => o = r) := H.mk h
  unfold X.s_plFar at h
  refine c_seq ?_
  refine r_start ?_
  refine xx rfl (x_box (ePlace a0) fun g0_0 => ?_)
  refine xx rfl (x_box (ePlace a1) fun g0_1 => ?_)
  refine p 1 ?_
  refine rend ?_
  refine c_seq ?_
  refine r_start ?_
  refine p 1 ?_
  refine xq rfl (y_load (.int .i64 a0.Side) 0 g0_0 1) ?_
  refine p 1 ?_
  refine xq rfl (y_load (.int .i64 a1.Side) 1 g0_1 1) ?_
  refine p 1 ?_
  obtain ⟨v1_5, hv1_5, h⟩ := H.call h
  refine xq rfl (y_call [.int .i64 (wr (a0.Side - a1.Side))] (.int .i64 v1_5) func234 (fun W S => C.s_l1Abs W hv1_5)) ?_
  refine p 1 ?_
  refine rend ?_
  refine c_seq ?_
  refine c_seq ?_
  refine r_start ?_
  refine p 1 ?_
  refine xq rfl (y_load (.bool a0.Contact) 0 g0_0 2) ?_
  refine p 1 ?_
  refine xq rfl (y_load (.bool a1.Contact) 1 g0_1 2) ?_
  refine p 1 ?_
  refine rend ?_
  refine c_or (!(a0.Contact == a1.Contact)) (fun q1 => ?_) (fun q1 => ?_)
  · replace h := H.t q1 h
    refine r_start ?_
    refine p 3 ?_
    refine rend ?_
    refine c_seq ?_
    refine c_seq ?_
    refine r_start ?_
    refine p 1 ?_
    refine xq rfl (y_load (.int .i64 a0.Region) 0 g0_0 0) ?_
    refine p 2 ?_
    refine xq rfl (y_load (.int .i64 a1.Region) 1 g0_1 0) ?_
    refine p 2 ?_
    refine rend ?_
    refine c_or (!((a0.Region == 0) == (a1.Region == 0))) (fun q2 => ?_) (fun q2 => ?_)
    · replace h := H.t q2 h
      refine c_seq ?_
      refine r_start ?_
      refine p 3 ?_
      refine rend ?_
      replace h := H.done h
      subst h
      exact ret func200 rfl (vs := [.int .i64 (wr ((wr (v1_5 + 1)) + 4))]) (.tmp (by kernel_rfl) .nil) rfl (fun W S => ⟨rfl, S.below⟩)
    replace h := H.f q2 h
    refine c_skip ?_
    refine c_seq ?_
    refine r_start ?_
    refine p 2 ?_
    refine xq rfl (y_load (.int .i64 a0.Region) 0 g0_0 0) ?_
    refine p 1 ?_
    refine xq rfl (y_load (.int .i64 a1.Region) 1 g0_1 0) ?_
    refine p 1 ?_
    obtain ⟨v6_6, hv6_6, h⟩ := H.call h
    refine xq rfl (y_call [.int .i64 (wr (a0.Region - a1.Region))] (.int .i64 v6_6) func234 (fun W S => C.s_l1Abs W hv6_6)) ?_
    refine p 2 ?_
    refine rend ?_
    replace h := H.done h
    subst h
    exact ret func200 rfl (vs := [.int .i64 (wr ((wr (v1_5 + 1)) + v6_6))]) (.tmp (by kernel_rfl) .nil) rfl (fun W S => ⟨rfl, S.below⟩)
  replace h := H.f q1 h
  refine c_skip ?_
  refine c_seq ?_
  refine c_seq ?_
  refine r_start ?_
  refine p 1 ?_
  refine xq rfl (y_load (.int .i64 a0.Region) 0 g0_0 0) ?_
  refine p 2 ?_
  refine xq rfl (y_load (.int .i64 a1.Region) 1 g0_1 0) ?_
  refine p 2 ?_
  refine rend ?_
  refine c_or (!((a0.Region == 0) == (a1.Region == 0))) (fun q3 => ?_) (fun q3 => ?_)
  · replace h := H.t q3 h
    refine c_seq ?_
    refine r_start ?_
    refine p 3 ?_
    refine rend ?_
    replace h := H.done h
    subst h
    exact ret func200 rfl (vs := [.int .i64 (wr (v1_5 + 4))]) (.tmp (by kernel_rfl) .nil) rfl (fun W S => ⟨rfl, S.below⟩)
  replace h := H.f q3 h
  refine c_skip ?_
  refine c_seq ?_
  refine r_start ?_
  refine p 2 ?_
  refine xq rfl (y_load (.int .i64 a0.Region) 0 g0_0 0) ?_
  refine p 1 ?_
  refine xq rfl (y_load (.int .i64 a1.Region) 1 g0_1 0) ?_
  refine p 1 ?_
  obtain ⟨v6_6, hv6_6, h⟩ := H.call h
  refine xq rfl (y_call [.int .i64 (wr (a0.Region - a1.Region))] (.int .i64 v6_6) func234 (fun W S => C.s_l1Abs W hv6_6)) ?_
  refine p 2 ?_
  refine rend ?_
  replace h := H.done h
  subst h
  exact ret func200 rfl (vs := [.int .i64 (wr (v1_5 + v6_6))]) (.tmp (by kernel_rfl) .nil) rfl (fun W S => ⟨rfl, S.below⟩)
theorem C.s_feHand {fu : Nat} {a0 : Hand} {a1 : Hand} {r : Int} (w : World) (h : X.s_feHand fu a0 a1 = some r) : Calls prog 126 #[.agg (eHand a0).toArray, .agg (eHand a1).toArray] w (Ret w (.int .i64 r)) := by
  refine calls (M := no) (args := [.agg (eHand a0).toArray, .agg (eHand a1).toArray]) func126 rfl ?_
  replace h : H (X.s_feHand fu a0 a1) (fun o => o = r) := H.mk h
  unfold X.s_feHand at h
  refine c_seq ?_
  refine r_start ?_
  refine xx rfl (x_box (eHand a0) fun g0_0 => ?_)
  refine xx rfl (x_box (eHand a1) fun g0_1 => ?_)
  refine p 1 ?_
  refine rend ?_
  refine c_seq ?_
  refine as_start 20 20 ?_
  refine ap 0 1 ?_
  refine aq 1 rfl (y_load (.agg (eShape a0.Shape).toArray) 0 g0_0 0) ?_
  refine ap 2 1 ?_
  refine aq 3 rfl (y_load (.agg (eShape a1.Shape).toArray) 1 g0_1 0) ?_
  obtain ⟨v1_4, hv1_4, h⟩ := H.call h
  refine aq 4 rfl (y_call [.agg (eShape a0.Shape).toArray, .agg (eShape a1.Shape).toArray] (.int .i64 v1_4) func199 (fun W S => C.s_shFar W hv1_4)) ?_
  refine ap 5 1 ?_
  refine aq 6 rfl (y_load (.agg (ePlace a0.Place).toArray) 0 g0_0 8) ?_
  refine ap 7 1 ?_
  refine aq 8 rfl (y_load (.agg (ePlace a1.Place).toArray) 1 g0_1 8) ?_
  obtain ⟨v1_9, hv1_9, h⟩ := H.call h
  refine aq 9 rfl (y_call [.agg (ePlace a0.Place).toArray, .agg (ePlace a1.Place).toArray] (.int .i64 v1_9) func200 (fun W S => C.s_plFar W hv1_9)) ?_
  refine ap 10 2 ?_
  refine aq 12 rfl (y_load (.agg (eMove a0.Move).toArray) 0 g0_0 11) ?_
  obtain ⟨v1_13, hv1_13, h⟩ := H.call h
  refine aq 13 rfl (y_call [.agg (eMove a0.Move).toArray] (.string (bs v1_13)) func106 (fun W S => C.s_mvAll W hv1_13)) ?_
  refine ap 14 1 ?_
  refine aq 15 rfl (y_load (.agg (eMove a1.Move).toArray) 1 g0_1 11) ?_
  obtain ⟨v1_16, hv1_16, h⟩ := H.call h
  refine aq 16 rfl (y_call [.agg (eMove a1.Move).toArray] (.string (bs v1_16)) func106 (fun W S => C.s_mvAll W hv1_16)) ?_
  obtain ⟨v1_17, hv1_17, h⟩ := H.call h
  refine aq 17 rfl (y_call [.string (bs v1_13), .string (bs v1_16)] (.int .i64 v1_17) func130 (fun W S => C.s_feSteps W hv1_17)) ?_
  refine ap 18 2 ?_
  refine a_done ?_
  refine c_seq ?_
  refine c_seq ?_
  refine r_start ?_
  refine p 2 ?_
  refine xq rfl (y_load (.int .i64 a0.Orient.Palm) 0 g0_0 6) ?_
  refine p 2 ?_
  refine xq rfl (y_load (.int .i64 a1.Orient.Palm) 1 g0_1 6) ?_
  refine p 1 ?_
  refine rend ?_
  refine c_or (a0.Orient.Palm != a1.Orient.Palm) (fun q1 => ?_) (fun q1 => ?_)
  · replace h := H.t q1 h
    refine r_start ?_
    refine p 3 ?_
    refine rend ?_
    refine c_seq ?_
    refine c_seq ?_
    refine r_start ?_
    refine p 2 ?_
    refine xq rfl (y_load (.int .i64 a0.Orient.Fingers) 0 g0_0 7) ?_
    refine p 2 ?_
    refine xq rfl (y_load (.int .i64 a1.Orient.Fingers) 1 g0_1 7) ?_
    refine p 1 ?_
    refine rend ?_
    refine c_or (a0.Orient.Fingers != a1.Orient.Fingers) (fun q2 => ?_) (fun q2 => ?_)
    · replace h := H.t q2 h
      refine r_start ?_
      refine p 3 ?_
      refine rend ?_
      refine c_seq ?_
      refine r_start ?_
      refine p 2 ?_
      refine rend ?_
      replace h := H.done h
      subst h
      exact ret func126 rfl (vs := [.int .i64 (wr ((wr ((wr ((wr (v1_4 + v1_9)) + v1_17)) + 1)) + 1))]) (.tmp (by kernel_rfl) .nil) rfl (fun W S => ⟨rfl, S.below⟩)
    replace h := H.f q2 h
    refine c_skip ?_
    refine c_seq ?_
    refine r_start ?_
    refine p 2 ?_
    refine rend ?_
    replace h := H.done h
    subst h
    exact ret func126 rfl (vs := [.int .i64 (wr ((wr ((wr (v1_4 + v1_9)) + v1_17)) + 1))]) (.tmp (by kernel_rfl) .nil) rfl (fun W S => ⟨rfl, S.below⟩)
  replace h := H.f q1 h
  refine c_skip ?_
  refine c_seq ?_
  refine c_seq ?_
  refine r_start ?_
  refine p 2 ?_
  refine xq rfl (y_load (.int .i64 a0.Orient.Fingers) 0 g0_0 7) ?_
  refine p 2 ?_
  refine xq rfl (y_load (.int .i64 a1.Orient.Fingers) 1 g0_1 7) ?_
  refine p 1 ?_
  refine rend ?_
  refine c_or (a0.Orient.Fingers != a1.Orient.Fingers) (fun q3 => ?_) (fun q3 => ?_)
  · replace h := H.t q3 h
    refine r_start ?_
    refine p 3 ?_
    refine rend ?_
    refine c_seq ?_
    refine r_start ?_
    refine p 2 ?_
    refine rend ?_
    replace h := H.done h
    subst h
    exact ret func126 rfl (vs := [.int .i64 (wr ((wr ((wr (v1_4 + v1_9)) + v1_17)) + 1))]) (.tmp (by kernel_rfl) .nil) rfl (fun W S => ⟨rfl, S.below⟩)
  replace h := H.f q3 h
  refine c_skip ?_
  refine c_seq ?_
  refine r_start ?_
  refine p 2 ?_
  refine rend ?_
  replace h := H.done h
  subst h
  exact ret func126 rfl (vs := [.int .i64 (wr ((wr (v1_4 + v1_9)) + v1_17))]) (.tmp (by kernel_rfl) .nil) rfl (fun W S => ⟨rfl, S.below⟩)
theorem C.s_feFar {fu : Nat} {a0 : Sign} {a1 : Sign} {r : Int} (w : World) (h : X.s_feFar fu a0 a1 = some r) : Calls prog 120 #[.agg (eSign a0).toArray, .agg (eSign a1).toArray] w (Ret w (.int .i64 r)) := by
  refine calls (M := no) (args := [.agg (eSign a0).toArray, .agg (eSign a1).toArray]) func120 rfl ?_
  replace h : H (X.s_feFar fu a0 a1) (fun o => o = r) := H.mk h
  unfold X.s_feFar at h
  refine c_seq ?_
  refine r_start ?_
  refine xx rfl (x_box (eSign a0) fun g0_0 => ?_)
  refine xx rfl (x_box (eSign a1) fun g0_1 => ?_)
  refine p 1 ?_
  refine rend ?_
  refine c_seq ?_
  refine joinT (X := (Sign × Sign × Nat × Nat)) (H.bnd h) (fun ⟨s1, s2, g1_4, g1_5⟩ => (s1, s2)) (fun ⟨s1, s2, g1_4, g1_5⟩ => [box g0_0 37 (eSign a0), box g0_1 37 (eSign a1), box g1_4 37 (eSign s1), box g1_5 37 (eSign s2)]) (fun ⟨s1, s2, g1_4, g1_5⟩ u => (jk u 0 5 (.pointer (some ⟨g1_4, 0, none⟩) :: .pointer (some ⟨g1_5, 0, none⟩) :: (jk u 7 33 [])))) (fun h hj3 => ?_) ?_
  · skip
    refine as_start 8 8 ?_
    refine aq 0 rfl (y_load (.agg (eSign a0).toArray) 0 g0_0 0) ?_
    obtain ⟨v1_1, hv1_1, h⟩ := H.call h
    refine aq 1 rfl (y_call [.agg (eSign a0).toArray] (.agg (eSign v1_1).toArray) func117 (fun W S => C.s_noForm W hv1_1)) ?_
    refine aq 2 rfl (y_load (.agg (eSign a1).toArray) 1 g0_1 0) ?_
    obtain ⟨v1_3, hv1_3, h⟩ := H.call h
    refine aq 3 rfl (y_call [.agg (eSign a1).toArray] (.agg (eSign v1_3).toArray) func117 (fun W S => C.s_noForm W hv1_3)) ?_
    refine a_two 4 5 rfl rfl ?_ ?_
    · skip
      refine (x_new (eSign zSign) fun g1_4 => ⟨.inr (by kernel_rfl), ?_⟩)
      refine ax 5 rfl (x_new (eSign zSign) fun g1_5 => ⟨.inr (by kernel_rfl), ?_⟩)
      refine ax 6 rfl (x_sto 2 g1_4 0 (eSign v1_1) ⟨.inr (by kernel_rfl), ?_⟩)
      refine ax 7 rfl (x_sto 3 g1_5 0 (eSign v1_3) ⟨.inr (by kernel_rfl), ?_⟩)
      refine a_done ?_
      replace h := H.done h
      exact hj3 (v1_1, v1_3, g1_4, g1_5) _ _ h (by kernel_rfl) (by kernel_rfl)
    refine (x_new (eSign zSign) fun g1_5 => ⟨.inr (by kernel_rfl), ?_⟩)
    refine ax 4 rfl (x_new (eSign zSign) fun g1_4 => ⟨.inr (by kernel_rfl), ?_⟩)
    refine ax 6 rfl (x_sto 3 g1_4 0 (eSign v1_1) ⟨.inr (by kernel_rfl), ?_⟩)
    refine ax 7 rfl (x_sto 2 g1_5 0 (eSign v1_3) ⟨.inr (by kernel_rfl), ?_⟩)
    refine a_done ?_
    refine swp [box g0_0 37 (eSign a0), box g0_1 37 (eSign a1)] (box g1_5 37 (eSign v1_3)) (box g1_4 37 (eSign v1_1)) ?_
    replace h := H.done h
    exact hj3 (v1_1, v1_3, g1_4, g1_5) _ _ h (by kernel_rfl) (by kernel_rfl)
  intro x u h
  obtain ⟨s1, s2, g1_4, g1_5⟩ := x
  refine c_seq ?_
  refine r_start ?_
  refine p 1 ?_
  refine xq rfl (y_load (.agg (eHand s1.Main).toArray) 2 g1_4 0) ?_
  refine p 1 ?_
  refine xq rfl (y_load (.agg (eHand s2.Main).toArray) 3 g1_5 0) ?_
  obtain ⟨v2_4, hv2_4, h⟩ := H.call h
  refine xq rfl (y_call [.agg (eHand s1.Main).toArray, .agg (eHand s2.Main).toArray] (.int .i64 v2_4) func126 (fun W S => C.s_feHand W hv2_4)) ?_
  refine p 1 ?_
  refine rend ?_
  refine c_seq ?_
  refine c_block ?_
  refine c_seq ?_
  refine r_start ?_
  refine p 1 ?_
  refine xq rfl (y_load (.bool s1.Two) 2 g1_4 13) ?_
  refine p 1 ?_
  refine br s1.Two (fun q4 => ?_) (fun q4 => ?_)
  · replace h := H.t q4 h
    refine o_set 20 (congrArg Value.bool q4) ?_
    refine p 1 ?_
    refine xq rfl (y_load (.bool s2.Two) 3 g1_5 13) ?_
    refine p 2 ?_
    refine rend ?_
    refine c_or s2.Two (fun q5 => ?_) (fun q5 => ?_)
    · replace h := H.t q5 h
      refine c_seq ?_
      refine r_start ?_
      refine p 2 ?_
      refine xq rfl (y_load (.agg (eHand s1.Other).toArray) 2 g1_4 14) ?_
      refine p 1 ?_
      refine xq rfl (y_load (.agg (eHand s2.Other).toArray) 3 g1_5 14) ?_
      obtain ⟨v4_5, hv4_5, h⟩ := H.call h
      refine xq rfl (y_call [.agg (eHand s1.Other).toArray, .agg (eHand s2.Other).toArray] (.int .i64 v4_5) func126 (fun W S => C.s_feHand W hv4_5)) ?_
      refine p 2 ?_
      refine rend ?_
      replace h := H.done h
      subst h
      exact ret func120 rfl (vs := [.int .i64 (wr (v2_4 + v4_5))]) (.tmp (by kernel_rfl) .nil) rfl (fun W S => ⟨rfl, S.below⟩)
    replace h := H.f q5 h
    refine c_seq ?_
    refine r_start ?_
    refine p 1 ?_
    refine xq rfl (y_load (.bool s1.Two) 2 g1_4 13) ?_
    refine p 1 ?_
    refine xq rfl (y_load (.bool s2.Two) 3 g1_5 13) ?_
    refine p 2 ?_
    refine rend ?_
    refine c_or (!(s1.Two == s2.Two)) (fun q6 => ?_) (fun q6 => ?_)
    · replace h := H.t q6 h
      refine c_seq ?_
      refine r_start ?_
      refine p 3 ?_
      refine rend ?_
      replace h := H.done h
      subst h
      exact ret func120 rfl (vs := [.int .i64 (wr (v2_4 + 6))]) (.tmp (by kernel_rfl) .nil) rfl (fun W S => ⟨rfl, S.below⟩)
    replace h := H.f q6 h
    refine c_skip ?_
    refine c_inb ?_
    refine c_seq ?_
    refine r_start ?_
    refine p 2 ?_
    refine rend ?_
    replace h := H.done h
    subst h
    exact ret func120 rfl (vs := [.int .i64 v2_4]) (.tmp (by kernel_rfl) .nil) rfl (fun W S => ⟨rfl, S.below⟩)
  replace h := H.f q4 h
  refine o_set 20 (congrArg Value.bool q4) ?_
  refine p 4 ?_
  refine rend ?_
  refine c_f (by kernel_rfl) ?_
  refine c_seq ?_
  refine r_start ?_
  refine p 1 ?_
  refine xq rfl (y_load (.bool s1.Two) 2 g1_4 13) ?_
  refine p 1 ?_
  refine xq rfl (y_load (.bool s2.Two) 3 g1_5 13) ?_
  refine p 2 ?_
  refine rend ?_
  refine c_or (!(s1.Two == s2.Two)) (fun q7 => ?_) (fun q7 => ?_)
  · replace h := H.t q7 h
    refine c_seq ?_
    refine r_start ?_
    refine p 3 ?_
    refine rend ?_
    replace h := H.done h
    subst h
    exact ret func120 rfl (vs := [.int .i64 (wr (v2_4 + 6))]) (.tmp (by kernel_rfl) .nil) rfl (fun W S => ⟨rfl, S.below⟩)
  replace h := H.f q7 h
  refine c_skip ?_
  refine c_inb ?_
  refine c_seq ?_
  refine r_start ?_
  refine p 2 ?_
  refine rend ?_
  replace h := H.done h
  subst h
  exact ret func120 rfl (vs := [.int .i64 v2_4]) (.tmp (by kernel_rfl) .nil) rfl (fun W S => ⟨rfl, S.below⟩)
theorem C.s_SignDistance {fu : Nat} {a0 : Sign} {a1 : Sign} {r : (Int × Bool)} (w : World) (h : X.s_SignDistance fu a0 a1 = some r) : Calls prog 39 #[.agg (eSign a0).toArray, .agg (eSign a1).toArray] w (Ret w (.tuple #[.int .i64 r.1, .bool r.2])) := by
  refine calls (M := no) (args := [.agg (eSign a0).toArray, .agg (eSign a1).toArray]) func39 rfl ?_
  replace h : H (X.s_SignDistance fu a0 a1) (fun o => o = r) := H.mk h
  unfold X.s_SignDistance at h
  refine c_seq ?_
  refine r_start ?_
  refine xx rfl (x_box (eSign a0) fun g0_0 => ?_)
  refine xx rfl (x_box (eSign a1) fun g0_1 => ?_)
  refine p 2 ?_
  refine rend ?_
  refine c_seq ?_
  refine c_seq ?_
  refine r_start ?_
  refine xq rfl (y_load (.agg (eSign a0).toArray) 0 g0_0 0) ?_
  refine xq rfl (y_load (.agg (eSign a1).toArray) 1 g0_1 0) ?_
  obtain ⟨v1_2, hv1_2, h⟩ := H.call h
  refine xq rfl (y_call [.agg (eSign a0).toArray, .agg (eSign a1).toArray] (.bool v1_2) func119 (fun W S => C.s_feBoth W hv1_2)) ?_
  refine p 1 ?_
  refine rend ?_
  refine c_or (!v1_2) (fun q1 => ?_) (fun q1 => ?_)
  · replace h := H.t q1 h
    refine c_seq ?_
    refine r_start ?_
    refine p 2 ?_
    refine rend ?_
    replace h := H.done h
    subst h
    exact ret func39 rfl (vs := [.int .i64 0, .bool false]) (.tmp (by kernel_rfl) (.tmp (by kernel_rfl) .nil)) rfl (fun W S => ⟨rfl, S.below⟩)
  replace h := H.f q1 h
  refine c_skip ?_
  refine c_seq ?_
  refine r_start ?_
  refine xq rfl (y_load (.agg (eSign a0).toArray) 0 g0_0 0) ?_
  refine xq rfl (y_load (.agg (eSign a1).toArray) 1 g0_1 0) ?_
  obtain ⟨v3_2, hv3_2, h⟩ := H.call h
  refine xq rfl (y_call [.agg (eSign a0).toArray, .agg (eSign a1).toArray] (.int .i64 v3_2) func120 (fun W S => C.s_feFar W hv3_2)) ?_
  refine p 2 ?_
  refine rend ?_
  replace h := H.done h
  subst h
  exact ret func39 rfl (vs := [.int .i64 v3_2, .bool true]) (.tmp (by kernel_rfl) (.tmp (by kernel_rfl) .nil)) rfl (fun W S => ⟨rfl, S.below⟩)
end Go.Proofs.XC
