/- Contracts: each function, called where its plain function gives an answer, returns just that answer and changes nothing that was there. By AI agents; no person has read it. -/
import Derived.Test.YtjnablhfhdedfaaGreatDoorC1
set_option linter.unusedVariables false
set_option linter.unusedSimpArgs false
set_option maxRecDepth 100000
set_option maxHeartbeats 40000000
namespace Go.Proofs.XC
open Go Go.RowKit
open Tryz
theorem C.l_szConstraintS {a0 : (List Constraint)} {A0 : Option Addr} {k0 : Nat} {a1 : Int} {r : Int} (w : World) (h : X.l_szConstraintS a0 a1 = some r) (h0 : RdT nConstraint w (.slice A0 (List.length a0) k0) a0) : Calls prog 16 #[.slice A0 (List.length a0) k0, .int .i64 a1] w (Ret w (.int .i64 r)) := by
  refine calls (M := no) (args := [.slice A0 (List.length a0) k0, .int .i64 a1]) func16 rfl ?_
  replace h : H (X.l_szConstraintS a0 a1) (fun o => o = r) := H.mk h
  unfold X.l_szConstraintS at h
  refine c_seq ?_
  refine r_start ?_
  refine p 1 ?_
  refine rend ?_
  refine c_seq ?_
  refine r_start ?_
  refine p 5 ?_
  refine rend ?_
  refine c_seq ?_
  refine c_seq ?_
  refine r_start ?_
  refine p 2 ?_
  refine rend ?_
  refine c_or (decide ((wr (a1 - (List.length a0 : Int))) < 0)) (fun q1 => ?_) (fun q1 => ?_)
  · replace h := H.t q1 h
    refine c_seq ?_
    refine r_start ?_
    refine p 1 ?_
    refine rend ?_
    replace h := H.done h
    subst h
    exact ret func16 rfl (vs := [.int .i64 (-1)]) (.tmp (by kernel_rfl) .nil) rfl (fun W S => ⟨rfl, S.below⟩)
  replace h := H.f q1 h
  refine c_skip ?_
  refine c_seq ?_
  refine r_start ?_
  refine p 2 ?_
  refine rend ?_
  replace h := H.done h
  subst h
  exact ret func16 rfl (vs := [.int .i64 (wr (a1 - (List.length a0 : Int)))]) (.tmp (by kernel_rfl) .nil) rfl (fun W S => ⟨rfl, S.below⟩)
theorem C.s_ruAll {a0 : (List Constraint)} {A0 : Option Addr} {k0 : Nat} {r : Bool} (w : World) (h : X.s_ruAll a0 = some r) (h0 : RdT nConstraint w (.slice A0 (List.length a0) k0) a0) : Calls prog 76 #[.slice A0 (List.length a0) k0] w (Ret w (.bool r)) := by
  refine calls (M := no) (args := [.slice A0 (List.length a0) k0]) func76 rfl ?_
  replace h : H (X.s_ruAll a0) (fun o => o = r) := H.mk h
  unfold X.s_ruAll at h
  refine c_seq ?_
  refine r_start ?_
  refine p 1 ?_
  refine rend ?_
  refine c_seq ?_
  refine c_seq ?_
  refine r_start ?_
  refine p 3 ?_
  refine rend ?_
  refine c_block ?_
  refine joinE (X := Unit) 0 (H.or h) (fun (x : Unit) => x) (fun _ => []) (fun _ u => (.slice A0 (List.length a0) k0 :: (jk u 1 17 []))) (fun h hj1 => ?_) ?_
  · skip
    refine rangeR (X := Unit) (s_arg h0) (fun (x : Unit) => x) (fun _ => []) (fun (j2 : Nat) _ u => (.slice A0 (List.length a0) k0 :: (jk u 1 4 (.slice A0 (List.length a0) k0 :: .int .i64 (List.length a0 : Int) :: .int .i64 (j2 : Int) :: (jk u 8 10 []))))) () h (by kernel_rfl) (by kernel_rfl) ?_ ?_
    · intro j2 x u x3 q4 hg5 hw6 h
      refine c_seq ?_
      refine r_start ?_
      refine p 1 ?_
      refine rend ?_
      refine c_seq ?_
      refine c_yes q4 ?_
      refine c_skip ?_
      refine c_seq ?_
      refine c_block ?_
      refine c_seq ?_
      refine r_start ?_
      refine xq rfl (y_idx (e := nConstraint) (el := 94) hg5 (s_arg h0)) ?_
      refine xq rfl (y_el (e := nConstraint) 0 (.agg (eConstraint x3).toArray) hg5 (s_arg h0)) ?_
      refine xx rfl (x_new (eConstraint zConstraint) fun g3_2 => ?_)
      refine xx rfl (x_sto 0 g3_2 0 (eConstraint x3) ?_)
      refine rend ?_
      refine c_seq ?_
      refine r_start ?_
      refine xq rfl (y_load (.agg (eConstraint x3).toArray) 0 g3_2 0) ?_
      obtain ⟨v4_1, hv4_1, h⟩ := H.call h
      refine xq rfl (y_call [.agg (eConstraint x3).toArray] (.bool v4_1) func122 (fun W S => C.s_ruGood W hv4_1)) ?_
      refine p 1 ?_
      refine rend ?_
      refine c_or (!v4_1) (fun q7 => ?_) (fun q7 => ?_)
      · replace h := H.t q7 h
        refine c_seq ?_
        refine r_start ?_
        refine p 1 ?_
        refine rend ?_
        replace h := H.inr h
        replace h := H.done h
        subst h
        exact ret func76 rfl (vs := [.bool false]) (.tmp (by kernel_rfl) .nil) rfl (fun W S => ⟨rfl, S.below⟩)
      replace h := H.f q7 h
      refine c_skip ?_
      refine c_inb ?_
      refine r_start ?_
      refine p 2 ?_
      refine rend ?_
      refine c_set 7 (ci hw6) ?_
      replace h := H.inl h
      exact h () _ _ rfl (by kernel_rfl) (by kernel_rfl)
    · intro x u q4 h
      refine c_seq ?_
      refine r_start ?_
      refine p 1 ?_
      refine rend ?_
      refine c_seq ?_
      refine c_no q4 ?_
      refine cx ?_
      replace h := H.done h
      exact hj1 () _ _ h (by kernel_rfl) (by kernel_rfl)
  intro x u h
  refine c_seq ?_
  refine r_start ?_
  refine p 4 ?_
  refine rend ?_
  replace h := H.done h
  subst h
  exact ret func76 rfl (vs := [.bool (decide ((List.length a0 : Int) ≤ 10))]) (.tmp (by kernel_rfl) .nil) rfl (fun W S => ⟨rfl, S.below⟩)
theorem C.s_MostBroken {fu : Nat} {a0 : (List Sign)} {A0 : Option Addr} {k0 : Nat} {a1 : (List Constraint)} {A1 : Option Addr} {k1 : Nat} {r : (Int × Int × Bool)} (w : World) (h : X.s_MostBroken fu a0 a1 = some r) (h0 : RdT nSign w (.slice A0 (List.length a0) k0) a0) (h1 : RdT nConstraint w (.slice A1 (List.length a1) k1) a1) : Calls prog 17 #[.slice A0 (List.length a0) k0, .slice A1 (List.length a1) k1] w (Ret w (.tuple #[.int .i64 r.1, .int .i64 r.2.1, .bool r.2.2])) := by
  refine calls (M := no) (args := [.slice A0 (List.length a0) k0, .slice A1 (List.length a1) k1]) func17 rfl ?_
  replace h : H (X.s_MostBroken fu a0 a1) (fun o => o = r) := H.mk h
  unfold X.s_MostBroken at h
  refine c_seq ?_
  refine r_start ?_
  refine p 3 ?_
  refine rend ?_
  refine c_seq ?_
  refine c_seq ?_
  refine r_start ?_
  refine p 1 ?_
  obtain ⟨v1_1, hv1_1, h⟩ := H.call h
  refine xq rfl (y_call [.slice A0 (List.length a0) k0] (.bool v1_1) func75 (fun W S => C.s_paList W hv1_1 ((s_arg h0).out W S))) ?_
  refine p 2 ?_
  refine br (!v1_1) (fun q1 => ?_) (fun q1 => ?_)
  · replace h := H.t q1 h
    refine o_set 17 (congrArg Value.bool q1) ?_
    refine p 9 ?_
    refine rend ?_
    refine c_t (by kernel_rfl) ?_
    refine c_seq ?_
    refine r_start ?_
    refine p 3 ?_
    refine rend ?_
    replace h := H.done h
    subst h
    exact ret func17 rfl (vs := [.int .i64 0, .int .i64 0, .bool false]) (.tmp (by kernel_rfl) (.tmp (by kernel_rfl) (.tmp (by kernel_rfl) .nil))) rfl (fun W S => ⟨rfl, S.below⟩)
  replace h := H.f q1 h
  refine o_set 17 (congrArg Value.bool q1) ?_
  refine p 1 ?_
  obtain ⟨v1_5, hv1_5, h⟩ := H.call h
  refine xq rfl (y_call [.slice A1 (List.length a1) k1] (.bool v1_5) func76 (fun W S => C.s_ruAll W hv1_5 ((s_arg h1).out W S))) ?_
  refine p 3 ?_
  refine br (!v1_5) (fun q2 => ?_) (fun q2 => ?_)
  · replace h := H.t q2 h
    refine o_set 22 (congrArg Value.bool q2) ?_
    refine p 4 ?_
    refine rend ?_
    refine c_t (by kernel_rfl) ?_
    refine c_seq ?_
    refine r_start ?_
    refine p 3 ?_
    refine rend ?_
    replace h := H.done h
    subst h
    exact ret func17 rfl (vs := [.int .i64 0, .int .i64 0, .bool false]) (.tmp (by kernel_rfl) (.tmp (by kernel_rfl) (.tmp (by kernel_rfl) .nil))) rfl (fun W S => ⟨rfl, S.below⟩)
  replace h := H.f q2 h
  refine o_set 22 (congrArg Value.bool q2) ?_
  refine p 4 ?_
  refine rend ?_
  refine c_or ((List.length a1 : Int) == 0) (fun q3 => ?_) (fun q3 => ?_)
  · replace h := H.t q3 h
    refine c_seq ?_
    refine r_start ?_
    refine p 3 ?_
    refine rend ?_
    replace h := H.done h
    subst h
    exact ret func17 rfl (vs := [.int .i64 0, .int .i64 0, .bool false]) (.tmp (by kernel_rfl) (.tmp (by kernel_rfl) (.tmp (by kernel_rfl) .nil))) rfl (fun W S => ⟨rfl, S.below⟩)
  replace h := H.f q3 h
  refine c_skip ?_
  refine c_seq ?_
  refine r_start ?_
  refine p 2 ?_
  refine rend ?_
  refine c_seq ?_
  refine c_seq ?_
  refine r_start ?_
  refine p 3 ?_
  refine rend ?_
  refine c_block ?_
  refine joinH (X := (Int × Int)) 0 (H.bnd h) (fun (x : (Int × Int)) => x) (fun ⟨n6, n7⟩ => []) (fun ⟨n6, n7⟩ u => (jk u 0 7 (.int .i64 n6 :: .int .i64 n7 :: (jk u 9 46 [])))) (fun h hj8 => ?_) ?_
  · skip
    refine rangeR (X := (Int × Int)) (s_arg h1) (fun (x : (Int × Int)) => x) (fun ⟨n4, n5⟩ => []) (fun (j9 : Nat) ⟨n4, n5⟩ u => (.slice A0 (List.length a0) k0 :: (jk u 1 6 (.int .i64 n4 :: .int .i64 n5 :: (jk u 9 18 (.slice A1 (List.length a1) k1 :: .int .i64 (List.length a1 : Int) :: .int .i64 (j9 : Int) :: (jk u 30 25 []))))))) (0, (-1)) h (by kernel_rfl) (by kernel_rfl) ?_ ?_
    · intro j9 x u x10 q11 hg12 hw13 h
      obtain ⟨n4, n5⟩ := x
      refine c_seq ?_
      refine r_start ?_
      refine p 1 ?_
      refine rend ?_
      refine c_seq ?_
      refine c_yes q11 ?_
      refine c_skip ?_
      refine c_seq ?_
      refine c_block ?_
      refine c_seq ?_
      refine r_start ?_
      refine p 1 ?_
      refine xq rfl (y_idx (e := nConstraint) (el := 94) hg12 (s_arg h1)) ?_
      refine xq rfl (y_el (e := nConstraint) 0 (.agg (eConstraint x10).toArray) hg12 (s_arg h1)) ?_
      refine xx rfl (x_new (eConstraint zConstraint) fun g6_3 => ?_)
      refine p 1 ?_
      refine xx rfl (x_sto 0 g6_3 0 (eConstraint x10) ?_)
      refine rend ?_
      refine c_seq ?_
      refine r_start ?_
      refine p 1 ?_
      refine rend ?_
      refine c_seq ?_
      refine c_seq ?_
      refine r_start ?_
      refine p 3 ?_
      refine rend ?_
      refine c_block ?_
      refine joinH (X := Int) 2 (H.bnd h) (fun (x : Int) => x) (fun n15 => [box g6_3 94 (eConstraint x10)]) (fun n15 u => (.slice A0 (List.length a0) k0 :: (jk u 1 6 (.int .i64 n4 :: .int .i64 n5 :: .int .i64 (j9 : Int) :: (jk u 10 1 (.int .i64 n15 :: (jk u 12 15 (.slice A1 (List.length a1) k1 :: .int .i64 (List.length a1 : Int) :: .int .i64 (j9 : Int) :: (jk u 30 25 []))))))))) (fun h hj16 => ?_) ?_
      · skip
        refine rangeR (X := Int) (s_arg h0) (fun (x : Int) => x) (fun n14 => [box g6_3 94 (eConstraint x10)]) (fun (j17 : Nat) n14 u => (.slice A0 (List.length a0) k0 :: (jk u 1 6 (.int .i64 n4 :: .int .i64 n5 :: .int .i64 (j9 : Int) :: .pointer (some ⟨g6_3, 0, none⟩) :: .int .i64 n14 :: (jk u 12 15 (.slice A1 (List.length a1) k1 :: .int .i64 (List.length a1 : Int) :: .int .i64 (j9 : Int) :: (jk u 30 4 (.slice A0 (List.length a0) k0 :: .int .i64 (List.length a0 : Int) :: .int .i64 (j17 : Int) :: (jk u 37 18 []))))))))) 0 h (by kernel_rfl) (by kernel_rfl) ?_ ?_
        · intro j17 n14 u x18 q19 hg20 hw21 h
          refine c_seq ?_
          refine r_start ?_
          refine p 1 ?_
          refine rend ?_
          refine c_seq ?_
          refine c_yes q19 ?_
          refine c_skip ?_
          refine c_seq ?_
          refine c_block ?_
          refine c_seq ?_
          refine r_start ?_
          refine xq rfl (y_idx (e := nSign) (el := 62) hg20 (s_arg h0)) ?_
          refine xq rfl (y_el (e := nSign) 0 (.agg (eSign x18).toArray) hg20 (s_arg h0)) ?_
          refine xx rfl (x_new (eSign zSign) fun g10_2 => ?_)
          refine xx rfl (x_sto 1 g10_2 0 (eSign x18) ?_)
          refine rend ?_
          refine c_seq ?_
          refine r_start ?_
          refine xq rfl (y_load (.agg (eSign x18).toArray) 1 g10_2 0) ?_
          refine xq rfl (y_load (.agg (eConstraint x10).toArray) 0 g6_3 0) ?_
          obtain ⟨v11_2, hv11_2, h⟩ := H.call h
          refine xq rfl (y_call [.agg (eSign x18).toArray, .agg (eConstraint x10).toArray] (.bool v11_2) func77 (fun W S => C.s_ruKeeps W hv11_2)) ?_
          refine p 1 ?_
          refine rend ?_
          refine c_or (!v11_2) (fun q22 => ?_) (fun q22 => ?_)
          · replace h := H.t q22 h
            refine r_start ?_
            refine p 3 ?_
            refine rend ?_
            refine frg (fun u => (.slice A0 (List.length a0) k0 :: (jk u 1 6 (.int .i64 n4 :: .int .i64 n5 :: .int .i64 (j9 : Int) :: .pointer (some ⟨g6_3, 0, none⟩) :: .int .i64 (wr (n14 + 1)) :: (jk u 12 15 (.slice A1 (List.length a1) k1 :: .int .i64 (List.length a1 : Int) :: .int .i64 (j9 : Int) :: (jk u 30 4 (.slice A0 (List.length a0) k0 :: .int .i64 (List.length a0 : Int) :: .int .i64 (j17 : Int) :: (jk u 37 18 []))))))))) (by kernel_rfl) fun u => ?_
            refine keep 2 (its' := [box g6_3 94 (eConstraint x10), box g10_2 62 (eSign x18)]) (by kernel_rfl) ?_
            refine c_inb ?_
            refine r_start ?_
            refine p 2 ?_
            refine rend ?_
            refine c_set 36 (ci hw21) ?_
            replace h := H.inl h
            exact h (wr (n14 + 1)) _ _ rfl (by kernel_rfl) (by kernel_rfl)
          replace h := H.f q22 h
          refine c_skip ?_
          refine c_inb ?_
          refine r_start ?_
          refine p 2 ?_
          refine rend ?_
          refine c_set 36 (ci hw21) ?_
          replace h := H.inl h
          exact h n14 _ _ rfl (by kernel_rfl) (by kernel_rfl)
        · intro n14 u q19 h
          refine c_seq ?_
          refine r_start ?_
          refine p 1 ?_
          refine rend ?_
          refine c_seq ?_
          refine c_no q19 ?_
          refine cx ?_
          replace h := H.done h
          exact hj16 n14 _ _ h (by kernel_rfl) (by kernel_rfl)
      intro n15 u h
      refine c_seq ?_
      refine r_start ?_
      refine p 3 ?_
      refine rend ?_
      refine c_or (decide (n15 > n5)) (fun q23 => ?_) (fun q23 => ?_)
      · replace h := H.t q23 h
        refine c_seq ?_
        refine r_start ?_
        refine p 2 ?_
        refine rend ?_
        refine r_start ?_
        refine p 2 ?_
        refine rend ?_
        refine frg (fun u => (.slice A0 (List.length a0) k0 :: (jk u 1 6 (.int .i64 (j9 : Int) :: .int .i64 n15 :: (jk u 9 18 (.slice A1 (List.length a1) k1 :: .int .i64 (List.length a1 : Int) :: .int .i64 (j9 : Int) :: (jk u 30 25 []))))))) (by kernel_rfl) fun u => ?_
        refine keep 1 (its' := [box g6_3 94 (eConstraint x10)]) (by kernel_rfl) ?_
        refine c_inb ?_
        refine r_start ?_
        refine p 2 ?_
        refine rend ?_
        refine c_set 29 (ci hw13) ?_
        replace h := H.inl h
        exact h ((j9 : Int), n15) _ _ rfl (by kernel_rfl) (by kernel_rfl)
      replace h := H.f q23 h
      refine c_skip ?_
      refine c_inb ?_
      refine r_start ?_
      refine p 2 ?_
      refine rend ?_
      refine c_set 29 (ci hw13) ?_
      replace h := H.inl h
      exact h (n4, n5) _ _ rfl (by kernel_rfl) (by kernel_rfl)
    · intro x u q11 h
      obtain ⟨n4, n5⟩ := x
      refine c_seq ?_
      refine r_start ?_
      refine p 1 ?_
      refine rend ?_
      refine c_seq ?_
      refine c_no q11 ?_
      refine cx ?_
      replace h := H.done h
      exact hj8 (n4, n5) _ _ h (by kernel_rfl) (by kernel_rfl)
  intro x u h
  obtain ⟨n6, n7⟩ := x
  refine c_seq ?_
  refine r_start ?_
  refine p 5 ?_
  refine rend ?_
  replace h := H.done h
  subst h
  exact ret func17 rfl (vs := [.int .i64 n6, .int .i64 n7, .bool true]) (.tmp (by kernel_rfl) (.tmp (by kernel_rfl) (.tmp (by kernel_rfl) .nil))) rfl (fun W S => ⟨rfl, S.below⟩)
theorem C.l_toConstraintS {fu : Nat} {a0 : (List Constraint)} {A0 : Option Addr} {k0 : Nat} {r : (List Constraint)} (w : World) (h : X.l_toConstraintS fu a0 = some r) (h0 : RdT nConstraint w (.slice A0 (List.length a0) k0) a0) : Calls prog 19 #[.slice A0 (List.length a0) k0] w (RetR nConstraint 94 w r (fun v => v)) := by
  refine calls (M := no) (args := [.slice A0 (List.length a0) k0]) func19 rfl ?_
  replace h : H (X.l_toConstraintS fu a0) (fun o => o = r) := H.mk h
  unfold X.l_toConstraintS at h
  refine c_seq ?_
  refine r_start ?_
  refine p 1 ?_
  refine rend ?_
  refine c_seq ?_
  refine r_start ?_
  refine p 2 ?_
  obtain ⟨y1_2, hy1_2, h⟩ := H.call h
  refine xx rfl (e_make (el := 94) hy1_2 fun A1_2 k1_2 => ?_)
  refine p 1 ?_
  refine rend ?_
  refine c_seq ?_
  refine c_seq ?_
  refine r_start ?_
  refine p 1 ?_
  refine rend ?_
  refine c_block ?_
  refine joinH (X := ((List Constraint) × Option Addr × Nat)) 0 (H.bnd h) (fun ⟨l5, A6, k7⟩ => l5) (fun ⟨l5, A6, k7⟩ => [rowT nConstraint w.heap.size 94 (.slice A6 (List.length l5) k7) l5]) (fun ⟨l5, A6, k7⟩ u => (jk u 0 3 (.slice A6 (List.length l5) k7 :: (jk u 4 19 [])))) (fun h hj8 => ?_) ?_
  · skip
    refine loopR (X := (Int × (List Constraint) × Option Addr × Nat)) (fun ⟨n1, l2, A3, k4⟩ => (n1, l2)) (fun ⟨n1, l2, A3, k4⟩ => [rowT nConstraint w.heap.size 94 (.slice A3 (List.length l2) k4) l2]) (fun ⟨n1, l2, A3, k4⟩ u => (.slice A0 (List.length a0) k0 :: (jk u 1 2 (.slice A3 (List.length l2) k4 :: .int .i64 n1 :: (jk u 5 18 []))))) (0, y1_2, A1_2, k1_2) h (by kernel_rfl) (by kernel_rfl) ?_
    intro x u h
    obtain ⟨n1, l2, A3, k4⟩ := x
    refine c_seq ?_
    refine c_seq ?_
    refine r_start ?_
    refine p 4 ?_
    refine rend ?_
    refine c_or (decide (n1 < (List.length a0 : Int))) (fun q9 => ?_) (fun q9 => ?_)
    · replace h := H.t q9 h
      refine c_skip ?_
      refine c_seq ?_
      refine c_block ?_
      refine r_start ?_
      refine p 4 ?_
      obtain ⟨y5_4, hy5_4, h⟩ := H.call h
      refine xq rfl (y_idx (e := nConstraint) (el := 90) hy5_4 (s_arg h0)) ?_
      refine xq rfl (y_el (e := nConstraint) 0 (.agg (eConstraint y5_4).toArray) hy5_4 (s_arg h0)) ?_
      obtain ⟨v5_6, hv5_6, h⟩ := H.call h
      refine xq rfl (y_call [.agg (eConstraint y5_4).toArray] (.agg (eConstraint v5_6).toArray) func56 (fun W S => C.l_toConstraint W hv5_6)) ?_
      obtain ⟨y5_7, hy5_7, h⟩ := H.call h
      refine xq rfl (y_idx (e := nConstraint) (el := 94) hy5_7 (s_own 0)) ?_
      refine xx rfl (e_stel (e := nConstraint) (b := v5_6) 0 0 (eConstraint v5_6) hy5_7 (by kernel_rfl) ?_)
      refine o_set 3 (sl_set (A := A3) (c := k4) (l := l2) (n := Int.toNat n1) (b := v5_6)) ?_
      refine rend ?_
      refine c_inb ?_
      refine r_start ?_
      refine p 3 ?_
      refine rend ?_
      replace h := H.inl h
      exact h ((wr (n1 + 1)), (List.set l2 (Int.toNat n1) v5_6), A3, k4) _ _ rfl (by kernel_rfl) (by kernel_rfl)
    replace h := H.f q9 h
    refine cx ?_
    replace h := H.inr h
    exact hj8 (l2, A3, k4) _ _ h (by kernel_rfl) (by kernel_rfl)
  intro x u h
  obtain ⟨l5, A6, k7⟩ := x
  refine c_seq ?_
  refine r_start ?_
  refine p 2 ?_
  refine rend ?_
  replace h := H.done h
  subst h
  exact ret func19 rfl (vs := [.slice A6 (List.length l5) k7]) (.tmp (by kernel_rfl) .nil) rfl (fun W S => ⟨_, _, rfl, S.row 0, S.below⟩)
theorem C.slices_IndexFunc_i_Constraint_i_Constraint {a0 : (List Constraint)} {A0 : Option Addr} {k0 : Nat} {a1 : (Constraint → Option Bool)} {g1 : Nat} {cp1 : List Value} {r : Int} (w : World) (h : X.slices_IndexFunc_i_Constraint_i_Constraint a0 a1 = some r) (h0 : RdT nConstraint w (.slice A0 (List.length a0) k0) a0) (hg1 : isFn prog g1 = true) (hF1 : ∀ (x0 : Constraint) (r : Bool) (W : World), Up w W → a1 x0 = some r → Calls prog g1 (([.agg (eConstraint x0).toArray] : List Value) ++ cp1).toArray W (Ret W (.bool r))) : Calls prog 285 #[.slice A0 (List.length a0) k0, .func (.func g1) #[] cp1.toArray] w (Ret w (.int .i64 r)) := by
  refine calls (M := no) (args := [.slice A0 (List.length a0) k0, .func (.func g1) #[] cp1.toArray]) func285 rfl ?_
  replace h : H (X.slices_IndexFunc_i_Constraint_i_Constraint a0 a1) (fun o => o = r) := H.mk h
  unfold X.slices_IndexFunc_i_Constraint_i_Constraint at h
  refine c_seq ?_
  refine r_start ?_
  refine p 1 ?_
  refine rend ?_
  refine c_seq ?_
  refine c_seq ?_
  refine r_start ?_
  refine p 3 ?_
  refine rend ?_
  refine c_block ?_
  refine joinE (X := Unit) 0 (H.or h) (fun (x : Unit) => x) (fun _ => []) (fun _ u => (jk u 0 19 [])) (fun h hj1 => ?_) ?_
  · skip
    refine rangeR (X := Unit) (s_arg h0) (fun (x : Unit) => x) (fun _ => []) (fun (j2 : Nat) _ u => (.slice A0 (List.length a0) k0 :: .func (.func g1) #[] cp1.toArray :: (jk u 2 5 (.int .i64 (List.length a0 : Int) :: .int .i64 (j2 : Int) :: (jk u 9 10 []))))) () h (by kernel_rfl) (by kernel_rfl) ?_ ?_
    · intro j2 x u x3 q4 hg5 hw6 h
      refine c_seq ?_
      refine r_start ?_
      refine p 1 ?_
      refine rend ?_
      refine c_seq ?_
      refine c_yes q4 ?_
      refine c_skip ?_
      refine c_seq ?_
      refine c_block ?_
      refine c_seq ?_
      refine r_start ?_
      refine p 2 ?_
      refine rend ?_
      refine c_seq ?_
      refine r_start ?_
      refine p 3 ?_
      refine xq rfl (y_idx (e := nConstraint) (el := 94) hg5 (s_arg h0)) ?_
      refine xq rfl (y_el (e := nConstraint) 0 (.agg (eConstraint x3).toArray) hg5 (s_arg h0)) ?_
      obtain ⟨v4_5, hv4_5, h⟩ := H.call h
      refine xq rfl (y_cf cp1 [.agg (eConstraint x3).toArray] (.bool v4_5) hg1 (fun W S => hF1 _ _ W S.below hv4_5)) ?_
      refine rend ?_
      refine c_or v4_5 (fun q7 => ?_) (fun q7 => ?_)
      · replace h := H.t q7 h
        refine c_seq ?_
        refine r_start ?_
        refine p 2 ?_
        refine rend ?_
        replace h := H.inr h
        replace h := H.done h
        subst h
        exact ret func285 rfl (vs := [.int .i64 (j2 : Int)]) (.tmp (by kernel_rfl) .nil) rfl (fun W S => ⟨rfl, S.below⟩)
      replace h := H.f q7 h
      refine c_skip ?_
      refine c_inb ?_
      refine r_start ?_
      refine p 2 ?_
      refine rend ?_
      refine c_set 8 (ci hw6) ?_
      replace h := H.inl h
      exact h () _ _ rfl (by kernel_rfl) (by kernel_rfl)
    · intro x u q4 h
      refine c_seq ?_
      refine r_start ?_
      refine p 1 ?_
      refine rend ?_
      refine c_seq ?_
      refine c_no q4 ?_
      refine cx ?_
      replace h := H.done h
      exact hj1 () _ _ h (by kernel_rfl) (by kernel_rfl)
  intro x u h
  refine c_seq ?_
  refine r_start ?_
  refine p 1 ?_
  refine rend ?_
  replace h := H.done h
  subst h
  exact ret func285 rfl (vs := [.int .i64 (-1)]) (.tmp (by kernel_rfl) .nil) rfl (fun W S => ⟨rfl, S.below⟩)
theorem C.slices_ContainsFunc_i_Constraint_i_Constraint {a0 : (List Constraint)} {A0 : Option Addr} {k0 : Nat} {a1 : (Constraint → Option Bool)} {g1 : Nat} {cp1 : List Value} {r : Bool} (w : World) (h : X.slices_ContainsFunc_i_Constraint_i_Constraint a0 a1 = some r) (h0 : RdT nConstraint w (.slice A0 (List.length a0) k0) a0) (hg1 : isFn prog g1 = true) (hF1 : ∀ (x0 : Constraint) (r : Bool) (W : World), Up w W → a1 x0 = some r → Calls prog g1 (([.agg (eConstraint x0).toArray] : List Value) ++ cp1).toArray W (Ret W (.bool r))) : Calls prog 239 #[.slice A0 (List.length a0) k0, .func (.func g1) #[] cp1.toArray] w (Ret w (.bool r)) := by
  refine calls (M := no) (args := [.slice A0 (List.length a0) k0, .func (.func g1) #[] cp1.toArray]) func239 rfl ?_
  replace h : H (X.slices_ContainsFunc_i_Constraint_i_Constraint a0 a1) (fun o => o = r) := H.mk h
  unfold X.slices_ContainsFunc_i_Constraint_i_Constraint at h
  refine c_seq ?_
  refine r_start ?_
  refine p 1 ?_
  refine rend ?_
  refine c_seq ?_
  refine r_start ?_
  refine p 2 ?_
  obtain ⟨v1_2, hv1_2, h⟩ := H.call h
  refine xq rfl (y_call [.slice A0 (List.length a0) k0, .func (.func g1) #[] cp1.toArray] (.int .i64 v1_2) func285 (fun W S => C.slices_IndexFunc_i_Constraint_i_Constraint W hv1_2 ((s_arg h0).out W S) hg1 (fun x0_2 r W2 hu2 hx2 => hF1 x0_2 r W2 (Up.trans S.below hu2) hx2))) ?_
  refine p 2 ?_
  refine rend ?_
  replace h := H.done h
  subst h
  exact ret func239 rfl (vs := [.bool (decide (v1_2 ≥ 0))]) (.tmp (by kernel_rfl) .nil) rfl (fun W S => ⟨rfl, S.below⟩)
theorem C.i_allOf_i_Constraint_1 {a0 : Constraint} {a1 : (Constraint → Option Bool)} {g1 : Nat} {cp1 : List Value} {p1 : Nat} {r : Bool} (w : World) (h : X.i_allOf_i_Constraint_1 a1 a0 = some r) (hg1 : isFn prog g1 = true) (hF1 : ∀ (x0 : Constraint) (r : Bool) (W : World), Up w W → a1 x0 = some r → Calls prog g1 (([.agg (eConstraint x0).toArray] : List Value) ++ cp1).toArray W (Ret W (.bool r))) (hp1 : w.heap[p1]? = some (.cells ([.func (.func g1) #[] cp1.toArray] : List Value).toArray 160 (0, 0))) : Calls prog 240 #[.agg (eConstraint a0).toArray, .pointer (some ⟨p1, 0, none⟩)] w (Ret w (.bool r)) := by
  refine calls (M := no) (args := [.agg (eConstraint a0).toArray, .pointer (some ⟨p1, 0, none⟩)]) func240 rfl ?_
  replace h : H (X.i_allOf_i_Constraint_1 a1 a0) (fun o => o = r) := H.mk h
  unfold X.i_allOf_i_Constraint_1 at h
  refine c_seq ?_
  refine r_start ?_
  refine xx rfl (x_box (eConstraint a0) fun g0_0 => ?_)
  refine p 1 ?_
  refine rend ?_
  refine c_seq ?_
  refine r_start ?_
  refine xq rfl (y_ld0 (.func (.func g1) #[] cp1.toArray) p1 0 hp1) ?_
  refine xq rfl (y_load (.agg (eConstraint a0).toArray) 0 g0_0 0) ?_
  obtain ⟨v1_2, hv1_2, h⟩ := H.call h
  refine xq rfl (y_cf cp1 [.agg (eConstraint a0).toArray] (.bool v1_2) hg1 (fun W S => hF1 _ _ W S.below hv1_2)) ?_
  refine p 2 ?_
  refine rend ?_
  replace h := H.done h
  subst h
  exact ret func240 rfl (vs := [.bool (!v1_2)]) (.tmp (by kernel_rfl) .nil) rfl (fun W S => ⟨rfl, S.below⟩)
theorem C.i_allOf_i_Constraint {a0 : (List Constraint)} {A0 : Option Addr} {k0 : Nat} {a1 : (Constraint → Option Bool)} {g1 : Nat} {cp1 : List Value} {r : Bool} (w : World) (h : X.i_allOf_i_Constraint a0 a1 = some r) (h0 : RdT nConstraint w (.slice A0 (List.length a0) k0) a0) (hg1 : isFn prog g1 = true) (hF1 : ∀ (x0 : Constraint) (r : Bool) (W : World), Up w W → a1 x0 = some r → Calls prog g1 (([.agg (eConstraint x0).toArray] : List Value) ++ cp1).toArray W (Ret W (.bool r))) : Calls prog 157 #[.slice A0 (List.length a0) k0, .func (.func g1) #[] cp1.toArray] w (Ret w (.bool r)) := by
  refine calls (M := no) (args := [.slice A0 (List.length a0) k0, .func (.func g1) #[] cp1.toArray]) func157 rfl ?_
  replace h : H (X.i_allOf_i_Constraint a0 a1) (fun o => o = r) := H.mk h
  unfold X.i_allOf_i_Constraint at h
  refine c_seq ?_
  refine r_start ?_
  refine xx rfl (x_box [.func (.func g1) #[] cp1.toArray] fun g0_0 => ?_)
  refine p 1 ?_
  refine rend ?_
  refine c_seq ?_
  refine r_start ?_
  refine p 2 ?_
  obtain ⟨v1_2, hv1_2, h⟩ := H.call h
  refine xq rfl (y_call [.slice A0 (List.length a0) k0, .func (.func 240) #[] #[.pointer (some ⟨g0_0, 0, none⟩)]] (.bool v1_2) func239 (fun W S => C.slices_ContainsFunc_i_Constraint_i_Constraint W hv1_2 ((s_arg h0).out W S) (isFn_of func240) (fun x0_2 r W2 hu2 hx2 => C.i_allOf_i_Constraint_1 W2 hx2 hg1 (fun x0_3 r W3 hu3 hx3 => hF1 x0_3 r W3 (Up.trans (Up.trans S.below hu2) hu3) hx3) (bx_up (S.bx 0) hu2)))) ?_
  refine p 2 ?_
  refine rend ?_
  replace h := H.done h
  subst h
  exact ret func157 rfl (vs := [.bool (!v1_2)]) (.tmp (by kernel_rfl) .nil) rfl (fun W S => ⟨rfl, S.below⟩)
theorem C.i_areConstraints {a0 : (List Constraint)} {A0 : Option Addr} {k0 : Nat} {r : Bool} (w : World) (h : X.i_areConstraints a0 = some r) (h0 : RdT nConstraint w (.slice A0 (List.length a0) k0) a0) : Calls prog 79 #[.slice A0 (List.length a0) k0] w (Ret w (.bool r)) := by
  refine calls (M := no) (args := [.slice A0 (List.length a0) k0]) func79 rfl ?_
  replace h : H (X.i_areConstraints a0) (fun o => o = r) := H.mk h
  unfold X.i_areConstraints at h
  refine c_seq ?_
  refine r_start ?_
  refine p 1 ?_
  refine rend ?_
  refine c_seq ?_
  refine r_start ?_
  refine p 4 ?_
  refine br (decide ((List.length a0 : Int) ≤ 10)) (fun q1 => ?_) (fun q1 => ?_)
  · replace h := H.t q1 h
    refine o_set 6 (congrArg Value.bool q1) ?_
    refine p 1 ?_
    obtain ⟨v1_5, hv1_5, h⟩ := H.call h
    refine xq rfl (y_call [.slice A0 (List.length a0) k0, .func (.func 123) #[] #[]] (.bool v1_5) func157 (fun W S => C.i_allOf_i_Constraint W hv1_5 ((s_arg h0).out W S) (isFn_of func123) (fun x0_2 r W2 hu2 hx2 => C.i_IsConstraint W2 hx2))) ?_
    refine p 2 ?_
    refine rend ?_
    replace h := H.done h
    subst h
    exact ret func79 rfl (vs := [.bool v1_5]) (.tmp (by kernel_rfl) .nil) rfl (fun W S => ⟨rfl, S.below⟩)
  replace h := H.f q1 h
  refine o_set 6 (congrArg Value.bool q1) ?_
  refine p 4 ?_
  refine rend ?_
  replace h := H.done h
  subst h
  exact ret func79 rfl (vs := [.bool false]) (.tmp (by kernel_rfl) .nil) rfl (fun W S => ⟨rfl, S.below⟩)
theorem C.i_MostBroken {fu : Nat} {a0 : (List Sign)} {A0 : Option Addr} {k0 : Nat} {a1 : (List Constraint)} {A1 : Option Addr} {k1 : Nat} {r : (Int × Int × Bool)} (w : World) (h : X.i_MostBroken fu a0 a1 = some r) (h0 : RdT nSign w (.slice A0 (List.length a0) k0) a0) (h1 : RdT nConstraint w (.slice A1 (List.length a1) k1) a1) : Calls prog 20 #[.slice A0 (List.length a0) k0, .slice A1 (List.length a1) k1] w (Ret w (.tuple #[.int .i64 r.1, .int .i64 r.2.1, .bool r.2.2])) := by
  refine calls (M := no) (args := [.slice A0 (List.length a0) k0, .slice A1 (List.length a1) k1]) func20 rfl ?_
  replace h : H (X.i_MostBroken fu a0 a1) (fun o => o = r) := H.mk h
  unfold X.i_MostBroken at h
  refine c_seq ?_
  refine r_start ?_
  refine p 3 ?_
  refine rend ?_
  refine c_seq ?_
  refine c_seq ?_
  refine r_start ?_
  refine p 4 ?_
  refine br ((List.length a1 : Int) == 0) (fun q1 => ?_) (fun q1 => ?_)
  · replace h := H.t q1 h
    refine o_set 16 (congrArg Value.bool q1) ?_
    refine p 9 ?_
    refine rend ?_
    refine c_t (by kernel_rfl) ?_
    refine c_seq ?_
    refine r_start ?_
    refine p 3 ?_
    refine rend ?_
    replace h := H.done h
    subst h
    exact ret func20 rfl (vs := [.int .i64 0, .int .i64 0, .bool false]) (.tmp (by kernel_rfl) (.tmp (by kernel_rfl) (.tmp (by kernel_rfl) .nil))) rfl (fun W S => ⟨rfl, S.below⟩)
  replace h := H.f q1 h
  refine o_set 16 (congrArg Value.bool q1) ?_
  refine p 1 ?_
  obtain ⟨v1_5, hv1_5, h⟩ := H.call h
  refine xq rfl (y_call [.slice A0 (List.length a0) k0, .int .i64 20] (.bool v1_5) func78 (fun W S => C.i_areSigns W hv1_5 ((s_arg h0).out W S))) ?_
  refine p 3 ?_
  refine br (!v1_5) (fun q2 => ?_) (fun q2 => ?_)
  · replace h := H.t q2 h
    refine o_set 21 (congrArg Value.bool q2) ?_
    refine p 4 ?_
    refine rend ?_
    refine c_t (by kernel_rfl) ?_
    refine c_seq ?_
    refine r_start ?_
    refine p 3 ?_
    refine rend ?_
    replace h := H.done h
    subst h
    exact ret func20 rfl (vs := [.int .i64 0, .int .i64 0, .bool false]) (.tmp (by kernel_rfl) (.tmp (by kernel_rfl) (.tmp (by kernel_rfl) .nil))) rfl (fun W S => ⟨rfl, S.below⟩)
  replace h := H.f q2 h
  refine o_set 21 (congrArg Value.bool q2) ?_
  refine p 1 ?_
  obtain ⟨v1_10, hv1_10, h⟩ := H.call h
  refine xq rfl (y_call [.slice A1 (List.length a1) k1] (.bool v1_10) func79 (fun W S => C.i_areConstraints W hv1_10 ((s_arg h1).out W S))) ?_
  refine p 2 ?_
  refine rend ?_
  refine c_or (!v1_10) (fun q3 => ?_) (fun q3 => ?_)
  · replace h := H.t q3 h
    refine c_seq ?_
    refine r_start ?_
    refine p 3 ?_
    refine rend ?_
    replace h := H.done h
    subst h
    exact ret func20 rfl (vs := [.int .i64 0, .int .i64 0, .bool false]) (.tmp (by kernel_rfl) (.tmp (by kernel_rfl) (.tmp (by kernel_rfl) .nil))) rfl (fun W S => ⟨rfl, S.below⟩)
  replace h := H.f q3 h
  refine c_skip ?_
  refine c_seq ?_
  refine r_start ?_
  refine p 2 ?_
  refine rend ?_
  refine c_seq ?_
  refine c_seq ?_
  refine r_start ?_
  refine p 3 ?_
  refine rend ?_
  refine c_block ?_
  refine joinH (X := (Int × Int)) 0 (H.bnd h) (fun (x : (Int × Int)) => x) (fun ⟨n6, n7⟩ => []) (fun ⟨n6, n7⟩ u => (jk u 0 7 (.int .i64 n6 :: .int .i64 n7 :: (jk u 9 40 [])))) (fun h hj8 => ?_) ?_
  · skip
    refine rangeR (X := (Int × Int)) (s_arg h1) (fun (x : (Int × Int)) => x) (fun ⟨n4, n5⟩ => []) (fun (j9 : Nat) ⟨n4, n5⟩ u => (.slice A0 (List.length a0) k0 :: (jk u 1 6 (.int .i64 n4 :: .int .i64 n5 :: (jk u 9 17 (.slice A1 (List.length a1) k1 :: .int .i64 (List.length a1 : Int) :: .int .i64 (j9 : Int) :: (jk u 29 20 []))))))) (0, (-1)) h (by kernel_rfl) (by kernel_rfl) ?_ ?_
    · intro j9 x u x10 q11 hg12 hw13 h
      obtain ⟨n4, n5⟩ := x
      refine c_seq ?_
      refine r_start ?_
      refine p 1 ?_
      refine rend ?_
      refine c_seq ?_
      refine c_yes q11 ?_
      refine c_skip ?_
      refine c_seq ?_
      refine c_block ?_
      refine c_seq ?_
      refine r_start ?_
      refine p 1 ?_
      refine xq rfl (y_idx (e := nConstraint) (el := 94) hg12 (s_arg h1)) ?_
      refine xq rfl (y_el (e := nConstraint) 0 (.agg (eConstraint x10).toArray) hg12 (s_arg h1)) ?_
      refine xx rfl (x_new (eConstraint zConstraint) fun g6_3 => ?_)
      refine p 1 ?_
      refine xx rfl (x_sto 0 g6_3 0 (eConstraint x10) ?_)
      refine rend ?_
      refine c_seq ?_
      refine r_start ?_
      refine p 1 ?_
      refine xq rfl (y_load (.agg (eConstraint x10).toArray) 0 g6_3 0) ?_
      obtain ⟨v7_2, hv7_2, h⟩ := H.call h
      refine xx rfl (e_cr [.slice A0 (List.length a0) k0, .agg (eConstraint x10).toArray] (fun v => .tuple #[v, .bool v7_2.2]) func57 (fun W S => C.i_BreakersOf W hv7_2 ((s_arg h0).out W S)) fun A7_2 k7_2 => ?_)
      refine p 5 ?_
      refine rend ?_
      refine c_seq ?_
      refine r_start ?_
      refine p 4 ?_
      refine rend ?_
      refine c_or (decide ((List.length v7_2.1 : Int) > n5)) (fun q14 => ?_) (fun q14 => ?_)
      · replace h := H.t q14 h
        refine r_start ?_
        refine p 5 ?_
        refine rend ?_
        refine c_inb ?_
        refine r_start ?_
        refine p 2 ?_
        refine rend ?_
        refine c_set 28 (ci hw13) ?_
        replace h := H.inl h
        exact h ((j9 : Int), (List.length v7_2.1 : Int)) _ _ rfl (by kernel_rfl) (by kernel_rfl)
      replace h := H.f q14 h
      refine c_skip ?_
      refine c_inb ?_
      refine r_start ?_
      refine p 2 ?_
      refine rend ?_
      refine c_set 28 (ci hw13) ?_
      replace h := H.inl h
      exact h (n4, n5) _ _ rfl (by kernel_rfl) (by kernel_rfl)
    · intro x u q11 h
      obtain ⟨n4, n5⟩ := x
      refine c_seq ?_
      refine r_start ?_
      refine p 1 ?_
      refine rend ?_
      refine c_seq ?_
      refine c_no q11 ?_
      refine cx ?_
      replace h := H.done h
      exact hj8 (n4, n5) _ _ h (by kernel_rfl) (by kernel_rfl)
  intro x u h
  obtain ⟨n6, n7⟩ := x
  refine c_seq ?_
  refine r_start ?_
  refine p 5 ?_
  refine rend ?_
  replace h := H.done h
  subst h
  exact ret func20 rfl (vs := [.int .i64 n6, .int .i64 n7, .bool true]) (.tmp (by kernel_rfl) (.tmp (by kernel_rfl) (.tmp (by kernel_rfl) .nil))) rfl (fun W S => ⟨rfl, S.below⟩)
theorem C.l_eqConstraint {a0 : Constraint} {a1 : Constraint} {r : Bool} (w : World) (h : X.l_eqConstraint a0 a1 = some r) : Calls prog 80 #[.agg (eConstraint a0).toArray, .agg (eConstraint a1).toArray] w (Ret w (.bool r)) := by
  refine calls (M := no) (args := [.agg (eConstraint a0).toArray, .agg (eConstraint a1).toArray]) func80 rfl ?_
  replace h : H (X.l_eqConstraint a0 a1) (fun o => o = r) := H.mk h
  unfold X.l_eqConstraint at h
  refine c_seq ?_
  refine r_start ?_
  refine xx rfl (x_box (eConstraint a0) fun g0_0 => ?_)
  refine xx rfl (x_box (eConstraint a1) fun g0_1 => ?_)
  refine p 1 ?_
  refine rend ?_
  refine c_seq ?_
  refine c_seq ?_
  refine r_start ?_
  refine p 1 ?_
  refine xq rfl (y_load (.int .i64 a0.Kind) 0 g0_0 0) ?_
  refine p 1 ?_
  refine xq rfl (y_load (.int .i64 a1.Kind) 1 g0_1 0) ?_
  refine p 1 ?_
  refine rend ?_
  refine c_or (a0.Kind != a1.Kind) (fun q1 => ?_) (fun q1 => ?_)
  · replace h := H.t q1 h
    refine c_seq ?_
    refine r_start ?_
    refine p 1 ?_
    refine rend ?_
    replace h := H.done h
    subst h
    exact ret func80 rfl (vs := [.bool false]) (.tmp (by kernel_rfl) .nil) rfl (fun W S => ⟨rfl, S.below⟩)
  replace h := H.f q1 h
  refine c_skip ?_
  refine c_seq ?_
  refine c_seq ?_
  refine r_start ?_
  refine p 1 ?_
  refine xq rfl (y_load (.int .i64 a0.Value) 0 g0_0 1) ?_
  refine p 1 ?_
  refine xq rfl (y_load (.int .i64 a1.Value) 1 g0_1 1) ?_
  refine p 1 ?_
  refine rend ?_
  refine c_or (a0.Value != a1.Value) (fun q2 => ?_) (fun q2 => ?_)
  · replace h := H.t q2 h
    refine c_seq ?_
    refine r_start ?_
    refine p 1 ?_
    refine rend ?_
    replace h := H.done h
    subst h
    exact ret func80 rfl (vs := [.bool false]) (.tmp (by kernel_rfl) .nil) rfl (fun W S => ⟨rfl, S.below⟩)
  replace h := H.f q2 h
  refine c_skip ?_
  refine c_seq ?_
  refine r_start ?_
  refine p 1 ?_
  refine rend ?_
  replace h := H.done h
  subst h
  exact ret func80 rfl (vs := [.bool true]) (.tmp (by kernel_rfl) .nil) rfl (fun W S => ⟨rfl, S.below⟩)
theorem C.l_eqConstraintS {fu : Nat} {a0 : (List Constraint)} {A0 : Option Addr} {k0 : Nat} {a1 : (List Constraint)} {A1 : Option Addr} {k1 : Nat} {r : Bool} (w : World) (h : X.l_eqConstraintS fu a0 a1 = some r) (h0 : RdT nConstraint w (.slice A0 (List.length a0) k0) a0) (h1 : RdT nConstraint w (.slice A1 (List.length a1) k1) a1) : Calls prog 22 #[.slice A0 (List.length a0) k0, .slice A1 (List.length a1) k1] w (Ret w (.bool r)) := by
  refine calls (M := no) (args := [.slice A0 (List.length a0) k0, .slice A1 (List.length a1) k1]) func22 rfl ?_
  replace h : H (X.l_eqConstraintS fu a0 a1) (fun o => o = r) := H.mk h
  unfold X.l_eqConstraintS at h
  refine c_seq ?_
  refine r_start ?_
  refine p 1 ?_
  refine rend ?_
  refine c_seq ?_
  refine c_seq ?_
  refine r_start ?_
  refine p 5 ?_
  refine rend ?_
  refine c_or ((List.length a0 : Int) != (List.length a1 : Int)) (fun q1 => ?_) (fun q1 => ?_)
  · replace h := H.t q1 h
    refine c_seq ?_
    refine r_start ?_
    refine p 1 ?_
    refine rend ?_
    replace h := H.done h
    subst h
    exact ret func22 rfl (vs := [.bool false]) (.tmp (by kernel_rfl) .nil) rfl (fun W S => ⟨rfl, S.below⟩)
  replace h := H.f q1 h
  refine c_skip ?_
  refine c_seq ?_
  refine c_seq ?_
  refine r_start ?_
  refine p 1 ?_
  refine rend ?_
  refine c_block ?_
  refine joinE (X := Unit) 0 (H.or h) (fun (x : Unit) => x) (fun _ => []) (fun _ u => (jk u 0 27 [])) (fun h hj3 => ?_) ?_
  · skip
    refine loopR (X := Int) (fun (x : Int) => x) (fun n2 => []) (fun n2 u => (.slice A0 (List.length a0) k0 :: .slice A1 (List.length a1) k1 :: (jk u 2 3 (.int .i64 n2 :: (jk u 6 21 []))))) 0 h (by kernel_rfl) (by kernel_rfl) ?_
    intro n2 u h
    refine c_seq ?_
    refine c_seq ?_
    refine r_start ?_
    refine p 4 ?_
    refine rend ?_
    refine c_or (decide (n2 < (List.length a0 : Int))) (fun q4 => ?_) (fun q4 => ?_)
    · replace h := H.t q4 h
      refine c_skip ?_
      refine c_seq ?_
      refine c_block ?_
      refine c_seq ?_
      refine as_start 10 10 ?_
      refine ap 0 2 ?_
      obtain ⟨y6_2, hy6_2, h⟩ := H.call h
      refine aq 2 rfl (y_idx (e := nConstraint) (el := 94) hy6_2 (s_arg h0)) ?_
      refine aq 3 rfl (y_el (e := nConstraint) 0 (.agg (eConstraint y6_2).toArray) hy6_2 (s_arg h0)) ?_
      refine ap 4 2 ?_
      obtain ⟨y6_6, hy6_6, h⟩ := H.call h
      refine aq 6 rfl (y_idx (e := nConstraint) (el := 94) hy6_6 (s_arg h1)) ?_
      refine aq 7 rfl (y_el (e := nConstraint) 0 (.agg (eConstraint y6_6).toArray) hy6_6 (s_arg h1)) ?_
      obtain ⟨v6_8, hv6_8, h⟩ := H.call h
      refine aq 8 rfl (y_call [.agg (eConstraint y6_2).toArray, .agg (eConstraint y6_6).toArray] (.bool v6_8) func80 (fun W S => C.l_eqConstraint W hv6_8)) ?_
      refine ap 9 1 ?_
      refine a_done ?_
      refine c_or (!v6_8) (fun q5 => ?_) (fun q5 => ?_)
      · replace h := H.t q5 h
        refine c_seq ?_
        refine r_start ?_
        refine p 1 ?_
        refine rend ?_
        replace h := H.inr h
        replace h := H.done h
        subst h
        exact ret func22 rfl (vs := [.bool false]) (.tmp (by kernel_rfl) .nil) rfl (fun W S => ⟨rfl, S.below⟩)
      replace h := H.f q5 h
      refine c_skip ?_
      refine c_inb ?_
      refine r_start ?_
      refine p 3 ?_
      refine rend ?_
      replace h := H.inl h
      exact h (wr (n2 + 1)) _ _ rfl (by kernel_rfl) (by kernel_rfl)
    replace h := H.f q4 h
    refine cx ?_
    replace h := H.inr h
    exact hj3 () _ _ h (by kernel_rfl) (by kernel_rfl)
  intro x u h
  refine c_seq ?_
  refine r_start ?_
  refine p 1 ?_
  refine rend ?_
  replace h := H.done h
  subst h
  exact ret func22 rfl (vs := [.bool true]) (.tmp (by kernel_rfl) .nil) rfl (fun W S => ⟨rfl, S.below⟩)
theorem C.l_FnExactMostBroken {fu : Nat} {a0 : (List Sign)} {A0 : Option Addr} {k0 : Nat} {a1 : (List Constraint)} {A1 : Option Addr} {k1 : Nat} {r : Bool} (w : World) (h : X.l_FnExactMostBroken fu a0 a1 = some r) (h0 : RdT nSign w (.slice A0 (List.length a0) k0) a0) (h1 : RdT nConstraint w (.slice A1 (List.length a1) k1) a1) : Calls prog 3 #[.slice A0 (List.length a0) k0, .slice A1 (List.length a1) k1] w (Ret w (.bool r)) := by
  refine calls (M := no) (args := [.slice A0 (List.length a0) k0, .slice A1 (List.length a1) k1]) func3 rfl ?_
  replace h : H (X.l_FnExactMostBroken fu a0 a1) (fun o => o = r) := H.mk h
  unfold X.l_FnExactMostBroken at h
  refine c_seq ?_
  refine r_start ?_
  refine p 1 ?_
  refine rend ?_
  refine c_seq ?_
  refine r_start ?_
  refine p 1 ?_
  refine rend ?_
  refine c_seq ?_
  refine r_start ?_
  refine p 2 ?_
  obtain ⟨v2_2, hv2_2, h⟩ := H.call h
  refine xq rfl (y_call [.slice A0 (List.length a0) k0, .int .i64 1048576] (.int .i64 v2_2) func15 (fun W S => C.l_szSignS W hv2_2 ((s_arg h0).out W S))) ?_
  refine p 1 ?_
  refine rend ?_
  refine c_seq ?_
  refine c_seq ?_
  refine r_start ?_
  refine p 2 ?_
  refine rend ?_
  refine c_or (decide (v2_2 < 0)) (fun q1 => ?_) (fun q1 => ?_)
  · replace h := H.t q1 h
    refine c_seq ?_
    refine r_start ?_
    refine p 1 ?_
    refine rend ?_
    replace h := H.done h
    subst h
    exact ret func3 rfl (vs := [.bool true]) (.tmp (by kernel_rfl) .nil) rfl (fun W S => ⟨rfl, S.below⟩)
  replace h := H.f q1 h
  refine c_skip ?_
  refine c_seq ?_
  refine r_start ?_
  refine p 2 ?_
  obtain ⟨v5_2, hv5_2, h⟩ := H.call h
  refine xq rfl (y_call [.slice A1 (List.length a1) k1, .int .i64 v2_2] (.int .i64 v5_2) func16 (fun W S => C.l_szConstraintS W hv5_2 ((s_arg h1).out W S))) ?_
  refine p 1 ?_
  refine rend ?_
  refine c_seq ?_
  refine c_seq ?_
  refine r_start ?_
  refine p 2 ?_
  refine rend ?_
  refine c_or (decide (v5_2 < 0)) (fun q2 => ?_) (fun q2 => ?_)
  · replace h := H.t q2 h
    refine c_seq ?_
    refine r_start ?_
    refine p 1 ?_
    refine rend ?_
    replace h := H.done h
    subst h
    exact ret func3 rfl (vs := [.bool true]) (.tmp (by kernel_rfl) .nil) rfl (fun W S => ⟨rfl, S.below⟩)
  replace h := H.f q2 h
  refine c_skip ?_
  refine c_seq ?_
  refine r_start ?_
  refine p 1 ?_
  obtain ⟨v8_1, hv8_1, h⟩ := H.call h
  refine xx rfl (e_cr [.slice A0 (List.length a0) k0] (fun v => v) func18 (fun W S => C.l_toSignS W hv8_1 ((s_arg h0).out W S)) fun A8_1 k8_1 => ?_)
  refine p 1 ?_
  obtain ⟨v8_3, hv8_3, h⟩ := H.call h
  refine xx rfl (e_cr [.slice A1 (List.length a1) k1] (fun v => v) func19 (fun W S => C.l_toConstraintS W hv8_3 ((s_arg h1).out W S)) fun A8_3 k8_3 => ?_)
  obtain ⟨v8_4, hv8_4, h⟩ := H.call h
  refine xq rfl (y_call [.slice A8_1 (List.length v8_1) k8_1, .slice A8_3 (List.length v8_3) k8_3] (.tuple #[.int .i64 v8_4.1, .int .i64 v8_4.2.1, .bool v8_4.2.2]) func17 (fun W S => C.s_MostBroken W hv8_4 ((s_own 0).out W S) ((s_own 1).out W S))) ?_
  refine p 7 ?_
  refine rend ?_
  refine c_seq ?_
  refine r_start ?_
  refine p 1 ?_
  obtain ⟨v9_1, hv9_1, h⟩ := H.call h
  refine xx rfl (e_cr [.slice A0 (List.length a0) k0] (fun v => v) func18 (fun W S => C.l_toSignS W hv9_1 ((s_arg h0).out W S)) fun A9_1 k9_1 => ?_)
  refine p 1 ?_
  refine rend ?_
  refine c_seq ?_
  refine r_start ?_
  refine p 1 ?_
  obtain ⟨v10_1, hv10_1, h⟩ := H.call h
  refine xx rfl (e_cr [.slice A1 (List.length a1) k1] (fun v => v) func19 (fun W S => C.l_toConstraintS W hv10_1 ((s_arg h1).out W S)) fun A10_1 k10_1 => ?_)
  refine p 1 ?_
  refine rend ?_
  refine c_seq ?_
  refine r_start ?_
  refine p 2 ?_
  obtain ⟨v11_2, hv11_2, h⟩ := H.call h
  refine xq rfl (y_call [.slice A9_1 (List.length v9_1) k9_1, .slice A10_1 (List.length v10_1) k10_1] (.tuple #[.int .i64 v11_2.1, .int .i64 v11_2.2.1, .bool v11_2.2.2]) func20 (fun W S => C.i_MostBroken W hv11_2 ((s_own 2).out W S) ((s_own 3).out W S))) ?_
  refine p 7 ?_
  refine rend ?_
  refine c_seq ?_
  refine c_seq ?_
  refine r_start ?_
  refine p 4 ?_
  refine br (v11_2.1 != v8_4.1) (fun q3 => ?_) (fun q3 => ?_)
  · replace h := H.t q3 h
    refine o_set 47 (congrArg Value.bool q3) ?_
    refine p 9 ?_
    refine rend ?_
    refine c_t (by kernel_rfl) ?_
    refine c_seq ?_
    refine r_start ?_
    refine p 1 ?_
    refine rend ?_
    refine frg (fun u => (jk u 0 4 (.bool false :: (jk u 5 62 [])))) (by kernel_rfl) fun u => ?_
    refine keep 4 (its' := [rowT nSign w.heap.size 62 (.slice A8_1 (List.length v8_1) k8_1) v8_1, rowT nConstraint w.heap.size 94 (.slice A8_3 (List.length v8_3) k8_3) v8_3, rowT nSign w.heap.size 62 (.slice A9_1 (List.length v9_1) k9_1) v9_1, rowT nConstraint w.heap.size 94 (.slice A10_1 (List.length v10_1) k10_1) v10_1]) (by kernel_rfl) ?_
    replace h := H.done h
    subst h
    exact ret func3 rfl (vs := [.bool false]) (.tmp (by kernel_rfl) .nil) rfl (fun W S => ⟨rfl, S.below⟩)
  replace h := H.f q3 h
  refine o_set 47 (congrArg Value.bool q3) ?_
  refine p 5 ?_
  refine br (v11_2.2.1 != v8_4.2.1) (fun q4 => ?_) (fun q4 => ?_)
  · replace h := H.t q4 h
    refine o_set 52 (congrArg Value.bool q4) ?_
    refine p 4 ?_
    refine rend ?_
    refine c_t (by kernel_rfl) ?_
    refine c_seq ?_
    refine r_start ?_
    refine p 1 ?_
    refine rend ?_
    refine frg (fun u => (jk u 0 4 (.bool false :: (jk u 5 62 [])))) (by kernel_rfl) fun u => ?_
    refine keep 4 (its' := [rowT nSign w.heap.size 62 (.slice A8_1 (List.length v8_1) k8_1) v8_1, rowT nConstraint w.heap.size 94 (.slice A8_3 (List.length v8_3) k8_3) v8_3, rowT nSign w.heap.size 62 (.slice A9_1 (List.length v9_1) k9_1) v9_1, rowT nConstraint w.heap.size 94 (.slice A10_1 (List.length v10_1) k10_1) v10_1]) (by kernel_rfl) ?_
    replace h := H.done h
    subst h
    exact ret func3 rfl (vs := [.bool false]) (.tmp (by kernel_rfl) .nil) rfl (fun W S => ⟨rfl, S.below⟩)
  replace h := H.f q4 h
  refine o_set 52 (congrArg Value.bool q4) ?_
  refine p 4 ?_
  refine rend ?_
  refine c_or (!(v11_2.2.2 == v8_4.2.2)) (fun q5 => ?_) (fun q5 => ?_)
  · replace h := H.t q5 h
    refine c_seq ?_
    refine r_start ?_
    refine p 1 ?_
    refine rend ?_
    refine frg (fun u => (jk u 0 4 (.bool false :: (jk u 5 62 [])))) (by kernel_rfl) fun u => ?_
    refine keep 4 (its' := [rowT nSign w.heap.size 62 (.slice A8_1 (List.length v8_1) k8_1) v8_1, rowT nConstraint w.heap.size 94 (.slice A8_3 (List.length v8_3) k8_3) v8_3, rowT nSign w.heap.size 62 (.slice A9_1 (List.length v9_1) k9_1) v9_1, rowT nConstraint w.heap.size 94 (.slice A10_1 (List.length v10_1) k10_1) v10_1]) (by kernel_rfl) ?_
    replace h := H.done h
    subst h
    exact ret func3 rfl (vs := [.bool false]) (.tmp (by kernel_rfl) .nil) rfl (fun W S => ⟨rfl, S.below⟩)
  replace h := H.f q5 h
  refine c_skip ?_
  refine c_seq ?_
  refine c_seq ?_
  refine r_start ?_
  refine p 2 ?_
  obtain ⟨v14_2, hv14_2, h⟩ := H.call h
  refine xx rfl (e_cr [.slice A0 (List.length a0) k0] (fun v => v) func18 (fun W S => C.l_toSignS W hv14_2 ((s_arg h0).out W S)) fun A14_2 k14_2 => ?_)
  obtain ⟨v14_3, hv14_3, h⟩ := H.call h
  refine xq rfl (y_call [.slice A9_1 (List.length v9_1) k9_1, .slice A14_2 (List.length v14_2) k14_2] (.bool v14_3) func21 (fun W S => C.l_eqSignS W hv14_3 ((s_own 2).out W S) ((s_own 4).out W S))) ?_
  refine p 1 ?_
  refine rend ?_
  refine frg (fun u => (jk u 0 1 (.slice A1 (List.length a1) k1 :: (jk u 2 8 (.slice A10_1 (List.length v10_1) k10_1 :: (jk u 11 50 (.bool (!v14_3) :: (jk u 62 5 [])))))))) (by kernel_rfl) fun u => ?_
  refine keep 5 (its' := [rowT nSign w.heap.size 62 (.slice A8_1 (List.length v8_1) k8_1) v8_1, rowT nConstraint w.heap.size 94 (.slice A8_3 (List.length v8_3) k8_3) v8_3, rowT nSign w.heap.size 62 (.slice A9_1 (List.length v9_1) k9_1) v9_1, rowT nConstraint w.heap.size 94 (.slice A10_1 (List.length v10_1) k10_1) v10_1, rowT nSign w.heap.size 62 (.slice A14_2 (List.length v14_2) k14_2) v14_2]) (by kernel_rfl) ?_
  refine c_or (!v14_3) (fun q6 => ?_) (fun q6 => ?_)
  · replace h := H.t q6 h
    refine c_seq ?_
    refine r_start ?_
    refine p 1 ?_
    refine rend ?_
    replace h := H.done h
    subst h
    exact ret func3 rfl (vs := [.bool false]) (.tmp (by kernel_rfl) .nil) rfl (fun W S => ⟨rfl, S.below⟩)
  replace h := H.f q6 h
  refine c_skip ?_
  refine c_seq ?_
  refine c_seq ?_
  refine r_start ?_
  refine p 2 ?_
  obtain ⟨v16_2, hv16_2, h⟩ := H.call h
  refine xx rfl (e_cr [.slice A1 (List.length a1) k1] (fun v => v) func19 (fun W S => C.l_toConstraintS W hv16_2 ((s_arg h1).out W S)) fun A16_2 k16_2 => ?_)
  obtain ⟨v16_3, hv16_3, h⟩ := H.call h
  refine xq rfl (y_call [.slice A10_1 (List.length v10_1) k10_1, .slice A16_2 (List.length v16_2) k16_2] (.bool v16_3) func22 (fun W S => C.l_eqConstraintS W hv16_3 ((s_own 3).out W S) ((s_own 5).out W S))) ?_
  refine p 1 ?_
  refine rend ?_
  refine c_or (!v16_3) (fun q7 => ?_) (fun q7 => ?_)
  · replace h := H.t q7 h
    refine c_seq ?_
    refine r_start ?_
    refine p 1 ?_
    refine rend ?_
    replace h := H.done h
    subst h
    exact ret func3 rfl (vs := [.bool false]) (.tmp (by kernel_rfl) .nil) rfl (fun W S => ⟨rfl, S.below⟩)
  replace h := H.f q7 h
  refine c_skip ?_
  refine c_seq ?_
  refine r_start ?_
  refine p 1 ?_
  refine rend ?_
  replace h := H.done h
  subst h
  exact ret func3 rfl (vs := [.bool true]) (.tmp (by kernel_rfl) .nil) rfl (fun W S => ⟨rfl, S.below⟩)
end Go.Proofs.XC
