/- Contracts: each function, called where its plain function gives an answer, returns just that answer and changes nothing that was there. By AI agents; no person has read it. -/
import Derived.Test.YtaoeiaoenjilbaaGreatDoorC1
import Derived.Test.YtaoeiaoenjilbaaGreatDoorE0
import Derived.Test.YtaoeiaoenjilbaaGreatDoorE2
set_option linter.unusedVariables false
set_option linter.unusedSimpArgs false
set_option maxRecDepth 100000
set_option maxHeartbeats 40000000
namespace Go.Proofs.XC
open Go Go.RowKit
open Tryz
theorem C.s_DistanceTable {fu : Nat} {a0 : (List Sign)} {A0 : Option Addr} {k0 : Nat} {r : ((List (List Int)) × Bool)} (w : World) (h : X.s_DistanceTable fu a0 = some r) (h0 : RdT nSign w (.slice A0 (List.length a0) k0) a0) : Calls prog 35 #[.slice A0 (List.length a0) k0] w (RetD (eI .i64) 30 3 w r.1 (fun v => .tuple #[v, .bool r.2])) := by
  refine calls (M := no) (args := [.slice A0 (List.length a0) k0]) func35 rfl ?_
  replace h : H (X.s_DistanceTable fu a0) (fun o => o = r) := H.mk h
  unfold X.s_DistanceTable at h
  refine c_seq ?_
  refine r_start ?_
  refine p 2 ?_
  refine rend ?_
  refine c_seq ?_
  refine c_seq ?_
  refine r_start ?_
  refine p 1 ?_
  obtain ⟨v1_1, hv1_1, h⟩ := H.call h
  refine xq rfl (y_call [.slice A0 (List.length a0) k0] (.bool v1_1) func59 (fun W S => C.s_paList W hv1_1 ((s_arg h0).out W S))) ?_
  refine p 1 ?_
  refine rend ?_
  refine c_or (!v1_1) (fun q1 => ?_) (fun q1 => ?_)
  · replace h := H.t q1 h
    refine c_seq ?_
    refine r_start ?_
    refine p 2 ?_
    refine rend ?_
    replace h := H.done h
    subst h
    exact ret func35 rfl (vs := [.slice none 0 0, .bool false]) (.tmp (by kernel_rfl) (.tmp (by kernel_rfl) .nil)) rfl (fun W S => ⟨none, 0, [], rfl, World.ownsRow_nil _ _ _ _, Inn.nil _ _ _ _, (fun k hk => by cases hk), (fun k ⟨_, hk, _⟩ => by cases hk), S.below⟩)
  replace h := H.f q1 h
  refine c_skip ?_
  refine c_seq ?_
  refine r_start ?_
  refine p 1 ?_
  refine rend ?_
  refine c_seq ?_
  refine c_seq ?_
  refine r_start ?_
  refine p 3 ?_
  refine rend ?_
  refine c_block ?_
  refine c_nil eSl 30 ?_
  refine c_inn (eI .i64) 3 ?_
  refine joinH (X := ((List (List Int)) × List Sl × Option Addr × Nat)) 0 (H.bnd h) (fun ⟨l9, u6, A7, k8⟩ => l9) (fun ⟨l9, u6, A7, k8⟩ => [rowT eSl w.heap.size 30 (.slice A7 (List.length u6) k8) u6, inns (eI .i64) w.heap.size 3 u6 l9]) (fun ⟨l9, u6, A7, k8⟩ u => (jk u 0 4 (.slice A7 (List.length u6) k8 :: (jk u 5 33 [])))) (fun h hj10 => ?_) ?_
  · skip
    refine rangeR (X := ((List (List Int)) × List Sl × Option Addr × Nat)) (s_arg h0) (fun ⟨l5, u2, A3, k4⟩ => l5) (fun ⟨l5, u2, A3, k4⟩ => [rowT eSl w.heap.size 30 (.slice A3 (List.length u2) k4) u2, inns (eI .i64) w.heap.size 3 u2 l5]) (fun (j11 : Nat) ⟨l5, u2, A3, k4⟩ u => (.slice A0 (List.length a0) k0 :: (jk u 1 3 (.slice A3 (List.length u2) k4 :: (jk u 5 8 (.slice A0 (List.length a0) k0 :: .int .i64 (List.length a0 : Int) :: .int .i64 (j11 : Int) :: (jk u 16 22 []))))))) (([] : List (List Int)), ([] : List Sl), none, 0) h (by kernel_rfl) (by kernel_rfl) ?_ ?_
    · intro j11 x u x12 q13 hg14 hw15 h
      obtain ⟨l5, u2, A3, k4⟩ := x
      refine c_seq ?_
      refine r_start ?_
      refine p 1 ?_
      refine rend ?_
      refine c_seq ?_
      refine c_yes q13 ?_
      refine c_skip ?_
      refine c_seq ?_
      refine c_block ?_
      refine c_seq ?_
      refine r_start ?_
      refine xq rfl (y_idx (e := nSign) (el := 85) hg14 (s_arg h0)) ?_
      refine xq rfl (y_el (e := nSign) 0 (.agg (eSign x12).toArray) hg14 (s_arg h0)) ?_
      refine xx rfl (x_new (eSign zSign) fun g6_2 => ?_)
      refine xx rfl (x_sto 2 g6_2 0 (eSign x12) ?_)
      refine rend ?_
      refine c_seq ?_
      refine r_start ?_
      refine p 1 ?_
      refine rend ?_
      refine c_seq ?_
      refine c_seq ?_
      refine r_start ?_
      refine p 3 ?_
      refine rend ?_
      refine c_block ?_
      refine c_nil (eI .i64) 3 ?_
      refine joinH (X := ((List Int) × Option Addr × Nat)) 2 (H.bnd h) (fun ⟨l19, A20, k21⟩ => l19) (fun ⟨l19, A20, k21⟩ => [rowT eSl w.heap.size 30 (.slice A3 (List.length u2) k4) u2, inns (eI .i64) w.heap.size 3 u2 l5, box g6_2 85 (eSign x12), rowT (eI .i64) w.heap.size 3 (.slice A20 (List.length l19) k21) l19]) (fun ⟨l19, A20, k21⟩ u => (.slice A0 (List.length a0) k0 :: (jk u 1 3 (.slice A3 (List.length u2) k4 :: (jk u 5 2 (.slice A20 (List.length l19) k21 :: (jk u 8 5 (.slice A0 (List.length a0) k0 :: .int .i64 (List.length a0 : Int) :: .int .i64 (j11 : Int) :: (jk u 16 22 []))))))))) (fun h hj22 => ?_) ?_
      · skip
        refine rangeR (X := ((List Int) × Option Addr × Nat)) (s_arg h0) (fun ⟨l16, A17, k18⟩ => l16) (fun ⟨l16, A17, k18⟩ => [rowT eSl w.heap.size 30 (.slice A3 (List.length u2) k4) u2, inns (eI .i64) w.heap.size 3 u2 l5, box g6_2 85 (eSign x12), rowT (eI .i64) w.heap.size 3 (.slice A17 (List.length l16) k18) l16]) (fun (j23 : Nat) ⟨l16, A17, k18⟩ u => (.slice A0 (List.length a0) k0 :: (jk u 1 3 (.slice A3 (List.length u2) k4 :: (jk u 5 1 (.pointer (some ⟨g6_2, 0, none⟩) :: .slice A17 (List.length l16) k18 :: (jk u 8 5 (.slice A0 (List.length a0) k0 :: .int .i64 (List.length a0 : Int) :: .int .i64 (j11 : Int) :: (jk u 16 3 (.slice A0 (List.length a0) k0 :: .int .i64 (List.length a0 : Int) :: .int .i64 (j23 : Int) :: (jk u 22 16 []))))))))))) (([] : List Int), none, 0) h (by kernel_rfl) (by kernel_rfl) ?_ ?_
        · intro j23 x u x24 q25 hg26 hw27 h
          obtain ⟨l16, A17, k18⟩ := x
          refine c_seq ?_
          refine r_start ?_
          refine p 1 ?_
          refine rend ?_
          refine c_seq ?_
          refine c_yes q25 ?_
          refine c_skip ?_
          refine c_seq ?_
          refine c_block ?_
          refine c_seq ?_
          refine r_start ?_
          refine xq rfl (y_idx (e := nSign) (el := 85) hg26 (s_arg h0)) ?_
          refine xq rfl (y_el (e := nSign) 0 (.agg (eSign x24).toArray) hg26 (s_arg h0)) ?_
          refine xx rfl (x_new (eSign zSign) fun g10_2 => ?_)
          refine xx rfl (x_sto 4 g10_2 0 (eSign x24) ?_)
          refine rend ?_
          refine r_start ?_
          refine p 1 ?_
          refine xq rfl (y_load (.agg (eSign x12).toArray) 2 g6_2 0) ?_
          refine xq rfl (y_load (.agg (eSign x24).toArray) 4 g10_2 0) ?_
          obtain ⟨v11_3, hv11_3, h⟩ := H.call h
          refine xq rfl (y_call [.agg (eSign x12).toArray, .agg (eSign x24).toArray] (.int .i64 v11_3) func60 (fun W S => C.s_feFar W hv11_3)) ?_
          refine xx rfl (e_lit (e := (eI .i64)) (el := 3) [.int .i64 v11_3] ([v11_3] : List Int) fun A11_4 k11_4 => ?_)
          obtain ⟨y11_5, hy11_5, h⟩ := H.call h
          refine xx rfl (e_app 3 hy11_5 (s_own 5) fun A11_5 k11_5 => ?_)
          refine p 1 ?_
          refine rend ?_
          refine c_inb ?_
          refine r_start ?_
          refine p 2 ?_
          refine rend ?_
          refine c_set 21 (ci hw27) ?_
          replace h := H.inl h
          exact h (y11_5, A11_5, k11_5) _ _ rfl (by kernel_rfl) (by kernel_rfl)
        · intro x u q25 h
          obtain ⟨l16, A17, k18⟩ := x
          refine c_seq ?_
          refine r_start ?_
          refine p 1 ?_
          refine rend ?_
          refine c_seq ?_
          refine c_no q25 ?_
          refine cx ?_
          replace h := H.done h
          exact hj22 (l16, A17, k18) _ _ h (by kernel_rfl) (by kernel_rfl)
      intro x u h
      obtain ⟨l19, A20, k21⟩ := x
      refine r_start ?_
      refine p 2 ?_
      refine xx rfl (e_lit (e := eSl) (el := 30) [.slice A20 (List.length l19) k21] ([⟨A20, List.length l19, k21⟩] : List Sl) fun A13_2 k13_2 => ?_)
      obtain ⟨y13_3, hy13_3, h⟩ := H.call h
      refine o_fact (f_len (i_own 1)) fun hl13_3 => ?_
      obtain ⟨ha13_3, hq13_3⟩ := appD_sl (ws := ([⟨A20, List.length l19, k21⟩] : List Sl)) hy13_3 hl13_3 rfl
      refine xx rfl (e_app 0 ha13_3 (s_own 4) fun A13_3 k13_3 => ?_)
      refine p 1 ?_
      refine rend ?_
      refine absorbE (e := (eI .i64)) (B := w.heap.size) (t := 3) (A := A20) (c := k21) (l := l19) (us := u2) [0, 2, 3, 1] [rowT eSl w.heap.size 30 (.slice A13_3 (List.length (u2 ++ ([⟨A20, List.length l19, k21⟩] : List Sl))) k13_3) (u2 ++ ([⟨A20, List.length l19, k21⟩] : List Sl)), box g6_2 85 (eSign x12)] hq13_3 ?_
      refine c_inb ?_
      refine r_start ?_
      refine p 2 ?_
      refine rend ?_
      refine pick [0, 2] [rowT eSl w.heap.size 30 (.slice A13_3 (List.length (u2 ++ ([⟨A20, List.length l19, k21⟩] : List Sl))) k13_3) (u2 ++ ([⟨A20, List.length l19, k21⟩] : List Sl)), inns (eI .i64) w.heap.size 3 (u2 ++ ([⟨A20, List.length l19, k21⟩] : List Sl)) y13_3] ?_
      refine c_set 15 (ci hw15) ?_
      replace h := H.inl h
      exact h (y13_3, (u2 ++ ([⟨A20, List.length l19, k21⟩] : List Sl)), A13_3, k13_3) _ _ rfl (by kernel_rfl) (by kernel_rfl)
    · intro x u q13 h
      obtain ⟨l5, u2, A3, k4⟩ := x
      refine c_seq ?_
      refine r_start ?_
      refine p 1 ?_
      refine rend ?_
      refine c_seq ?_
      refine c_no q13 ?_
      refine cx ?_
      replace h := H.done h
      exact hj10 (l5, u2, A3, k4) _ _ h (by kernel_rfl) (by kernel_rfl)
  intro x u h
  obtain ⟨l9, u6, A7, k8⟩ := x
  refine c_seq ?_
  refine r_start ?_
  refine p 3 ?_
  refine rend ?_
  replace h := H.done h
  subst h
  exact ret func35 rfl (vs := [.slice A7 (List.length u6) k8, .bool true]) (.tmp (by kernel_rfl) (.tmp (by kernel_rfl) .nil)) rfl (fun W S => S.retD (res := fun v => .tuple #[v, .bool true]) 0 1 (by decide))
theorem C.l_FnExactDistanceTable {fu : Nat} {a0 : (List Sign)} {A0 : Option Addr} {k0 : Nat} {r : Bool} (w : World) (h : X.l_FnExactDistanceTable fu a0 = some r) (h0 : RdT nSign w (.slice A0 (List.length a0) k0) a0) : Calls prog 8 #[.slice A0 (List.length a0) k0] w (Ret w (.bool r)) := by
  refine calls (M := no) (args := [.slice A0 (List.length a0) k0]) func8 rfl ?_
  replace h : H (X.l_FnExactDistanceTable fu a0) (fun o => o = r) := H.mk h
  unfold X.l_FnExactDistanceTable at h
  refine c_seq ?_
  refine r_start ?_
  refine p 1 ?_
  refine rend ?_
  refine c_seq ?_
  refine r_start ?_
  refine p 1 ?_
  refine rend ?_
  refine c_seq ?_
  refine r_start ?_
  refine p 2 ?_
  obtain ⟨v2_2, hv2_2, h⟩ := H.call h
  refine xq rfl (y_call [.slice A0 (List.length a0) k0, .int .i64 1048576] (.int .i64 v2_2) func15 (fun W S => C.l_szSignS W hv2_2 ((s_arg h0).out W S))) ?_
  refine p 1 ?_
  refine rend ?_
  refine c_seq ?_
  refine c_seq ?_
  refine r_start ?_
  refine p 2 ?_
  refine rend ?_
  refine c_or (decide (v2_2 < 0)) (fun q1 => ?_) (fun q1 => ?_)
  · replace h := H.t q1 h
    refine c_seq ?_
    refine r_start ?_
    refine p 1 ?_
    refine rend ?_
    replace h := H.done h
    subst h
    exact ret func8 rfl (vs := [.bool true]) (.tmp (by kernel_rfl) .nil) rfl (fun W S => ⟨rfl, S.below⟩)
  replace h := H.f q1 h
  refine c_skip ?_
  refine c_seq ?_
  refine r_start ?_
  refine p 1 ?_
  obtain ⟨v5_1, hv5_1, h⟩ := H.call h
  refine xx rfl (e_cr [.slice A0 (List.length a0) k0] (fun v => v) func17 (fun W S => C.l_toSignS W hv5_1 ((s_arg h0).out W S)) fun A5_1 k5_1 => ?_)
  obtain ⟨v5_2, hv5_2, h⟩ := H.call h
  refine xx rfl (e_crd [.slice A5_1 (List.length v5_1) k5_1] (fun v => .tuple #[v, .bool v5_2.2]) func35 (fun W S => C.s_DistanceTable W hv5_2 ((s_own 0).out W S)) fun A5_2 k5_2 u5_2 => ?_)
  refine p 5 ?_
  refine rend ?_
  refine c_seq ?_
  refine r_start ?_
  refine p 1 ?_
  obtain ⟨v6_1, hv6_1, h⟩ := H.call h
  refine xx rfl (e_cr [.slice A0 (List.length a0) k0] (fun v => v) func17 (fun W S => C.l_toSignS W hv6_1 ((s_arg h0).out W S)) fun A6_1 k6_1 => ?_)
  refine p 1 ?_
  refine rend ?_
  refine c_seq ?_
  refine r_start ?_
  refine p 1 ?_
  obtain ⟨v7_1, hv7_1, h⟩ := H.call h
  refine xx rfl (e_crd [.slice A6_1 (List.length v6_1) k6_1] (fun v => .tuple #[v, .bool v7_1.2]) func36 (fun W S => C.i_DistanceTable W hv7_1 ((s_own 3).out W S)) fun A7_1 k7_1 u7_1 => ?_)
  refine p 5 ?_
  refine rend ?_
  refine c_seq ?_
  refine c_seq ?_
  refine r_start ?_
  refine p 2 ?_
  obtain ⟨v8_2, hv8_2, h⟩ := H.call h
  refine xq rfl (y_call [.slice A7_1 (List.length u7_1) k7_1, .slice A5_2 (List.length u5_2) k5_2] (.bool v8_2) func30 (fun W S => C.l_eqIntSS W hv8_2 ((s_own 4).out W S) ((i_own 5).out W S) ((s_own 1).out W S) ((i_own 2).out W S))) ?_
  refine p 2 ?_
  refine br (!v8_2) (fun q2 => ?_) (fun q2 => ?_)
  · replace h := H.t q2 h
    refine o_set 36 (congrArg Value.bool q2) ?_
    refine p 4 ?_
    refine rend ?_
    refine c_t (by kernel_rfl) ?_
    refine c_seq ?_
    refine r_start ?_
    refine p 1 ?_
    refine rend ?_
    replace h := H.done h
    subst h
    exact ret func8 rfl (vs := [.bool false]) (.tmp (by kernel_rfl) .nil) rfl (fun W S => ⟨rfl, S.below⟩)
  replace h := H.f q2 h
  refine o_set 36 (congrArg Value.bool q2) ?_
  refine p 4 ?_
  refine rend ?_
  refine c_or (!(v7_1.2 == v5_2.2)) (fun q3 => ?_) (fun q3 => ?_)
  · replace h := H.t q3 h
    refine c_seq ?_
    refine r_start ?_
    refine p 1 ?_
    refine rend ?_
    replace h := H.done h
    subst h
    exact ret func8 rfl (vs := [.bool false]) (.tmp (by kernel_rfl) .nil) rfl (fun W S => ⟨rfl, S.below⟩)
  replace h := H.f q3 h
  refine c_skip ?_
  refine c_seq ?_
  refine c_seq ?_
  refine r_start ?_
  refine p 2 ?_
  obtain ⟨v10_2, hv10_2, h⟩ := H.call h
  refine xx rfl (e_cr [.slice A0 (List.length a0) k0] (fun v => v) func17 (fun W S => C.l_toSignS W hv10_2 ((s_arg h0).out W S)) fun A10_2 k10_2 => ?_)
  obtain ⟨v10_3, hv10_3, h⟩ := H.call h
  refine xq rfl (y_call [.slice A6_1 (List.length v6_1) k6_1, .slice A10_2 (List.length v10_2) k10_2] (.bool v10_3) func19 (fun W S => C.l_eqSignS W hv10_3 ((s_own 3).out W S) ((s_own 6).out W S))) ?_
  refine p 1 ?_
  refine rend ?_
  refine c_or (!v10_3) (fun q4 => ?_) (fun q4 => ?_)
  · replace h := H.t q4 h
    refine c_seq ?_
    refine r_start ?_
    refine p 1 ?_
    refine rend ?_
    replace h := H.done h
    subst h
    exact ret func8 rfl (vs := [.bool false]) (.tmp (by kernel_rfl) .nil) rfl (fun W S => ⟨rfl, S.below⟩)
  replace h := H.f q4 h
  refine c_skip ?_
  refine c_seq ?_
  refine r_start ?_
  refine p 1 ?_
  refine rend ?_
  refine c_seq ?_
  refine r_start ?_
  refine p 2 ?_
  obtain ⟨v13_2, hv13_2, h⟩ := H.call h
  refine xx rfl (e_cw (e := nSign) (l' := v13_2.2) (v := .int .i64 v13_2.1) 3 [.slice A6_1 (List.length v6_1) k6_1, .int .i64 1] func23 (fun W S => C.l_markSignS W hv13_2 rfl (S.row 3)) fun hl13_2 => ?_)
  refine o_set 6 (sl_len (A := A6_1) (c := k6_1) hl13_2) ?_
  refine p 1 ?_
  refine rend ?_
  refine c_seq ?_
  refine c_seq ?_
  refine r_start ?_
  refine p 3 ?_
  refine br (decide (v13_2.1 < 0)) (fun q5 => ?_) (fun q5 => ?_)
  · replace h := H.t q5 h
    refine o_set 51 (congrArg Value.bool q5) ?_
    refine p 10 ?_
    refine rend ?_
    refine frg (fun u => (.slice A0 (List.length a0) k0 :: (jk u 1 3 (.slice A5_2 (List.length u5_2) k5_2 :: .bool v5_2.2 :: (jk u 6 1 (.slice A7_1 (List.length u7_1) k7_1 :: (jk u 8 53 (.bool true :: (jk u 62 34 []))))))))) (by kernel_rfl) fun u => ?_
    refine keep 7 (its' := [rowT nSign w.heap.size 85 (.slice A5_1 (List.length v5_1) k5_1) v5_1, rowT eSl w.heap.size 30 (.slice A5_2 (List.length u5_2) k5_2) u5_2, inns (eI .i64) w.heap.size 3 u5_2 v5_2.1, rowT nSign w.heap.size 85 (.slice A6_1 (List.length v13_2.2) k6_1) v13_2.2, rowT eSl w.heap.size 30 (.slice A7_1 (List.length u7_1) k7_1) u7_1, inns (eI .i64) w.heap.size 3 u7_1 v7_1.1, rowT nSign w.heap.size 85 (.slice A10_2 (List.length v10_2) k10_2) v10_2]) (by kernel_rfl) ?_
    refine c_t (by kernel_rfl) ?_
    refine c_seq ?_
    refine r_start ?_
    refine p 1 ?_
    refine rend ?_
    replace h := H.done h
    subst h
    exact ret func8 rfl (vs := [.bool false]) (.tmp (by kernel_rfl) .nil) rfl (fun W S => ⟨rfl, S.below⟩)
  replace h := H.f q5 h
  refine o_set 51 (congrArg Value.bool q5) ?_
  refine p 2 ?_
  obtain ⟨v14_5, hv14_5, h⟩ := H.call h
  refine xq rfl (y_call [.slice A7_1 (List.length u7_1) k7_1, .slice A5_2 (List.length u5_2) k5_2] (.bool v14_5) func30 (fun W S => C.l_eqIntSS W hv14_5 ((s_own 4).out W S) ((i_own 5).out W S) ((s_own 1).out W S) ((i_own 2).out W S))) ?_
  refine p 3 ?_
  refine br (!v14_5) (fun q6 => ?_) (fun q6 => ?_)
  · replace h := H.t q6 h
    refine o_set 57 (congrArg Value.bool q6) ?_
    refine p 4 ?_
    refine rend ?_
    refine frg (fun u => (.slice A0 (List.length a0) k0 :: (jk u 1 3 (.slice A5_2 (List.length u5_2) k5_2 :: .bool v5_2.2 :: (jk u 6 1 (.slice A7_1 (List.length u7_1) k7_1 :: (jk u 8 53 (.bool true :: (jk u 62 34 []))))))))) (by kernel_rfl) fun u => ?_
    refine keep 7 (its' := [rowT nSign w.heap.size 85 (.slice A5_1 (List.length v5_1) k5_1) v5_1, rowT eSl w.heap.size 30 (.slice A5_2 (List.length u5_2) k5_2) u5_2, inns (eI .i64) w.heap.size 3 u5_2 v5_2.1, rowT nSign w.heap.size 85 (.slice A6_1 (List.length v13_2.2) k6_1) v13_2.2, rowT eSl w.heap.size 30 (.slice A7_1 (List.length u7_1) k7_1) u7_1, inns (eI .i64) w.heap.size 3 u7_1 v7_1.1, rowT nSign w.heap.size 85 (.slice A10_2 (List.length v10_2) k10_2) v10_2]) (by kernel_rfl) ?_
    refine c_t (by kernel_rfl) ?_
    refine c_seq ?_
    refine r_start ?_
    refine p 1 ?_
    refine rend ?_
    replace h := H.done h
    subst h
    exact ret func8 rfl (vs := [.bool false]) (.tmp (by kernel_rfl) .nil) rfl (fun W S => ⟨rfl, S.below⟩)
  replace h := H.f q6 h
  refine o_set 57 (congrArg Value.bool q6) ?_
  refine p 4 ?_
  refine rend ?_
  refine frg (fun u => (.slice A0 (List.length a0) k0 :: (jk u 1 3 (.slice A5_2 (List.length u5_2) k5_2 :: .bool v5_2.2 :: (jk u 6 1 (.slice A7_1 (List.length u7_1) k7_1 :: (jk u 8 53 (.bool (!(v7_1.2 == v5_2.2)) :: (jk u 62 34 []))))))))) (by kernel_rfl) fun u => ?_
  refine keep 7 (its' := [rowT nSign w.heap.size 85 (.slice A5_1 (List.length v5_1) k5_1) v5_1, rowT eSl w.heap.size 30 (.slice A5_2 (List.length u5_2) k5_2) u5_2, inns (eI .i64) w.heap.size 3 u5_2 v5_2.1, rowT nSign w.heap.size 85 (.slice A6_1 (List.length v13_2.2) k6_1) v13_2.2, rowT eSl w.heap.size 30 (.slice A7_1 (List.length u7_1) k7_1) u7_1, inns (eI .i64) w.heap.size 3 u7_1 v7_1.1, rowT nSign w.heap.size 85 (.slice A10_2 (List.length v10_2) k10_2) v10_2]) (by kernel_rfl) ?_
  refine c_no q3 ?_
  refine c_skip ?_
  refine c_seq ?_
  refine r_start ?_
  refine p 1 ?_
  refine rend ?_
  refine c_seq ?_
  refine r_start ?_
  refine p 2 ?_
  obtain ⟨v17_2, hv17_2, h⟩ := H.call h
  refine xx rfl (e_cwd (e := (eI .i64)) (ls' := v17_2.2) (v := .int .i64 v17_2.1) 5 [.slice A7_1 (List.length u7_1) k7_1, .int .i64 1] func31 (fun W S => C.l_markIntSS W hv17_2 ((s_own 4).out W S) (S.inn 5) (S.apD 4 5 (by decide))) ?_)
  refine p 1 ?_
  refine rend ?_
  refine c_seq ?_
  refine r_start ?_
  refine p 1 ?_
  refine rend ?_
  refine c_seq ?_
  refine r_start ?_
  refine p 2 ?_
  obtain ⟨v19_2, hv19_2, h⟩ := H.call h
  refine xq rfl (y_call [.slice A7_1 (List.length u7_1) k7_1, .int .i64 1] (.int .i64 v19_2) func32 (fun W S => C.l_heldIntSS W hv19_2 ((s_own 4).out W S) ((i_own 5).out W S))) ?_
  refine p 1 ?_
  refine rend ?_
  refine c_seq ?_
  refine c_seq ?_
  refine r_start ?_
  refine p 2 ?_
  refine rend ?_
  refine c_or (decide (v19_2 < 0)) (fun q7 => ?_) (fun q7 => ?_)
  · replace h := H.t q7 h
    refine c_seq ?_
    refine r_start ?_
    refine p 1 ?_
    refine rend ?_
    replace h := H.done h
    subst h
    exact ret func8 rfl (vs := [.bool false]) (.tmp (by kernel_rfl) .nil) rfl (fun W S => ⟨rfl, S.below⟩)
  replace h := H.f q7 h
  refine c_skip ?_
  refine c_seq ?_
  refine c_seq ?_
  refine r_start ?_
  refine p 3 ?_
  refine rend ?_
  refine c_or (v19_2 != v17_2.1) (fun q8 => ?_) (fun q8 => ?_)
  · replace h := H.t q8 h
    refine c_seq ?_
    refine r_start ?_
    refine p 1 ?_
    refine rend ?_
    replace h := H.done h
    subst h
    exact ret func8 rfl (vs := [.bool false]) (.tmp (by kernel_rfl) .nil) rfl (fun W S => ⟨rfl, S.below⟩)
  replace h := H.f q8 h
  refine c_skip ?_
  refine c_seq ?_
  refine r_start ?_
  refine p 1 ?_
  obtain ⟨v24_1, hv24_1, h⟩ := H.call h
  refine xx rfl (e_cr [.slice A0 (List.length a0) k0] (fun v => v) func17 (fun W S => C.l_toSignS W hv24_1 ((s_arg h0).out W S)) fun A24_1 k24_1 => ?_)
  obtain ⟨v24_2, hv24_2, h⟩ := H.call h
  refine xx rfl (e_crd [.slice A24_1 (List.length v24_1) k24_1] (fun v => .tuple #[v, .bool v24_2.2]) func36 (fun W S => C.i_DistanceTable W hv24_2 ((s_own 7).out W S)) fun A24_2 k24_2 u24_2 => ?_)
  refine p 5 ?_
  refine rend ?_
  refine c_seq ?_
  refine c_seq ?_
  refine r_start ?_
  refine p 2 ?_
  obtain ⟨v25_2, hv25_2, h⟩ := H.call h
  refine xq rfl (y_call [.slice A24_2 (List.length u24_2) k24_2, .slice A5_2 (List.length u5_2) k5_2] (.bool v25_2) func30 (fun W S => C.l_eqIntSS W hv25_2 ((s_own 8).out W S) ((i_own 9).out W S) ((s_own 1).out W S) ((i_own 2).out W S))) ?_
  refine p 2 ?_
  refine br (!v25_2) (fun q9 => ?_) (fun q9 => ?_)
  · replace h := H.t q9 h
    refine o_set 83 (congrArg Value.bool q9) ?_
    refine p 4 ?_
    refine rend ?_
    refine c_t (by kernel_rfl) ?_
    refine c_seq ?_
    refine r_start ?_
    refine p 1 ?_
    refine rend ?_
    replace h := H.done h
    subst h
    exact ret func8 rfl (vs := [.bool false]) (.tmp (by kernel_rfl) .nil) rfl (fun W S => ⟨rfl, S.below⟩)
  replace h := H.f q9 h
  refine o_set 83 (congrArg Value.bool q9) ?_
  refine p 4 ?_
  refine rend ?_
  refine c_or (!(v24_2.2 == v5_2.2)) (fun q10 => ?_) (fun q10 => ?_)
  · replace h := H.t q10 h
    refine c_seq ?_
    refine r_start ?_
    refine p 1 ?_
    refine rend ?_
    replace h := H.done h
    subst h
    exact ret func8 rfl (vs := [.bool false]) (.tmp (by kernel_rfl) .nil) rfl (fun W S => ⟨rfl, S.below⟩)
  replace h := H.f q10 h
  refine c_skip ?_
  refine c_seq ?_
  refine r_start ?_
  refine p 1 ?_
  refine rend ?_
  refine c_seq ?_
  refine r_start ?_
  refine p 2 ?_
  obtain ⟨v28_2, hv28_2, h⟩ := H.call h
  refine xq rfl (y_call [.slice A7_1 (List.length u7_1) k7_1, .int .i64 1] (.int .i64 v28_2) func32 (fun W S => C.l_heldIntSS W hv28_2 ((s_own 4).out W S) ((i_own 5).out W S))) ?_
  refine p 1 ?_
  refine rend ?_
  refine c_seq ?_
  refine c_seq ?_
  refine r_start ?_
  refine p 2 ?_
  refine rend ?_
  refine c_or (decide (v28_2 < 0)) (fun q11 => ?_) (fun q11 => ?_)
  · replace h := H.t q11 h
    refine c_seq ?_
    refine r_start ?_
    refine p 1 ?_
    refine rend ?_
    refine frg (fun u => (jk u 0 2 (.bool false :: (jk u 3 93 [])))) (by kernel_rfl) fun u => ?_
    refine keep 10 (its' := [rowT nSign w.heap.size 85 (.slice A5_1 (List.length v5_1) k5_1) v5_1, rowT eSl w.heap.size 30 (.slice A5_2 (List.length u5_2) k5_2) u5_2, inns (eI .i64) w.heap.size 3 u5_2 v5_2.1, rowT nSign w.heap.size 85 (.slice A6_1 (List.length v13_2.2) k6_1) v13_2.2, rowT eSl w.heap.size 30 (.slice A7_1 (List.length u7_1) k7_1) u7_1, inns (eI .i64) w.heap.size 3 u7_1 v17_2.2, rowT nSign w.heap.size 85 (.slice A10_2 (List.length v10_2) k10_2) v10_2, rowT nSign w.heap.size 85 (.slice A24_1 (List.length v24_1) k24_1) v24_1, rowT eSl w.heap.size 30 (.slice A24_2 (List.length u24_2) k24_2) u24_2, inns (eI .i64) w.heap.size 3 u24_2 v24_2.1]) (by kernel_rfl) ?_
    replace h := H.done h
    subst h
    exact ret func8 rfl (vs := [.bool false]) (.tmp (by kernel_rfl) .nil) rfl (fun W S => ⟨rfl, S.below⟩)
  replace h := H.f q11 h
  refine c_skip ?_
  refine c_seq ?_
  refine c_seq ?_
  refine r_start ?_
  refine p 3 ?_
  refine rend ?_
  refine frg (fun u => (jk u 0 95 [.bool (v28_2 != v17_2.1)])) (by kernel_rfl) fun u => ?_
  refine keep 10 (its' := [rowT nSign w.heap.size 85 (.slice A5_1 (List.length v5_1) k5_1) v5_1, rowT eSl w.heap.size 30 (.slice A5_2 (List.length u5_2) k5_2) u5_2, inns (eI .i64) w.heap.size 3 u5_2 v5_2.1, rowT nSign w.heap.size 85 (.slice A6_1 (List.length v13_2.2) k6_1) v13_2.2, rowT eSl w.heap.size 30 (.slice A7_1 (List.length u7_1) k7_1) u7_1, inns (eI .i64) w.heap.size 3 u7_1 v17_2.2, rowT nSign w.heap.size 85 (.slice A10_2 (List.length v10_2) k10_2) v10_2, rowT nSign w.heap.size 85 (.slice A24_1 (List.length v24_1) k24_1) v24_1, rowT eSl w.heap.size 30 (.slice A24_2 (List.length u24_2) k24_2) u24_2, inns (eI .i64) w.heap.size 3 u24_2 v24_2.1]) (by kernel_rfl) ?_
  refine c_or (v28_2 != v17_2.1) (fun q12 => ?_) (fun q12 => ?_)
  · replace h := H.t q12 h
    refine c_seq ?_
    refine r_start ?_
    refine p 1 ?_
    refine rend ?_
    replace h := H.done h
    subst h
    exact ret func8 rfl (vs := [.bool false]) (.tmp (by kernel_rfl) .nil) rfl (fun W S => ⟨rfl, S.below⟩)
  replace h := H.f q12 h
  refine c_skip ?_
  refine c_seq ?_
  refine r_start ?_
  refine p 1 ?_
  refine rend ?_
  replace h := H.done h
  subst h
  exact ret func8 rfl (vs := [.bool true]) (.tmp (by kernel_rfl) .nil) rfl (fun W S => ⟨rfl, S.below⟩)
end Go.Proofs.XC
