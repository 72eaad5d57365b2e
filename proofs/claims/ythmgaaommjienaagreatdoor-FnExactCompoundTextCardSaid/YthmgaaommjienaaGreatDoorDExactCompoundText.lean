/- Contracts: each function, called where its plain function gives an answer, returns just that answer and changes nothing that was there. By AI agents; no person has read it. -/
import Derived.Test.YthmgaaommjienaaGreatDoorC1
set_option linter.unusedVariables false
set_option linter.unusedSimpArgs false
set_option maxRecDepth 100000
namespace Go.Proofs.XC
open Go Go.RowKit
open Tryz
theorem C.s_CompoundText {fu : Nat} {a0 : (List Sign)} {A0 : Option Addr} {k0 : Nat} {r : (Str × Bool)} (w : World) (h : X.s_CompoundText fu a0 = some r) (h0 : RdT nSign w (.slice A0 (List.length a0) k0) a0) : Calls prog 29 #[.slice A0 (List.length a0) k0] w (Ret w (.tuple #[.string (bs r.1), .bool r.2])) := by
  refine calls (M := no) (args := [.slice A0 (List.length a0) k0]) func29 rfl ?_
  replace h : H (X.s_CompoundText fu a0) (fun o => o = r) := H.mk h
  unfold X.s_CompoundText at h
  refine c_seq ?_
  refine r_start ?_
  refine p 2 ?_
  refine rend ?_
  refine c_seq ?_
  refine c_seq ?_
  refine r_start ?_
  refine p 1 ?_
  obtain ⟨v1_1, hv1_1, h⟩ := H.call h
  refine xq rfl (y_call [.slice A0 (List.length a0) k0] (.bool v1_1) func91 (fun W S => C.s_cmGood W hv1_1 ((s_arg h0).out W S))) ?_
  refine p 1 ?_
  refine rend ?_
  refine c_or (!v1_1) (fun q1 => ?_) (fun q1 => ?_)
  · replace h := H.t q1 h
    refine c_seq ?_
    refine r_start ?_
    refine p 2 ?_
    refine rend ?_
    replace h := H.done h
    subst h
    exact ret func29 rfl (vs := [.string (bs ([] : Str)), .bool false]) (.tmp (by kernel_rfl) (.tmp (by kernel_rfl) .nil)) rfl (fun W S => ⟨rfl, S.below⟩)
  replace h := H.f q1 h
  refine c_skip ?_
  refine c_seq ?_
  refine r_start ?_
  refine p 1 ?_
  refine rend ?_
  refine c_seq ?_
  refine c_seq ?_
  refine r_start ?_
  refine p 3 ?_
  refine rend ?_
  refine c_block ?_
  refine joinH (X := Str) 0 (H.bnd h) (fun (x : Str) => x) (fun t3 => []) (fun t3 u => (jk u 0 4 (.string (bs t3) :: (jk u 5 22 [])))) (fun h hj4 => ?_) ?_
  · skip
    refine rangeR (X := Str) (s_arg h0) (fun (x : Str) => x) (fun t2 => []) (fun (j5 : Nat) t2 u => (jk u 0 4 (.string (bs t2) :: (jk u 5 5 (.slice A0 (List.length a0) k0 :: .int .i64 (List.length a0 : Int) :: .int .i64 (j5 : Int) :: (jk u 13 14 [])))))) ([] : Str) h (by kernel_rfl) (by kernel_rfl) ?_ ?_
    · intro j5 t2 u x6 q7 hg8 hw9 h
      refine c_seq ?_
      refine r_start ?_
      refine p 1 ?_
      refine rend ?_
      refine c_seq ?_
      refine c_yes q7 ?_
      refine c_skip ?_
      refine c_seq ?_
      refine c_block ?_
      refine c_seq ?_
      refine r_start ?_
      refine p 1 ?_
      refine xq rfl (y_idx (e := nSign) (el := 46) hg8 (s_arg h0)) ?_
      refine xq rfl (y_el (e := nSign) 0 (.agg (eSign x6).toArray) hg8 (s_arg h0)) ?_
      refine xx rfl (x_new (eSign zSign) fun g6_3 => ?_)
      refine p 1 ?_
      refine xx rfl (x_sto 0 g6_3 0 (eSign x6) ?_)
      refine rend ?_
      refine c_seq ?_
      refine c_seq ?_
      refine r_start ?_
      refine p 2 ?_
      refine rend ?_
      refine c_or (decide ((j5 : Int) > 0)) (fun q10 => ?_) (fun q10 => ?_)
      · replace h := H.t q10 h
        refine r_start ?_
        refine p 1 ?_
        obtain ⟨y8_1, hy8_1, h⟩ := H.call h
        refine xq rfl (y_cat hy8_1) ?_
        refine p 1 ?_
        refine rend ?_
        refine r_start ?_
        refine p 1 ?_
        refine xq rfl (y_load (.agg (eSign x6).toArray) 0 g6_3 0) ?_
        obtain ⟨v9_2, hv9_2, h⟩ := H.call h
        refine xq rfl (y_call [.agg (eSign x6).toArray] (.string (bs v9_2)) func83 (fun W S => C.s_paText W hv9_2)) ?_
        obtain ⟨y9_3, hy9_3, h⟩ := H.call h
        refine xq rfl (y_cat hy9_3) ?_
        refine p 1 ?_
        refine rend ?_
        refine c_inb ?_
        refine r_start ?_
        refine p 2 ?_
        refine rend ?_
        refine c_set 12 (ci hw9) ?_
        replace h := H.inl h
        exact h y9_3 _ _ rfl (by kernel_rfl) (by kernel_rfl)
      replace h := H.f q10 h
      refine c_skip ?_
      refine r_start ?_
      refine p 1 ?_
      refine xq rfl (y_load (.agg (eSign x6).toArray) 0 g6_3 0) ?_
      obtain ⟨v9_2, hv9_2, h⟩ := H.call h
      refine xq rfl (y_call [.agg (eSign x6).toArray] (.string (bs v9_2)) func83 (fun W S => C.s_paText W hv9_2)) ?_
      obtain ⟨y9_3, hy9_3, h⟩ := H.call h
      refine xq rfl (y_cat hy9_3) ?_
      refine p 1 ?_
      refine rend ?_
      refine c_inb ?_
      refine r_start ?_
      refine p 2 ?_
      refine rend ?_
      refine c_set 12 (ci hw9) ?_
      replace h := H.inl h
      exact h y9_3 _ _ rfl (by kernel_rfl) (by kernel_rfl)
    · intro t2 u q7 h
      refine c_seq ?_
      refine r_start ?_
      refine p 1 ?_
      refine rend ?_
      refine c_seq ?_
      refine c_no q7 ?_
      refine cx ?_
      replace h := H.done h
      exact hj4 t2 _ _ h (by kernel_rfl) (by kernel_rfl)
  intro t3 u h
  refine c_seq ?_
  refine r_start ?_
  refine p 3 ?_
  refine rend ?_
  replace h := H.done h
  subst h
  exact ret func29 rfl (vs := [.string (bs t3), .bool true]) (.tmp (by kernel_rfl) (.tmp (by kernel_rfl) .nil)) rfl (fun W S => ⟨rfl, S.below⟩)
theorem C.i_CompoundText {fu : Nat} {a0 : (List Sign)} {A0 : Option Addr} {k0 : Nat} {r : (Str × Bool)} (w : World) (h : X.i_CompoundText fu a0 = some r) (h0 : RdT nSign w (.slice A0 (List.length a0) k0) a0) : Calls prog 30 #[.slice A0 (List.length a0) k0] w (Ret w (.tuple #[.string (bs r.1), .bool r.2])) := by
  refine calls (M := no) (args := [.slice A0 (List.length a0) k0]) func30 rfl ?_
  replace h : H (X.i_CompoundText fu a0) (fun o => o = r) := H.mk h
  unfold X.i_CompoundText at h
  refine c_seq ?_
  refine r_start ?_
  refine p 2 ?_
  refine rend ?_
  refine c_seq ?_
  refine c_seq ?_
  refine r_start ?_
  refine p 1 ?_
  obtain ⟨v1_1, hv1_1, h⟩ := H.call h
  refine xq rfl (y_call [.slice A0 (List.length a0) k0] (.bool v1_1) func92 (fun W S => C.i_isMade W hv1_1 ((s_arg h0).out W S))) ?_
  refine p 1 ?_
  refine rend ?_
  refine c_or (!v1_1) (fun q1 => ?_) (fun q1 => ?_)
  · replace h := H.t q1 h
    refine c_seq ?_
    refine r_start ?_
    refine p 2 ?_
    refine rend ?_
    replace h := H.done h
    subst h
    exact ret func30 rfl (vs := [.string (bs ([] : Str)), .bool false]) (.tmp (by kernel_rfl) (.tmp (by kernel_rfl) .nil)) rfl (fun W S => ⟨rfl, S.below⟩)
  replace h := H.f q1 h
  refine c_skip ?_
  refine c_seq ?_
  refine r_start ?_
  refine p 1 ?_
  refine rend ?_
  refine c_seq ?_
  refine c_seq ?_
  refine r_start ?_
  refine p 3 ?_
  refine rend ?_
  refine c_block ?_
  refine c_nil eS 9 ?_
  refine joinH (X := ((List Str) × Option Addr × Nat)) 0 (H.bnd h) (fun ⟨l5, A6, k7⟩ => l5) (fun ⟨l5, A6, k7⟩ => [rowT eS w.heap.size 9 (.slice A6 (List.length l5) k7) l5]) (fun ⟨l5, A6, k7⟩ u => (jk u 0 4 (.slice A6 (List.length l5) k7 :: (jk u 5 19 [])))) (fun h hj8 => ?_) ?_
  · skip
    refine rangeR (X := ((List Str) × Option Addr × Nat)) (s_arg h0) (fun ⟨l2, A3, k4⟩ => l2) (fun ⟨l2, A3, k4⟩ => [rowT eS w.heap.size 9 (.slice A3 (List.length l2) k4) l2]) (fun (j9 : Nat) ⟨l2, A3, k4⟩ u => (jk u 0 4 (.slice A3 (List.length l2) k4 :: (jk u 5 5 (.slice A0 (List.length a0) k0 :: .int .i64 (List.length a0 : Int) :: .int .i64 (j9 : Int) :: (jk u 13 11 [])))))) (([] : List Str), none, 0) h (by kernel_rfl) (by kernel_rfl) ?_ ?_
    · intro j9 x u x10 q11 hg12 hw13 h
      obtain ⟨l2, A3, k4⟩ := x
      refine c_seq ?_
      refine r_start ?_
      refine p 1 ?_
      refine rend ?_
      refine c_seq ?_
      refine c_yes q11 ?_
      refine c_skip ?_
      refine c_seq ?_
      refine c_block ?_
      refine c_seq ?_
      refine r_start ?_
      refine xq rfl (y_idx (e := nSign) (el := 46) hg12 (s_arg h0)) ?_
      refine xq rfl (y_el (e := nSign) 0 (.agg (eSign x10).toArray) hg12 (s_arg h0)) ?_
      refine xx rfl (x_new (eSign zSign) fun g6_2 => ?_)
      refine xx rfl (x_sto 1 g6_2 0 (eSign x10) ?_)
      refine rend ?_
      refine r_start ?_
      refine p 1 ?_
      refine xq rfl (y_load (.agg (eSign x10).toArray) 1 g6_2 0) ?_
      obtain ⟨v7_2, hv7_2, h⟩ := H.call h
      refine xq rfl (y_call [.agg (eSign x10).toArray] (.string (bs v7_2)) func86 (fun W S => C.i_Sign_text W hv7_2)) ?_
      refine xx rfl (e_lit (e := eS) (el := 9) [.string (bs v7_2)] ([v7_2] : List Str) fun A7_3 k7_3 => ?_)
      obtain ⟨y7_4, hy7_4, h⟩ := H.call h
      refine xx rfl (e_app 0 hy7_4 (s_own 2) fun A7_4 k7_4 => ?_)
      refine p 1 ?_
      refine rend ?_
      refine c_inb ?_
      refine r_start ?_
      refine p 2 ?_
      refine rend ?_
      refine c_set 12 (ci hw13) ?_
      replace h := H.inl h
      exact h (y7_4, A7_4, k7_4) _ _ rfl (by kernel_rfl) (by kernel_rfl)
    · intro x u q11 h
      obtain ⟨l2, A3, k4⟩ := x
      refine c_seq ?_
      refine r_start ?_
      refine p 1 ?_
      refine rend ?_
      refine c_seq ?_
      refine c_no q11 ?_
      refine cx ?_
      replace h := H.done h
      exact hj8 (l2, A3, k4) _ _ h (by kernel_rfl) (by kernel_rfl)
  intro x u h
  obtain ⟨l5, A6, k7⟩ := x
  refine c_seq ?_
  refine r_start ?_
  refine p 1 ?_
  obtain ⟨v9_1, hv9_1, h⟩ := H.call h
  refine xq rfl (y_call [.slice A6 (List.length l5) k7, .string (bs ([38] : Str))] (.string (bs v9_1)) func93 (fun W S => C.strings_Join W hv9_1 ((s_own 0).out W S))) ?_
  refine p 2 ?_
  refine rend ?_
  replace h := H.done h
  subst h
  exact ret func30 rfl (vs := [.string (bs v9_1), .bool true]) (.tmp (by kernel_rfl) (.tmp (by kernel_rfl) .nil)) rfl (fun W S => ⟨rfl, S.below⟩)
theorem C.l_FnExactCompoundText {fu : Nat} {a0 : (List Sign)} {A0 : Option Addr} {k0 : Nat} {r : Bool} (w : World) (h : X.l_FnExactCompoundText fu a0 = some r) (h0 : RdT nSign w (.slice A0 (List.length a0) k0) a0) : Calls prog 7 #[.slice A0 (List.length a0) k0] w (Ret w (.bool r)) := by
  refine calls (M := no) (args := [.slice A0 (List.length a0) k0]) func7 rfl ?_
  replace h : H (X.l_FnExactCompoundText fu a0) (fun o => o = r) := H.mk h
  unfold X.l_FnExactCompoundText at h
  refine c_seq ?_
  refine r_start ?_
  refine p 1 ?_
  refine rend ?_
  refine c_seq ?_
  refine r_start ?_
  refine p 1 ?_
  refine rend ?_
  refine c_seq ?_
  refine r_start ?_
  refine p 2 ?_
  obtain ⟨v2_2, hv2_2, h⟩ := H.call h
  refine xq rfl (y_call [.slice A0 (List.length a0) k0, .int .i64 1048576] (.int .i64 v2_2) func22 (fun W S => C.l_szSignS W hv2_2 ((s_arg h0).out W S))) ?_
  refine p 1 ?_
  refine rend ?_
  refine c_seq ?_
  refine c_seq ?_
  refine r_start ?_
  refine p 2 ?_
  refine rend ?_
  refine c_or (decide (v2_2 < 0)) (fun q1 => ?_) (fun q1 => ?_)
  · replace h := H.t q1 h
    refine c_seq ?_
    refine r_start ?_
    refine p 1 ?_
    refine rend ?_
    replace h := H.done h
    subst h
    exact ret func7 rfl (vs := [.bool true]) (.tmp (by kernel_rfl) .nil) rfl (fun W S => ⟨rfl, S.below⟩)
  replace h := H.f q1 h
  refine c_skip ?_
  refine c_seq ?_
  refine r_start ?_
  refine p 1 ?_
  obtain ⟨v5_1, hv5_1, h⟩ := H.call h
  refine xx rfl (e_cr [.slice A0 (List.length a0) k0] (fun v => v) func24 (fun W S => C.l_toSignS W hv5_1 ((s_arg h0).out W S)) fun A5_1 k5_1 => ?_)
  obtain ⟨v5_2, hv5_2, h⟩ := H.call h
  refine xq rfl (y_call [.slice A5_1 (List.length v5_1) k5_1] (.tuple #[.string (bs v5_2.1), .bool v5_2.2]) func29 (fun W S => C.s_CompoundText W hv5_2 ((s_own 0).out W S))) ?_
  refine p 5 ?_
  refine rend ?_
  refine c_seq ?_
  refine r_start ?_
  refine p 1 ?_
  obtain ⟨v6_1, hv6_1, h⟩ := H.call h
  refine xx rfl (e_cr [.slice A0 (List.length a0) k0] (fun v => v) func24 (fun W S => C.l_toSignS W hv6_1 ((s_arg h0).out W S)) fun A6_1 k6_1 => ?_)
  refine p 1 ?_
  refine rend ?_
  refine c_seq ?_
  refine r_start ?_
  refine p 1 ?_
  obtain ⟨v7_1, hv7_1, h⟩ := H.call h
  refine xq rfl (y_call [.slice A6_1 (List.length v6_1) k6_1] (.tuple #[.string (bs v7_1.1), .bool v7_1.2]) func30 (fun W S => C.i_CompoundText W hv7_1 ((s_own 1).out W S))) ?_
  refine p 5 ?_
  refine rend ?_
  refine c_seq ?_
  refine c_seq ?_
  refine r_start ?_
  refine p 4 ?_
  refine br (!seq v7_1.1 v5_2.1) (fun q2 => ?_) (fun q2 => ?_)
  · replace h := H.t q2 h
    refine o_set 30 (congrArg Value.bool q2) ?_
    refine p 4 ?_
    refine rend ?_
    refine c_t (by kernel_rfl) ?_
    refine c_seq ?_
    refine r_start ?_
    refine p 1 ?_
    refine rend ?_
    replace h := H.done h
    subst h
    exact ret func7 rfl (vs := [.bool false]) (.tmp (by kernel_rfl) .nil) rfl (fun W S => ⟨rfl, S.below⟩)
  replace h := H.f q2 h
  refine o_set 30 (congrArg Value.bool q2) ?_
  refine p 4 ?_
  refine rend ?_
  refine c_or (!(v7_1.2 == v5_2.2)) (fun q3 => ?_) (fun q3 => ?_)
  · replace h := H.t q3 h
    refine c_seq ?_
    refine r_start ?_
    refine p 1 ?_
    refine rend ?_
    replace h := H.done h
    subst h
    exact ret func7 rfl (vs := [.bool false]) (.tmp (by kernel_rfl) .nil) rfl (fun W S => ⟨rfl, S.below⟩)
  replace h := H.f q3 h
  refine c_skip ?_
  refine c_seq ?_
  refine c_seq ?_
  refine r_start ?_
  refine p 2 ?_
  obtain ⟨v10_2, hv10_2, h⟩ := H.call h
  refine xx rfl (e_cr [.slice A0 (List.length a0) k0] (fun v => v) func24 (fun W S => C.l_toSignS W hv10_2 ((s_arg h0).out W S)) fun A10_2 k10_2 => ?_)
  obtain ⟨v10_3, hv10_3, h⟩ := H.call h
  refine xq rfl (y_call [.slice A6_1 (List.length v6_1) k6_1, .slice A10_2 (List.length v10_2) k10_2] (.bool v10_3) func26 (fun W S => C.l_eqSignS W hv10_3 ((s_own 1).out W S) ((s_own 2).out W S))) ?_
  refine p 1 ?_
  refine rend ?_
  refine c_or (!v10_3) (fun q4 => ?_) (fun q4 => ?_)
  · replace h := H.t q4 h
    refine c_seq ?_
    refine r_start ?_
    refine p 1 ?_
    refine rend ?_
    replace h := H.done h
    subst h
    exact ret func7 rfl (vs := [.bool false]) (.tmp (by kernel_rfl) .nil) rfl (fun W S => ⟨rfl, S.below⟩)
  replace h := H.f q4 h
  refine c_skip ?_
  refine c_seq ?_
  refine r_start ?_
  refine p 1 ?_
  refine rend ?_
  replace h := H.done h
  subst h
  exact ret func7 rfl (vs := [.bool true]) (.tmp (by kernel_rfl) .nil) rfl (fun W S => ⟨rfl, S.below⟩)
end Go.Proofs.XC
