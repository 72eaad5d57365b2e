/- Contracts: each function, called where its plain function gives an answer, returns just that answer and changes nothing that was there. By AI agents; no person has read it. -/
import Derived.Test.YtcniidjoaancoaaGreatDoorC1
import Derived.Test.YtcniidjoaancoaaGreatDoorE5
set_option linter.unusedVariables false
set_option linter.unusedSimpArgs false
set_option maxRecDepth 100000
set_option maxHeartbeats 40000000
namespace Go.Proofs.XC
open Go Go.RowKit
open Tryz
theorem C.s_WeakestFor {fu : Nat} {a0 : Pattern} {a1 : (List Sign)} {A1 : Option Addr} {k1 : Nat} {r : (Pattern × Int × Bool)} (w : World) (h : X.s_WeakestFor fu a0 a1 = some r) (h1 : RdT nSign w (.slice A1 (List.length a1) k1) a1) : Calls prog 56 #[.agg (ePattern a0).toArray, .slice A1 (List.length a1) k1] w (Ret w (.tuple #[.agg (ePattern r.1).toArray, .int .i64 r.2.1, .bool r.2.2])) := by
  refine calls (M := no) (args := [.agg (ePattern a0).toArray, .slice A1 (List.length a1) k1]) func56 rfl ?_
  replace h : H (X.s_WeakestFor fu a0 a1) (fun o => o = r) := H.mk h
  unfold X.s_WeakestFor at h
  refine c_seq ?_
  refine r_start ?_
  refine xx rfl (x_box (ePattern a0) fun g0_0 => ?_)
  refine xx rfl (x_new (ePattern zPattern) fun g0_1 => ?_)
  refine p 2 ?_
  refine rend ?_
  refine c_seq ?_
  refine c_seq ?_
  refine r_start ?_
  refine xq rfl (y_load (.agg (ePattern a0).toArray) 0 g0_0 0) ?_
  refine p 1 ?_
  obtain ⟨v1_2, hv1_2, h⟩ := H.call h
  refine xq rfl (y_call [.agg (ePattern a0).toArray, .slice A1 (List.length a1) k1] (.bool v1_2) func104 (fun W S => C.s_seAsked W hv1_2 ((s_arg h1).out W S))) ?_
  refine p 2 ?_
  refine br (!v1_2) (fun q1 => ?_) (fun q1 => ?_)
  · replace h := H.t q1 h
    refine o_set 12 (congrArg Value.bool q1) ?_
    refine p 11 ?_
    refine rend ?_
    refine c_t (by kernel_rfl) ?_
    refine c_seq ?_
    refine r_start ?_
    refine p 1 ?_
    refine xx rfl (x_sto 1 g0_1 0 (ePattern zPattern) ?_)
    refine p 2 ?_
    refine rend ?_
    replace h := H.done h
    subst h
    exact ret func56 rfl (vs := [.agg (ePattern zPattern).toArray, .int .i64 0, .bool false]) (.cell 1 g0_1 rfl (by kernel_rfl) (by kernel_rfl) (.tmp (by kernel_rfl) (.tmp (by kernel_rfl) .nil))) rfl (fun W S => ⟨rfl, S.below⟩)
  replace h := H.f q1 h
  refine o_set 12 (congrArg Value.bool q1) ?_
  refine p 5 ?_
  refine br ((List.length a1 : Int) == 0) (fun q2 => ?_) (fun q2 => ?_)
  · replace h := H.t q2 h
    refine o_set 17 (congrArg Value.bool q2) ?_
    refine p 6 ?_
    refine rend ?_
    refine c_t (by kernel_rfl) ?_
    refine c_seq ?_
    refine r_start ?_
    refine p 1 ?_
    refine xx rfl (x_sto 1 g0_1 0 (ePattern zPattern) ?_)
    refine p 2 ?_
    refine rend ?_
    replace h := H.done h
    subst h
    exact ret func56 rfl (vs := [.agg (ePattern zPattern).toArray, .int .i64 0, .bool false]) (.cell 1 g0_1 rfl (by kernel_rfl) (by kernel_rfl) (.tmp (by kernel_rfl) (.tmp (by kernel_rfl) .nil))) rfl (fun W S => ⟨rfl, S.below⟩)
  replace h := H.f q2 h
  refine o_set 17 (congrArg Value.bool q2) ?_
  refine xq rfl (y_load (.agg (ePattern a0).toArray) 0 g0_0 0) ?_
  refine p 1 ?_
  obtain ⟨v1_12, hv1_12, h⟩ := H.call h
  refine xx rfl (e_cr [.agg (ePattern a0).toArray, .slice A1 (List.length a1) k1, .int .i64 0] (fun v => v) func105 (fun W S => C.s_seWithin W hv1_12 ((s_arg h1).out W S)) fun A1_12 k1_12 => ?_)
  refine p 3 ?_
  refine rend ?_
  refine c_or (decide ((List.length v1_12 : Int) > 0)) (fun q3 => ?_) (fun q3 => ?_)
  · replace h := H.t q3 h
    refine c_seq ?_
    refine r_start ?_
    refine p 1 ?_
    refine xx rfl (x_sto 1 g0_1 0 (ePattern zPattern) ?_)
    refine p 2 ?_
    refine rend ?_
    replace h := H.done h
    subst h
    exact ret func56 rfl (vs := [.agg (ePattern zPattern).toArray, .int .i64 0, .bool false]) (.cell 1 g0_1 rfl (by kernel_rfl) (by kernel_rfl) (.tmp (by kernel_rfl) (.tmp (by kernel_rfl) .nil))) rfl (fun W S => ⟨rfl, S.below⟩)
  replace h := H.f q3 h
  refine c_skip ?_
  refine c_seq ?_
  refine r_start ?_
  refine p 1 ?_
  refine rend ?_
  refine c_seq ?_
  refine c_block ?_
  refine joinH (X := (Int × Pattern)) 0 (H.bnd h) (fun (x : (Int × Pattern)) => x) (fun ⟨n6, s7⟩ => [box g0_0 90 (ePattern s7), box g0_1 90 (ePattern zPattern), rowT (eI .i64) w.heap.size 3 (.slice A1_12 (List.length v1_12) k1_12) v1_12]) (fun ⟨n6, s7⟩ u => (jk u 0 2 (.pointer (some ⟨g0_0, 0, none⟩) :: (jk u 3 1 (.pointer (some ⟨g0_1, 0, none⟩) :: (jk u 5 2 (.int .i64 n6 :: (jk u 8 40 [])))))))) (fun h hj8 => ?_) ?_
  · skip
    refine loopR (X := (Int × Pattern)) (fun (x : (Int × Pattern)) => x) (fun ⟨n4, s5⟩ => [box g0_0 90 (ePattern s5), box g0_1 90 (ePattern zPattern), rowT (eI .i64) w.heap.size 3 (.slice A1_12 (List.length v1_12) k1_12) v1_12]) (fun ⟨n4, s5⟩ u => (jk u 0 1 (.slice A1 (List.length a1) k1 :: .pointer (some ⟨g0_0, 0, none⟩) :: (jk u 3 1 (.pointer (some ⟨g0_1, 0, none⟩) :: (jk u 5 2 (.int .i64 n4 :: (jk u 8 40 [])))))))) (0, a0) h (by kernel_rfl) (by kernel_rfl) ?_
    intro x u h
    obtain ⟨n4, s5⟩ := x
    refine c_seq ?_
    refine c_seq ?_
    refine r_start ?_
    refine xq rfl (y_load (.agg (ePattern s5).toArray) 0 g0_0 0) ?_
    refine p 1 ?_
    obtain ⟨v4_2, hv4_2, h⟩ := H.call h
    refine xx rfl (e_cr [.agg (ePattern s5).toArray, .slice A1 (List.length a1) k1, .int .i64 0] (fun v => v) func105 (fun W S => C.s_seWithin W hv4_2 ((s_arg h1).out W S)) fun A4_2 k4_2 => ?_)
    refine p 2 ?_
    refine rend ?_
    refine c_or ((List.length v4_2 : Int) == 0) (fun q9 => ?_) (fun q9 => ?_)
    · replace h := H.t q9 h
      refine c_skip ?_
      refine c_block ?_
      refine c_seq ?_
      refine c_seq ?_
      refine r_start ?_
      refine p 1 ?_
      refine rend ?_
      refine c_block ?_
      refine c_seq ?_
      refine r_start ?_
      refine p 2 ?_
      refine rend ?_
      refine c_or (n4 == 0) (fun q10 => ?_) (fun q10 => ?_)
      · replace h := H.t q10 h
        refine r_start ?_
        refine p 1 ?_
        refine xx rfl (x_sto 0 g0_0 3 (ePattern ({ s5 with Steps := ([42] : Str) })) ?_)
        refine rend ?_
        refine c_inb ?_
        refine r_start ?_
        refine p 3 ?_
        refine rend ?_
        refine c_inb ?_
        replace h := H.inl h
        exact h ((wr (n4 + 1)), { s5 with Steps := ([42] : Str) }) _ _ rfl (by kernel_rfl) (by kernel_rfl)
      replace h := H.f q10 h
      refine c_seq ?_
      refine r_start ?_
      refine p 2 ?_
      refine rend ?_
      refine c_or (n4 == 1) (fun q11 => ?_) (fun q11 => ?_)
      · replace h := H.t q11 h
        refine r_start ?_
        refine p 1 ?_
        refine xx rfl (x_sto 0 g0_0 4 (ePattern ({ s5 with Hands := 0 })) ?_)
        refine rend ?_
        refine c_inb ?_
        refine r_start ?_
        refine p 3 ?_
        refine rend ?_
        refine c_inb ?_
        replace h := H.inl h
        exact h ((wr (n4 + 1)), { s5 with Hands := 0 }) _ _ rfl (by kernel_rfl) (by kernel_rfl)
      replace h := H.f q11 h
      refine c_seq ?_
      refine r_start ?_
      refine p 2 ?_
      refine rend ?_
      refine c_or (n4 == 2) (fun q12 => ?_) (fun q12 => ?_)
      · replace h := H.t q12 h
        refine r_start ?_
        refine p 1 ?_
        refine xx rfl (x_sto 0 g0_0 1 (ePattern ({ s5 with Orient := ([63, 63] : Str) })) ?_)
        refine rend ?_
        refine c_inb ?_
        refine r_start ?_
        refine p 3 ?_
        refine rend ?_
        refine c_inb ?_
        replace h := H.inl h
        exact h ((wr (n4 + 1)), { s5 with Orient := ([63, 63] : Str) }) _ _ rfl (by kernel_rfl) (by kernel_rfl)
      replace h := H.f q12 h
      refine c_seq ?_
      refine r_start ?_
      refine p 2 ?_
      refine rend ?_
      refine c_or (n4 == 3) (fun q13 => ?_) (fun q13 => ?_)
      · replace h := H.t q13 h
        refine r_start ?_
        refine p 1 ?_
        refine xx rfl (x_sto 0 g0_0 2 (ePattern ({ s5 with Region := (-1) })) ?_)
        refine rend ?_
        refine c_inb ?_
        refine r_start ?_
        refine p 3 ?_
        refine rend ?_
        refine c_inb ?_
        replace h := H.inl h
        exact h ((wr (n4 + 1)), { s5 with Region := (-1) }) _ _ rfl (by kernel_rfl) (by kernel_rfl)
      replace h := H.f q13 h
      refine r_start ?_
      refine p 1 ?_
      refine xx rfl (x_sto 0 g0_0 0 (ePattern ({ s5 with Shape := ([63, 63, 63, 63, 63] : Str) })) ?_)
      refine rend ?_
      refine c_inb ?_
      refine r_start ?_
      refine p 3 ?_
      refine rend ?_
      refine c_inb ?_
      replace h := H.inl h
      exact h ((wr (n4 + 1)), { s5 with Shape := ([63, 63, 63, 63, 63] : Str) }) _ _ rfl (by kernel_rfl) (by kernel_rfl)
    replace h := H.f q9 h
    refine cx ?_
    replace h := H.inr h
    exact hj8 (n4, s5) _ _ h (by kernel_rfl) (by kernel_rfl)
  intro x u h
  obtain ⟨n6, s7⟩ := x
  refine c_seq ?_
  refine r_start ?_
  refine xq rfl (y_load (.agg (ePattern s7).toArray) 0 g0_0 0) ?_
  refine p 1 ?_
  refine xx rfl (x_sto 1 g0_1 0 (ePattern s7) ?_)
  refine p 2 ?_
  refine rend ?_
  replace h := H.done h
  subst h
  exact ret func56 rfl (vs := [.agg (ePattern s7).toArray, .int .i64 n6, .bool true]) (.cell 1 g0_1 rfl (by kernel_rfl) (by kernel_rfl) (.tmp (by kernel_rfl) (.tmp (by kernel_rfl) .nil))) rfl (fun W S => ⟨rfl, S.below⟩)
theorem C.i_WeakestFor {fu : Nat} {a0 : Pattern} {a1 : (List Sign)} {A1 : Option Addr} {k1 : Nat} {r : (Pattern × Int × Bool)} (w : World) (h : X.i_WeakestFor fu a0 a1 = some r) (h1 : RdT nSign w (.slice A1 (List.length a1) k1) a1) : Calls prog 57 #[.agg (ePattern a0).toArray, .slice A1 (List.length a1) k1] w (Ret w (.tuple #[.agg (ePattern r.1).toArray, .int .i64 r.2.1, .bool r.2.2])) := by
  refine calls (M := no) (args := [.agg (ePattern a0).toArray, .slice A1 (List.length a1) k1]) func57 rfl ?_
  replace h : H (X.i_WeakestFor fu a0 a1) (fun o => o = r) := H.mk h
  unfold X.i_WeakestFor at h
  refine c_seq ?_
  refine r_start ?_
  refine xx rfl (x_box (ePattern a0) fun g0_0 => ?_)
  refine xx rfl (x_new (ePattern zPattern) fun g0_1 => ?_)
  refine p 2 ?_
  refine rend ?_
  refine c_seq ?_
  refine c_seq ?_
  refine r_start ?_
  refine xq rfl (y_load (.agg (ePattern a0).toArray) 0 g0_0 0) ?_
  obtain ⟨v1_1, hv1_1, h⟩ := H.call h
  refine xq rfl (y_call [.agg (ePattern a0).toArray] (.bool v1_1) func106 (fun W S => C.i_IsPattern W hv1_1)) ?_
  refine p 2 ?_
  refine br (!v1_1) (fun q1 => ?_) (fun q1 => ?_)
  · replace h := H.t q1 h
    refine o_set 11 (congrArg Value.bool q1) ?_
    refine p 16 ?_
    refine rend ?_
    refine c_t (by kernel_rfl) ?_
    refine c_seq ?_
    refine r_start ?_
    refine p 1 ?_
    refine xx rfl (x_sto 1 g0_1 0 (ePattern zPattern) ?_)
    refine p 2 ?_
    refine rend ?_
    replace h := H.done h
    subst h
    exact ret func57 rfl (vs := [.agg (ePattern zPattern).toArray, .int .i64 0, .bool false]) (.cell 1 g0_1 rfl (by kernel_rfl) (by kernel_rfl) (.tmp (by kernel_rfl) (.tmp (by kernel_rfl) .nil))) rfl (fun W S => ⟨rfl, S.below⟩)
  replace h := H.f q1 h
  refine o_set 11 (congrArg Value.bool q1) ?_
  refine p 5 ?_
  refine br ((List.length a1 : Int) == 0) (fun q2 => ?_) (fun q2 => ?_)
  · replace h := H.t q2 h
    refine o_set 16 (congrArg Value.bool q2) ?_
    refine p 11 ?_
    refine rend ?_
    refine c_t (by kernel_rfl) ?_
    refine c_seq ?_
    refine r_start ?_
    refine p 1 ?_
    refine xx rfl (x_sto 1 g0_1 0 (ePattern zPattern) ?_)
    refine p 2 ?_
    refine rend ?_
    replace h := H.done h
    subst h
    exact ret func57 rfl (vs := [.agg (ePattern zPattern).toArray, .int .i64 0, .bool false]) (.cell 1 g0_1 rfl (by kernel_rfl) (by kernel_rfl) (.tmp (by kernel_rfl) (.tmp (by kernel_rfl) .nil))) rfl (fun W S => ⟨rfl, S.below⟩)
  replace h := H.f q2 h
  refine o_set 16 (congrArg Value.bool q2) ?_
  refine p 1 ?_
  obtain ⟨v1_10, hv1_10, h⟩ := H.call h
  refine xq rfl (y_call [.slice A1 (List.length a1) k1, .int .i64 16] (.bool v1_10) func63 (fun W S => C.i_areSigns W hv1_10 ((s_arg h1).out W S))) ?_
  refine p 3 ?_
  refine br (!v1_10) (fun q3 => ?_) (fun q3 => ?_)
  · replace h := H.t q3 h
    refine o_set 21 (congrArg Value.bool q3) ?_
    refine p 6 ?_
    refine rend ?_
    refine c_t (by kernel_rfl) ?_
    refine c_seq ?_
    refine r_start ?_
    refine p 1 ?_
    refine xx rfl (x_sto 1 g0_1 0 (ePattern zPattern) ?_)
    refine p 2 ?_
    refine rend ?_
    replace h := H.done h
    subst h
    exact ret func57 rfl (vs := [.agg (ePattern zPattern).toArray, .int .i64 0, .bool false]) (.cell 1 g0_1 rfl (by kernel_rfl) (by kernel_rfl) (.tmp (by kernel_rfl) (.tmp (by kernel_rfl) .nil))) rfl (fun W S => ⟨rfl, S.below⟩)
  replace h := H.f q3 h
  refine o_set 21 (congrArg Value.bool q3) ?_
  refine xq rfl (y_load (.agg (ePattern a0).toArray) 0 g0_0 0) ?_
  refine p 1 ?_
  obtain ⟨v1_16, hv1_16, h⟩ := H.call h
  refine xx rfl (e_cr [.agg (ePattern a0).toArray, .slice A1 (List.length a1) k1] (fun v => v) func107 (fun W S => C.i_Pattern_answers W hv1_16 ((s_arg h1).out W S)) fun A1_16 k1_16 => ?_)
  refine p 3 ?_
  refine rend ?_
  refine c_or (decide ((List.length v1_16 : Int) > 0)) (fun q4 => ?_) (fun q4 => ?_)
  · replace h := H.t q4 h
    refine c_seq ?_
    refine r_start ?_
    refine p 1 ?_
    refine xx rfl (x_sto 1 g0_1 0 (ePattern zPattern) ?_)
    refine p 2 ?_
    refine rend ?_
    replace h := H.done h
    subst h
    exact ret func57 rfl (vs := [.agg (ePattern zPattern).toArray, .int .i64 0, .bool false]) (.cell 1 g0_1 rfl (by kernel_rfl) (by kernel_rfl) (.tmp (by kernel_rfl) (.tmp (by kernel_rfl) .nil))) rfl (fun W S => ⟨rfl, S.below⟩)
  replace h := H.f q4 h
  refine c_skip ?_
  refine c_seq ?_
  refine r_start ?_
  refine p 1 ?_
  refine rend ?_
  refine c_seq ?_
  refine c_block ?_
  refine joinH (X := (Int × Pattern)) 0 (H.bnd h) (fun (x : (Int × Pattern)) => x) (fun ⟨n7, s8⟩ => [box g0_0 90 (ePattern s8), box g0_1 90 (ePattern zPattern), rowT (eI .i64) w.heap.size 3 (.slice A1_16 (List.length v1_16) k1_16) v1_16]) (fun ⟨n7, s8⟩ u => (jk u 0 2 (.pointer (some ⟨g0_0, 0, none⟩) :: (jk u 3 1 (.pointer (some ⟨g0_1, 0, none⟩) :: (jk u 5 2 (.int .i64 n7 :: (jk u 8 44 [])))))))) (fun h hj9 => ?_) ?_
  · skip
    refine loopR (X := (Int × Pattern)) (fun (x : (Int × Pattern)) => x) (fun ⟨n5, s6⟩ => [box g0_0 90 (ePattern s6), box g0_1 90 (ePattern zPattern), rowT (eI .i64) w.heap.size 3 (.slice A1_16 (List.length v1_16) k1_16) v1_16]) (fun ⟨n5, s6⟩ u => (jk u 0 1 (.slice A1 (List.length a1) k1 :: .pointer (some ⟨g0_0, 0, none⟩) :: (jk u 3 1 (.pointer (some ⟨g0_1, 0, none⟩) :: (jk u 5 2 (.int .i64 n5 :: (jk u 8 44 [])))))))) (0, a0) h (by kernel_rfl) (by kernel_rfl) ?_
    intro x u h
    obtain ⟨n5, s6⟩ := x
    refine c_seq ?_
    refine c_seq ?_
    refine r_start ?_
    refine xq rfl (y_load (.agg (ePattern s6).toArray) 0 g0_0 0) ?_
    refine p 1 ?_
    obtain ⟨v4_2, hv4_2, h⟩ := H.call h
    refine xx rfl (e_cr [.agg (ePattern s6).toArray, .slice A1 (List.length a1) k1] (fun v => v) func107 (fun W S => C.i_Pattern_answers W hv4_2 ((s_arg h1).out W S)) fun A4_2 k4_2 => ?_)
    refine p 2 ?_
    refine rend ?_
    refine c_or ((List.length v4_2 : Int) == 0) (fun q10 => ?_) (fun q10 => ?_)
    · replace h := H.t q10 h
      refine c_skip ?_
      refine c_block ?_
      refine c_seq ?_
      refine c_seq ?_
      refine r_start ?_
      refine p 1 ?_
      refine rend ?_
      refine c_block ?_
      refine c_seq ?_
      refine r_start ?_
      refine p 2 ?_
      refine rend ?_
      refine c_or (n5 == 0) (fun q11 => ?_) (fun q11 => ?_)
      · replace h := H.t q11 h
        refine r_start ?_
        refine p 1 ?_
        refine xx rfl (x_sto 0 g0_0 3 (ePattern ({ s6 with Steps := ([42] : Str) })) ?_)
        refine rend ?_
        refine c_inb ?_
        refine r_start ?_
        refine p 3 ?_
        refine rend ?_
        refine c_inb ?_
        replace h := H.inl h
        exact h ((wr (n5 + 1)), { s6 with Steps := ([42] : Str) }) _ _ rfl (by kernel_rfl) (by kernel_rfl)
      replace h := H.f q11 h
      refine c_seq ?_
      refine r_start ?_
      refine p 2 ?_
      refine rend ?_
      refine c_or (n5 == 1) (fun q12 => ?_) (fun q12 => ?_)
      · replace h := H.t q12 h
        refine r_start ?_
        refine p 1 ?_
        refine xx rfl (x_sto 0 g0_0 4 (ePattern ({ s6 with Hands := 0 })) ?_)
        refine rend ?_
        refine c_inb ?_
        refine r_start ?_
        refine p 3 ?_
        refine rend ?_
        refine c_inb ?_
        replace h := H.inl h
        exact h ((wr (n5 + 1)), { s6 with Hands := 0 }) _ _ rfl (by kernel_rfl) (by kernel_rfl)
      replace h := H.f q12 h
      refine c_seq ?_
      refine r_start ?_
      refine p 2 ?_
      refine rend ?_
      refine c_or (n5 == 2) (fun q13 => ?_) (fun q13 => ?_)
      · replace h := H.t q13 h
        refine r_start ?_
        refine p 1 ?_
        refine xx rfl (x_sto 0 g0_0 1 (ePattern ({ s6 with Orient := ([63, 63] : Str) })) ?_)
        refine rend ?_
        refine c_inb ?_
        refine r_start ?_
        refine p 3 ?_
        refine rend ?_
        refine c_inb ?_
        replace h := H.inl h
        exact h ((wr (n5 + 1)), { s6 with Orient := ([63, 63] : Str) }) _ _ rfl (by kernel_rfl) (by kernel_rfl)
      replace h := H.f q13 h
      refine c_seq ?_
      refine r_start ?_
      refine p 2 ?_
      refine rend ?_
      refine c_or (n5 == 3) (fun q14 => ?_) (fun q14 => ?_)
      · replace h := H.t q14 h
        refine r_start ?_
        refine p 1 ?_
        refine xx rfl (x_sto 0 g0_0 2 (ePattern ({ s6 with Region := (-1) })) ?_)
        refine rend ?_
        refine c_inb ?_
        refine r_start ?_
        refine p 3 ?_
        refine rend ?_
        refine c_inb ?_
        replace h := H.inl h
        exact h ((wr (n5 + 1)), { s6 with Region := (-1) }) _ _ rfl (by kernel_rfl) (by kernel_rfl)
      replace h := H.f q14 h
      refine r_start ?_
      refine p 1 ?_
      refine xx rfl (x_sto 0 g0_0 0 (ePattern ({ s6 with Shape := ([63, 63, 63, 63, 63] : Str) })) ?_)
      refine rend ?_
      refine c_inb ?_
      refine r_start ?_
      refine p 3 ?_
      refine rend ?_
      refine c_inb ?_
      replace h := H.inl h
      exact h ((wr (n5 + 1)), { s6 with Shape := ([63, 63, 63, 63, 63] : Str) }) _ _ rfl (by kernel_rfl) (by kernel_rfl)
    replace h := H.f q10 h
    refine cx ?_
    replace h := H.inr h
    exact hj9 (n5, s6) _ _ h (by kernel_rfl) (by kernel_rfl)
  intro x u h
  obtain ⟨n7, s8⟩ := x
  refine c_seq ?_
  refine r_start ?_
  refine xq rfl (y_load (.agg (ePattern s8).toArray) 0 g0_0 0) ?_
  refine p 1 ?_
  refine xx rfl (x_sto 1 g0_1 0 (ePattern s8) ?_)
  refine p 2 ?_
  refine rend ?_
  replace h := H.done h
  subst h
  exact ret func57 rfl (vs := [.agg (ePattern s8).toArray, .int .i64 n7, .bool true]) (.cell 1 g0_1 rfl (by kernel_rfl) (by kernel_rfl) (.tmp (by kernel_rfl) (.tmp (by kernel_rfl) .nil))) rfl (fun W S => ⟨rfl, S.below⟩)
theorem C.l_eqPattern {a0 : Pattern} {a1 : Pattern} {r : Bool} (w : World) (h : X.l_eqPattern a0 a1 = some r) : Calls prog 58 #[.agg (ePattern a0).toArray, .agg (ePattern a1).toArray] w (Ret w (.bool r)) := by
  refine calls (M := no) (args := [.agg (ePattern a0).toArray, .agg (ePattern a1).toArray]) func58 rfl ?_
  replace h : H (X.l_eqPattern a0 a1) (fun o => o = r) := H.mk h
  unfold X.l_eqPattern at h
  refine c_seq ?_
  refine r_start ?_
  refine xx rfl (x_box (ePattern a0) fun g0_0 => ?_)
  refine xx rfl (x_box (ePattern a1) fun g0_1 => ?_)
  refine p 1 ?_
  refine rend ?_
  refine c_seq ?_
  refine c_seq ?_
  refine r_start ?_
  refine p 1 ?_
  refine xq rfl (y_load (.string (bs a0.Shape)) 0 g0_0 0) ?_
  refine p 1 ?_
  refine xq rfl (y_load (.string (bs a1.Shape)) 1 g0_1 0) ?_
  refine p 1 ?_
  refine rend ?_
  refine c_or (!seq a0.Shape a1.Shape) (fun q1 => ?_) (fun q1 => ?_)
  · replace h := H.t q1 h
    refine c_seq ?_
    refine r_start ?_
    refine p 1 ?_
    refine rend ?_
    replace h := H.done h
    subst h
    exact ret func58 rfl (vs := [.bool false]) (.tmp (by kernel_rfl) .nil) rfl (fun W S => ⟨rfl, S.below⟩)
  replace h := H.f q1 h
  refine c_skip ?_
  refine c_seq ?_
  refine c_seq ?_
  refine r_start ?_
  refine p 1 ?_
  refine xq rfl (y_load (.string (bs a0.Orient)) 0 g0_0 1) ?_
  refine p 1 ?_
  refine xq rfl (y_load (.string (bs a1.Orient)) 1 g0_1 1) ?_
  refine p 1 ?_
  refine rend ?_
  refine c_or (!seq a0.Orient a1.Orient) (fun q2 => ?_) (fun q2 => ?_)
  · replace h := H.t q2 h
    refine c_seq ?_
    refine r_start ?_
    refine p 1 ?_
    refine rend ?_
    replace h := H.done h
    subst h
    exact ret func58 rfl (vs := [.bool false]) (.tmp (by kernel_rfl) .nil) rfl (fun W S => ⟨rfl, S.below⟩)
  replace h := H.f q2 h
  refine c_skip ?_
  refine c_seq ?_
  refine c_seq ?_
  refine r_start ?_
  refine p 1 ?_
  refine xq rfl (y_load (.int .i64 a0.Region) 0 g0_0 2) ?_
  refine p 1 ?_
  refine xq rfl (y_load (.int .i64 a1.Region) 1 g0_1 2) ?_
  refine p 1 ?_
  refine rend ?_
  refine c_or (a0.Region != a1.Region) (fun q3 => ?_) (fun q3 => ?_)
  · replace h := H.t q3 h
    refine c_seq ?_
    refine r_start ?_
    refine p 1 ?_
    refine rend ?_
    replace h := H.done h
    subst h
    exact ret func58 rfl (vs := [.bool false]) (.tmp (by kernel_rfl) .nil) rfl (fun W S => ⟨rfl, S.below⟩)
  replace h := H.f q3 h
  refine c_skip ?_
  refine c_seq ?_
  refine c_seq ?_
  refine r_start ?_
  refine p 1 ?_
  refine xq rfl (y_load (.string (bs a0.Steps)) 0 g0_0 3) ?_
  refine p 1 ?_
  refine xq rfl (y_load (.string (bs a1.Steps)) 1 g0_1 3) ?_
  refine p 1 ?_
  refine rend ?_
  refine c_or (!seq a0.Steps a1.Steps) (fun q4 => ?_) (fun q4 => ?_)
  · replace h := H.t q4 h
    refine c_seq ?_
    refine r_start ?_
    refine p 1 ?_
    refine rend ?_
    replace h := H.done h
    subst h
    exact ret func58 rfl (vs := [.bool false]) (.tmp (by kernel_rfl) .nil) rfl (fun W S => ⟨rfl, S.below⟩)
  replace h := H.f q4 h
  refine c_skip ?_
  refine c_seq ?_
  refine c_seq ?_
  refine r_start ?_
  refine p 1 ?_
  refine xq rfl (y_load (.int .i64 a0.Hands) 0 g0_0 4) ?_
  refine p 1 ?_
  refine xq rfl (y_load (.int .i64 a1.Hands) 1 g0_1 4) ?_
  refine p 1 ?_
  refine rend ?_
  refine c_or (a0.Hands != a1.Hands) (fun q5 => ?_) (fun q5 => ?_)
  · replace h := H.t q5 h
    refine c_seq ?_
    refine r_start ?_
    refine p 1 ?_
    refine rend ?_
    replace h := H.done h
    subst h
    exact ret func58 rfl (vs := [.bool false]) (.tmp (by kernel_rfl) .nil) rfl (fun W S => ⟨rfl, S.below⟩)
  replace h := H.f q5 h
  refine c_skip ?_
  refine c_seq ?_
  refine r_start ?_
  refine p 1 ?_
  refine rend ?_
  replace h := H.done h
  subst h
  exact ret func58 rfl (vs := [.bool true]) (.tmp (by kernel_rfl) .nil) rfl (fun W S => ⟨rfl, S.below⟩)
theorem C.l_FnExactWeakestFor {fu : Nat} {a0 : Pattern} {a1 : (List Sign)} {A1 : Option Addr} {k1 : Nat} {r : Bool} (w : World) (h : X.l_FnExactWeakestFor fu a0 a1 = some r) (h1 : RdT nSign w (.slice A1 (List.length a1) k1) a1) : Calls prog 13 #[.agg (ePattern a0).toArray, .slice A1 (List.length a1) k1] w (Ret w (.bool r)) := by
  refine calls (M := no) (args := [.agg (ePattern a0).toArray, .slice A1 (List.length a1) k1]) func13 rfl ?_
  replace h : H (X.l_FnExactWeakestFor fu a0 a1) (fun o => o = r) := H.mk h
  unfold X.l_FnExactWeakestFor at h
  refine c_seq ?_
  refine r_start ?_
  refine xx rfl (x_box (ePattern a0) fun g0_0 => ?_)
  refine p 1 ?_
  refine rend ?_
  refine c_seq ?_
  refine r_start ?_
  refine p 1 ?_
  refine rend ?_
  refine c_seq ?_
  refine r_start ?_
  refine xq rfl (y_load (.agg (ePattern a0).toArray) 0 g0_0 0) ?_
  refine p 1 ?_
  obtain ⟨v2_2, hv2_2, h⟩ := H.call h
  refine xq rfl (y_call [.agg (ePattern a0).toArray, .int .i64 1048576] (.int .i64 v2_2) func52 (fun W S => C.l_szPattern W hv2_2)) ?_
  refine p 1 ?_
  refine rend ?_
  refine c_seq ?_
  refine c_seq ?_
  refine r_start ?_
  refine p 2 ?_
  refine rend ?_
  refine c_or (decide (v2_2 < 0)) (fun q1 => ?_) (fun q1 => ?_)
  · replace h := H.t q1 h
    refine c_seq ?_
    refine r_start ?_
    refine p 1 ?_
    refine rend ?_
    replace h := H.done h
    subst h
    exact ret func13 rfl (vs := [.bool true]) (.tmp (by kernel_rfl) .nil) rfl (fun W S => ⟨rfl, S.below⟩)
  replace h := H.f q1 h
  refine c_skip ?_
  refine c_seq ?_
  refine r_start ?_
  refine p 2 ?_
  obtain ⟨v5_2, hv5_2, h⟩ := H.call h
  refine xq rfl (y_call [.slice A1 (List.length a1) k1, .int .i64 v2_2] (.int .i64 v5_2) func15 (fun W S => C.l_szSignS W hv5_2 ((s_arg h1).out W S))) ?_
  refine p 1 ?_
  refine rend ?_
  refine c_seq ?_
  refine c_seq ?_
  refine r_start ?_
  refine p 2 ?_
  refine rend ?_
  refine c_or (decide (v5_2 < 0)) (fun q2 => ?_) (fun q2 => ?_)
  · replace h := H.t q2 h
    refine c_seq ?_
    refine r_start ?_
    refine p 1 ?_
    refine rend ?_
    replace h := H.done h
    subst h
    exact ret func13 rfl (vs := [.bool true]) (.tmp (by kernel_rfl) .nil) rfl (fun W S => ⟨rfl, S.below⟩)
  replace h := H.f q2 h
  refine c_skip ?_
  refine c_seq ?_
  refine r_start ?_
  refine xq rfl (y_load (.agg (ePattern a0).toArray) 0 g0_0 0) ?_
  obtain ⟨v8_1, hv8_1, h⟩ := H.call h
  refine xq rfl (y_call [.agg (ePattern a0).toArray] (.agg (ePattern v8_1).toArray) func54 (fun W S => C.l_toPattern W hv8_1)) ?_
  refine p 1 ?_
  obtain ⟨v8_3, hv8_3, h⟩ := H.call h
  refine xx rfl (e_cr [.slice A1 (List.length a1) k1] (fun v => v) func17 (fun W S => C.l_toSignS W hv8_3 ((s_arg h1).out W S)) fun A8_3 k8_3 => ?_)
  obtain ⟨v8_4, hv8_4, h⟩ := H.call h
  refine xq rfl (y_call [.agg (ePattern v8_1).toArray, .slice A8_3 (List.length v8_3) k8_3] (.tuple #[.agg (ePattern v8_4.1).toArray, .int .i64 v8_4.2.1, .bool v8_4.2.2]) func56 (fun W S => C.s_WeakestFor W hv8_4 ((s_own 1).out W S))) ?_
  refine p 4 ?_
  refine xx rfl (x_new (ePattern zPattern) fun g8_9 => ?_)
  refine xx rfl (x_sto 2 g8_9 0 (ePattern v8_4.1) ?_)
  refine p 2 ?_
  refine rend ?_
  refine c_seq ?_
  refine r_start ?_
  refine p 1 ?_
  obtain ⟨v9_1, hv9_1, h⟩ := H.call h
  refine xx rfl (e_cr [.slice A1 (List.length a1) k1] (fun v => v) func17 (fun W S => C.l_toSignS W hv9_1 ((s_arg h1).out W S)) fun A9_1 k9_1 => ?_)
  refine p 1 ?_
  refine rend ?_
  refine c_seq ?_
  refine r_start ?_
  refine xq rfl (y_load (.agg (ePattern a0).toArray) 0 g0_0 0) ?_
  obtain ⟨v10_1, hv10_1, h⟩ := H.call h
  refine xq rfl (y_call [.agg (ePattern a0).toArray] (.agg (ePattern v10_1).toArray) func54 (fun W S => C.l_toPattern W hv10_1)) ?_
  refine p 1 ?_
  obtain ⟨v10_3, hv10_3, h⟩ := H.call h
  refine xq rfl (y_call [.agg (ePattern v10_1).toArray, .slice A9_1 (List.length v9_1) k9_1] (.tuple #[.agg (ePattern v10_3.1).toArray, .int .i64 v10_3.2.1, .bool v10_3.2.2]) func57 (fun W S => C.i_WeakestFor W hv10_3 ((s_own 3).out W S))) ?_
  refine p 4 ?_
  refine xx rfl (x_new (ePattern zPattern) fun g10_8 => ?_)
  refine xx rfl (x_sto 4 g10_8 0 (ePattern v10_3.1) ?_)
  refine p 2 ?_
  refine rend ?_
  refine c_seq ?_
  refine c_seq ?_
  refine r_start ?_
  refine xq rfl (y_load (.agg (ePattern v10_3.1).toArray) 4 g10_8 0) ?_
  refine xq rfl (y_load (.agg (ePattern v8_4.1).toArray) 2 g8_9 0) ?_
  obtain ⟨v11_2, hv11_2, h⟩ := H.call h
  refine xq rfl (y_call [.agg (ePattern v10_3.1).toArray, .agg (ePattern v8_4.1).toArray] (.bool v11_2) func58 (fun W S => C.l_eqPattern W hv11_2)) ?_
  refine p 2 ?_
  refine br (!v11_2) (fun q3 => ?_) (fun q3 => ?_)
  · replace h := H.t q3 h
    refine o_set 46 (congrArg Value.bool q3) ?_
    refine p 9 ?_
    refine rend ?_
    refine c_t (by kernel_rfl) ?_
    refine c_seq ?_
    refine r_start ?_
    refine p 1 ?_
    refine rend ?_
    replace h := H.done h
    subst h
    exact ret func13 rfl (vs := [.bool false]) (.tmp (by kernel_rfl) .nil) rfl (fun W S => ⟨rfl, S.below⟩)
  replace h := H.f q3 h
  refine o_set 46 (congrArg Value.bool q3) ?_
  refine p 5 ?_
  refine br (v10_3.2.1 != v8_4.2.1) (fun q4 => ?_) (fun q4 => ?_)
  · replace h := H.t q4 h
    refine o_set 51 (congrArg Value.bool q4) ?_
    refine p 4 ?_
    refine rend ?_
    refine c_t (by kernel_rfl) ?_
    refine c_seq ?_
    refine r_start ?_
    refine p 1 ?_
    refine rend ?_
    replace h := H.done h
    subst h
    exact ret func13 rfl (vs := [.bool false]) (.tmp (by kernel_rfl) .nil) rfl (fun W S => ⟨rfl, S.below⟩)
  replace h := H.f q4 h
  refine o_set 51 (congrArg Value.bool q4) ?_
  refine p 4 ?_
  refine rend ?_
  refine c_or (!(v10_3.2.2 == v8_4.2.2)) (fun q5 => ?_) (fun q5 => ?_)
  · replace h := H.t q5 h
    refine c_seq ?_
    refine r_start ?_
    refine p 1 ?_
    refine rend ?_
    replace h := H.done h
    subst h
    exact ret func13 rfl (vs := [.bool false]) (.tmp (by kernel_rfl) .nil) rfl (fun W S => ⟨rfl, S.below⟩)
  replace h := H.f q5 h
  refine c_skip ?_
  refine c_seq ?_
  refine c_seq ?_
  refine r_start ?_
  refine p 2 ?_
  obtain ⟨v13_2, hv13_2, h⟩ := H.call h
  refine xx rfl (e_cr [.slice A1 (List.length a1) k1] (fun v => v) func17 (fun W S => C.l_toSignS W hv13_2 ((s_arg h1).out W S)) fun A13_2 k13_2 => ?_)
  obtain ⟨v13_3, hv13_3, h⟩ := H.call h
  refine xq rfl (y_call [.slice A9_1 (List.length v9_1) k9_1, .slice A13_2 (List.length v13_2) k13_2] (.bool v13_3) func19 (fun W S => C.l_eqSignS W hv13_3 ((s_own 3).out W S) ((s_own 5).out W S))) ?_
  refine p 1 ?_
  refine rend ?_
  refine c_or (!v13_3) (fun q6 => ?_) (fun q6 => ?_)
  · replace h := H.t q6 h
    refine c_seq ?_
    refine r_start ?_
    refine p 1 ?_
    refine rend ?_
    refine frg (fun u => (jk u 0 4 (.bool false :: (jk u 5 56 [])))) (by kernel_rfl) fun u => ?_
    refine keep 6 (its' := [box g0_0 87 (ePattern a0), rowT nSign w.heap.size 66 (.slice A8_3 (List.length v8_3) k8_3) v8_3, box g8_9 90 (ePattern v8_4.1), rowT nSign w.heap.size 66 (.slice A9_1 (List.length v9_1) k9_1) v9_1, box g10_8 90 (ePattern v10_3.1), rowT nSign w.heap.size 66 (.slice A13_2 (List.length v13_2) k13_2) v13_2]) (by kernel_rfl) ?_
    replace h := H.done h
    subst h
    exact ret func13 rfl (vs := [.bool false]) (.tmp (by kernel_rfl) .nil) rfl (fun W S => ⟨rfl, S.below⟩)
  replace h := H.f q6 h
  refine c_skip ?_
  refine c_seq ?_
  refine r_start ?_
  refine p 1 ?_
  refine rend ?_
  refine frg (fun u => (jk u 0 4 (.bool true :: (jk u 5 56 [])))) (by kernel_rfl) fun u => ?_
  refine keep 6 (its' := [box g0_0 87 (ePattern a0), rowT nSign w.heap.size 66 (.slice A8_3 (List.length v8_3) k8_3) v8_3, box g8_9 90 (ePattern v8_4.1), rowT nSign w.heap.size 66 (.slice A9_1 (List.length v9_1) k9_1) v9_1, box g10_8 90 (ePattern v10_3.1), rowT nSign w.heap.size 66 (.slice A13_2 (List.length v13_2) k13_2) v13_2]) (by kernel_rfl) ?_
  replace h := H.done h
  subst h
  exact ret func13 rfl (vs := [.bool true]) (.tmp (by kernel_rfl) .nil) rfl (fun W S => ⟨rfl, S.below⟩)
end Go.Proofs.XC
