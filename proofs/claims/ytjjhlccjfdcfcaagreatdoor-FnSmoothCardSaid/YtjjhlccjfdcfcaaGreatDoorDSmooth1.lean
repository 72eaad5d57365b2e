/- Contracts: each function, called where its plain function gives an answer, returns just that answer and changes nothing that was there. By AI agents; no person has read it. -/
import Derived.Test.YtjjhlccjfdcfcaaGreatDoorDSmooth
set_option linter.unusedVariables false
set_option linter.unusedSimpArgs false
set_option maxRecDepth 100000
set_option maxHeartbeats 40000000
namespace Go.Proofs.XC
open Go Go.RowKit
open Tryz
theorem C.s_l1Cur_move {fu : Nat} {a0 : List Int} {A0 : Option Addr} {k0 g0 : Nat} {t0 s0 : Int} {r : (Move × Int × Int)} (w : World) (h : X.s_l1Cur_move fu a0 t0 s0 = some r) (m0 : w.heap[g0]? = some (.cells ([.slice A0 (List.length a0) k0, .int .i64 t0, .int .u64 s0] : List Value).toArray 84 (0, 0))) (h0 : RdT (eI .u8) w (.slice A0 (List.length a0) k0) a0) (q0 : 0 < List.length a0 → ∀ k, (Value.slice A0 (List.length a0) k0).ownBlock = some k → ¬ k = g0) : Calls prog 198 #[.pointer (some ⟨g0, 0, none⟩)] w (RetQ g0 84 [.slice A0 (List.length a0) k0, .int .i64 r.2.1, .int .u64 r.2.2] w (.agg (eMove r.1).toArray)) := by
  refine callsQ (args := [.pointer (some ⟨g0, 0, none⟩)]) m0 func198 rfl ?_
  replace h : H (X.s_l1Cur_move fu a0 t0 s0) (fun o => o = r) := H.mk h
  unfold X.s_l1Cur_move at h
  refine c_seq ?_
  refine r_start ?_
  refine xx rfl (x_new (eMove zMove) fun g0_0 => ?_)
  refine rend ?_
  refine c_seq ?_
  refine r_start ?_
  refine p 1 ?_
  refine xx rfl (e_lit (e := (eI .i64)) (el := 3) [.int .i64 1, .int .i64 1, .int .i64 2, .int .i64 3] ([1, 1, 2, 3] : List Int) fun A1_1 k1_1 => ?_)
  obtain ⟨v1_2, hv1_2, h⟩ := H.call h
  refine xx rfl (e_cq (cs' := [.slice A0 (List.length a0) k0, .int .i64 v1_2.2.1, .int .u64 v1_2.2.2]) (v := .int .i64 v1_2.1) 0 [.pointer (some ⟨g0, 0, none⟩), .slice A1_1 (List.length ([1, 1, 2, 3] : List Int)) k1_1] func93 (fun W S => C.s_l1Cur_among W hv1_2 (S.bx 0) ((s_argN h0 q0).out W S) q0 ((s_own 2).out W S) (ap_row S 2 0 (by decide))) ?_)
  refine p 1 ?_
  refine xx rfl (x_new (eMove zMove) fun g1_4 => ?_)
  refine xx rfl (x_sto 3 g1_4 0 (eMove ({ zMove with Repeat := v1_2.1 })) ?_)
  refine rend ?_
  refine c_seq ?_
  refine r_start ?_
  refine p 1 ?_
  refine xx rfl (e_lit (e := (eI .i64)) (el := 3) [.int .i64 0, .int .i64 1, .int .i64 2, .int .i64 2, .int .i64 3, .int .i64 4, .int .i64 6] ([0, 1, 2, 2, 3, 4, 6] : List Int) fun A2_1 k2_1 => ?_)
  obtain ⟨v2_2, hv2_2, h⟩ := H.call h
  refine xx rfl (e_cq (cs' := [.slice A0 (List.length a0) k0, .int .i64 v2_2.2.1, .int .u64 v2_2.2.2]) (v := .int .i64 v2_2.1) 0 [.pointer (some ⟨g0, 0, none⟩), .slice A2_1 (List.length ([0, 1, 2, 2, 3, 4, 6] : List Int)) k2_1] func93 (fun W S => C.s_l1Cur_among W hv2_2 (S.bx 0) ((s_argN h0 q0).out W S) q0 ((s_own 4).out W S) (ap_row S 4 0 (by decide))) ?_)
  refine p 1 ?_
  refine rend ?_
  refine c_seq ?_
  refine c_seq ?_
  refine r_start ?_
  refine p 2 ?_
  refine rend ?_
  refine c_or (v2_2.1 == 0) (fun q1 => ?_) (fun q1 => ?_)
  · replace h := H.t q1 h
    refine r_start ?_
    refine p 1 ?_
    refine xx rfl (x_sto 3 g1_4 1 (eMove ({ zMove with Repeat := 1 })) ?_)
    refine rend ?_
    refine c_seq ?_
    refine c_block ?_
    refine joinH (X := (Int × Int × Move)) 0 (H.bnd h) (fun (x : (Int × Int × Move)) => x) (fun ⟨n5, n6, s7⟩ => [box g0 84 [.slice A0 (List.length a0) k0, .int .i64 n5, .int .u64 n6], box g0_0 42 (eMove zMove), rowT (eI .i64) w.heap.size 3 (.slice A1_1 (List.length ([1, 1, 2, 3] : List Int)) k1_1) ([1, 1, 2, 3] : List Int), box g1_4 42 (eMove s7), rowT (eI .i64) w.heap.size 3 (.slice A2_1 (List.length ([0, 1, 2, 2, 3, 4, 6] : List Int)) k2_1) ([0, 1, 2, 2, 3, 4, 6] : List Int)]) (fun ⟨n5, n6, s7⟩ u => (.pointer (some ⟨g0, 0, none⟩) :: (jk u 1 1 (.pointer (some ⟨g0_0, 0, none⟩) :: .pointer (some ⟨g1_4, 0, none⟩) :: .int .i64 v2_2.1 :: (jk u 5 37 []))))) (fun h hj8 => ?_) ?_
    · skip
      refine loopR (X := (Int × Int × Move)) (fun (x : (Int × Int × Move)) => x) (fun ⟨n2, n3, s4⟩ => [box g0 84 [.slice A0 (List.length a0) k0, .int .i64 n2, .int .u64 n3], box g0_0 42 (eMove zMove), rowT (eI .i64) w.heap.size 3 (.slice A1_1 (List.length ([1, 1, 2, 3] : List Int)) k1_1) ([1, 1, 2, 3] : List Int), box g1_4 42 (eMove s4), rowT (eI .i64) w.heap.size 3 (.slice A2_1 (List.length ([0, 1, 2, 2, 3, 4, 6] : List Int)) k2_1) ([0, 1, 2, 2, 3, 4, 6] : List Int)]) (fun ⟨n2, n3, s4⟩ u => (.pointer (some ⟨g0, 0, none⟩) :: (jk u 1 1 (.pointer (some ⟨g0_0, 0, none⟩) :: .pointer (some ⟨g1_4, 0, none⟩) :: .int .i64 v2_2.1 :: (jk u 5 37 []))))) (v2_2.2.1, v2_2.2.2, { zMove with Repeat := 1 }) h (by kernel_rfl) (by kernel_rfl) ?_
      intro x u h
      obtain ⟨n2, n3, s4⟩ := x
      refine c_seq ?_
      refine c_seq ?_
      refine r_start ?_
      refine p 1 ?_
      refine xq rfl (y_load (.string (bs s4.Steps)) 3 g1_4 0) ?_
      refine p 3 ?_
      refine rend ?_
      refine c_or (decide ((List.length s4.Steps : Int) < v2_2.1)) (fun q9 => ?_) (fun q9 => ?_)
      · replace h := H.t q9 h
        refine c_skip ?_
        refine c_block ?_
        refine pick [1, 2, 3, 4, 0] [box g0_0 42 (eMove zMove), rowT (eI .i64) w.heap.size 3 (.slice A1_1 (List.length ([1, 1, 2, 3] : List Int)) k1_1) ([1, 1, 2, 3] : List Int), box g1_4 42 (eMove s4), rowT (eI .i64) w.heap.size 3 (.slice A2_1 (List.length ([0, 1, 2, 2, 3, 4, 6] : List Int)) k2_1) ([0, 1, 2, 2, 3, 4, 6] : List Int), box g0 84 [.slice A0 (List.length a0) k0, .int .i64 n2, .int .u64 n3]] ?_
        refine as_startN 7 4 8 ?_
        refine ap 0 1 ?_
        refine aq 1 rfl (y_load (.string (bs s4.Steps)) 2 g1_4 0) ?_
        refine ap 2 1 ?_
        refine ax 3 rfl (e_lit (e := eS) (el := 9) [.string (bs ([117] : Str)), .string (bs ([100] : Str)), .string (bs ([108] : Str)), .string (bs ([114] : Str)), .string (bs ([108] : Str)), .string (bs ([114] : Str)), .string (bs ([102] : Str)), .string (bs ([98] : Str))] ([([117] : Str), ([100] : Str), ([108] : Str), ([114] : Str), ([108] : Str), ([114] : Str), ([102] : Str), ([98] : Str)] : List Str) fun A6_3 k6_3 => ⟨.inr (by kernel_rfl), ?_⟩)
        obtain ⟨v6_4, hv6_4, h⟩ := H.call h
        refine ax 4 rfl (e_cq (cs' := [.slice A0 (List.length a0) k0, .int .i64 v6_4.2.1, .int .u64 v6_4.2.2]) (v := .string (bs v6_4.1)) 4 [.pointer (some ⟨g0, 0, none⟩), .slice A6_3 (List.length ([([117] : Str), ([100] : Str), ([108] : Str), ([114] : Str), ([108] : Str), ([114] : Str), ([102] : Str), ([98] : Str)] : List Str)) k6_3] func200 (fun W S => C.s_l1Cur_of W hv6_4 (S.bx 4) ((s_argN h0 q0).out W S) q0 ((s_own 5).out W S) (ap_row S 5 4 (by decide))) ⟨.inr (by kernel_rfl), ?_⟩)
        obtain ⟨y6_5, hy6_5, h⟩ := H.call h
        refine aq 5 rfl (y_cat hy6_5) ?_
        refine ap 6 1 ?_
        refine ax 7 rfl (x_sto 2 g1_4 0 (eMove ({ s4 with Steps := y6_5 })) ⟨.inl (by kernel_rfl), ?_⟩)
        refine a_done ?_
        refine pick [4, 0, 1, 2, 3, 5] [box g0 84 [.slice A0 (List.length a0) k0, .int .i64 v6_4.2.1, .int .u64 v6_4.2.2], box g0_0 42 (eMove zMove), rowT (eI .i64) w.heap.size 3 (.slice A1_1 (List.length ([1, 1, 2, 3] : List Int)) k1_1) ([1, 1, 2, 3] : List Int), box g1_4 42 (eMove ({ s4 with Steps := y6_5 })), rowT (eI .i64) w.heap.size 3 (.slice A2_1 (List.length ([0, 1, 2, 2, 3, 4, 6] : List Int)) k2_1) ([0, 1, 2, 2, 3, 4, 6] : List Int), rowT eS w.heap.size 9 (.slice A6_3 (List.length ([([117] : Str), ([100] : Str), ([108] : Str), ([114] : Str), ([108] : Str), ([114] : Str), ([102] : Str), ([98] : Str)] : List Str)) k6_3) ([([117] : Str), ([100] : Str), ([108] : Str), ([114] : Str), ([108] : Str), ([114] : Str), ([102] : Str), ([98] : Str)] : List Str)] ?_
        refine c_inb ?_
        replace h := H.inl h
        exact h (v6_4.2.1, v6_4.2.2, { s4 with Steps := y6_5 }) _ _ rfl (by kernel_rfl) (by kernel_rfl)
      replace h := H.f q9 h
      refine cx ?_
      replace h := H.inr h
      exact hj8 (n2, n3, s4) _ _ h (by kernel_rfl) (by kernel_rfl)
    intro x u h
    obtain ⟨n5, n6, s7⟩ := x
    refine c_seq ?_
    refine c_seq ?_
    refine r_start ?_
    refine p 3 ?_
    refine br (v2_2.1 == 4) (fun q10 => ?_) (fun q10 => ?_)
    · replace h := H.t q10 h
      refine o_set 29 (congrArg Value.bool q10) ?_
      refine p 1 ?_
      obtain ⟨v7_4, hv7_4, h⟩ := H.call h
      refine xx rfl (e_cq (cs' := [.slice A0 (List.length a0) k0, .int .i64 v7_4.2.1, .int .u64 v7_4.2.2]) (v := .bool v7_4.1) 0 [.pointer (some ⟨g0, 0, none⟩), .int .i64 2] func53 (fun W S => C.s_l1Cur_one W hv7_4 (S.bx 0) ((s_argN h0 q0).out W S) q0) ?_)
      refine p 1 ?_
      refine rend ?_
      refine c_or v7_4.1 (fun q11 => ?_) (fun q11 => ?_)
      · replace h := H.t q11 h
        refine as_start 8 9 ?_
        refine ap 0 1 ?_
        refine aq 1 rfl (y_load (.string (bs s7.Steps)) 3 g1_4 0) ?_
        obtain ⟨y8_2, hy8_2, h⟩ := H.call h
        refine aq 2 rfl (y_cut hy8_2) ?_
        refine ap 3 1 ?_
        refine aq 4 rfl (y_load (.string (bs s7.Steps)) 3 g1_4 0) ?_
        obtain ⟨y8_5, hy8_5, h⟩ := H.call h
        refine aq 5 rfl (y_cut hy8_5) ?_
        obtain ⟨y8_6, hy8_6, h⟩ := H.call h
        refine aq 6 rfl (y_cat hy8_6) ?_
        refine ap 7 1 ?_
        refine ax 8 rfl (x_sto 3 g1_4 0 (eMove ({ s7 with Steps := y8_6 })) ⟨.inl (by kernel_rfl), ?_⟩)
        refine a_done ?_
        refine c_seq ?_
        refine r_start ?_
        refine xq rfl (y_load (.agg (eMove ({ s7 with Steps := y8_6 })).toArray) 3 g1_4 0) ?_
        refine xx rfl (x_sto 1 g0_0 0 (eMove ({ s7 with Steps := y8_6 })) ?_)
        refine rend ?_
        replace h := H.done h
        subst h
        exact ret func198 rfl (vs := [.agg (eMove ({ s7 with Steps := y8_6 })).toArray]) (.cell 1 g0_0 rfl (by kernel_rfl) (by kernel_rfl) .nil) rfl (fun W S => S.retQ)
      replace h := H.f q11 h
      refine c_skip ?_
      refine c_seq ?_
      refine r_start ?_
      refine xq rfl (y_load (.agg (eMove s7).toArray) 3 g1_4 0) ?_
      refine xx rfl (x_sto 1 g0_0 0 (eMove s7) ?_)
      refine rend ?_
      replace h := H.done h
      subst h
      exact ret func198 rfl (vs := [.agg (eMove s7).toArray]) (.cell 1 g0_0 rfl (by kernel_rfl) (by kernel_rfl) .nil) rfl (fun W S => S.retQ)
    replace h := H.f q10 h
    refine o_set 29 (congrArg Value.bool q10) ?_
    refine p 3 ?_
    refine rend ?_
    refine c_f (by kernel_rfl) ?_
    refine c_skip ?_
    refine c_seq ?_
    refine r_start ?_
    refine xq rfl (y_load (.agg (eMove s7).toArray) 3 g1_4 0) ?_
    refine xx rfl (x_sto 1 g0_0 0 (eMove s7) ?_)
    refine rend ?_
    replace h := H.done h
    subst h
    exact ret func198 rfl (vs := [.agg (eMove s7).toArray]) (.cell 1 g0_0 rfl (by kernel_rfl) (by kernel_rfl) .nil) rfl (fun W S => S.retQ)
  replace h := H.f q1 h
  refine c_skip ?_
  refine c_seq ?_
  refine c_block ?_
  refine joinH (X := (Int × Int × Move)) 0 (H.bnd h) (fun (x : (Int × Int × Move)) => x) (fun ⟨n15, n16, s17⟩ => [box g0 84 [.slice A0 (List.length a0) k0, .int .i64 n15, .int .u64 n16], box g0_0 42 (eMove zMove), rowT (eI .i64) w.heap.size 3 (.slice A1_1 (List.length ([1, 1, 2, 3] : List Int)) k1_1) ([1, 1, 2, 3] : List Int), box g1_4 42 (eMove s17), rowT (eI .i64) w.heap.size 3 (.slice A2_1 (List.length ([0, 1, 2, 2, 3, 4, 6] : List Int)) k2_1) ([0, 1, 2, 2, 3, 4, 6] : List Int)]) (fun ⟨n15, n16, s17⟩ u => (.pointer (some ⟨g0, 0, none⟩) :: (jk u 1 1 (.pointer (some ⟨g0_0, 0, none⟩) :: .pointer (some ⟨g1_4, 0, none⟩) :: .int .i64 v2_2.1 :: (jk u 5 37 []))))) (fun h hj18 => ?_) ?_
  · skip
    refine loopR (X := (Int × Int × Move)) (fun (x : (Int × Int × Move)) => x) (fun ⟨n12, n13, s14⟩ => [box g0 84 [.slice A0 (List.length a0) k0, .int .i64 n12, .int .u64 n13], box g0_0 42 (eMove zMove), rowT (eI .i64) w.heap.size 3 (.slice A1_1 (List.length ([1, 1, 2, 3] : List Int)) k1_1) ([1, 1, 2, 3] : List Int), box g1_4 42 (eMove s14), rowT (eI .i64) w.heap.size 3 (.slice A2_1 (List.length ([0, 1, 2, 2, 3, 4, 6] : List Int)) k2_1) ([0, 1, 2, 2, 3, 4, 6] : List Int)]) (fun ⟨n12, n13, s14⟩ u => (.pointer (some ⟨g0, 0, none⟩) :: (jk u 1 1 (.pointer (some ⟨g0_0, 0, none⟩) :: .pointer (some ⟨g1_4, 0, none⟩) :: .int .i64 v2_2.1 :: (jk u 5 37 []))))) (v2_2.2.1, v2_2.2.2, { zMove with Repeat := v1_2.1 }) h (by kernel_rfl) (by kernel_rfl) ?_
    intro x u h
    obtain ⟨n12, n13, s14⟩ := x
    refine c_seq ?_
    refine c_seq ?_
    refine r_start ?_
    refine p 1 ?_
    refine xq rfl (y_load (.string (bs s14.Steps)) 3 g1_4 0) ?_
    refine p 3 ?_
    refine rend ?_
    refine c_or (decide ((List.length s14.Steps : Int) < v2_2.1)) (fun q19 => ?_) (fun q19 => ?_)
    · replace h := H.t q19 h
      refine c_skip ?_
      refine c_block ?_
      refine pick [1, 2, 3, 4, 0] [box g0_0 42 (eMove zMove), rowT (eI .i64) w.heap.size 3 (.slice A1_1 (List.length ([1, 1, 2, 3] : List Int)) k1_1) ([1, 1, 2, 3] : List Int), box g1_4 42 (eMove s14), rowT (eI .i64) w.heap.size 3 (.slice A2_1 (List.length ([0, 1, 2, 2, 3, 4, 6] : List Int)) k2_1) ([0, 1, 2, 2, 3, 4, 6] : List Int), box g0 84 [.slice A0 (List.length a0) k0, .int .i64 n12, .int .u64 n13]] ?_
      refine as_startN 7 4 8 ?_
      refine ap 0 1 ?_
      refine aq 1 rfl (y_load (.string (bs s14.Steps)) 2 g1_4 0) ?_
      refine ap 2 1 ?_
      refine ax 3 rfl (e_lit (e := eS) (el := 9) [.string (bs ([117] : Str)), .string (bs ([100] : Str)), .string (bs ([108] : Str)), .string (bs ([114] : Str)), .string (bs ([108] : Str)), .string (bs ([114] : Str)), .string (bs ([102] : Str)), .string (bs ([98] : Str))] ([([117] : Str), ([100] : Str), ([108] : Str), ([114] : Str), ([108] : Str), ([114] : Str), ([102] : Str), ([98] : Str)] : List Str) fun A6_3 k6_3 => ⟨.inr (by kernel_rfl), ?_⟩)
      obtain ⟨v6_4, hv6_4, h⟩ := H.call h
      refine ax 4 rfl (e_cq (cs' := [.slice A0 (List.length a0) k0, .int .i64 v6_4.2.1, .int .u64 v6_4.2.2]) (v := .string (bs v6_4.1)) 4 [.pointer (some ⟨g0, 0, none⟩), .slice A6_3 (List.length ([([117] : Str), ([100] : Str), ([108] : Str), ([114] : Str), ([108] : Str), ([114] : Str), ([102] : Str), ([98] : Str)] : List Str)) k6_3] func200 (fun W S => C.s_l1Cur_of W hv6_4 (S.bx 4) ((s_argN h0 q0).out W S) q0 ((s_own 5).out W S) (ap_row S 5 4 (by decide))) ⟨.inr (by kernel_rfl), ?_⟩)
      obtain ⟨y6_5, hy6_5, h⟩ := H.call h
      refine aq 5 rfl (y_cat hy6_5) ?_
      refine ap 6 1 ?_
      refine ax 7 rfl (x_sto 2 g1_4 0 (eMove ({ s14 with Steps := y6_5 })) ⟨.inl (by kernel_rfl), ?_⟩)
      refine a_done ?_
      refine pick [4, 0, 1, 2, 3, 5] [box g0 84 [.slice A0 (List.length a0) k0, .int .i64 v6_4.2.1, .int .u64 v6_4.2.2], box g0_0 42 (eMove zMove), rowT (eI .i64) w.heap.size 3 (.slice A1_1 (List.length ([1, 1, 2, 3] : List Int)) k1_1) ([1, 1, 2, 3] : List Int), box g1_4 42 (eMove ({ s14 with Steps := y6_5 })), rowT (eI .i64) w.heap.size 3 (.slice A2_1 (List.length ([0, 1, 2, 2, 3, 4, 6] : List Int)) k2_1) ([0, 1, 2, 2, 3, 4, 6] : List Int), rowT eS w.heap.size 9 (.slice A6_3 (List.length ([([117] : Str), ([100] : Str), ([108] : Str), ([114] : Str), ([108] : Str), ([114] : Str), ([102] : Str), ([98] : Str)] : List Str)) k6_3) ([([117] : Str), ([100] : Str), ([108] : Str), ([114] : Str), ([108] : Str), ([114] : Str), ([102] : Str), ([98] : Str)] : List Str)] ?_
      refine c_inb ?_
      replace h := H.inl h
      exact h (v6_4.2.1, v6_4.2.2, { s14 with Steps := y6_5 }) _ _ rfl (by kernel_rfl) (by kernel_rfl)
    replace h := H.f q19 h
    refine cx ?_
    replace h := H.inr h
    exact hj18 (n12, n13, s14) _ _ h (by kernel_rfl) (by kernel_rfl)
  intro x u h
  obtain ⟨n15, n16, s17⟩ := x
  refine c_seq ?_
  refine c_seq ?_
  refine r_start ?_
  refine p 3 ?_
  refine br (v2_2.1 == 4) (fun q20 => ?_) (fun q20 => ?_)
  · replace h := H.t q20 h
    refine o_set 29 (congrArg Value.bool q20) ?_
    refine p 1 ?_
    obtain ⟨v7_4, hv7_4, h⟩ := H.call h
    refine xx rfl (e_cq (cs' := [.slice A0 (List.length a0) k0, .int .i64 v7_4.2.1, .int .u64 v7_4.2.2]) (v := .bool v7_4.1) 0 [.pointer (some ⟨g0, 0, none⟩), .int .i64 2] func53 (fun W S => C.s_l1Cur_one W hv7_4 (S.bx 0) ((s_argN h0 q0).out W S) q0) ?_)
    refine p 1 ?_
    refine rend ?_
    refine c_or v7_4.1 (fun q21 => ?_) (fun q21 => ?_)
    · replace h := H.t q21 h
      refine as_start 8 9 ?_
      refine ap 0 1 ?_
      refine aq 1 rfl (y_load (.string (bs s17.Steps)) 3 g1_4 0) ?_
      obtain ⟨y8_2, hy8_2, h⟩ := H.call h
      refine aq 2 rfl (y_cut hy8_2) ?_
      refine ap 3 1 ?_
      refine aq 4 rfl (y_load (.string (bs s17.Steps)) 3 g1_4 0) ?_
      obtain ⟨y8_5, hy8_5, h⟩ := H.call h
      refine aq 5 rfl (y_cut hy8_5) ?_
      obtain ⟨y8_6, hy8_6, h⟩ := H.call h
      refine aq 6 rfl (y_cat hy8_6) ?_
      refine ap 7 1 ?_
      refine ax 8 rfl (x_sto 3 g1_4 0 (eMove ({ s17 with Steps := y8_6 })) ⟨.inl (by kernel_rfl), ?_⟩)
      refine a_done ?_
      refine c_seq ?_
      refine r_start ?_
      refine xq rfl (y_load (.agg (eMove ({ s17 with Steps := y8_6 })).toArray) 3 g1_4 0) ?_
      refine xx rfl (x_sto 1 g0_0 0 (eMove ({ s17 with Steps := y8_6 })) ?_)
      refine rend ?_
      replace h := H.done h
      subst h
      exact ret func198 rfl (vs := [.agg (eMove ({ s17 with Steps := y8_6 })).toArray]) (.cell 1 g0_0 rfl (by kernel_rfl) (by kernel_rfl) .nil) rfl (fun W S => S.retQ)
    replace h := H.f q21 h
    refine c_skip ?_
    refine c_seq ?_
    refine r_start ?_
    refine xq rfl (y_load (.agg (eMove s17).toArray) 3 g1_4 0) ?_
    refine xx rfl (x_sto 1 g0_0 0 (eMove s17) ?_)
    refine rend ?_
    replace h := H.done h
    subst h
    exact ret func198 rfl (vs := [.agg (eMove s17).toArray]) (.cell 1 g0_0 rfl (by kernel_rfl) (by kernel_rfl) .nil) rfl (fun W S => S.retQ)
  replace h := H.f q20 h
  refine o_set 29 (congrArg Value.bool q20) ?_
  refine p 3 ?_
  refine rend ?_
  refine c_f (by kernel_rfl) ?_
  refine c_skip ?_
  refine c_seq ?_
  refine r_start ?_
  refine xq rfl (y_load (.agg (eMove s17).toArray) 3 g1_4 0) ?_
  refine xx rfl (x_sto 1 g0_0 0 (eMove s17) ?_)
  refine rend ?_
  replace h := H.done h
  subst h
  exact ret func198 rfl (vs := [.agg (eMove s17).toArray]) (.cell 1 g0_0 rfl (by kernel_rfl) (by kernel_rfl) .nil) rfl (fun W S => S.retQ)
theorem C.s_l1Cur_hand {fu : Nat} {a0 : List Int} {A0 : Option Addr} {k0 g0 : Nat} {t0 s0 : Int} {r : (Hand × Int × Int)} (w : World) (h : X.s_l1Cur_hand fu a0 t0 s0 = some r) (m0 : w.heap[g0]? = some (.cells ([.slice A0 (List.length a0) k0, .int .i64 t0, .int .u64 s0] : List Value).toArray 84 (0, 0))) (h0 : RdT (eI .u8) w (.slice A0 (List.length a0) k0) a0) (q0 : 0 < List.length a0 → ∀ k, (Value.slice A0 (List.length a0) k0).ownBlock = some k → ¬ k = g0) : Calls prog 139 #[.pointer (some ⟨g0, 0, none⟩)] w (RetQ g0 84 [.slice A0 (List.length a0) k0, .int .i64 r.2.1, .int .u64 r.2.2] w (.agg (eHand r.1).toArray)) := by
  refine callsQ (args := [.pointer (some ⟨g0, 0, none⟩)]) m0 func139 rfl ?_
  replace h : H (X.s_l1Cur_hand fu a0 t0 s0) (fun o => o = r) := H.mk h
  unfold X.s_l1Cur_hand at h
  refine c_seq ?_
  refine r_start ?_
  refine xx rfl (x_new (eHand zHand) fun g0_0 => ?_)
  refine rend ?_
  refine c_seq ?_
  refine r_start ?_
  refine p 1 ?_
  obtain ⟨v1_1, hv1_1, h⟩ := H.call h
  refine xx rfl (e_cq (cs' := [.slice A0 (List.length a0) k0, .int .i64 v1_1.2.1, .int .u64 v1_1.2.2]) (v := .agg (eShape v1_1.1).toArray) 0 [.pointer (some ⟨g0, 0, none⟩)] func195 (fun W S => C.s_l1Cur_shape W hv1_1 (S.bx 0) ((s_argN h0 q0).out W S) q0) ?_)
  refine p 1 ?_
  obtain ⟨v1_3, hv1_3, h⟩ := H.call h
  refine xx rfl (e_cq (cs' := [.slice A0 (List.length a0) k0, .int .i64 v1_3.2.1, .int .u64 v1_3.2.2]) (v := .agg (eOrient v1_3.1).toArray) 0 [.pointer (some ⟨g0, 0, none⟩)] func196 (fun W S => C.s_l1Cur_orient W hv1_3 (S.bx 0) ((s_argN h0 q0).out W S) q0) ?_)
  refine p 1 ?_
  obtain ⟨v1_5, hv1_5, h⟩ := H.call h
  refine xx rfl (e_cq (cs' := [.slice A0 (List.length a0) k0, .int .i64 v1_5.2.1, .int .u64 v1_5.2.2]) (v := .agg (ePlace v1_5.1).toArray) 0 [.pointer (some ⟨g0, 0, none⟩)] func197 (fun W S => C.s_l1Cur_place W hv1_5 (S.bx 0) ((s_argN h0 q0).out W S) q0) ?_)
  refine p 1 ?_
  obtain ⟨v1_7, hv1_7, h⟩ := H.call h
  refine xx rfl (e_cq (cs' := [.slice A0 (List.length a0) k0, .int .i64 v1_7.2.1, .int .u64 v1_7.2.2]) (v := .agg (eMove v1_7.1).toArray) 0 [.pointer (some ⟨g0, 0, none⟩)] func198 (fun W S => C.s_l1Cur_move W hv1_7 (S.bx 0) ((s_argN h0 q0).out W S) q0) ?_)
  refine p 1 ?_
  refine xx rfl (x_sto 1 g0_0 0 (eHand (⟨v1_1.1, v1_3.1, v1_5.1, v1_7.1⟩ : Hand)) ?_)
  refine rend ?_
  replace h := H.done h
  subst h
  exact ret func139 rfl (vs := [.agg (eHand (⟨v1_1.1, v1_3.1, v1_5.1, v1_7.1⟩ : Hand)).toArray]) (.cell 1 g0_0 rfl (by kernel_rfl) (by kernel_rfl) .nil) rfl (fun W S => S.retQ)
theorem C.s_mvOf {fu : Nat} {a0 : Str} {r : (Move × Bool)} (w : World) (h : X.s_mvOf fu a0 = some r) : Calls prog 204 #[.string (bs a0)] w (Ret w (.tuple #[.agg (eMove r.1).toArray, .bool r.2])) := by
  refine calls (M := no) (args := [.string (bs a0)]) func204 rfl ?_
  replace h : H (X.s_mvOf fu a0) (fun o => o = r) := H.mk h
  unfold X.s_mvOf at h
  refine c_seq ?_
  refine r_start ?_
  refine xx rfl (x_new (eMove zMove) fun g0_0 => ?_)
  refine p 1 ?_
  refine rend ?_
  refine c_seq ?_
  refine c_seq ?_
  refine r_start ?_
  refine p 2 ?_
  refine rend ?_
  refine c_or (seq a0 ([] : Str)) (fun q1 => ?_) (fun q1 => ?_)
  · replace h := H.t q1 h
    refine c_seq ?_
    refine r_start ?_
    refine p 1 ?_
    refine xx rfl (x_sto 0 g0_0 0 (eMove ({ zMove with Repeat := 1 })) ?_)
    refine p 1 ?_
    refine rend ?_
    replace h := H.done h
    subst h
    exact ret func204 rfl (vs := [.agg (eMove ({ zMove with Repeat := 1 })).toArray, .bool true]) (.cell 0 g0_0 rfl (by kernel_rfl) (by kernel_rfl) (.tmp (by kernel_rfl) .nil)) rfl (fun W S => ⟨rfl, S.below⟩)
  replace h := H.f q1 h
  refine c_skip ?_
  refine c_seq ?_
  refine c_seq ?_
  refine r_start ?_
  refine p 1 ?_
  refine rend ?_
  refine c_block ?_
  refine joinE (X := Unit) 0 (H.or h) (fun (x : Unit) => x) (fun _ => [box g0_0 42 (eMove zMove)]) (fun _ u => (jk u 0 2 (.pointer (some ⟨g0_0, 0, none⟩) :: (jk u 3 33 [])))) (fun h hj3 => ?_) ?_
  · skip
    refine loopR (X := Int) (fun (x : Int) => x) (fun n2 => [box g0_0 42 (eMove zMove)]) (fun n2 u => (.string (bs a0) :: (jk u 1 1 (.pointer (some ⟨g0_0, 0, none⟩) :: (jk u 3 1 (.int .i64 n2 :: (jk u 5 31 []))))))) 1 h (by kernel_rfl) (by kernel_rfl) ?_
    intro n2 u h
    refine c_seq ?_
    refine c_seq ?_
    refine r_start ?_
    refine p 3 ?_
    refine br (decide (n2 ≤ 6)) (fun q4 => ?_) (fun q4 => ?_)
    · replace h := H.t q4 h
      refine o_set 11 (congrArg Value.bool q4) ?_
      refine p 5 ?_
      refine rend ?_
      refine c_or (decide (n2 ≤ (List.length a0 : Int))) (fun q5 => ?_) (fun q5 => ?_)
      · replace h := H.t q5 h
        refine c_skip ?_
        refine c_seq ?_
        refine c_block ?_
        refine c_seq ?_
        refine r_start ?_
        refine p 1 ?_
        refine rend ?_
        refine c_block ?_
        refine joinE (X := Unit) 2 (H.or h) (fun (x : Unit) => x) (fun _ => [box g0_0 42 (eMove zMove)]) (fun _ u => (.string (bs a0) :: (jk u 1 1 (.pointer (some ⟨g0_0, 0, none⟩) :: (jk u 3 1 (.int .i64 n2 :: (jk u 5 31 []))))))) (fun h hj7 => ?_) ?_
        · skip
          refine loopR (X := Int) (fun (x : Int) => x) (fun n6 => [box g0_0 42 (eMove zMove)]) (fun n6 u => (.string (bs a0) :: (jk u 1 1 (.pointer (some ⟨g0_0, 0, none⟩) :: (jk u 3 1 (.int .i64 n2 :: .int .i64 n6 :: (jk u 6 30 []))))))) 1 h (by kernel_rfl) (by kernel_rfl) ?_
          intro n6 u h
          refine c_seq ?_
          refine c_seq ?_
          refine r_start ?_
          refine p 2 ?_
          refine rend ?_
          refine c_or (decide (n6 ≤ 3)) (fun q8 => ?_) (fun q8 => ?_)
          · replace h := H.t q8 h
            refine c_skip ?_
            refine c_seq ?_
            refine c_block ?_
            refine c_seq ?_
            refine r_start ?_
            refine p 2 ?_
            obtain ⟨y9_2, hy9_2, h⟩ := H.call h
            refine xq rfl (y_cut hy9_2) ?_
            refine p 1 ?_
            obtain ⟨v9_4, hv9_4, h⟩ := H.call h
            refine xq rfl (y_call [.string (bs y9_2), .int .i64 n6] (.string (bs v9_4)) func101 (fun W S => C.s_mvTimes W hv9_4)) ?_
            refine p 2 ?_
            refine rend ?_
            refine c_or (seq v9_4 a0) (fun q9 => ?_) (fun q9 => ?_)
            · replace h := H.t q9 h
              refine c_seq ?_
              refine r_start ?_
              refine p 2 ?_
              obtain ⟨y10_2, hy10_2, h⟩ := H.call h
              refine xq rfl (y_cut hy10_2) ?_
              refine p 2 ?_
              refine xx rfl (x_sto 0 g0_0 0 (eMove (⟨y10_2, n6⟩ : Move)) ?_)
              refine p 1 ?_
              refine rend ?_
              replace h := H.inr h
              replace h := H.inr h
              replace h := H.done h
              subst h
              exact ret func204 rfl (vs := [.agg (eMove (⟨y10_2, n6⟩ : Move)).toArray, .bool true]) (.cell 0 g0_0 rfl (by kernel_rfl) (by kernel_rfl) (.tmp (by kernel_rfl) .nil)) rfl (fun W S => ⟨rfl, S.below⟩)
            replace h := H.f q9 h
            refine c_skip ?_
            refine c_inb ?_
            refine r_start ?_
            refine p 3 ?_
            refine rend ?_
            replace h := H.inl h
            exact h (wr (n6 + 1)) _ _ rfl (by kernel_rfl) (by kernel_rfl)
          replace h := H.f q8 h
          refine cx ?_
          replace h := H.inr h
          exact hj7 () _ _ h (by kernel_rfl) (by kernel_rfl)
        intro x u h
        refine c_inb ?_
        refine r_start ?_
        refine p 3 ?_
        refine rend ?_
        replace h := H.inl h
        exact h (wr (n2 + 1)) _ _ rfl (by kernel_rfl) (by kernel_rfl)
      replace h := H.f q5 h
      refine cx ?_
      replace h := H.inr h
      exact hj3 () _ _ h (by kernel_rfl) (by kernel_rfl)
    replace h := H.f q4 h
    refine o_set 11 (congrArg Value.bool q4) ?_
    refine p 5 ?_
    refine rend ?_
    refine c_f (by kernel_rfl) ?_
    refine cx ?_
    replace h := H.inr h
    exact hj3 () _ _ h (by kernel_rfl) (by kernel_rfl)
  intro x u h
  refine c_seq ?_
  refine r_start ?_
  refine p 1 ?_
  refine xx rfl (x_sto 0 g0_0 0 (eMove zMove) ?_)
  refine p 1 ?_
  refine rend ?_
  replace h := H.done h
  subst h
  exact ret func204 rfl (vs := [.agg (eMove zMove).toArray, .bool false]) (.cell 0 g0_0 rfl (by kernel_rfl) (by kernel_rfl) (.tmp (by kernel_rfl) .nil)) rfl (fun W S => ⟨rfl, S.below⟩)
theorem C.s_mvNormal {fu : Nat} {a0 : Move} {r : Move} (w : World) (h : X.s_mvNormal fu a0 = some r) : Calls prog 152 #[.agg (eMove a0).toArray] w (Ret w (.agg (eMove r).toArray)) := by
  refine calls (M := no) (args := [.agg (eMove a0).toArray]) func152 rfl ?_
  replace h : H (X.s_mvNormal fu a0) (fun o => o = r) := H.mk h
  unfold X.s_mvNormal at h
  refine c_seq ?_
  refine r_start ?_
  refine xx rfl (x_box (eMove a0) fun g0_0 => ?_)
  refine xx rfl (x_new (eMove zMove) fun g0_1 => ?_)
  refine rend ?_
  refine c_seq ?_
  refine r_start ?_
  refine xq rfl (y_load (.agg (eMove a0).toArray) 0 g0_0 0) ?_
  obtain ⟨v1_1, hv1_1, h⟩ := H.call h
  refine xq rfl (y_call [.agg (eMove a0).toArray] (.string (bs v1_1)) func63 (fun W S => C.s_mvAll W hv1_1)) ?_
  obtain ⟨v1_2, hv1_2, h⟩ := H.call h
  refine xq rfl (y_call [.string (bs v1_1)] (.tuple #[.agg (eMove v1_2.1).toArray, .bool v1_2.2]) func204 (fun W S => C.s_mvOf W hv1_2)) ?_
  refine p 3 ?_
  refine xx rfl (x_new (eMove zMove) fun g1_6 => ?_)
  refine xx rfl (x_sto 2 g1_6 0 (eMove v1_2.1) ?_)
  refine p 1 ?_
  refine rend ?_
  refine c_seq ?_
  refine r_start ?_
  refine xq rfl (y_load (.agg (eMove v1_2.1).toArray) 2 g1_6 0) ?_
  refine xx rfl (x_sto 1 g0_1 0 (eMove v1_2.1) ?_)
  refine rend ?_
  replace h := H.done h
  subst h
  exact ret func152 rfl (vs := [.agg (eMove v1_2.1).toArray]) (.cell 1 g0_1 rfl (by kernel_rfl) (by kernel_rfl) .nil) rfl (fun W S => ⟨rfl, S.below⟩)
theorem C.s_plMirror {a0 : Place} {r : Place} (w : World) (h : X.s_plMirror a0 = some r) : Calls prog 199 #[.agg (ePlace a0).toArray] w (Ret w (.agg (ePlace r).toArray)) := by
  refine calls (M := no) (args := [.agg (ePlace a0).toArray]) func199 rfl ?_
  replace h : H (X.s_plMirror a0) (fun o => o = r) := H.mk h
  unfold X.s_plMirror at h
  refine c_seq ?_
  refine r_start ?_
  refine xx rfl (x_box (ePlace a0) fun g0_0 => ?_)
  refine xx rfl (x_new (ePlace zPlace) fun g0_1 => ?_)
  refine rend ?_
  refine c_seq ?_
  refine r_start ?_
  refine p 1 ?_
  refine xq rfl (y_load (.int .i64 a0.Side) 0 g0_0 1) ?_
  refine p 2 ?_
  refine xx rfl (x_sto 0 g0_0 1 (ePlace ({ a0 with Side := (wr (0 - a0.Side)) })) ?_)
  refine rend ?_
  refine c_seq ?_
  refine r_start ?_
  refine xq rfl (y_load (.agg (ePlace ({ a0 with Side := (wr (0 - a0.Side)) })).toArray) 0 g0_0 0) ?_
  refine xx rfl (x_sto 1 g0_1 0 (ePlace ({ a0 with Side := (wr (0 - a0.Side)) })) ?_)
  refine rend ?_
  replace h := H.done h
  subst h
  exact ret func199 rfl (vs := [.agg (ePlace ({ a0 with Side := (wr (0 - a0.Side)) })).toArray]) (.cell 1 g0_1 rfl (by kernel_rfl) (by kernel_rfl) .nil) rfl (fun W S => ⟨rfl, S.below⟩)
theorem C.s_l1Cur_otherFor {fu : Nat} {a0 : List Int} {A0 : Option Addr} {k0 g0 : Nat} {t0 s0 : Int} {a1 : Hand} {r : (Hand × Int × Int)} (w : World) (h : X.s_l1Cur_otherFor fu a0 t0 s0 a1 = some r) (m0 : w.heap[g0]? = some (.cells ([.slice A0 (List.length a0) k0, .int .i64 t0, .int .u64 s0] : List Value).toArray 84 (0, 0))) (h0 : RdT (eI .u8) w (.slice A0 (List.length a0) k0) a0) (q0 : 0 < List.length a0 → ∀ k, (Value.slice A0 (List.length a0) k0).ownBlock = some k → ¬ k = g0) : Calls prog 140 #[.pointer (some ⟨g0, 0, none⟩), .agg (eHand a1).toArray] w (RetQ g0 84 [.slice A0 (List.length a0) k0, .int .i64 r.2.1, .int .u64 r.2.2] w (.agg (eHand r.1).toArray)) := by
  refine callsQ (args := [.pointer (some ⟨g0, 0, none⟩), .agg (eHand a1).toArray]) m0 func140 rfl ?_
  replace h : H (X.s_l1Cur_otherFor fu a0 t0 s0 a1) (fun o => o = r) := H.mk h
  unfold X.s_l1Cur_otherFor at h
  refine c_seq ?_
  refine r_start ?_
  refine xx rfl (x_box (eHand a1) fun g0_0 => ?_)
  refine xx rfl (x_new (eHand zHand) fun g0_1 => ?_)
  refine rend ?_
  refine c_seq ?_
  refine r_start ?_
  refine xq rfl (y_load (.agg (eHand a1).toArray) 1 g0_0 0) ?_
  refine xx rfl (x_new (eHand zHand) fun g1_1 => ?_)
  refine xx rfl (x_sto 3 g1_1 0 (eHand a1) ?_)
  refine rend ?_
  refine c_seq ?_
  refine c_seq ?_
  refine r_start ?_
  refine p 1 ?_
  obtain ⟨v2_1, hv2_1, h⟩ := H.call h
  refine xx rfl (e_cq (cs' := [.slice A0 (List.length a0) k0, .int .i64 v2_1.2.1, .int .u64 v2_1.2.2]) (v := .int .i64 v2_1.1) 0 [.pointer (some ⟨g0, 0, none⟩), .int .i64 6] func89 (fun W S => C.s_l1Cur_pick W hv2_1 (S.bx 0) ((s_argN h0 q0).out W S) q0) ?_)
  refine rend ?_
  refine c_block ?_
  refine c_seq ?_
  refine c_seq ?_
  refine r_start ?_
  refine p 2 ?_
  refine rend ?_
  refine c_or (v2_1.1 == 0) (fun q1 => ?_) (fun q1 => ?_)
  · replace h := H.t q1 h
    refine c_skip ?_
    refine c_yes q1 ?_
    refine c_seq ?_
    refine r_start ?_
    refine p 1 ?_
    refine xq rfl (y_load (.agg (eOrient a1.Orient).toArray) 1 g0_0 6) ?_
    obtain ⟨v6_2, hv6_2, h⟩ := H.call h
    refine xq rfl (y_call [.agg (eOrient a1.Orient).toArray] (.agg (eOrient v6_2).toArray) func110 (fun W S => C.s_orMirror W hv6_2)) ?_
    refine p 1 ?_
    refine xx rfl (x_sto 3 g1_1 6 (eHand ({ a1 with Orient := v6_2 })) ?_)
    refine rend ?_
    refine c_seq ?_
    refine r_start ?_
    refine p 1 ?_
    refine xq rfl (y_load (.agg (ePlace a1.Place).toArray) 1 g0_0 8) ?_
    obtain ⟨v7_2, hv7_2, h⟩ := H.call h
    refine xq rfl (y_call [.agg (ePlace a1.Place).toArray] (.agg (ePlace v7_2).toArray) func199 (fun W S => C.s_plMirror W hv7_2)) ?_
    refine p 1 ?_
    refine xx rfl (x_sto 3 g1_1 8 (eHand ({ a1 with Orient := v6_2, Place := v7_2 })) ?_)
    refine rend ?_
    refine r_start ?_
    refine p 1 ?_
    refine xq rfl (y_load (.agg (eMove a1.Move).toArray) 1 g0_0 11) ?_
    obtain ⟨v8_2, hv8_2, h⟩ := H.call h
    refine xq rfl (y_call [.agg (eMove a1.Move).toArray] (.agg (eMove v8_2).toArray) func111 (fun W S => C.s_mvMirror W hv8_2)) ?_
    refine p 1 ?_
    refine xx rfl (x_sto 3 g1_1 11 (eHand (⟨a1.Shape, v6_2, v7_2, v8_2⟩ : Hand)) ?_)
    refine rend ?_
    refine c_inb ?_
    refine c_seq ?_
    refine r_start ?_
    refine xq rfl (y_load (.agg (eHand (⟨a1.Shape, v6_2, v7_2, v8_2⟩ : Hand)).toArray) 3 g1_1 0) ?_
    refine xx rfl (x_sto 2 g0_1 0 (eHand (⟨a1.Shape, v6_2, v7_2, v8_2⟩ : Hand)) ?_)
    refine rend ?_
    replace h := H.done h
    subst h
    exact ret func140 rfl (vs := [.agg (eHand (⟨a1.Shape, v6_2, v7_2, v8_2⟩ : Hand)).toArray]) (.cell 2 g0_1 rfl (by kernel_rfl) (by kernel_rfl) .nil) rfl (fun W S => S.retQ)
  replace h := H.f q1 h
  refine r_start ?_
  refine p 2 ?_
  refine rend ?_
  refine c_or (v2_1.1 == 1) (fun q2 => ?_) (fun q2 => ?_)
  · replace h := H.t q2 h
    refine c_seq ?_
    refine r_start ?_
    refine p 1 ?_
    refine xq rfl (y_load (.agg (eOrient a1.Orient).toArray) 1 g0_0 6) ?_
    obtain ⟨v6_2, hv6_2, h⟩ := H.call h
    refine xq rfl (y_call [.agg (eOrient a1.Orient).toArray] (.agg (eOrient v6_2).toArray) func110 (fun W S => C.s_orMirror W hv6_2)) ?_
    refine p 1 ?_
    refine xx rfl (x_sto 3 g1_1 6 (eHand ({ a1 with Orient := v6_2 })) ?_)
    refine rend ?_
    refine c_seq ?_
    refine r_start ?_
    refine p 1 ?_
    refine xq rfl (y_load (.agg (ePlace a1.Place).toArray) 1 g0_0 8) ?_
    obtain ⟨v7_2, hv7_2, h⟩ := H.call h
    refine xq rfl (y_call [.agg (ePlace a1.Place).toArray] (.agg (ePlace v7_2).toArray) func199 (fun W S => C.s_plMirror W hv7_2)) ?_
    refine p 1 ?_
    refine xx rfl (x_sto 3 g1_1 8 (eHand ({ a1 with Orient := v6_2, Place := v7_2 })) ?_)
    refine rend ?_
    refine r_start ?_
    refine p 1 ?_
    refine xq rfl (y_load (.agg (eMove a1.Move).toArray) 1 g0_0 11) ?_
    obtain ⟨v8_2, hv8_2, h⟩ := H.call h
    refine xq rfl (y_call [.agg (eMove a1.Move).toArray] (.agg (eMove v8_2).toArray) func111 (fun W S => C.s_mvMirror W hv8_2)) ?_
    refine p 1 ?_
    refine xx rfl (x_sto 3 g1_1 11 (eHand (⟨a1.Shape, v6_2, v7_2, v8_2⟩ : Hand)) ?_)
    refine rend ?_
    refine c_inb ?_
    refine c_seq ?_
    refine r_start ?_
    refine xq rfl (y_load (.agg (eHand (⟨a1.Shape, v6_2, v7_2, v8_2⟩ : Hand)).toArray) 3 g1_1 0) ?_
    refine xx rfl (x_sto 2 g0_1 0 (eHand (⟨a1.Shape, v6_2, v7_2, v8_2⟩ : Hand)) ?_)
    refine rend ?_
    replace h := H.done h
    subst h
    exact ret func140 rfl (vs := [.agg (eHand (⟨a1.Shape, v6_2, v7_2, v8_2⟩ : Hand)).toArray]) (.cell 2 g0_1 rfl (by kernel_rfl) (by kernel_rfl) .nil) rfl (fun W S => S.retQ)
  replace h := H.f q2 h
  refine c_seq ?_
  refine r_start ?_
  refine p 2 ?_
  refine rend ?_
  refine c_or (v2_1.1 == 2) (fun q3 => ?_) (fun q3 => ?_)
  · replace h := H.t q3 h
    refine c_seq ?_
    refine r_start ?_
    refine p 2 ?_
    refine xx rfl (x_sto 3 g1_1 11 (eHand ({ a1 with Move := { zMove with Repeat := 1 } })) ?_)
    refine rend ?_
    refine r_start ?_
    refine p 1 ?_
    obtain ⟨v11_1, hv11_1, h⟩ := H.call h
    refine xx rfl (e_cq (cs' := [.slice A0 (List.length a0) k0, .int .i64 v11_1.2.1, .int .u64 v11_1.2.2]) (v := .agg (ePlace v11_1.1).toArray) 0 [.pointer (some ⟨g0, 0, none⟩)] func197 (fun W S => C.s_l1Cur_place W hv11_1 (S.bx 0) ((s_argN h0 q0).out W S) q0) ?_)
    refine p 1 ?_
    refine xx rfl (x_sto 3 g1_1 8 (eHand ({ a1 with Place := v11_1.1, Move := { zMove with Repeat := 1 } })) ?_)
    refine rend ?_
    refine c_inb ?_
    refine c_seq ?_
    refine r_start ?_
    refine xq rfl (y_load (.agg (eHand ({ a1 with Place := v11_1.1, Move := { zMove with Repeat := 1 } })).toArray) 3 g1_1 0) ?_
    refine xx rfl (x_sto 2 g0_1 0 (eHand ({ a1 with Place := v11_1.1, Move := { zMove with Repeat := 1 } })) ?_)
    refine rend ?_
    replace h := H.done h
    subst h
    exact ret func140 rfl (vs := [.agg (eHand ({ a1 with Place := v11_1.1, Move := { zMove with Repeat := 1 } })).toArray]) (.cell 2 g0_1 rfl (by kernel_rfl) (by kernel_rfl) .nil) rfl (fun W S => S.retQ)
  replace h := H.f q3 h
  refine c_seq ?_
  refine r_start ?_
  refine p 2 ?_
  refine rend ?_
  refine c_or (v2_1.1 == 3) (fun q4 => ?_) (fun q4 => ?_)
  · replace h := H.t q4 h
    refine c_seq ?_
    refine r_start ?_
    refine p 1 ?_
    obtain ⟨v13_1, hv13_1, h⟩ := H.call h
    refine xx rfl (e_cq (cs' := [.slice A0 (List.length a0) k0, .int .i64 v13_1.2.1, .int .u64 v13_1.2.2]) (v := .agg (eHand v13_1.1).toArray) 0 [.pointer (some ⟨g0, 0, none⟩)] func139 (fun W S => C.s_l1Cur_hand W hv13_1 (S.bx 0) ((s_argN h0 q0).out W S) q0) ?_)
    refine xx rfl (x_sto 3 g1_1 0 (eHand v13_1.1) ?_)
    refine rend ?_
    refine c_seq ?_
    refine r_start ?_
    refine p 2 ?_
    refine xx rfl (x_sto 3 g1_1 11 (eHand ({ v13_1.1 with Move := { zMove with Repeat := 1 } })) ?_)
    refine rend ?_
    refine c_seq ?_
    refine r_start ?_
    obtain ⟨v15_0, hv15_0, h⟩ := H.call h
    refine xx rfl (e_cr [] (fun v => v) func109 (fun W S => C.s_siPlain W hv15_0) fun A15_0 k15_0 => ?_)
    refine p 1 ?_
    refine rend ?_
    refine r_start ?_
    refine p 4 ?_
    obtain ⟨v16_4, hv16_4, h⟩ := H.call h
    refine xx rfl (e_cq (cs' := [.slice A0 (List.length a0) k0, .int .i64 v16_4.2.1, .int .u64 v16_4.2.2]) (v := .int .i64 v16_4.1) 0 [.pointer (some ⟨g0, 0, none⟩), .int .i64 (List.length v15_0 : Int)] func89 (fun W S => C.s_l1Cur_pick W hv16_4 (S.bx 0) ((s_argN h0 q0).out W S) q0) ?_)
    obtain ⟨y16_5, hy16_5, h⟩ := H.call h
    refine xq rfl (y_idx (e := nShape) (el := 36) hy16_5 (s_own 4)) ?_
    refine xq rfl (y_el (e := nShape) 0 (.agg (eShape y16_5).toArray) hy16_5 (s_own 4)) ?_
    refine p 1 ?_
    refine xx rfl (x_sto 3 g1_1 0 (eHand ({ v13_1.1 with Shape := y16_5, Move := { zMove with Repeat := 1 } })) ?_)
    refine rend ?_
    refine c_inb ?_
    refine c_seq ?_
    refine r_start ?_
    refine xq rfl (y_load (.agg (eHand ({ v13_1.1 with Shape := y16_5, Move := { zMove with Repeat := 1 } })).toArray) 3 g1_1 0) ?_
    refine xx rfl (x_sto 2 g0_1 0 (eHand ({ v13_1.1 with Shape := y16_5, Move := { zMove with Repeat := 1 } })) ?_)
    refine rend ?_
    refine frg (fun u => (jk u 0 4 (.pointer (some ⟨g0_1, 0, none⟩) :: (jk u 5 51 [])))) (by kernel_rfl) fun u => ?_
    refine keep 5 (its' := [box g0 84 [.slice A0 (List.length a0) k0, .int .i64 v16_4.2.1, .int .u64 v16_4.2.2], box g0_0 44 (eHand a1), box g0_1 44 (eHand ({ v13_1.1 with Shape := y16_5, Move := { zMove with Repeat := 1 } })), box g1_1 44 (eHand ({ v13_1.1 with Shape := y16_5, Move := { zMove with Repeat := 1 } })), rowT nShape w.heap.size 36 (.slice A15_0 (List.length v15_0) k15_0) v15_0]) (by kernel_rfl) ?_
    replace h := H.done h
    subst h
    exact ret func140 rfl (vs := [.agg (eHand ({ v13_1.1 with Shape := y16_5, Move := { zMove with Repeat := 1 } })).toArray]) (.cell 2 g0_1 rfl (by kernel_rfl) (by kernel_rfl) .nil) rfl (fun W S => S.retQ)
  replace h := H.f q4 h
  refine c_seq ?_
  refine r_start ?_
  refine p 2 ?_
  refine rend ?_
  refine c_or (v2_1.1 == 4) (fun q5 => ?_) (fun q5 => ?_)
  · replace h := H.t q5 h
    refine r_start ?_
    refine p 1 ?_
    refine xq rfl (y_load (.agg (eMove a1.Move).toArray) 1 g0_0 11) ?_
    obtain ⟨v18_2, hv18_2, h⟩ := H.call h
    refine xq rfl (y_call [.agg (eMove a1.Move).toArray] (.agg (eMove v18_2).toArray) func152 (fun W S => C.s_mvNormal W hv18_2)) ?_
    refine p 1 ?_
    refine xx rfl (x_sto 3 g1_1 11 (eHand ({ a1 with Move := v18_2 })) ?_)
    refine rend ?_
    refine c_inb ?_
    refine c_seq ?_
    refine r_start ?_
    refine xq rfl (y_load (.agg (eHand ({ a1 with Move := v18_2 })).toArray) 3 g1_1 0) ?_
    refine xx rfl (x_sto 2 g0_1 0 (eHand ({ a1 with Move := v18_2 })) ?_)
    refine rend ?_
    replace h := H.done h
    subst h
    exact ret func140 rfl (vs := [.agg (eHand ({ a1 with Move := v18_2 })).toArray]) (.cell 2 g0_1 rfl (by kernel_rfl) (by kernel_rfl) .nil) rfl (fun W S => S.retQ)
  replace h := H.f q5 h
  refine r_start ?_
  refine p 1 ?_
  obtain ⟨v3_1, hv3_1, h⟩ := H.call h
  refine xx rfl (e_cq (cs' := [.slice A0 (List.length a0) k0, .int .i64 v3_1.2.1, .int .u64 v3_1.2.2]) (v := .agg (eHand v3_1.1).toArray) 0 [.pointer (some ⟨g0, 0, none⟩)] func139 (fun W S => C.s_l1Cur_hand W hv3_1 (S.bx 0) ((s_argN h0 q0).out W S) q0) ?_)
  refine xx rfl (x_sto 3 g1_1 0 (eHand v3_1.1) ?_)
  refine rend ?_
  refine c_inb ?_
  refine c_seq ?_
  refine r_start ?_
  refine xq rfl (y_load (.agg (eHand v3_1.1).toArray) 3 g1_1 0) ?_
  refine xx rfl (x_sto 2 g0_1 0 (eHand v3_1.1) ?_)
  refine rend ?_
  replace h := H.done h
  subst h
  exact ret func140 rfl (vs := [.agg (eHand v3_1.1).toArray]) (.cell 2 g0_1 rfl (by kernel_rfl) (by kernel_rfl) .nil) rfl (fun W S => S.retQ)
theorem C.s_l1Cur_sign {fu : Nat} {a0 : List Int} {A0 : Option Addr} {k0 g0 : Nat} {t0 s0 : Int} {r : (Sign × Int × Int)} (w : World) (h : X.s_l1Cur_sign fu a0 t0 s0 = some r) (m0 : w.heap[g0]? = some (.cells ([.slice A0 (List.length a0) k0, .int .i64 t0, .int .u64 s0] : List Value).toArray 84 (0, 0))) (h0 : RdT (eI .u8) w (.slice A0 (List.length a0) k0) a0) (q0 : 0 < List.length a0 → ∀ k, (Value.slice A0 (List.length a0) k0).ownBlock = some k → ¬ k = g0) : Calls prog 88 #[.pointer (some ⟨g0, 0, none⟩)] w (RetQ g0 84 [.slice A0 (List.length a0) k0, .int .i64 r.2.1, .int .u64 r.2.2] w (.agg (eSign r.1).toArray)) := by
  refine callsQ (args := [.pointer (some ⟨g0, 0, none⟩)]) m0 func88 rfl ?_
  replace h : H (X.s_l1Cur_sign fu a0 t0 s0) (fun o => o = r) := H.mk h
  unfold X.s_l1Cur_sign at h
  refine c_seq ?_
  refine r_start ?_
  refine xx rfl (x_new (eSign zSign) fun g0_0 => ?_)
  refine rend ?_
  refine c_seq ?_
  refine r_start ?_
  refine p 1 ?_
  obtain ⟨v1_1, hv1_1, h⟩ := H.call h
  refine xx rfl (e_cq (cs' := [.slice A0 (List.length a0) k0, .int .i64 v1_1.2.1, .int .u64 v1_1.2.2]) (v := .agg (eHand v1_1.1).toArray) 0 [.pointer (some ⟨g0, 0, none⟩)] func139 (fun W S => C.s_l1Cur_hand W hv1_1 (S.bx 0) ((s_argN h0 q0).out W S) q0) ?_)
  refine p 1 ?_
  refine xx rfl (x_new (eSign zSign) fun g1_3 => ?_)
  refine xx rfl (x_sto 2 g1_3 0 (eSign ({ zSign with Main := v1_1.1 })) ?_)
  refine rend ?_
  refine c_seq ?_
  refine c_seq ?_
  refine r_start ?_
  refine p 1 ?_
  obtain ⟨v2_1, hv2_1, h⟩ := H.call h
  refine xx rfl (e_cq (cs' := [.slice A0 (List.length a0) k0, .int .i64 v2_1.2.1, .int .u64 v2_1.2.2]) (v := .bool v2_1.1) 0 [.pointer (some ⟨g0, 0, none⟩), .int .i64 2] func53 (fun W S => C.s_l1Cur_one W hv2_1 (S.bx 0) ((s_argN h0 q0).out W S) q0) ?_)
  refine rend ?_
  refine c_or v2_1.1 (fun q1 => ?_) (fun q1 => ?_)
  · replace h := H.t q1 h
    refine c_seq ?_
    refine r_start ?_
    refine xq rfl (y_load (.agg (eSign ({ zSign with Main := v1_1.1 })).toArray) 2 g1_3 0) ?_
    refine xx rfl (x_sto 1 g0_0 0 (eSign ({ zSign with Main := v1_1.1 })) ?_)
    refine rend ?_
    replace h := H.done h
    subst h
    exact ret func88 rfl (vs := [.agg (eSign ({ zSign with Main := v1_1.1 })).toArray]) (.cell 1 g0_0 rfl (by kernel_rfl) (by kernel_rfl) .nil) rfl (fun W S => S.retQ)
  replace h := H.f q1 h
  refine c_skip ?_
  refine c_seq ?_
  refine r_start ?_
  refine p 1 ?_
  refine xx rfl (x_sto 2 g1_3 13 (eSign (⟨v1_1.1, true, zSign.Other⟩ : Sign)) ?_)
  refine rend ?_
  refine c_seq ?_
  refine r_start ?_
  refine p 2 ?_
  refine xq rfl (y_load (.agg (eHand v1_1.1).toArray) 2 g1_3 0) ?_
  obtain ⟨v5_3, hv5_3, h⟩ := H.call h
  refine xx rfl (e_cq (cs' := [.slice A0 (List.length a0) k0, .int .i64 v5_3.2.1, .int .u64 v5_3.2.2]) (v := .agg (eHand v5_3.1).toArray) 0 [.pointer (some ⟨g0, 0, none⟩), .agg (eHand v1_1.1).toArray] func140 (fun W S => C.s_l1Cur_otherFor W hv5_3 (S.bx 0) ((s_argN h0 q0).out W S) q0) ?_)
  refine p 1 ?_
  refine xx rfl (x_sto 2 g1_3 14 (eSign (⟨v1_1.1, true, v5_3.1⟩ : Sign)) ?_)
  refine rend ?_
  refine c_seq ?_
  refine c_seq ?_
  refine r_start ?_
  refine xq rfl (y_load (.agg (eSign (⟨v1_1.1, true, v5_3.1⟩ : Sign)).toArray) 2 g1_3 0) ?_
  obtain ⟨v6_1, hv6_1, h⟩ := H.call h
  refine xq rfl (y_call [.agg (eSign (⟨v1_1.1, true, v5_3.1⟩ : Sign)).toArray] (.bool v6_1) func61 (fun W S => C.s_siGood W hv6_1)) ?_
  refine p 1 ?_
  refine rend ?_
  refine c_or (!v6_1) (fun q2 => ?_) (fun q2 => ?_)
  · replace h := H.t q2 h
    refine c_seq ?_
    refine r_start ?_
    refine p 1 ?_
    refine xq rfl (y_load (.agg (eHand v1_1.1).toArray) 2 g1_3 0) ?_
    refine p 1 ?_
    refine xx rfl (x_sto 1 g0_0 0 (eSign ({ zSign with Main := v1_1.1 })) ?_)
    refine rend ?_
    replace h := H.done h
    subst h
    exact ret func88 rfl (vs := [.agg (eSign ({ zSign with Main := v1_1.1 })).toArray]) (.cell 1 g0_0 rfl (by kernel_rfl) (by kernel_rfl) .nil) rfl (fun W S => S.retQ)
  replace h := H.f q2 h
  refine c_skip ?_
  refine c_seq ?_
  refine r_start ?_
  refine xq rfl (y_load (.agg (eSign (⟨v1_1.1, true, v5_3.1⟩ : Sign)).toArray) 2 g1_3 0) ?_
  refine xx rfl (x_sto 1 g0_0 0 (eSign (⟨v1_1.1, true, v5_3.1⟩ : Sign)) ?_)
  refine rend ?_
  replace h := H.done h
  subst h
  exact ret func88 rfl (vs := [.agg (eSign (⟨v1_1.1, true, v5_3.1⟩ : Sign)).toArray]) (.cell 1 g0_0 rfl (by kernel_rfl) (by kernel_rfl) .nil) rfl (fun W S => S.retQ)
theorem C.s_l1Cur_anyShape {fu : Nat} {a0 : List Int} {A0 : Option Addr} {k0 g0 : Nat} {t0 s0 : Int} {r : (Shape × Int × Int)} (w : World) (h : X.s_l1Cur_anyShape fu a0 t0 s0 = some r) (m0 : w.heap[g0]? = some (.cells ([.slice A0 (List.length a0) k0, .int .i64 t0, .int .u64 s0] : List Value).toArray 84 (0, 0))) (h0 : RdT (eI .u8) w (.slice A0 (List.length a0) k0) a0) (q0 : 0 < List.length a0 → ∀ k, (Value.slice A0 (List.length a0) k0).ownBlock = some k → ¬ k = g0) : Calls prog 142 #[.pointer (some ⟨g0, 0, none⟩)] w (RetQ g0 84 [.slice A0 (List.length a0) k0, .int .i64 r.2.1, .int .u64 r.2.2] w (.agg (eShape r.1).toArray)) := by
  refine callsQ (args := [.pointer (some ⟨g0, 0, none⟩)]) m0 func142 rfl ?_
  replace h : H (X.s_l1Cur_anyShape fu a0 t0 s0) (fun o => o = r) := H.mk h
  unfold X.s_l1Cur_anyShape at h
  refine c_seq ?_
  refine r_start ?_
  refine xx rfl (x_new (eShape zShape) fun g0_0 => ?_)
  refine rend ?_
  refine c_seq ?_
  refine r_start ?_
  refine p 1 ?_
  obtain ⟨v1_1, hv1_1, h⟩ := H.call h
  refine xx rfl (e_cq (cs' := [.slice A0 (List.length a0) k0, .int .i64 v1_1.2.1, .int .u64 v1_1.2.2]) (v := .agg (eShape v1_1.1).toArray) 0 [.pointer (some ⟨g0, 0, none⟩)] func195 (fun W S => C.s_l1Cur_shape W hv1_1 (S.bx 0) ((s_argN h0 q0).out W S) q0) ?_)
  refine xx rfl (x_new (eShape zShape) fun g1_2 => ?_)
  refine xx rfl (x_sto 2 g1_2 0 (eShape v1_1.1) ?_)
  refine rend ?_
  refine c_seq ?_
  refine c_seq ?_
  refine r_start ?_
  refine p 1 ?_
  obtain ⟨v2_1, hv2_1, h⟩ := H.call h
  refine xx rfl (e_cq (cs' := [.slice A0 (List.length a0) k0, .int .i64 v2_1.2.1, .int .u64 v2_1.2.2]) (v := .int .i64 v2_1.1) 0 [.pointer (some ⟨g0, 0, none⟩), .int .i64 40] func89 (fun W S => C.s_l1Cur_pick W hv2_1 (S.bx 0) ((s_argN h0 q0).out W S) q0) ?_)
  refine rend ?_
  refine c_block ?_
  refine c_seq ?_
  refine r_start ?_
  refine p 2 ?_
  refine rend ?_
  refine c_or (v2_1.1 == 0) (fun q1 => ?_) (fun q1 => ?_)
  · replace h := H.t q1 h
    refine r_start ?_
    refine p 1 ?_
    refine xx rfl (e_lit (e := (eI .i64)) (el := 3) [.int .i64 (-1), .int .i64 3] ([(-1), 3] : List Int) fun A4_1 k4_1 => ?_)
    obtain ⟨v4_2, hv4_2, h⟩ := H.call h
    refine xx rfl (e_cq (cs' := [.slice A0 (List.length a0) k0, .int .i64 v4_2.2.1, .int .u64 v4_2.2.2]) (v := .int .i64 v4_2.1) 0 [.pointer (some ⟨g0, 0, none⟩), .slice A4_1 (List.length ([(-1), 3] : List Int)) k4_1] func93 (fun W S => C.s_l1Cur_among W hv4_2 (S.bx 0) ((s_argN h0 q0).out W S) q0 ((s_own 3).out W S) (ap_row S 3 0 (by decide))) ?_)
    refine p 1 ?_
    refine xx rfl (x_sto 2 g1_2 0 (eShape ({ v1_1.1 with Thumb := v4_2.1 })) ?_)
    refine rend ?_
    refine c_inb ?_
    refine c_seq ?_
    refine r_start ?_
    refine xq rfl (y_load (.agg (eShape ({ v1_1.1 with Thumb := v4_2.1 })).toArray) 2 g1_2 0) ?_
    refine xx rfl (x_sto 1 g0_0 0 (eShape ({ v1_1.1 with Thumb := v4_2.1 })) ?_)
    refine rend ?_
    replace h := H.done h
    subst h
    exact ret func142 rfl (vs := [.agg (eShape ({ v1_1.1 with Thumb := v4_2.1 })).toArray]) (.cell 1 g0_0 rfl (by kernel_rfl) (by kernel_rfl) .nil) rfl (fun W S => S.retQ)
  replace h := H.f q1 h
  refine c_seq ?_
  refine r_start ?_
  refine p 2 ?_
  refine rend ?_
  refine c_or (v2_1.1 == 1) (fun q2 => ?_) (fun q2 => ?_)
  · replace h := H.t q2 h
    refine r_start ?_
    refine p 1 ?_
    refine xx rfl (e_lit (e := (eI .i64)) (el := 3) [.int .i64 (-1), .int .i64 3, .int .i64 (-9223372036854775808)] ([(-1), 3, (-9223372036854775808)] : List Int) fun A6_1 k6_1 => ?_)
    obtain ⟨v6_2, hv6_2, h⟩ := H.call h
    refine xx rfl (e_cq (cs' := [.slice A0 (List.length a0) k0, .int .i64 v6_2.2.1, .int .u64 v6_2.2.2]) (v := .int .i64 v6_2.1) 0 [.pointer (some ⟨g0, 0, none⟩), .slice A6_1 (List.length ([(-1), 3, (-9223372036854775808)] : List Int)) k6_1] func93 (fun W S => C.s_l1Cur_among W hv6_2 (S.bx 0) ((s_argN h0 q0).out W S) q0 ((s_own 3).out W S) (ap_row S 3 0 (by decide))) ?_)
    refine p 1 ?_
    refine xx rfl (x_sto 2 g1_2 3 (eShape ({ v1_1.1 with Ring := v6_2.1 })) ?_)
    refine rend ?_
    refine c_inb ?_
    refine c_seq ?_
    refine r_start ?_
    refine xq rfl (y_load (.agg (eShape ({ v1_1.1 with Ring := v6_2.1 })).toArray) 2 g1_2 0) ?_
    refine xx rfl (x_sto 1 g0_0 0 (eShape ({ v1_1.1 with Ring := v6_2.1 })) ?_)
    refine rend ?_
    replace h := H.done h
    subst h
    exact ret func142 rfl (vs := [.agg (eShape ({ v1_1.1 with Ring := v6_2.1 })).toArray]) (.cell 1 g0_0 rfl (by kernel_rfl) (by kernel_rfl) .nil) rfl (fun W S => S.retQ)
  replace h := H.f q2 h
  refine c_seq ?_
  refine r_start ?_
  refine p 2 ?_
  refine rend ?_
  refine c_or (v2_1.1 == 2) (fun q3 => ?_) (fun q3 => ?_)
  · replace h := H.t q3 h
    refine c_seq ?_
    refine r_start ?_
    refine p 1 ?_
    refine xx rfl (e_lit (e := (eI .i64)) (el := 3) [.int .i64 (-1), .int .i64 3] ([(-1), 3] : List Int) fun A8_1 k8_1 => ?_)
    obtain ⟨v8_2, hv8_2, h⟩ := H.call h
    refine xx rfl (e_cq (cs' := [.slice A0 (List.length a0) k0, .int .i64 v8_2.2.1, .int .u64 v8_2.2.2]) (v := .int .i64 v8_2.1) 0 [.pointer (some ⟨g0, 0, none⟩), .slice A8_1 (List.length ([(-1), 3] : List Int)) k8_1] func93 (fun W S => C.s_l1Cur_among W hv8_2 (S.bx 0) ((s_argN h0 q0).out W S) q0 ((s_own 3).out W S) (ap_row S 3 0 (by decide))) ?_)
    refine p 1 ?_
    refine xx rfl (x_sto 2 g1_2 1 (eShape ({ v1_1.1 with Index := v8_2.1 })) ?_)
    refine rend ?_
    refine r_start ?_
    refine p 1 ?_
    refine xx rfl (x_sto 2 g1_2 4 (eShape ({ v1_1.1 with Index := v8_2.1, Little := 2 })) ?_)
    refine rend ?_
    refine c_inb ?_
    refine c_seq ?_
    refine r_start ?_
    refine xq rfl (y_load (.agg (eShape ({ v1_1.1 with Index := v8_2.1, Little := 2 })).toArray) 2 g1_2 0) ?_
    refine xx rfl (x_sto 1 g0_0 0 (eShape ({ v1_1.1 with Index := v8_2.1, Little := 2 })) ?_)
    refine rend ?_
    replace h := H.done h
    subst h
    exact ret func142 rfl (vs := [.agg (eShape ({ v1_1.1 with Index := v8_2.1, Little := 2 })).toArray]) (.cell 1 g0_0 rfl (by kernel_rfl) (by kernel_rfl) .nil) rfl (fun W S => S.retQ)
  replace h := H.f q3 h
  refine c_seq ?_
  refine r_start ?_
  refine p 2 ?_
  refine rend ?_
  refine c_or (v2_1.1 == 3) (fun q4 => ?_) (fun q4 => ?_)
  · replace h := H.t q4 h
    refine r_start ?_
    refine p 1 ?_
    obtain ⟨v11_1, hv11_1, h⟩ := H.call h
    refine xx rfl (e_cq (cs' := [.slice A0 (List.length a0) k0, .int .i64 v11_1.2.1, .int .u64 v11_1.2.2]) (v := .int .i64 v11_1.1) 0 [.pointer (some ⟨g0, 0, none⟩), .int .i64 3] func89 (fun W S => C.s_l1Cur_pick W hv11_1 (S.bx 0) ((s_argN h0 q0).out W S) q0) ?_)
    refine p 1 ?_
    obtain ⟨v11_3, hv11_3, h⟩ := H.call h
    refine xx rfl (e_cq (cs' := [.slice A0 (List.length a0) k0, .int .i64 v11_3.2.1, .int .u64 v11_3.2.2]) (v := .int .i64 v11_3.1) 0 [.pointer (some ⟨g0, 0, none⟩), .int .i64 2] func89 (fun W S => C.s_l1Cur_pick W hv11_3 (S.bx 0) ((s_argN h0 q0).out W S) q0) ?_)
    refine p 2 ?_
    refine xx rfl (x_sto 2 g1_2 0 (eShape (⟨zShape.Thumb, v11_1.1, (wr (1 + v11_3.1)), zShape.Ring, 1, true⟩ : Shape)) ?_)
    refine rend ?_
    refine c_inb ?_
    refine c_seq ?_
    refine r_start ?_
    refine xq rfl (y_load (.agg (eShape (⟨zShape.Thumb, v11_1.1, (wr (1 + v11_3.1)), zShape.Ring, 1, true⟩ : Shape)).toArray) 2 g1_2 0) ?_
    refine xx rfl (x_sto 1 g0_0 0 (eShape (⟨zShape.Thumb, v11_1.1, (wr (1 + v11_3.1)), zShape.Ring, 1, true⟩ : Shape)) ?_)
    refine rend ?_
    replace h := H.done h
    subst h
    exact ret func142 rfl (vs := [.agg (eShape (⟨zShape.Thumb, v11_1.1, (wr (1 + v11_3.1)), zShape.Ring, 1, true⟩ : Shape)).toArray]) (.cell 1 g0_0 rfl (by kernel_rfl) (by kernel_rfl) .nil) rfl (fun W S => S.retQ)
  replace h := H.f q4 h
  refine c_skip ?_
  refine c_inb ?_
  refine c_seq ?_
  refine r_start ?_
  refine xq rfl (y_load (.agg (eShape v1_1.1).toArray) 2 g1_2 0) ?_
  refine xx rfl (x_sto 1 g0_0 0 (eShape v1_1.1) ?_)
  refine rend ?_
  replace h := H.done h
  subst h
  exact ret func142 rfl (vs := [.agg (eShape v1_1.1).toArray]) (.cell 1 g0_0 rfl (by kernel_rfl) (by kernel_rfl) .nil) rfl (fun W S => S.retQ)
theorem C.s_l1Cur_anyOrient {fu : Nat} {a0 : List Int} {A0 : Option Addr} {k0 g0 : Nat} {t0 s0 : Int} {r : (Orient × Int × Int)} (w : World) (h : X.s_l1Cur_anyOrient fu a0 t0 s0 = some r) (m0 : w.heap[g0]? = some (.cells ([.slice A0 (List.length a0) k0, .int .i64 t0, .int .u64 s0] : List Value).toArray 84 (0, 0))) (h0 : RdT (eI .u8) w (.slice A0 (List.length a0) k0) a0) (q0 : 0 < List.length a0 → ∀ k, (Value.slice A0 (List.length a0) k0).ownBlock = some k → ¬ k = g0) : Calls prog 143 #[.pointer (some ⟨g0, 0, none⟩)] w (RetQ g0 84 [.slice A0 (List.length a0) k0, .int .i64 r.2.1, .int .u64 r.2.2] w (.agg (eOrient r.1).toArray)) := by
  refine callsQ (args := [.pointer (some ⟨g0, 0, none⟩)]) m0 func143 rfl ?_
  replace h : H (X.s_l1Cur_anyOrient fu a0 t0 s0) (fun o => o = r) := H.mk h
  unfold X.s_l1Cur_anyOrient at h
  refine c_seq ?_
  refine r_start ?_
  refine xx rfl (x_new (eOrient zOrient) fun g0_0 => ?_)
  refine rend ?_
  refine c_seq ?_
  refine c_seq ?_
  refine r_start ?_
  refine p 1 ?_
  obtain ⟨v1_1, hv1_1, h⟩ := H.call h
  refine xx rfl (e_cq (cs' := [.slice A0 (List.length a0) k0, .int .i64 v1_1.2.1, .int .u64 v1_1.2.2]) (v := .bool v1_1.1) 0 [.pointer (some ⟨g0, 0, none⟩), .int .i64 16] func53 (fun W S => C.s_l1Cur_one W hv1_1 (S.bx 0) ((s_argN h0 q0).out W S) q0) ?_)
  refine rend ?_
  refine c_or v1_1.1 (fun q1 => ?_) (fun q1 => ?_)
  · replace h := H.t q1 h
    refine c_seq ?_
    refine r_start ?_
    refine p 1 ?_
    obtain ⟨v2_1, hv2_1, h⟩ := H.call h
    refine xx rfl (e_cq (cs' := [.slice A0 (List.length a0) k0, .int .i64 v2_1.2.1, .int .u64 v2_1.2.2]) (v := .int .i64 v2_1.1) 0 [.pointer (some ⟨g0, 0, none⟩), .int .i64 8] func89 (fun W S => C.s_l1Cur_pick W hv2_1 (S.bx 0) ((s_argN h0 q0).out W S) q0) ?_)
    refine p 2 ?_
    obtain ⟨v2_4, hv2_4, h⟩ := H.call h
    refine xx rfl (e_cq (cs' := [.slice A0 (List.length a0) k0, .int .i64 v2_4.2.1, .int .u64 v2_4.2.2]) (v := .int .i64 v2_4.1) 0 [.pointer (some ⟨g0, 0, none⟩), .int .i64 8] func89 (fun W S => C.s_l1Cur_pick W hv2_4 (S.bx 0) ((s_argN h0 q0).out W S) q0) ?_)
    refine p 2 ?_
    refine xx rfl (x_sto 1 g0_0 0 (eOrient (⟨(wr (v2_1.1 - 1)), (wr (v2_4.1 - 1))⟩ : Orient)) ?_)
    refine rend ?_
    replace h := H.done h
    subst h
    exact ret func143 rfl (vs := [.agg (eOrient (⟨(wr (v2_1.1 - 1)), (wr (v2_4.1 - 1))⟩ : Orient)).toArray]) (.cell 1 g0_0 rfl (by kernel_rfl) (by kernel_rfl) .nil) rfl (fun W S => S.retQ)
  replace h := H.f q1 h
  refine c_skip ?_
  refine c_seq ?_
  refine r_start ?_
  refine p 1 ?_
  obtain ⟨v3_1, hv3_1, h⟩ := H.call h
  refine xx rfl (e_cq (cs' := [.slice A0 (List.length a0) k0, .int .i64 v3_1.2.1, .int .u64 v3_1.2.2]) (v := .agg (eOrient v3_1.1).toArray) 0 [.pointer (some ⟨g0, 0, none⟩)] func196 (fun W S => C.s_l1Cur_orient W hv3_1 (S.bx 0) ((s_argN h0 q0).out W S) q0) ?_)
  refine xx rfl (x_sto 1 g0_0 0 (eOrient v3_1.1) ?_)
  refine rend ?_
  replace h := H.done h
  subst h
  exact ret func143 rfl (vs := [.agg (eOrient v3_1.1).toArray]) (.cell 1 g0_0 rfl (by kernel_rfl) (by kernel_rfl) .nil) rfl (fun W S => S.retQ)
theorem C.s_l1Cur_anyPlace {fu : Nat} {a0 : List Int} {A0 : Option Addr} {k0 g0 : Nat} {t0 s0 : Int} {r : (Place × Int × Int)} (w : World) (h : X.s_l1Cur_anyPlace fu a0 t0 s0 = some r) (m0 : w.heap[g0]? = some (.cells ([.slice A0 (List.length a0) k0, .int .i64 t0, .int .u64 s0] : List Value).toArray 84 (0, 0))) (h0 : RdT (eI .u8) w (.slice A0 (List.length a0) k0) a0) (q0 : 0 < List.length a0 → ∀ k, (Value.slice A0 (List.length a0) k0).ownBlock = some k → ¬ k = g0) : Calls prog 144 #[.pointer (some ⟨g0, 0, none⟩)] w (RetQ g0 84 [.slice A0 (List.length a0) k0, .int .i64 r.2.1, .int .u64 r.2.2] w (.agg (ePlace r.1).toArray)) := by
  refine callsQ (args := [.pointer (some ⟨g0, 0, none⟩)]) m0 func144 rfl ?_
  replace h : H (X.s_l1Cur_anyPlace fu a0 t0 s0) (fun o => o = r) := H.mk h
  unfold X.s_l1Cur_anyPlace at h
  refine c_seq ?_
  refine r_start ?_
  refine xx rfl (x_new (ePlace zPlace) fun g0_0 => ?_)
  refine rend ?_
  refine c_seq ?_
  refine r_start ?_
  refine p 1 ?_
  obtain ⟨v1_1, hv1_1, h⟩ := H.call h
  refine xx rfl (e_cq (cs' := [.slice A0 (List.length a0) k0, .int .i64 v1_1.2.1, .int .u64 v1_1.2.2]) (v := .agg (ePlace v1_1.1).toArray) 0 [.pointer (some ⟨g0, 0, none⟩)] func197 (fun W S => C.s_l1Cur_place W hv1_1 (S.bx 0) ((s_argN h0 q0).out W S) q0) ?_)
  refine xx rfl (x_new (ePlace zPlace) fun g1_2 => ?_)
  refine xx rfl (x_sto 2 g1_2 0 (ePlace v1_1.1) ?_)
  refine rend ?_
  refine c_seq ?_
  refine c_seq ?_
  refine r_start ?_
  refine p 1 ?_
  obtain ⟨v2_1, hv2_1, h⟩ := H.call h
  refine xx rfl (e_cq (cs' := [.slice A0 (List.length a0) k0, .int .i64 v2_1.2.1, .int .u64 v2_1.2.2]) (v := .int .i64 v2_1.1) 0 [.pointer (some ⟨g0, 0, none⟩), .int .i64 30] func89 (fun W S => C.s_l1Cur_pick W hv2_1 (S.bx 0) ((s_argN h0 q0).out W S) q0) ?_)
  refine rend ?_
  refine c_block ?_
  refine c_seq ?_
  refine r_start ?_
  refine p 2 ?_
  refine rend ?_
  refine c_or (v2_1.1 == 0) (fun q1 => ?_) (fun q1 => ?_)
  · replace h := H.t q1 h
    refine r_start ?_
    refine p 1 ?_
    refine xx rfl (e_lit (e := (eI .i64)) (el := 3) [.int .i64 (-1), .int .i64 10, .int .i64 (-9223372036854775808)] ([(-1), 10, (-9223372036854775808)] : List Int) fun A4_1 k4_1 => ?_)
    obtain ⟨v4_2, hv4_2, h⟩ := H.call h
    refine xx rfl (e_cq (cs' := [.slice A0 (List.length a0) k0, .int .i64 v4_2.2.1, .int .u64 v4_2.2.2]) (v := .int .i64 v4_2.1) 0 [.pointer (some ⟨g0, 0, none⟩), .slice A4_1 (List.length ([(-1), 10, (-9223372036854775808)] : List Int)) k4_1] func93 (fun W S => C.s_l1Cur_among W hv4_2 (S.bx 0) ((s_argN h0 q0).out W S) q0 ((s_own 3).out W S) (ap_row S 3 0 (by decide))) ?_)
    refine p 1 ?_
    refine xx rfl (x_sto 2 g1_2 0 (ePlace ({ v1_1.1 with Region := v4_2.1 })) ?_)
    refine rend ?_
    refine c_inb ?_
    refine c_seq ?_
    refine r_start ?_
    refine xq rfl (y_load (.agg (ePlace ({ v1_1.1 with Region := v4_2.1 })).toArray) 2 g1_2 0) ?_
    refine xx rfl (x_sto 1 g0_0 0 (ePlace ({ v1_1.1 with Region := v4_2.1 })) ?_)
    refine rend ?_
    replace h := H.done h
    subst h
    exact ret func144 rfl (vs := [.agg (ePlace ({ v1_1.1 with Region := v4_2.1 })).toArray]) (.cell 1 g0_0 rfl (by kernel_rfl) (by kernel_rfl) .nil) rfl (fun W S => S.retQ)
  replace h := H.f q1 h
  refine c_seq ?_
  refine r_start ?_
  refine p 2 ?_
  refine rend ?_
  refine c_or (v2_1.1 == 1) (fun q2 => ?_) (fun q2 => ?_)
  · replace h := H.t q2 h
    refine r_start ?_
    refine p 1 ?_
    refine xx rfl (e_lit (e := (eI .i64)) (el := 3) [.int .i64 (-2), .int .i64 2, .int .i64 9223372036854775807] ([(-2), 2, 9223372036854775807] : List Int) fun A6_1 k6_1 => ?_)
    obtain ⟨v6_2, hv6_2, h⟩ := H.call h
    refine xx rfl (e_cq (cs' := [.slice A0 (List.length a0) k0, .int .i64 v6_2.2.1, .int .u64 v6_2.2.2]) (v := .int .i64 v6_2.1) 0 [.pointer (some ⟨g0, 0, none⟩), .slice A6_1 (List.length ([(-2), 2, 9223372036854775807] : List Int)) k6_1] func93 (fun W S => C.s_l1Cur_among W hv6_2 (S.bx 0) ((s_argN h0 q0).out W S) q0 ((s_own 3).out W S) (ap_row S 3 0 (by decide))) ?_)
    refine p 1 ?_
    refine xx rfl (x_sto 2 g1_2 1 (ePlace ({ v1_1.1 with Side := v6_2.1 })) ?_)
    refine rend ?_
    refine c_inb ?_
    refine c_seq ?_
    refine r_start ?_
    refine xq rfl (y_load (.agg (ePlace ({ v1_1.1 with Side := v6_2.1 })).toArray) 2 g1_2 0) ?_
    refine xx rfl (x_sto 1 g0_0 0 (ePlace ({ v1_1.1 with Side := v6_2.1 })) ?_)
    refine rend ?_
    replace h := H.done h
    subst h
    exact ret func144 rfl (vs := [.agg (ePlace ({ v1_1.1 with Side := v6_2.1 })).toArray]) (.cell 1 g0_0 rfl (by kernel_rfl) (by kernel_rfl) .nil) rfl (fun W S => S.retQ)
  replace h := H.f q2 h
  refine c_seq ?_
  refine r_start ?_
  refine p 2 ?_
  refine rend ?_
  refine c_or (v2_1.1 == 2) (fun q3 => ?_) (fun q3 => ?_)
  · replace h := H.t q3 h
    refine r_start ?_
    refine p 1 ?_
    refine xx rfl (x_sto 2 g1_2 0 (ePlace ({ zPlace with Contact := true })) ?_)
    refine rend ?_
    refine c_inb ?_
    refine c_seq ?_
    refine r_start ?_
    refine xq rfl (y_load (.agg (ePlace ({ zPlace with Contact := true })).toArray) 2 g1_2 0) ?_
    refine xx rfl (x_sto 1 g0_0 0 (ePlace ({ zPlace with Contact := true })) ?_)
    refine rend ?_
    replace h := H.done h
    subst h
    exact ret func144 rfl (vs := [.agg (ePlace ({ zPlace with Contact := true })).toArray]) (.cell 1 g0_0 rfl (by kernel_rfl) (by kernel_rfl) .nil) rfl (fun W S => S.retQ)
  replace h := H.f q3 h
  refine c_skip ?_
  refine c_inb ?_
  refine c_seq ?_
  refine r_start ?_
  refine xq rfl (y_load (.agg (ePlace v1_1.1).toArray) 2 g1_2 0) ?_
  refine xx rfl (x_sto 1 g0_0 0 (ePlace v1_1.1) ?_)
  refine rend ?_
  replace h := H.done h
  subst h
  exact ret func144 rfl (vs := [.agg (ePlace v1_1.1).toArray]) (.cell 1 g0_0 rfl (by kernel_rfl) (by kernel_rfl) .nil) rfl (fun W S => S.retQ)
theorem C.s_l1Cur_anyMove {fu : Nat} {a0 : List Int} {A0 : Option Addr} {k0 g0 : Nat} {t0 s0 : Int} {r : (Move × Int × Int)} (w : World) (h : X.s_l1Cur_anyMove fu a0 t0 s0 = some r) (m0 : w.heap[g0]? = some (.cells ([.slice A0 (List.length a0) k0, .int .i64 t0, .int .u64 s0] : List Value).toArray 84 (0, 0))) (h0 : RdT (eI .u8) w (.slice A0 (List.length a0) k0) a0) (q0 : 0 < List.length a0 → ∀ k, (Value.slice A0 (List.length a0) k0).ownBlock = some k → ¬ k = g0) : Calls prog 145 #[.pointer (some ⟨g0, 0, none⟩)] w (RetQ g0 84 [.slice A0 (List.length a0) k0, .int .i64 r.2.1, .int .u64 r.2.2] w (.agg (eMove r.1).toArray)) := by
  refine callsQ (args := [.pointer (some ⟨g0, 0, none⟩)]) m0 func145 rfl ?_
  replace h : H (X.s_l1Cur_anyMove fu a0 t0 s0) (fun o => o = r) := H.mk h
  unfold X.s_l1Cur_anyMove at h
  refine c_seq ?_
  refine r_start ?_
  refine xx rfl (x_new (eMove zMove) fun g0_0 => ?_)
  refine rend ?_
  refine c_seq ?_
  refine r_start ?_
  refine p 1 ?_
  obtain ⟨v1_1, hv1_1, h⟩ := H.call h
  refine xx rfl (e_cq (cs' := [.slice A0 (List.length a0) k0, .int .i64 v1_1.2.1, .int .u64 v1_1.2.2]) (v := .agg (eMove v1_1.1).toArray) 0 [.pointer (some ⟨g0, 0, none⟩)] func198 (fun W S => C.s_l1Cur_move W hv1_1 (S.bx 0) ((s_argN h0 q0).out W S) q0) ?_)
  refine xx rfl (x_new (eMove zMove) fun g1_2 => ?_)
  refine xx rfl (x_sto 2 g1_2 0 (eMove v1_1.1) ?_)
  refine rend ?_
  refine c_seq ?_
  refine c_seq ?_
  refine r_start ?_
  refine p 1 ?_
  obtain ⟨v2_1, hv2_1, h⟩ := H.call h
  refine xx rfl (e_cq (cs' := [.slice A0 (List.length a0) k0, .int .i64 v2_1.2.1, .int .u64 v2_1.2.2]) (v := .int .i64 v2_1.1) 0 [.pointer (some ⟨g0, 0, none⟩), .int .i64 30] func89 (fun W S => C.s_l1Cur_pick W hv2_1 (S.bx 0) ((s_argN h0 q0).out W S) q0) ?_)
  refine rend ?_
  refine c_block ?_
  refine c_seq ?_
  refine r_start ?_
  refine p 2 ?_
  refine rend ?_
  refine c_or (v2_1.1 == 0) (fun q1 => ?_) (fun q1 => ?_)
  · replace h := H.t q1 h
    refine r_start ?_
    refine p 1 ?_
    refine xx rfl (e_lit (e := (eI .i64)) (el := 3) [.int .i64 0, .int .i64 4, .int .i64 (-9223372036854775808)] ([0, 4, (-9223372036854775808)] : List Int) fun A4_1 k4_1 => ?_)
    obtain ⟨v4_2, hv4_2, h⟩ := H.call h
    refine xx rfl (e_cq (cs' := [.slice A0 (List.length a0) k0, .int .i64 v4_2.2.1, .int .u64 v4_2.2.2]) (v := .int .i64 v4_2.1) 0 [.pointer (some ⟨g0, 0, none⟩), .slice A4_1 (List.length ([0, 4, (-9223372036854775808)] : List Int)) k4_1] func93 (fun W S => C.s_l1Cur_among W hv4_2 (S.bx 0) ((s_argN h0 q0).out W S) q0 ((s_own 3).out W S) (ap_row S 3 0 (by decide))) ?_)
    refine p 1 ?_
    refine xx rfl (x_sto 2 g1_2 1 (eMove ({ v1_1.1 with Repeat := v4_2.1 })) ?_)
    refine rend ?_
    refine c_inb ?_
    refine c_seq ?_
    refine r_start ?_
    refine xq rfl (y_load (.agg (eMove ({ v1_1.1 with Repeat := v4_2.1 })).toArray) 2 g1_2 0) ?_
    refine xx rfl (x_sto 1 g0_0 0 (eMove ({ v1_1.1 with Repeat := v4_2.1 })) ?_)
    refine rend ?_
    replace h := H.done h
    subst h
    exact ret func145 rfl (vs := [.agg (eMove ({ v1_1.1 with Repeat := v4_2.1 })).toArray]) (.cell 1 g0_0 rfl (by kernel_rfl) (by kernel_rfl) .nil) rfl (fun W S => S.retQ)
  replace h := H.f q1 h
  refine c_seq ?_
  refine r_start ?_
  refine p 2 ?_
  refine rend ?_
  refine c_or (v2_1.1 == 1) (fun q2 => ?_) (fun q2 => ?_)
  · replace h := H.t q2 h
    refine pick [1, 2, 0] [box g0_0 42 (eMove zMove), box g1_2 42 (eMove v1_1.1), box g0 84 [.slice A0 (List.length a0) k0, .int .i64 v2_1.2.1, .int .u64 v2_1.2.2]] ?_
    refine as_startN 7 2 8 ?_
    refine ap 0 1 ?_
    refine aq 1 rfl (y_load (.string (bs v1_1.1.Steps)) 1 g1_2 0) ?_
    refine ap 2 1 ?_
    refine ax 3 rfl (e_lit (e := eS) (el := 9) [.string (bs ([120] : Str)), .string (bs ([117, 117, 117, 117, 117, 117, 117] : Str)), .string (bs ([85] : Str))] ([([120] : Str), ([117, 117, 117, 117, 117, 117, 117] : Str), ([85] : Str)] : List Str) fun A6_3 k6_3 => ⟨.inr (by kernel_rfl), ?_⟩)
    obtain ⟨v6_4, hv6_4, h⟩ := H.call h
    refine ax 4 rfl (e_cq (cs' := [.slice A0 (List.length a0) k0, .int .i64 v6_4.2.1, .int .u64 v6_4.2.2]) (v := .string (bs v6_4.1)) 2 [.pointer (some ⟨g0, 0, none⟩), .slice A6_3 (List.length ([([120] : Str), ([117, 117, 117, 117, 117, 117, 117] : Str), ([85] : Str)] : List Str)) k6_3] func200 (fun W S => C.s_l1Cur_of W hv6_4 (S.bx 2) ((s_argN h0 q0).out W S) q0 ((s_own 3).out W S) (ap_row S 3 2 (by decide))) ⟨.inr (by kernel_rfl), ?_⟩)
    obtain ⟨y6_5, hy6_5, h⟩ := H.call h
    refine aq 5 rfl (y_cat hy6_5) ?_
    refine ap 6 1 ?_
    refine ax 7 rfl (x_sto 1 g1_2 0 (eMove ({ v1_1.1 with Steps := y6_5 })) ⟨.inl (by kernel_rfl), ?_⟩)
    refine a_done ?_
    refine pick [2, 0, 1, 3] [box g0 84 [.slice A0 (List.length a0) k0, .int .i64 v6_4.2.1, .int .u64 v6_4.2.2], box g0_0 42 (eMove zMove), box g1_2 42 (eMove ({ v1_1.1 with Steps := y6_5 })), rowT eS w.heap.size 9 (.slice A6_3 (List.length ([([120] : Str), ([117, 117, 117, 117, 117, 117, 117] : Str), ([85] : Str)] : List Str)) k6_3) ([([120] : Str), ([117, 117, 117, 117, 117, 117, 117] : Str), ([85] : Str)] : List Str)] ?_
    refine c_inb ?_
    refine c_seq ?_
    refine r_start ?_
    refine xq rfl (y_load (.agg (eMove ({ v1_1.1 with Steps := y6_5 })).toArray) 2 g1_2 0) ?_
    refine xx rfl (x_sto 1 g0_0 0 (eMove ({ v1_1.1 with Steps := y6_5 })) ?_)
    refine rend ?_
    replace h := H.done h
    subst h
    exact ret func145 rfl (vs := [.agg (eMove ({ v1_1.1 with Steps := y6_5 })).toArray]) (.cell 1 g0_0 rfl (by kernel_rfl) (by kernel_rfl) .nil) rfl (fun W S => S.retQ)
  replace h := H.f q2 h
  refine c_seq ?_
  refine r_start ?_
  refine p 2 ?_
  refine rend ?_
  refine c_or (v2_1.1 == 2) (fun q3 => ?_) (fun q3 => ?_)
  · replace h := H.t q3 h
    refine r_start ?_
    refine p 1 ?_
    refine xx rfl (x_sto 2 g1_2 0 (eMove ({ zMove with Repeat := 2 })) ?_)
    refine rend ?_
    refine c_inb ?_
    refine c_seq ?_
    refine r_start ?_
    refine xq rfl (y_load (.agg (eMove ({ zMove with Repeat := 2 })).toArray) 2 g1_2 0) ?_
    refine xx rfl (x_sto 1 g0_0 0 (eMove ({ zMove with Repeat := 2 })) ?_)
    refine rend ?_
    replace h := H.done h
    subst h
    exact ret func145 rfl (vs := [.agg (eMove ({ zMove with Repeat := 2 })).toArray]) (.cell 1 g0_0 rfl (by kernel_rfl) (by kernel_rfl) .nil) rfl (fun W S => S.retQ)
  replace h := H.f q3 h
  refine c_skip ?_
  refine c_inb ?_
  refine c_seq ?_
  refine r_start ?_
  refine xq rfl (y_load (.agg (eMove v1_1.1).toArray) 2 g1_2 0) ?_
  refine xx rfl (x_sto 1 g0_0 0 (eMove v1_1.1) ?_)
  refine rend ?_
  replace h := H.done h
  subst h
  exact ret func145 rfl (vs := [.agg (eMove v1_1.1).toArray]) (.cell 1 g0_0 rfl (by kernel_rfl) (by kernel_rfl) .nil) rfl (fun W S => S.retQ)
theorem C.s_l1Cur_anyHand {fu : Nat} {a0 : List Int} {A0 : Option Addr} {k0 g0 : Nat} {t0 s0 : Int} {r : (Hand × Int × Int)} (w : World) (h : X.s_l1Cur_anyHand fu a0 t0 s0 = some r) (m0 : w.heap[g0]? = some (.cells ([.slice A0 (List.length a0) k0, .int .i64 t0, .int .u64 s0] : List Value).toArray 84 (0, 0))) (h0 : RdT (eI .u8) w (.slice A0 (List.length a0) k0) a0) (q0 : 0 < List.length a0 → ∀ k, (Value.slice A0 (List.length a0) k0).ownBlock = some k → ¬ k = g0) : Calls prog 90 #[.pointer (some ⟨g0, 0, none⟩)] w (RetQ g0 84 [.slice A0 (List.length a0) k0, .int .i64 r.2.1, .int .u64 r.2.2] w (.agg (eHand r.1).toArray)) := by
  refine callsQ (args := [.pointer (some ⟨g0, 0, none⟩)]) m0 func90 rfl ?_
  replace h : H (X.s_l1Cur_anyHand fu a0 t0 s0) (fun o => o = r) := H.mk h
  unfold X.s_l1Cur_anyHand at h
  refine c_seq ?_
  refine r_start ?_
  refine xx rfl (x_new (eHand zHand) fun g0_0 => ?_)
  refine rend ?_
  refine c_seq ?_
  refine r_start ?_
  refine p 1 ?_
  obtain ⟨v1_1, hv1_1, h⟩ := H.call h
  refine xx rfl (e_cq (cs' := [.slice A0 (List.length a0) k0, .int .i64 v1_1.2.1, .int .u64 v1_1.2.2]) (v := .agg (eHand v1_1.1).toArray) 0 [.pointer (some ⟨g0, 0, none⟩)] func139 (fun W S => C.s_l1Cur_hand W hv1_1 (S.bx 0) ((s_argN h0 q0).out W S) q0) ?_)
  refine xx rfl (x_new (eHand zHand) fun g1_2 => ?_)
  refine xx rfl (x_sto 2 g1_2 0 (eHand v1_1.1) ?_)
  refine rend ?_
  refine c_seq ?_
  refine c_seq ?_
  refine r_start ?_
  refine p 1 ?_
  obtain ⟨v2_1, hv2_1, h⟩ := H.call h
  refine xx rfl (e_cq (cs' := [.slice A0 (List.length a0) k0, .int .i64 v2_1.2.1, .int .u64 v2_1.2.2]) (v := .int .i64 v2_1.1) 0 [.pointer (some ⟨g0, 0, none⟩), .int .i64 40] func89 (fun W S => C.s_l1Cur_pick W hv2_1 (S.bx 0) ((s_argN h0 q0).out W S) q0) ?_)
  refine rend ?_
  refine c_block ?_
  refine c_seq ?_
  refine r_start ?_
  refine p 2 ?_
  refine rend ?_
  refine c_or (v2_1.1 == 0) (fun q1 => ?_) (fun q1 => ?_)
  · replace h := H.t q1 h
    refine r_start ?_
    refine p 1 ?_
    obtain ⟨v4_1, hv4_1, h⟩ := H.call h
    refine xx rfl (e_cq (cs' := [.slice A0 (List.length a0) k0, .int .i64 v4_1.2.1, .int .u64 v4_1.2.2]) (v := .agg (eShape v4_1.1).toArray) 0 [.pointer (some ⟨g0, 0, none⟩)] func142 (fun W S => C.s_l1Cur_anyShape W hv4_1 (S.bx 0) ((s_argN h0 q0).out W S) q0) ?_)
    refine p 1 ?_
    refine xx rfl (x_sto 2 g1_2 0 (eHand ({ v1_1.1 with Shape := v4_1.1 })) ?_)
    refine rend ?_
    refine c_inb ?_
    refine c_seq ?_
    refine r_start ?_
    refine xq rfl (y_load (.agg (eHand ({ v1_1.1 with Shape := v4_1.1 })).toArray) 2 g1_2 0) ?_
    refine xx rfl (x_sto 1 g0_0 0 (eHand ({ v1_1.1 with Shape := v4_1.1 })) ?_)
    refine rend ?_
    replace h := H.done h
    subst h
    exact ret func90 rfl (vs := [.agg (eHand ({ v1_1.1 with Shape := v4_1.1 })).toArray]) (.cell 1 g0_0 rfl (by kernel_rfl) (by kernel_rfl) .nil) rfl (fun W S => S.retQ)
  replace h := H.f q1 h
  refine c_seq ?_
  refine r_start ?_
  refine p 2 ?_
  refine rend ?_
  refine c_or (v2_1.1 == 1) (fun q2 => ?_) (fun q2 => ?_)
  · replace h := H.t q2 h
    refine r_start ?_
    refine p 1 ?_
    obtain ⟨v6_1, hv6_1, h⟩ := H.call h
    refine xx rfl (e_cq (cs' := [.slice A0 (List.length a0) k0, .int .i64 v6_1.2.1, .int .u64 v6_1.2.2]) (v := .agg (eOrient v6_1.1).toArray) 0 [.pointer (some ⟨g0, 0, none⟩)] func143 (fun W S => C.s_l1Cur_anyOrient W hv6_1 (S.bx 0) ((s_argN h0 q0).out W S) q0) ?_)
    refine p 1 ?_
    refine xx rfl (x_sto 2 g1_2 6 (eHand ({ v1_1.1 with Orient := v6_1.1 })) ?_)
    refine rend ?_
    refine c_inb ?_
    refine c_seq ?_
    refine r_start ?_
    refine xq rfl (y_load (.agg (eHand ({ v1_1.1 with Orient := v6_1.1 })).toArray) 2 g1_2 0) ?_
    refine xx rfl (x_sto 1 g0_0 0 (eHand ({ v1_1.1 with Orient := v6_1.1 })) ?_)
    refine rend ?_
    replace h := H.done h
    subst h
    exact ret func90 rfl (vs := [.agg (eHand ({ v1_1.1 with Orient := v6_1.1 })).toArray]) (.cell 1 g0_0 rfl (by kernel_rfl) (by kernel_rfl) .nil) rfl (fun W S => S.retQ)
  replace h := H.f q2 h
  refine c_seq ?_
  refine r_start ?_
  refine p 2 ?_
  refine rend ?_
  refine c_or (v2_1.1 == 2) (fun q3 => ?_) (fun q3 => ?_)
  · replace h := H.t q3 h
    refine r_start ?_
    refine p 1 ?_
    obtain ⟨v8_1, hv8_1, h⟩ := H.call h
    refine xx rfl (e_cq (cs' := [.slice A0 (List.length a0) k0, .int .i64 v8_1.2.1, .int .u64 v8_1.2.2]) (v := .agg (ePlace v8_1.1).toArray) 0 [.pointer (some ⟨g0, 0, none⟩)] func144 (fun W S => C.s_l1Cur_anyPlace W hv8_1 (S.bx 0) ((s_argN h0 q0).out W S) q0) ?_)
    refine p 1 ?_
    refine xx rfl (x_sto 2 g1_2 8 (eHand ({ v1_1.1 with Place := v8_1.1 })) ?_)
    refine rend ?_
    refine c_inb ?_
    refine c_seq ?_
    refine r_start ?_
    refine xq rfl (y_load (.agg (eHand ({ v1_1.1 with Place := v8_1.1 })).toArray) 2 g1_2 0) ?_
    refine xx rfl (x_sto 1 g0_0 0 (eHand ({ v1_1.1 with Place := v8_1.1 })) ?_)
    refine rend ?_
    replace h := H.done h
    subst h
    exact ret func90 rfl (vs := [.agg (eHand ({ v1_1.1 with Place := v8_1.1 })).toArray]) (.cell 1 g0_0 rfl (by kernel_rfl) (by kernel_rfl) .nil) rfl (fun W S => S.retQ)
  replace h := H.f q3 h
  refine c_seq ?_
  refine r_start ?_
  refine p 2 ?_
  refine rend ?_
  refine c_or (v2_1.1 == 3) (fun q4 => ?_) (fun q4 => ?_)
  · replace h := H.t q4 h
    refine r_start ?_
    refine p 1 ?_
    obtain ⟨v10_1, hv10_1, h⟩ := H.call h
    refine xx rfl (e_cq (cs' := [.slice A0 (List.length a0) k0, .int .i64 v10_1.2.1, .int .u64 v10_1.2.2]) (v := .agg (eMove v10_1.1).toArray) 0 [.pointer (some ⟨g0, 0, none⟩)] func145 (fun W S => C.s_l1Cur_anyMove W hv10_1 (S.bx 0) ((s_argN h0 q0).out W S) q0) ?_)
    refine p 1 ?_
    refine xx rfl (x_sto 2 g1_2 11 (eHand ({ v1_1.1 with Move := v10_1.1 })) ?_)
    refine rend ?_
    refine c_inb ?_
    refine c_seq ?_
    refine r_start ?_
    refine xq rfl (y_load (.agg (eHand ({ v1_1.1 with Move := v10_1.1 })).toArray) 2 g1_2 0) ?_
    refine xx rfl (x_sto 1 g0_0 0 (eHand ({ v1_1.1 with Move := v10_1.1 })) ?_)
    refine rend ?_
    replace h := H.done h
    subst h
    exact ret func90 rfl (vs := [.agg (eHand ({ v1_1.1 with Move := v10_1.1 })).toArray]) (.cell 1 g0_0 rfl (by kernel_rfl) (by kernel_rfl) .nil) rfl (fun W S => S.retQ)
  replace h := H.f q4 h
  refine c_skip ?_
  refine c_inb ?_
  refine c_seq ?_
  refine r_start ?_
  refine xq rfl (y_load (.agg (eHand v1_1.1).toArray) 2 g1_2 0) ?_
  refine xx rfl (x_sto 1 g0_0 0 (eHand v1_1.1) ?_)
  refine rend ?_
  replace h := H.done h
  subst h
  exact ret func90 rfl (vs := [.agg (eHand v1_1.1).toArray]) (.cell 1 g0_0 rfl (by kernel_rfl) (by kernel_rfl) .nil) rfl (fun W S => S.retQ)
theorem C.s_l1Cur_anySign {fu : Nat} {a0 : List Int} {A0 : Option Addr} {k0 g0 : Nat} {t0 s0 : Int} {r : (Sign × Int × Int)} (w : World) (h : X.s_l1Cur_anySign fu a0 t0 s0 = some r) (m0 : w.heap[g0]? = some (.cells ([.slice A0 (List.length a0) k0, .int .i64 t0, .int .u64 s0] : List Value).toArray 84 (0, 0))) (h0 : RdT (eI .u8) w (.slice A0 (List.length a0) k0) a0) (q0 : 0 < List.length a0 → ∀ k, (Value.slice A0 (List.length a0) k0).ownBlock = some k → ¬ k = g0) : Calls prog 48 #[.pointer (some ⟨g0, 0, none⟩)] w (RetQ g0 84 [.slice A0 (List.length a0) k0, .int .i64 r.2.1, .int .u64 r.2.2] w (.agg (eSign r.1).toArray)) := by
  refine callsQ (args := [.pointer (some ⟨g0, 0, none⟩)]) m0 func48 rfl ?_
  replace h : H (X.s_l1Cur_anySign fu a0 t0 s0) (fun o => o = r) := H.mk h
  unfold X.s_l1Cur_anySign at h
  refine c_seq ?_
  refine r_start ?_
  refine xx rfl (x_new (eSign zSign) fun g0_0 => ?_)
  refine rend ?_
  refine c_seq ?_
  refine r_start ?_
  refine p 1 ?_
  obtain ⟨v1_1, hv1_1, h⟩ := H.call h
  refine xx rfl (e_cq (cs' := [.slice A0 (List.length a0) k0, .int .i64 v1_1.2.1, .int .u64 v1_1.2.2]) (v := .agg (eSign v1_1.1).toArray) 0 [.pointer (some ⟨g0, 0, none⟩)] func88 (fun W S => C.s_l1Cur_sign W hv1_1 (S.bx 0) ((s_argN h0 q0).out W S) q0) ?_)
  refine xx rfl (x_new (eSign zSign) fun g1_2 => ?_)
  refine xx rfl (x_sto 2 g1_2 0 (eSign v1_1.1) ?_)
  refine rend ?_
  refine c_seq ?_
  refine c_seq ?_
  refine r_start ?_
  refine p 1 ?_
  obtain ⟨v2_1, hv2_1, h⟩ := H.call h
  refine xx rfl (e_cq (cs' := [.slice A0 (List.length a0) k0, .int .i64 v2_1.2.1, .int .u64 v2_1.2.2]) (v := .int .i64 v2_1.1) 0 [.pointer (some ⟨g0, 0, none⟩), .int .i64 30] func89 (fun W S => C.s_l1Cur_pick W hv2_1 (S.bx 0) ((s_argN h0 q0).out W S) q0) ?_)
  refine rend ?_
  refine c_block ?_
  refine c_seq ?_
  refine r_start ?_
  refine p 2 ?_
  refine rend ?_
  refine c_or (v2_1.1 == 0) (fun q1 => ?_) (fun q1 => ?_)
  · replace h := H.t q1 h
    refine r_start ?_
    refine p 1 ?_
    obtain ⟨v4_1, hv4_1, h⟩ := H.call h
    refine xx rfl (e_cq (cs' := [.slice A0 (List.length a0) k0, .int .i64 v4_1.2.1, .int .u64 v4_1.2.2]) (v := .agg (eHand v4_1.1).toArray) 0 [.pointer (some ⟨g0, 0, none⟩)] func90 (fun W S => C.s_l1Cur_anyHand W hv4_1 (S.bx 0) ((s_argN h0 q0).out W S) q0) ?_)
    refine p 1 ?_
    refine xx rfl (x_sto 2 g1_2 0 (eSign ({ v1_1.1 with Main := v4_1.1 })) ?_)
    refine rend ?_
    refine c_inb ?_
    refine c_seq ?_
    refine r_start ?_
    refine xq rfl (y_load (.agg (eSign ({ v1_1.1 with Main := v4_1.1 })).toArray) 2 g1_2 0) ?_
    refine xx rfl (x_sto 1 g0_0 0 (eSign ({ v1_1.1 with Main := v4_1.1 })) ?_)
    refine rend ?_
    replace h := H.done h
    subst h
    exact ret func48 rfl (vs := [.agg (eSign ({ v1_1.1 with Main := v4_1.1 })).toArray]) (.cell 1 g0_0 rfl (by kernel_rfl) (by kernel_rfl) .nil) rfl (fun W S => S.retQ)
  replace h := H.f q1 h
  refine c_seq ?_
  refine r_start ?_
  refine p 2 ?_
  refine rend ?_
  refine c_or (v2_1.1 == 1) (fun q2 => ?_) (fun q2 => ?_)
  · replace h := H.t q2 h
    refine r_start ?_
    refine p 1 ?_
    refine xq rfl (y_load (.bool v1_1.1.Two) 2 g1_2 13) ?_
    refine p 2 ?_
    refine xx rfl (x_sto 2 g1_2 13 (eSign ({ v1_1.1 with Two := (!v1_1.1.Two) })) ?_)
    refine rend ?_
    refine c_inb ?_
    refine c_seq ?_
    refine r_start ?_
    refine xq rfl (y_load (.agg (eSign ({ v1_1.1 with Two := (!v1_1.1.Two) })).toArray) 2 g1_2 0) ?_
    refine xx rfl (x_sto 1 g0_0 0 (eSign ({ v1_1.1 with Two := (!v1_1.1.Two) })) ?_)
    refine rend ?_
    replace h := H.done h
    subst h
    exact ret func48 rfl (vs := [.agg (eSign ({ v1_1.1 with Two := (!v1_1.1.Two) })).toArray]) (.cell 1 g0_0 rfl (by kernel_rfl) (by kernel_rfl) .nil) rfl (fun W S => S.retQ)
  replace h := H.f q2 h
  refine c_seq ?_
  refine r_start ?_
  refine p 2 ?_
  refine rend ?_
  refine c_or (v2_1.1 == 2) (fun q3 => ?_) (fun q3 => ?_)
  · replace h := H.t q3 h
    refine c_seq ?_
    refine r_start ?_
    refine p 1 ?_
    refine xx rfl (x_sto 2 g1_2 13 (eSign ({ v1_1.1 with Two := true })) ?_)
    refine rend ?_
    refine r_start ?_
    refine p 1 ?_
    obtain ⟨v9_1, hv9_1, h⟩ := H.call h
    refine xx rfl (e_cq (cs' := [.slice A0 (List.length a0) k0, .int .i64 v9_1.2.1, .int .u64 v9_1.2.2]) (v := .agg (eHand v9_1.1).toArray) 0 [.pointer (some ⟨g0, 0, none⟩)] func90 (fun W S => C.s_l1Cur_anyHand W hv9_1 (S.bx 0) ((s_argN h0 q0).out W S) q0) ?_)
    refine p 1 ?_
    refine xx rfl (x_sto 2 g1_2 14 (eSign (⟨v1_1.1.Main, true, v9_1.1⟩ : Sign)) ?_)
    refine rend ?_
    refine c_inb ?_
    refine c_seq ?_
    refine r_start ?_
    refine xq rfl (y_load (.agg (eSign (⟨v1_1.1.Main, true, v9_1.1⟩ : Sign)).toArray) 2 g1_2 0) ?_
    refine xx rfl (x_sto 1 g0_0 0 (eSign (⟨v1_1.1.Main, true, v9_1.1⟩ : Sign)) ?_)
    refine rend ?_
    replace h := H.done h
    subst h
    exact ret func48 rfl (vs := [.agg (eSign (⟨v1_1.1.Main, true, v9_1.1⟩ : Sign)).toArray]) (.cell 1 g0_0 rfl (by kernel_rfl) (by kernel_rfl) .nil) rfl (fun W S => S.retQ)
  replace h := H.f q3 h
  refine c_skip ?_
  refine c_inb ?_
  refine c_seq ?_
  refine r_start ?_
  refine xq rfl (y_load (.agg (eSign v1_1.1).toArray) 2 g1_2 0) ?_
  refine xx rfl (x_sto 1 g0_0 0 (eSign v1_1.1) ?_)
  refine rend ?_
  replace h := H.done h
  subst h
  exact ret func48 rfl (vs := [.agg (eSign v1_1.1).toArray]) (.cell 1 g0_0 rfl (by kernel_rfl) (by kernel_rfl) .nil) rfl (fun W S => S.retQ)
theorem C.s_l1Cur_compound {fu : Nat} {a0 : List Int} {A0 : Option Addr} {k0 g0 : Nat} {t0 s0 : Int} {r : ((List Sign) × Int × Int)} (w : World) (h : X.s_l1Cur_compound fu a0 t0 s0 = some r) (m0 : w.heap[g0]? = some (.cells ([.slice A0 (List.length a0) k0, .int .i64 t0, .int .u64 s0] : List Value).toArray 84 (0, 0))) (h0 : RdT (eI .u8) w (.slice A0 (List.length a0) k0) a0) (q0 : 0 < List.length a0 → ∀ k, (Value.slice A0 (List.length a0) k0).ownBlock = some k → ¬ k = g0) : Calls prog 52 #[.pointer (some ⟨g0, 0, none⟩)] w (RetQR nSign 46 g0 84 [.slice A0 (List.length a0) k0, .int .i64 r.2.1, .int .u64 r.2.2] w r.1 (fun v => v)) := by
  refine callsQ (args := [.pointer (some ⟨g0, 0, none⟩)]) m0 func52 rfl ?_
  replace h : H (X.s_l1Cur_compound fu a0 t0 s0) (fun o => o = r) := H.mk h
  unfold X.s_l1Cur_compound at h
  refine c_seq ?_
  refine r_start ?_
  refine p 1 ?_
  refine rend ?_
  refine c_seq ?_
  refine r_start ?_
  refine p 1 ?_
  refine rend ?_
  refine c_seq ?_
  refine r_start ?_
  refine p 2 ?_
  refine xx rfl (e_lit (e := (eI .i64)) (el := 3) [.int .i64 2, .int .i64 0, .int .i64 1, .int .i64 5] ([2, 0, 1, 5] : List Int) fun A2_2 k2_2 => ?_)
  obtain ⟨v2_3, hv2_3, h⟩ := H.call h
  refine xx rfl (e_cq (cs' := [.slice A0 (List.length a0) k0, .int .i64 v2_3.2.1, .int .u64 v2_3.2.2]) (v := .int .i64 v2_3.1) 0 [.pointer (some ⟨g0, 0, none⟩), .slice A2_2 (List.length ([2, 0, 1, 5] : List Int)) k2_2] func93 (fun W S => C.s_l1Cur_among W hv2_3 (S.bx 0) ((s_argN h0 q0).out W S) q0 ((s_own 1).out W S) (ap_row S 1 0 (by decide))) ?_)
  refine xx rfl (e_lit (e := (eI .i64)) (el := 3) [.int .i64 2, .int .i64 2, .int .i64 3, .int .i64 4, .int .i64 v2_3.1] ([2, 2, 3, 4, v2_3.1] : List Int) fun A2_4 k2_4 => ?_)
  obtain ⟨v2_5, hv2_5, h⟩ := H.call h
  refine xx rfl (e_cq (cs' := [.slice A0 (List.length a0) k0, .int .i64 v2_5.2.1, .int .u64 v2_5.2.2]) (v := .int .i64 v2_5.1) 0 [.pointer (some ⟨g0, 0, none⟩), .slice A2_4 (List.length ([2, 2, 3, 4, v2_3.1] : List Int)) k2_4] func93 (fun W S => C.s_l1Cur_among W hv2_5 (S.bx 0) ((s_argN h0 q0).out W S) q0 ((s_own 2).out W S) (ap_row S 2 0 (by decide))) ?_)
  refine p 1 ?_
  refine rend ?_
  refine c_seq ?_
  refine c_block ?_
  refine c_nil nSign 46 ?_
  refine joinH (X := (Int × Int × (List Sign) × Option Addr × Nat)) 0 (H.bnd h) (fun ⟨n6, n7, l8, A9, k10⟩ => (n6, n7, l8)) (fun ⟨n6, n7, l8, A9, k10⟩ => [box g0 84 [.slice A0 (List.length a0) k0, .int .i64 n6, .int .u64 n7], rowT (eI .i64) w.heap.size 3 (.slice A2_2 (List.length ([2, 0, 1, 5] : List Int)) k2_2) ([2, 0, 1, 5] : List Int), rowT (eI .i64) w.heap.size 3 (.slice A2_4 (List.length ([2, 2, 3, 4, v2_3.1] : List Int)) k2_4) ([2, 2, 3, 4, v2_3.1] : List Int), rowT nSign w.heap.size 46 (.slice A9 (List.length l8) k10) l8]) (fun ⟨n6, n7, l8, A9, k10⟩ u => (.pointer (some ⟨g0, 0, none⟩) :: (jk u 1 2 (.slice A9 (List.length l8) k10 :: .int .i64 v2_5.1 :: (jk u 5 29 []))))) (fun h hj11 => ?_) ?_
  · skip
    refine loopR (X := (Int × Int × (List Sign) × Option Addr × Nat)) (fun ⟨n1, n2, l3, A4, k5⟩ => (n1, n2, l3)) (fun ⟨n1, n2, l3, A4, k5⟩ => [box g0 84 [.slice A0 (List.length a0) k0, .int .i64 n1, .int .u64 n2], rowT (eI .i64) w.heap.size 3 (.slice A2_2 (List.length ([2, 0, 1, 5] : List Int)) k2_2) ([2, 0, 1, 5] : List Int), rowT (eI .i64) w.heap.size 3 (.slice A2_4 (List.length ([2, 2, 3, 4, v2_3.1] : List Int)) k2_4) ([2, 2, 3, 4, v2_3.1] : List Int), rowT nSign w.heap.size 46 (.slice A4 (List.length l3) k5) l3]) (fun ⟨n1, n2, l3, A4, k5⟩ u => (.pointer (some ⟨g0, 0, none⟩) :: (jk u 1 2 (.slice A4 (List.length l3) k5 :: .int .i64 v2_5.1 :: (jk u 5 29 []))))) (v2_5.2.1, v2_5.2.2, ([] : List Sign), none, 0) h (by kernel_rfl) (by kernel_rfl) ?_
    intro x u h
    obtain ⟨n1, n2, l3, A4, k5⟩ := x
    refine c_seq ?_
    refine c_seq ?_
    refine r_start ?_
    refine p 4 ?_
    refine rend ?_
    refine c_or (decide ((List.length l3 : Int) < v2_5.1)) (fun q12 => ?_) (fun q12 => ?_)
    · replace h := H.t q12 h
      refine c_skip ?_
      refine c_block ?_
      refine r_start ?_
      refine p 2 ?_
      obtain ⟨v4_2, hv4_2, h⟩ := H.call h
      refine xx rfl (e_cq (cs' := [.slice A0 (List.length a0) k0, .int .i64 v4_2.2.1, .int .u64 v4_2.2.2]) (v := .agg (eSign v4_2.1).toArray) 0 [.pointer (some ⟨g0, 0, none⟩)] func88 (fun W S => C.s_l1Cur_sign W hv4_2 (S.bx 0) ((s_argN h0 q0).out W S) q0) ?_)
      refine xx rfl (e_lit (e := nSign) (el := 46) [.agg (eSign v4_2.1).toArray] ([v4_2.1] : List Sign) fun A4_3 k4_3 => ?_)
      obtain ⟨y4_4, hy4_4, h⟩ := H.call h
      refine xx rfl (e_app 3 hy4_4 (s_own 4) fun A4_4 k4_4 => ?_)
      refine p 1 ?_
      refine rend ?_
      refine c_inb ?_
      replace h := H.inl h
      exact h (v4_2.2.1, v4_2.2.2, y4_4, A4_4, k4_4) _ _ rfl (by kernel_rfl) (by kernel_rfl)
    replace h := H.f q12 h
    refine cx ?_
    replace h := H.inr h
    exact hj11 (n1, n2, l3, A4, k5) _ _ h (by kernel_rfl) (by kernel_rfl)
  intro x u h
  obtain ⟨n6, n7, l8, A9, k10⟩ := x
  refine c_seq ?_
  refine c_seq ?_
  refine r_start ?_
  refine p 3 ?_
  refine br (decide (v2_5.1 > 0)) (fun q13 => ?_) (fun q13 => ?_)
  · replace h := H.t q13 h
    refine o_set 22 (congrArg Value.bool q13) ?_
    refine p 1 ?_
    obtain ⟨v5_4, hv5_4, h⟩ := H.call h
    refine xx rfl (e_cq (cs' := [.slice A0 (List.length a0) k0, .int .i64 v5_4.2.1, .int .u64 v5_4.2.2]) (v := .bool v5_4.1) 0 [.pointer (some ⟨g0, 0, none⟩), .int .i64 20] func53 (fun W S => C.s_l1Cur_one W hv5_4 (S.bx 0) ((s_argN h0 q0).out W S) q0) ?_)
    refine p 1 ?_
    refine rend ?_
    refine c_or v5_4.1 (fun q14 => ?_) (fun q14 => ?_)
    · replace h := H.t q14 h
      refine r_start ?_
      refine p 3 ?_
      obtain ⟨v6_3, hv6_3, h⟩ := H.call h
      refine xx rfl (e_cq (cs' := [.slice A0 (List.length a0) k0, .int .i64 v6_3.2.1, .int .u64 v6_3.2.2]) (v := .int .i64 v6_3.1) 0 [.pointer (some ⟨g0, 0, none⟩), .int .i64 v2_5.1] func89 (fun W S => C.s_l1Cur_pick W hv6_3 (S.bx 0) ((s_argN h0 q0).out W S) q0) ?_)
      refine p 1 ?_
      obtain ⟨v6_5, hv6_5, h⟩ := H.call h
      refine xx rfl (e_cq (cs' := [.slice A0 (List.length a0) k0, .int .i64 v6_5.2.1, .int .u64 v6_5.2.2]) (v := .agg (eSign v6_5.1).toArray) 0 [.pointer (some ⟨g0, 0, none⟩)] func48 (fun W S => C.s_l1Cur_anySign W hv6_5 (S.bx 0) ((s_argN h0 q0).out W S) q0) ?_)
      obtain ⟨y6_6, hy6_6, h⟩ := H.call h
      refine xq rfl (y_idx (e := nSign) (el := 46) hy6_6 (s_own 3)) ?_
      refine xx rfl (e_stel (e := nSign) (b := v6_5.1) 3 0 (eSign v6_5.1) hy6_6 (by kernel_rfl) ?_)
      refine o_set 3 (sl_set (A := A9) (c := k10) (l := l8) (n := Int.toNat v6_3.1) (b := v6_5.1)) ?_
      refine rend ?_
      refine c_seq ?_
      refine r_start ?_
      refine p 2 ?_
      refine rend ?_
      replace h := H.done h
      subst h
      exact ret func52 rfl (vs := [.slice A9 (List.length (List.set l8 (Int.toNat v6_3.1) v6_5.1)) k10]) (.tmp (by kernel_rfl) .nil) rfl (fun W S => S.retQR (res := fun v => v) 3 (by decide))
    replace h := H.f q14 h
    refine c_skip ?_
    refine c_seq ?_
    refine r_start ?_
    refine p 2 ?_
    refine rend ?_
    replace h := H.done h
    subst h
    exact ret func52 rfl (vs := [.slice A9 (List.length l8) k10]) (.tmp (by kernel_rfl) .nil) rfl (fun W S => S.retQR (res := fun v => v) 3 (by decide))
  replace h := H.f q13 h
  refine o_set 22 (congrArg Value.bool q13) ?_
  refine p 3 ?_
  refine rend ?_
  refine c_f (by kernel_rfl) ?_
  refine c_skip ?_
  refine c_seq ?_
  refine r_start ?_
  refine p 2 ?_
  refine rend ?_
  replace h := H.done h
  subst h
  exact ret func52 rfl (vs := [.slice A9 (List.length l8) k10]) (.tmp (by kernel_rfl) .nil) rfl (fun W S => S.retQR (res := fun v => v) 3 (by decide))
theorem C.s_DrawCompoundOf {fu : Nat} {a0 : (List Int)} {A0 : Option Addr} {k0 : Nat} {r : (List Sign)} (w : World) (h : X.s_DrawCompoundOf fu a0 = some r) (h0 : RdT (eI .u8) w (.slice A0 (List.length a0) k0) a0) : Calls prog 33 #[.slice A0 (List.length a0) k0] w (RetR nSign 46 w r (fun v => v)) := by
  refine calls (M := no) (args := [.slice A0 (List.length a0) k0]) func33 rfl ?_
  replace h : H (X.s_DrawCompoundOf fu a0) (fun o => o = r) := H.mk h
  unfold X.s_DrawCompoundOf at h
  refine c_seq ?_
  refine r_start ?_
  refine p 1 ?_
  refine rend ?_
  refine c_seq ?_
  refine r_start ?_
  refine p 2 ?_
  refine xx rfl (x_box [.slice A0 (List.length a0) k0, .int .i64 0, .int .u64 0] fun g1_2 => ?_)
  refine p 1 ?_
  refine rend ?_
  refine c_seq ?_
  refine r_start ?_
  refine p 1 ?_
  obtain ⟨v2_1, hv2_1, h⟩ := H.call h
  refine xx rfl (e_cqR (cs' := [.slice A0 (List.length a0) k0, .int .i64 v2_1.2.1, .int .u64 v2_1.2.2]) 0 [.pointer (some ⟨g1_2, 0, none⟩)] (fun v => v) func52 (fun W S => C.s_l1Cur_compound W hv2_1 (S.bx 0) ((s_arg h0).out W S) (ap_arg h0 S 0)) fun A2_1 k2_1 => ?_)
  refine p 1 ?_
  refine rend ?_
  replace h := H.done h
  subst h
  exact ret func33 rfl (vs := [.slice A2_1 (List.length v2_1.1) k2_1]) (.tmp (by kernel_rfl) .nil) rfl (fun W S => ⟨_, _, rfl, S.row 1, S.below⟩)
theorem C.s_DrawSmoothestOrder {fu : Nat} {a0 : (List Int)} {A0 : Option Addr} {k0 : Nat} {r : (List Sign)} (w : World) (h : X.s_DrawSmoothestOrder fu a0 = some r) (h0 : RdT (eI .u8) w (.slice A0 (List.length a0) k0) a0) : Calls prog 8 #[.slice A0 (List.length a0) k0] w (RetR nSign 46 w r (fun v => v)) := by
  refine calls (M := no) (args := [.slice A0 (List.length a0) k0]) func8 rfl ?_
  replace h : H (X.s_DrawSmoothestOrder fu a0) (fun o => o = r) := H.mk h
  unfold X.s_DrawSmoothestOrder at h
  refine c_seq ?_
  refine r_start ?_
  refine p 1 ?_
  refine rend ?_
  refine c_seq ?_
  refine r_start ?_
  refine p 1 ?_
  obtain ⟨v1_1, hv1_1, h⟩ := H.call h
  refine xx rfl (e_cr [.slice A0 (List.length a0) k0] (fun v => v) func33 (fun W S => C.s_DrawCompoundOf W hv1_1 ((s_arg h0).out W S)) fun A1_1 k1_1 => ?_)
  refine p 1 ?_
  refine rend ?_
  replace h := H.done h
  subst h
  exact ret func8 rfl (vs := [.slice A1_1 (List.length v1_1) k1_1]) (.tmp (by kernel_rfl) .nil) rfl (fun W S => ⟨_, _, rfl, S.row 0, S.below⟩)
theorem C.i_IsHand {a0 : Hand} {r : Bool} (w : World) (h : X.i_IsHand a0 = some r) : Calls prog 91 #[.agg (eHand a0).toArray] w (Ret w (.bool r)) := by
  refine calls (M := no) (args := [.agg (eHand a0).toArray]) func91 rfl ?_
  replace h : H (X.i_IsHand a0) (fun o => o = r) := H.mk h
  unfold X.i_IsHand at h
  refine c_seq ?_
  refine r_start ?_
  refine xx rfl (x_box (eHand a0) fun g0_0 => ?_)
  refine p 1 ?_
  refine rend ?_
  refine c_seq ?_
  refine r_start ?_
  refine p 1 ?_
  refine xq rfl (y_load (.agg (eShape a0.Shape).toArray) 0 g0_0 0) ?_
  obtain ⟨v1_2, hv1_2, h⟩ := H.call h
  refine xq rfl (y_call [.agg (eShape a0.Shape).toArray] (.bool v1_2) func146 (fun W S => C.i_IsShape W hv1_2)) ?_
  refine p 1 ?_
  refine br v1_2 (fun q1 => ?_) (fun q1 => ?_)
  · replace h := H.t q1 h
    refine o_set 6 (congrArg Value.bool q1) ?_
    refine p 1 ?_
    refine xq rfl (y_load (.agg (eOrient a0.Orient).toArray) 0 g0_0 6) ?_
    obtain ⟨v1_6, hv1_6, h⟩ := H.call h
    refine xq rfl (y_call [.agg (eOrient a0.Orient).toArray] (.bool v1_6) func147 (fun W S => C.i_IsOrient W hv1_6)) ?_
    refine p 2 ?_
    refine br v1_6 (fun q2 => ?_) (fun q2 => ?_)
    · replace h := H.t q2 h
      refine o_set 11 (congrArg Value.bool q2) ?_
      refine p 1 ?_
      refine xq rfl (y_load (.agg (ePlace a0.Place).toArray) 0 g0_0 8) ?_
      obtain ⟨v1_11, hv1_11, h⟩ := H.call h
      refine xq rfl (y_call [.agg (ePlace a0.Place).toArray] (.bool v1_11) func148 (fun W S => C.i_IsPlace W hv1_11)) ?_
      refine p 2 ?_
      refine br v1_11 (fun q3 => ?_) (fun q3 => ?_)
      · replace h := H.t q3 h
        refine o_set 16 (congrArg Value.bool q3) ?_
        refine p 1 ?_
        refine xq rfl (y_load (.agg (eMove a0.Move).toArray) 0 g0_0 11) ?_
        obtain ⟨v1_16, hv1_16, h⟩ := H.call h
        refine xq rfl (y_call [.agg (eMove a0.Move).toArray] (.bool v1_16) func149 (fun W S => C.i_IsMove W hv1_16)) ?_
        refine p 2 ?_
        refine rend ?_
        replace h := H.done h
        subst h
        exact ret func91 rfl (vs := [.bool v1_16]) (.tmp (by kernel_rfl) .nil) rfl (fun W S => ⟨rfl, S.below⟩)
      replace h := H.f q3 h
      refine o_set 16 (congrArg Value.bool q3) ?_
      refine p 5 ?_
      refine rend ?_
      replace h := H.done h
      subst h
      exact ret func91 rfl (vs := [.bool false]) (.tmp (by kernel_rfl) .nil) rfl (fun W S => ⟨rfl, S.below⟩)
    replace h := H.f q2 h
    refine o_set 11 (congrArg Value.bool q2) ?_
    refine p 10 ?_
    refine rend ?_
    replace h := H.done h
    subst h
    exact ret func91 rfl (vs := [.bool false]) (.tmp (by kernel_rfl) .nil) rfl (fun W S => ⟨rfl, S.below⟩)
  replace h := H.f q1 h
  refine o_set 6 (congrArg Value.bool q1) ?_
  refine p 15 ?_
  refine rend ?_
  replace h := H.done h
  subst h
  exact ret func91 rfl (vs := [.bool false]) (.tmp (by kernel_rfl) .nil) rfl (fun W S => ⟨rfl, S.below⟩)
theorem C.i_IsSign {fu : Nat} {a0 : Sign} {r : Bool} (w : World) (h : X.i_IsSign fu a0 = some r) : Calls prog 49 #[.agg (eSign a0).toArray] w (Ret w (.bool r)) := by
  refine calls (M := no) (args := [.agg (eSign a0).toArray]) func49 rfl ?_
  replace h : H (X.i_IsSign fu a0) (fun o => o = r) := H.mk h
  unfold X.i_IsSign at h
  refine c_seq ?_
  refine r_start ?_
  refine xx rfl (x_box (eSign a0) fun g0_0 => ?_)
  refine p 1 ?_
  refine rend ?_
  refine c_seq ?_
  refine c_seq ?_
  refine r_start ?_
  refine p 1 ?_
  refine xq rfl (y_load (.agg (eHand a0.Main).toArray) 0 g0_0 0) ?_
  obtain ⟨v1_2, hv1_2, h⟩ := H.call h
  refine xq rfl (y_call [.agg (eHand a0.Main).toArray] (.bool v1_2) func91 (fun W S => C.i_IsHand W hv1_2)) ?_
  refine p 1 ?_
  refine rend ?_
  refine c_or (!v1_2) (fun q1 => ?_) (fun q1 => ?_)
  · replace h := H.t q1 h
    refine c_seq ?_
    refine r_start ?_
    refine p 1 ?_
    refine rend ?_
    replace h := H.done h
    subst h
    exact ret func49 rfl (vs := [.bool false]) (.tmp (by kernel_rfl) .nil) rfl (fun W S => ⟨rfl, S.below⟩)
  replace h := H.f q1 h
  refine c_skip ?_
  refine c_seq ?_
  refine c_seq ?_
  refine r_start ?_
  refine p 1 ?_
  refine xq rfl (y_load (.bool a0.Two) 0 g0_0 13) ?_
  refine p 1 ?_
  refine rend ?_
  refine c_or (!a0.Two) (fun q2 => ?_) (fun q2 => ?_)
  · replace h := H.t q2 h
    refine c_seq ?_
    refine r_start ?_
    refine p 1 ?_
    refine xq rfl (y_load (.agg (eHand a0.Other).toArray) 0 g0_0 14) ?_
    refine p 3 ?_
    refine rend ?_
    replace h := H.done h
    subst h
    exact ret func49 rfl (vs := [.bool (qHand a0.Other zHand)]) (.tmp (by kernel_rfl) .nil) rfl (fun W S => ⟨rfl, S.below⟩)
  replace h := H.f q2 h
  refine c_skip ?_
  refine c_seq ?_
  refine r_start ?_
  refine p 1 ?_
  refine xq rfl (y_load (.agg (eHand a0.Other).toArray) 0 g0_0 14) ?_
  obtain ⟨v5_2, hv5_2, h⟩ := H.call h
  refine xq rfl (y_call [.agg (eHand a0.Other).toArray] (.bool v5_2) func91 (fun W S => C.i_IsHand W hv5_2)) ?_
  refine p 1 ?_
  refine br v5_2 (fun q3 => ?_) (fun q3 => ?_)
  · replace h := H.t q3 h
    refine o_set 17 (congrArg Value.bool q3) ?_
    refine p 1 ?_
    refine xq rfl (y_load (.agg (eHand a0.Main).toArray) 0 g0_0 0) ?_
    refine p 1 ?_
    refine xq rfl (y_load (.agg (eHand a0.Other).toArray) 0 g0_0 14) ?_
    obtain ⟨v5_8, hv5_8, h⟩ := H.call h
    refine xq rfl (y_call [.agg (eHand a0.Main).toArray, .agg (eHand a0.Other).toArray] (.bool v5_8) func74 (fun W S => C.i_keepRules W hv5_8)) ?_
    refine p 2 ?_
    refine rend ?_
    replace h := H.done h
    subst h
    exact ret func49 rfl (vs := [.bool v5_8]) (.tmp (by kernel_rfl) .nil) rfl (fun W S => ⟨rfl, S.below⟩)
  replace h := H.f q3 h
  refine o_set 17 (congrArg Value.bool q3) ?_
  refine p 7 ?_
  refine rend ?_
  replace h := H.done h
  subst h
  exact ret func49 rfl (vs := [.bool false]) (.tmp (by kernel_rfl) .nil) rfl (fun W S => ⟨rfl, S.below⟩)
theorem C.slices_IndexFunc_i_Sign_i_Sign {a0 : (List Sign)} {A0 : Option Addr} {k0 : Nat} {a1 : (Sign → Option Bool)} {g1 : Nat} {cp1 : List Value} {r : Int} (w : World) (h : X.slices_IndexFunc_i_Sign_i_Sign a0 a1 = some r) (h0 : RdT nSign w (.slice A0 (List.length a0) k0) a0) (hg1 : isFn prog g1 = true) (hF1 : ∀ (x0 : Sign) (r : Bool) (W : World), Up w W → a1 x0 = some r → Calls prog g1 (([.agg (eSign x0).toArray] : List Value) ++ cp1).toArray W (Ret W (.bool r))) : Calls prog 219 #[.slice A0 (List.length a0) k0, .func (.func g1) #[] cp1.toArray] w (Ret w (.int .i64 r)) := by
  refine calls (M := no) (args := [.slice A0 (List.length a0) k0, .func (.func g1) #[] cp1.toArray]) func219 rfl ?_
  replace h : H (X.slices_IndexFunc_i_Sign_i_Sign a0 a1) (fun o => o = r) := H.mk h
  unfold X.slices_IndexFunc_i_Sign_i_Sign at h
  refine c_seq ?_
  refine r_start ?_
  refine p 1 ?_
  refine rend ?_
  refine c_seq ?_
  refine c_seq ?_
  refine r_start ?_
  refine p 3 ?_
  refine rend ?_
  refine c_block ?_
  refine joinE (X := Unit) 0 (H.or h) (fun (x : Unit) => x) (fun _ => []) (fun _ u => (jk u 0 19 [])) (fun h hj1 => ?_) ?_
  · skip
    refine rangeR (X := Unit) (s_arg h0) (fun (x : Unit) => x) (fun _ => []) (fun (j2 : Nat) _ u => (.slice A0 (List.length a0) k0 :: .func (.func g1) #[] cp1.toArray :: (jk u 2 5 (.int .i64 (List.length a0 : Int) :: .int .i64 (j2 : Int) :: (jk u 9 10 []))))) () h (by kernel_rfl) (by kernel_rfl) ?_ ?_
    · intro j2 x u x3 q4 hg5 hw6 h
      refine c_seq ?_
      refine r_start ?_
      refine p 1 ?_
      refine rend ?_
      refine c_seq ?_
      refine c_yes q4 ?_
      refine c_skip ?_
      refine c_seq ?_
      refine c_block ?_
      refine c_seq ?_
      refine r_start ?_
      refine p 2 ?_
      refine rend ?_
      refine c_seq ?_
      refine r_start ?_
      refine p 3 ?_
      refine xq rfl (y_idx (e := nSign) (el := 46) hg5 (s_arg h0)) ?_
      refine xq rfl (y_el (e := nSign) 0 (.agg (eSign x3).toArray) hg5 (s_arg h0)) ?_
      obtain ⟨v4_5, hv4_5, h⟩ := H.call h
      refine xq rfl (y_cf cp1 [.agg (eSign x3).toArray] (.bool v4_5) hg1 (fun W S => hF1 _ _ W S.below hv4_5)) ?_
      refine rend ?_
      refine c_or v4_5 (fun q7 => ?_) (fun q7 => ?_)
      · replace h := H.t q7 h
        refine c_seq ?_
        refine r_start ?_
        refine p 2 ?_
        refine rend ?_
        replace h := H.inr h
        replace h := H.done h
        subst h
        exact ret func219 rfl (vs := [.int .i64 (j2 : Int)]) (.tmp (by kernel_rfl) .nil) rfl (fun W S => ⟨rfl, S.below⟩)
      replace h := H.f q7 h
      refine c_skip ?_
      refine c_inb ?_
      refine r_start ?_
      refine p 2 ?_
      refine rend ?_
      refine c_set 8 (ci hw6) ?_
      replace h := H.inl h
      exact h () _ _ rfl (by kernel_rfl) (by kernel_rfl)
    · intro x u q4 h
      refine c_seq ?_
      refine r_start ?_
      refine p 1 ?_
      refine rend ?_
      refine c_seq ?_
      refine c_no q4 ?_
      refine cx ?_
      replace h := H.done h
      exact hj1 () _ _ h (by kernel_rfl) (by kernel_rfl)
  intro x u h
  refine c_seq ?_
  refine r_start ?_
  refine p 1 ?_
  refine rend ?_
  replace h := H.done h
  subst h
  exact ret func219 rfl (vs := [.int .i64 (-1)]) (.tmp (by kernel_rfl) .nil) rfl (fun W S => ⟨rfl, S.below⟩)
theorem C.slices_ContainsFunc_i_Sign_i_Sign {a0 : (List Sign)} {A0 : Option Addr} {k0 : Nat} {a1 : (Sign → Option Bool)} {g1 : Nat} {cp1 : List Value} {r : Bool} (w : World) (h : X.slices_ContainsFunc_i_Sign_i_Sign a0 a1 = some r) (h0 : RdT nSign w (.slice A0 (List.length a0) k0) a0) (hg1 : isFn prog g1 = true) (hF1 : ∀ (x0 : Sign) (r : Bool) (W : World), Up w W → a1 x0 = some r → Calls prog g1 (([.agg (eSign x0).toArray] : List Value) ++ cp1).toArray W (Ret W (.bool r))) : Calls prog 183 #[.slice A0 (List.length a0) k0, .func (.func g1) #[] cp1.toArray] w (Ret w (.bool r)) := by
  refine calls (M := no) (args := [.slice A0 (List.length a0) k0, .func (.func g1) #[] cp1.toArray]) func183 rfl ?_
  replace h : H (X.slices_ContainsFunc_i_Sign_i_Sign a0 a1) (fun o => o = r) := H.mk h
  unfold X.slices_ContainsFunc_i_Sign_i_Sign at h
  refine c_seq ?_
  refine r_start ?_
  refine p 1 ?_
  refine rend ?_
  refine c_seq ?_
  refine r_start ?_
  refine p 2 ?_
  obtain ⟨v1_2, hv1_2, h⟩ := H.call h
  refine xq rfl (y_call [.slice A0 (List.length a0) k0, .func (.func g1) #[] cp1.toArray] (.int .i64 v1_2) func219 (fun W S => C.slices_IndexFunc_i_Sign_i_Sign W hv1_2 ((s_arg h0).out W S) hg1 (fun x0_2 r W2 hu2 hx2 => hF1 x0_2 r W2 (Up.trans S.below hu2) hx2))) ?_
  refine p 2 ?_
  refine rend ?_
  replace h := H.done h
  subst h
  exact ret func183 rfl (vs := [.bool (decide (v1_2 ≥ 0))]) (.tmp (by kernel_rfl) .nil) rfl (fun W S => ⟨rfl, S.below⟩)
theorem C.i_allOf_i_Sign_1 {a0 : Sign} {a1 : (Sign → Option Bool)} {g1 : Nat} {cp1 : List Value} {p1 : Nat} {r : Bool} (w : World) (h : X.i_allOf_i_Sign_1 a1 a0 = some r) (hg1 : isFn prog g1 = true) (hF1 : ∀ (x0 : Sign) (r : Bool) (W : World), Up w W → a1 x0 = some r → Calls prog g1 (([.agg (eSign x0).toArray] : List Value) ++ cp1).toArray W (Ret W (.bool r))) (hp1 : w.heap[p1]? = some (.cells ([.func (.func g1) #[] cp1.toArray] : List Value).toArray 86 (0, 0))) : Calls prog 184 #[.agg (eSign a0).toArray, .pointer (some ⟨p1, 0, none⟩)] w (Ret w (.bool r)) := by
  refine calls (M := no) (args := [.agg (eSign a0).toArray, .pointer (some ⟨p1, 0, none⟩)]) func184 rfl ?_
  replace h : H (X.i_allOf_i_Sign_1 a1 a0) (fun o => o = r) := H.mk h
  unfold X.i_allOf_i_Sign_1 at h
  refine c_seq ?_
  refine r_start ?_
  refine xx rfl (x_box (eSign a0) fun g0_0 => ?_)
  refine p 1 ?_
  refine rend ?_
  refine c_seq ?_
  refine r_start ?_
  refine xq rfl (y_ld0 (.func (.func g1) #[] cp1.toArray) p1 0 hp1) ?_
  refine xq rfl (y_load (.agg (eSign a0).toArray) 0 g0_0 0) ?_
  obtain ⟨v1_2, hv1_2, h⟩ := H.call h
  refine xq rfl (y_cf cp1 [.agg (eSign a0).toArray] (.bool v1_2) hg1 (fun W S => hF1 _ _ W S.below hv1_2)) ?_
  refine p 2 ?_
  refine rend ?_
  replace h := H.done h
  subst h
  exact ret func184 rfl (vs := [.bool (!v1_2)]) (.tmp (by kernel_rfl) .nil) rfl (fun W S => ⟨rfl, S.below⟩)
theorem C.i_allOf_i_Sign {a0 : (List Sign)} {A0 : Option Addr} {k0 : Nat} {a1 : (Sign → Option Bool)} {g1 : Nat} {cp1 : List Value} {r : Bool} (w : World) (h : X.i_allOf_i_Sign a0 a1 = some r) (h0 : RdT nSign w (.slice A0 (List.length a0) k0) a0) (hg1 : isFn prog g1 = true) (hF1 : ∀ (x0 : Sign) (r : Bool) (W : World), Up w W → a1 x0 = some r → Calls prog g1 (([.agg (eSign x0).toArray] : List Value) ++ cp1).toArray W (Ret W (.bool r))) : Calls prog 126 #[.slice A0 (List.length a0) k0, .func (.func g1) #[] cp1.toArray] w (Ret w (.bool r)) := by
  refine calls (M := no) (args := [.slice A0 (List.length a0) k0, .func (.func g1) #[] cp1.toArray]) func126 rfl ?_
  replace h : H (X.i_allOf_i_Sign a0 a1) (fun o => o = r) := H.mk h
  unfold X.i_allOf_i_Sign at h
  refine c_seq ?_
  refine r_start ?_
  refine xx rfl (x_box [.func (.func g1) #[] cp1.toArray] fun g0_0 => ?_)
  refine p 1 ?_
  refine rend ?_
  refine c_seq ?_
  refine r_start ?_
  refine p 2 ?_
  obtain ⟨v1_2, hv1_2, h⟩ := H.call h
  refine xq rfl (y_call [.slice A0 (List.length a0) k0, .func (.func 184) #[] #[.pointer (some ⟨g0_0, 0, none⟩)]] (.bool v1_2) func183 (fun W S => C.slices_ContainsFunc_i_Sign_i_Sign W hv1_2 ((s_arg h0).out W S) (isFn_of func184) (fun x0_2 r W2 hu2 hx2 => C.i_allOf_i_Sign_1 W2 hx2 hg1 (fun x0_3 r W3 hu3 hx3 => hF1 x0_3 r W3 (Up.trans (Up.trans S.below hu2) hu3) hx3) (bx_up (S.bx 0) hu2)))) ?_
  refine p 2 ?_
  refine rend ?_
  replace h := H.done h
  subst h
  exact ret func126 rfl (vs := [.bool (!v1_2)]) (.tmp (by kernel_rfl) .nil) rfl (fun W S => ⟨rfl, S.below⟩)
theorem C.i_areSigns {fu : Nat} {a0 : (List Sign)} {A0 : Option Addr} {k0 : Nat} {a1 : Int} {r : Bool} (w : World) (h : X.i_areSigns fu a0 a1 = some r) (h0 : RdT nSign w (.slice A0 (List.length a0) k0) a0) : Calls prog 75 #[.slice A0 (List.length a0) k0, .int .i64 a1] w (Ret w (.bool r)) := by
  refine calls (M := no) (args := [.slice A0 (List.length a0) k0, .int .i64 a1]) func75 rfl ?_
  replace h : H (X.i_areSigns fu a0 a1) (fun o => o = r) := H.mk h
  unfold X.i_areSigns at h
  refine c_seq ?_
  refine r_start ?_
  refine p 1 ?_
  refine rend ?_
  refine c_seq ?_
  refine r_start ?_
  refine p 5 ?_
  refine br (decide ((List.length a0 : Int) ≤ a1)) (fun q1 => ?_) (fun q1 => ?_)
  · replace h := H.t q1 h
    refine o_set 9 (congrArg Value.bool q1) ?_
    refine p 1 ?_
    obtain ⟨v1_6, hv1_6, h⟩ := H.call h
    refine xq rfl (y_call [.slice A0 (List.length a0) k0, .func (.func 49) #[] #[]] (.bool v1_6) func126 (fun W S => C.i_allOf_i_Sign W hv1_6 ((s_arg h0).out W S) (isFn_of func49) (fun x0_2 r W2 hu2 hx2 => C.i_IsSign W2 hx2))) ?_
    refine p 2 ?_
    refine rend ?_
    replace h := H.done h
    subst h
    exact ret func75 rfl (vs := [.bool v1_6]) (.tmp (by kernel_rfl) .nil) rfl (fun W S => ⟨rfl, S.below⟩)
  replace h := H.f q1 h
  refine o_set 9 (congrArg Value.bool q1) ?_
  refine p 4 ?_
  refine rend ?_
  replace h := H.done h
  subst h
  exact ret func75 rfl (vs := [.bool false]) (.tmp (by kernel_rfl) .nil) rfl (fun W S => ⟨rfl, S.below⟩)
theorem C.i_isMade {fu : Nat} {a0 : (List Sign)} {A0 : Option Addr} {k0 : Nat} {r : Bool} (w : World) (h : X.i_isMade fu a0 = some r) (h0 : RdT nSign w (.slice A0 (List.length a0) k0) a0) : Calls prog 34 #[.slice A0 (List.length a0) k0] w (Ret w (.bool r)) := by
  refine calls (M := no) (args := [.slice A0 (List.length a0) k0]) func34 rfl ?_
  replace h : H (X.i_isMade fu a0) (fun o => o = r) := H.mk h
  unfold X.i_isMade at h
  refine c_seq ?_
  refine r_start ?_
  refine p 1 ?_
  refine rend ?_
  refine c_seq ?_
  refine r_start ?_
  refine p 4 ?_
  refine br (decide ((List.length a0 : Int) ≥ 2)) (fun q1 => ?_) (fun q1 => ?_)
  · replace h := H.t q1 h
    refine o_set 6 (congrArg Value.bool q1) ?_
    refine p 1 ?_
    obtain ⟨v1_5, hv1_5, h⟩ := H.call h
    refine xq rfl (y_call [.slice A0 (List.length a0) k0, .int .i64 4] (.bool v1_5) func75 (fun W S => C.i_areSigns W hv1_5 ((s_arg h0).out W S))) ?_
    refine p 2 ?_
    refine rend ?_
    replace h := H.done h
    subst h
    exact ret func34 rfl (vs := [.bool v1_5]) (.tmp (by kernel_rfl) .nil) rfl (fun W S => ⟨rfl, S.below⟩)
  replace h := H.f q1 h
  refine o_set 6 (congrArg Value.bool q1) ?_
  refine p 4 ?_
  refine rend ?_
  replace h := H.done h
  subst h
  exact ret func34 rfl (vs := [.bool false]) (.tmp (by kernel_rfl) .nil) rfl (fun W S => ⟨rfl, S.below⟩)
theorem C.i_distance {a0 : Int} {a1 : Int} {r : Int} (w : World) (h : X.i_distance a0 a1 = some r) : Calls prog 150 #[.int .i64 a0, .int .i64 a1] w (Ret w (.int .i64 r)) := by
  refine calls (M := no) (args := [.int .i64 a0, .int .i64 a1]) func150 rfl ?_
  replace h : H (X.i_distance a0 a1) (fun o => o = r) := H.mk h
  unfold X.i_distance at h
  refine c_seq ?_
  refine r_start ?_
  refine p 1 ?_
  refine rend ?_
  refine c_seq ?_
  refine r_start ?_
  refine p 8 ?_
  refine rend ?_
  replace h := H.done h
  subst h
  exact ret func150 rfl (vs := [.int .i64 (if (wr (a1 - a0)) > (wr (a0 - a1)) then (wr (a1 - a0)) else (wr (a0 - a1)))]) (.tmp (by kernel_rfl) .nil) rfl (fun W S => ⟨rfl, S.below⟩)
theorem C.i_Place_distance {a0 : Place} {a1 : Place} {r : Int} (w : World) (h : X.i_Place_distance a0 a1 = some r) : Calls prog 92 #[.agg (ePlace a0).toArray, .agg (ePlace a1).toArray] w (Ret w (.int .i64 r)) := by
  refine calls (M := no) (args := [.agg (ePlace a0).toArray, .agg (ePlace a1).toArray]) func92 rfl ?_
  replace h : H (X.i_Place_distance a0 a1) (fun o => o = r) := H.mk h
  unfold X.i_Place_distance at h
  refine c_seq ?_
  refine r_start ?_
  refine xx rfl (x_box (ePlace a0) fun g0_0 => ?_)
  refine xx rfl (x_box (ePlace a1) fun g0_1 => ?_)
  refine p 1 ?_
  refine rend ?_
  refine c_seq ?_
  refine r_start ?_
  refine p 1 ?_
  refine xq rfl (y_load (.int .i64 a0.Side) 0 g0_0 1) ?_
  refine p 1 ?_
  refine xq rfl (y_load (.int .i64 a1.Side) 1 g0_1 1) ?_
  obtain ⟨v1_4, hv1_4, h⟩ := H.call h
  refine xq rfl (y_call [.int .i64 a0.Side, .int .i64 a1.Side] (.int .i64 v1_4) func150 (fun W S => C.i_distance W hv1_4)) ?_
  refine p 1 ?_
  refine rend ?_
  refine c_seq ?_
  refine c_seq ?_
  refine r_start ?_
  refine p 1 ?_
  refine xq rfl (y_load (.bool a0.Contact) 0 g0_0 2) ?_
  refine p 1 ?_
  refine xq rfl (y_load (.bool a1.Contact) 1 g0_1 2) ?_
  refine p 1 ?_
  refine rend ?_
  refine c_or (!(a0.Contact == a1.Contact)) (fun q1 => ?_) (fun q1 => ?_)
  · replace h := H.t q1 h
    refine r_start ?_
    refine p 3 ?_
    refine rend ?_
    refine c_seq ?_
    refine c_seq ?_
    refine r_start ?_
    refine p 1 ?_
    refine xq rfl (y_load (.int .i64 a0.Region) 0 g0_0 0) ?_
    refine p 2 ?_
    refine xq rfl (y_load (.int .i64 a1.Region) 1 g0_1 0) ?_
    refine p 2 ?_
    refine rend ?_
    refine c_or (!((a0.Region == 0) == (a1.Region == 0))) (fun q2 => ?_) (fun q2 => ?_)
    · replace h := H.t q2 h
      refine c_seq ?_
      refine r_start ?_
      refine p 3 ?_
      refine rend ?_
      replace h := H.done h
      subst h
      exact ret func92 rfl (vs := [.int .i64 (wr ((wr (v1_4 + 1)) + 4))]) (.tmp (by kernel_rfl) .nil) rfl (fun W S => ⟨rfl, S.below⟩)
    replace h := H.f q2 h
    refine c_skip ?_
    refine c_seq ?_
    refine r_start ?_
    refine p 2 ?_
    refine xq rfl (y_load (.int .i64 a0.Region) 0 g0_0 0) ?_
    refine p 1 ?_
    refine xq rfl (y_load (.int .i64 a1.Region) 1 g0_1 0) ?_
    obtain ⟨v6_5, hv6_5, h⟩ := H.call h
    refine xq rfl (y_call [.int .i64 a0.Region, .int .i64 a1.Region] (.int .i64 v6_5) func150 (fun W S => C.i_distance W hv6_5)) ?_
    refine p 2 ?_
    refine rend ?_
    replace h := H.done h
    subst h
    exact ret func92 rfl (vs := [.int .i64 (wr ((wr (v1_4 + 1)) + v6_5))]) (.tmp (by kernel_rfl) .nil) rfl (fun W S => ⟨rfl, S.below⟩)
  replace h := H.f q1 h
  refine c_skip ?_
  refine c_seq ?_
  refine c_seq ?_
  refine r_start ?_
  refine p 1 ?_
  refine xq rfl (y_load (.int .i64 a0.Region) 0 g0_0 0) ?_
  refine p 2 ?_
  refine xq rfl (y_load (.int .i64 a1.Region) 1 g0_1 0) ?_
  refine p 2 ?_
  refine rend ?_
  refine c_or (!((a0.Region == 0) == (a1.Region == 0))) (fun q3 => ?_) (fun q3 => ?_)
  · replace h := H.t q3 h
    refine c_seq ?_
    refine r_start ?_
    refine p 3 ?_
    refine rend ?_
    replace h := H.done h
    subst h
    exact ret func92 rfl (vs := [.int .i64 (wr (v1_4 + 4))]) (.tmp (by kernel_rfl) .nil) rfl (fun W S => ⟨rfl, S.below⟩)
  replace h := H.f q3 h
  refine c_skip ?_
  refine c_seq ?_
  refine r_start ?_
  refine p 2 ?_
  refine xq rfl (y_load (.int .i64 a0.Region) 0 g0_0 0) ?_
  refine p 1 ?_
  refine xq rfl (y_load (.int .i64 a1.Region) 1 g0_1 0) ?_
  obtain ⟨v6_5, hv6_5, h⟩ := H.call h
  refine xq rfl (y_call [.int .i64 a0.Region, .int .i64 a1.Region] (.int .i64 v6_5) func150 (fun W S => C.i_distance W hv6_5)) ?_
  refine p 2 ?_
  refine rend ?_
  replace h := H.done h
  subst h
  exact ret func92 rfl (vs := [.int .i64 (wr (v1_4 + v6_5))]) (.tmp (by kernel_rfl) .nil) rfl (fun W S => ⟨rfl, S.below⟩)
theorem C.i_gap {a0 : Sign} {a1 : Sign} {r : Int} (w : World) (h : X.i_gap a0 a1 = some r) : Calls prog 50 #[.agg (eSign a0).toArray, .agg (eSign a1).toArray] w (Ret w (.int .i64 r)) := by
  refine calls (M := no) (args := [.agg (eSign a0).toArray, .agg (eSign a1).toArray]) func50 rfl ?_
  replace h : H (X.i_gap a0 a1) (fun o => o = r) := H.mk h
  unfold X.i_gap at h
  refine c_seq ?_
  refine r_start ?_
  refine xx rfl (x_box (eSign a0) fun g0_0 => ?_)
  refine xx rfl (x_box (eSign a1) fun g0_1 => ?_)
  refine p 1 ?_
  refine rend ?_
  refine c_seq ?_
  refine r_start ?_
  refine p 2 ?_
  refine xq rfl (y_load (.agg (ePlace a0.Main.Place).toArray) 0 g0_0 8) ?_
  refine p 2 ?_
  refine xq rfl (y_load (.agg (ePlace a1.Main.Place).toArray) 1 g0_1 8) ?_
  obtain ⟨v1_6, hv1_6, h⟩ := H.call h
  refine xq rfl (y_call [.agg (ePlace a0.Main.Place).toArray, .agg (ePlace a1.Main.Place).toArray] (.int .i64 v1_6) func92 (fun W S => C.i_Place_distance W hv1_6)) ?_
  refine p 1 ?_
  refine rend ?_
  refine c_seq ?_
  refine c_seq ?_
  refine r_start ?_
  refine p 1 ?_
  refine xq rfl (y_load (.bool a0.Two) 0 g0_0 13) ?_
  refine p 1 ?_
  refine xq rfl (y_load (.bool a1.Two) 1 g0_1 13) ?_
  refine p 1 ?_
  refine rend ?_
  refine c_or (!(a0.Two == a1.Two)) (fun q1 => ?_) (fun q1 => ?_)
  · replace h := H.t q1 h
    refine r_start ?_
    refine p 3 ?_
    refine rend ?_
    refine c_seq ?_
    refine r_start ?_
    refine p 2 ?_
    refine rend ?_
    replace h := H.done h
    subst h
    exact ret func50 rfl (vs := [.int .i64 (wr (v1_6 + 1))]) (.tmp (by kernel_rfl) .nil) rfl (fun W S => ⟨rfl, S.below⟩)
  replace h := H.f q1 h
  refine c_skip ?_
  refine c_seq ?_
  refine r_start ?_
  refine p 2 ?_
  refine rend ?_
  replace h := H.done h
  subst h
  exact ret func50 rfl (vs := [.int .i64 v1_6]) (.tmp (by kernel_rfl) .nil) rfl (fun W S => ⟨rfl, S.below⟩)
theorem C.i_gapsIn {fu : Nat} {a0 : (List Sign)} {A0 : Option Addr} {k0 : Nat} {r : Int} (w : World) (h : X.i_gapsIn fu a0 = some r) (h0 : RdT nSign w (.slice A0 (List.length a0) k0) a0) : Calls prog 36 #[.slice A0 (List.length a0) k0] w (Ret w (.int .i64 r)) := by
  refine calls (M := no) (args := [.slice A0 (List.length a0) k0]) func36 rfl ?_
  replace h : H (X.i_gapsIn fu a0) (fun o => o = r) := H.mk h
  unfold X.i_gapsIn at h
  refine c_seq ?_
  refine r_start ?_
  refine p 1 ?_
  refine rend ?_
  refine c_seq ?_
  refine r_start ?_
  refine p 1 ?_
  refine rend ?_
  refine c_seq ?_
  refine c_seq ?_
  refine r_start ?_
  refine p 1 ?_
  refine rend ?_
  refine c_block ?_
  refine joinH (X := Int) 0 (H.bnd h) (fun (x : Int) => x) (fun n3 => []) (fun n3 u => (jk u 0 3 (.int .i64 n3 :: (jk u 4 20 [])))) (fun h hj4 => ?_) ?_
  · skip
    refine loopR (X := (Int × Int)) (fun (x : (Int × Int)) => x) (fun ⟨n1, n2⟩ => []) (fun ⟨n1, n2⟩ u => (.slice A0 (List.length a0) k0 :: (jk u 1 2 (.int .i64 n1 :: .int .i64 n2 :: (jk u 5 19 []))))) (0, 1) h (by kernel_rfl) (by kernel_rfl) ?_
    intro x u h
    obtain ⟨n1, n2⟩ := x
    refine c_seq ?_
    refine c_seq ?_
    refine r_start ?_
    refine p 4 ?_
    refine rend ?_
    refine c_or (decide (n2 < (List.length a0 : Int))) (fun q5 => ?_) (fun q5 => ?_)
    · replace h := H.t q5 h
      refine c_skip ?_
      refine c_seq ?_
      refine c_block ?_
      refine as_start 13 13 ?_
      refine ap 0 4 ?_
      obtain ⟨y5_4, hy5_4, h⟩ := H.call h
      refine aq 4 rfl (y_idx (e := nSign) (el := 46) hy5_4 (s_arg h0)) ?_
      refine aq 5 rfl (y_el (e := nSign) 0 (.agg (eSign y5_4).toArray) hy5_4 (s_arg h0)) ?_
      refine ap 6 2 ?_
      obtain ⟨y5_8, hy5_8, h⟩ := H.call h
      refine aq 8 rfl (y_idx (e := nSign) (el := 46) hy5_8 (s_arg h0)) ?_
      refine aq 9 rfl (y_el (e := nSign) 0 (.agg (eSign y5_8).toArray) hy5_8 (s_arg h0)) ?_
      obtain ⟨v5_10, hv5_10, h⟩ := H.call h
      refine aq 10 rfl (y_call [.agg (eSign y5_4).toArray, .agg (eSign y5_8).toArray] (.int .i64 v5_10) func50 (fun W S => C.i_gap W hv5_10)) ?_
      refine ap 11 2 ?_
      refine a_done ?_
      refine c_inb ?_
      refine r_start ?_
      refine p 3 ?_
      refine rend ?_
      replace h := H.inl h
      exact h ((wr (n1 + v5_10)), (wr (n2 + 1))) _ _ rfl (by kernel_rfl) (by kernel_rfl)
    replace h := H.f q5 h
    refine cx ?_
    replace h := H.inr h
    exact hj4 n1 _ _ h (by kernel_rfl) (by kernel_rfl)
  intro n3 u h
  refine c_seq ?_
  refine r_start ?_
  refine p 2 ?_
  refine rend ?_
  replace h := H.done h
  subst h
  exact ret func36 rfl (vs := [.int .i64 n3]) (.tmp (by kernel_rfl) .nil) rfl (fun W S => ⟨rfl, S.below⟩)
theorem C.slices_Clone_int_int {a0 : (List Int)} {A0 : Option Addr} {k0 : Nat} {r : (List Int)} (w : World) (h : X.slices_Clone_int_int a0 = some r) (h0 : RdT (eI .i64) w (.slice A0 (List.length a0) k0) a0) : Calls prog 37 #[.slice A0 (List.length a0) k0] w (RetR (eI .i64) 3 w r (fun v => v)) := by
  refine calls (M := no) (args := [.slice A0 (List.length a0) k0]) func37 rfl ?_
  unfold X.slices_Clone_int_int at h
  refine c_seq ?_
  refine r_start ?_
  refine p 1 ?_
  refine rend ?_
  refine c_seq ?_
  refine c_seq ?_
  refine r_start ?_
  refine p 1 ?_
  refine xq rfl (y_eqn (A := A0) (n := List.length a0) (c := k0) (el := 3) rfl (by kernel_rfl) (by kernel_rfl) (by kernel_rfl)) ?_
  refine rend ?_
  refine c_or A0.isNone (fun q => ?_) (fun q => ?_)
  · have ha : a0 = [] := by
      obtain ⟨A2, c2, e1, _, _, _, h4⟩ := h0
      injection e1 with e1 _ _
      subst e1
      cases a0 with
      | nil => rfl
      | cons x l =>
        obtain ⟨b, off, hA, _⟩ := h4 (by simp)
        subst hA
        cases q
    subst ha
    have hr : r = [] := by
      unfold appG at h
      split at h
      · exact (Option.some.inj h).symm
      · cases h
    subst hr
    refine c_seq ?_
    refine r_start ?_
    refine p 1 ?_
    refine rend ?_
    exact ret func37 rfl (vs := [.slice none 0 0]) (.tmp (by kernel_rfl) .nil) rfl (fun W S => ⟨none, 0, rfl, World.ownsRow_nil _ _ _ _, S.below⟩)
  refine c_skip ?_
  refine c_seq ?_
  refine r_start ?_
  refine xx rfl (e_lit (e := (eI .i64)) (el := 3) [] ([] : List Int) fun A5 k5 => ?_)
  refine p 1 ?_
  refine xx rfl (e_app 0 h (s_arg h0) fun A7 k7 => ?_)
  refine p 1 ?_
  refine rend ?_
  exact ret func37 rfl (vs := [.slice A7 (List.length r) k7]) (.tmp (by kernel_rfl) .nil) rfl (fun W S => ⟨_, _, rfl, S.row 0, S.below⟩)
theorem C.slices_Index_int_int {a0 : (List Int)} {A0 : Option Addr} {k0 : Nat} {a1 : Int} {r : Int} (w : World) (h : X.slices_Index_int_int a0 a1 = some r) (h0 : RdT (eI .i64) w (.slice A0 (List.length a0) k0) a0) : Calls prog 76 #[.slice A0 (List.length a0) k0, .int .i64 a1] w (Ret w (.int .i64 r)) := by
  refine calls (M := no) (args := [.slice A0 (List.length a0) k0, .int .i64 a1]) func76 rfl ?_
  replace h : H (X.slices_Index_int_int a0 a1) (fun o => o = r) := H.mk h
  unfold X.slices_Index_int_int at h
  refine c_seq ?_
  refine r_start ?_
  refine p 1 ?_
  refine rend ?_
  refine c_seq ?_
  refine c_seq ?_
  refine r_start ?_
  refine p 3 ?_
  refine rend ?_
  refine c_block ?_
  refine joinE (X := Unit) 0 (H.or h) (fun (x : Unit) => x) (fun _ => []) (fun _ u => (jk u 0 19 [])) (fun h hj1 => ?_) ?_
  · skip
    refine rangeR (X := Unit) (s_arg h0) (fun (x : Unit) => x) (fun _ => []) (fun (j2 : Nat) _ u => (.slice A0 (List.length a0) k0 :: .int .i64 a1 :: (jk u 2 5 (.int .i64 (List.length a0 : Int) :: .int .i64 (j2 : Int) :: (jk u 9 10 []))))) () h (by kernel_rfl) (by kernel_rfl) ?_ ?_
    · intro j2 x u x3 q4 hg5 hw6 h
      refine c_seq ?_
      refine r_start ?_
      refine p 1 ?_
      refine rend ?_
      refine c_seq ?_
      refine c_yes q4 ?_
      refine c_skip ?_
      refine c_seq ?_
      refine c_block ?_
      refine c_seq ?_
      refine r_start ?_
      refine p 2 ?_
      refine rend ?_
      refine c_seq ?_
      refine r_start ?_
      refine p 3 ?_
      refine xq rfl (y_idx (e := (eI .i64)) (el := 3) hg5 (s_arg h0)) ?_
      refine xq rfl (y_el (e := (eI .i64)) 0 (.int .i64 x3) hg5 (s_arg h0)) ?_
      refine p 1 ?_
      refine rend ?_
      refine c_or (a1 == x3) (fun q7 => ?_) (fun q7 => ?_)
      · replace h := H.t q7 h
        refine c_seq ?_
        refine r_start ?_
        refine p 2 ?_
        refine rend ?_
        replace h := H.inr h
        replace h := H.done h
        subst h
        exact ret func76 rfl (vs := [.int .i64 (j2 : Int)]) (.tmp (by kernel_rfl) .nil) rfl (fun W S => ⟨rfl, S.below⟩)
      replace h := H.f q7 h
      refine c_skip ?_
      refine c_inb ?_
      refine r_start ?_
      refine p 2 ?_
      refine rend ?_
      refine c_set 8 (ci hw6) ?_
      replace h := H.inl h
      exact h () _ _ rfl (by kernel_rfl) (by kernel_rfl)
    · intro x u q4 h
      refine c_seq ?_
      refine r_start ?_
      refine p 1 ?_
      refine rend ?_
      refine c_seq ?_
      refine c_no q4 ?_
      refine cx ?_
      replace h := H.done h
      exact hj1 () _ _ h (by kernel_rfl) (by kernel_rfl)
  intro x u h
  refine c_seq ?_
  refine r_start ?_
  refine p 1 ?_
  refine rend ?_
  replace h := H.done h
  subst h
  exact ret func76 rfl (vs := [.int .i64 (-1)]) (.tmp (by kernel_rfl) .nil) rfl (fun W S => ⟨rfl, S.below⟩)
theorem C.slices_Contains_int_int {a0 : (List Int)} {A0 : Option Addr} {k0 : Nat} {a1 : Int} {r : Bool} (w : World) (h : X.slices_Contains_int_int a0 a1 = some r) (h0 : RdT (eI .i64) w (.slice A0 (List.length a0) k0) a0) : Calls prog 38 #[.slice A0 (List.length a0) k0, .int .i64 a1] w (Ret w (.bool r)) := by
  refine calls (M := no) (args := [.slice A0 (List.length a0) k0, .int .i64 a1]) func38 rfl ?_
  replace h : H (X.slices_Contains_int_int a0 a1) (fun o => o = r) := H.mk h
  unfold X.slices_Contains_int_int at h
  refine c_seq ?_
  refine r_start ?_
  refine p 1 ?_
  refine rend ?_
  refine c_seq ?_
  refine r_start ?_
  refine p 2 ?_
  obtain ⟨v1_2, hv1_2, h⟩ := H.call h
  refine xq rfl (y_call [.slice A0 (List.length a0) k0, .int .i64 a1] (.int .i64 v1_2) func76 (fun W S => C.slices_Index_int_int W hv1_2 ((s_arg h0).out W S))) ?_
  refine p 2 ?_
  refine rend ?_
  replace h := H.done h
  subst h
  exact ret func38 rfl (vs := [.bool (decide (v1_2 ≥ 0))]) (.tmp (by kernel_rfl) .nil) rfl (fun W S => ⟨rfl, S.below⟩)
theorem C.slices_Clone_i_Sign_i_Sign {a0 : (List Sign)} {A0 : Option Addr} {k0 : Nat} {r : (List Sign)} (w : World) (h : X.slices_Clone_i_Sign_i_Sign a0 = some r) (h0 : RdT nSign w (.slice A0 (List.length a0) k0) a0) : Calls prog 39 #[.slice A0 (List.length a0) k0] w (RetR nSign 46 w r (fun v => v)) := by
  refine calls (M := no) (args := [.slice A0 (List.length a0) k0]) func39 rfl ?_
  unfold X.slices_Clone_i_Sign_i_Sign at h
  refine c_seq ?_
  refine r_start ?_
  refine p 1 ?_
  refine rend ?_
  refine c_seq ?_
  refine c_seq ?_
  refine r_start ?_
  refine p 1 ?_
  refine xq rfl (y_eqn (A := A0) (n := List.length a0) (c := k0) (el := 46) rfl (by kernel_rfl) (by kernel_rfl) (by kernel_rfl)) ?_
  refine rend ?_
  refine c_or A0.isNone (fun q => ?_) (fun q => ?_)
  · have ha : a0 = [] := by
      obtain ⟨A2, c2, e1, _, _, _, h4⟩ := h0
      injection e1 with e1 _ _
      subst e1
      cases a0 with
      | nil => rfl
      | cons x l =>
        obtain ⟨b, off, hA, _⟩ := h4 (by simp)
        subst hA
        cases q
    subst ha
    have hr : r = [] := by
      unfold appG at h
      split at h
      · exact (Option.some.inj h).symm
      · cases h
    subst hr
    refine c_seq ?_
    refine r_start ?_
    refine p 1 ?_
    refine rend ?_
    exact ret func39 rfl (vs := [.slice none 0 0]) (.tmp (by kernel_rfl) .nil) rfl (fun W S => ⟨none, 0, rfl, World.ownsRow_nil _ _ _ _, S.below⟩)
  refine c_skip ?_
  refine c_seq ?_
  refine r_start ?_
  refine xx rfl (e_lit (e := nSign) (el := 46) [] ([] : List Sign) fun A5 k5 => ?_)
  refine p 1 ?_
  refine xx rfl (e_app 0 h (s_arg h0) fun A7 k7 => ?_)
  refine p 1 ?_
  refine rend ?_
  exact ret func39 rfl (vs := [.slice A7 (List.length r) k7]) (.tmp (by kernel_rfl) .nil) rfl (fun W S => ⟨_, _, rfl, S.row 0, S.below⟩)
theorem C.i_SmoothestOrder_1 {fu : Nat} {c0 : (List Sign)} {Al : Option Addr} {kl g2 g3 g4 g5 B : Nat} {a0 : (List Int)} {A0 : Option Addr} {k0 : Nat} {a1 : (List Sign)} {A1 : Option Addr} {k1 : Nat} {b0 : (List Int)} {Ab : Option Addr} {kb : Nat} {z0 : Int} {r : (List Int) × Int} (M : Nat → Prop) (w : World) (h : X.i_SmoothestOrder_1 fu c0 a0 a1 b0 z0 = some r) (hl : RdT nSign w (.slice Al (List.length c0) kl) c0) (ql : 0 < List.length c0 → ∀ k, (Value.slice Al (List.length c0) kl).ownBlock = some k → ¬ M k) (h0 : RdT (eI .i64) w (.slice A0 (List.length a0) k0) a0) (q0 : 0 < List.length a0 → ∀ k, (Value.slice A0 (List.length a0) k0).ownBlock = some k → ¬ M k) (h1 : RdT nSign w (.slice A1 (List.length a1) k1) a1) (q1 : 0 < List.length a1 → ∀ k, (Value.slice A1 (List.length a1) k1).ownBlock = some k → ¬ M k) (hB : B ≤ w.heap.size) (S : St M w w [box g2 26 [.slice Al (List.length c0) kl], box g5 67 [.func (.func 35) #[] #[.pointer (some ⟨g2, 0, none⟩), .pointer (some ⟨g3, 0, none⟩), .pointer (some ⟨g4, 0, none⟩), .pointer (some ⟨g5, 0, none⟩)]], box g3 28 [.slice Ab (List.length b0) kb], box g4 3 [.int .i64 z0], rowN (eI .i64) B 3 (.slice Ab (List.length b0) kb) b0]) : Calls prog 35 #[.slice A0 (List.length a0) k0, .slice A1 (List.length a1) k1, .pointer (some ⟨g2, 0, none⟩), .pointer (some ⟨g3, 0, none⟩), .pointer (some ⟨g4, 0, none⟩), .pointer (some ⟨g5, 0, none⟩)] w (fun en W2 => en = .returned (.tuple #[]) ∧ ∃ A k, St M w W2 [box g2 26 [.slice Al (List.length c0) kl], box g5 67 [.func (.func 35) #[] #[.pointer (some ⟨g2, 0, none⟩), .pointer (some ⟨g3, 0, none⟩), .pointer (some ⟨g4, 0, none⟩), .pointer (some ⟨g5, 0, none⟩)]], box g3 28 [.slice A (List.length r.1) k], box g4 3 [.int .i64 r.2], rowN (eI .i64) B 3 (.slice A (List.length r.1) k) r.1]) := by
  induction fu generalizing a0 A0 k0 a1 A1 k1 b0 Ab kb z0 r M w with
  | zero => cases h
  | succ fu ih =>
  refine callsH (args := [.slice A0 (List.length a0) k0, .slice A1 (List.length a1) k1, .pointer (some ⟨g2, 0, none⟩), .pointer (some ⟨g3, 0, none⟩), .pointer (some ⟨g4, 0, none⟩), .pointer (some ⟨g5, 0, none⟩)]) S func35 rfl ?_
  replace h : H (X.i_SmoothestOrder_1 (fu + 1) c0 a0 a1 b0 z0) (fun o => o = r) := H.mk h
  rw [X.i_SmoothestOrder_1] at h
  refine c_fact (f_nilN 4) fun hz => ?_
  refine c_seq ?_
  refine joinT (X := (Int × (List Int) × Option Addr × Nat)) (H.bnd h) (fun ⟨s1, l2, A3, k4⟩ => (s1, l2)) (fun ⟨s1, l2, A3, k4⟩ => [box g2 26 [.slice Al (List.length c0) kl], box g5 67 [.func (.func 35) #[] #[.pointer (some ⟨g2, 0, none⟩), .pointer (some ⟨g3, 0, none⟩), .pointer (some ⟨g4, 0, none⟩), .pointer (some ⟨g5, 0, none⟩)]], box g3 28 [.slice A3 (List.length l2) k4], box g4 3 [.int .i64 s1], rowN (eI .i64) B 3 (.slice A3 (List.length l2) k4) l2]) (fun ⟨s1, l2, A3, k4⟩ u => (.slice A0 (List.length a0) k0 :: .slice A1 (List.length a1) k1 :: .pointer (some ⟨g2, 0, none⟩) :: (jk u 3 2 (.pointer (some ⟨g5, 0, none⟩) :: (jk u 6 47 []))))) (fun h hj5 => ?_) ?_
  · skip
    refine c_seq ?_
    refine as_start 15 15 ?_
    refine ap 0 2 ?_
    refine aq 2 rfl (y_load (.slice Al (List.length c0) kl) 0 g2 0) ?_
    refine ap 3 3 ?_
    refine br ((List.length a0 : Int) == (List.length c0 : Int)) (fun q6 => ?_) (fun q6 => ?_)
    · replace h := H.t q6 h
      refine a_set 15 (congrArg Value.bool q6) ?_
      refine aq 6 rfl (y_load (.slice Ab (List.length b0) kb) 2 g3 0) ?_
      refine aq 7 rfl (y_eqn (A := Ab) (n := List.length b0) (c := kb) (el := 3) rfl (by kernel_rfl) (by kernel_rfl) (by kernel_rfl)) ?_
      refine a_set 17 (congrArg Value.bool hz) ?_
      refine ap 8 1 ?_
      refine br (List.isEmpty b0) (fun q7 => ?_) (fun q7 => ?_)
      · replace h := H.t q7 h
        refine a_set 18 (congrArg Value.bool q7) ?_
        refine ap 9 6 ?_
        refine a_done ?_
        refine c_t (by kernel_rfl) ?_
        refine r_start ?_
        refine p 1 ?_
        obtain ⟨v1_1, hv1_1, h⟩ := H.call h
        refine xx rfl (e_cr [.slice A0 (List.length a0) k0] (fun v => v) func37 (fun W S => C.slices_Clone_int_int W hv1_1 ((s_argN h0 q0).out W S)) fun A1_1 k1_1 => ?_)
        refine p 1 ?_
        obtain ⟨v1_3, hv1_3, h⟩ := H.call h
        refine xq rfl (y_call [.slice A1 (List.length a1) k1] (.int .i64 v1_3) func36 (fun W S => C.i_gapsIn W hv1_3 ((s_argN h1 q1).out W S))) ?_
        refine br (List.isEmpty v1_1) (fun q8 => ?_) (fun q8 => ?_)
        · exact H.none (H.t q8 h)
        replace h := H.f q8 h
        refine o_toN 5 hB q8 ?_
        refine xx rfl (x_sto 2 g3 0 [.slice A1_1 (List.length v1_1) k1_1] ?_)
        refine xx rfl (x_sto 3 g4 0 [.int .i64 v1_3] ?_)
        refine rend ?_
        refine pick [0, 1, 2, 3, 5] [box g2 26 [.slice Al (List.length c0) kl], box g5 67 [.func (.func 35) #[] #[.pointer (some ⟨g2, 0, none⟩), .pointer (some ⟨g3, 0, none⟩), .pointer (some ⟨g4, 0, none⟩), .pointer (some ⟨g5, 0, none⟩)]], box g3 28 [.slice A1_1 (List.length v1_1) k1_1], box g4 3 [.int .i64 v1_3], rowN (eI .i64) B 3 (.slice A1_1 (List.length v1_1) k1_1) v1_1] ?_
        replace h := H.done h
        exact hj5 (v1_3, v1_1, A1_1, k1_1) _ _ h (by kernel_rfl) (by kernel_rfl)
      replace h := H.f q7 h
      refine a_set 18 (congrArg Value.bool q7) ?_
      refine ap 9 1 ?_
      obtain ⟨v0_10, hv0_10, h⟩ := H.call h
      refine aq 10 rfl (y_call [.slice A1 (List.length a1) k1] (.int .i64 v0_10) func36 (fun W S => C.i_gapsIn W hv0_10 ((s_argN h1 q1).out W S))) ?_
      refine aq 11 rfl (y_load (.int .i64 z0) 3 g4 0) ?_
      refine ap 12 3 ?_
      refine a_done ?_
      refine c_or (decide (v0_10 < z0)) (fun q9 => ?_) (fun q9 => ?_)
      · replace h := H.t q9 h
        refine r_start ?_
        refine p 1 ?_
        obtain ⟨v1_1, hv1_1, h⟩ := H.call h
        refine xx rfl (e_cr [.slice A0 (List.length a0) k0] (fun v => v) func37 (fun W S => C.slices_Clone_int_int W hv1_1 ((s_argN h0 q0).out W S)) fun A1_1 k1_1 => ?_)
        refine p 1 ?_
        obtain ⟨v1_3, hv1_3, h⟩ := H.call h
        refine xq rfl (y_call [.slice A1 (List.length a1) k1] (.int .i64 v1_3) func36 (fun W S => C.i_gapsIn W hv1_3 ((s_argN h1 q1).out W S))) ?_
        refine br (List.isEmpty v1_1) (fun q10 => ?_) (fun q10 => ?_)
        · exact H.none (H.t q10 h)
        replace h := H.f q10 h
        refine o_toN 5 hB q10 ?_
        refine xx rfl (x_sto 2 g3 0 [.slice A1_1 (List.length v1_1) k1_1] ?_)
        refine xx rfl (x_sto 3 g4 0 [.int .i64 v1_3] ?_)
        refine rend ?_
        refine pick [0, 1, 2, 3, 5] [box g2 26 [.slice Al (List.length c0) kl], box g5 67 [.func (.func 35) #[] #[.pointer (some ⟨g2, 0, none⟩), .pointer (some ⟨g3, 0, none⟩), .pointer (some ⟨g4, 0, none⟩), .pointer (some ⟨g5, 0, none⟩)]], box g3 28 [.slice A1_1 (List.length v1_1) k1_1], box g4 3 [.int .i64 v1_3], rowN (eI .i64) B 3 (.slice A1_1 (List.length v1_1) k1_1) v1_1] ?_
        replace h := H.done h
        exact hj5 (v1_3, v1_1, A1_1, k1_1) _ _ h (by kernel_rfl) (by kernel_rfl)
      replace h := H.f q9 h
      refine c_skip ?_
      replace h := H.done h
      exact hj5 (z0, b0, Ab, kb) _ _ h (by kernel_rfl) (by kernel_rfl)
    replace h := H.f q6 h
    refine a_set 15 (congrArg Value.bool q6) ?_
    refine ap 6 9 ?_
    refine a_done ?_
    refine c_f (by kernel_rfl) ?_
    refine c_skip ?_
    replace h := H.done h
    exact hj5 (z0, b0, Ab, kb) _ _ h (by kernel_rfl) (by kernel_rfl)
  intro x u h
  obtain ⟨s1, l2, A3, k4⟩ := x
  refine c_seq ?_
  refine r_start ?_
  refine xq rfl (y_load (.slice Al (List.length c0) kl) 0 g2 0) ?_
  refine p 2 ?_
  refine rend ?_
  refine c_block ?_
  refine joinH (X := (Int × (List Int) × Option Addr × Nat)) 0 (H.bnd h) (fun ⟨s15, l16, A17, k18⟩ => (s15, l16)) (fun ⟨s15, l16, A17, k18⟩ => [box g2 26 [.slice Al (List.length c0) kl], box g5 67 [.func (.func 35) #[] #[.pointer (some ⟨g2, 0, none⟩), .pointer (some ⟨g3, 0, none⟩), .pointer (some ⟨g4, 0, none⟩), .pointer (some ⟨g5, 0, none⟩)]], box g3 28 [.slice A17 (List.length l16) k18], box g4 3 [.int .i64 s15], rowN (eI .i64) B 3 (.slice A17 (List.length l16) k18) l16]) (fun ⟨s15, l16, A17, k18⟩ u => (jk u 0 53 [])) (fun h hj19 => ?_) ?_
  · skip
    refine rangeR (X := (Int × (List Int) × Option Addr × Nat)) (s_argN hl ql) (fun ⟨s11, l12, A13, k14⟩ => (s11, l12)) (fun ⟨s11, l12, A13, k14⟩ => [box g2 26 [.slice Al (List.length c0) kl], box g5 67 [.func (.func 35) #[] #[.pointer (some ⟨g2, 0, none⟩), .pointer (some ⟨g3, 0, none⟩), .pointer (some ⟨g4, 0, none⟩), .pointer (some ⟨g5, 0, none⟩)]], box g3 28 [.slice A13 (List.length l12) k14], box g4 3 [.int .i64 s11], rowN (eI .i64) B 3 (.slice A13 (List.length l12) k14) l12]) (fun (j20 : Nat) ⟨s11, l12, A13, k14⟩ u => (.slice A0 (List.length a0) k0 :: .slice A1 (List.length a1) k1 :: (jk u 2 3 (.pointer (some ⟨g5, 0, none⟩) :: (jk u 6 23 (.slice Al (List.length c0) kl :: .int .i64 (List.length c0 : Int) :: .int .i64 (j20 : Int) :: (jk u 32 21 []))))))) (s1, l2, A3, k4) h (by kernel_rfl) (by kernel_rfl) ?_ ?_
    · intro j20 x u x21 q22 hg23 hw24 h
      obtain ⟨s11, l12, A13, k14⟩ := x
      refine c_seq ?_
      refine r_start ?_
      refine p 1 ?_
      refine rend ?_
      refine c_seq ?_
      refine c_yes q22 ?_
      refine c_skip ?_
      refine c_seq ?_
      refine c_block ?_
      refine c_seq ?_
      refine r_start ?_
      refine p 1 ?_
      refine xq rfl (y_idx (e := nSign) (el := 46) hg23 (s_argN hl ql)) ?_
      refine xq rfl (y_el (e := nSign) 0 (.agg (eSign x21).toArray) hg23 (s_argN hl ql)) ?_
      refine xx rfl (x_new (eSign zSign) fun g4_3 => ?_)
      refine p 1 ?_
      refine xx rfl (x_sto 5 g4_3 0 (eSign x21) ?_)
      refine rend ?_
      refine c_seq ?_
      refine r_start ?_
      refine p 2 ?_
      obtain ⟨v5_2, hv5_2, h⟩ := H.call h
      refine xq rfl (y_call [.slice A0 (List.length a0) k0, .int .i64 (j20 : Int)] (.bool v5_2) func38 (fun W S => C.slices_Contains_int_int W hv5_2 ((s_argN h0 q0).out W S))) ?_
      refine p 1 ?_
      refine rend ?_
      refine c_or (!v5_2) (fun q25 => ?_) (fun q25 => ?_)
      · replace h := H.t q25 h
        refine as_start 11 12 ?_
        refine aq 0 rfl (y_load (.func (.func 35) #[] #[.pointer (some ⟨g2, 0, none⟩), .pointer (some ⟨g3, 0, none⟩), .pointer (some ⟨g4, 0, none⟩), .pointer (some ⟨g5, 0, none⟩)]) 1 g5 0) ?_
        refine ap 1 1 ?_
        refine ap 3 1 ?_
        refine ap 6 1 ?_
        refine aq 8 rfl (y_load (.agg (eSign x21).toArray) 5 g4_3 0) ?_
        refine a_three 2 4 9 rfl rfl rfl ?_ ?_ ?_
        · skip
          obtain ⟨v6_2, hv6_2, h⟩ := H.call h
          refine (e_cr [.slice A0 (List.length a0) k0] (fun v => v) func37 (fun W S => C.slices_Clone_int_int W hv6_2 ((s_argN h0 q0).out W S)) fun A6_2 k6_2 => ⟨.inr (by kernel_rfl), ?_⟩)
          refine a_two 4 9 rfl rfl ?_ ?_
          · skip
            refine (e_lit (e := (eI .i64)) (el := 3) [.int .i64 (j20 : Int)] ([(j20 : Int)] : List Int) fun A6_4 k6_4 => ⟨.inr (by kernel_rfl), ?_⟩)
            refine a_two 5 9 rfl rfl ?_ ?_
            · skip
              obtain ⟨y6_5, hy6_5, h⟩ := H.call h
              refine (e_app 6 hy6_5 (s_own 7) fun A6_5 k6_5 => ⟨.inr (by kernel_rfl), ?_⟩)
              refine a_two 7 9 rfl rfl ?_ ?_
              · skip
                obtain ⟨v6_7, hv6_7, h⟩ := H.call h
                refine (e_cr [.slice A1 (List.length a1) k1] (fun v => v) func39 (fun W S => C.slices_Clone_i_Sign_i_Sign W hv6_7 ((s_argN h1 q1).out W S)) fun A6_7 k6_7 => ⟨.inr (by kernel_rfl), ?_⟩)
                refine ax 9 rfl (e_lit (e := nSign) (el := 46) [.agg (eSign x21).toArray] ([x21] : List Sign) fun A6_9 k6_9 => ⟨.inr (by kernel_rfl), ?_⟩)
                obtain ⟨y6_10, hy6_10, h⟩ := H.call h
                refine ax 10 rfl (e_app 8 hy6_10 (s_own 9) fun A6_10 k6_10 => ⟨.inr (by kernel_rfl), ?_⟩)
                obtain ⟨v6_11, hv6_11, h⟩ := H.call h
                refine ax 11 rfl (e_ch (v := .tuple #[]) 5 (fun (A6_11 : Option Addr) (k6_11 : Nat) => [box g2 26 [.slice Al (List.length c0) kl], box g5 67 [.func (.func 35) #[] #[.pointer (some ⟨g2, 0, none⟩), .pointer (some ⟨g3, 0, none⟩), .pointer (some ⟨g4, 0, none⟩), .pointer (some ⟨g5, 0, none⟩)]], box g3 28 [.slice A6_11 (List.length v6_11.1) k6_11], box g4 3 [.int .i64 v6_11.2], rowN (eI .i64) B 3 (.slice A6_11 (List.length v6_11.1) k6_11) v6_11.1]) [.pointer (some ⟨g2, 0, none⟩), .pointer (some ⟨g3, 0, none⟩), .pointer (some ⟨g4, 0, none⟩), .pointer (some ⟨g5, 0, none⟩)] [.slice A6_5 (List.length y6_5) k6_5, .slice A6_10 (List.length y6_10) k6_10, .pointer (some ⟨g2, 0, none⟩), .pointer (some ⟨g3, 0, none⟩), .pointer (some ⟨g4, 0, none⟩), .pointer (some ⟨g5, 0, none⟩)] func35 (fun W S M2 hM S2 => ih M2 W hv6_11 ((s_argN hl ql).out W S) (ap_old hl ql S hM) ((s_own 6).out W S) (ap_rowH S 6 (by decide) hM) ((s_own 8).out W S) (ap_rowH S 8 (by decide) hM) (Nat.le_trans hB S.size) S2) fun A6_11 k6_11 => ⟨.inl (by kernel_rfl), ?_⟩)
                refine a_done ?_
                refine c_inb ?_
                refine r_start ?_
                refine p 2 ?_
                refine rend ?_
                refine c_set 31 (ci hw24) ?_
                replace h := H.inl h
                exact h (v6_11.2, v6_11.1, A6_11, k6_11) _ _ rfl (by kernel_rfl) (by kernel_rfl)
              refine (e_lit (e := nSign) (el := 46) [.agg (eSign x21).toArray] ([x21] : List Sign) fun A6_9 k6_9 => ⟨.inr (by kernel_rfl), ?_⟩)
              obtain ⟨v6_7, hv6_7, h⟩ := H.call h
              refine ax 7 rfl (e_cr [.slice A1 (List.length a1) k1] (fun v => v) func39 (fun W S => C.slices_Clone_i_Sign_i_Sign W hv6_7 ((s_argN h1 q1).out W S)) fun A6_7 k6_7 => ⟨.inr (by kernel_rfl), ?_⟩)
              obtain ⟨y6_10, hy6_10, h⟩ := H.call h
              refine ax 10 rfl (e_app 9 hy6_10 (s_own 8) fun A6_10 k6_10 => ⟨.inr (by kernel_rfl), ?_⟩)
              obtain ⟨v6_11, hv6_11, h⟩ := H.call h
              refine ax 11 rfl (e_ch (v := .tuple #[]) 5 (fun (A6_11 : Option Addr) (k6_11 : Nat) => [box g2 26 [.slice Al (List.length c0) kl], box g5 67 [.func (.func 35) #[] #[.pointer (some ⟨g2, 0, none⟩), .pointer (some ⟨g3, 0, none⟩), .pointer (some ⟨g4, 0, none⟩), .pointer (some ⟨g5, 0, none⟩)]], box g3 28 [.slice A6_11 (List.length v6_11.1) k6_11], box g4 3 [.int .i64 v6_11.2], rowN (eI .i64) B 3 (.slice A6_11 (List.length v6_11.1) k6_11) v6_11.1]) [.pointer (some ⟨g2, 0, none⟩), .pointer (some ⟨g3, 0, none⟩), .pointer (some ⟨g4, 0, none⟩), .pointer (some ⟨g5, 0, none⟩)] [.slice A6_5 (List.length y6_5) k6_5, .slice A6_10 (List.length y6_10) k6_10, .pointer (some ⟨g2, 0, none⟩), .pointer (some ⟨g3, 0, none⟩), .pointer (some ⟨g4, 0, none⟩), .pointer (some ⟨g5, 0, none⟩)] func35 (fun W S M2 hM S2 => ih M2 W hv6_11 ((s_argN hl ql).out W S) (ap_old hl ql S hM) ((s_own 6).out W S) (ap_rowH S 6 (by decide) hM) ((s_own 9).out W S) (ap_rowH S 9 (by decide) hM) (Nat.le_trans hB S.size) S2) fun A6_11 k6_11 => ⟨.inl (by kernel_rfl), ?_⟩)
              refine a_done ?_
              refine swp [box g2 26 [.slice Al (List.length c0) kl], box g5 67 [.func (.func 35) #[] #[.pointer (some ⟨g2, 0, none⟩), .pointer (some ⟨g3, 0, none⟩), .pointer (some ⟨g4, 0, none⟩), .pointer (some ⟨g5, 0, none⟩)]], box g3 28 [.slice A6_11 (List.length v6_11.1) k6_11], box g4 3 [.int .i64 v6_11.2], rowN (eI .i64) B 3 (.slice A6_11 (List.length v6_11.1) k6_11) v6_11.1, box g4_3 46 (eSign x21), rowT (eI .i64) w.heap.size 3 (.slice A6_5 (List.length y6_5) k6_5) y6_5, rowT (eI .i64) w.heap.size 3 (.slice A6_4 (List.length ([(j20 : Int)] : List Int)) k6_4) ([(j20 : Int)] : List Int)] (rowT nSign w.heap.size 46 (.slice A6_9 (List.length ([x21] : List Sign)) k6_9) ([x21] : List Sign)) (rowT nSign w.heap.size 46 (.slice A6_10 (List.length y6_10) k6_10) y6_10) ?_
              refine c_inb ?_
              refine r_start ?_
              refine p 2 ?_
              refine rend ?_
              refine c_set 31 (ci hw24) ?_
              replace h := H.inl h
              exact h (v6_11.2, v6_11.1, A6_11, k6_11) _ _ rfl (by kernel_rfl) (by kernel_rfl)
            refine (e_lit (e := nSign) (el := 46) [.agg (eSign x21).toArray] ([x21] : List Sign) fun A6_9 k6_9 => ⟨.inr (by kernel_rfl), ?_⟩)
            obtain ⟨y6_5, hy6_5, h⟩ := H.call h
            refine ax 5 rfl (e_app 6 hy6_5 (s_own 7) fun A6_5 k6_5 => ⟨.inr (by kernel_rfl), ?_⟩)
            obtain ⟨v6_7, hv6_7, h⟩ := H.call h
            refine ax 7 rfl (e_cr [.slice A1 (List.length a1) k1] (fun v => v) func39 (fun W S => C.slices_Clone_i_Sign_i_Sign W hv6_7 ((s_argN h1 q1).out W S)) fun A6_7 k6_7 => ⟨.inr (by kernel_rfl), ?_⟩)
            obtain ⟨y6_10, hy6_10, h⟩ := H.call h
            refine ax 10 rfl (e_app 9 hy6_10 (s_own 8) fun A6_10 k6_10 => ⟨.inr (by kernel_rfl), ?_⟩)
            obtain ⟨v6_11, hv6_11, h⟩ := H.call h
            refine ax 11 rfl (e_ch (v := .tuple #[]) 5 (fun (A6_11 : Option Addr) (k6_11 : Nat) => [box g2 26 [.slice Al (List.length c0) kl], box g5 67 [.func (.func 35) #[] #[.pointer (some ⟨g2, 0, none⟩), .pointer (some ⟨g3, 0, none⟩), .pointer (some ⟨g4, 0, none⟩), .pointer (some ⟨g5, 0, none⟩)]], box g3 28 [.slice A6_11 (List.length v6_11.1) k6_11], box g4 3 [.int .i64 v6_11.2], rowN (eI .i64) B 3 (.slice A6_11 (List.length v6_11.1) k6_11) v6_11.1]) [.pointer (some ⟨g2, 0, none⟩), .pointer (some ⟨g3, 0, none⟩), .pointer (some ⟨g4, 0, none⟩), .pointer (some ⟨g5, 0, none⟩)] [.slice A6_5 (List.length y6_5) k6_5, .slice A6_10 (List.length y6_10) k6_10, .pointer (some ⟨g2, 0, none⟩), .pointer (some ⟨g3, 0, none⟩), .pointer (some ⟨g4, 0, none⟩), .pointer (some ⟨g5, 0, none⟩)] func35 (fun W S M2 hM S2 => ih M2 W hv6_11 ((s_argN hl ql).out W S) (ap_old hl ql S hM) ((s_own 6).out W S) (ap_rowH S 6 (by decide) hM) ((s_own 9).out W S) (ap_rowH S 9 (by decide) hM) (Nat.le_trans hB S.size) S2) fun A6_11 k6_11 => ⟨.inl (by kernel_rfl), ?_⟩)
            refine a_done ?_
            refine swp [box g2 26 [.slice Al (List.length c0) kl], box g5 67 [.func (.func 35) #[] #[.pointer (some ⟨g2, 0, none⟩), .pointer (some ⟨g3, 0, none⟩), .pointer (some ⟨g4, 0, none⟩), .pointer (some ⟨g5, 0, none⟩)]], box g3 28 [.slice A6_11 (List.length v6_11.1) k6_11], box g4 3 [.int .i64 v6_11.2], rowN (eI .i64) B 3 (.slice A6_11 (List.length v6_11.1) k6_11) v6_11.1, box g4_3 46 (eSign x21), rowT (eI .i64) w.heap.size 3 (.slice A6_5 (List.length y6_5) k6_5) y6_5, rowT (eI .i64) w.heap.size 3 (.slice A6_4 (List.length ([(j20 : Int)] : List Int)) k6_4) ([(j20 : Int)] : List Int)] (rowT nSign w.heap.size 46 (.slice A6_9 (List.length ([x21] : List Sign)) k6_9) ([x21] : List Sign)) (rowT nSign w.heap.size 46 (.slice A6_10 (List.length y6_10) k6_10) y6_10) ?_
            refine c_inb ?_
            refine r_start ?_
            refine p 2 ?_
            refine rend ?_
            refine c_set 31 (ci hw24) ?_
            replace h := H.inl h
            exact h (v6_11.2, v6_11.1, A6_11, k6_11) _ _ rfl (by kernel_rfl) (by kernel_rfl)
          refine (e_lit (e := nSign) (el := 46) [.agg (eSign x21).toArray] ([x21] : List Sign) fun A6_9 k6_9 => ⟨.inr (by kernel_rfl), ?_⟩)
          refine ax 4 rfl (e_lit (e := (eI .i64)) (el := 3) [.int .i64 (j20 : Int)] ([(j20 : Int)] : List Int) fun A6_4 k6_4 => ⟨.inr (by kernel_rfl), ?_⟩)
          obtain ⟨y6_5, hy6_5, h⟩ := H.call h
          refine ax 5 rfl (e_app 6 hy6_5 (s_own 8) fun A6_5 k6_5 => ⟨.inr (by kernel_rfl), ?_⟩)
          obtain ⟨v6_7, hv6_7, h⟩ := H.call h
          refine ax 7 rfl (e_cr [.slice A1 (List.length a1) k1] (fun v => v) func39 (fun W S => C.slices_Clone_i_Sign_i_Sign W hv6_7 ((s_argN h1 q1).out W S)) fun A6_7 k6_7 => ⟨.inr (by kernel_rfl), ?_⟩)
          obtain ⟨y6_10, hy6_10, h⟩ := H.call h
          refine ax 10 rfl (e_app 9 hy6_10 (s_own 7) fun A6_10 k6_10 => ⟨.inr (by kernel_rfl), ?_⟩)
          obtain ⟨v6_11, hv6_11, h⟩ := H.call h
          refine ax 11 rfl (e_ch (v := .tuple #[]) 5 (fun (A6_11 : Option Addr) (k6_11 : Nat) => [box g2 26 [.slice Al (List.length c0) kl], box g5 67 [.func (.func 35) #[] #[.pointer (some ⟨g2, 0, none⟩), .pointer (some ⟨g3, 0, none⟩), .pointer (some ⟨g4, 0, none⟩), .pointer (some ⟨g5, 0, none⟩)]], box g3 28 [.slice A6_11 (List.length v6_11.1) k6_11], box g4 3 [.int .i64 v6_11.2], rowN (eI .i64) B 3 (.slice A6_11 (List.length v6_11.1) k6_11) v6_11.1]) [.pointer (some ⟨g2, 0, none⟩), .pointer (some ⟨g3, 0, none⟩), .pointer (some ⟨g4, 0, none⟩), .pointer (some ⟨g5, 0, none⟩)] [.slice A6_5 (List.length y6_5) k6_5, .slice A6_10 (List.length y6_10) k6_10, .pointer (some ⟨g2, 0, none⟩), .pointer (some ⟨g3, 0, none⟩), .pointer (some ⟨g4, 0, none⟩), .pointer (some ⟨g5, 0, none⟩)] func35 (fun W S M2 hM S2 => ih M2 W hv6_11 ((s_argN hl ql).out W S) (ap_old hl ql S hM) ((s_own 6).out W S) (ap_rowH S 6 (by decide) hM) ((s_own 9).out W S) (ap_rowH S 9 (by decide) hM) (Nat.le_trans hB S.size) S2) fun A6_11 k6_11 => ⟨.inl (by kernel_rfl), ?_⟩)
          refine a_done ?_
          refine pick [0, 1, 2, 3, 4, 5, 6, 8, 9, 7] [box g2 26 [.slice Al (List.length c0) kl], box g5 67 [.func (.func 35) #[] #[.pointer (some ⟨g2, 0, none⟩), .pointer (some ⟨g3, 0, none⟩), .pointer (some ⟨g4, 0, none⟩), .pointer (some ⟨g5, 0, none⟩)]], box g3 28 [.slice A6_11 (List.length v6_11.1) k6_11], box g4 3 [.int .i64 v6_11.2], rowN (eI .i64) B 3 (.slice A6_11 (List.length v6_11.1) k6_11) v6_11.1, box g4_3 46 (eSign x21), rowT (eI .i64) w.heap.size 3 (.slice A6_5 (List.length y6_5) k6_5) y6_5, rowT (eI .i64) w.heap.size 3 (.slice A6_4 (List.length ([(j20 : Int)] : List Int)) k6_4) ([(j20 : Int)] : List Int), rowT nSign w.heap.size 46 (.slice A6_10 (List.length y6_10) k6_10) y6_10, rowT nSign w.heap.size 46 (.slice A6_9 (List.length ([x21] : List Sign)) k6_9) ([x21] : List Sign)] ?_
          refine c_inb ?_
          refine r_start ?_
          refine p 2 ?_
          refine rend ?_
          refine c_set 31 (ci hw24) ?_
          replace h := H.inl h
          exact h (v6_11.2, v6_11.1, A6_11, k6_11) _ _ rfl (by kernel_rfl) (by kernel_rfl)
        · skip
          refine (e_lit (e := (eI .i64)) (el := 3) [.int .i64 (j20 : Int)] ([(j20 : Int)] : List Int) fun A6_4 k6_4 => ⟨.inr (by kernel_rfl), ?_⟩)
          refine a_two 2 9 rfl rfl ?_ ?_
          · skip
            obtain ⟨v6_2, hv6_2, h⟩ := H.call h
            refine (e_cr [.slice A0 (List.length a0) k0] (fun v => v) func37 (fun W S => C.slices_Clone_int_int W hv6_2 ((s_argN h0 q0).out W S)) fun A6_2 k6_2 => ⟨.inr (by kernel_rfl), ?_⟩)
            refine a_two 5 9 rfl rfl ?_ ?_
            · skip
              obtain ⟨y6_5, hy6_5, h⟩ := H.call h
              refine (e_app 7 hy6_5 (s_own 6) fun A6_5 k6_5 => ⟨.inr (by kernel_rfl), ?_⟩)
              refine a_two 7 9 rfl rfl ?_ ?_
              · skip
                obtain ⟨v6_7, hv6_7, h⟩ := H.call h
                refine (e_cr [.slice A1 (List.length a1) k1] (fun v => v) func39 (fun W S => C.slices_Clone_i_Sign_i_Sign W hv6_7 ((s_argN h1 q1).out W S)) fun A6_7 k6_7 => ⟨.inr (by kernel_rfl), ?_⟩)
                refine ax 9 rfl (e_lit (e := nSign) (el := 46) [.agg (eSign x21).toArray] ([x21] : List Sign) fun A6_9 k6_9 => ⟨.inr (by kernel_rfl), ?_⟩)
                obtain ⟨y6_10, hy6_10, h⟩ := H.call h
                refine ax 10 rfl (e_app 8 hy6_10 (s_own 9) fun A6_10 k6_10 => ⟨.inr (by kernel_rfl), ?_⟩)
                obtain ⟨v6_11, hv6_11, h⟩ := H.call h
                refine ax 11 rfl (e_ch (v := .tuple #[]) 5 (fun (A6_11 : Option Addr) (k6_11 : Nat) => [box g2 26 [.slice Al (List.length c0) kl], box g5 67 [.func (.func 35) #[] #[.pointer (some ⟨g2, 0, none⟩), .pointer (some ⟨g3, 0, none⟩), .pointer (some ⟨g4, 0, none⟩), .pointer (some ⟨g5, 0, none⟩)]], box g3 28 [.slice A6_11 (List.length v6_11.1) k6_11], box g4 3 [.int .i64 v6_11.2], rowN (eI .i64) B 3 (.slice A6_11 (List.length v6_11.1) k6_11) v6_11.1]) [.pointer (some ⟨g2, 0, none⟩), .pointer (some ⟨g3, 0, none⟩), .pointer (some ⟨g4, 0, none⟩), .pointer (some ⟨g5, 0, none⟩)] [.slice A6_5 (List.length y6_5) k6_5, .slice A6_10 (List.length y6_10) k6_10, .pointer (some ⟨g2, 0, none⟩), .pointer (some ⟨g3, 0, none⟩), .pointer (some ⟨g4, 0, none⟩), .pointer (some ⟨g5, 0, none⟩)] func35 (fun W S M2 hM S2 => ih M2 W hv6_11 ((s_argN hl ql).out W S) (ap_old hl ql S hM) ((s_own 7).out W S) (ap_rowH S 7 (by decide) hM) ((s_own 8).out W S) (ap_rowH S 8 (by decide) hM) (Nat.le_trans hB S.size) S2) fun A6_11 k6_11 => ⟨.inl (by kernel_rfl), ?_⟩)
                refine a_done ?_
                refine pick [0, 1, 2, 3, 4, 5, 7, 6, 8, 9] [box g2 26 [.slice Al (List.length c0) kl], box g5 67 [.func (.func 35) #[] #[.pointer (some ⟨g2, 0, none⟩), .pointer (some ⟨g3, 0, none⟩), .pointer (some ⟨g4, 0, none⟩), .pointer (some ⟨g5, 0, none⟩)]], box g3 28 [.slice A6_11 (List.length v6_11.1) k6_11], box g4 3 [.int .i64 v6_11.2], rowN (eI .i64) B 3 (.slice A6_11 (List.length v6_11.1) k6_11) v6_11.1, box g4_3 46 (eSign x21), rowT (eI .i64) w.heap.size 3 (.slice A6_5 (List.length y6_5) k6_5) y6_5, rowT (eI .i64) w.heap.size 3 (.slice A6_4 (List.length ([(j20 : Int)] : List Int)) k6_4) ([(j20 : Int)] : List Int), rowT nSign w.heap.size 46 (.slice A6_10 (List.length y6_10) k6_10) y6_10, rowT nSign w.heap.size 46 (.slice A6_9 (List.length ([x21] : List Sign)) k6_9) ([x21] : List Sign)] ?_
                refine c_inb ?_
                refine r_start ?_
                refine p 2 ?_
                refine rend ?_
                refine c_set 31 (ci hw24) ?_
                replace h := H.inl h
                exact h (v6_11.2, v6_11.1, A6_11, k6_11) _ _ rfl (by kernel_rfl) (by kernel_rfl)
              refine (e_lit (e := nSign) (el := 46) [.agg (eSign x21).toArray] ([x21] : List Sign) fun A6_9 k6_9 => ⟨.inr (by kernel_rfl), ?_⟩)
              obtain ⟨v6_7, hv6_7, h⟩ := H.call h
              refine ax 7 rfl (e_cr [.slice A1 (List.length a1) k1] (fun v => v) func39 (fun W S => C.slices_Clone_i_Sign_i_Sign W hv6_7 ((s_argN h1 q1).out W S)) fun A6_7 k6_7 => ⟨.inr (by kernel_rfl), ?_⟩)
              obtain ⟨y6_10, hy6_10, h⟩ := H.call h
              refine ax 10 rfl (e_app 9 hy6_10 (s_own 8) fun A6_10 k6_10 => ⟨.inr (by kernel_rfl), ?_⟩)
              obtain ⟨v6_11, hv6_11, h⟩ := H.call h
              refine ax 11 rfl (e_ch (v := .tuple #[]) 5 (fun (A6_11 : Option Addr) (k6_11 : Nat) => [box g2 26 [.slice Al (List.length c0) kl], box g5 67 [.func (.func 35) #[] #[.pointer (some ⟨g2, 0, none⟩), .pointer (some ⟨g3, 0, none⟩), .pointer (some ⟨g4, 0, none⟩), .pointer (some ⟨g5, 0, none⟩)]], box g3 28 [.slice A6_11 (List.length v6_11.1) k6_11], box g4 3 [.int .i64 v6_11.2], rowN (eI .i64) B 3 (.slice A6_11 (List.length v6_11.1) k6_11) v6_11.1]) [.pointer (some ⟨g2, 0, none⟩), .pointer (some ⟨g3, 0, none⟩), .pointer (some ⟨g4, 0, none⟩), .pointer (some ⟨g5, 0, none⟩)] [.slice A6_5 (List.length y6_5) k6_5, .slice A6_10 (List.length y6_10) k6_10, .pointer (some ⟨g2, 0, none⟩), .pointer (some ⟨g3, 0, none⟩), .pointer (some ⟨g4, 0, none⟩), .pointer (some ⟨g5, 0, none⟩)] func35 (fun W S M2 hM S2 => ih M2 W hv6_11 ((s_argN hl ql).out W S) (ap_old hl ql S hM) ((s_own 7).out W S) (ap_rowH S 7 (by decide) hM) ((s_own 9).out W S) (ap_rowH S 9 (by decide) hM) (Nat.le_trans hB S.size) S2) fun A6_11 k6_11 => ⟨.inl (by kernel_rfl), ?_⟩)
              refine a_done ?_
              refine pick [0, 1, 2, 3, 4, 5, 7, 6, 9, 8] [box g2 26 [.slice Al (List.length c0) kl], box g5 67 [.func (.func 35) #[] #[.pointer (some ⟨g2, 0, none⟩), .pointer (some ⟨g3, 0, none⟩), .pointer (some ⟨g4, 0, none⟩), .pointer (some ⟨g5, 0, none⟩)]], box g3 28 [.slice A6_11 (List.length v6_11.1) k6_11], box g4 3 [.int .i64 v6_11.2], rowN (eI .i64) B 3 (.slice A6_11 (List.length v6_11.1) k6_11) v6_11.1, box g4_3 46 (eSign x21), rowT (eI .i64) w.heap.size 3 (.slice A6_5 (List.length y6_5) k6_5) y6_5, rowT (eI .i64) w.heap.size 3 (.slice A6_4 (List.length ([(j20 : Int)] : List Int)) k6_4) ([(j20 : Int)] : List Int), rowT nSign w.heap.size 46 (.slice A6_10 (List.length y6_10) k6_10) y6_10, rowT nSign w.heap.size 46 (.slice A6_9 (List.length ([x21] : List Sign)) k6_9) ([x21] : List Sign)] ?_
              refine c_inb ?_
              refine r_start ?_
              refine p 2 ?_
              refine rend ?_
              refine c_set 31 (ci hw24) ?_
              replace h := H.inl h
              exact h (v6_11.2, v6_11.1, A6_11, k6_11) _ _ rfl (by kernel_rfl) (by kernel_rfl)
            refine (e_lit (e := nSign) (el := 46) [.agg (eSign x21).toArray] ([x21] : List Sign) fun A6_9 k6_9 => ⟨.inr (by kernel_rfl), ?_⟩)
            obtain ⟨y6_5, hy6_5, h⟩ := H.call h
            refine ax 5 rfl (e_app 7 hy6_5 (s_own 6) fun A6_5 k6_5 => ⟨.inr (by kernel_rfl), ?_⟩)
            obtain ⟨v6_7, hv6_7, h⟩ := H.call h
            refine ax 7 rfl (e_cr [.slice A1 (List.length a1) k1] (fun v => v) func39 (fun W S => C.slices_Clone_i_Sign_i_Sign W hv6_7 ((s_argN h1 q1).out W S)) fun A6_7 k6_7 => ⟨.inr (by kernel_rfl), ?_⟩)
            obtain ⟨y6_10, hy6_10, h⟩ := H.call h
            refine ax 10 rfl (e_app 9 hy6_10 (s_own 8) fun A6_10 k6_10 => ⟨.inr (by kernel_rfl), ?_⟩)
            obtain ⟨v6_11, hv6_11, h⟩ := H.call h
            refine ax 11 rfl (e_ch (v := .tuple #[]) 5 (fun (A6_11 : Option Addr) (k6_11 : Nat) => [box g2 26 [.slice Al (List.length c0) kl], box g5 67 [.func (.func 35) #[] #[.pointer (some ⟨g2, 0, none⟩), .pointer (some ⟨g3, 0, none⟩), .pointer (some ⟨g4, 0, none⟩), .pointer (some ⟨g5, 0, none⟩)]], box g3 28 [.slice A6_11 (List.length v6_11.1) k6_11], box g4 3 [.int .i64 v6_11.2], rowN (eI .i64) B 3 (.slice A6_11 (List.length v6_11.1) k6_11) v6_11.1]) [.pointer (some ⟨g2, 0, none⟩), .pointer (some ⟨g3, 0, none⟩), .pointer (some ⟨g4, 0, none⟩), .pointer (some ⟨g5, 0, none⟩)] [.slice A6_5 (List.length y6_5) k6_5, .slice A6_10 (List.length y6_10) k6_10, .pointer (some ⟨g2, 0, none⟩), .pointer (some ⟨g3, 0, none⟩), .pointer (some ⟨g4, 0, none⟩), .pointer (some ⟨g5, 0, none⟩)] func35 (fun W S M2 hM S2 => ih M2 W hv6_11 ((s_argN hl ql).out W S) (ap_old hl ql S hM) ((s_own 7).out W S) (ap_rowH S 7 (by decide) hM) ((s_own 9).out W S) (ap_rowH S 9 (by decide) hM) (Nat.le_trans hB S.size) S2) fun A6_11 k6_11 => ⟨.inl (by kernel_rfl), ?_⟩)
            refine a_done ?_
            refine pick [0, 1, 2, 3, 4, 5, 7, 6, 9, 8] [box g2 26 [.slice Al (List.length c0) kl], box g5 67 [.func (.func 35) #[] #[.pointer (some ⟨g2, 0, none⟩), .pointer (some ⟨g3, 0, none⟩), .pointer (some ⟨g4, 0, none⟩), .pointer (some ⟨g5, 0, none⟩)]], box g3 28 [.slice A6_11 (List.length v6_11.1) k6_11], box g4 3 [.int .i64 v6_11.2], rowN (eI .i64) B 3 (.slice A6_11 (List.length v6_11.1) k6_11) v6_11.1, box g4_3 46 (eSign x21), rowT (eI .i64) w.heap.size 3 (.slice A6_5 (List.length y6_5) k6_5) y6_5, rowT (eI .i64) w.heap.size 3 (.slice A6_4 (List.length ([(j20 : Int)] : List Int)) k6_4) ([(j20 : Int)] : List Int), rowT nSign w.heap.size 46 (.slice A6_10 (List.length y6_10) k6_10) y6_10, rowT nSign w.heap.size 46 (.slice A6_9 (List.length ([x21] : List Sign)) k6_9) ([x21] : List Sign)] ?_
            refine c_inb ?_
            refine r_start ?_
            refine p 2 ?_
            refine rend ?_
            refine c_set 31 (ci hw24) ?_
            replace h := H.inl h
            exact h (v6_11.2, v6_11.1, A6_11, k6_11) _ _ rfl (by kernel_rfl) (by kernel_rfl)
          refine (e_lit (e := nSign) (el := 46) [.agg (eSign x21).toArray] ([x21] : List Sign) fun A6_9 k6_9 => ⟨.inr (by kernel_rfl), ?_⟩)
          obtain ⟨v6_2, hv6_2, h⟩ := H.call h
          refine ax 2 rfl (e_cr [.slice A0 (List.length a0) k0] (fun v => v) func37 (fun W S => C.slices_Clone_int_int W hv6_2 ((s_argN h0 q0).out W S)) fun A6_2 k6_2 => ⟨.inr (by kernel_rfl), ?_⟩)
          obtain ⟨y6_5, hy6_5, h⟩ := H.call h
          refine ax 5 rfl (e_app 8 hy6_5 (s_own 6) fun A6_5 k6_5 => ⟨.inr (by kernel_rfl), ?_⟩)
          obtain ⟨v6_7, hv6_7, h⟩ := H.call h
          refine ax 7 rfl (e_cr [.slice A1 (List.length a1) k1] (fun v => v) func39 (fun W S => C.slices_Clone_i_Sign_i_Sign W hv6_7 ((s_argN h1 q1).out W S)) fun A6_7 k6_7 => ⟨.inr (by kernel_rfl), ?_⟩)
          obtain ⟨y6_10, hy6_10, h⟩ := H.call h
          refine ax 10 rfl (e_app 9 hy6_10 (s_own 7) fun A6_10 k6_10 => ⟨.inr (by kernel_rfl), ?_⟩)
          obtain ⟨v6_11, hv6_11, h⟩ := H.call h
          refine ax 11 rfl (e_ch (v := .tuple #[]) 5 (fun (A6_11 : Option Addr) (k6_11 : Nat) => [box g2 26 [.slice Al (List.length c0) kl], box g5 67 [.func (.func 35) #[] #[.pointer (some ⟨g2, 0, none⟩), .pointer (some ⟨g3, 0, none⟩), .pointer (some ⟨g4, 0, none⟩), .pointer (some ⟨g5, 0, none⟩)]], box g3 28 [.slice A6_11 (List.length v6_11.1) k6_11], box g4 3 [.int .i64 v6_11.2], rowN (eI .i64) B 3 (.slice A6_11 (List.length v6_11.1) k6_11) v6_11.1]) [.pointer (some ⟨g2, 0, none⟩), .pointer (some ⟨g3, 0, none⟩), .pointer (some ⟨g4, 0, none⟩), .pointer (some ⟨g5, 0, none⟩)] [.slice A6_5 (List.length y6_5) k6_5, .slice A6_10 (List.length y6_10) k6_10, .pointer (some ⟨g2, 0, none⟩), .pointer (some ⟨g3, 0, none⟩), .pointer (some ⟨g4, 0, none⟩), .pointer (some ⟨g5, 0, none⟩)] func35 (fun W S M2 hM S2 => ih M2 W hv6_11 ((s_argN hl ql).out W S) (ap_old hl ql S hM) ((s_own 8).out W S) (ap_rowH S 8 (by decide) hM) ((s_own 9).out W S) (ap_rowH S 9 (by decide) hM) (Nat.le_trans hB S.size) S2) fun A6_11 k6_11 => ⟨.inl (by kernel_rfl), ?_⟩)
          refine a_done ?_
          refine pick [0, 1, 2, 3, 4, 5, 8, 6, 9, 7] [box g2 26 [.slice Al (List.length c0) kl], box g5 67 [.func (.func 35) #[] #[.pointer (some ⟨g2, 0, none⟩), .pointer (some ⟨g3, 0, none⟩), .pointer (some ⟨g4, 0, none⟩), .pointer (some ⟨g5, 0, none⟩)]], box g3 28 [.slice A6_11 (List.length v6_11.1) k6_11], box g4 3 [.int .i64 v6_11.2], rowN (eI .i64) B 3 (.slice A6_11 (List.length v6_11.1) k6_11) v6_11.1, box g4_3 46 (eSign x21), rowT (eI .i64) w.heap.size 3 (.slice A6_5 (List.length y6_5) k6_5) y6_5, rowT (eI .i64) w.heap.size 3 (.slice A6_4 (List.length ([(j20 : Int)] : List Int)) k6_4) ([(j20 : Int)] : List Int), rowT nSign w.heap.size 46 (.slice A6_10 (List.length y6_10) k6_10) y6_10, rowT nSign w.heap.size 46 (.slice A6_9 (List.length ([x21] : List Sign)) k6_9) ([x21] : List Sign)] ?_
          refine c_inb ?_
          refine r_start ?_
          refine p 2 ?_
          refine rend ?_
          refine c_set 31 (ci hw24) ?_
          replace h := H.inl h
          exact h (v6_11.2, v6_11.1, A6_11, k6_11) _ _ rfl (by kernel_rfl) (by kernel_rfl)
        refine (e_lit (e := nSign) (el := 46) [.agg (eSign x21).toArray] ([x21] : List Sign) fun A6_9 k6_9 => ⟨.inr (by kernel_rfl), ?_⟩)
        refine a_two 2 4 rfl rfl ?_ ?_
        · skip
          obtain ⟨v6_2, hv6_2, h⟩ := H.call h
          refine (e_cr [.slice A0 (List.length a0) k0] (fun v => v) func37 (fun W S => C.slices_Clone_int_int W hv6_2 ((s_argN h0 q0).out W S)) fun A6_2 k6_2 => ⟨.inr (by kernel_rfl), ?_⟩)
          refine ax 4 rfl (e_lit (e := (eI .i64)) (el := 3) [.int .i64 (j20 : Int)] ([(j20 : Int)] : List Int) fun A6_4 k6_4 => ⟨.inr (by kernel_rfl), ?_⟩)
          obtain ⟨y6_5, hy6_5, h⟩ := H.call h
          refine ax 5 rfl (e_app 7 hy6_5 (s_own 8) fun A6_5 k6_5 => ⟨.inr (by kernel_rfl), ?_⟩)
          obtain ⟨v6_7, hv6_7, h⟩ := H.call h
          refine ax 7 rfl (e_cr [.slice A1 (List.length a1) k1] (fun v => v) func39 (fun W S => C.slices_Clone_i_Sign_i_Sign W hv6_7 ((s_argN h1 q1).out W S)) fun A6_7 k6_7 => ⟨.inr (by kernel_rfl), ?_⟩)
          obtain ⟨y6_10, hy6_10, h⟩ := H.call h
          refine ax 10 rfl (e_app 9 hy6_10 (s_own 6) fun A6_10 k6_10 => ⟨.inr (by kernel_rfl), ?_⟩)
          obtain ⟨v6_11, hv6_11, h⟩ := H.call h
          refine ax 11 rfl (e_ch (v := .tuple #[]) 5 (fun (A6_11 : Option Addr) (k6_11 : Nat) => [box g2 26 [.slice Al (List.length c0) kl], box g5 67 [.func (.func 35) #[] #[.pointer (some ⟨g2, 0, none⟩), .pointer (some ⟨g3, 0, none⟩), .pointer (some ⟨g4, 0, none⟩), .pointer (some ⟨g5, 0, none⟩)]], box g3 28 [.slice A6_11 (List.length v6_11.1) k6_11], box g4 3 [.int .i64 v6_11.2], rowN (eI .i64) B 3 (.slice A6_11 (List.length v6_11.1) k6_11) v6_11.1]) [.pointer (some ⟨g2, 0, none⟩), .pointer (some ⟨g3, 0, none⟩), .pointer (some ⟨g4, 0, none⟩), .pointer (some ⟨g5, 0, none⟩)] [.slice A6_5 (List.length y6_5) k6_5, .slice A6_10 (List.length y6_10) k6_10, .pointer (some ⟨g2, 0, none⟩), .pointer (some ⟨g3, 0, none⟩), .pointer (some ⟨g4, 0, none⟩), .pointer (some ⟨g5, 0, none⟩)] func35 (fun W S M2 hM S2 => ih M2 W hv6_11 ((s_argN hl ql).out W S) (ap_old hl ql S hM) ((s_own 7).out W S) (ap_rowH S 7 (by decide) hM) ((s_own 9).out W S) (ap_rowH S 9 (by decide) hM) (Nat.le_trans hB S.size) S2) fun A6_11 k6_11 => ⟨.inl (by kernel_rfl), ?_⟩)
          refine a_done ?_
          refine pick [0, 1, 2, 3, 4, 5, 7, 8, 9, 6] [box g2 26 [.slice Al (List.length c0) kl], box g5 67 [.func (.func 35) #[] #[.pointer (some ⟨g2, 0, none⟩), .pointer (some ⟨g3, 0, none⟩), .pointer (some ⟨g4, 0, none⟩), .pointer (some ⟨g5, 0, none⟩)]], box g3 28 [.slice A6_11 (List.length v6_11.1) k6_11], box g4 3 [.int .i64 v6_11.2], rowN (eI .i64) B 3 (.slice A6_11 (List.length v6_11.1) k6_11) v6_11.1, box g4_3 46 (eSign x21), rowT (eI .i64) w.heap.size 3 (.slice A6_5 (List.length y6_5) k6_5) y6_5, rowT (eI .i64) w.heap.size 3 (.slice A6_4 (List.length ([(j20 : Int)] : List Int)) k6_4) ([(j20 : Int)] : List Int), rowT nSign w.heap.size 46 (.slice A6_10 (List.length y6_10) k6_10) y6_10, rowT nSign w.heap.size 46 (.slice A6_9 (List.length ([x21] : List Sign)) k6_9) ([x21] : List Sign)] ?_
          refine c_inb ?_
          refine r_start ?_
          refine p 2 ?_
          refine rend ?_
          refine c_set 31 (ci hw24) ?_
          replace h := H.inl h
          exact h (v6_11.2, v6_11.1, A6_11, k6_11) _ _ rfl (by kernel_rfl) (by kernel_rfl)
        refine (e_lit (e := (eI .i64)) (el := 3) [.int .i64 (j20 : Int)] ([(j20 : Int)] : List Int) fun A6_4 k6_4 => ⟨.inr (by kernel_rfl), ?_⟩)
        obtain ⟨v6_2, hv6_2, h⟩ := H.call h
        refine ax 2 rfl (e_cr [.slice A0 (List.length a0) k0] (fun v => v) func37 (fun W S => C.slices_Clone_int_int W hv6_2 ((s_argN h0 q0).out W S)) fun A6_2 k6_2 => ⟨.inr (by kernel_rfl), ?_⟩)
        obtain ⟨y6_5, hy6_5, h⟩ := H.call h
        refine ax 5 rfl (e_app 8 hy6_5 (s_own 7) fun A6_5 k6_5 => ⟨.inr (by kernel_rfl), ?_⟩)
        obtain ⟨v6_7, hv6_7, h⟩ := H.call h
        refine ax 7 rfl (e_cr [.slice A1 (List.length a1) k1] (fun v => v) func39 (fun W S => C.slices_Clone_i_Sign_i_Sign W hv6_7 ((s_argN h1 q1).out W S)) fun A6_7 k6_7 => ⟨.inr (by kernel_rfl), ?_⟩)
        obtain ⟨y6_10, hy6_10, h⟩ := H.call h
        refine ax 10 rfl (e_app 9 hy6_10 (s_own 6) fun A6_10 k6_10 => ⟨.inr (by kernel_rfl), ?_⟩)
        obtain ⟨v6_11, hv6_11, h⟩ := H.call h
        refine ax 11 rfl (e_ch (v := .tuple #[]) 5 (fun (A6_11 : Option Addr) (k6_11 : Nat) => [box g2 26 [.slice Al (List.length c0) kl], box g5 67 [.func (.func 35) #[] #[.pointer (some ⟨g2, 0, none⟩), .pointer (some ⟨g3, 0, none⟩), .pointer (some ⟨g4, 0, none⟩), .pointer (some ⟨g5, 0, none⟩)]], box g3 28 [.slice A6_11 (List.length v6_11.1) k6_11], box g4 3 [.int .i64 v6_11.2], rowN (eI .i64) B 3 (.slice A6_11 (List.length v6_11.1) k6_11) v6_11.1]) [.pointer (some ⟨g2, 0, none⟩), .pointer (some ⟨g3, 0, none⟩), .pointer (some ⟨g4, 0, none⟩), .pointer (some ⟨g5, 0, none⟩)] [.slice A6_5 (List.length y6_5) k6_5, .slice A6_10 (List.length y6_10) k6_10, .pointer (some ⟨g2, 0, none⟩), .pointer (some ⟨g3, 0, none⟩), .pointer (some ⟨g4, 0, none⟩), .pointer (some ⟨g5, 0, none⟩)] func35 (fun W S M2 hM S2 => ih M2 W hv6_11 ((s_argN hl ql).out W S) (ap_old hl ql S hM) ((s_own 8).out W S) (ap_rowH S 8 (by decide) hM) ((s_own 9).out W S) (ap_rowH S 9 (by decide) hM) (Nat.le_trans hB S.size) S2) fun A6_11 k6_11 => ⟨.inl (by kernel_rfl), ?_⟩)
        refine a_done ?_
        refine pick [0, 1, 2, 3, 4, 5, 8, 7, 9, 6] [box g2 26 [.slice Al (List.length c0) kl], box g5 67 [.func (.func 35) #[] #[.pointer (some ⟨g2, 0, none⟩), .pointer (some ⟨g3, 0, none⟩), .pointer (some ⟨g4, 0, none⟩), .pointer (some ⟨g5, 0, none⟩)]], box g3 28 [.slice A6_11 (List.length v6_11.1) k6_11], box g4 3 [.int .i64 v6_11.2], rowN (eI .i64) B 3 (.slice A6_11 (List.length v6_11.1) k6_11) v6_11.1, box g4_3 46 (eSign x21), rowT (eI .i64) w.heap.size 3 (.slice A6_5 (List.length y6_5) k6_5) y6_5, rowT (eI .i64) w.heap.size 3 (.slice A6_4 (List.length ([(j20 : Int)] : List Int)) k6_4) ([(j20 : Int)] : List Int), rowT nSign w.heap.size 46 (.slice A6_10 (List.length y6_10) k6_10) y6_10, rowT nSign w.heap.size 46 (.slice A6_9 (List.length ([x21] : List Sign)) k6_9) ([x21] : List Sign)] ?_
        refine c_inb ?_
        refine r_start ?_
        refine p 2 ?_
        refine rend ?_
        refine c_set 31 (ci hw24) ?_
        replace h := H.inl h
        exact h (v6_11.2, v6_11.1, A6_11, k6_11) _ _ rfl (by kernel_rfl) (by kernel_rfl)
      replace h := H.f q25 h
      refine c_skip ?_
      refine c_inb ?_
      refine r_start ?_
      refine p 2 ?_
      refine rend ?_
      refine c_set 31 (ci hw24) ?_
      replace h := H.inl h
      exact h (s11, l12, A13, k14) _ _ rfl (by kernel_rfl) (by kernel_rfl)
    · intro x u q22 h
      obtain ⟨s11, l12, A13, k14⟩ := x
      refine c_seq ?_
      refine r_start ?_
      refine p 1 ?_
      refine rend ?_
      refine c_seq ?_
      refine c_no q22 ?_
      refine cx ?_
      replace h := H.done h
      exact hj19 (s11, l12, A13, k14) _ _ h (by kernel_rfl) (by kernel_rfl)
  intro x u h
  obtain ⟨s15, l16, A17, k18⟩ := x
  replace h := H.done h
  subst h
  exact fin func35 rfl (vs := []) .nil rfl (fun W S => ⟨rfl, _, _, S.take 5⟩)
theorem C.i_SmoothestOrder {fu : Nat} {a0 : (List Sign)} {A0 : Option Addr} {k0 : Nat} {r : ((List Int) × Int × Bool)} (w : World) (h : X.i_SmoothestOrder fu a0 = some r) (h0 : RdT nSign w (.slice A0 (List.length a0) k0) a0) : Calls prog 9 #[.slice A0 (List.length a0) k0] w (RetR (eI .i64) 3 w r.1 (fun v => .tuple #[v, .int .i64 r.2.1, .bool r.2.2])) := by
  refine calls (M := no) (args := [.slice A0 (List.length a0) k0]) func9 rfl ?_
  replace h : H (X.i_SmoothestOrder fu a0) (fun o => o = r) := H.mk h
  unfold X.i_SmoothestOrder at h
  refine c_seq ?_
  refine r_start ?_
  refine xx rfl (x_box [.slice A0 (List.length a0) k0] fun g0_0 => ?_)
  refine p 3 ?_
  refine rend ?_
  refine c_seq ?_
  refine c_seq ?_
  refine r_start ?_
  refine xq rfl (y_load (.slice A0 (List.length a0) k0) 0 g0_0 0) ?_
  obtain ⟨v1_1, hv1_1, h⟩ := H.call h
  refine xq rfl (y_call [.slice A0 (List.length a0) k0] (.bool v1_1) func34 (fun W S => C.i_isMade W hv1_1 ((s_arg h0).out W S))) ?_
  refine p 1 ?_
  refine rend ?_
  refine c_or (!v1_1) (fun q1 => ?_) (fun q1 => ?_)
  · replace h := H.t q1 h
    refine c_seq ?_
    refine r_start ?_
    refine p 3 ?_
    refine rend ?_
    replace h := H.done h
    subst h
    exact ret func9 rfl (vs := [.slice none 0 0, .int .i64 0, .bool false]) (.tmp (by kernel_rfl) (.tmp (by kernel_rfl) (.tmp (by kernel_rfl) .nil))) rfl (fun W S => ⟨none, 0, rfl, World.ownsRow_nil _ _ _ _, S.below⟩)
  replace h := H.f q1 h
  refine c_skip ?_
  refine c_seq ?_
  refine r_start ?_
  refine xx rfl (x_new [.slice none 0 0] fun g3_0 => ?_)
  refine o_nil (eI .i64) 3 ?_
  refine o_nil0 2 ?_
  refine rend ?_
  refine c_seq ?_
  refine r_start ?_
  refine xx rfl (x_new [.int .i64 0] fun g4_0 => ?_)
  refine xx rfl (x_sto 3 g4_0 0 [.int .i64 0] ?_)
  refine rend ?_
  refine c_seq ?_
  refine r_start ?_
  refine xx rfl (x_new [.nilFunc] fun g5_0 => ?_)
  refine rend ?_
  refine c_seq ?_
  refine r_start ?_
  refine p 1 ?_
  refine xx rfl (x_sto 4 g5_0 0 [.func (.func 35) #[] #[.pointer (some ⟨g0_0, 0, none⟩), .pointer (some ⟨g3_0, 0, none⟩), .pointer (some ⟨g4_0, 0, none⟩), .pointer (some ⟨g5_0, 0, none⟩)]] ?_)
  refine rend ?_
  refine c_seq ?_
  refine r_start ?_
  refine xq rfl (y_load (.func (.func 35) #[] #[.pointer (some ⟨g0_0, 0, none⟩), .pointer (some ⟨g3_0, 0, none⟩), .pointer (some ⟨g4_0, 0, none⟩), .pointer (some ⟨g5_0, 0, none⟩)]) 4 g5_0 0) ?_
  refine pickO [0, 4, 1, 3, 2] [box g0_0 26 [.slice A0 (List.length a0) k0], box g5_0 67 [.func (.func 35) #[] #[.pointer (some ⟨g0_0, 0, none⟩), .pointer (some ⟨g3_0, 0, none⟩), .pointer (some ⟨g4_0, 0, none⟩), .pointer (some ⟨g5_0, 0, none⟩)]], box g3_0 28 [.slice none 0 0], box g4_0 3 [.int .i64 0], rowN (eI .i64) w.heap.size 3 (.slice none 0 0) ([] : List Int)] ?_
  obtain ⟨v7_1, hv7_1, h⟩ := H.call h
  refine xx rfl (e_ch (v := .tuple #[]) 5 (fun (A7_1 : Option Addr) (k7_1 : Nat) => [box g0_0 26 [.slice A0 (List.length a0) k0], box g5_0 67 [.func (.func 35) #[] #[.pointer (some ⟨g0_0, 0, none⟩), .pointer (some ⟨g3_0, 0, none⟩), .pointer (some ⟨g4_0, 0, none⟩), .pointer (some ⟨g5_0, 0, none⟩)]], box g3_0 28 [.slice A7_1 (List.length v7_1.1) k7_1], box g4_0 3 [.int .i64 v7_1.2], rowN (eI .i64) w.heap.size 3 (.slice A7_1 (List.length v7_1.1) k7_1) v7_1.1]) [.pointer (some ⟨g0_0, 0, none⟩), .pointer (some ⟨g3_0, 0, none⟩), .pointer (some ⟨g4_0, 0, none⟩), .pointer (some ⟨g5_0, 0, none⟩)] [.slice none 0 0, .slice none 0 0, .pointer (some ⟨g0_0, 0, none⟩), .pointer (some ⟨g3_0, 0, none⟩), .pointer (some ⟨g4_0, 0, none⟩), .pointer (some ⟨g5_0, 0, none⟩)] func35 (fun W S M2 hM S2 => C.i_SmoothestOrder_1 (b0 := ([] : List Int)) (z0 := 0) (a0 := ([] : List _)) (A0 := none) (k0 := 0) (a1 := ([] : List _)) (A1 := none) (k1 := 0) (Ab := none) (kb := 0) (B := w.heap.size) M2 W hv7_1 ((s_arg h0).out W S) (ap_old (M := no) h0 (fun _ _ _ h => h) S hM) (s_nil.out W S) ap_nilM (s_nil.out W S) ap_nilM S.size S2) fun A7_1 k7_1 => ?_)
  refine o_ofN 4 ?_
  refine rend ?_
  refine c_seq ?_
  refine as_start 5 5 ?_
  refine aq 0 rfl (y_load (.slice A7_1 (List.length v7_1.1) k7_1) 2 g3_0 0) ?_
  refine aq 1 rfl (y_load (.int .i64 v7_1.2) 3 g4_0 0) ?_
  refine ap 2 3 ?_
  refine a_done ?_
  replace h := H.done h
  subst h
  exact ret func9 rfl (vs := [.slice A7_1 (List.length v7_1.1) k7_1, .int .i64 v7_1.2, .bool true]) (.tmp (by kernel_rfl) (.tmp (by kernel_rfl) (.tmp (by kernel_rfl) .nil))) rfl (fun W S => ⟨_, _, rfl, S.row 4, S.below⟩)
theorem C.s_paList {fu : Nat} {a0 : (List Sign)} {A0 : Option Addr} {k0 : Nat} {r : Bool} (w : World) (h : X.s_paList fu a0 = some r) (h0 : RdT nSign w (.slice A0 (List.length a0) k0) a0) : Calls prog 78 #[.slice A0 (List.length a0) k0] w (Ret w (.bool r)) := by
  refine calls (M := no) (args := [.slice A0 (List.length a0) k0]) func78 rfl ?_
  replace h : H (X.s_paList fu a0) (fun o => o = r) := H.mk h
  unfold X.s_paList at h
  refine c_seq ?_
  refine r_start ?_
  refine p 1 ?_
  refine rend ?_
  refine c_seq ?_
  refine c_seq ?_
  refine r_start ?_
  refine p 3 ?_
  refine rend ?_
  refine c_block ?_
  refine joinE (X := Unit) 0 (H.or h) (fun (x : Unit) => x) (fun _ => []) (fun _ u => (.slice A0 (List.length a0) k0 :: (jk u 1 17 []))) (fun h hj1 => ?_) ?_
  · skip
    refine rangeR (X := Unit) (s_arg h0) (fun (x : Unit) => x) (fun _ => []) (fun (j2 : Nat) _ u => (.slice A0 (List.length a0) k0 :: (jk u 1 4 (.slice A0 (List.length a0) k0 :: .int .i64 (List.length a0 : Int) :: .int .i64 (j2 : Int) :: (jk u 8 10 []))))) () h (by kernel_rfl) (by kernel_rfl) ?_ ?_
    · intro j2 x u x3 q4 hg5 hw6 h
      refine c_seq ?_
      refine r_start ?_
      refine p 1 ?_
      refine rend ?_
      refine c_seq ?_
      refine c_yes q4 ?_
      refine c_skip ?_
      refine c_seq ?_
      refine c_block ?_
      refine c_seq ?_
      refine r_start ?_
      refine xq rfl (y_idx (e := nSign) (el := 46) hg5 (s_arg h0)) ?_
      refine xq rfl (y_el (e := nSign) 0 (.agg (eSign x3).toArray) hg5 (s_arg h0)) ?_
      refine xx rfl (x_new (eSign zSign) fun g3_2 => ?_)
      refine xx rfl (x_sto 0 g3_2 0 (eSign x3) ?_)
      refine rend ?_
      refine c_seq ?_
      refine r_start ?_
      refine xq rfl (y_load (.agg (eSign x3).toArray) 0 g3_2 0) ?_
      obtain ⟨v4_1, hv4_1, h⟩ := H.call h
      refine xq rfl (y_call [.agg (eSign x3).toArray] (.bool v4_1) func61 (fun W S => C.s_siGood W hv4_1)) ?_
      refine p 1 ?_
      refine rend ?_
      refine c_or (!v4_1) (fun q7 => ?_) (fun q7 => ?_)
      · replace h := H.t q7 h
        refine c_seq ?_
        refine r_start ?_
        refine p 1 ?_
        refine rend ?_
        replace h := H.inr h
        replace h := H.done h
        subst h
        exact ret func78 rfl (vs := [.bool false]) (.tmp (by kernel_rfl) .nil) rfl (fun W S => ⟨rfl, S.below⟩)
      replace h := H.f q7 h
      refine c_skip ?_
      refine c_inb ?_
      refine r_start ?_
      refine p 2 ?_
      refine rend ?_
      refine c_set 7 (ci hw6) ?_
      replace h := H.inl h
      exact h () _ _ rfl (by kernel_rfl) (by kernel_rfl)
    · intro x u q4 h
      refine c_seq ?_
      refine r_start ?_
      refine p 1 ?_
      refine rend ?_
      refine c_seq ?_
      refine c_no q4 ?_
      refine cx ?_
      replace h := H.done h
      exact hj1 () _ _ h (by kernel_rfl) (by kernel_rfl)
  intro x u h
  refine c_seq ?_
  refine r_start ?_
  refine p 4 ?_
  refine rend ?_
  replace h := H.done h
  subst h
  exact ret func78 rfl (vs := [.bool (decide ((List.length a0 : Int) ≤ 20))]) (.tmp (by kernel_rfl) .nil) rfl (fun W S => ⟨rfl, S.below⟩)
theorem C.s_cmGood {fu : Nat} {a0 : (List Sign)} {A0 : Option Addr} {k0 : Nat} {r : Bool} (w : World) (h : X.s_cmGood fu a0 = some r) (h0 : RdT nSign w (.slice A0 (List.length a0) k0) a0) : Calls prog 40 #[.slice A0 (List.length a0) k0] w (Ret w (.bool r)) := by
  refine calls (M := no) (args := [.slice A0 (List.length a0) k0]) func40 rfl ?_
  replace h : H (X.s_cmGood fu a0) (fun o => o = r) := H.mk h
  unfold X.s_cmGood at h
  refine c_seq ?_
  refine r_start ?_
  refine p 1 ?_
  refine rend ?_
  refine c_seq ?_
  refine r_start ?_
  refine p 2 ?_
  obtain ⟨v1_2, hv1_2, h⟩ := H.call h
  refine xq rfl (y_call [.int .i64 (List.length a0 : Int), .int .i64 2, .int .i64 4] (.bool v1_2) func77 (fun W S => C.s_l1In W hv1_2)) ?_
  refine p 1 ?_
  refine br v1_2 (fun q1 => ?_) (fun q1 => ?_)
  · replace h := H.t q1 h
    refine o_set 6 (congrArg Value.bool q1) ?_
    refine p 1 ?_
    obtain ⟨v1_5, hv1_5, h⟩ := H.call h
    refine xq rfl (y_call [.slice A0 (List.length a0) k0] (.bool v1_5) func78 (fun W S => C.s_paList W hv1_5 ((s_arg h0).out W S))) ?_
    refine p 2 ?_
    refine rend ?_
    replace h := H.done h
    subst h
    exact ret func40 rfl (vs := [.bool v1_5]) (.tmp (by kernel_rfl) .nil) rfl (fun W S => ⟨rfl, S.below⟩)
  replace h := H.f q1 h
  refine o_set 6 (congrArg Value.bool q1) ?_
  refine p 4 ?_
  refine rend ?_
  replace h := H.done h
  subst h
  exact ret func40 rfl (vs := [.bool false]) (.tmp (by kernel_rfl) .nil) rfl (fun W S => ⟨rfl, S.below⟩)
theorem C.s_l1Has {a0 : (List Int)} {A0 : Option Addr} {k0 : Nat} {a1 : Int} {r : Bool} (w : World) (h : X.s_l1Has a0 a1 = some r) (h0 : RdT (eI .i64) w (.slice A0 (List.length a0) k0) a0) : Calls prog 79 #[.slice A0 (List.length a0) k0, .int .i64 a1] w (Ret w (.bool r)) := by
  refine calls (M := no) (args := [.slice A0 (List.length a0) k0, .int .i64 a1]) func79 rfl ?_
  replace h : H (X.s_l1Has a0 a1) (fun o => o = r) := H.mk h
  unfold X.s_l1Has at h
  refine c_seq ?_
  refine r_start ?_
  refine p 1 ?_
  refine rend ?_
  refine c_seq ?_
  refine c_seq ?_
  refine r_start ?_
  refine p 3 ?_
  refine rend ?_
  refine c_block ?_
  refine joinE (X := Unit) 0 (H.or h) (fun (x : Unit) => x) (fun _ => []) (fun _ u => (jk u 0 17 [])) (fun h hj1 => ?_) ?_
  · skip
    refine rangeR (X := Unit) (s_arg h0) (fun (x : Unit) => x) (fun _ => []) (fun (j2 : Nat) _ u => (jk u 0 1 (.int .i64 a1 :: (jk u 2 5 (.slice A0 (List.length a0) k0 :: .int .i64 (List.length a0 : Int) :: .int .i64 (j2 : Int) :: (jk u 10 7 [])))))) () h (by kernel_rfl) (by kernel_rfl) ?_ ?_
    · intro j2 x u x3 q4 hg5 hw6 h
      refine c_seq ?_
      refine r_start ?_
      refine p 1 ?_
      refine rend ?_
      refine c_seq ?_
      refine c_yes q4 ?_
      refine c_skip ?_
      refine c_seq ?_
      refine c_block ?_
      refine c_seq ?_
      refine r_start ?_
      refine xq rfl (y_idx (e := (eI .i64)) (el := 3) hg5 (s_arg h0)) ?_
      refine xq rfl (y_el (e := (eI .i64)) 0 (.int .i64 x3) hg5 (s_arg h0)) ?_
      refine p 1 ?_
      refine rend ?_
      refine c_seq ?_
      refine r_start ?_
      refine p 3 ?_
      refine rend ?_
      refine c_or (x3 == a1) (fun q7 => ?_) (fun q7 => ?_)
      · replace h := H.t q7 h
        refine c_seq ?_
        refine r_start ?_
        refine p 1 ?_
        refine rend ?_
        replace h := H.inr h
        replace h := H.done h
        subst h
        exact ret func79 rfl (vs := [.bool true]) (.tmp (by kernel_rfl) .nil) rfl (fun W S => ⟨rfl, S.below⟩)
      replace h := H.f q7 h
      refine c_skip ?_
      refine c_inb ?_
      refine r_start ?_
      refine p 2 ?_
      refine rend ?_
      refine c_set 9 (ci hw6) ?_
      replace h := H.inl h
      exact h () _ _ rfl (by kernel_rfl) (by kernel_rfl)
    · intro x u q4 h
      refine c_seq ?_
      refine r_start ?_
      refine p 1 ?_
      refine rend ?_
      refine c_seq ?_
      refine c_no q4 ?_
      refine cx ?_
      replace h := H.done h
      exact hj1 () _ _ h (by kernel_rfl) (by kernel_rfl)
  intro x u h
  refine c_seq ?_
  refine r_start ?_
  refine p 1 ?_
  refine rend ?_
  replace h := H.done h
  subst h
  exact ret func79 rfl (vs := [.bool false]) (.tmp (by kernel_rfl) .nil) rfl (fun W S => ⟨rfl, S.below⟩)
theorem C.s_l1Own {a0 : (List Int)} {A0 : Option Addr} {k0 : Nat} {r : (List Int)} (w : World) (h : X.s_l1Own a0 = some r) (h0 : RdT (eI .i64) w (.slice A0 (List.length a0) k0) a0) : Calls prog 80 #[.slice A0 (List.length a0) k0] w (RetR (eI .i64) 3 w r (fun v => v)) := by
  refine calls (M := no) (args := [.slice A0 (List.length a0) k0]) func80 rfl ?_
  replace h : H (X.s_l1Own a0) (fun o => o = r) := H.mk h
  unfold X.s_l1Own at h
  refine c_seq ?_
  refine r_start ?_
  refine p 1 ?_
  refine rend ?_
  refine c_seq ?_
  refine r_start ?_
  refine xx rfl (e_lit (e := (eI .i64)) (el := 3) [] ([] : List Int) fun A1_0 k1_0 => ?_)
  refine p 1 ?_
  obtain ⟨y1_2, hy1_2, h⟩ := H.call h
  refine xx rfl (e_app 0 hy1_2 (s_arg h0) fun A1_2 k1_2 => ?_)
  refine p 1 ?_
  refine rend ?_
  replace h := H.done h
  subst h
  exact ret func80 rfl (vs := [.slice A1_2 (List.length y1_2) k1_2]) (.tmp (by kernel_rfl) .nil) rfl (fun W S => ⟨_, _, rfl, S.row 0, S.below⟩)
theorem C.s_cmOrders {fu : Nat} {a0 : Int} {a1 : (List Int)} {A1 : Option Addr} {k1 : Nat} {r : (List (List Int))} (w : World) (h : X.s_cmOrders fu a0 a1 = some r) (h1 : RdT (eI .i64) w (.slice A1 (List.length a1) k1) a1) : Calls prog 41 #[.int .i64 a0, .slice A1 (List.length a1) k1] w (RetO (eI .i64) 28 (Value.slice A1 (List.length a1) k1).ownBlock w r) := by
  induction fu generalizing a0 a1 A1 k1 r w with
  | zero => cases h
  | succ fu ih =>
  refine calls (M := no) (args := [.int .i64 a0, .slice A1 (List.length a1) k1]) func41 rfl ?_
  replace h : H (X.s_cmOrders (fu + 1) a0 a1) (fun o => o = r) := H.mk h
  rw [X.s_cmOrders] at h
  refine c_seq ?_
  refine r_start ?_
  refine p 1 ?_
  refine rend ?_
  refine c_seq ?_
  refine c_seq ?_
  refine r_start ?_
  refine p 4 ?_
  refine rend ?_
  refine c_or ((List.length a1 : Int) == a0) (fun q1 => ?_) (fun q1 => ?_)
  · replace h := H.t q1 h
    refine c_seq ?_
    refine r_start ?_
    refine p 1 ?_
    refine xx rfl (e_lit (e := eSl) (el := 28) [.slice A1 (List.length a1) k1] [(⟨A1, List.length a1, k1⟩ : Sl)] fun A2_1 k2_1 => ?_)
    refine p 1 ?_
    refine rend ?_
    replace h := H.done h
    subst h
    exact ret func41 rfl (vs := [.slice A2_1 (List.length [(⟨A1, List.length a1, k1⟩ : Sl)]) k2_1]) (.tmp (by kernel_rfl) .nil) rfl (fun W S => S.retO1 h1 0)
  replace h := H.f q1 h
  refine c_skip ?_
  refine c_seq ?_
  refine r_start ?_
  refine p 1 ?_
  refine rend ?_
  refine c_seq ?_
  refine c_seq ?_
  refine r_start ?_
  refine p 1 ?_
  refine rend ?_
  refine c_block ?_
  refine c_nil eSl 28 ?_
  refine c_rdi (eI .i64) ?_
  refine joinH (X := ((List (List Int)) × List Sl × Option Addr × Nat)) 0 (H.bnd h) (fun ⟨l10, u7, A8, k9⟩ => l10) (fun ⟨l10, u7, A8, k9⟩ => [rowT eSl w.heap.size 28 (.slice A8 (List.length u7) k9) u7, rdis (eI .i64) u7 l10]) (fun ⟨l10, u7, A8, k9⟩ u => (jk u 0 5 (.slice A8 (List.length u7) k9 :: (jk u 6 26 [])))) (fun h hj11 => ?_) ?_
  · skip
    refine loopR (X := (Int × (List (List Int)) × List Sl × Option Addr × Nat)) (fun ⟨n2, l6, u3, A4, k5⟩ => (n2, l6)) (fun ⟨n2, l6, u3, A4, k5⟩ => [rowT eSl w.heap.size 28 (.slice A4 (List.length u3) k5) u3, rdis (eI .i64) u3 l6]) (fun ⟨n2, l6, u3, A4, k5⟩ u => (.int .i64 a0 :: .slice A1 (List.length a1) k1 :: (jk u 2 3 (.slice A4 (List.length u3) k5 :: .int .i64 n2 :: (jk u 7 25 []))))) (0, ([] : List (List Int)), ([] : List Sl), none, 0) h (by kernel_rfl) (by kernel_rfl) ?_
    intro x u h
    obtain ⟨n2, l6, u3, A4, k5⟩ := x
    refine c_seq ?_
    refine c_seq ?_
    refine r_start ?_
    refine p 3 ?_
    refine rend ?_
    refine c_or (decide (n2 < a0)) (fun q12 => ?_) (fun q12 => ?_)
    · replace h := H.t q12 h
      refine c_skip ?_
      refine c_seq ?_
      refine c_block ?_
      refine c_seq ?_
      refine r_start ?_
      refine p 2 ?_
      obtain ⟨v7_2, hv7_2, h⟩ := H.call h
      refine xq rfl (y_call [.slice A1 (List.length a1) k1, .int .i64 n2] (.bool v7_2) func79 (fun W S => C.s_l1Has W hv7_2 ((s_arg h1).out W S))) ?_
      refine p 1 ?_
      refine rend ?_
      refine c_or (!v7_2) (fun q13 => ?_) (fun q13 => ?_)
      · replace h := H.t q13 h
        refine r_start ?_
        refine p 3 ?_
        obtain ⟨v8_3, hv8_3, h⟩ := H.call h
        refine xx rfl (e_cr [.slice A1 (List.length a1) k1] (fun v => v) func80 (fun W S => C.s_l1Own W hv8_3 ((s_arg h1).out W S)) fun A8_3 k8_3 => ?_)
        refine p 1 ?_
        refine xx rfl (e_lit (e := (eI .i64)) (el := 3) [.int .i64 n2] ([n2] : List Int) fun A8_5 k8_5 => ?_)
        obtain ⟨y8_6, hy8_6, h⟩ := H.call h
        refine xx rfl (e_app 2 hy8_6 (s_own 3) fun A8_6 k8_6 => ?_)
        obtain ⟨v8_7, hv8_7, h⟩ := H.call h
        refine pickO [0, 1, 3, 2] [rowT eSl w.heap.size 28 (.slice A4 (List.length u3) k5) u3, rdis (eI .i64) u3 l6, rowT (eI .i64) w.heap.size 3 (.slice A8_5 (List.length ([n2] : List Int)) k8_5) ([n2] : List Int), rowT (eI .i64) w.heap.size 3 (.slice A8_6 (List.length y8_6) k8_6) y8_6] ?_
        refine xx rfl (e_cro [rowT eSl w.heap.size 28 (.slice A4 (List.length u3) k5) u3, rdis (eI .i64) u3 l6, rowT (eI .i64) w.heap.size 3 (.slice A8_5 (List.length ([n2] : List Int)) k8_5) ([n2] : List Int)] (rowT (eI .i64) w.heap.size 3 (.slice A8_6 (List.length y8_6) k8_6) y8_6) [.int .i64 a0, .slice A8_6 (List.length y8_6) k8_6] func41 (fun W S => ih W hv8_7 ((s_own 3).out W S)) (fun k hk => hk) fun A8_7 k8_7 u8_7 => ?_)
        obtain ⟨y8_8, hy8_8, h⟩ := H.call h
        refine o_fact (f_len (i_ownR 1)) fun hl1 => ?_
        refine o_fact (f_len (i_ownR 4)) fun hl2 => ?_
        obtain ⟨hs1, hq1⟩ := appD_sl hy8_8 hl1 hl2
        refine xx rfl (e_app (e := eSl) 0 hs1 (s_own 3) fun A8_8 k8_8 => ?_)
        refine mergeR (e := (eI .i64)) (us := u3) (vs := u8_7) (ls := l6) (ms := v8_7) [0, 2, 1, 4] [rowT eSl w.heap.size 28 (.slice A8_8 (List.length (u3 ++ u8_7)) k8_8) (u3 ++ u8_7), rowT (eI .i64) w.heap.size 3 (.slice A8_5 (List.length ([n2] : List Int)) k8_5) ([n2] : List Int)] hq1 ?_
        refine p 1 ?_
        refine rend ?_
        refine c_inb ?_
        refine r_start ?_
        refine p 3 ?_
        refine rend ?_
        refine pick [0, 2] [rowT eSl w.heap.size 28 (.slice A8_8 (List.length (u3 ++ u8_7)) k8_8) (u3 ++ u8_7), rdis (eI .i64) (u3 ++ u8_7) y8_8] ?_
        replace h := H.inl h
        exact h ((wr (n2 + 1)), y8_8, (u3 ++ u8_7), A8_8, k8_8) _ _ rfl (by kernel_rfl) (by kernel_rfl)
      replace h := H.f q13 h
      refine c_skip ?_
      refine c_inb ?_
      refine r_start ?_
      refine p 3 ?_
      refine rend ?_
      replace h := H.inl h
      exact h ((wr (n2 + 1)), l6, u3, A4, k5) _ _ rfl (by kernel_rfl) (by kernel_rfl)
    replace h := H.f q12 h
    refine cx ?_
    replace h := H.inr h
    exact hj11 (l6, u3, A4, k5) _ _ h (by kernel_rfl) (by kernel_rfl)
  intro x u h
  obtain ⟨l10, u7, A8, k9⟩ := x
  refine c_seq ?_
  refine r_start ?_
  refine p 2 ?_
  refine rend ?_
  replace h := H.done h
  subst h
  exact ret func41 rfl (vs := [.slice A8 (List.length u7) k9]) (.tmp (by kernel_rfl) .nil) rfl (fun W S => S.retO 0 1 (by decide))
theorem C.s_l1Most {a0 : Int} {a1 : Int} {r : Int} (w : World) (h : X.s_l1Most a0 a1 = some r) : Calls prog 62 #[.int .i64 a0, .int .i64 a1] w (Ret w (.int .i64 r)) := by
  refine calls (M := no) (args := [.int .i64 a0, .int .i64 a1]) func62 rfl ?_
  replace h : H (X.s_l1Most a0 a1) (fun o => o = r) := H.mk h
  unfold X.s_l1Most at h
  refine c_seq ?_
  refine r_start ?_
  refine p 1 ?_
  refine rend ?_
  refine c_seq ?_
  refine c_seq ?_
  refine r_start ?_
  refine p 3 ?_
  refine rend ?_
  refine c_or (decide (a0 > a1)) (fun q1 => ?_) (fun q1 => ?_)
  · replace h := H.t q1 h
    refine c_seq ?_
    refine r_start ?_
    refine p 2 ?_
    refine rend ?_
    replace h := H.done h
    subst h
    exact ret func62 rfl (vs := [.int .i64 a0]) (.tmp (by kernel_rfl) .nil) rfl (fun W S => ⟨rfl, S.below⟩)
  replace h := H.f q1 h
  refine c_skip ?_
  refine c_seq ?_
  refine r_start ?_
  refine p 2 ?_
  refine rend ?_
  replace h := H.done h
  subst h
  exact ret func62 rfl (vs := [.int .i64 a1]) (.tmp (by kernel_rfl) .nil) rfl (fun W S => ⟨rfl, S.below⟩)
theorem C.s_l1Abs {a0 : Int} {r : Int} (w : World) (h : X.s_l1Abs a0 = some r) : Calls prog 127 #[.int .i64 a0] w (Ret w (.int .i64 r)) := by
  refine calls (M := no) (args := [.int .i64 a0]) func127 rfl ?_
  replace h : H (X.s_l1Abs a0) (fun o => o = r) := H.mk h
  unfold X.s_l1Abs at h
  refine c_seq ?_
  refine r_start ?_
  refine p 1 ?_
  refine rend ?_
  refine c_seq ?_
  refine r_start ?_
  refine p 3 ?_
  obtain ⟨v1_3, hv1_3, h⟩ := H.call h
  refine xq rfl (y_call [.int .i64 a0, .int .i64 (wr (0 - a0))] (.int .i64 v1_3) func62 (fun W S => C.s_l1Most W hv1_3)) ?_
  refine p 1 ?_
  refine rend ?_
  replace h := H.done h
  subst h
  exact ret func127 rfl (vs := [.int .i64 v1_3]) (.tmp (by kernel_rfl) .nil) rfl (fun W S => ⟨rfl, S.below⟩)
theorem C.s_plFar {a0 : Place} {a1 : Place} {r : Int} (w : World) (h : X.s_plFar a0 a1 = some r) : Calls prog 81 #[.agg (ePlace a0).toArray, .agg (ePlace a1).toArray] w (Ret w (.int .i64 r)) := by
  refine calls (M := no) (args := [.agg (ePlace a0).toArray, .agg (ePlace a1).toArray]) func81 rfl ?_
  replace h : H (X.s_plFar a0 a1) (fun o => o = r) := H.mk h
  unfold X.s_plFar at h
  refine c_seq ?_
  refine r_start ?_
  refine xx rfl (x_box (ePlace a0) fun g0_0 => ?_)
  refine xx rfl (x_box (ePlace a1) fun g0_1 => ?_)
  refine p 1 ?_
  refine rend ?_
  refine c_seq ?_
  refine r_start ?_
  refine p 1 ?_
  refine xq rfl (y_load (.int .i64 a0.Side) 0 g0_0 1) ?_
  refine p 1 ?_
  refine xq rfl (y_load (.int .i64 a1.Side) 1 g0_1 1) ?_
  refine p 1 ?_
  obtain ⟨v1_5, hv1_5, h⟩ := H.call h
  refine xq rfl (y_call [.int .i64 (wr (a0.Side - a1.Side))] (.int .i64 v1_5) func127 (fun W S => C.s_l1Abs W hv1_5)) ?_
  refine p 1 ?_
  refine rend ?_
  refine c_seq ?_
  refine c_seq ?_
  refine r_start ?_
  refine p 1 ?_
  refine xq rfl (y_load (.bool a0.Contact) 0 g0_0 2) ?_
  refine p 1 ?_
  refine xq rfl (y_load (.bool a1.Contact) 1 g0_1 2) ?_
  refine p 1 ?_
  refine rend ?_
  refine c_or (!(a0.Contact == a1.Contact)) (fun q1 => ?_) (fun q1 => ?_)
  · replace h := H.t q1 h
    refine r_start ?_
    refine p 3 ?_
    refine rend ?_
    refine c_seq ?_
    refine c_seq ?_
    refine r_start ?_
    refine p 1 ?_
    refine xq rfl (y_load (.int .i64 a0.Region) 0 g0_0 0) ?_
    refine p 2 ?_
    refine xq rfl (y_load (.int .i64 a1.Region) 1 g0_1 0) ?_
    refine p 2 ?_
    refine rend ?_
    refine c_or (!((a0.Region == 0) == (a1.Region == 0))) (fun q2 => ?_) (fun q2 => ?_)
    · replace h := H.t q2 h
      refine c_seq ?_
      refine r_start ?_
      refine p 3 ?_
      refine rend ?_
      replace h := H.done h
      subst h
      exact ret func81 rfl (vs := [.int .i64 (wr ((wr (v1_5 + 1)) + 4))]) (.tmp (by kernel_rfl) .nil) rfl (fun W S => ⟨rfl, S.below⟩)
    replace h := H.f q2 h
    refine c_skip ?_
    refine c_seq ?_
    refine r_start ?_
    refine p 2 ?_
    refine xq rfl (y_load (.int .i64 a0.Region) 0 g0_0 0) ?_
    refine p 1 ?_
    refine xq rfl (y_load (.int .i64 a1.Region) 1 g0_1 0) ?_
    refine p 1 ?_
    obtain ⟨v6_6, hv6_6, h⟩ := H.call h
    refine xq rfl (y_call [.int .i64 (wr (a0.Region - a1.Region))] (.int .i64 v6_6) func127 (fun W S => C.s_l1Abs W hv6_6)) ?_
    refine p 2 ?_
    refine rend ?_
    replace h := H.done h
    subst h
    exact ret func81 rfl (vs := [.int .i64 (wr ((wr (v1_5 + 1)) + v6_6))]) (.tmp (by kernel_rfl) .nil) rfl (fun W S => ⟨rfl, S.below⟩)
  replace h := H.f q1 h
  refine c_skip ?_
  refine c_seq ?_
  refine c_seq ?_
  refine r_start ?_
  refine p 1 ?_
  refine xq rfl (y_load (.int .i64 a0.Region) 0 g0_0 0) ?_
  refine p 2 ?_
  refine xq rfl (y_load (.int .i64 a1.Region) 1 g0_1 0) ?_
  refine p 2 ?_
  refine rend ?_
  refine c_or (!((a0.Region == 0) == (a1.Region == 0))) (fun q3 => ?_) (fun q3 => ?_)
  · replace h := H.t q3 h
    refine c_seq ?_
    refine r_start ?_
    refine p 3 ?_
    refine rend ?_
    replace h := H.done h
    subst h
    exact ret func81 rfl (vs := [.int .i64 (wr (v1_5 + 4))]) (.tmp (by kernel_rfl) .nil) rfl (fun W S => ⟨rfl, S.below⟩)
  replace h := H.f q3 h
  refine c_skip ?_
  refine c_seq ?_
  refine r_start ?_
  refine p 2 ?_
  refine xq rfl (y_load (.int .i64 a0.Region) 0 g0_0 0) ?_
  refine p 1 ?_
  refine xq rfl (y_load (.int .i64 a1.Region) 1 g0_1 0) ?_
  refine p 1 ?_
  obtain ⟨v6_6, hv6_6, h⟩ := H.call h
  refine xq rfl (y_call [.int .i64 (wr (a0.Region - a1.Region))] (.int .i64 v6_6) func127 (fun W S => C.s_l1Abs W hv6_6)) ?_
  refine p 2 ?_
  refine rend ?_
  replace h := H.done h
  subst h
  exact ret func81 rfl (vs := [.int .i64 (wr (v1_5 + v6_6))]) (.tmp (by kernel_rfl) .nil) rfl (fun W S => ⟨rfl, S.below⟩)
theorem C.s_cmGap {a0 : Sign} {a1 : Sign} {r : Int} (w : World) (h : X.s_cmGap a0 a1 = some r) : Calls prog 42 #[.agg (eSign a0).toArray, .agg (eSign a1).toArray] w (Ret w (.int .i64 r)) := by
  refine calls (M := no) (args := [.agg (eSign a0).toArray, .agg (eSign a1).toArray]) func42 rfl ?_
  replace h : H (X.s_cmGap a0 a1) (fun o => o = r) := H.mk h
  unfold X.s_cmGap at h
  refine c_seq ?_
  refine r_start ?_
  refine xx rfl (x_box (eSign a0) fun g0_0 => ?_)
  refine xx rfl (x_box (eSign a1) fun g0_1 => ?_)
  refine p 1 ?_
  refine rend ?_
  refine c_seq ?_
  refine r_start ?_
  refine p 2 ?_
  refine xq rfl (y_load (.agg (ePlace a0.Main.Place).toArray) 0 g0_0 8) ?_
  refine p 2 ?_
  refine xq rfl (y_load (.agg (ePlace a1.Main.Place).toArray) 1 g0_1 8) ?_
  obtain ⟨v1_6, hv1_6, h⟩ := H.call h
  refine xq rfl (y_call [.agg (ePlace a0.Main.Place).toArray, .agg (ePlace a1.Main.Place).toArray] (.int .i64 v1_6) func81 (fun W S => C.s_plFar W hv1_6)) ?_
  refine p 1 ?_
  refine rend ?_
  refine c_seq ?_
  refine c_seq ?_
  refine r_start ?_
  refine p 1 ?_
  refine xq rfl (y_load (.bool a0.Two) 0 g0_0 13) ?_
  refine p 1 ?_
  refine xq rfl (y_load (.bool a1.Two) 1 g0_1 13) ?_
  refine p 1 ?_
  refine rend ?_
  refine c_or (!(a0.Two == a1.Two)) (fun q1 => ?_) (fun q1 => ?_)
  · replace h := H.t q1 h
    refine r_start ?_
    refine p 3 ?_
    refine rend ?_
    refine c_seq ?_
    refine r_start ?_
    refine p 2 ?_
    refine rend ?_
    replace h := H.done h
    subst h
    exact ret func42 rfl (vs := [.int .i64 (wr (v1_6 + 1))]) (.tmp (by kernel_rfl) .nil) rfl (fun W S => ⟨rfl, S.below⟩)
  replace h := H.f q1 h
  refine c_skip ?_
  refine c_seq ?_
  refine r_start ?_
  refine p 2 ?_
  refine rend ?_
  replace h := H.done h
  subst h
  exact ret func42 rfl (vs := [.int .i64 v1_6]) (.tmp (by kernel_rfl) .nil) rfl (fun W S => ⟨rfl, S.below⟩)
theorem C.s_SmoothestOrder {fu : Nat} {a0 : (List Sign)} {A0 : Option Addr} {k0 : Nat} {r : ((List Int) × Int × Bool)} (w : World) (h : X.s_SmoothestOrder fu a0 = some r) (h0 : RdT nSign w (.slice A0 (List.length a0) k0) a0) : Calls prog 10 #[.slice A0 (List.length a0) k0] w (RetRO (eI .i64) w r.1 (fun v => .tuple #[v, .int .i64 r.2.1, .bool r.2.2])) := by
  refine calls (M := no) (args := [.slice A0 (List.length a0) k0]) func10 rfl ?_
  replace h : H (X.s_SmoothestOrder fu a0) (fun o => o = r) := H.mk h
  unfold X.s_SmoothestOrder at h
  refine c_seq ?_
  refine r_start ?_
  refine p 3 ?_
  refine rend ?_
  refine c_seq ?_
  refine c_seq ?_
  refine r_start ?_
  refine p 1 ?_
  obtain ⟨v1_1, hv1_1, h⟩ := H.call h
  refine xq rfl (y_call [.slice A0 (List.length a0) k0] (.bool v1_1) func40 (fun W S => C.s_cmGood W hv1_1 ((s_arg h0).out W S))) ?_
  refine p 1 ?_
  refine rend ?_
  refine c_or (!v1_1) (fun q1 => ?_) (fun q1 => ?_)
  · replace h := H.t q1 h
    refine c_seq ?_
    refine r_start ?_
    refine p 3 ?_
    refine rend ?_
    replace h := H.done h
    subst h
    exact ret func10 rfl (vs := [.slice none 0 0, .int .i64 0, .bool false]) (.tmp (by kernel_rfl) (.tmp (by kernel_rfl) (.tmp (by kernel_rfl) .nil))) rfl (fun W S => retRO_nil (res := fun v => .tuple #[v, .int .i64 0, .bool false]) S)
  replace h := H.f q1 h
  refine c_skip ?_
  refine c_seq ?_
  refine r_start ?_
  refine p 1 ?_
  refine rend ?_
  refine c_seq ?_
  refine r_start ?_
  refine p 1 ?_
  refine rend ?_
  refine c_seq ?_
  refine c_seq ?_
  refine r_start ?_
  refine p 2 ?_
  obtain ⟨v5_2, hv5_2, h⟩ := H.call h
  refine xx rfl (e_cro0 [.int .i64 (List.length a0 : Int), .slice none 0 0] func41 (fun W S => C.s_cmOrders W hv5_2 (s_nil.out W S)) fun A5_2 k5_2 u5_2 => ?_)
  refine p 1 ?_
  refine o_fact (f_len (i_ownR 1)) fun hl5_3 => ?_
  refine o_set 17 (len_sl hl5_3) ?_
  refine p 1 ?_
  refine rend ?_
  refine c_block ?_
  refine joinH (X := (Int × Int)) 0 (H.bnd h) (fun (x : (Int × Int)) => x) (fun ⟨n4, n5⟩ => [rowT eSl w.heap.size 28 (.slice A5_2 (List.length u5_2) k5_2) u5_2, rdis (eI .i64) u5_2 v5_2]) (fun ⟨n4, n5⟩ u => (jk u 0 5 (.slice ((blS u5_2 n4).A) (List.length (blL v5_2 n4)) ((blS u5_2 n4).c) :: .int .i64 n5 :: (jk u 7 52 [])))) (fun h hj6 => ?_) ?_
  · skip
    refine rangeRD (X := (Int × Int)) (s_own 0) (i_ownR 1) (fun (x : (Int × Int)) => x) (fun ⟨n2, n3⟩ => [rowT eSl w.heap.size 28 (.slice A5_2 (List.length u5_2) k5_2) u5_2, rdis (eI .i64) u5_2 v5_2]) (fun (j7 : Nat) ⟨n2, n3⟩ u => (.slice A0 (List.length a0) k0 :: (jk u 1 4 (.slice ((blS u5_2 n2).A) (List.length (blL v5_2 n2)) ((blS u5_2 n2).c) :: .int .i64 n3 :: (jk u 7 9 (.slice A5_2 (List.length u5_2) k5_2 :: .int .i64 (List.length v5_2 : Int) :: .int .i64 (j7 : Int) :: (jk u 19 40 []))))))) ((-1), 0) h (by kernel_rfl) (by kernel_rfl) ?_ ?_
    · intro j7 x u x8 q9 hg10 hw11 h
      obtain ⟨n2, n3⟩ := x
      refine c_seq ?_
      refine r_start ?_
      refine p 1 ?_
      refine rend ?_
      refine c_seq ?_
      refine c_yes q9 ?_
      refine c_skip ?_
      refine c_seq ?_
      refine c_block ?_
      refine c_seq ?_
      refine r_start ?_
      refine o_fact (f_len (i_ownR 1)) fun hl7_0 => ?_
      obtain ⟨s7_0, hs7_0⟩ := getI_both hl7_0 hg10
      refine xq rfl (y_idx (e := eSl) (el := 28) hs7_0 (s_own 0)) ?_
      refine xq rfl (y_el (e := eSl) 0 (.slice s7_0.A s7_0.n s7_0.c) hs7_0 (s_own 0)) ?_
      refine o_fact (f_n (i_ownR 1) hs7_0 hg10) fun he7_1 => ?_
      refine o_set 21 (sl_n he7_1) ?_
      refine p 1 ?_
      refine rend ?_
      refine c_seq ?_
      refine r_start ?_
      refine p 1 ?_
      refine rend ?_
      refine c_seq ?_
      refine c_seq ?_
      refine r_start ?_
      refine p 1 ?_
      refine rend ?_
      refine c_block ?_
      refine joinH (X := (Int × Int)) 2 (H.bnd h) (fun (x : (Int × Int)) => x) (fun ⟨n14, n15⟩ => [rowT eSl w.heap.size 28 (.slice A5_2 (List.length u5_2) k5_2) u5_2, rdis (eI .i64) u5_2 v5_2]) (fun ⟨n14, n15⟩ u => (.slice A0 (List.length a0) k0 :: (jk u 1 4 (.slice ((blS u5_2 n14).A) (List.length (blL v5_2 n14)) ((blS u5_2 n14).c) :: .int .i64 n3 :: (jk u 7 1 (.slice s7_0.A (List.length x8) s7_0.c :: .int .i64 n15 :: (jk u 10 6 (.slice A5_2 (List.length u5_2) k5_2 :: .int .i64 (List.length v5_2 : Int) :: .int .i64 (j7 : Int) :: (jk u 19 40 []))))))))) (fun h hj16 => ?_) ?_
      · skip
        refine loopR (X := (Int × Int)) (fun (x : (Int × Int)) => x) (fun ⟨n12, n13⟩ => [rowT eSl w.heap.size 28 (.slice A5_2 (List.length u5_2) k5_2) u5_2, rdis (eI .i64) u5_2 v5_2]) (fun ⟨n12, n13⟩ u => (.slice A0 (List.length a0) k0 :: (jk u 1 4 (.slice ((blS u5_2 n2).A) (List.length (blL v5_2 n2)) ((blS u5_2 n2).c) :: .int .i64 n3 :: (jk u 7 1 (.slice s7_0.A (List.length x8) s7_0.c :: .int .i64 n12 :: .int .i64 n13 :: (jk u 11 5 (.slice A5_2 (List.length u5_2) k5_2 :: .int .i64 (List.length v5_2 : Int) :: .int .i64 (j7 : Int) :: (jk u 19 40 []))))))))) (0, 1) h (by kernel_rfl) (by kernel_rfl) ?_
        intro x u h
        obtain ⟨n12, n13⟩ := x
        refine c_seq ?_
        refine c_seq ?_
        refine r_start ?_
        refine p 4 ?_
        refine rend ?_
        refine c_or (decide (n13 < (List.length x8 : Int))) (fun q17 => ?_) (fun q17 => ?_)
        · replace h := H.t q17 h
          refine c_skip ?_
          refine c_seq ?_
          refine c_block ?_
          refine as_start 19 19 ?_
          refine ap 0 5 ?_
          obtain ⟨y12_5, hy12_5, h⟩ := H.call h
          refine aq 5 rfl (y_idx (e := (eI .i64)) (el := 3) hy12_5 (s_in (i_ownR 1) hs7_0 hg10)) ?_
          refine aq 6 rfl (y_el (e := (eI .i64)) 0 (.int .i64 y12_5) hy12_5 (s_in (i_ownR 1) hs7_0 hg10)) ?_
          obtain ⟨y12_7, hy12_7, h⟩ := H.call h
          refine aq 7 rfl (y_idx (e := nSign) (el := 46) hy12_7 (s_arg h0)) ?_
          refine aq 8 rfl (y_el (e := nSign) 0 (.agg (eSign y12_7).toArray) hy12_7 (s_arg h0)) ?_
          refine ap 9 3 ?_
          obtain ⟨y12_12, hy12_12, h⟩ := H.call h
          refine aq 12 rfl (y_idx (e := (eI .i64)) (el := 3) hy12_12 (s_in (i_ownR 1) hs7_0 hg10)) ?_
          refine aq 13 rfl (y_el (e := (eI .i64)) 0 (.int .i64 y12_12) hy12_12 (s_in (i_ownR 1) hs7_0 hg10)) ?_
          obtain ⟨y12_14, hy12_14, h⟩ := H.call h
          refine aq 14 rfl (y_idx (e := nSign) (el := 46) hy12_14 (s_arg h0)) ?_
          refine aq 15 rfl (y_el (e := nSign) 0 (.agg (eSign y12_14).toArray) hy12_14 (s_arg h0)) ?_
          obtain ⟨v12_16, hv12_16, h⟩ := H.call h
          refine aq 16 rfl (y_call [.agg (eSign y12_7).toArray, .agg (eSign y12_14).toArray] (.int .i64 v12_16) func42 (fun W S => C.s_cmGap W hv12_16)) ?_
          refine ap 17 2 ?_
          refine a_done ?_
          refine c_inb ?_
          refine r_start ?_
          refine p 3 ?_
          refine rend ?_
          replace h := H.inl h
          exact h ((wr (n12 + v12_16)), (wr (n13 + 1))) _ _ rfl (by kernel_rfl) (by kernel_rfl)
        replace h := H.f q17 h
        refine cx ?_
        replace h := H.inr h
        exact hj16 (n2, n12) _ _ h (by kernel_rfl) (by kernel_rfl)
      intro x u h
      obtain ⟨n14, n15⟩ := x
      refine c_seq ?_
      refine r_start ?_
      refine p 4 ?_
      refine br ((List.length (blL v5_2 n14) : Int) == 0) (fun q18 => ?_) (fun q18 => ?_)
      · replace h := H.t q18 h
        refine o_set 49 (congrArg Value.bool q18) ?_
        refine p 4 ?_
        refine rend ?_
        refine c_t (by kernel_rfl) ?_
        refine c_seq ?_
        refine r_start ?_
        refine p 2 ?_
        refine rend ?_
        refine frg (fun u => (.slice A0 (List.length a0) k0 :: (jk u 1 4 (.slice s7_0.A (List.length x8) s7_0.c :: (jk u 6 3 (.int .i64 n15 :: (jk u 10 6 (.slice A5_2 (List.length u5_2) k5_2 :: .int .i64 (List.length v5_2 : Int) :: .int .i64 (j7 : Int) :: (jk u 19 40 []))))))))) (by kernel_rfl) fun u => ?_
        refine keep 2 (its' := [rowT eSl w.heap.size 28 (.slice A5_2 (List.length u5_2) k5_2) u5_2, rdis (eI .i64) u5_2 v5_2]) (by kernel_rfl) ?_
        refine r_start ?_
        refine p 2 ?_
        refine rend ?_
        refine c_inb ?_
        refine r_start ?_
        refine p 2 ?_
        refine rend ?_
        refine c_set 5 (sl_bl hs7_0 hg10) ?_
        refine c_set 18 (ci hw11) ?_
        replace h := H.inl h
        exact h ((j7 : Int), n15) _ _ rfl (by kernel_rfl) (by kernel_rfl)
      replace h := H.f q18 h
      refine o_set 49 (congrArg Value.bool q18) ?_
      refine p 4 ?_
      refine rend ?_
      refine c_or (decide (n15 < n3)) (fun q19 => ?_) (fun q19 => ?_)
      · replace h := H.t q19 h
        refine c_seq ?_
        refine r_start ?_
        refine p 2 ?_
        refine rend ?_
        refine frg (fun u => (.slice A0 (List.length a0) k0 :: (jk u 1 4 (.slice s7_0.A (List.length x8) s7_0.c :: (jk u 6 3 (.int .i64 n15 :: (jk u 10 6 (.slice A5_2 (List.length u5_2) k5_2 :: .int .i64 (List.length v5_2 : Int) :: .int .i64 (j7 : Int) :: (jk u 19 40 []))))))))) (by kernel_rfl) fun u => ?_
        refine keep 2 (its' := [rowT eSl w.heap.size 28 (.slice A5_2 (List.length u5_2) k5_2) u5_2, rdis (eI .i64) u5_2 v5_2]) (by kernel_rfl) ?_
        refine r_start ?_
        refine p 2 ?_
        refine rend ?_
        refine c_inb ?_
        refine r_start ?_
        refine p 2 ?_
        refine rend ?_
        refine c_set 5 (sl_bl hs7_0 hg10) ?_
        refine c_set 18 (ci hw11) ?_
        replace h := H.inl h
        exact h ((j7 : Int), n15) _ _ rfl (by kernel_rfl) (by kernel_rfl)
      replace h := H.f q19 h
      refine c_skip ?_
      refine c_inb ?_
      refine r_start ?_
      refine p 2 ?_
      refine rend ?_
      refine c_set 18 (ci hw11) ?_
      replace h := H.inl h
      exact h (n14, n3) _ _ rfl (by kernel_rfl) (by kernel_rfl)
    · intro x u q9 h
      obtain ⟨n2, n3⟩ := x
      refine c_seq ?_
      refine r_start ?_
      refine p 1 ?_
      refine rend ?_
      refine c_seq ?_
      refine c_no q9 ?_
      refine cx ?_
      replace h := H.done h
      exact hj6 (n2, n3) _ _ h (by kernel_rfl) (by kernel_rfl)
  intro x u h
  obtain ⟨n4, n5⟩ := x
  refine c_seq ?_
  refine r_start ?_
  refine p 5 ?_
  refine rend ?_
  replace h := H.done h
  subst h
  exact ret func10 rfl (vs := [.slice ((blS u5_2 n4).A) (List.length (blL v5_2 n4)) ((blS u5_2 n4).c), .int .i64 n5, .bool true]) (.tmp (by kernel_rfl) (.tmp (by kernel_rfl) (.tmp (by kernel_rfl) .nil))) rfl (fun W S => S.retRO (res := fun v => .tuple #[v, .int .i64 n5, .bool true]) 1)
theorem C.i_Sign_steps {a0 : Sign} {r : Int} (w : World) (h : X.i_Sign_steps a0 = some r) : Calls prog 43 #[.agg (eSign a0).toArray] w (Ret w (.int .i64 r)) := by
  refine calls (M := no) (args := [.agg (eSign a0).toArray]) func43 rfl ?_
  replace h : H (X.i_Sign_steps a0) (fun o => o = r) := H.mk h
  unfold X.i_Sign_steps at h
  refine c_seq ?_
  refine r_start ?_
  refine xx rfl (x_box (eSign a0) fun g0_0 => ?_)
  refine p 1 ?_
  refine rend ?_
  refine c_seq ?_
  refine as_start 12 12 ?_
  refine ap 0 2 ?_
  refine aq 2 rfl (y_load (.agg (eMove a0.Main.Move).toArray) 0 g0_0 11) ?_
  obtain ⟨v1_3, hv1_3, h⟩ := H.call h
  refine aq 3 rfl (y_call [.agg (eMove a0.Main.Move).toArray] (.string (bs v1_3)) func82 (fun W S => C.i_Move_all W hv1_3)) ?_
  refine ap 4 3 ?_
  refine aq 7 rfl (y_load (.agg (eMove a0.Other.Move).toArray) 0 g0_0 25) ?_
  obtain ⟨v1_8, hv1_8, h⟩ := H.call h
  refine aq 8 rfl (y_call [.agg (eMove a0.Other.Move).toArray] (.string (bs v1_8)) func82 (fun W S => C.i_Move_all W hv1_8)) ?_
  refine ap 9 3 ?_
  refine a_done ?_
  replace h := H.done h
  subst h
  exact ret func43 rfl (vs := [.int .i64 (if (List.length v1_8 : Int) > (List.length v1_3 : Int) then (List.length v1_8 : Int) else (List.length v1_3 : Int))]) (.tmp (by kernel_rfl) .nil) rfl (fun W S => ⟨rfl, S.below⟩)
theorem C.i_CompoundTime {fu : Nat} {a0 : (List Sign)} {A0 : Option Addr} {k0 : Nat} {r : (Int × Bool)} (w : World) (h : X.i_CompoundTime fu a0 = some r) (h0 : RdT nSign w (.slice A0 (List.length a0) k0) a0) : Calls prog 11 #[.slice A0 (List.length a0) k0] w (Ret w (.tuple #[.int .i64 r.1, .bool r.2])) := by
  refine calls (M := no) (args := [.slice A0 (List.length a0) k0]) func11 rfl ?_
  replace h : H (X.i_CompoundTime fu a0) (fun o => o = r) := H.mk h
  unfold X.i_CompoundTime at h
  refine c_seq ?_
  refine r_start ?_
  refine p 2 ?_
  refine rend ?_
  refine c_seq ?_
  refine c_seq ?_
  refine r_start ?_
  refine p 1 ?_
  obtain ⟨v1_1, hv1_1, h⟩ := H.call h
  refine xq rfl (y_call [.slice A0 (List.length a0) k0] (.bool v1_1) func34 (fun W S => C.i_isMade W hv1_1 ((s_arg h0).out W S))) ?_
  refine p 1 ?_
  refine rend ?_
  refine c_or (!v1_1) (fun q1 => ?_) (fun q1 => ?_)
  · replace h := H.t q1 h
    refine c_seq ?_
    refine r_start ?_
    refine p 2 ?_
    refine rend ?_
    replace h := H.done h
    subst h
    exact ret func11 rfl (vs := [.int .i64 0, .bool false]) (.tmp (by kernel_rfl) (.tmp (by kernel_rfl) .nil)) rfl (fun W S => ⟨rfl, S.below⟩)
  replace h := H.f q1 h
  refine c_skip ?_
  refine c_seq ?_
  refine r_start ?_
  refine p 1 ?_
  obtain ⟨v3_1, hv3_1, h⟩ := H.call h
  refine xq rfl (y_call [.slice A0 (List.length a0) k0] (.int .i64 v3_1) func36 (fun W S => C.i_gapsIn W hv3_1 ((s_arg h0).out W S))) ?_
  refine p 1 ?_
  refine rend ?_
  refine c_seq ?_
  refine c_seq ?_
  refine r_start ?_
  refine p 3 ?_
  refine rend ?_
  refine c_block ?_
  refine joinH (X := Int) 0 (H.bnd h) (fun (x : Int) => x) (fun n3 => []) (fun n3 u => (jk u 0 4 (.int .i64 n3 :: (jk u 5 20 [])))) (fun h hj4 => ?_) ?_
  · skip
    refine rangeR (X := Int) (s_arg h0) (fun (x : Int) => x) (fun n2 => []) (fun (j5 : Nat) n2 u => (jk u 0 4 (.int .i64 n2 :: (jk u 5 7 (.slice A0 (List.length a0) k0 :: .int .i64 (List.length a0 : Int) :: .int .i64 (j5 : Int) :: (jk u 15 10 [])))))) v3_1 h (by kernel_rfl) (by kernel_rfl) ?_ ?_
    · intro j5 n2 u x6 q7 hg8 hw9 h
      refine c_seq ?_
      refine r_start ?_
      refine p 1 ?_
      refine rend ?_
      refine c_seq ?_
      refine c_yes q7 ?_
      refine c_skip ?_
      refine c_seq ?_
      refine c_block ?_
      refine c_seq ?_
      refine r_start ?_
      refine xq rfl (y_idx (e := nSign) (el := 46) hg8 (s_arg h0)) ?_
      refine xq rfl (y_el (e := nSign) 0 (.agg (eSign x6).toArray) hg8 (s_arg h0)) ?_
      refine xx rfl (x_new (eSign zSign) fun g6_2 => ?_)
      refine xx rfl (x_sto 0 g6_2 0 (eSign x6) ?_)
      refine rend ?_
      refine r_start ?_
      refine p 1 ?_
      refine xq rfl (y_load (.agg (eSign x6).toArray) 0 g6_2 0) ?_
      obtain ⟨v7_2, hv7_2, h⟩ := H.call h
      refine xq rfl (y_call [.agg (eSign x6).toArray] (.int .i64 v7_2) func43 (fun W S => C.i_Sign_steps W hv7_2)) ?_
      refine p 3 ?_
      refine rend ?_
      refine c_inb ?_
      refine r_start ?_
      refine p 2 ?_
      refine rend ?_
      refine c_set 14 (ci hw9) ?_
      replace h := H.inl h
      exact h (wr (n2 + (wr (v7_2 + 1)))) _ _ rfl (by kernel_rfl) (by kernel_rfl)
    · intro n2 u q7 h
      refine c_seq ?_
      refine r_start ?_
      refine p 1 ?_
      refine rend ?_
      refine c_seq ?_
      refine c_no q7 ?_
      refine cx ?_
      replace h := H.done h
      exact hj4 n2 _ _ h (by kernel_rfl) (by kernel_rfl)
  intro n3 u h
  refine c_seq ?_
  refine r_start ?_
  refine p 3 ?_
  refine rend ?_
  replace h := H.done h
  subst h
  exact ret func11 rfl (vs := [.int .i64 n3, .bool true]) (.tmp (by kernel_rfl) (.tmp (by kernel_rfl) .nil)) rfl (fun W S => ⟨rfl, S.below⟩)
theorem C.s_ruSteps {fu : Nat} {a0 : Sign} {r : Int} (w : World) (h : X.s_ruSteps fu a0 = some r) : Calls prog 44 #[.agg (eSign a0).toArray] w (Ret w (.int .i64 r)) := by
  refine calls (M := no) (args := [.agg (eSign a0).toArray]) func44 rfl ?_
  replace h : H (X.s_ruSteps fu a0) (fun o => o = r) := H.mk h
  unfold X.s_ruSteps at h
  refine c_seq ?_
  refine r_start ?_
  refine xx rfl (x_box (eSign a0) fun g0_0 => ?_)
  refine p 1 ?_
  refine rend ?_
  refine c_seq ?_
  refine as_start 12 12 ?_
  refine ap 0 2 ?_
  refine aq 2 rfl (y_load (.agg (eMove a0.Main.Move).toArray) 0 g0_0 11) ?_
  obtain ⟨v1_3, hv1_3, h⟩ := H.call h
  refine aq 3 rfl (y_call [.agg (eMove a0.Main.Move).toArray] (.string (bs v1_3)) func63 (fun W S => C.s_mvAll W hv1_3)) ?_
  refine ap 4 3 ?_
  refine aq 7 rfl (y_load (.agg (eMove a0.Other.Move).toArray) 0 g0_0 25) ?_
  obtain ⟨v1_8, hv1_8, h⟩ := H.call h
  refine aq 8 rfl (y_call [.agg (eMove a0.Other.Move).toArray] (.string (bs v1_8)) func63 (fun W S => C.s_mvAll W hv1_8)) ?_
  refine ap 9 1 ?_
  obtain ⟨v1_10, hv1_10, h⟩ := H.call h
  refine aq 10 rfl (y_call [.int .i64 (List.length v1_3 : Int), .int .i64 (List.length v1_8 : Int)] (.int .i64 v1_10) func62 (fun W S => C.s_l1Most W hv1_10)) ?_
  refine ap 11 1 ?_
  refine a_done ?_
  replace h := H.done h
  subst h
  exact ret func44 rfl (vs := [.int .i64 v1_10]) (.tmp (by kernel_rfl) .nil) rfl (fun W S => ⟨rfl, S.below⟩)
theorem C.s_CompoundTime {fu : Nat} {a0 : (List Sign)} {A0 : Option Addr} {k0 : Nat} {r : (Int × Bool)} (w : World) (h : X.s_CompoundTime fu a0 = some r) (h0 : RdT nSign w (.slice A0 (List.length a0) k0) a0) : Calls prog 12 #[.slice A0 (List.length a0) k0] w (Ret w (.tuple #[.int .i64 r.1, .bool r.2])) := by
  refine calls (M := no) (args := [.slice A0 (List.length a0) k0]) func12 rfl ?_
  replace h : H (X.s_CompoundTime fu a0) (fun o => o = r) := H.mk h
  unfold X.s_CompoundTime at h
  refine c_seq ?_
  refine r_start ?_
  refine p 2 ?_
  refine rend ?_
  refine c_seq ?_
  refine c_seq ?_
  refine r_start ?_
  refine p 1 ?_
  obtain ⟨v1_1, hv1_1, h⟩ := H.call h
  refine xq rfl (y_call [.slice A0 (List.length a0) k0] (.bool v1_1) func40 (fun W S => C.s_cmGood W hv1_1 ((s_arg h0).out W S))) ?_
  refine p 1 ?_
  refine rend ?_
  refine c_or (!v1_1) (fun q1 => ?_) (fun q1 => ?_)
  · replace h := H.t q1 h
    refine c_seq ?_
    refine r_start ?_
    refine p 2 ?_
    refine rend ?_
    replace h := H.done h
    subst h
    exact ret func12 rfl (vs := [.int .i64 0, .bool false]) (.tmp (by kernel_rfl) (.tmp (by kernel_rfl) .nil)) rfl (fun W S => ⟨rfl, S.below⟩)
  replace h := H.f q1 h
  refine c_skip ?_
  refine c_seq ?_
  refine r_start ?_
  refine p 1 ?_
  refine rend ?_
  refine c_seq ?_
  refine c_seq ?_
  refine r_start ?_
  refine p 3 ?_
  refine rend ?_
  refine c_block ?_
  refine joinH (X := Int) 0 (H.bnd h) (fun (x : Int) => x) (fun n3 => []) (fun n3 u => (jk u 0 4 (.int .i64 n3 :: (jk u 5 30 [])))) (fun h hj4 => ?_) ?_
  · skip
    refine rangeR (X := Int) (s_arg h0) (fun (x : Int) => x) (fun n2 => []) (fun (j5 : Nat) n2 u => (.slice A0 (List.length a0) k0 :: (jk u 1 3 (.int .i64 n2 :: (jk u 5 5 (.slice A0 (List.length a0) k0 :: .int .i64 (List.length a0 : Int) :: .int .i64 (j5 : Int) :: (jk u 13 22 []))))))) 0 h (by kernel_rfl) (by kernel_rfl) ?_ ?_
    · intro j5 n2 u x6 q7 hg8 hw9 h
      refine c_seq ?_
      refine r_start ?_
      refine p 1 ?_
      refine rend ?_
      refine c_seq ?_
      refine c_yes q7 ?_
      refine c_skip ?_
      refine c_seq ?_
      refine c_block ?_
      refine c_seq ?_
      refine r_start ?_
      refine p 1 ?_
      refine xq rfl (y_idx (e := nSign) (el := 46) hg8 (s_arg h0)) ?_
      refine xq rfl (y_el (e := nSign) 0 (.agg (eSign x6).toArray) hg8 (s_arg h0)) ?_
      refine xx rfl (x_new (eSign zSign) fun g6_3 => ?_)
      refine p 1 ?_
      refine xx rfl (x_sto 0 g6_3 0 (eSign x6) ?_)
      refine rend ?_
      refine c_seq ?_
      refine r_start ?_
      refine p 1 ?_
      refine xq rfl (y_load (.agg (eSign x6).toArray) 0 g6_3 0) ?_
      obtain ⟨v7_2, hv7_2, h⟩ := H.call h
      refine xq rfl (y_call [.agg (eSign x6).toArray] (.int .i64 v7_2) func44 (fun W S => C.s_ruSteps W hv7_2)) ?_
      refine p 3 ?_
      refine rend ?_
      refine c_seq ?_
      refine r_start ?_
      refine p 2 ?_
      refine rend ?_
      refine c_or (decide ((j5 : Int) > 0)) (fun q10 => ?_) (fun q10 => ?_)
      · replace h := H.t q10 h
        refine as_start 10 10 ?_
        refine ap 0 4 ?_
        obtain ⟨y9_4, hy9_4, h⟩ := H.call h
        refine aq 4 rfl (y_idx (e := nSign) (el := 46) hy9_4 (s_arg h0)) ?_
        refine aq 5 rfl (y_el (e := nSign) 0 (.agg (eSign y9_4).toArray) hy9_4 (s_arg h0)) ?_
        refine aq 6 rfl (y_load (.agg (eSign x6).toArray) 0 g6_3 0) ?_
        obtain ⟨v9_7, hv9_7, h⟩ := H.call h
        refine aq 7 rfl (y_call [.agg (eSign y9_4).toArray, .agg (eSign x6).toArray] (.int .i64 v9_7) func42 (fun W S => C.s_cmGap W hv9_7)) ?_
        refine ap 8 2 ?_
        refine a_done ?_
        refine c_inb ?_
        refine r_start ?_
        refine p 2 ?_
        refine rend ?_
        refine c_set 12 (ci hw9) ?_
        replace h := H.inl h
        exact h (wr ((wr (n2 + (wr (v7_2 + 1)))) + v9_7)) _ _ rfl (by kernel_rfl) (by kernel_rfl)
      replace h := H.f q10 h
      refine c_skip ?_
      refine c_inb ?_
      refine r_start ?_
      refine p 2 ?_
      refine rend ?_
      refine c_set 12 (ci hw9) ?_
      replace h := H.inl h
      exact h (wr (n2 + (wr (v7_2 + 1)))) _ _ rfl (by kernel_rfl) (by kernel_rfl)
    · intro n2 u q7 h
      refine c_seq ?_
      refine r_start ?_
      refine p 1 ?_
      refine rend ?_
      refine c_seq ?_
      refine c_no q7 ?_
      refine cx ?_
      replace h := H.done h
      exact hj4 n2 _ _ h (by kernel_rfl) (by kernel_rfl)
  intro n3 u h
  refine c_seq ?_
  refine r_start ?_
  refine p 3 ?_
  refine rend ?_
  replace h := H.done h
  subst h
  exact ret func12 rfl (vs := [.int .i64 n3, .bool true]) (.tmp (by kernel_rfl) (.tmp (by kernel_rfl) .nil)) rfl (fun W S => ⟨rfl, S.below⟩)
theorem C.strings_Join {a0 : List Str} {A0 : Option Addr} {k0 : Nat} {a1 r : Str} (w : World) (h : X.strings_Join a0 a1 = some r) (h0 : RdT eS w (.slice A0 (List.length a0) k0) a0) : Calls prog 46 #[.slice A0 (List.length a0) k0, .string (bs a1)] w (Ret w (.string (bs r))) := by
  unfold X.strings_Join at h
  split at h
  · rename_i hc
    obtain ⟨h1, h2⟩ := hc
    obtain rfl := Option.some.inj h
    by_cases hn : a0.length = 0
    · have ha : a0 = [] := List.eq_nil_of_length_eq_zero hn
      subst ha
      refine (Tryz.strings_Join_none A0 k0 (bs a1) w).mono ?_
      rintro e w' ⟨rfl, rfl⟩
      exact ⟨rfl, Below.refl _ _⟩
    · obtain ⟨A2, c2, e1, _, _, hcp, h4⟩ := h0
      injection e1 with e1 _ e3
      subst e1
      subst e3
      obtain ⟨b, off, rfl, hb, hcl⟩ := h4 (by omega)
      have hm : (a0.map bs).map (fun x => x.data.toList) = a0 := by
        rw [List.map_map]
        exact List.map_id _
      have := Tryz.strings_Join b off k0 (a0.map bs) (bs a1) w (fun j x hj => by
        rw [List.getElem?_map] at hj
        obtain ⟨y, hy, rfl⟩ := Option.map_eq_some_iff.1 hj
        have := hcl _ _ (eS.flat_get (j := 0) hy rfl)
        simpa [eS] using this) hb (by simpa using h2) (by simpa using hcp) (by rw [hm]; exact h1)
      rw [hm, List.length_map] at this
      exact this
  · cases h
theorem C.i_Orient_text {a0 : Orient} {r : Str} (w : World) (h : X.i_Orient_text a0 = some r) : Calls prog 130 #[.agg (eOrient a0).toArray] w (Ret w (.string (bs r))) := by
  refine calls (M := no) (args := [.agg (eOrient a0).toArray]) func130 rfl ?_
  replace h : H (X.i_Orient_text a0) (fun o => o = r) := H.mk h
  unfold X.i_Orient_text at h
  refine c_seq ?_
  refine r_start ?_
  refine xx rfl (x_box (eOrient a0) fun g0_0 => ?_)
  refine p 1 ?_
  refine rend ?_
  refine c_seq ?_
  refine as_start 14 14 ?_
  refine ap 0 1 ?_
  refine aq 1 rfl (y_load (.int .i64 a0.Palm) 0 g0_0 0) ?_
  refine ap 2 1 ?_
  refine aq 3 rfl (y_load (.int .i64 a0.Palm) 0 g0_0 0) ?_
  refine ap 4 1 ?_
  obtain ⟨y1_5, hy1_5, h⟩ := H.call h
  refine aq 5 rfl (y_cut hy1_5) ?_
  refine ap 6 1 ?_
  refine aq 7 rfl (y_load (.int .i64 a0.Fingers) 0 g0_0 1) ?_
  refine ap 8 1 ?_
  refine aq 9 rfl (y_load (.int .i64 a0.Fingers) 0 g0_0 1) ?_
  refine ap 10 1 ?_
  obtain ⟨y1_11, hy1_11, h⟩ := H.call h
  refine aq 11 rfl (y_cut hy1_11) ?_
  obtain ⟨y1_12, hy1_12, h⟩ := H.call h
  refine aq 12 rfl (y_cat hy1_12) ?_
  refine ap 13 1 ?_
  refine a_done ?_
  replace h := H.done h
  subst h
  exact ret func130 rfl (vs := [.string (bs y1_12)]) (.tmp (by kernel_rfl) .nil) rfl (fun W S => ⟨rfl, S.below⟩)
theorem C.i_Hand_text {a0 : Hand} {r : Str} (w : World) (h : X.i_Hand_text a0 = some r) : Calls prog 83 #[.agg (eHand a0).toArray] w (Ret w (.string (bs r))) := by
  refine calls (M := no) (args := [.agg (eHand a0).toArray]) func83 rfl ?_
  replace h : H (X.i_Hand_text a0) (fun o => o = r) := H.mk h
  unfold X.i_Hand_text at h
  refine c_seq ?_
  refine r_start ?_
  refine xx rfl (x_box (eHand a0) fun g0_0 => ?_)
  refine p 1 ?_
  refine rend ?_
  refine c_seq ?_
  refine as_start 15 15 ?_
  refine ap 0 1 ?_
  refine aq 1 rfl (y_load (.agg (eShape a0.Shape).toArray) 0 g0_0 0) ?_
  obtain ⟨v1_2, hv1_2, h⟩ := H.call h
  refine aq 2 rfl (y_call [.agg (eShape a0.Shape).toArray] (.string (bs v1_2)) func129 (fun W S => C.i_Shape_text W hv1_2)) ?_
  refine ap 3 1 ?_
  refine aq 4 rfl (y_load (.agg (eOrient a0.Orient).toArray) 0 g0_0 6) ?_
  obtain ⟨v1_5, hv1_5, h⟩ := H.call h
  refine aq 5 rfl (y_call [.agg (eOrient a0.Orient).toArray] (.string (bs v1_5)) func130 (fun W S => C.i_Orient_text W hv1_5)) ?_
  refine ap 6 1 ?_
  refine aq 7 rfl (y_load (.agg (ePlace a0.Place).toArray) 0 g0_0 8) ?_
  obtain ⟨v1_8, hv1_8, h⟩ := H.call h
  refine aq 8 rfl (y_call [.agg (ePlace a0.Place).toArray] (.string (bs v1_8)) func131 (fun W S => C.i_Place_text W hv1_8)) ?_
  refine ap 9 1 ?_
  refine aq 10 rfl (y_load (.agg (eMove a0.Move).toArray) 0 g0_0 11) ?_
  obtain ⟨v1_11, hv1_11, h⟩ := H.call h
  refine aq 11 rfl (y_call [.agg (eMove a0.Move).toArray] (.string (bs v1_11)) func132 (fun W S => C.i_Move_text W hv1_11)) ?_
  refine ax 12 rfl (e_lit (e := eS) (el := 9) [.string (bs v1_2), .string (bs v1_5), .string (bs v1_8), .string (bs v1_11)] ([v1_2, v1_5, v1_8, v1_11] : List Str) fun A1_12 k1_12 => ⟨.inr (by kernel_rfl), ?_⟩)
  obtain ⟨v1_13, hv1_13, h⟩ := H.call h
  refine ax 13 rfl (e_y (y_call [.slice A1_12 (List.length ([v1_2, v1_5, v1_8, v1_11] : List Str)) k1_12, .string (bs ([47] : Str))] (.string (bs v1_13)) func46 (fun W S => C.strings_Join W hv1_13 ((s_own 1).out W S))) ⟨.inr (by kernel_rfl), ?_⟩)
  refine ap 14 1 ?_
  refine a_done ?_
  replace h := H.done h
  subst h
  exact ret func83 rfl (vs := [.string (bs v1_13)]) (.tmp (by kernel_rfl) .nil) rfl (fun W S => ⟨rfl, S.below⟩)
theorem C.i_Sign_text {a0 : Sign} {r : Str} (w : World) (h : X.i_Sign_text a0 = some r) : Calls prog 45 #[.agg (eSign a0).toArray] w (Ret w (.string (bs r))) := by
  refine calls (M := no) (args := [.agg (eSign a0).toArray]) func45 rfl ?_
  replace h : H (X.i_Sign_text a0) (fun o => o = r) := H.mk h
  unfold X.i_Sign_text at h
  refine c_seq ?_
  refine r_start ?_
  refine xx rfl (x_box (eSign a0) fun g0_0 => ?_)
  refine p 1 ?_
  refine rend ?_
  refine c_seq ?_
  refine c_seq ?_
  refine r_start ?_
  refine p 1 ?_
  refine xq rfl (y_load (.bool a0.Two) 0 g0_0 13) ?_
  refine p 1 ?_
  refine rend ?_
  refine c_or (!a0.Two) (fun q1 => ?_) (fun q1 => ?_)
  · replace h := H.t q1 h
    refine c_seq ?_
    refine r_start ?_
    refine p 1 ?_
    refine xq rfl (y_load (.agg (eHand a0.Main).toArray) 0 g0_0 0) ?_
    obtain ⟨v2_2, hv2_2, h⟩ := H.call h
    refine xq rfl (y_call [.agg (eHand a0.Main).toArray] (.string (bs v2_2)) func83 (fun W S => C.i_Hand_text W hv2_2)) ?_
    refine p 1 ?_
    refine rend ?_
    replace h := H.done h
    subst h
    exact ret func45 rfl (vs := [.string (bs v2_2)]) (.tmp (by kernel_rfl) .nil) rfl (fun W S => ⟨rfl, S.below⟩)
  replace h := H.f q1 h
  refine c_skip ?_
  refine c_seq ?_
  refine as_start 9 9 ?_
  refine ap 0 1 ?_
  refine aq 1 rfl (y_load (.agg (eHand a0.Main).toArray) 0 g0_0 0) ?_
  obtain ⟨v3_2, hv3_2, h⟩ := H.call h
  refine aq 2 rfl (y_call [.agg (eHand a0.Main).toArray] (.string (bs v3_2)) func83 (fun W S => C.i_Hand_text W hv3_2)) ?_
  obtain ⟨y3_3, hy3_3, h⟩ := H.call h
  refine aq 3 rfl (y_cat hy3_3) ?_
  refine ap 4 1 ?_
  refine aq 5 rfl (y_load (.agg (eHand a0.Other).toArray) 0 g0_0 14) ?_
  obtain ⟨v3_6, hv3_6, h⟩ := H.call h
  refine aq 6 rfl (y_call [.agg (eHand a0.Other).toArray] (.string (bs v3_6)) func83 (fun W S => C.i_Hand_text W hv3_6)) ?_
  obtain ⟨y3_7, hy3_7, h⟩ := H.call h
  refine aq 7 rfl (y_cat hy3_7) ?_
  refine ap 8 1 ?_
  refine a_done ?_
  replace h := H.done h
  subst h
  exact ret func45 rfl (vs := [.string (bs y3_7)]) (.tmp (by kernel_rfl) .nil) rfl (fun W S => ⟨rfl, S.below⟩)
theorem C.i_CompoundText {fu : Nat} {a0 : (List Sign)} {A0 : Option Addr} {k0 : Nat} {r : (Str × Bool)} (w : World) (h : X.i_CompoundText fu a0 = some r) (h0 : RdT nSign w (.slice A0 (List.length a0) k0) a0) : Calls prog 13 #[.slice A0 (List.length a0) k0] w (Ret w (.tuple #[.string (bs r.1), .bool r.2])) := by
  refine calls (M := no) (args := [.slice A0 (List.length a0) k0]) func13 rfl ?_
  replace h : H (X.i_CompoundText fu a0) (fun o => o = r) := H.mk h
  unfold X.i_CompoundText at h
  refine c_seq ?_
  refine r_start ?_
  refine p 2 ?_
  refine rend ?_
  refine c_seq ?_
  refine c_seq ?_
  refine r_start ?_
  refine p 1 ?_
  obtain ⟨v1_1, hv1_1, h⟩ := H.call h
  refine xq rfl (y_call [.slice A0 (List.length a0) k0] (.bool v1_1) func34 (fun W S => C.i_isMade W hv1_1 ((s_arg h0).out W S))) ?_
  refine p 1 ?_
  refine rend ?_
  refine c_or (!v1_1) (fun q1 => ?_) (fun q1 => ?_)
  · replace h := H.t q1 h
    refine c_seq ?_
    refine r_start ?_
    refine p 2 ?_
    refine rend ?_
    replace h := H.done h
    subst h
    exact ret func13 rfl (vs := [.string (bs ([] : Str)), .bool false]) (.tmp (by kernel_rfl) (.tmp (by kernel_rfl) .nil)) rfl (fun W S => ⟨rfl, S.below⟩)
  replace h := H.f q1 h
  refine c_skip ?_
  refine c_seq ?_
  refine r_start ?_
  refine p 1 ?_
  refine rend ?_
  refine c_seq ?_
  refine c_seq ?_
  refine r_start ?_
  refine p 3 ?_
  refine rend ?_
  refine c_block ?_
  refine c_nil eS 9 ?_
  refine joinH (X := ((List Str) × Option Addr × Nat)) 0 (H.bnd h) (fun ⟨l5, A6, k7⟩ => l5) (fun ⟨l5, A6, k7⟩ => [rowT eS w.heap.size 9 (.slice A6 (List.length l5) k7) l5]) (fun ⟨l5, A6, k7⟩ u => (jk u 0 4 (.slice A6 (List.length l5) k7 :: (jk u 5 19 [])))) (fun h hj8 => ?_) ?_
  · skip
    refine rangeR (X := ((List Str) × Option Addr × Nat)) (s_arg h0) (fun ⟨l2, A3, k4⟩ => l2) (fun ⟨l2, A3, k4⟩ => [rowT eS w.heap.size 9 (.slice A3 (List.length l2) k4) l2]) (fun (j9 : Nat) ⟨l2, A3, k4⟩ u => (jk u 0 4 (.slice A3 (List.length l2) k4 :: (jk u 5 5 (.slice A0 (List.length a0) k0 :: .int .i64 (List.length a0 : Int) :: .int .i64 (j9 : Int) :: (jk u 13 11 [])))))) (([] : List Str), none, 0) h (by kernel_rfl) (by kernel_rfl) ?_ ?_
    · intro j9 x u x10 q11 hg12 hw13 h
      obtain ⟨l2, A3, k4⟩ := x
      refine c_seq ?_
      refine r_start ?_
      refine p 1 ?_
      refine rend ?_
      refine c_seq ?_
      refine c_yes q11 ?_
      refine c_skip ?_
      refine c_seq ?_
      refine c_block ?_
      refine c_seq ?_
      refine r_start ?_
      refine xq rfl (y_idx (e := nSign) (el := 46) hg12 (s_arg h0)) ?_
      refine xq rfl (y_el (e := nSign) 0 (.agg (eSign x10).toArray) hg12 (s_arg h0)) ?_
      refine xx rfl (x_new (eSign zSign) fun g6_2 => ?_)
      refine xx rfl (x_sto 1 g6_2 0 (eSign x10) ?_)
      refine rend ?_
      refine r_start ?_
      refine p 1 ?_
      refine xq rfl (y_load (.agg (eSign x10).toArray) 1 g6_2 0) ?_
      obtain ⟨v7_2, hv7_2, h⟩ := H.call h
      refine xq rfl (y_call [.agg (eSign x10).toArray] (.string (bs v7_2)) func45 (fun W S => C.i_Sign_text W hv7_2)) ?_
      refine xx rfl (e_lit (e := eS) (el := 9) [.string (bs v7_2)] ([v7_2] : List Str) fun A7_3 k7_3 => ?_)
      obtain ⟨y7_4, hy7_4, h⟩ := H.call h
      refine xx rfl (e_app 0 hy7_4 (s_own 2) fun A7_4 k7_4 => ?_)
      refine p 1 ?_
      refine rend ?_
      refine c_inb ?_
      refine r_start ?_
      refine p 2 ?_
      refine rend ?_
      refine c_set 12 (ci hw13) ?_
      replace h := H.inl h
      exact h (y7_4, A7_4, k7_4) _ _ rfl (by kernel_rfl) (by kernel_rfl)
    · intro x u q11 h
      obtain ⟨l2, A3, k4⟩ := x
      refine c_seq ?_
      refine r_start ?_
      refine p 1 ?_
      refine rend ?_
      refine c_seq ?_
      refine c_no q11 ?_
      refine cx ?_
      replace h := H.done h
      exact hj8 (l2, A3, k4) _ _ h (by kernel_rfl) (by kernel_rfl)
  intro x u h
  obtain ⟨l5, A6, k7⟩ := x
  refine c_seq ?_
  refine r_start ?_
  refine p 1 ?_
  obtain ⟨v9_1, hv9_1, h⟩ := H.call h
  refine xq rfl (y_call [.slice A6 (List.length l5) k7, .string (bs ([38] : Str))] (.string (bs v9_1)) func46 (fun W S => C.strings_Join W hv9_1 ((s_own 0).out W S))) ?_
  refine p 2 ?_
  refine rend ?_
  replace h := H.done h
  subst h
  exact ret func13 rfl (vs := [.string (bs v9_1), .bool true]) (.tmp (by kernel_rfl) (.tmp (by kernel_rfl) .nil)) rfl (fun W S => ⟨rfl, S.below⟩)
end Go.Proofs.XC
