/- Contracts: each function, called where its plain function gives an answer, returns just that answer and changes nothing that was there. By AI agents; no person has read it. -/
import Derived.Test.YtenkalmmdamfgaaGreatDoorSDSearches1
set_option linter.unusedVariables false
set_option linter.unusedSimpArgs false
set_option maxRecDepth 100000
set_option maxHeartbeats 40000000
namespace Go.Proofs.XC
open Go Go.RowKit
open Tryz
theorem C.s_l1Cur_pattern {fu : Nat} {a0 : List Int} {A0 : Option Addr} {k0 g0 : Nat} {t0 s0 : Int} {a1 : Sign} {r : (Pattern × Int × Int)} (w : World) (h : X.s_l1Cur_pattern fu a0 t0 s0 a1 = some r) (m0 : w.heap[g0]? = some (.cells ([.slice A0 (List.length a0) k0, .int .i64 t0, .int .u64 s0] : List Value).toArray 94 (0, 0))) (h0 : RdT (eI .u8) w (.slice A0 (List.length a0) k0) a0) (q0 : 0 < List.length a0 → ∀ k, (Value.slice A0 (List.length a0) k0).ownBlock = some k → ¬ k = g0) : Calls prog 137 #[.pointer (some ⟨g0, 0, none⟩), .agg (eSign a1).toArray] w (RetQ g0 94 [.slice A0 (List.length a0) k0, .int .i64 r.2.1, .int .u64 r.2.2] w (.agg (ePattern r.1).toArray)) := by
  refine callsQ (args := [.pointer (some ⟨g0, 0, none⟩), .agg (eSign a1).toArray]) m0 func137 rfl ?_
  replace h : H (X.s_l1Cur_pattern fu a0 t0 s0 a1) (fun o => o = r) := H.mk h
  unfold X.s_l1Cur_pattern at h
  refine c_seq ?_
  refine r_start ?_
  refine xx rfl (x_box (eSign a1) fun g0_0 => ?_)
  refine xx rfl (x_new (ePattern zPattern) fun g0_1 => ?_)
  refine rend ?_
  refine c_seq ?_
  refine r_start ?_
  refine p 1 ?_
  refine xx rfl (x_new (ePattern zPattern) fun g1_1 => ?_)
  refine xx rfl (x_sto 3 g1_1 0 (ePattern (⟨([48, 63, 63, 63, 63] : Str), ([102, 63] : Str), (-1), ([42, 114] : Str), 1⟩ : Pattern)) ?_)
  refine rend ?_
  refine c_seq ?_
  refine c_seq ?_
  refine r_start ?_
  refine xq rfl (y_load (.agg (eSign a1).toArray) 1 g0_0 0) ?_
  obtain ⟨v2_1, hv2_1, h⟩ := H.call h
  refine xq rfl (y_call [.agg (eSign a1).toArray] (.tuple #[.agg (ePattern v2_1.1).toArray, .bool v2_1.2]) func62 (fun W S => C.s_PatternOf W hv2_1)) ?_
  refine p 3 ?_
  refine xx rfl (x_new (ePattern zPattern) fun g2_5 => ?_)
  refine xx rfl (x_sto 4 g2_5 0 (ePattern v2_1.1) ?_)
  refine p 1 ?_
  refine rend ?_
  refine c_seq ?_
  refine r_start ?_
  refine p 1 ?_
  refine rend ?_
  refine c_or v2_1.2 (fun q1 => ?_) (fun q1 => ?_)
  · replace h := H.t q1 h
    refine c_seq ?_
    refine joinT (X := (Int × Int × Pattern × (List Int) × (List Str) × (List Int) × Option Addr × Nat × Option Addr × Nat × Option Addr × Nat)) (H.bnd h) (fun ⟨n2, n3, s4, l5, l8, l11, A6, k7, A9, k10, A12, k13⟩ => (n2, n3, s4, l5, l8, l11)) (fun ⟨n2, n3, s4, l5, l8, l11, A6, k7, A9, k10, A12, k13⟩ => [box g0 94 [.slice A0 (List.length a0) k0, .int .i64 n2, .int .u64 n3], box g0_0 38 (eSign a1), box g0_1 79 (ePattern zPattern), box g1_1 79 (ePattern s4), box g2_5 79 (ePattern v2_1.1), rowT (eI .i64) w.heap.size 3 (.slice A6 (List.length l5) k7) l5, rowT eS w.heap.size 9 (.slice A9 (List.length l8) k10) l8, rowT (eI .i64) w.heap.size 3 (.slice A12 (List.length l11) k13) l11]) (fun ⟨n2, n3, s4, l5, l8, l11, A6, k7, A9, k10, A12, k13⟩ u => (.pointer (some ⟨g0, 0, none⟩) :: (jk u 1 3 (.pointer (some ⟨g0_1, 0, none⟩) :: .pointer (some ⟨g1_1, 0, none⟩) :: .pointer (some ⟨g2_5, 0, none⟩) :: (jk u 7 82 []))))) (fun h hj14 => ?_) ?_
    · skip
      refine pick [1, 2, 3, 4, 0] [box g0_0 38 (eSign a1), box g0_1 79 (ePattern zPattern), box g1_1 79 (ePattern (⟨([48, 63, 63, 63, 63] : Str), ([102, 63] : Str), (-1), ([42, 114] : Str), 1⟩ : Pattern)), box g2_5 79 (ePattern v2_1.1), box g0 94 [.slice A0 (List.length a0) k0, .int .i64 t0, .int .u64 s0]] ?_
      refine as_startN 28 4 29 ?_
      refine ap 0 2 ?_
      refine aq 2 rfl (y_load (.string (bs v2_1.1.Shape)) 3 g2_5 0) ?_
      refine ap 4 2 ?_
      refine aq 6 rfl (y_load (.string (bs v2_1.1.Orient)) 3 g2_5 1) ?_
      refine ap 8 2 ?_
      refine aq 10 rfl (y_load (.int .i64 v2_1.1.Region) 3 g2_5 2) ?_
      refine ap 13 2 ?_
      refine aq 15 rfl (y_load (.string (bs v2_1.1.Steps)) 3 g2_5 3) ?_
      refine ap 16 2 ?_
      refine aq 18 rfl (y_load (.string (bs v2_1.1.Steps)) 3 g2_5 3) ?_
      refine ap 22 2 ?_
      refine aq 24 rfl (y_load (.int .i64 v2_1.1.Hands) 3 g2_5 4) ?_
      refine a_three 3 11 25 rfl rfl rfl ?_ ?_ ?_
      · skip
        obtain ⟨v4_3, hv4_3, h⟩ := H.call h
        refine (e_cq (cs' := [.slice A0 (List.length a0) k0, .int .i64 v4_3.2.1, .int .u64 v4_3.2.2]) (v := .string (bs v4_3.1)) 4 [.pointer (some ⟨g0, 0, none⟩), .string (bs v2_1.1.Shape)] func139 (fun W S => C.s_l1Cur_blur W hv4_3 (S.bx 4) ((s_argN h0 q0).out W S) q0) ⟨.inr (by kernel_rfl), ?_⟩)
        refine a_three 7 11 25 rfl rfl rfl ?_ ?_ ?_
        · skip
          obtain ⟨v4_7, hv4_7, h⟩ := H.call h
          refine (e_cq (cs' := [.slice A0 (List.length a0) k0, .int .i64 v4_7.2.1, .int .u64 v4_7.2.2]) (v := .string (bs v4_7.1)) 4 [.pointer (some ⟨g0, 0, none⟩), .string (bs v2_1.1.Orient)] func139 (fun W S => C.s_l1Cur_blur W hv4_7 (S.bx 4) ((s_argN h0 q0).out W S) q0) ⟨.inr (by kernel_rfl), ?_⟩)
          refine a_two 11 25 rfl rfl ?_ ?_
          · skip
            refine (e_lit (e := (eI .i64)) (el := 3) [.int .i64 (-1), .int .i64 v2_1.1.Region] ([(-1), v2_1.1.Region] : List Int) fun A4_11 k4_11 => ⟨.inr (by kernel_rfl), ?_⟩)
            refine a_two 12 25 rfl rfl ?_ ?_
            · skip
              obtain ⟨v4_12, hv4_12, h⟩ := H.call h
              refine (e_cq (cs' := [.slice A0 (List.length a0) k0, .int .i64 v4_12.2.1, .int .u64 v4_12.2.2]) (v := .int .i64 v4_12.1) 4 [.pointer (some ⟨g0, 0, none⟩), .slice A4_11 (List.length ([(-1), v2_1.1.Region] : List Int)) k4_11] func143 (fun W S => C.s_l1Cur_among W hv4_12 (S.bx 4) ((s_argN h0 q0).out W S) q0 ((s_own 5).out W S) (ap_row S 5 4 (by decide))) ⟨.inr (by kernel_rfl), ?_⟩)
              refine a_two 19 25 rfl rfl ?_ ?_
              · skip
                obtain ⟨v4_19, hv4_19, h⟩ := H.call h
                refine (e_cq (cs' := [.slice A0 (List.length a0) k0, .int .i64 v4_19.2.1, .int .u64 v4_19.2.2]) (v := .string (bs v4_19.1)) 4 [.pointer (some ⟨g0, 0, none⟩), .string (bs v2_1.1.Steps)] func139 (fun W S => C.s_l1Cur_blur W hv4_19 (S.bx 4) ((s_argN h0 q0).out W S) q0) ⟨.inr (by kernel_rfl), ?_⟩)
                refine a_two 20 25 rfl rfl ?_ ?_
                · skip
                  refine (e_lit (e := eS) (el := 9) [.string (bs ([42] : Str)), .string (bs v2_1.1.Steps), .string (bs v4_19.1)] ([([42] : Str), v2_1.1.Steps, v4_19.1] : List Str) fun A4_20 k4_20 => ⟨.inr (by kernel_rfl), ?_⟩)
                  refine a_two 21 25 rfl rfl ?_ ?_
                  · skip
                    obtain ⟨v4_21, hv4_21, h⟩ := H.call h
                    refine (e_cq (cs' := [.slice A0 (List.length a0) k0, .int .i64 v4_21.2.1, .int .u64 v4_21.2.2]) (v := .string (bs v4_21.1)) 4 [.pointer (some ⟨g0, 0, none⟩), .slice A4_20 (List.length ([([42] : Str), v2_1.1.Steps, v4_19.1] : List Str)) k4_20] func117 (fun W S => C.s_l1Cur_of W hv4_21 (S.bx 4) ((s_argN h0 q0).out W S) q0 ((s_own 6).out W S) (ap_row S 6 4 (by decide))) ⟨.inr (by kernel_rfl), ?_⟩)
                    refine ax 25 rfl (e_lit (e := (eI .i64)) (el := 3) [.int .i64 0, .int .i64 v2_1.1.Hands] ([0, v2_1.1.Hands] : List Int) fun A4_25 k4_25 => ⟨.inr (by kernel_rfl), ?_⟩)
                    obtain ⟨v4_26, hv4_26, h⟩ := H.call h
                    refine ax 26 rfl (e_cq (cs' := [.slice A0 (List.length a0) k0, .int .i64 v4_26.2.1, .int .u64 v4_26.2.2]) (v := .int .i64 v4_26.1) 4 [.pointer (some ⟨g0, 0, none⟩), .slice A4_25 (List.length ([0, v2_1.1.Hands] : List Int)) k4_25] func143 (fun W S => C.s_l1Cur_among W hv4_26 (S.bx 4) ((s_argN h0 q0).out W S) q0 ((s_own 7).out W S) (ap_row S 7 4 (by decide))) ⟨.inr (by kernel_rfl), ?_⟩)
                    refine ap 27 1 ?_
                    refine ax 28 rfl (x_sto 2 g1_1 0 (ePattern (⟨v4_3.1, v4_7.1, v4_12.1, v4_21.1, v4_26.1⟩ : Pattern)) ⟨.inl (by kernel_rfl), ?_⟩)
                    refine a_done ?_
                    refine pick [4, 0, 1, 2, 3, 5, 6, 7] [box g0 94 [.slice A0 (List.length a0) k0, .int .i64 v4_26.2.1, .int .u64 v4_26.2.2], box g0_0 38 (eSign a1), box g0_1 79 (ePattern zPattern), box g1_1 79 (ePattern (⟨v4_3.1, v4_7.1, v4_12.1, v4_21.1, v4_26.1⟩ : Pattern)), box g2_5 79 (ePattern v2_1.1), rowT (eI .i64) w.heap.size 3 (.slice A4_11 (List.length ([(-1), v2_1.1.Region] : List Int)) k4_11) ([(-1), v2_1.1.Region] : List Int), rowT eS w.heap.size 9 (.slice A4_20 (List.length ([([42] : Str), v2_1.1.Steps, v4_19.1] : List Str)) k4_20) ([([42] : Str), v2_1.1.Steps, v4_19.1] : List Str), rowT (eI .i64) w.heap.size 3 (.slice A4_25 (List.length ([0, v2_1.1.Hands] : List Int)) k4_25) ([0, v2_1.1.Hands] : List Int)] ?_
                    replace h := H.done h
                    exact hj14 (v4_26.2.1, v4_26.2.2, (⟨v4_3.1, v4_7.1, v4_12.1, v4_21.1, v4_26.1⟩ : Pattern), ([(-1), v2_1.1.Region] : List Int), ([([42] : Str), v2_1.1.Steps, v4_19.1] : List Str), ([0, v2_1.1.Hands] : List Int), A4_11, k4_11, A4_20, k4_20, A4_25, k4_25) _ _ h (by kernel_rfl) (by kernel_rfl)
                  refine (e_lit (e := (eI .i64)) (el := 3) [.int .i64 0, .int .i64 v2_1.1.Hands] ([0, v2_1.1.Hands] : List Int) fun A4_25 k4_25 => ⟨.inr (by kernel_rfl), ?_⟩)
                  obtain ⟨v4_21, hv4_21, h⟩ := H.call h
                  refine ax 21 rfl (e_cq (cs' := [.slice A0 (List.length a0) k0, .int .i64 v4_21.2.1, .int .u64 v4_21.2.2]) (v := .string (bs v4_21.1)) 4 [.pointer (some ⟨g0, 0, none⟩), .slice A4_20 (List.length ([([42] : Str), v2_1.1.Steps, v4_19.1] : List Str)) k4_20] func117 (fun W S => C.s_l1Cur_of W hv4_21 (S.bx 4) ((s_argN h0 q0).out W S) q0 ((s_own 6).out W S) (ap_row S 6 4 (by decide))) ⟨.inr (by kernel_rfl), ?_⟩)
                  obtain ⟨v4_26, hv4_26, h⟩ := H.call h
                  refine ax 26 rfl (e_cq (cs' := [.slice A0 (List.length a0) k0, .int .i64 v4_26.2.1, .int .u64 v4_26.2.2]) (v := .int .i64 v4_26.1) 4 [.pointer (some ⟨g0, 0, none⟩), .slice A4_25 (List.length ([0, v2_1.1.Hands] : List Int)) k4_25] func143 (fun W S => C.s_l1Cur_among W hv4_26 (S.bx 4) ((s_argN h0 q0).out W S) q0 ((s_own 7).out W S) (ap_row S 7 4 (by decide))) ⟨.inr (by kernel_rfl), ?_⟩)
                  refine ap 27 1 ?_
                  refine ax 28 rfl (x_sto 2 g1_1 0 (ePattern (⟨v4_3.1, v4_7.1, v4_12.1, v4_21.1, v4_26.1⟩ : Pattern)) ⟨.inl (by kernel_rfl), ?_⟩)
                  refine a_done ?_
                  refine pick [4, 0, 1, 2, 3, 5, 6, 7] [box g0 94 [.slice A0 (List.length a0) k0, .int .i64 v4_26.2.1, .int .u64 v4_26.2.2], box g0_0 38 (eSign a1), box g0_1 79 (ePattern zPattern), box g1_1 79 (ePattern (⟨v4_3.1, v4_7.1, v4_12.1, v4_21.1, v4_26.1⟩ : Pattern)), box g2_5 79 (ePattern v2_1.1), rowT (eI .i64) w.heap.size 3 (.slice A4_11 (List.length ([(-1), v2_1.1.Region] : List Int)) k4_11) ([(-1), v2_1.1.Region] : List Int), rowT eS w.heap.size 9 (.slice A4_20 (List.length ([([42] : Str), v2_1.1.Steps, v4_19.1] : List Str)) k4_20) ([([42] : Str), v2_1.1.Steps, v4_19.1] : List Str), rowT (eI .i64) w.heap.size 3 (.slice A4_25 (List.length ([0, v2_1.1.Hands] : List Int)) k4_25) ([0, v2_1.1.Hands] : List Int)] ?_
                  replace h := H.done h
                  exact hj14 (v4_26.2.1, v4_26.2.2, (⟨v4_3.1, v4_7.1, v4_12.1, v4_21.1, v4_26.1⟩ : Pattern), ([(-1), v2_1.1.Region] : List Int), ([([42] : Str), v2_1.1.Steps, v4_19.1] : List Str), ([0, v2_1.1.Hands] : List Int), A4_11, k4_11, A4_20, k4_20, A4_25, k4_25) _ _ h (by kernel_rfl) (by kernel_rfl)
                refine (e_lit (e := (eI .i64)) (el := 3) [.int .i64 0, .int .i64 v2_1.1.Hands] ([0, v2_1.1.Hands] : List Int) fun A4_25 k4_25 => ⟨.inr (by kernel_rfl), ?_⟩)
                refine ax 20 rfl (e_lit (e := eS) (el := 9) [.string (bs ([42] : Str)), .string (bs v2_1.1.Steps), .string (bs v4_19.1)] ([([42] : Str), v2_1.1.Steps, v4_19.1] : List Str) fun A4_20 k4_20 => ⟨.inr (by kernel_rfl), ?_⟩)
                obtain ⟨v4_21, hv4_21, h⟩ := H.call h
                refine ax 21 rfl (e_cq (cs' := [.slice A0 (List.length a0) k0, .int .i64 v4_21.2.1, .int .u64 v4_21.2.2]) (v := .string (bs v4_21.1)) 4 [.pointer (some ⟨g0, 0, none⟩), .slice A4_20 (List.length ([([42] : Str), v2_1.1.Steps, v4_19.1] : List Str)) k4_20] func117 (fun W S => C.s_l1Cur_of W hv4_21 (S.bx 4) ((s_argN h0 q0).out W S) q0 ((s_own 7).out W S) (ap_row S 7 4 (by decide))) ⟨.inr (by kernel_rfl), ?_⟩)
                obtain ⟨v4_26, hv4_26, h⟩ := H.call h
                refine ax 26 rfl (e_cq (cs' := [.slice A0 (List.length a0) k0, .int .i64 v4_26.2.1, .int .u64 v4_26.2.2]) (v := .int .i64 v4_26.1) 4 [.pointer (some ⟨g0, 0, none⟩), .slice A4_25 (List.length ([0, v2_1.1.Hands] : List Int)) k4_25] func143 (fun W S => C.s_l1Cur_among W hv4_26 (S.bx 4) ((s_argN h0 q0).out W S) q0 ((s_own 6).out W S) (ap_row S 6 4 (by decide))) ⟨.inr (by kernel_rfl), ?_⟩)
                refine ap 27 1 ?_
                refine ax 28 rfl (x_sto 2 g1_1 0 (ePattern (⟨v4_3.1, v4_7.1, v4_12.1, v4_21.1, v4_26.1⟩ : Pattern)) ⟨.inl (by kernel_rfl), ?_⟩)
                refine a_done ?_
                refine swp [box g0_0 38 (eSign a1), box g0_1 79 (ePattern zPattern), box g1_1 79 (ePattern (⟨v4_3.1, v4_7.1, v4_12.1, v4_21.1, v4_26.1⟩ : Pattern)), box g2_5 79 (ePattern v2_1.1), box g0 94 [.slice A0 (List.length a0) k0, .int .i64 v4_26.2.1, .int .u64 v4_26.2.2], rowT (eI .i64) w.heap.size 3 (.slice A4_11 (List.length ([(-1), v2_1.1.Region] : List Int)) k4_11) ([(-1), v2_1.1.Region] : List Int)] (rowT (eI .i64) w.heap.size 3 (.slice A4_25 (List.length ([0, v2_1.1.Hands] : List Int)) k4_25) ([0, v2_1.1.Hands] : List Int)) (rowT eS w.heap.size 9 (.slice A4_20 (List.length ([([42] : Str), v2_1.1.Steps, v4_19.1] : List Str)) k4_20) ([([42] : Str), v2_1.1.Steps, v4_19.1] : List Str)) ?_
                refine pick [4, 0, 1, 2, 3, 5, 6, 7] [box g0 94 [.slice A0 (List.length a0) k0, .int .i64 v4_26.2.1, .int .u64 v4_26.2.2], box g0_0 38 (eSign a1), box g0_1 79 (ePattern zPattern), box g1_1 79 (ePattern (⟨v4_3.1, v4_7.1, v4_12.1, v4_21.1, v4_26.1⟩ : Pattern)), box g2_5 79 (ePattern v2_1.1), rowT (eI .i64) w.heap.size 3 (.slice A4_11 (List.length ([(-1), v2_1.1.Region] : List Int)) k4_11) ([(-1), v2_1.1.Region] : List Int), rowT eS w.heap.size 9 (.slice A4_20 (List.length ([([42] : Str), v2_1.1.Steps, v4_19.1] : List Str)) k4_20) ([([42] : Str), v2_1.1.Steps, v4_19.1] : List Str), rowT (eI .i64) w.heap.size 3 (.slice A4_25 (List.length ([0, v2_1.1.Hands] : List Int)) k4_25) ([0, v2_1.1.Hands] : List Int)] ?_
                replace h := H.done h
                exact hj14 (v4_26.2.1, v4_26.2.2, (⟨v4_3.1, v4_7.1, v4_12.1, v4_21.1, v4_26.1⟩ : Pattern), ([(-1), v2_1.1.Region] : List Int), ([([42] : Str), v2_1.1.Steps, v4_19.1] : List Str), ([0, v2_1.1.Hands] : List Int), A4_11, k4_11, A4_20, k4_20, A4_25, k4_25) _ _ h (by kernel_rfl) (by kernel_rfl)
              refine (e_lit (e := (eI .i64)) (el := 3) [.int .i64 0, .int .i64 v2_1.1.Hands] ([0, v2_1.1.Hands] : List Int) fun A4_25 k4_25 => ⟨.inr (by kernel_rfl), ?_⟩)
              obtain ⟨v4_19, hv4_19, h⟩ := H.call h
              refine ax 19 rfl (e_cq (cs' := [.slice A0 (List.length a0) k0, .int .i64 v4_19.2.1, .int .u64 v4_19.2.2]) (v := .string (bs v4_19.1)) 4 [.pointer (some ⟨g0, 0, none⟩), .string (bs v2_1.1.Steps)] func139 (fun W S => C.s_l1Cur_blur W hv4_19 (S.bx 4) ((s_argN h0 q0).out W S) q0) ⟨.inr (by kernel_rfl), ?_⟩)
              refine ax 20 rfl (e_lit (e := eS) (el := 9) [.string (bs ([42] : Str)), .string (bs v2_1.1.Steps), .string (bs v4_19.1)] ([([42] : Str), v2_1.1.Steps, v4_19.1] : List Str) fun A4_20 k4_20 => ⟨.inr (by kernel_rfl), ?_⟩)
              obtain ⟨v4_21, hv4_21, h⟩ := H.call h
              refine ax 21 rfl (e_cq (cs' := [.slice A0 (List.length a0) k0, .int .i64 v4_21.2.1, .int .u64 v4_21.2.2]) (v := .string (bs v4_21.1)) 4 [.pointer (some ⟨g0, 0, none⟩), .slice A4_20 (List.length ([([42] : Str), v2_1.1.Steps, v4_19.1] : List Str)) k4_20] func117 (fun W S => C.s_l1Cur_of W hv4_21 (S.bx 4) ((s_argN h0 q0).out W S) q0 ((s_own 7).out W S) (ap_row S 7 4 (by decide))) ⟨.inr (by kernel_rfl), ?_⟩)
              obtain ⟨v4_26, hv4_26, h⟩ := H.call h
              refine ax 26 rfl (e_cq (cs' := [.slice A0 (List.length a0) k0, .int .i64 v4_26.2.1, .int .u64 v4_26.2.2]) (v := .int .i64 v4_26.1) 4 [.pointer (some ⟨g0, 0, none⟩), .slice A4_25 (List.length ([0, v2_1.1.Hands] : List Int)) k4_25] func143 (fun W S => C.s_l1Cur_among W hv4_26 (S.bx 4) ((s_argN h0 q0).out W S) q0 ((s_own 6).out W S) (ap_row S 6 4 (by decide))) ⟨.inr (by kernel_rfl), ?_⟩)
              refine ap 27 1 ?_
              refine ax 28 rfl (x_sto 2 g1_1 0 (ePattern (⟨v4_3.1, v4_7.1, v4_12.1, v4_21.1, v4_26.1⟩ : Pattern)) ⟨.inl (by kernel_rfl), ?_⟩)
              refine a_done ?_
              refine swp [box g0_0 38 (eSign a1), box g0_1 79 (ePattern zPattern), box g1_1 79 (ePattern (⟨v4_3.1, v4_7.1, v4_12.1, v4_21.1, v4_26.1⟩ : Pattern)), box g2_5 79 (ePattern v2_1.1), box g0 94 [.slice A0 (List.length a0) k0, .int .i64 v4_26.2.1, .int .u64 v4_26.2.2], rowT (eI .i64) w.heap.size 3 (.slice A4_11 (List.length ([(-1), v2_1.1.Region] : List Int)) k4_11) ([(-1), v2_1.1.Region] : List Int)] (rowT (eI .i64) w.heap.size 3 (.slice A4_25 (List.length ([0, v2_1.1.Hands] : List Int)) k4_25) ([0, v2_1.1.Hands] : List Int)) (rowT eS w.heap.size 9 (.slice A4_20 (List.length ([([42] : Str), v2_1.1.Steps, v4_19.1] : List Str)) k4_20) ([([42] : Str), v2_1.1.Steps, v4_19.1] : List Str)) ?_
              refine pick [4, 0, 1, 2, 3, 5, 6, 7] [box g0 94 [.slice A0 (List.length a0) k0, .int .i64 v4_26.2.1, .int .u64 v4_26.2.2], box g0_0 38 (eSign a1), box g0_1 79 (ePattern zPattern), box g1_1 79 (ePattern (⟨v4_3.1, v4_7.1, v4_12.1, v4_21.1, v4_26.1⟩ : Pattern)), box g2_5 79 (ePattern v2_1.1), rowT (eI .i64) w.heap.size 3 (.slice A4_11 (List.length ([(-1), v2_1.1.Region] : List Int)) k4_11) ([(-1), v2_1.1.Region] : List Int), rowT eS w.heap.size 9 (.slice A4_20 (List.length ([([42] : Str), v2_1.1.Steps, v4_19.1] : List Str)) k4_20) ([([42] : Str), v2_1.1.Steps, v4_19.1] : List Str), rowT (eI .i64) w.heap.size 3 (.slice A4_25 (List.length ([0, v2_1.1.Hands] : List Int)) k4_25) ([0, v2_1.1.Hands] : List Int)] ?_
              replace h := H.done h
              exact hj14 (v4_26.2.1, v4_26.2.2, (⟨v4_3.1, v4_7.1, v4_12.1, v4_21.1, v4_26.1⟩ : Pattern), ([(-1), v2_1.1.Region] : List Int), ([([42] : Str), v2_1.1.Steps, v4_19.1] : List Str), ([0, v2_1.1.Hands] : List Int), A4_11, k4_11, A4_20, k4_20, A4_25, k4_25) _ _ h (by kernel_rfl) (by kernel_rfl)
            refine (e_lit (e := (eI .i64)) (el := 3) [.int .i64 0, .int .i64 v2_1.1.Hands] ([0, v2_1.1.Hands] : List Int) fun A4_25 k4_25 => ⟨.inr (by kernel_rfl), ?_⟩)
            obtain ⟨v4_12, hv4_12, h⟩ := H.call h
            refine ax 12 rfl (e_cq (cs' := [.slice A0 (List.length a0) k0, .int .i64 v4_12.2.1, .int .u64 v4_12.2.2]) (v := .int .i64 v4_12.1) 4 [.pointer (some ⟨g0, 0, none⟩), .slice A4_11 (List.length ([(-1), v2_1.1.Region] : List Int)) k4_11] func143 (fun W S => C.s_l1Cur_among W hv4_12 (S.bx 4) ((s_argN h0 q0).out W S) q0 ((s_own 5).out W S) (ap_row S 5 4 (by decide))) ⟨.inr (by kernel_rfl), ?_⟩)
            obtain ⟨v4_19, hv4_19, h⟩ := H.call h
            refine ax 19 rfl (e_cq (cs' := [.slice A0 (List.length a0) k0, .int .i64 v4_19.2.1, .int .u64 v4_19.2.2]) (v := .string (bs v4_19.1)) 4 [.pointer (some ⟨g0, 0, none⟩), .string (bs v2_1.1.Steps)] func139 (fun W S => C.s_l1Cur_blur W hv4_19 (S.bx 4) ((s_argN h0 q0).out W S) q0) ⟨.inr (by kernel_rfl), ?_⟩)
            refine ax 20 rfl (e_lit (e := eS) (el := 9) [.string (bs ([42] : Str)), .string (bs v2_1.1.Steps), .string (bs v4_19.1)] ([([42] : Str), v2_1.1.Steps, v4_19.1] : List Str) fun A4_20 k4_20 => ⟨.inr (by kernel_rfl), ?_⟩)
            obtain ⟨v4_21, hv4_21, h⟩ := H.call h
            refine ax 21 rfl (e_cq (cs' := [.slice A0 (List.length a0) k0, .int .i64 v4_21.2.1, .int .u64 v4_21.2.2]) (v := .string (bs v4_21.1)) 4 [.pointer (some ⟨g0, 0, none⟩), .slice A4_20 (List.length ([([42] : Str), v2_1.1.Steps, v4_19.1] : List Str)) k4_20] func117 (fun W S => C.s_l1Cur_of W hv4_21 (S.bx 4) ((s_argN h0 q0).out W S) q0 ((s_own 7).out W S) (ap_row S 7 4 (by decide))) ⟨.inr (by kernel_rfl), ?_⟩)
            obtain ⟨v4_26, hv4_26, h⟩ := H.call h
            refine ax 26 rfl (e_cq (cs' := [.slice A0 (List.length a0) k0, .int .i64 v4_26.2.1, .int .u64 v4_26.2.2]) (v := .int .i64 v4_26.1) 4 [.pointer (some ⟨g0, 0, none⟩), .slice A4_25 (List.length ([0, v2_1.1.Hands] : List Int)) k4_25] func143 (fun W S => C.s_l1Cur_among W hv4_26 (S.bx 4) ((s_argN h0 q0).out W S) q0 ((s_own 6).out W S) (ap_row S 6 4 (by decide))) ⟨.inr (by kernel_rfl), ?_⟩)
            refine ap 27 1 ?_
            refine ax 28 rfl (x_sto 2 g1_1 0 (ePattern (⟨v4_3.1, v4_7.1, v4_12.1, v4_21.1, v4_26.1⟩ : Pattern)) ⟨.inl (by kernel_rfl), ?_⟩)
            refine a_done ?_
            refine swp [box g0_0 38 (eSign a1), box g0_1 79 (ePattern zPattern), box g1_1 79 (ePattern (⟨v4_3.1, v4_7.1, v4_12.1, v4_21.1, v4_26.1⟩ : Pattern)), box g2_5 79 (ePattern v2_1.1), box g0 94 [.slice A0 (List.length a0) k0, .int .i64 v4_26.2.1, .int .u64 v4_26.2.2], rowT (eI .i64) w.heap.size 3 (.slice A4_11 (List.length ([(-1), v2_1.1.Region] : List Int)) k4_11) ([(-1), v2_1.1.Region] : List Int)] (rowT (eI .i64) w.heap.size 3 (.slice A4_25 (List.length ([0, v2_1.1.Hands] : List Int)) k4_25) ([0, v2_1.1.Hands] : List Int)) (rowT eS w.heap.size 9 (.slice A4_20 (List.length ([([42] : Str), v2_1.1.Steps, v4_19.1] : List Str)) k4_20) ([([42] : Str), v2_1.1.Steps, v4_19.1] : List Str)) ?_
            refine pick [4, 0, 1, 2, 3, 5, 6, 7] [box g0 94 [.slice A0 (List.length a0) k0, .int .i64 v4_26.2.1, .int .u64 v4_26.2.2], box g0_0 38 (eSign a1), box g0_1 79 (ePattern zPattern), box g1_1 79 (ePattern (⟨v4_3.1, v4_7.1, v4_12.1, v4_21.1, v4_26.1⟩ : Pattern)), box g2_5 79 (ePattern v2_1.1), rowT (eI .i64) w.heap.size 3 (.slice A4_11 (List.length ([(-1), v2_1.1.Region] : List Int)) k4_11) ([(-1), v2_1.1.Region] : List Int), rowT eS w.heap.size 9 (.slice A4_20 (List.length ([([42] : Str), v2_1.1.Steps, v4_19.1] : List Str)) k4_20) ([([42] : Str), v2_1.1.Steps, v4_19.1] : List Str), rowT (eI .i64) w.heap.size 3 (.slice A4_25 (List.length ([0, v2_1.1.Hands] : List Int)) k4_25) ([0, v2_1.1.Hands] : List Int)] ?_
            replace h := H.done h
            exact hj14 (v4_26.2.1, v4_26.2.2, (⟨v4_3.1, v4_7.1, v4_12.1, v4_21.1, v4_26.1⟩ : Pattern), ([(-1), v2_1.1.Region] : List Int), ([([42] : Str), v2_1.1.Steps, v4_19.1] : List Str), ([0, v2_1.1.Hands] : List Int), A4_11, k4_11, A4_20, k4_20, A4_25, k4_25) _ _ h (by kernel_rfl) (by kernel_rfl)
          refine (e_lit (e := (eI .i64)) (el := 3) [.int .i64 0, .int .i64 v2_1.1.Hands] ([0, v2_1.1.Hands] : List Int) fun A4_25 k4_25 => ⟨.inr (by kernel_rfl), ?_⟩)
          refine ax 11 rfl (e_lit (e := (eI .i64)) (el := 3) [.int .i64 (-1), .int .i64 v2_1.1.Region] ([(-1), v2_1.1.Region] : List Int) fun A4_11 k4_11 => ⟨.inr (by kernel_rfl), ?_⟩)
          obtain ⟨v4_12, hv4_12, h⟩ := H.call h
          refine ax 12 rfl (e_cq (cs' := [.slice A0 (List.length a0) k0, .int .i64 v4_12.2.1, .int .u64 v4_12.2.2]) (v := .int .i64 v4_12.1) 4 [.pointer (some ⟨g0, 0, none⟩), .slice A4_11 (List.length ([(-1), v2_1.1.Region] : List Int)) k4_11] func143 (fun W S => C.s_l1Cur_among W hv4_12 (S.bx 4) ((s_argN h0 q0).out W S) q0 ((s_own 6).out W S) (ap_row S 6 4 (by decide))) ⟨.inr (by kernel_rfl), ?_⟩)
          obtain ⟨v4_19, hv4_19, h⟩ := H.call h
          refine ax 19 rfl (e_cq (cs' := [.slice A0 (List.length a0) k0, .int .i64 v4_19.2.1, .int .u64 v4_19.2.2]) (v := .string (bs v4_19.1)) 4 [.pointer (some ⟨g0, 0, none⟩), .string (bs v2_1.1.Steps)] func139 (fun W S => C.s_l1Cur_blur W hv4_19 (S.bx 4) ((s_argN h0 q0).out W S) q0) ⟨.inr (by kernel_rfl), ?_⟩)
          refine ax 20 rfl (e_lit (e := eS) (el := 9) [.string (bs ([42] : Str)), .string (bs v2_1.1.Steps), .string (bs v4_19.1)] ([([42] : Str), v2_1.1.Steps, v4_19.1] : List Str) fun A4_20 k4_20 => ⟨.inr (by kernel_rfl), ?_⟩)
          obtain ⟨v4_21, hv4_21, h⟩ := H.call h
          refine ax 21 rfl (e_cq (cs' := [.slice A0 (List.length a0) k0, .int .i64 v4_21.2.1, .int .u64 v4_21.2.2]) (v := .string (bs v4_21.1)) 4 [.pointer (some ⟨g0, 0, none⟩), .slice A4_20 (List.length ([([42] : Str), v2_1.1.Steps, v4_19.1] : List Str)) k4_20] func117 (fun W S => C.s_l1Cur_of W hv4_21 (S.bx 4) ((s_argN h0 q0).out W S) q0 ((s_own 7).out W S) (ap_row S 7 4 (by decide))) ⟨.inr (by kernel_rfl), ?_⟩)
          obtain ⟨v4_26, hv4_26, h⟩ := H.call h
          refine ax 26 rfl (e_cq (cs' := [.slice A0 (List.length a0) k0, .int .i64 v4_26.2.1, .int .u64 v4_26.2.2]) (v := .int .i64 v4_26.1) 4 [.pointer (some ⟨g0, 0, none⟩), .slice A4_25 (List.length ([0, v2_1.1.Hands] : List Int)) k4_25] func143 (fun W S => C.s_l1Cur_among W hv4_26 (S.bx 4) ((s_argN h0 q0).out W S) q0 ((s_own 5).out W S) (ap_row S 5 4 (by decide))) ⟨.inr (by kernel_rfl), ?_⟩)
          refine ap 27 1 ?_
          refine ax 28 rfl (x_sto 2 g1_1 0 (ePattern (⟨v4_3.1, v4_7.1, v4_12.1, v4_21.1, v4_26.1⟩ : Pattern)) ⟨.inl (by kernel_rfl), ?_⟩)
          refine a_done ?_
          refine pick [0, 1, 2, 3, 4, 6, 7, 5] [box g0_0 38 (eSign a1), box g0_1 79 (ePattern zPattern), box g1_1 79 (ePattern (⟨v4_3.1, v4_7.1, v4_12.1, v4_21.1, v4_26.1⟩ : Pattern)), box g2_5 79 (ePattern v2_1.1), box g0 94 [.slice A0 (List.length a0) k0, .int .i64 v4_26.2.1, .int .u64 v4_26.2.2], rowT (eI .i64) w.heap.size 3 (.slice A4_11 (List.length ([(-1), v2_1.1.Region] : List Int)) k4_11) ([(-1), v2_1.1.Region] : List Int), rowT eS w.heap.size 9 (.slice A4_20 (List.length ([([42] : Str), v2_1.1.Steps, v4_19.1] : List Str)) k4_20) ([([42] : Str), v2_1.1.Steps, v4_19.1] : List Str), rowT (eI .i64) w.heap.size 3 (.slice A4_25 (List.length ([0, v2_1.1.Hands] : List Int)) k4_25) ([0, v2_1.1.Hands] : List Int)] ?_
          refine pick [4, 0, 1, 2, 3, 5, 6, 7] [box g0 94 [.slice A0 (List.length a0) k0, .int .i64 v4_26.2.1, .int .u64 v4_26.2.2], box g0_0 38 (eSign a1), box g0_1 79 (ePattern zPattern), box g1_1 79 (ePattern (⟨v4_3.1, v4_7.1, v4_12.1, v4_21.1, v4_26.1⟩ : Pattern)), box g2_5 79 (ePattern v2_1.1), rowT (eI .i64) w.heap.size 3 (.slice A4_11 (List.length ([(-1), v2_1.1.Region] : List Int)) k4_11) ([(-1), v2_1.1.Region] : List Int), rowT eS w.heap.size 9 (.slice A4_20 (List.length ([([42] : Str), v2_1.1.Steps, v4_19.1] : List Str)) k4_20) ([([42] : Str), v2_1.1.Steps, v4_19.1] : List Str), rowT (eI .i64) w.heap.size 3 (.slice A4_25 (List.length ([0, v2_1.1.Hands] : List Int)) k4_25) ([0, v2_1.1.Hands] : List Int)] ?_
          replace h := H.done h
          exact hj14 (v4_26.2.1, v4_26.2.2, (⟨v4_3.1, v4_7.1, v4_12.1, v4_21.1, v4_26.1⟩ : Pattern), ([(-1), v2_1.1.Region] : List Int), ([([42] : Str), v2_1.1.Steps, v4_19.1] : List Str), ([0, v2_1.1.Hands] : List Int), A4_11, k4_11, A4_20, k4_20, A4_25, k4_25) _ _ h (by kernel_rfl) (by kernel_rfl)
        · skip
          refine (e_lit (e := (eI .i64)) (el := 3) [.int .i64 (-1), .int .i64 v2_1.1.Region] ([(-1), v2_1.1.Region] : List Int) fun A4_11 k4_11 => ⟨.inr (by kernel_rfl), ?_⟩)
          refine a_two 7 25 rfl rfl ?_ ?_
          · skip
            obtain ⟨v4_7, hv4_7, h⟩ := H.call h
            refine (e_cq (cs' := [.slice A0 (List.length a0) k0, .int .i64 v4_7.2.1, .int .u64 v4_7.2.2]) (v := .string (bs v4_7.1)) 4 [.pointer (some ⟨g0, 0, none⟩), .string (bs v2_1.1.Orient)] func139 (fun W S => C.s_l1Cur_blur W hv4_7 (S.bx 4) ((s_argN h0 q0).out W S) q0) ⟨.inr (by kernel_rfl), ?_⟩)
            refine a_two 12 25 rfl rfl ?_ ?_
            · skip
              obtain ⟨v4_12, hv4_12, h⟩ := H.call h
              refine (e_cq (cs' := [.slice A0 (List.length a0) k0, .int .i64 v4_12.2.1, .int .u64 v4_12.2.2]) (v := .int .i64 v4_12.1) 4 [.pointer (some ⟨g0, 0, none⟩), .slice A4_11 (List.length ([(-1), v2_1.1.Region] : List Int)) k4_11] func143 (fun W S => C.s_l1Cur_among W hv4_12 (S.bx 4) ((s_argN h0 q0).out W S) q0 ((s_own 5).out W S) (ap_row S 5 4 (by decide))) ⟨.inr (by kernel_rfl), ?_⟩)
              refine a_two 19 25 rfl rfl ?_ ?_
              · skip
                obtain ⟨v4_19, hv4_19, h⟩ := H.call h
                refine (e_cq (cs' := [.slice A0 (List.length a0) k0, .int .i64 v4_19.2.1, .int .u64 v4_19.2.2]) (v := .string (bs v4_19.1)) 4 [.pointer (some ⟨g0, 0, none⟩), .string (bs v2_1.1.Steps)] func139 (fun W S => C.s_l1Cur_blur W hv4_19 (S.bx 4) ((s_argN h0 q0).out W S) q0) ⟨.inr (by kernel_rfl), ?_⟩)
                refine a_two 20 25 rfl rfl ?_ ?_
                · skip
                  refine (e_lit (e := eS) (el := 9) [.string (bs ([42] : Str)), .string (bs v2_1.1.Steps), .string (bs v4_19.1)] ([([42] : Str), v2_1.1.Steps, v4_19.1] : List Str) fun A4_20 k4_20 => ⟨.inr (by kernel_rfl), ?_⟩)
                  refine a_two 21 25 rfl rfl ?_ ?_
                  · skip
                    obtain ⟨v4_21, hv4_21, h⟩ := H.call h
                    refine (e_cq (cs' := [.slice A0 (List.length a0) k0, .int .i64 v4_21.2.1, .int .u64 v4_21.2.2]) (v := .string (bs v4_21.1)) 4 [.pointer (some ⟨g0, 0, none⟩), .slice A4_20 (List.length ([([42] : Str), v2_1.1.Steps, v4_19.1] : List Str)) k4_20] func117 (fun W S => C.s_l1Cur_of W hv4_21 (S.bx 4) ((s_argN h0 q0).out W S) q0 ((s_own 6).out W S) (ap_row S 6 4 (by decide))) ⟨.inr (by kernel_rfl), ?_⟩)
                    refine ax 25 rfl (e_lit (e := (eI .i64)) (el := 3) [.int .i64 0, .int .i64 v2_1.1.Hands] ([0, v2_1.1.Hands] : List Int) fun A4_25 k4_25 => ⟨.inr (by kernel_rfl), ?_⟩)
                    obtain ⟨v4_26, hv4_26, h⟩ := H.call h
                    refine ax 26 rfl (e_cq (cs' := [.slice A0 (List.length a0) k0, .int .i64 v4_26.2.1, .int .u64 v4_26.2.2]) (v := .int .i64 v4_26.1) 4 [.pointer (some ⟨g0, 0, none⟩), .slice A4_25 (List.length ([0, v2_1.1.Hands] : List Int)) k4_25] func143 (fun W S => C.s_l1Cur_among W hv4_26 (S.bx 4) ((s_argN h0 q0).out W S) q0 ((s_own 7).out W S) (ap_row S 7 4 (by decide))) ⟨.inr (by kernel_rfl), ?_⟩)
                    refine ap 27 1 ?_
                    refine ax 28 rfl (x_sto 2 g1_1 0 (ePattern (⟨v4_3.1, v4_7.1, v4_12.1, v4_21.1, v4_26.1⟩ : Pattern)) ⟨.inl (by kernel_rfl), ?_⟩)
                    refine a_done ?_
                    refine pick [4, 0, 1, 2, 3, 5, 6, 7] [box g0 94 [.slice A0 (List.length a0) k0, .int .i64 v4_26.2.1, .int .u64 v4_26.2.2], box g0_0 38 (eSign a1), box g0_1 79 (ePattern zPattern), box g1_1 79 (ePattern (⟨v4_3.1, v4_7.1, v4_12.1, v4_21.1, v4_26.1⟩ : Pattern)), box g2_5 79 (ePattern v2_1.1), rowT (eI .i64) w.heap.size 3 (.slice A4_11 (List.length ([(-1), v2_1.1.Region] : List Int)) k4_11) ([(-1), v2_1.1.Region] : List Int), rowT eS w.heap.size 9 (.slice A4_20 (List.length ([([42] : Str), v2_1.1.Steps, v4_19.1] : List Str)) k4_20) ([([42] : Str), v2_1.1.Steps, v4_19.1] : List Str), rowT (eI .i64) w.heap.size 3 (.slice A4_25 (List.length ([0, v2_1.1.Hands] : List Int)) k4_25) ([0, v2_1.1.Hands] : List Int)] ?_
                    replace h := H.done h
                    exact hj14 (v4_26.2.1, v4_26.2.2, (⟨v4_3.1, v4_7.1, v4_12.1, v4_21.1, v4_26.1⟩ : Pattern), ([(-1), v2_1.1.Region] : List Int), ([([42] : Str), v2_1.1.Steps, v4_19.1] : List Str), ([0, v2_1.1.Hands] : List Int), A4_11, k4_11, A4_20, k4_20, A4_25, k4_25) _ _ h (by kernel_rfl) (by kernel_rfl)
                  refine (e_lit (e := (eI .i64)) (el := 3) [.int .i64 0, .int .i64 v2_1.1.Hands] ([0, v2_1.1.Hands] : List Int) fun A4_25 k4_25 => ⟨.inr (by kernel_rfl), ?_⟩)
                  obtain ⟨v4_21, hv4_21, h⟩ := H.call h
                  refine ax 21 rfl (e_cq (cs' := [.slice A0 (List.length a0) k0, .int .i64 v4_21.2.1, .int .u64 v4_21.2.2]) (v := .string (bs v4_21.1)) 4 [.pointer (some ⟨g0, 0, none⟩), .slice A4_20 (List.length ([([42] : Str), v2_1.1.Steps, v4_19.1] : List Str)) k4_20] func117 (fun W S => C.s_l1Cur_of W hv4_21 (S.bx 4) ((s_argN h0 q0).out W S) q0 ((s_own 6).out W S) (ap_row S 6 4 (by decide))) ⟨.inr (by kernel_rfl), ?_⟩)
                  obtain ⟨v4_26, hv4_26, h⟩ := H.call h
                  refine ax 26 rfl (e_cq (cs' := [.slice A0 (List.length a0) k0, .int .i64 v4_26.2.1, .int .u64 v4_26.2.2]) (v := .int .i64 v4_26.1) 4 [.pointer (some ⟨g0, 0, none⟩), .slice A4_25 (List.length ([0, v2_1.1.Hands] : List Int)) k4_25] func143 (fun W S => C.s_l1Cur_among W hv4_26 (S.bx 4) ((s_argN h0 q0).out W S) q0 ((s_own 7).out W S) (ap_row S 7 4 (by decide))) ⟨.inr (by kernel_rfl), ?_⟩)
                  refine ap 27 1 ?_
                  refine ax 28 rfl (x_sto 2 g1_1 0 (ePattern (⟨v4_3.1, v4_7.1, v4_12.1, v4_21.1, v4_26.1⟩ : Pattern)) ⟨.inl (by kernel_rfl), ?_⟩)
                  refine a_done ?_
                  refine pick [4, 0, 1, 2, 3, 5, 6, 7] [box g0 94 [.slice A0 (List.length a0) k0, .int .i64 v4_26.2.1, .int .u64 v4_26.2.2], box g0_0 38 (eSign a1), box g0_1 79 (ePattern zPattern), box g1_1 79 (ePattern (⟨v4_3.1, v4_7.1, v4_12.1, v4_21.1, v4_26.1⟩ : Pattern)), box g2_5 79 (ePattern v2_1.1), rowT (eI .i64) w.heap.size 3 (.slice A4_11 (List.length ([(-1), v2_1.1.Region] : List Int)) k4_11) ([(-1), v2_1.1.Region] : List Int), rowT eS w.heap.size 9 (.slice A4_20 (List.length ([([42] : Str), v2_1.1.Steps, v4_19.1] : List Str)) k4_20) ([([42] : Str), v2_1.1.Steps, v4_19.1] : List Str), rowT (eI .i64) w.heap.size 3 (.slice A4_25 (List.length ([0, v2_1.1.Hands] : List Int)) k4_25) ([0, v2_1.1.Hands] : List Int)] ?_
                  replace h := H.done h
                  exact hj14 (v4_26.2.1, v4_26.2.2, (⟨v4_3.1, v4_7.1, v4_12.1, v4_21.1, v4_26.1⟩ : Pattern), ([(-1), v2_1.1.Region] : List Int), ([([42] : Str), v2_1.1.Steps, v4_19.1] : List Str), ([0, v2_1.1.Hands] : List Int), A4_11, k4_11, A4_20, k4_20, A4_25, k4_25) _ _ h (by kernel_rfl) (by kernel_rfl)
                refine (e_lit (e := (eI .i64)) (el := 3) [.int .i64 0, .int .i64 v2_1.1.Hands] ([0, v2_1.1.Hands] : List Int) fun A4_25 k4_25 => ⟨.inr (by kernel_rfl), ?_⟩)
                refine ax 20 rfl (e_lit (e := eS) (el := 9) [.string (bs ([42] : Str)), .string (bs v2_1.1.Steps), .string (bs v4_19.1)] ([([42] : Str), v2_1.1.Steps, v4_19.1] : List Str) fun A4_20 k4_20 => ⟨.inr (by kernel_rfl), ?_⟩)
                obtain ⟨v4_21, hv4_21, h⟩ := H.call h
                refine ax 21 rfl (e_cq (cs' := [.slice A0 (List.length a0) k0, .int .i64 v4_21.2.1, .int .u64 v4_21.2.2]) (v := .string (bs v4_21.1)) 4 [.pointer (some ⟨g0, 0, none⟩), .slice A4_20 (List.length ([([42] : Str), v2_1.1.Steps, v4_19.1] : List Str)) k4_20] func117 (fun W S => C.s_l1Cur_of W hv4_21 (S.bx 4) ((s_argN h0 q0).out W S) q0 ((s_own 7).out W S) (ap_row S 7 4 (by decide))) ⟨.inr (by kernel_rfl), ?_⟩)
                obtain ⟨v4_26, hv4_26, h⟩ := H.call h
                refine ax 26 rfl (e_cq (cs' := [.slice A0 (List.length a0) k0, .int .i64 v4_26.2.1, .int .u64 v4_26.2.2]) (v := .int .i64 v4_26.1) 4 [.pointer (some ⟨g0, 0, none⟩), .slice A4_25 (List.length ([0, v2_1.1.Hands] : List Int)) k4_25] func143 (fun W S => C.s_l1Cur_among W hv4_26 (S.bx 4) ((s_argN h0 q0).out W S) q0 ((s_own 6).out W S) (ap_row S 6 4 (by decide))) ⟨.inr (by kernel_rfl), ?_⟩)
                refine ap 27 1 ?_
                refine ax 28 rfl (x_sto 2 g1_1 0 (ePattern (⟨v4_3.1, v4_7.1, v4_12.1, v4_21.1, v4_26.1⟩ : Pattern)) ⟨.inl (by kernel_rfl), ?_⟩)
                refine a_done ?_
                refine swp [box g0_0 38 (eSign a1), box g0_1 79 (ePattern zPattern), box g1_1 79 (ePattern (⟨v4_3.1, v4_7.1, v4_12.1, v4_21.1, v4_26.1⟩ : Pattern)), box g2_5 79 (ePattern v2_1.1), box g0 94 [.slice A0 (List.length a0) k0, .int .i64 v4_26.2.1, .int .u64 v4_26.2.2], rowT (eI .i64) w.heap.size 3 (.slice A4_11 (List.length ([(-1), v2_1.1.Region] : List Int)) k4_11) ([(-1), v2_1.1.Region] : List Int)] (rowT (eI .i64) w.heap.size 3 (.slice A4_25 (List.length ([0, v2_1.1.Hands] : List Int)) k4_25) ([0, v2_1.1.Hands] : List Int)) (rowT eS w.heap.size 9 (.slice A4_20 (List.length ([([42] : Str), v2_1.1.Steps, v4_19.1] : List Str)) k4_20) ([([42] : Str), v2_1.1.Steps, v4_19.1] : List Str)) ?_
                refine pick [4, 0, 1, 2, 3, 5, 6, 7] [box g0 94 [.slice A0 (List.length a0) k0, .int .i64 v4_26.2.1, .int .u64 v4_26.2.2], box g0_0 38 (eSign a1), box g0_1 79 (ePattern zPattern), box g1_1 79 (ePattern (⟨v4_3.1, v4_7.1, v4_12.1, v4_21.1, v4_26.1⟩ : Pattern)), box g2_5 79 (ePattern v2_1.1), rowT (eI .i64) w.heap.size 3 (.slice A4_11 (List.length ([(-1), v2_1.1.Region] : List Int)) k4_11) ([(-1), v2_1.1.Region] : List Int), rowT eS w.heap.size 9 (.slice A4_20 (List.length ([([42] : Str), v2_1.1.Steps, v4_19.1] : List Str)) k4_20) ([([42] : Str), v2_1.1.Steps, v4_19.1] : List Str), rowT (eI .i64) w.heap.size 3 (.slice A4_25 (List.length ([0, v2_1.1.Hands] : List Int)) k4_25) ([0, v2_1.1.Hands] : List Int)] ?_
                replace h := H.done h
                exact hj14 (v4_26.2.1, v4_26.2.2, (⟨v4_3.1, v4_7.1, v4_12.1, v4_21.1, v4_26.1⟩ : Pattern), ([(-1), v2_1.1.Region] : List Int), ([([42] : Str), v2_1.1.Steps, v4_19.1] : List Str), ([0, v2_1.1.Hands] : List Int), A4_11, k4_11, A4_20, k4_20, A4_25, k4_25) _ _ h (by kernel_rfl) (by kernel_rfl)
              refine (e_lit (e := (eI .i64)) (el := 3) [.int .i64 0, .int .i64 v2_1.1.Hands] ([0, v2_1.1.Hands] : List Int) fun A4_25 k4_25 => ⟨.inr (by kernel_rfl), ?_⟩)
              obtain ⟨v4_19, hv4_19, h⟩ := H.call h
              refine ax 19 rfl (e_cq (cs' := [.slice A0 (List.length a0) k0, .int .i64 v4_19.2.1, .int .u64 v4_19.2.2]) (v := .string (bs v4_19.1)) 4 [.pointer (some ⟨g0, 0, none⟩), .string (bs v2_1.1.Steps)] func139 (fun W S => C.s_l1Cur_blur W hv4_19 (S.bx 4) ((s_argN h0 q0).out W S) q0) ⟨.inr (by kernel_rfl), ?_⟩)
              refine ax 20 rfl (e_lit (e := eS) (el := 9) [.string (bs ([42] : Str)), .string (bs v2_1.1.Steps), .string (bs v4_19.1)] ([([42] : Str), v2_1.1.Steps, v4_19.1] : List Str) fun A4_20 k4_20 => ⟨.inr (by kernel_rfl), ?_⟩)
              obtain ⟨v4_21, hv4_21, h⟩ := H.call h
              refine ax 21 rfl (e_cq (cs' := [.slice A0 (List.length a0) k0, .int .i64 v4_21.2.1, .int .u64 v4_21.2.2]) (v := .string (bs v4_21.1)) 4 [.pointer (some ⟨g0, 0, none⟩), .slice A4_20 (List.length ([([42] : Str), v2_1.1.Steps, v4_19.1] : List Str)) k4_20] func117 (fun W S => C.s_l1Cur_of W hv4_21 (S.bx 4) ((s_argN h0 q0).out W S) q0 ((s_own 7).out W S) (ap_row S 7 4 (by decide))) ⟨.inr (by kernel_rfl), ?_⟩)
              obtain ⟨v4_26, hv4_26, h⟩ := H.call h
              refine ax 26 rfl (e_cq (cs' := [.slice A0 (List.length a0) k0, .int .i64 v4_26.2.1, .int .u64 v4_26.2.2]) (v := .int .i64 v4_26.1) 4 [.pointer (some ⟨g0, 0, none⟩), .slice A4_25 (List.length ([0, v2_1.1.Hands] : List Int)) k4_25] func143 (fun W S => C.s_l1Cur_among W hv4_26 (S.bx 4) ((s_argN h0 q0).out W S) q0 ((s_own 6).out W S) (ap_row S 6 4 (by decide))) ⟨.inr (by kernel_rfl), ?_⟩)
              refine ap 27 1 ?_
              refine ax 28 rfl (x_sto 2 g1_1 0 (ePattern (⟨v4_3.1, v4_7.1, v4_12.1, v4_21.1, v4_26.1⟩ : Pattern)) ⟨.inl (by kernel_rfl), ?_⟩)
              refine a_done ?_
              refine swp [box g0_0 38 (eSign a1), box g0_1 79 (ePattern zPattern), box g1_1 79 (ePattern (⟨v4_3.1, v4_7.1, v4_12.1, v4_21.1, v4_26.1⟩ : Pattern)), box g2_5 79 (ePattern v2_1.1), box g0 94 [.slice A0 (List.length a0) k0, .int .i64 v4_26.2.1, .int .u64 v4_26.2.2], rowT (eI .i64) w.heap.size 3 (.slice A4_11 (List.length ([(-1), v2_1.1.Region] : List Int)) k4_11) ([(-1), v2_1.1.Region] : List Int)] (rowT (eI .i64) w.heap.size 3 (.slice A4_25 (List.length ([0, v2_1.1.Hands] : List Int)) k4_25) ([0, v2_1.1.Hands] : List Int)) (rowT eS w.heap.size 9 (.slice A4_20 (List.length ([([42] : Str), v2_1.1.Steps, v4_19.1] : List Str)) k4_20) ([([42] : Str), v2_1.1.Steps, v4_19.1] : List Str)) ?_
              refine pick [4, 0, 1, 2, 3, 5, 6, 7] [box g0 94 [.slice A0 (List.length a0) k0, .int .i64 v4_26.2.1, .int .u64 v4_26.2.2], box g0_0 38 (eSign a1), box g0_1 79 (ePattern zPattern), box g1_1 79 (ePattern (⟨v4_3.1, v4_7.1, v4_12.1, v4_21.1, v4_26.1⟩ : Pattern)), box g2_5 79 (ePattern v2_1.1), rowT (eI .i64) w.heap.size 3 (.slice A4_11 (List.length ([(-1), v2_1.1.Region] : List Int)) k4_11) ([(-1), v2_1.1.Region] : List Int), rowT eS w.heap.size 9 (.slice A4_20 (List.length ([([42] : Str), v2_1.1.Steps, v4_19.1] : List Str)) k4_20) ([([42] : Str), v2_1.1.Steps, v4_19.1] : List Str), rowT (eI .i64) w.heap.size 3 (.slice A4_25 (List.length ([0, v2_1.1.Hands] : List Int)) k4_25) ([0, v2_1.1.Hands] : List Int)] ?_
              replace h := H.done h
              exact hj14 (v4_26.2.1, v4_26.2.2, (⟨v4_3.1, v4_7.1, v4_12.1, v4_21.1, v4_26.1⟩ : Pattern), ([(-1), v2_1.1.Region] : List Int), ([([42] : Str), v2_1.1.Steps, v4_19.1] : List Str), ([0, v2_1.1.Hands] : List Int), A4_11, k4_11, A4_20, k4_20, A4_25, k4_25) _ _ h (by kernel_rfl) (by kernel_rfl)
            refine (e_lit (e := (eI .i64)) (el := 3) [.int .i64 0, .int .i64 v2_1.1.Hands] ([0, v2_1.1.Hands] : List Int) fun A4_25 k4_25 => ⟨.inr (by kernel_rfl), ?_⟩)
            obtain ⟨v4_12, hv4_12, h⟩ := H.call h
            refine ax 12 rfl (e_cq (cs' := [.slice A0 (List.length a0) k0, .int .i64 v4_12.2.1, .int .u64 v4_12.2.2]) (v := .int .i64 v4_12.1) 4 [.pointer (some ⟨g0, 0, none⟩), .slice A4_11 (List.length ([(-1), v2_1.1.Region] : List Int)) k4_11] func143 (fun W S => C.s_l1Cur_among W hv4_12 (S.bx 4) ((s_argN h0 q0).out W S) q0 ((s_own 5).out W S) (ap_row S 5 4 (by decide))) ⟨.inr (by kernel_rfl), ?_⟩)
            obtain ⟨v4_19, hv4_19, h⟩ := H.call h
            refine ax 19 rfl (e_cq (cs' := [.slice A0 (List.length a0) k0, .int .i64 v4_19.2.1, .int .u64 v4_19.2.2]) (v := .string (bs v4_19.1)) 4 [.pointer (some ⟨g0, 0, none⟩), .string (bs v2_1.1.Steps)] func139 (fun W S => C.s_l1Cur_blur W hv4_19 (S.bx 4) ((s_argN h0 q0).out W S) q0) ⟨.inr (by kernel_rfl), ?_⟩)
            refine ax 20 rfl (e_lit (e := eS) (el := 9) [.string (bs ([42] : Str)), .string (bs v2_1.1.Steps), .string (bs v4_19.1)] ([([42] : Str), v2_1.1.Steps, v4_19.1] : List Str) fun A4_20 k4_20 => ⟨.inr (by kernel_rfl), ?_⟩)
            obtain ⟨v4_21, hv4_21, h⟩ := H.call h
            refine ax 21 rfl (e_cq (cs' := [.slice A0 (List.length a0) k0, .int .i64 v4_21.2.1, .int .u64 v4_21.2.2]) (v := .string (bs v4_21.1)) 4 [.pointer (some ⟨g0, 0, none⟩), .slice A4_20 (List.length ([([42] : Str), v2_1.1.Steps, v4_19.1] : List Str)) k4_20] func117 (fun W S => C.s_l1Cur_of W hv4_21 (S.bx 4) ((s_argN h0 q0).out W S) q0 ((s_own 7).out W S) (ap_row S 7 4 (by decide))) ⟨.inr (by kernel_rfl), ?_⟩)
            obtain ⟨v4_26, hv4_26, h⟩ := H.call h
            refine ax 26 rfl (e_cq (cs' := [.slice A0 (List.length a0) k0, .int .i64 v4_26.2.1, .int .u64 v4_26.2.2]) (v := .int .i64 v4_26.1) 4 [.pointer (some ⟨g0, 0, none⟩), .slice A4_25 (List.length ([0, v2_1.1.Hands] : List Int)) k4_25] func143 (fun W S => C.s_l1Cur_among W hv4_26 (S.bx 4) ((s_argN h0 q0).out W S) q0 ((s_own 6).out W S) (ap_row S 6 4 (by decide))) ⟨.inr (by kernel_rfl), ?_⟩)
            refine ap 27 1 ?_
            refine ax 28 rfl (x_sto 2 g1_1 0 (ePattern (⟨v4_3.1, v4_7.1, v4_12.1, v4_21.1, v4_26.1⟩ : Pattern)) ⟨.inl (by kernel_rfl), ?_⟩)
            refine a_done ?_
            refine swp [box g0_0 38 (eSign a1), box g0_1 79 (ePattern zPattern), box g1_1 79 (ePattern (⟨v4_3.1, v4_7.1, v4_12.1, v4_21.1, v4_26.1⟩ : Pattern)), box g2_5 79 (ePattern v2_1.1), box g0 94 [.slice A0 (List.length a0) k0, .int .i64 v4_26.2.1, .int .u64 v4_26.2.2], rowT (eI .i64) w.heap.size 3 (.slice A4_11 (List.length ([(-1), v2_1.1.Region] : List Int)) k4_11) ([(-1), v2_1.1.Region] : List Int)] (rowT (eI .i64) w.heap.size 3 (.slice A4_25 (List.length ([0, v2_1.1.Hands] : List Int)) k4_25) ([0, v2_1.1.Hands] : List Int)) (rowT eS w.heap.size 9 (.slice A4_20 (List.length ([([42] : Str), v2_1.1.Steps, v4_19.1] : List Str)) k4_20) ([([42] : Str), v2_1.1.Steps, v4_19.1] : List Str)) ?_
            refine pick [4, 0, 1, 2, 3, 5, 6, 7] [box g0 94 [.slice A0 (List.length a0) k0, .int .i64 v4_26.2.1, .int .u64 v4_26.2.2], box g0_0 38 (eSign a1), box g0_1 79 (ePattern zPattern), box g1_1 79 (ePattern (⟨v4_3.1, v4_7.1, v4_12.1, v4_21.1, v4_26.1⟩ : Pattern)), box g2_5 79 (ePattern v2_1.1), rowT (eI .i64) w.heap.size 3 (.slice A4_11 (List.length ([(-1), v2_1.1.Region] : List Int)) k4_11) ([(-1), v2_1.1.Region] : List Int), rowT eS w.heap.size 9 (.slice A4_20 (List.length ([([42] : Str), v2_1.1.Steps, v4_19.1] : List Str)) k4_20) ([([42] : Str), v2_1.1.Steps, v4_19.1] : List Str), rowT (eI .i64) w.heap.size 3 (.slice A4_25 (List.length ([0, v2_1.1.Hands] : List Int)) k4_25) ([0, v2_1.1.Hands] : List Int)] ?_
            replace h := H.done h
            exact hj14 (v4_26.2.1, v4_26.2.2, (⟨v4_3.1, v4_7.1, v4_12.1, v4_21.1, v4_26.1⟩ : Pattern), ([(-1), v2_1.1.Region] : List Int), ([([42] : Str), v2_1.1.Steps, v4_19.1] : List Str), ([0, v2_1.1.Hands] : List Int), A4_11, k4_11, A4_20, k4_20, A4_25, k4_25) _ _ h (by kernel_rfl) (by kernel_rfl)
          refine (e_lit (e := (eI .i64)) (el := 3) [.int .i64 0, .int .i64 v2_1.1.Hands] ([0, v2_1.1.Hands] : List Int) fun A4_25 k4_25 => ⟨.inr (by kernel_rfl), ?_⟩)
          obtain ⟨v4_7, hv4_7, h⟩ := H.call h
          refine ax 7 rfl (e_cq (cs' := [.slice A0 (List.length a0) k0, .int .i64 v4_7.2.1, .int .u64 v4_7.2.2]) (v := .string (bs v4_7.1)) 4 [.pointer (some ⟨g0, 0, none⟩), .string (bs v2_1.1.Orient)] func139 (fun W S => C.s_l1Cur_blur W hv4_7 (S.bx 4) ((s_argN h0 q0).out W S) q0) ⟨.inr (by kernel_rfl), ?_⟩)
          obtain ⟨v4_12, hv4_12, h⟩ := H.call h
          refine ax 12 rfl (e_cq (cs' := [.slice A0 (List.length a0) k0, .int .i64 v4_12.2.1, .int .u64 v4_12.2.2]) (v := .int .i64 v4_12.1) 4 [.pointer (some ⟨g0, 0, none⟩), .slice A4_11 (List.length ([(-1), v2_1.1.Region] : List Int)) k4_11] func143 (fun W S => C.s_l1Cur_among W hv4_12 (S.bx 4) ((s_argN h0 q0).out W S) q0 ((s_own 5).out W S) (ap_row S 5 4 (by decide))) ⟨.inr (by kernel_rfl), ?_⟩)
          obtain ⟨v4_19, hv4_19, h⟩ := H.call h
          refine ax 19 rfl (e_cq (cs' := [.slice A0 (List.length a0) k0, .int .i64 v4_19.2.1, .int .u64 v4_19.2.2]) (v := .string (bs v4_19.1)) 4 [.pointer (some ⟨g0, 0, none⟩), .string (bs v2_1.1.Steps)] func139 (fun W S => C.s_l1Cur_blur W hv4_19 (S.bx 4) ((s_argN h0 q0).out W S) q0) ⟨.inr (by kernel_rfl), ?_⟩)
          refine ax 20 rfl (e_lit (e := eS) (el := 9) [.string (bs ([42] : Str)), .string (bs v2_1.1.Steps), .string (bs v4_19.1)] ([([42] : Str), v2_1.1.Steps, v4_19.1] : List Str) fun A4_20 k4_20 => ⟨.inr (by kernel_rfl), ?_⟩)
          obtain ⟨v4_21, hv4_21, h⟩ := H.call h
          refine ax 21 rfl (e_cq (cs' := [.slice A0 (List.length a0) k0, .int .i64 v4_21.2.1, .int .u64 v4_21.2.2]) (v := .string (bs v4_21.1)) 4 [.pointer (some ⟨g0, 0, none⟩), .slice A4_20 (List.length ([([42] : Str), v2_1.1.Steps, v4_19.1] : List Str)) k4_20] func117 (fun W S => C.s_l1Cur_of W hv4_21 (S.bx 4) ((s_argN h0 q0).out W S) q0 ((s_own 7).out W S) (ap_row S 7 4 (by decide))) ⟨.inr (by kernel_rfl), ?_⟩)
          obtain ⟨v4_26, hv4_26, h⟩ := H.call h
          refine ax 26 rfl (e_cq (cs' := [.slice A0 (List.length a0) k0, .int .i64 v4_26.2.1, .int .u64 v4_26.2.2]) (v := .int .i64 v4_26.1) 4 [.pointer (some ⟨g0, 0, none⟩), .slice A4_25 (List.length ([0, v2_1.1.Hands] : List Int)) k4_25] func143 (fun W S => C.s_l1Cur_among W hv4_26 (S.bx 4) ((s_argN h0 q0).out W S) q0 ((s_own 6).out W S) (ap_row S 6 4 (by decide))) ⟨.inr (by kernel_rfl), ?_⟩)
          refine ap 27 1 ?_
          refine ax 28 rfl (x_sto 2 g1_1 0 (ePattern (⟨v4_3.1, v4_7.1, v4_12.1, v4_21.1, v4_26.1⟩ : Pattern)) ⟨.inl (by kernel_rfl), ?_⟩)
          refine a_done ?_
          refine swp [box g0_0 38 (eSign a1), box g0_1 79 (ePattern zPattern), box g1_1 79 (ePattern (⟨v4_3.1, v4_7.1, v4_12.1, v4_21.1, v4_26.1⟩ : Pattern)), box g2_5 79 (ePattern v2_1.1), box g0 94 [.slice A0 (List.length a0) k0, .int .i64 v4_26.2.1, .int .u64 v4_26.2.2], rowT (eI .i64) w.heap.size 3 (.slice A4_11 (List.length ([(-1), v2_1.1.Region] : List Int)) k4_11) ([(-1), v2_1.1.Region] : List Int)] (rowT (eI .i64) w.heap.size 3 (.slice A4_25 (List.length ([0, v2_1.1.Hands] : List Int)) k4_25) ([0, v2_1.1.Hands] : List Int)) (rowT eS w.heap.size 9 (.slice A4_20 (List.length ([([42] : Str), v2_1.1.Steps, v4_19.1] : List Str)) k4_20) ([([42] : Str), v2_1.1.Steps, v4_19.1] : List Str)) ?_
          refine pick [4, 0, 1, 2, 3, 5, 6, 7] [box g0 94 [.slice A0 (List.length a0) k0, .int .i64 v4_26.2.1, .int .u64 v4_26.2.2], box g0_0 38 (eSign a1), box g0_1 79 (ePattern zPattern), box g1_1 79 (ePattern (⟨v4_3.1, v4_7.1, v4_12.1, v4_21.1, v4_26.1⟩ : Pattern)), box g2_5 79 (ePattern v2_1.1), rowT (eI .i64) w.heap.size 3 (.slice A4_11 (List.length ([(-1), v2_1.1.Region] : List Int)) k4_11) ([(-1), v2_1.1.Region] : List Int), rowT eS w.heap.size 9 (.slice A4_20 (List.length ([([42] : Str), v2_1.1.Steps, v4_19.1] : List Str)) k4_20) ([([42] : Str), v2_1.1.Steps, v4_19.1] : List Str), rowT (eI .i64) w.heap.size 3 (.slice A4_25 (List.length ([0, v2_1.1.Hands] : List Int)) k4_25) ([0, v2_1.1.Hands] : List Int)] ?_
          replace h := H.done h
          exact hj14 (v4_26.2.1, v4_26.2.2, (⟨v4_3.1, v4_7.1, v4_12.1, v4_21.1, v4_26.1⟩ : Pattern), ([(-1), v2_1.1.Region] : List Int), ([([42] : Str), v2_1.1.Steps, v4_19.1] : List Str), ([0, v2_1.1.Hands] : List Int), A4_11, k4_11, A4_20, k4_20, A4_25, k4_25) _ _ h (by kernel_rfl) (by kernel_rfl)
        refine (e_lit (e := (eI .i64)) (el := 3) [.int .i64 0, .int .i64 v2_1.1.Hands] ([0, v2_1.1.Hands] : List Int) fun A4_25 k4_25 => ⟨.inr (by kernel_rfl), ?_⟩)
        refine a_two 7 11 rfl rfl ?_ ?_
        · skip
          obtain ⟨v4_7, hv4_7, h⟩ := H.call h
          refine (e_cq (cs' := [.slice A0 (List.length a0) k0, .int .i64 v4_7.2.1, .int .u64 v4_7.2.2]) (v := .string (bs v4_7.1)) 4 [.pointer (some ⟨g0, 0, none⟩), .string (bs v2_1.1.Orient)] func139 (fun W S => C.s_l1Cur_blur W hv4_7 (S.bx 4) ((s_argN h0 q0).out W S) q0) ⟨.inr (by kernel_rfl), ?_⟩)
          refine ax 11 rfl (e_lit (e := (eI .i64)) (el := 3) [.int .i64 (-1), .int .i64 v2_1.1.Region] ([(-1), v2_1.1.Region] : List Int) fun A4_11 k4_11 => ⟨.inr (by kernel_rfl), ?_⟩)
          obtain ⟨v4_12, hv4_12, h⟩ := H.call h
          refine ax 12 rfl (e_cq (cs' := [.slice A0 (List.length a0) k0, .int .i64 v4_12.2.1, .int .u64 v4_12.2.2]) (v := .int .i64 v4_12.1) 4 [.pointer (some ⟨g0, 0, none⟩), .slice A4_11 (List.length ([(-1), v2_1.1.Region] : List Int)) k4_11] func143 (fun W S => C.s_l1Cur_among W hv4_12 (S.bx 4) ((s_argN h0 q0).out W S) q0 ((s_own 6).out W S) (ap_row S 6 4 (by decide))) ⟨.inr (by kernel_rfl), ?_⟩)
          obtain ⟨v4_19, hv4_19, h⟩ := H.call h
          refine ax 19 rfl (e_cq (cs' := [.slice A0 (List.length a0) k0, .int .i64 v4_19.2.1, .int .u64 v4_19.2.2]) (v := .string (bs v4_19.1)) 4 [.pointer (some ⟨g0, 0, none⟩), .string (bs v2_1.1.Steps)] func139 (fun W S => C.s_l1Cur_blur W hv4_19 (S.bx 4) ((s_argN h0 q0).out W S) q0) ⟨.inr (by kernel_rfl), ?_⟩)
          refine ax 20 rfl (e_lit (e := eS) (el := 9) [.string (bs ([42] : Str)), .string (bs v2_1.1.Steps), .string (bs v4_19.1)] ([([42] : Str), v2_1.1.Steps, v4_19.1] : List Str) fun A4_20 k4_20 => ⟨.inr (by kernel_rfl), ?_⟩)
          obtain ⟨v4_21, hv4_21, h⟩ := H.call h
          refine ax 21 rfl (e_cq (cs' := [.slice A0 (List.length a0) k0, .int .i64 v4_21.2.1, .int .u64 v4_21.2.2]) (v := .string (bs v4_21.1)) 4 [.pointer (some ⟨g0, 0, none⟩), .slice A4_20 (List.length ([([42] : Str), v2_1.1.Steps, v4_19.1] : List Str)) k4_20] func117 (fun W S => C.s_l1Cur_of W hv4_21 (S.bx 4) ((s_argN h0 q0).out W S) q0 ((s_own 7).out W S) (ap_row S 7 4 (by decide))) ⟨.inr (by kernel_rfl), ?_⟩)
          obtain ⟨v4_26, hv4_26, h⟩ := H.call h
          refine ax 26 rfl (e_cq (cs' := [.slice A0 (List.length a0) k0, .int .i64 v4_26.2.1, .int .u64 v4_26.2.2]) (v := .int .i64 v4_26.1) 4 [.pointer (some ⟨g0, 0, none⟩), .slice A4_25 (List.length ([0, v2_1.1.Hands] : List Int)) k4_25] func143 (fun W S => C.s_l1Cur_among W hv4_26 (S.bx 4) ((s_argN h0 q0).out W S) q0 ((s_own 5).out W S) (ap_row S 5 4 (by decide))) ⟨.inr (by kernel_rfl), ?_⟩)
          refine ap 27 1 ?_
          refine ax 28 rfl (x_sto 2 g1_1 0 (ePattern (⟨v4_3.1, v4_7.1, v4_12.1, v4_21.1, v4_26.1⟩ : Pattern)) ⟨.inl (by kernel_rfl), ?_⟩)
          refine a_done ?_
          refine pick [0, 1, 2, 3, 4, 6, 7, 5] [box g0_0 38 (eSign a1), box g0_1 79 (ePattern zPattern), box g1_1 79 (ePattern (⟨v4_3.1, v4_7.1, v4_12.1, v4_21.1, v4_26.1⟩ : Pattern)), box g2_5 79 (ePattern v2_1.1), box g0 94 [.slice A0 (List.length a0) k0, .int .i64 v4_26.2.1, .int .u64 v4_26.2.2], rowT (eI .i64) w.heap.size 3 (.slice A4_11 (List.length ([(-1), v2_1.1.Region] : List Int)) k4_11) ([(-1), v2_1.1.Region] : List Int), rowT eS w.heap.size 9 (.slice A4_20 (List.length ([([42] : Str), v2_1.1.Steps, v4_19.1] : List Str)) k4_20) ([([42] : Str), v2_1.1.Steps, v4_19.1] : List Str), rowT (eI .i64) w.heap.size 3 (.slice A4_25 (List.length ([0, v2_1.1.Hands] : List Int)) k4_25) ([0, v2_1.1.Hands] : List Int)] ?_
          refine pick [4, 0, 1, 2, 3, 5, 6, 7] [box g0 94 [.slice A0 (List.length a0) k0, .int .i64 v4_26.2.1, .int .u64 v4_26.2.2], box g0_0 38 (eSign a1), box g0_1 79 (ePattern zPattern), box g1_1 79 (ePattern (⟨v4_3.1, v4_7.1, v4_12.1, v4_21.1, v4_26.1⟩ : Pattern)), box g2_5 79 (ePattern v2_1.1), rowT (eI .i64) w.heap.size 3 (.slice A4_11 (List.length ([(-1), v2_1.1.Region] : List Int)) k4_11) ([(-1), v2_1.1.Region] : List Int), rowT eS w.heap.size 9 (.slice A4_20 (List.length ([([42] : Str), v2_1.1.Steps, v4_19.1] : List Str)) k4_20) ([([42] : Str), v2_1.1.Steps, v4_19.1] : List Str), rowT (eI .i64) w.heap.size 3 (.slice A4_25 (List.length ([0, v2_1.1.Hands] : List Int)) k4_25) ([0, v2_1.1.Hands] : List Int)] ?_
          replace h := H.done h
          exact hj14 (v4_26.2.1, v4_26.2.2, (⟨v4_3.1, v4_7.1, v4_12.1, v4_21.1, v4_26.1⟩ : Pattern), ([(-1), v2_1.1.Region] : List Int), ([([42] : Str), v2_1.1.Steps, v4_19.1] : List Str), ([0, v2_1.1.Hands] : List Int), A4_11, k4_11, A4_20, k4_20, A4_25, k4_25) _ _ h (by kernel_rfl) (by kernel_rfl)
        refine (e_lit (e := (eI .i64)) (el := 3) [.int .i64 (-1), .int .i64 v2_1.1.Region] ([(-1), v2_1.1.Region] : List Int) fun A4_11 k4_11 => ⟨.inr (by kernel_rfl), ?_⟩)
        obtain ⟨v4_7, hv4_7, h⟩ := H.call h
        refine ax 7 rfl (e_cq (cs' := [.slice A0 (List.length a0) k0, .int .i64 v4_7.2.1, .int .u64 v4_7.2.2]) (v := .string (bs v4_7.1)) 4 [.pointer (some ⟨g0, 0, none⟩), .string (bs v2_1.1.Orient)] func139 (fun W S => C.s_l1Cur_blur W hv4_7 (S.bx 4) ((s_argN h0 q0).out W S) q0) ⟨.inr (by kernel_rfl), ?_⟩)
        obtain ⟨v4_12, hv4_12, h⟩ := H.call h
        refine ax 12 rfl (e_cq (cs' := [.slice A0 (List.length a0) k0, .int .i64 v4_12.2.1, .int .u64 v4_12.2.2]) (v := .int .i64 v4_12.1) 4 [.pointer (some ⟨g0, 0, none⟩), .slice A4_11 (List.length ([(-1), v2_1.1.Region] : List Int)) k4_11] func143 (fun W S => C.s_l1Cur_among W hv4_12 (S.bx 4) ((s_argN h0 q0).out W S) q0 ((s_own 6).out W S) (ap_row S 6 4 (by decide))) ⟨.inr (by kernel_rfl), ?_⟩)
        obtain ⟨v4_19, hv4_19, h⟩ := H.call h
        refine ax 19 rfl (e_cq (cs' := [.slice A0 (List.length a0) k0, .int .i64 v4_19.2.1, .int .u64 v4_19.2.2]) (v := .string (bs v4_19.1)) 4 [.pointer (some ⟨g0, 0, none⟩), .string (bs v2_1.1.Steps)] func139 (fun W S => C.s_l1Cur_blur W hv4_19 (S.bx 4) ((s_argN h0 q0).out W S) q0) ⟨.inr (by kernel_rfl), ?_⟩)
        refine ax 20 rfl (e_lit (e := eS) (el := 9) [.string (bs ([42] : Str)), .string (bs v2_1.1.Steps), .string (bs v4_19.1)] ([([42] : Str), v2_1.1.Steps, v4_19.1] : List Str) fun A4_20 k4_20 => ⟨.inr (by kernel_rfl), ?_⟩)
        obtain ⟨v4_21, hv4_21, h⟩ := H.call h
        refine ax 21 rfl (e_cq (cs' := [.slice A0 (List.length a0) k0, .int .i64 v4_21.2.1, .int .u64 v4_21.2.2]) (v := .string (bs v4_21.1)) 4 [.pointer (some ⟨g0, 0, none⟩), .slice A4_20 (List.length ([([42] : Str), v2_1.1.Steps, v4_19.1] : List Str)) k4_20] func117 (fun W S => C.s_l1Cur_of W hv4_21 (S.bx 4) ((s_argN h0 q0).out W S) q0 ((s_own 7).out W S) (ap_row S 7 4 (by decide))) ⟨.inr (by kernel_rfl), ?_⟩)
        obtain ⟨v4_26, hv4_26, h⟩ := H.call h
        refine ax 26 rfl (e_cq (cs' := [.slice A0 (List.length a0) k0, .int .i64 v4_26.2.1, .int .u64 v4_26.2.2]) (v := .int .i64 v4_26.1) 4 [.pointer (some ⟨g0, 0, none⟩), .slice A4_25 (List.length ([0, v2_1.1.Hands] : List Int)) k4_25] func143 (fun W S => C.s_l1Cur_among W hv4_26 (S.bx 4) ((s_argN h0 q0).out W S) q0 ((s_own 5).out W S) (ap_row S 5 4 (by decide))) ⟨.inr (by kernel_rfl), ?_⟩)
        refine ap 27 1 ?_
        refine ax 28 rfl (x_sto 2 g1_1 0 (ePattern (⟨v4_3.1, v4_7.1, v4_12.1, v4_21.1, v4_26.1⟩ : Pattern)) ⟨.inl (by kernel_rfl), ?_⟩)
        refine a_done ?_
        refine pick [0, 1, 2, 3, 4, 6, 7, 5] [box g0_0 38 (eSign a1), box g0_1 79 (ePattern zPattern), box g1_1 79 (ePattern (⟨v4_3.1, v4_7.1, v4_12.1, v4_21.1, v4_26.1⟩ : Pattern)), box g2_5 79 (ePattern v2_1.1), box g0 94 [.slice A0 (List.length a0) k0, .int .i64 v4_26.2.1, .int .u64 v4_26.2.2], rowT (eI .i64) w.heap.size 3 (.slice A4_11 (List.length ([(-1), v2_1.1.Region] : List Int)) k4_11) ([(-1), v2_1.1.Region] : List Int), rowT eS w.heap.size 9 (.slice A4_20 (List.length ([([42] : Str), v2_1.1.Steps, v4_19.1] : List Str)) k4_20) ([([42] : Str), v2_1.1.Steps, v4_19.1] : List Str), rowT (eI .i64) w.heap.size 3 (.slice A4_25 (List.length ([0, v2_1.1.Hands] : List Int)) k4_25) ([0, v2_1.1.Hands] : List Int)] ?_
        refine pick [4, 0, 1, 2, 3, 5, 6, 7] [box g0 94 [.slice A0 (List.length a0) k0, .int .i64 v4_26.2.1, .int .u64 v4_26.2.2], box g0_0 38 (eSign a1), box g0_1 79 (ePattern zPattern), box g1_1 79 (ePattern (⟨v4_3.1, v4_7.1, v4_12.1, v4_21.1, v4_26.1⟩ : Pattern)), box g2_5 79 (ePattern v2_1.1), rowT (eI .i64) w.heap.size 3 (.slice A4_11 (List.length ([(-1), v2_1.1.Region] : List Int)) k4_11) ([(-1), v2_1.1.Region] : List Int), rowT eS w.heap.size 9 (.slice A4_20 (List.length ([([42] : Str), v2_1.1.Steps, v4_19.1] : List Str)) k4_20) ([([42] : Str), v2_1.1.Steps, v4_19.1] : List Str), rowT (eI .i64) w.heap.size 3 (.slice A4_25 (List.length ([0, v2_1.1.Hands] : List Int)) k4_25) ([0, v2_1.1.Hands] : List Int)] ?_
        replace h := H.done h
        exact hj14 (v4_26.2.1, v4_26.2.2, (⟨v4_3.1, v4_7.1, v4_12.1, v4_21.1, v4_26.1⟩ : Pattern), ([(-1), v2_1.1.Region] : List Int), ([([42] : Str), v2_1.1.Steps, v4_19.1] : List Str), ([0, v2_1.1.Hands] : List Int), A4_11, k4_11, A4_20, k4_20, A4_25, k4_25) _ _ h (by kernel_rfl) (by kernel_rfl)
      · skip
        refine (e_lit (e := (eI .i64)) (el := 3) [.int .i64 (-1), .int .i64 v2_1.1.Region] ([(-1), v2_1.1.Region] : List Int) fun A4_11 k4_11 => ⟨.inr (by kernel_rfl), ?_⟩)
        refine a_two 3 25 rfl rfl ?_ ?_
        · skip
          obtain ⟨v4_3, hv4_3, h⟩ := H.call h
          refine (e_cq (cs' := [.slice A0 (List.length a0) k0, .int .i64 v4_3.2.1, .int .u64 v4_3.2.2]) (v := .string (bs v4_3.1)) 4 [.pointer (some ⟨g0, 0, none⟩), .string (bs v2_1.1.Shape)] func139 (fun W S => C.s_l1Cur_blur W hv4_3 (S.bx 4) ((s_argN h0 q0).out W S) q0) ⟨.inr (by kernel_rfl), ?_⟩)
          refine a_two 7 25 rfl rfl ?_ ?_
          · skip
            obtain ⟨v4_7, hv4_7, h⟩ := H.call h
            refine (e_cq (cs' := [.slice A0 (List.length a0) k0, .int .i64 v4_7.2.1, .int .u64 v4_7.2.2]) (v := .string (bs v4_7.1)) 4 [.pointer (some ⟨g0, 0, none⟩), .string (bs v2_1.1.Orient)] func139 (fun W S => C.s_l1Cur_blur W hv4_7 (S.bx 4) ((s_argN h0 q0).out W S) q0) ⟨.inr (by kernel_rfl), ?_⟩)
            refine a_two 12 25 rfl rfl ?_ ?_
            · skip
              obtain ⟨v4_12, hv4_12, h⟩ := H.call h
              refine (e_cq (cs' := [.slice A0 (List.length a0) k0, .int .i64 v4_12.2.1, .int .u64 v4_12.2.2]) (v := .int .i64 v4_12.1) 4 [.pointer (some ⟨g0, 0, none⟩), .slice A4_11 (List.length ([(-1), v2_1.1.Region] : List Int)) k4_11] func143 (fun W S => C.s_l1Cur_among W hv4_12 (S.bx 4) ((s_argN h0 q0).out W S) q0 ((s_own 5).out W S) (ap_row S 5 4 (by decide))) ⟨.inr (by kernel_rfl), ?_⟩)
              refine a_two 19 25 rfl rfl ?_ ?_
              · skip
                obtain ⟨v4_19, hv4_19, h⟩ := H.call h
                refine (e_cq (cs' := [.slice A0 (List.length a0) k0, .int .i64 v4_19.2.1, .int .u64 v4_19.2.2]) (v := .string (bs v4_19.1)) 4 [.pointer (some ⟨g0, 0, none⟩), .string (bs v2_1.1.Steps)] func139 (fun W S => C.s_l1Cur_blur W hv4_19 (S.bx 4) ((s_argN h0 q0).out W S) q0) ⟨.inr (by kernel_rfl), ?_⟩)
                refine a_two 20 25 rfl rfl ?_ ?_
                · skip
                  refine (e_lit (e := eS) (el := 9) [.string (bs ([42] : Str)), .string (bs v2_1.1.Steps), .string (bs v4_19.1)] ([([42] : Str), v2_1.1.Steps, v4_19.1] : List Str) fun A4_20 k4_20 => ⟨.inr (by kernel_rfl), ?_⟩)
                  refine a_two 21 25 rfl rfl ?_ ?_
                  · skip
                    obtain ⟨v4_21, hv4_21, h⟩ := H.call h
                    refine (e_cq (cs' := [.slice A0 (List.length a0) k0, .int .i64 v4_21.2.1, .int .u64 v4_21.2.2]) (v := .string (bs v4_21.1)) 4 [.pointer (some ⟨g0, 0, none⟩), .slice A4_20 (List.length ([([42] : Str), v2_1.1.Steps, v4_19.1] : List Str)) k4_20] func117 (fun W S => C.s_l1Cur_of W hv4_21 (S.bx 4) ((s_argN h0 q0).out W S) q0 ((s_own 6).out W S) (ap_row S 6 4 (by decide))) ⟨.inr (by kernel_rfl), ?_⟩)
                    refine ax 25 rfl (e_lit (e := (eI .i64)) (el := 3) [.int .i64 0, .int .i64 v2_1.1.Hands] ([0, v2_1.1.Hands] : List Int) fun A4_25 k4_25 => ⟨.inr (by kernel_rfl), ?_⟩)
                    obtain ⟨v4_26, hv4_26, h⟩ := H.call h
                    refine ax 26 rfl (e_cq (cs' := [.slice A0 (List.length a0) k0, .int .i64 v4_26.2.1, .int .u64 v4_26.2.2]) (v := .int .i64 v4_26.1) 4 [.pointer (some ⟨g0, 0, none⟩), .slice A4_25 (List.length ([0, v2_1.1.Hands] : List Int)) k4_25] func143 (fun W S => C.s_l1Cur_among W hv4_26 (S.bx 4) ((s_argN h0 q0).out W S) q0 ((s_own 7).out W S) (ap_row S 7 4 (by decide))) ⟨.inr (by kernel_rfl), ?_⟩)
                    refine ap 27 1 ?_
                    refine ax 28 rfl (x_sto 2 g1_1 0 (ePattern (⟨v4_3.1, v4_7.1, v4_12.1, v4_21.1, v4_26.1⟩ : Pattern)) ⟨.inl (by kernel_rfl), ?_⟩)
                    refine a_done ?_
                    refine pick [4, 0, 1, 2, 3, 5, 6, 7] [box g0 94 [.slice A0 (List.length a0) k0, .int .i64 v4_26.2.1, .int .u64 v4_26.2.2], box g0_0 38 (eSign a1), box g0_1 79 (ePattern zPattern), box g1_1 79 (ePattern (⟨v4_3.1, v4_7.1, v4_12.1, v4_21.1, v4_26.1⟩ : Pattern)), box g2_5 79 (ePattern v2_1.1), rowT (eI .i64) w.heap.size 3 (.slice A4_11 (List.length ([(-1), v2_1.1.Region] : List Int)) k4_11) ([(-1), v2_1.1.Region] : List Int), rowT eS w.heap.size 9 (.slice A4_20 (List.length ([([42] : Str), v2_1.1.Steps, v4_19.1] : List Str)) k4_20) ([([42] : Str), v2_1.1.Steps, v4_19.1] : List Str), rowT (eI .i64) w.heap.size 3 (.slice A4_25 (List.length ([0, v2_1.1.Hands] : List Int)) k4_25) ([0, v2_1.1.Hands] : List Int)] ?_
                    replace h := H.done h
                    exact hj14 (v4_26.2.1, v4_26.2.2, (⟨v4_3.1, v4_7.1, v4_12.1, v4_21.1, v4_26.1⟩ : Pattern), ([(-1), v2_1.1.Region] : List Int), ([([42] : Str), v2_1.1.Steps, v4_19.1] : List Str), ([0, v2_1.1.Hands] : List Int), A4_11, k4_11, A4_20, k4_20, A4_25, k4_25) _ _ h (by kernel_rfl) (by kernel_rfl)
                  refine (e_lit (e := (eI .i64)) (el := 3) [.int .i64 0, .int .i64 v2_1.1.Hands] ([0, v2_1.1.Hands] : List Int) fun A4_25 k4_25 => ⟨.inr (by kernel_rfl), ?_⟩)
                  obtain ⟨v4_21, hv4_21, h⟩ := H.call h
                  refine ax 21 rfl (e_cq (cs' := [.slice A0 (List.length a0) k0, .int .i64 v4_21.2.1, .int .u64 v4_21.2.2]) (v := .string (bs v4_21.1)) 4 [.pointer (some ⟨g0, 0, none⟩), .slice A4_20 (List.length ([([42] : Str), v2_1.1.Steps, v4_19.1] : List Str)) k4_20] func117 (fun W S => C.s_l1Cur_of W hv4_21 (S.bx 4) ((s_argN h0 q0).out W S) q0 ((s_own 6).out W S) (ap_row S 6 4 (by decide))) ⟨.inr (by kernel_rfl), ?_⟩)
                  obtain ⟨v4_26, hv4_26, h⟩ := H.call h
                  refine ax 26 rfl (e_cq (cs' := [.slice A0 (List.length a0) k0, .int .i64 v4_26.2.1, .int .u64 v4_26.2.2]) (v := .int .i64 v4_26.1) 4 [.pointer (some ⟨g0, 0, none⟩), .slice A4_25 (List.length ([0, v2_1.1.Hands] : List Int)) k4_25] func143 (fun W S => C.s_l1Cur_among W hv4_26 (S.bx 4) ((s_argN h0 q0).out W S) q0 ((s_own 7).out W S) (ap_row S 7 4 (by decide))) ⟨.inr (by kernel_rfl), ?_⟩)
                  refine ap 27 1 ?_
                  refine ax 28 rfl (x_sto 2 g1_1 0 (ePattern (⟨v4_3.1, v4_7.1, v4_12.1, v4_21.1, v4_26.1⟩ : Pattern)) ⟨.inl (by kernel_rfl), ?_⟩)
                  refine a_done ?_
                  refine pick [4, 0, 1, 2, 3, 5, 6, 7] [box g0 94 [.slice A0 (List.length a0) k0, .int .i64 v4_26.2.1, .int .u64 v4_26.2.2], box g0_0 38 (eSign a1), box g0_1 79 (ePattern zPattern), box g1_1 79 (ePattern (⟨v4_3.1, v4_7.1, v4_12.1, v4_21.1, v4_26.1⟩ : Pattern)), box g2_5 79 (ePattern v2_1.1), rowT (eI .i64) w.heap.size 3 (.slice A4_11 (List.length ([(-1), v2_1.1.Region] : List Int)) k4_11) ([(-1), v2_1.1.Region] : List Int), rowT eS w.heap.size 9 (.slice A4_20 (List.length ([([42] : Str), v2_1.1.Steps, v4_19.1] : List Str)) k4_20) ([([42] : Str), v2_1.1.Steps, v4_19.1] : List Str), rowT (eI .i64) w.heap.size 3 (.slice A4_25 (List.length ([0, v2_1.1.Hands] : List Int)) k4_25) ([0, v2_1.1.Hands] : List Int)] ?_
                  replace h := H.done h
                  exact hj14 (v4_26.2.1, v4_26.2.2, (⟨v4_3.1, v4_7.1, v4_12.1, v4_21.1, v4_26.1⟩ : Pattern), ([(-1), v2_1.1.Region] : List Int), ([([42] : Str), v2_1.1.Steps, v4_19.1] : List Str), ([0, v2_1.1.Hands] : List Int), A4_11, k4_11, A4_20, k4_20, A4_25, k4_25) _ _ h (by kernel_rfl) (by kernel_rfl)
                refine (e_lit (e := (eI .i64)) (el := 3) [.int .i64 0, .int .i64 v2_1.1.Hands] ([0, v2_1.1.Hands] : List Int) fun A4_25 k4_25 => ⟨.inr (by kernel_rfl), ?_⟩)
                refine ax 20 rfl (e_lit (e := eS) (el := 9) [.string (bs ([42] : Str)), .string (bs v2_1.1.Steps), .string (bs v4_19.1)] ([([42] : Str), v2_1.1.Steps, v4_19.1] : List Str) fun A4_20 k4_20 => ⟨.inr (by kernel_rfl), ?_⟩)
                obtain ⟨v4_21, hv4_21, h⟩ := H.call h
                refine ax 21 rfl (e_cq (cs' := [.slice A0 (List.length a0) k0, .int .i64 v4_21.2.1, .int .u64 v4_21.2.2]) (v := .string (bs v4_21.1)) 4 [.pointer (some ⟨g0, 0, none⟩), .slice A4_20 (List.length ([([42] : Str), v2_1.1.Steps, v4_19.1] : List Str)) k4_20] func117 (fun W S => C.s_l1Cur_of W hv4_21 (S.bx 4) ((s_argN h0 q0).out W S) q0 ((s_own 7).out W S) (ap_row S 7 4 (by decide))) ⟨.inr (by kernel_rfl), ?_⟩)
                obtain ⟨v4_26, hv4_26, h⟩ := H.call h
                refine ax 26 rfl (e_cq (cs' := [.slice A0 (List.length a0) k0, .int .i64 v4_26.2.1, .int .u64 v4_26.2.2]) (v := .int .i64 v4_26.1) 4 [.pointer (some ⟨g0, 0, none⟩), .slice A4_25 (List.length ([0, v2_1.1.Hands] : List Int)) k4_25] func143 (fun W S => C.s_l1Cur_among W hv4_26 (S.bx 4) ((s_argN h0 q0).out W S) q0 ((s_own 6).out W S) (ap_row S 6 4 (by decide))) ⟨.inr (by kernel_rfl), ?_⟩)
                refine ap 27 1 ?_
                refine ax 28 rfl (x_sto 2 g1_1 0 (ePattern (⟨v4_3.1, v4_7.1, v4_12.1, v4_21.1, v4_26.1⟩ : Pattern)) ⟨.inl (by kernel_rfl), ?_⟩)
                refine a_done ?_
                refine swp [box g0_0 38 (eSign a1), box g0_1 79 (ePattern zPattern), box g1_1 79 (ePattern (⟨v4_3.1, v4_7.1, v4_12.1, v4_21.1, v4_26.1⟩ : Pattern)), box g2_5 79 (ePattern v2_1.1), box g0 94 [.slice A0 (List.length a0) k0, .int .i64 v4_26.2.1, .int .u64 v4_26.2.2], rowT (eI .i64) w.heap.size 3 (.slice A4_11 (List.length ([(-1), v2_1.1.Region] : List Int)) k4_11) ([(-1), v2_1.1.Region] : List Int)] (rowT (eI .i64) w.heap.size 3 (.slice A4_25 (List.length ([0, v2_1.1.Hands] : List Int)) k4_25) ([0, v2_1.1.Hands] : List Int)) (rowT eS w.heap.size 9 (.slice A4_20 (List.length ([([42] : Str), v2_1.1.Steps, v4_19.1] : List Str)) k4_20) ([([42] : Str), v2_1.1.Steps, v4_19.1] : List Str)) ?_
                refine pick [4, 0, 1, 2, 3, 5, 6, 7] [box g0 94 [.slice A0 (List.length a0) k0, .int .i64 v4_26.2.1, .int .u64 v4_26.2.2], box g0_0 38 (eSign a1), box g0_1 79 (ePattern zPattern), box g1_1 79 (ePattern (⟨v4_3.1, v4_7.1, v4_12.1, v4_21.1, v4_26.1⟩ : Pattern)), box g2_5 79 (ePattern v2_1.1), rowT (eI .i64) w.heap.size 3 (.slice A4_11 (List.length ([(-1), v2_1.1.Region] : List Int)) k4_11) ([(-1), v2_1.1.Region] : List Int), rowT eS w.heap.size 9 (.slice A4_20 (List.length ([([42] : Str), v2_1.1.Steps, v4_19.1] : List Str)) k4_20) ([([42] : Str), v2_1.1.Steps, v4_19.1] : List Str), rowT (eI .i64) w.heap.size 3 (.slice A4_25 (List.length ([0, v2_1.1.Hands] : List Int)) k4_25) ([0, v2_1.1.Hands] : List Int)] ?_
                replace h := H.done h
                exact hj14 (v4_26.2.1, v4_26.2.2, (⟨v4_3.1, v4_7.1, v4_12.1, v4_21.1, v4_26.1⟩ : Pattern), ([(-1), v2_1.1.Region] : List Int), ([([42] : Str), v2_1.1.Steps, v4_19.1] : List Str), ([0, v2_1.1.Hands] : List Int), A4_11, k4_11, A4_20, k4_20, A4_25, k4_25) _ _ h (by kernel_rfl) (by kernel_rfl)
              refine (e_lit (e := (eI .i64)) (el := 3) [.int .i64 0, .int .i64 v2_1.1.Hands] ([0, v2_1.1.Hands] : List Int) fun A4_25 k4_25 => ⟨.inr (by kernel_rfl), ?_⟩)
              obtain ⟨v4_19, hv4_19, h⟩ := H.call h
              refine ax 19 rfl (e_cq (cs' := [.slice A0 (List.length a0) k0, .int .i64 v4_19.2.1, .int .u64 v4_19.2.2]) (v := .string (bs v4_19.1)) 4 [.pointer (some ⟨g0, 0, none⟩), .string (bs v2_1.1.Steps)] func139 (fun W S => C.s_l1Cur_blur W hv4_19 (S.bx 4) ((s_argN h0 q0).out W S) q0) ⟨.inr (by kernel_rfl), ?_⟩)
              refine ax 20 rfl (e_lit (e := eS) (el := 9) [.string (bs ([42] : Str)), .string (bs v2_1.1.Steps), .string (bs v4_19.1)] ([([42] : Str), v2_1.1.Steps, v4_19.1] : List Str) fun A4_20 k4_20 => ⟨.inr (by kernel_rfl), ?_⟩)
              obtain ⟨v4_21, hv4_21, h⟩ := H.call h
              refine ax 21 rfl (e_cq (cs' := [.slice A0 (List.length a0) k0, .int .i64 v4_21.2.1, .int .u64 v4_21.2.2]) (v := .string (bs v4_21.1)) 4 [.pointer (some ⟨g0, 0, none⟩), .slice A4_20 (List.length ([([42] : Str), v2_1.1.Steps, v4_19.1] : List Str)) k4_20] func117 (fun W S => C.s_l1Cur_of W hv4_21 (S.bx 4) ((s_argN h0 q0).out W S) q0 ((s_own 7).out W S) (ap_row S 7 4 (by decide))) ⟨.inr (by kernel_rfl), ?_⟩)
              obtain ⟨v4_26, hv4_26, h⟩ := H.call h
              refine ax 26 rfl (e_cq (cs' := [.slice A0 (List.length a0) k0, .int .i64 v4_26.2.1, .int .u64 v4_26.2.2]) (v := .int .i64 v4_26.1) 4 [.pointer (some ⟨g0, 0, none⟩), .slice A4_25 (List.length ([0, v2_1.1.Hands] : List Int)) k4_25] func143 (fun W S => C.s_l1Cur_among W hv4_26 (S.bx 4) ((s_argN h0 q0).out W S) q0 ((s_own 6).out W S) (ap_row S 6 4 (by decide))) ⟨.inr (by kernel_rfl), ?_⟩)
              refine ap 27 1 ?_
              refine ax 28 rfl (x_sto 2 g1_1 0 (ePattern (⟨v4_3.1, v4_7.1, v4_12.1, v4_21.1, v4_26.1⟩ : Pattern)) ⟨.inl (by kernel_rfl), ?_⟩)
              refine a_done ?_
              refine swp [box g0_0 38 (eSign a1), box g0_1 79 (ePattern zPattern), box g1_1 79 (ePattern (⟨v4_3.1, v4_7.1, v4_12.1, v4_21.1, v4_26.1⟩ : Pattern)), box g2_5 79 (ePattern v2_1.1), box g0 94 [.slice A0 (List.length a0) k0, .int .i64 v4_26.2.1, .int .u64 v4_26.2.2], rowT (eI .i64) w.heap.size 3 (.slice A4_11 (List.length ([(-1), v2_1.1.Region] : List Int)) k4_11) ([(-1), v2_1.1.Region] : List Int)] (rowT (eI .i64) w.heap.size 3 (.slice A4_25 (List.length ([0, v2_1.1.Hands] : List Int)) k4_25) ([0, v2_1.1.Hands] : List Int)) (rowT eS w.heap.size 9 (.slice A4_20 (List.length ([([42] : Str), v2_1.1.Steps, v4_19.1] : List Str)) k4_20) ([([42] : Str), v2_1.1.Steps, v4_19.1] : List Str)) ?_
              refine pick [4, 0, 1, 2, 3, 5, 6, 7] [box g0 94 [.slice A0 (List.length a0) k0, .int .i64 v4_26.2.1, .int .u64 v4_26.2.2], box g0_0 38 (eSign a1), box g0_1 79 (ePattern zPattern), box g1_1 79 (ePattern (⟨v4_3.1, v4_7.1, v4_12.1, v4_21.1, v4_26.1⟩ : Pattern)), box g2_5 79 (ePattern v2_1.1), rowT (eI .i64) w.heap.size 3 (.slice A4_11 (List.length ([(-1), v2_1.1.Region] : List Int)) k4_11) ([(-1), v2_1.1.Region] : List Int), rowT eS w.heap.size 9 (.slice A4_20 (List.length ([([42] : Str), v2_1.1.Steps, v4_19.1] : List Str)) k4_20) ([([42] : Str), v2_1.1.Steps, v4_19.1] : List Str), rowT (eI .i64) w.heap.size 3 (.slice A4_25 (List.length ([0, v2_1.1.Hands] : List Int)) k4_25) ([0, v2_1.1.Hands] : List Int)] ?_
              replace h := H.done h
              exact hj14 (v4_26.2.1, v4_26.2.2, (⟨v4_3.1, v4_7.1, v4_12.1, v4_21.1, v4_26.1⟩ : Pattern), ([(-1), v2_1.1.Region] : List Int), ([([42] : Str), v2_1.1.Steps, v4_19.1] : List Str), ([0, v2_1.1.Hands] : List Int), A4_11, k4_11, A4_20, k4_20, A4_25, k4_25) _ _ h (by kernel_rfl) (by kernel_rfl)
            refine (e_lit (e := (eI .i64)) (el := 3) [.int .i64 0, .int .i64 v2_1.1.Hands] ([0, v2_1.1.Hands] : List Int) fun A4_25 k4_25 => ⟨.inr (by kernel_rfl), ?_⟩)
            obtain ⟨v4_12, hv4_12, h⟩ := H.call h
            refine ax 12 rfl (e_cq (cs' := [.slice A0 (List.length a0) k0, .int .i64 v4_12.2.1, .int .u64 v4_12.2.2]) (v := .int .i64 v4_12.1) 4 [.pointer (some ⟨g0, 0, none⟩), .slice A4_11 (List.length ([(-1), v2_1.1.Region] : List Int)) k4_11] func143 (fun W S => C.s_l1Cur_among W hv4_12 (S.bx 4) ((s_argN h0 q0).out W S) q0 ((s_own 5).out W S) (ap_row S 5 4 (by decide))) ⟨.inr (by kernel_rfl), ?_⟩)
            obtain ⟨v4_19, hv4_19, h⟩ := H.call h
            refine ax 19 rfl (e_cq (cs' := [.slice A0 (List.length a0) k0, .int .i64 v4_19.2.1, .int .u64 v4_19.2.2]) (v := .string (bs v4_19.1)) 4 [.pointer (some ⟨g0, 0, none⟩), .string (bs v2_1.1.Steps)] func139 (fun W S => C.s_l1Cur_blur W hv4_19 (S.bx 4) ((s_argN h0 q0).out W S) q0) ⟨.inr (by kernel_rfl), ?_⟩)
            refine ax 20 rfl (e_lit (e := eS) (el := 9) [.string (bs ([42] : Str)), .string (bs v2_1.1.Steps), .string (bs v4_19.1)] ([([42] : Str), v2_1.1.Steps, v4_19.1] : List Str) fun A4_20 k4_20 => ⟨.inr (by kernel_rfl), ?_⟩)
            obtain ⟨v4_21, hv4_21, h⟩ := H.call h
            refine ax 21 rfl (e_cq (cs' := [.slice A0 (List.length a0) k0, .int .i64 v4_21.2.1, .int .u64 v4_21.2.2]) (v := .string (bs v4_21.1)) 4 [.pointer (some ⟨g0, 0, none⟩), .slice A4_20 (List.length ([([42] : Str), v2_1.1.Steps, v4_19.1] : List Str)) k4_20] func117 (fun W S => C.s_l1Cur_of W hv4_21 (S.bx 4) ((s_argN h0 q0).out W S) q0 ((s_own 7).out W S) (ap_row S 7 4 (by decide))) ⟨.inr (by kernel_rfl), ?_⟩)
            obtain ⟨v4_26, hv4_26, h⟩ := H.call h
            refine ax 26 rfl (e_cq (cs' := [.slice A0 (List.length a0) k0, .int .i64 v4_26.2.1, .int .u64 v4_26.2.2]) (v := .int .i64 v4_26.1) 4 [.pointer (some ⟨g0, 0, none⟩), .slice A4_25 (List.length ([0, v2_1.1.Hands] : List Int)) k4_25] func143 (fun W S => C.s_l1Cur_among W hv4_26 (S.bx 4) ((s_argN h0 q0).out W S) q0 ((s_own 6).out W S) (ap_row S 6 4 (by decide))) ⟨.inr (by kernel_rfl), ?_⟩)
            refine ap 27 1 ?_
            refine ax 28 rfl (x_sto 2 g1_1 0 (ePattern (⟨v4_3.1, v4_7.1, v4_12.1, v4_21.1, v4_26.1⟩ : Pattern)) ⟨.inl (by kernel_rfl), ?_⟩)
            refine a_done ?_
            refine swp [box g0_0 38 (eSign a1), box g0_1 79 (ePattern zPattern), box g1_1 79 (ePattern (⟨v4_3.1, v4_7.1, v4_12.1, v4_21.1, v4_26.1⟩ : Pattern)), box g2_5 79 (ePattern v2_1.1), box g0 94 [.slice A0 (List.length a0) k0, .int .i64 v4_26.2.1, .int .u64 v4_26.2.2], rowT (eI .i64) w.heap.size 3 (.slice A4_11 (List.length ([(-1), v2_1.1.Region] : List Int)) k4_11) ([(-1), v2_1.1.Region] : List Int)] (rowT (eI .i64) w.heap.size 3 (.slice A4_25 (List.length ([0, v2_1.1.Hands] : List Int)) k4_25) ([0, v2_1.1.Hands] : List Int)) (rowT eS w.heap.size 9 (.slice A4_20 (List.length ([([42] : Str), v2_1.1.Steps, v4_19.1] : List Str)) k4_20) ([([42] : Str), v2_1.1.Steps, v4_19.1] : List Str)) ?_
            refine pick [4, 0, 1, 2, 3, 5, 6, 7] [box g0 94 [.slice A0 (List.length a0) k0, .int .i64 v4_26.2.1, .int .u64 v4_26.2.2], box g0_0 38 (eSign a1), box g0_1 79 (ePattern zPattern), box g1_1 79 (ePattern (⟨v4_3.1, v4_7.1, v4_12.1, v4_21.1, v4_26.1⟩ : Pattern)), box g2_5 79 (ePattern v2_1.1), rowT (eI .i64) w.heap.size 3 (.slice A4_11 (List.length ([(-1), v2_1.1.Region] : List Int)) k4_11) ([(-1), v2_1.1.Region] : List Int), rowT eS w.heap.size 9 (.slice A4_20 (List.length ([([42] : Str), v2_1.1.Steps, v4_19.1] : List Str)) k4_20) ([([42] : Str), v2_1.1.Steps, v4_19.1] : List Str), rowT (eI .i64) w.heap.size 3 (.slice A4_25 (List.length ([0, v2_1.1.Hands] : List Int)) k4_25) ([0, v2_1.1.Hands] : List Int)] ?_
            replace h := H.done h
            exact hj14 (v4_26.2.1, v4_26.2.2, (⟨v4_3.1, v4_7.1, v4_12.1, v4_21.1, v4_26.1⟩ : Pattern), ([(-1), v2_1.1.Region] : List Int), ([([42] : Str), v2_1.1.Steps, v4_19.1] : List Str), ([0, v2_1.1.Hands] : List Int), A4_11, k4_11, A4_20, k4_20, A4_25, k4_25) _ _ h (by kernel_rfl) (by kernel_rfl)
          refine (e_lit (e := (eI .i64)) (el := 3) [.int .i64 0, .int .i64 v2_1.1.Hands] ([0, v2_1.1.Hands] : List Int) fun A4_25 k4_25 => ⟨.inr (by kernel_rfl), ?_⟩)
          obtain ⟨v4_7, hv4_7, h⟩ := H.call h
          refine ax 7 rfl (e_cq (cs' := [.slice A0 (List.length a0) k0, .int .i64 v4_7.2.1, .int .u64 v4_7.2.2]) (v := .string (bs v4_7.1)) 4 [.pointer (some ⟨g0, 0, none⟩), .string (bs v2_1.1.Orient)] func139 (fun W S => C.s_l1Cur_blur W hv4_7 (S.bx 4) ((s_argN h0 q0).out W S) q0) ⟨.inr (by kernel_rfl), ?_⟩)
          obtain ⟨v4_12, hv4_12, h⟩ := H.call h
          refine ax 12 rfl (e_cq (cs' := [.slice A0 (List.length a0) k0, .int .i64 v4_12.2.1, .int .u64 v4_12.2.2]) (v := .int .i64 v4_12.1) 4 [.pointer (some ⟨g0, 0, none⟩), .slice A4_11 (List.length ([(-1), v2_1.1.Region] : List Int)) k4_11] func143 (fun W S => C.s_l1Cur_among W hv4_12 (S.bx 4) ((s_argN h0 q0).out W S) q0 ((s_own 5).out W S) (ap_row S 5 4 (by decide))) ⟨.inr (by kernel_rfl), ?_⟩)
          obtain ⟨v4_19, hv4_19, h⟩ := H.call h
          refine ax 19 rfl (e_cq (cs' := [.slice A0 (List.length a0) k0, .int .i64 v4_19.2.1, .int .u64 v4_19.2.2]) (v := .string (bs v4_19.1)) 4 [.pointer (some ⟨g0, 0, none⟩), .string (bs v2_1.1.Steps)] func139 (fun W S => C.s_l1Cur_blur W hv4_19 (S.bx 4) ((s_argN h0 q0).out W S) q0) ⟨.inr (by kernel_rfl), ?_⟩)
          refine ax 20 rfl (e_lit (e := eS) (el := 9) [.string (bs ([42] : Str)), .string (bs v2_1.1.Steps), .string (bs v4_19.1)] ([([42] : Str), v2_1.1.Steps, v4_19.1] : List Str) fun A4_20 k4_20 => ⟨.inr (by kernel_rfl), ?_⟩)
          obtain ⟨v4_21, hv4_21, h⟩ := H.call h
          refine ax 21 rfl (e_cq (cs' := [.slice A0 (List.length a0) k0, .int .i64 v4_21.2.1, .int .u64 v4_21.2.2]) (v := .string (bs v4_21.1)) 4 [.pointer (some ⟨g0, 0, none⟩), .slice A4_20 (List.length ([([42] : Str), v2_1.1.Steps, v4_19.1] : List Str)) k4_20] func117 (fun W S => C.s_l1Cur_of W hv4_21 (S.bx 4) ((s_argN h0 q0).out W S) q0 ((s_own 7).out W S) (ap_row S 7 4 (by decide))) ⟨.inr (by kernel_rfl), ?_⟩)
          obtain ⟨v4_26, hv4_26, h⟩ := H.call h
          refine ax 26 rfl (e_cq (cs' := [.slice A0 (List.length a0) k0, .int .i64 v4_26.2.1, .int .u64 v4_26.2.2]) (v := .int .i64 v4_26.1) 4 [.pointer (some ⟨g0, 0, none⟩), .slice A4_25 (List.length ([0, v2_1.1.Hands] : List Int)) k4_25] func143 (fun W S => C.s_l1Cur_among W hv4_26 (S.bx 4) ((s_argN h0 q0).out W S) q0 ((s_own 6).out W S) (ap_row S 6 4 (by decide))) ⟨.inr (by kernel_rfl), ?_⟩)
          refine ap 27 1 ?_
          refine ax 28 rfl (x_sto 2 g1_1 0 (ePattern (⟨v4_3.1, v4_7.1, v4_12.1, v4_21.1, v4_26.1⟩ : Pattern)) ⟨.inl (by kernel_rfl), ?_⟩)
          refine a_done ?_
          refine swp [box g0_0 38 (eSign a1), box g0_1 79 (ePattern zPattern), box g1_1 79 (ePattern (⟨v4_3.1, v4_7.1, v4_12.1, v4_21.1, v4_26.1⟩ : Pattern)), box g2_5 79 (ePattern v2_1.1), box g0 94 [.slice A0 (List.length a0) k0, .int .i64 v4_26.2.1, .int .u64 v4_26.2.2], rowT (eI .i64) w.heap.size 3 (.slice A4_11 (List.length ([(-1), v2_1.1.Region] : List Int)) k4_11) ([(-1), v2_1.1.Region] : List Int)] (rowT (eI .i64) w.heap.size 3 (.slice A4_25 (List.length ([0, v2_1.1.Hands] : List Int)) k4_25) ([0, v2_1.1.Hands] : List Int)) (rowT eS w.heap.size 9 (.slice A4_20 (List.length ([([42] : Str), v2_1.1.Steps, v4_19.1] : List Str)) k4_20) ([([42] : Str), v2_1.1.Steps, v4_19.1] : List Str)) ?_
          refine pick [4, 0, 1, 2, 3, 5, 6, 7] [box g0 94 [.slice A0 (List.length a0) k0, .int .i64 v4_26.2.1, .int .u64 v4_26.2.2], box g0_0 38 (eSign a1), box g0_1 79 (ePattern zPattern), box g1_1 79 (ePattern (⟨v4_3.1, v4_7.1, v4_12.1, v4_21.1, v4_26.1⟩ : Pattern)), box g2_5 79 (ePattern v2_1.1), rowT (eI .i64) w.heap.size 3 (.slice A4_11 (List.length ([(-1), v2_1.1.Region] : List Int)) k4_11) ([(-1), v2_1.1.Region] : List Int), rowT eS w.heap.size 9 (.slice A4_20 (List.length ([([42] : Str), v2_1.1.Steps, v4_19.1] : List Str)) k4_20) ([([42] : Str), v2_1.1.Steps, v4_19.1] : List Str), rowT (eI .i64) w.heap.size 3 (.slice A4_25 (List.length ([0, v2_1.1.Hands] : List Int)) k4_25) ([0, v2_1.1.Hands] : List Int)] ?_
          replace h := H.done h
          exact hj14 (v4_26.2.1, v4_26.2.2, (⟨v4_3.1, v4_7.1, v4_12.1, v4_21.1, v4_26.1⟩ : Pattern), ([(-1), v2_1.1.Region] : List Int), ([([42] : Str), v2_1.1.Steps, v4_19.1] : List Str), ([0, v2_1.1.Hands] : List Int), A4_11, k4_11, A4_20, k4_20, A4_25, k4_25) _ _ h (by kernel_rfl) (by kernel_rfl)
        refine (e_lit (e := (eI .i64)) (el := 3) [.int .i64 0, .int .i64 v2_1.1.Hands] ([0, v2_1.1.Hands] : List Int) fun A4_25 k4_25 => ⟨.inr (by kernel_rfl), ?_⟩)
        obtain ⟨v4_3, hv4_3, h⟩ := H.call h
        refine ax 3 rfl (e_cq (cs' := [.slice A0 (List.length a0) k0, .int .i64 v4_3.2.1, .int .u64 v4_3.2.2]) (v := .string (bs v4_3.1)) 4 [.pointer (some ⟨g0, 0, none⟩), .string (bs v2_1.1.Shape)] func139 (fun W S => C.s_l1Cur_blur W hv4_3 (S.bx 4) ((s_argN h0 q0).out W S) q0) ⟨.inr (by kernel_rfl), ?_⟩)
        obtain ⟨v4_7, hv4_7, h⟩ := H.call h
        refine ax 7 rfl (e_cq (cs' := [.slice A0 (List.length a0) k0, .int .i64 v4_7.2.1, .int .u64 v4_7.2.2]) (v := .string (bs v4_7.1)) 4 [.pointer (some ⟨g0, 0, none⟩), .string (bs v2_1.1.Orient)] func139 (fun W S => C.s_l1Cur_blur W hv4_7 (S.bx 4) ((s_argN h0 q0).out W S) q0) ⟨.inr (by kernel_rfl), ?_⟩)
        obtain ⟨v4_12, hv4_12, h⟩ := H.call h
        refine ax 12 rfl (e_cq (cs' := [.slice A0 (List.length a0) k0, .int .i64 v4_12.2.1, .int .u64 v4_12.2.2]) (v := .int .i64 v4_12.1) 4 [.pointer (some ⟨g0, 0, none⟩), .slice A4_11 (List.length ([(-1), v2_1.1.Region] : List Int)) k4_11] func143 (fun W S => C.s_l1Cur_among W hv4_12 (S.bx 4) ((s_argN h0 q0).out W S) q0 ((s_own 5).out W S) (ap_row S 5 4 (by decide))) ⟨.inr (by kernel_rfl), ?_⟩)
        obtain ⟨v4_19, hv4_19, h⟩ := H.call h
        refine ax 19 rfl (e_cq (cs' := [.slice A0 (List.length a0) k0, .int .i64 v4_19.2.1, .int .u64 v4_19.2.2]) (v := .string (bs v4_19.1)) 4 [.pointer (some ⟨g0, 0, none⟩), .string (bs v2_1.1.Steps)] func139 (fun W S => C.s_l1Cur_blur W hv4_19 (S.bx 4) ((s_argN h0 q0).out W S) q0) ⟨.inr (by kernel_rfl), ?_⟩)
        refine ax 20 rfl (e_lit (e := eS) (el := 9) [.string (bs ([42] : Str)), .string (bs v2_1.1.Steps), .string (bs v4_19.1)] ([([42] : Str), v2_1.1.Steps, v4_19.1] : List Str) fun A4_20 k4_20 => ⟨.inr (by kernel_rfl), ?_⟩)
        obtain ⟨v4_21, hv4_21, h⟩ := H.call h
        refine ax 21 rfl (e_cq (cs' := [.slice A0 (List.length a0) k0, .int .i64 v4_21.2.1, .int .u64 v4_21.2.2]) (v := .string (bs v4_21.1)) 4 [.pointer (some ⟨g0, 0, none⟩), .slice A4_20 (List.length ([([42] : Str), v2_1.1.Steps, v4_19.1] : List Str)) k4_20] func117 (fun W S => C.s_l1Cur_of W hv4_21 (S.bx 4) ((s_argN h0 q0).out W S) q0 ((s_own 7).out W S) (ap_row S 7 4 (by decide))) ⟨.inr (by kernel_rfl), ?_⟩)
        obtain ⟨v4_26, hv4_26, h⟩ := H.call h
        refine ax 26 rfl (e_cq (cs' := [.slice A0 (List.length a0) k0, .int .i64 v4_26.2.1, .int .u64 v4_26.2.2]) (v := .int .i64 v4_26.1) 4 [.pointer (some ⟨g0, 0, none⟩), .slice A4_25 (List.length ([0, v2_1.1.Hands] : List Int)) k4_25] func143 (fun W S => C.s_l1Cur_among W hv4_26 (S.bx 4) ((s_argN h0 q0).out W S) q0 ((s_own 6).out W S) (ap_row S 6 4 (by decide))) ⟨.inr (by kernel_rfl), ?_⟩)
        refine ap 27 1 ?_
        refine ax 28 rfl (x_sto 2 g1_1 0 (ePattern (⟨v4_3.1, v4_7.1, v4_12.1, v4_21.1, v4_26.1⟩ : Pattern)) ⟨.inl (by kernel_rfl), ?_⟩)
        refine a_done ?_
        refine swp [box g0_0 38 (eSign a1), box g0_1 79 (ePattern zPattern), box g1_1 79 (ePattern (⟨v4_3.1, v4_7.1, v4_12.1, v4_21.1, v4_26.1⟩ : Pattern)), box g2_5 79 (ePattern v2_1.1), box g0 94 [.slice A0 (List.length a0) k0, .int .i64 v4_26.2.1, .int .u64 v4_26.2.2], rowT (eI .i64) w.heap.size 3 (.slice A4_11 (List.length ([(-1), v2_1.1.Region] : List Int)) k4_11) ([(-1), v2_1.1.Region] : List Int)] (rowT (eI .i64) w.heap.size 3 (.slice A4_25 (List.length ([0, v2_1.1.Hands] : List Int)) k4_25) ([0, v2_1.1.Hands] : List Int)) (rowT eS w.heap.size 9 (.slice A4_20 (List.length ([([42] : Str), v2_1.1.Steps, v4_19.1] : List Str)) k4_20) ([([42] : Str), v2_1.1.Steps, v4_19.1] : List Str)) ?_
        refine pick [4, 0, 1, 2, 3, 5, 6, 7] [box g0 94 [.slice A0 (List.length a0) k0, .int .i64 v4_26.2.1, .int .u64 v4_26.2.2], box g0_0 38 (eSign a1), box g0_1 79 (ePattern zPattern), box g1_1 79 (ePattern (⟨v4_3.1, v4_7.1, v4_12.1, v4_21.1, v4_26.1⟩ : Pattern)), box g2_5 79 (ePattern v2_1.1), rowT (eI .i64) w.heap.size 3 (.slice A4_11 (List.length ([(-1), v2_1.1.Region] : List Int)) k4_11) ([(-1), v2_1.1.Region] : List Int), rowT eS w.heap.size 9 (.slice A4_20 (List.length ([([42] : Str), v2_1.1.Steps, v4_19.1] : List Str)) k4_20) ([([42] : Str), v2_1.1.Steps, v4_19.1] : List Str), rowT (eI .i64) w.heap.size 3 (.slice A4_25 (List.length ([0, v2_1.1.Hands] : List Int)) k4_25) ([0, v2_1.1.Hands] : List Int)] ?_
        replace h := H.done h
        exact hj14 (v4_26.2.1, v4_26.2.2, (⟨v4_3.1, v4_7.1, v4_12.1, v4_21.1, v4_26.1⟩ : Pattern), ([(-1), v2_1.1.Region] : List Int), ([([42] : Str), v2_1.1.Steps, v4_19.1] : List Str), ([0, v2_1.1.Hands] : List Int), A4_11, k4_11, A4_20, k4_20, A4_25, k4_25) _ _ h (by kernel_rfl) (by kernel_rfl)
      refine (e_lit (e := (eI .i64)) (el := 3) [.int .i64 0, .int .i64 v2_1.1.Hands] ([0, v2_1.1.Hands] : List Int) fun A4_25 k4_25 => ⟨.inr (by kernel_rfl), ?_⟩)
      refine a_two 3 11 rfl rfl ?_ ?_
      · skip
        obtain ⟨v4_3, hv4_3, h⟩ := H.call h
        refine (e_cq (cs' := [.slice A0 (List.length a0) k0, .int .i64 v4_3.2.1, .int .u64 v4_3.2.2]) (v := .string (bs v4_3.1)) 4 [.pointer (some ⟨g0, 0, none⟩), .string (bs v2_1.1.Shape)] func139 (fun W S => C.s_l1Cur_blur W hv4_3 (S.bx 4) ((s_argN h0 q0).out W S) q0) ⟨.inr (by kernel_rfl), ?_⟩)
        refine a_two 7 11 rfl rfl ?_ ?_
        · skip
          obtain ⟨v4_7, hv4_7, h⟩ := H.call h
          refine (e_cq (cs' := [.slice A0 (List.length a0) k0, .int .i64 v4_7.2.1, .int .u64 v4_7.2.2]) (v := .string (bs v4_7.1)) 4 [.pointer (some ⟨g0, 0, none⟩), .string (bs v2_1.1.Orient)] func139 (fun W S => C.s_l1Cur_blur W hv4_7 (S.bx 4) ((s_argN h0 q0).out W S) q0) ⟨.inr (by kernel_rfl), ?_⟩)
          refine ax 11 rfl (e_lit (e := (eI .i64)) (el := 3) [.int .i64 (-1), .int .i64 v2_1.1.Region] ([(-1), v2_1.1.Region] : List Int) fun A4_11 k4_11 => ⟨.inr (by kernel_rfl), ?_⟩)
          obtain ⟨v4_12, hv4_12, h⟩ := H.call h
          refine ax 12 rfl (e_cq (cs' := [.slice A0 (List.length a0) k0, .int .i64 v4_12.2.1, .int .u64 v4_12.2.2]) (v := .int .i64 v4_12.1) 4 [.pointer (some ⟨g0, 0, none⟩), .slice A4_11 (List.length ([(-1), v2_1.1.Region] : List Int)) k4_11] func143 (fun W S => C.s_l1Cur_among W hv4_12 (S.bx 4) ((s_argN h0 q0).out W S) q0 ((s_own 6).out W S) (ap_row S 6 4 (by decide))) ⟨.inr (by kernel_rfl), ?_⟩)
          obtain ⟨v4_19, hv4_19, h⟩ := H.call h
          refine ax 19 rfl (e_cq (cs' := [.slice A0 (List.length a0) k0, .int .i64 v4_19.2.1, .int .u64 v4_19.2.2]) (v := .string (bs v4_19.1)) 4 [.pointer (some ⟨g0, 0, none⟩), .string (bs v2_1.1.Steps)] func139 (fun W S => C.s_l1Cur_blur W hv4_19 (S.bx 4) ((s_argN h0 q0).out W S) q0) ⟨.inr (by kernel_rfl), ?_⟩)
          refine ax 20 rfl (e_lit (e := eS) (el := 9) [.string (bs ([42] : Str)), .string (bs v2_1.1.Steps), .string (bs v4_19.1)] ([([42] : Str), v2_1.1.Steps, v4_19.1] : List Str) fun A4_20 k4_20 => ⟨.inr (by kernel_rfl), ?_⟩)
          obtain ⟨v4_21, hv4_21, h⟩ := H.call h
          refine ax 21 rfl (e_cq (cs' := [.slice A0 (List.length a0) k0, .int .i64 v4_21.2.1, .int .u64 v4_21.2.2]) (v := .string (bs v4_21.1)) 4 [.pointer (some ⟨g0, 0, none⟩), .slice A4_20 (List.length ([([42] : Str), v2_1.1.Steps, v4_19.1] : List Str)) k4_20] func117 (fun W S => C.s_l1Cur_of W hv4_21 (S.bx 4) ((s_argN h0 q0).out W S) q0 ((s_own 7).out W S) (ap_row S 7 4 (by decide))) ⟨.inr (by kernel_rfl), ?_⟩)
          obtain ⟨v4_26, hv4_26, h⟩ := H.call h
          refine ax 26 rfl (e_cq (cs' := [.slice A0 (List.length a0) k0, .int .i64 v4_26.2.1, .int .u64 v4_26.2.2]) (v := .int .i64 v4_26.1) 4 [.pointer (some ⟨g0, 0, none⟩), .slice A4_25 (List.length ([0, v2_1.1.Hands] : List Int)) k4_25] func143 (fun W S => C.s_l1Cur_among W hv4_26 (S.bx 4) ((s_argN h0 q0).out W S) q0 ((s_own 5).out W S) (ap_row S 5 4 (by decide))) ⟨.inr (by kernel_rfl), ?_⟩)
          refine ap 27 1 ?_
          refine ax 28 rfl (x_sto 2 g1_1 0 (ePattern (⟨v4_3.1, v4_7.1, v4_12.1, v4_21.1, v4_26.1⟩ : Pattern)) ⟨.inl (by kernel_rfl), ?_⟩)
          refine a_done ?_
          refine pick [0, 1, 2, 3, 4, 6, 7, 5] [box g0_0 38 (eSign a1), box g0_1 79 (ePattern zPattern), box g1_1 79 (ePattern (⟨v4_3.1, v4_7.1, v4_12.1, v4_21.1, v4_26.1⟩ : Pattern)), box g2_5 79 (ePattern v2_1.1), box g0 94 [.slice A0 (List.length a0) k0, .int .i64 v4_26.2.1, .int .u64 v4_26.2.2], rowT (eI .i64) w.heap.size 3 (.slice A4_11 (List.length ([(-1), v2_1.1.Region] : List Int)) k4_11) ([(-1), v2_1.1.Region] : List Int), rowT eS w.heap.size 9 (.slice A4_20 (List.length ([([42] : Str), v2_1.1.Steps, v4_19.1] : List Str)) k4_20) ([([42] : Str), v2_1.1.Steps, v4_19.1] : List Str), rowT (eI .i64) w.heap.size 3 (.slice A4_25 (List.length ([0, v2_1.1.Hands] : List Int)) k4_25) ([0, v2_1.1.Hands] : List Int)] ?_
          refine pick [4, 0, 1, 2, 3, 5, 6, 7] [box g0 94 [.slice A0 (List.length a0) k0, .int .i64 v4_26.2.1, .int .u64 v4_26.2.2], box g0_0 38 (eSign a1), box g0_1 79 (ePattern zPattern), box g1_1 79 (ePattern (⟨v4_3.1, v4_7.1, v4_12.1, v4_21.1, v4_26.1⟩ : Pattern)), box g2_5 79 (ePattern v2_1.1), rowT (eI .i64) w.heap.size 3 (.slice A4_11 (List.length ([(-1), v2_1.1.Region] : List Int)) k4_11) ([(-1), v2_1.1.Region] : List Int), rowT eS w.heap.size 9 (.slice A4_20 (List.length ([([42] : Str), v2_1.1.Steps, v4_19.1] : List Str)) k4_20) ([([42] : Str), v2_1.1.Steps, v4_19.1] : List Str), rowT (eI .i64) w.heap.size 3 (.slice A4_25 (List.length ([0, v2_1.1.Hands] : List Int)) k4_25) ([0, v2_1.1.Hands] : List Int)] ?_
          replace h := H.done h
          exact hj14 (v4_26.2.1, v4_26.2.2, (⟨v4_3.1, v4_7.1, v4_12.1, v4_21.1, v4_26.1⟩ : Pattern), ([(-1), v2_1.1.Region] : List Int), ([([42] : Str), v2_1.1.Steps, v4_19.1] : List Str), ([0, v2_1.1.Hands] : List Int), A4_11, k4_11, A4_20, k4_20, A4_25, k4_25) _ _ h (by kernel_rfl) (by kernel_rfl)
        refine (e_lit (e := (eI .i64)) (el := 3) [.int .i64 (-1), .int .i64 v2_1.1.Region] ([(-1), v2_1.1.Region] : List Int) fun A4_11 k4_11 => ⟨.inr (by kernel_rfl), ?_⟩)
        obtain ⟨v4_7, hv4_7, h⟩ := H.call h
        refine ax 7 rfl (e_cq (cs' := [.slice A0 (List.length a0) k0, .int .i64 v4_7.2.1, .int .u64 v4_7.2.2]) (v := .string (bs v4_7.1)) 4 [.pointer (some ⟨g0, 0, none⟩), .string (bs v2_1.1.Orient)] func139 (fun W S => C.s_l1Cur_blur W hv4_7 (S.bx 4) ((s_argN h0 q0).out W S) q0) ⟨.inr (by kernel_rfl), ?_⟩)
        obtain ⟨v4_12, hv4_12, h⟩ := H.call h
        refine ax 12 rfl (e_cq (cs' := [.slice A0 (List.length a0) k0, .int .i64 v4_12.2.1, .int .u64 v4_12.2.2]) (v := .int .i64 v4_12.1) 4 [.pointer (some ⟨g0, 0, none⟩), .slice A4_11 (List.length ([(-1), v2_1.1.Region] : List Int)) k4_11] func143 (fun W S => C.s_l1Cur_among W hv4_12 (S.bx 4) ((s_argN h0 q0).out W S) q0 ((s_own 6).out W S) (ap_row S 6 4 (by decide))) ⟨.inr (by kernel_rfl), ?_⟩)
        obtain ⟨v4_19, hv4_19, h⟩ := H.call h
        refine ax 19 rfl (e_cq (cs' := [.slice A0 (List.length a0) k0, .int .i64 v4_19.2.1, .int .u64 v4_19.2.2]) (v := .string (bs v4_19.1)) 4 [.pointer (some ⟨g0, 0, none⟩), .string (bs v2_1.1.Steps)] func139 (fun W S => C.s_l1Cur_blur W hv4_19 (S.bx 4) ((s_argN h0 q0).out W S) q0) ⟨.inr (by kernel_rfl), ?_⟩)
        refine ax 20 rfl (e_lit (e := eS) (el := 9) [.string (bs ([42] : Str)), .string (bs v2_1.1.Steps), .string (bs v4_19.1)] ([([42] : Str), v2_1.1.Steps, v4_19.1] : List Str) fun A4_20 k4_20 => ⟨.inr (by kernel_rfl), ?_⟩)
        obtain ⟨v4_21, hv4_21, h⟩ := H.call h
        refine ax 21 rfl (e_cq (cs' := [.slice A0 (List.length a0) k0, .int .i64 v4_21.2.1, .int .u64 v4_21.2.2]) (v := .string (bs v4_21.1)) 4 [.pointer (some ⟨g0, 0, none⟩), .slice A4_20 (List.length ([([42] : Str), v2_1.1.Steps, v4_19.1] : List Str)) k4_20] func117 (fun W S => C.s_l1Cur_of W hv4_21 (S.bx 4) ((s_argN h0 q0).out W S) q0 ((s_own 7).out W S) (ap_row S 7 4 (by decide))) ⟨.inr (by kernel_rfl), ?_⟩)
        obtain ⟨v4_26, hv4_26, h⟩ := H.call h
        refine ax 26 rfl (e_cq (cs' := [.slice A0 (List.length a0) k0, .int .i64 v4_26.2.1, .int .u64 v4_26.2.2]) (v := .int .i64 v4_26.1) 4 [.pointer (some ⟨g0, 0, none⟩), .slice A4_25 (List.length ([0, v2_1.1.Hands] : List Int)) k4_25] func143 (fun W S => C.s_l1Cur_among W hv4_26 (S.bx 4) ((s_argN h0 q0).out W S) q0 ((s_own 5).out W S) (ap_row S 5 4 (by decide))) ⟨.inr (by kernel_rfl), ?_⟩)
        refine ap 27 1 ?_
        refine ax 28 rfl (x_sto 2 g1_1 0 (ePattern (⟨v4_3.1, v4_7.1, v4_12.1, v4_21.1, v4_26.1⟩ : Pattern)) ⟨.inl (by kernel_rfl), ?_⟩)
        refine a_done ?_
        refine pick [0, 1, 2, 3, 4, 6, 7, 5] [box g0_0 38 (eSign a1), box g0_1 79 (ePattern zPattern), box g1_1 79 (ePattern (⟨v4_3.1, v4_7.1, v4_12.1, v4_21.1, v4_26.1⟩ : Pattern)), box g2_5 79 (ePattern v2_1.1), box g0 94 [.slice A0 (List.length a0) k0, .int .i64 v4_26.2.1, .int .u64 v4_26.2.2], rowT (eI .i64) w.heap.size 3 (.slice A4_11 (List.length ([(-1), v2_1.1.Region] : List Int)) k4_11) ([(-1), v2_1.1.Region] : List Int), rowT eS w.heap.size 9 (.slice A4_20 (List.length ([([42] : Str), v2_1.1.Steps, v4_19.1] : List Str)) k4_20) ([([42] : Str), v2_1.1.Steps, v4_19.1] : List Str), rowT (eI .i64) w.heap.size 3 (.slice A4_25 (List.length ([0, v2_1.1.Hands] : List Int)) k4_25) ([0, v2_1.1.Hands] : List Int)] ?_
        refine pick [4, 0, 1, 2, 3, 5, 6, 7] [box g0 94 [.slice A0 (List.length a0) k0, .int .i64 v4_26.2.1, .int .u64 v4_26.2.2], box g0_0 38 (eSign a1), box g0_1 79 (ePattern zPattern), box g1_1 79 (ePattern (⟨v4_3.1, v4_7.1, v4_12.1, v4_21.1, v4_26.1⟩ : Pattern)), box g2_5 79 (ePattern v2_1.1), rowT (eI .i64) w.heap.size 3 (.slice A4_11 (List.length ([(-1), v2_1.1.Region] : List Int)) k4_11) ([(-1), v2_1.1.Region] : List Int), rowT eS w.heap.size 9 (.slice A4_20 (List.length ([([42] : Str), v2_1.1.Steps, v4_19.1] : List Str)) k4_20) ([([42] : Str), v2_1.1.Steps, v4_19.1] : List Str), rowT (eI .i64) w.heap.size 3 (.slice A4_25 (List.length ([0, v2_1.1.Hands] : List Int)) k4_25) ([0, v2_1.1.Hands] : List Int)] ?_
        replace h := H.done h
        exact hj14 (v4_26.2.1, v4_26.2.2, (⟨v4_3.1, v4_7.1, v4_12.1, v4_21.1, v4_26.1⟩ : Pattern), ([(-1), v2_1.1.Region] : List Int), ([([42] : Str), v2_1.1.Steps, v4_19.1] : List Str), ([0, v2_1.1.Hands] : List Int), A4_11, k4_11, A4_20, k4_20, A4_25, k4_25) _ _ h (by kernel_rfl) (by kernel_rfl)
      refine (e_lit (e := (eI .i64)) (el := 3) [.int .i64 (-1), .int .i64 v2_1.1.Region] ([(-1), v2_1.1.Region] : List Int) fun A4_11 k4_11 => ⟨.inr (by kernel_rfl), ?_⟩)
      obtain ⟨v4_3, hv4_3, h⟩ := H.call h
      refine ax 3 rfl (e_cq (cs' := [.slice A0 (List.length a0) k0, .int .i64 v4_3.2.1, .int .u64 v4_3.2.2]) (v := .string (bs v4_3.1)) 4 [.pointer (some ⟨g0, 0, none⟩), .string (bs v2_1.1.Shape)] func139 (fun W S => C.s_l1Cur_blur W hv4_3 (S.bx 4) ((s_argN h0 q0).out W S) q0) ⟨.inr (by kernel_rfl), ?_⟩)
      obtain ⟨v4_7, hv4_7, h⟩ := H.call h
      refine ax 7 rfl (e_cq (cs' := [.slice A0 (List.length a0) k0, .int .i64 v4_7.2.1, .int .u64 v4_7.2.2]) (v := .string (bs v4_7.1)) 4 [.pointer (some ⟨g0, 0, none⟩), .string (bs v2_1.1.Orient)] func139 (fun W S => C.s_l1Cur_blur W hv4_7 (S.bx 4) ((s_argN h0 q0).out W S) q0) ⟨.inr (by kernel_rfl), ?_⟩)
      obtain ⟨v4_12, hv4_12, h⟩ := H.call h
      refine ax 12 rfl (e_cq (cs' := [.slice A0 (List.length a0) k0, .int .i64 v4_12.2.1, .int .u64 v4_12.2.2]) (v := .int .i64 v4_12.1) 4 [.pointer (some ⟨g0, 0, none⟩), .slice A4_11 (List.length ([(-1), v2_1.1.Region] : List Int)) k4_11] func143 (fun W S => C.s_l1Cur_among W hv4_12 (S.bx 4) ((s_argN h0 q0).out W S) q0 ((s_own 6).out W S) (ap_row S 6 4 (by decide))) ⟨.inr (by kernel_rfl), ?_⟩)
      obtain ⟨v4_19, hv4_19, h⟩ := H.call h
      refine ax 19 rfl (e_cq (cs' := [.slice A0 (List.length a0) k0, .int .i64 v4_19.2.1, .int .u64 v4_19.2.2]) (v := .string (bs v4_19.1)) 4 [.pointer (some ⟨g0, 0, none⟩), .string (bs v2_1.1.Steps)] func139 (fun W S => C.s_l1Cur_blur W hv4_19 (S.bx 4) ((s_argN h0 q0).out W S) q0) ⟨.inr (by kernel_rfl), ?_⟩)
      refine ax 20 rfl (e_lit (e := eS) (el := 9) [.string (bs ([42] : Str)), .string (bs v2_1.1.Steps), .string (bs v4_19.1)] ([([42] : Str), v2_1.1.Steps, v4_19.1] : List Str) fun A4_20 k4_20 => ⟨.inr (by kernel_rfl), ?_⟩)
      obtain ⟨v4_21, hv4_21, h⟩ := H.call h
      refine ax 21 rfl (e_cq (cs' := [.slice A0 (List.length a0) k0, .int .i64 v4_21.2.1, .int .u64 v4_21.2.2]) (v := .string (bs v4_21.1)) 4 [.pointer (some ⟨g0, 0, none⟩), .slice A4_20 (List.length ([([42] : Str), v2_1.1.Steps, v4_19.1] : List Str)) k4_20] func117 (fun W S => C.s_l1Cur_of W hv4_21 (S.bx 4) ((s_argN h0 q0).out W S) q0 ((s_own 7).out W S) (ap_row S 7 4 (by decide))) ⟨.inr (by kernel_rfl), ?_⟩)
      obtain ⟨v4_26, hv4_26, h⟩ := H.call h
      refine ax 26 rfl (e_cq (cs' := [.slice A0 (List.length a0) k0, .int .i64 v4_26.2.1, .int .u64 v4_26.2.2]) (v := .int .i64 v4_26.1) 4 [.pointer (some ⟨g0, 0, none⟩), .slice A4_25 (List.length ([0, v2_1.1.Hands] : List Int)) k4_25] func143 (fun W S => C.s_l1Cur_among W hv4_26 (S.bx 4) ((s_argN h0 q0).out W S) q0 ((s_own 5).out W S) (ap_row S 5 4 (by decide))) ⟨.inr (by kernel_rfl), ?_⟩)
      refine ap 27 1 ?_
      refine ax 28 rfl (x_sto 2 g1_1 0 (ePattern (⟨v4_3.1, v4_7.1, v4_12.1, v4_21.1, v4_26.1⟩ : Pattern)) ⟨.inl (by kernel_rfl), ?_⟩)
      refine a_done ?_
      refine pick [0, 1, 2, 3, 4, 6, 7, 5] [box g0_0 38 (eSign a1), box g0_1 79 (ePattern zPattern), box g1_1 79 (ePattern (⟨v4_3.1, v4_7.1, v4_12.1, v4_21.1, v4_26.1⟩ : Pattern)), box g2_5 79 (ePattern v2_1.1), box g0 94 [.slice A0 (List.length a0) k0, .int .i64 v4_26.2.1, .int .u64 v4_26.2.2], rowT (eI .i64) w.heap.size 3 (.slice A4_11 (List.length ([(-1), v2_1.1.Region] : List Int)) k4_11) ([(-1), v2_1.1.Region] : List Int), rowT eS w.heap.size 9 (.slice A4_20 (List.length ([([42] : Str), v2_1.1.Steps, v4_19.1] : List Str)) k4_20) ([([42] : Str), v2_1.1.Steps, v4_19.1] : List Str), rowT (eI .i64) w.heap.size 3 (.slice A4_25 (List.length ([0, v2_1.1.Hands] : List Int)) k4_25) ([0, v2_1.1.Hands] : List Int)] ?_
      refine pick [4, 0, 1, 2, 3, 5, 6, 7] [box g0 94 [.slice A0 (List.length a0) k0, .int .i64 v4_26.2.1, .int .u64 v4_26.2.2], box g0_0 38 (eSign a1), box g0_1 79 (ePattern zPattern), box g1_1 79 (ePattern (⟨v4_3.1, v4_7.1, v4_12.1, v4_21.1, v4_26.1⟩ : Pattern)), box g2_5 79 (ePattern v2_1.1), rowT (eI .i64) w.heap.size 3 (.slice A4_11 (List.length ([(-1), v2_1.1.Region] : List Int)) k4_11) ([(-1), v2_1.1.Region] : List Int), rowT eS w.heap.size 9 (.slice A4_20 (List.length ([([42] : Str), v2_1.1.Steps, v4_19.1] : List Str)) k4_20) ([([42] : Str), v2_1.1.Steps, v4_19.1] : List Str), rowT (eI .i64) w.heap.size 3 (.slice A4_25 (List.length ([0, v2_1.1.Hands] : List Int)) k4_25) ([0, v2_1.1.Hands] : List Int)] ?_
      replace h := H.done h
      exact hj14 (v4_26.2.1, v4_26.2.2, (⟨v4_3.1, v4_7.1, v4_12.1, v4_21.1, v4_26.1⟩ : Pattern), ([(-1), v2_1.1.Region] : List Int), ([([42] : Str), v2_1.1.Steps, v4_19.1] : List Str), ([0, v2_1.1.Hands] : List Int), A4_11, k4_11, A4_20, k4_20, A4_25, k4_25) _ _ h (by kernel_rfl) (by kernel_rfl)
    intro x u h
    obtain ⟨n2, n3, s4, l5, l8, l11, A6, k7, A9, k10, A12, k13⟩ := x
    refine c_seq ?_
    refine r_start ?_
    refine p 1 ?_
    refine xq rfl (y_load (.string (bs v2_1.1.Steps)) 4 g2_5 3) ?_
    refine p 3 ?_
    refine br (decide ((List.length v2_1.1.Steps : Int) > 1)) (fun q15 => ?_) (fun q15 => ?_)
    · replace h := H.t q15 h
      refine o_set 47 (congrArg Value.bool q15) ?_
      refine p 1 ?_
      obtain ⟨v5_6, hv5_6, h⟩ := H.call h
      refine xx rfl (e_cq (cs' := [.slice A0 (List.length a0) k0, .int .i64 v5_6.2.1, .int .u64 v5_6.2.2]) (v := .bool v5_6.1) 0 [.pointer (some ⟨g0, 0, none⟩), .int .i64 3] func78 (fun W S => C.s_l1Cur_one W hv5_6 (S.bx 0) ((s_argN h0 q0).out W S) q0) ?_)
      refine p 1 ?_
      refine rend ?_
      refine c_or v5_6.1 (fun q16 => ?_) (fun q16 => ?_)
      · replace h := H.t q16 h
        refine r_start ?_
        refine p 1 ?_
        refine xq rfl (y_load (.string (bs v2_1.1.Steps)) 4 g2_5 3) ?_
        obtain ⟨y6_2, hy6_2, h⟩ := H.call h
        refine xq rfl (y_cut hy6_2) ?_
        obtain ⟨y6_3, hy6_3, h⟩ := H.call h
        refine xq rfl (y_cat hy6_3) ?_
        refine p 1 ?_
        refine xx rfl (x_sto 3 g1_1 3 (ePattern ({ s4 with Steps := y6_3 })) ?_)
        refine rend ?_
        refine c_seq ?_
        refine c_seq ?_
        refine r_start ?_
        refine p 1 ?_
        obtain ⟨v7_1, hv7_1, h⟩ := H.call h
        refine xx rfl (e_cq (cs' := [.slice A0 (List.length a0) k0, .int .i64 v7_1.2.1, .int .u64 v7_1.2.2]) (v := .int .i64 v7_1.1) 0 [.pointer (some ⟨g0, 0, none⟩), .int .i64 12] func79 (fun W S => C.s_l1Cur_pick W hv7_1 (S.bx 0) ((s_argN h0 q0).out W S) q0) ?_)
        refine rend ?_
        refine c_block ?_
        refine c_seq ?_
        refine r_start ?_
        refine p 2 ?_
        refine rend ?_
        refine c_or (v7_1.1 == 0) (fun q17 => ?_) (fun q17 => ?_)
        · replace h := H.t q17 h
          refine r_start ?_
          refine p 1 ?_
          refine xx rfl (e_lit (e := eS) (el := 9) [.string (bs ([49, 63, 63, 63, 63] : Str)), .string (bs ([50, 63, 48, 63, 63] : Str)), .string (bs ([63, 63, 63, 63, 63] : Str)), .string (bs ([48, 48, 48, 48] : Str)), .string (bs ([48, 63, 51, 63, 63] : Str)), .string (bs ([63, 63, 63, 63, 63, 63] : Str))] ([([49, 63, 63, 63, 63] : Str), ([50, 63, 48, 63, 63] : Str), ([63, 63, 63, 63, 63] : Str), ([48, 48, 48, 48] : Str), ([48, 63, 51, 63, 63] : Str), ([63, 63, 63, 63, 63, 63] : Str)] : List Str) fun A9_1 k9_1 => ?_)
          obtain ⟨v9_2, hv9_2, h⟩ := H.call h
          refine xx rfl (e_cq (cs' := [.slice A0 (List.length a0) k0, .int .i64 v9_2.2.1, .int .u64 v9_2.2.2]) (v := .string (bs v9_2.1)) 0 [.pointer (some ⟨g0, 0, none⟩), .slice A9_1 (List.length ([([49, 63, 63, 63, 63] : Str), ([50, 63, 48, 63, 63] : Str), ([63, 63, 63, 63, 63] : Str), ([48, 48, 48, 48] : Str), ([48, 63, 51, 63, 63] : Str), ([63, 63, 63, 63, 63, 63] : Str)] : List Str)) k9_1] func117 (fun W S => C.s_l1Cur_of W hv9_2 (S.bx 0) ((s_argN h0 q0).out W S) q0 ((s_own 8).out W S) (ap_row S 8 0 (by decide))) ?_)
          refine p 1 ?_
          refine xx rfl (x_sto 3 g1_1 0 (ePattern ({ s4 with Shape := v9_2.1, Steps := y6_3 })) ?_)
          refine rend ?_
          refine c_inb ?_
          refine c_seq ?_
          refine r_start ?_
          refine xq rfl (y_load (.agg (ePattern ({ s4 with Shape := v9_2.1, Steps := y6_3 })).toArray) 3 g1_1 0) ?_
          refine xx rfl (x_sto 2 g0_1 0 (ePattern ({ s4 with Shape := v9_2.1, Steps := y6_3 })) ?_)
          refine rend ?_
          replace h := H.done h
          subst h
          exact ret func137 rfl (vs := [.agg (ePattern ({ s4 with Shape := v9_2.1, Steps := y6_3 })).toArray]) (.cell 2 g0_1 rfl (by kernel_rfl) (by kernel_rfl) .nil) rfl (fun W S => S.retQ)
        replace h := H.f q17 h
        refine c_seq ?_
        refine r_start ?_
        refine p 2 ?_
        refine rend ?_
        refine c_or (v7_1.1 == 1) (fun q18 => ?_) (fun q18 => ?_)
        · replace h := H.t q18 h
          refine r_start ?_
          refine p 1 ?_
          refine xx rfl (e_lit (e := eS) (el := 9) [.string (bs ([63, 117] : Str)), .string (bs ([108, 114] : Str)), .string (bs ([98, 63] : Str)), .string (bs ([120, 63] : Str)), .string (bs ([63] : Str))] ([([63, 117] : Str), ([108, 114] : Str), ([98, 63] : Str), ([120, 63] : Str), ([63] : Str)] : List Str) fun A11_1 k11_1 => ?_)
          obtain ⟨v11_2, hv11_2, h⟩ := H.call h
          refine xx rfl (e_cq (cs' := [.slice A0 (List.length a0) k0, .int .i64 v11_2.2.1, .int .u64 v11_2.2.2]) (v := .string (bs v11_2.1)) 0 [.pointer (some ⟨g0, 0, none⟩), .slice A11_1 (List.length ([([63, 117] : Str), ([108, 114] : Str), ([98, 63] : Str), ([120, 63] : Str), ([63] : Str)] : List Str)) k11_1] func117 (fun W S => C.s_l1Cur_of W hv11_2 (S.bx 0) ((s_argN h0 q0).out W S) q0 ((s_own 8).out W S) (ap_row S 8 0 (by decide))) ?_)
          refine p 1 ?_
          refine xx rfl (x_sto 3 g1_1 1 (ePattern ({ s4 with Orient := v11_2.1, Steps := y6_3 })) ?_)
          refine rend ?_
          refine c_inb ?_
          refine c_seq ?_
          refine r_start ?_
          refine xq rfl (y_load (.agg (ePattern ({ s4 with Orient := v11_2.1, Steps := y6_3 })).toArray) 3 g1_1 0) ?_
          refine xx rfl (x_sto 2 g0_1 0 (ePattern ({ s4 with Orient := v11_2.1, Steps := y6_3 })) ?_)
          refine rend ?_
          replace h := H.done h
          subst h
          exact ret func137 rfl (vs := [.agg (ePattern ({ s4 with Orient := v11_2.1, Steps := y6_3 })).toArray]) (.cell 2 g0_1 rfl (by kernel_rfl) (by kernel_rfl) .nil) rfl (fun W S => S.retQ)
        replace h := H.f q18 h
        refine c_seq ?_
        refine r_start ?_
        refine p 2 ?_
        refine rend ?_
        refine c_or (v7_1.1 == 2) (fun q19 => ?_) (fun q19 => ?_)
        · replace h := H.t q19 h
          refine r_start ?_
          refine p 1 ?_
          refine xx rfl (e_lit (e := (eI .i64)) (el := 3) [.int .i64 0, .int .i64 5, .int .i64 9, .int .i64 10, .int .i64 (-2)] ([0, 5, 9, 10, (-2)] : List Int) fun A13_1 k13_1 => ?_)
          obtain ⟨v13_2, hv13_2, h⟩ := H.call h
          refine xx rfl (e_cq (cs' := [.slice A0 (List.length a0) k0, .int .i64 v13_2.2.1, .int .u64 v13_2.2.2]) (v := .int .i64 v13_2.1) 0 [.pointer (some ⟨g0, 0, none⟩), .slice A13_1 (List.length ([0, 5, 9, 10, (-2)] : List Int)) k13_1] func143 (fun W S => C.s_l1Cur_among W hv13_2 (S.bx 0) ((s_argN h0 q0).out W S) q0 ((s_own 8).out W S) (ap_row S 8 0 (by decide))) ?_)
          refine p 1 ?_
          refine xx rfl (x_sto 3 g1_1 2 (ePattern ({ s4 with Region := v13_2.1, Steps := y6_3 })) ?_)
          refine rend ?_
          refine c_inb ?_
          refine c_seq ?_
          refine r_start ?_
          refine xq rfl (y_load (.agg (ePattern ({ s4 with Region := v13_2.1, Steps := y6_3 })).toArray) 3 g1_1 0) ?_
          refine xx rfl (x_sto 2 g0_1 0 (ePattern ({ s4 with Region := v13_2.1, Steps := y6_3 })) ?_)
          refine rend ?_
          refine frg (fun u => (jk u 0 4 (.pointer (some ⟨g0_1, 0, none⟩) :: (jk u 5 84 [])))) (by kernel_rfl) fun u => ?_
          refine keep 9 (its' := [box g0 94 [.slice A0 (List.length a0) k0, .int .i64 v13_2.2.1, .int .u64 v13_2.2.2], box g0_0 38 (eSign a1), box g0_1 79 (ePattern ({ s4 with Region := v13_2.1, Steps := y6_3 })), box g1_1 79 (ePattern ({ s4 with Region := v13_2.1, Steps := y6_3 })), box g2_5 79 (ePattern v2_1.1), rowT (eI .i64) w.heap.size 3 (.slice A6 (List.length l5) k7) l5, rowT eS w.heap.size 9 (.slice A9 (List.length l8) k10) l8, rowT (eI .i64) w.heap.size 3 (.slice A12 (List.length l11) k13) l11, rowT (eI .i64) w.heap.size 3 (.slice A13_1 (List.length ([0, 5, 9, 10, (-2)] : List Int)) k13_1) ([0, 5, 9, 10, (-2)] : List Int)]) (by kernel_rfl) ?_
          replace h := H.done h
          subst h
          exact ret func137 rfl (vs := [.agg (ePattern ({ s4 with Region := v13_2.1, Steps := y6_3 })).toArray]) (.cell 2 g0_1 rfl (by kernel_rfl) (by kernel_rfl) .nil) rfl (fun W S => S.retQ)
        replace h := H.f q19 h
        refine c_seq ?_
        refine r_start ?_
        refine p 2 ?_
        refine rend ?_
        refine c_or (v7_1.1 == 3) (fun q20 => ?_) (fun q20 => ?_)
        · replace h := H.t q20 h
          refine r_start ?_
          refine p 1 ?_
          refine xx rfl (e_lit (e := eS) (el := 9) [.string (bs ([] : Str)), .string (bs ([63] : Str)), .string (bs ([42, 63, 42] : Str)), .string (bs ([114, 108, 42] : Str)), .string (bs ([42, 42] : Str)), .string (bs ([120] : Str)), .string (bs ([63, 63, 63, 63, 63, 63, 63, 63, 63, 63, 63, 63, 63, 63, 63, 63, 63, 63, 63, 63] : Str)), .string (bs ([63, 63, 63, 63, 63, 63, 63, 63, 63, 63, 63, 63, 63, 63, 63, 63, 63, 63, 63, 63, 63] : Str)), .string (bs ([42, 117, 42, 100, 42, 108, 42, 114, 42] : Str))] ([([] : Str), ([63] : Str), ([42, 63, 42] : Str), ([114, 108, 42] : Str), ([42, 42] : Str), ([120] : Str), ([63, 63, 63, 63, 63, 63, 63, 63, 63, 63, 63, 63, 63, 63, 63, 63, 63, 63, 63, 63] : Str), ([63, 63, 63, 63, 63, 63, 63, 63, 63, 63, 63, 63, 63, 63, 63, 63, 63, 63, 63, 63, 63] : Str), ([42, 117, 42, 100, 42, 108, 42, 114, 42] : Str)] : List Str) fun A15_1 k15_1 => ?_)
          obtain ⟨v15_2, hv15_2, h⟩ := H.call h
          refine xx rfl (e_cq (cs' := [.slice A0 (List.length a0) k0, .int .i64 v15_2.2.1, .int .u64 v15_2.2.2]) (v := .string (bs v15_2.1)) 0 [.pointer (some ⟨g0, 0, none⟩), .slice A15_1 (List.length ([([] : Str), ([63] : Str), ([42, 63, 42] : Str), ([114, 108, 42] : Str), ([42, 42] : Str), ([120] : Str), ([63, 63, 63, 63, 63, 63, 63, 63, 63, 63, 63, 63, 63, 63, 63, 63, 63, 63, 63, 63] : Str), ([63, 63, 63, 63, 63, 63, 63, 63, 63, 63, 63, 63, 63, 63, 63, 63, 63, 63, 63, 63, 63] : Str), ([42, 117, 42, 100, 42, 108, 42, 114, 42] : Str)] : List Str)) k15_1] func117 (fun W S => C.s_l1Cur_of W hv15_2 (S.bx 0) ((s_argN h0 q0).out W S) q0 ((s_own 8).out W S) (ap_row S 8 0 (by decide))) ?_)
          refine p 1 ?_
          refine xx rfl (x_sto 3 g1_1 3 (ePattern ({ s4 with Steps := v15_2.1 })) ?_)
          refine rend ?_
          refine frg (fun u => (jk u 0 4 (.pointer (some ⟨g0_1, 0, none⟩) :: .pointer (some ⟨g1_1, 0, none⟩) :: (jk u 6 83 [])))) (by kernel_rfl) fun u => ?_
          refine keep 9 (its' := [box g0 94 [.slice A0 (List.length a0) k0, .int .i64 v15_2.2.1, .int .u64 v15_2.2.2], box g0_0 38 (eSign a1), box g0_1 79 (ePattern zPattern), box g1_1 79 (ePattern ({ s4 with Steps := v15_2.1 })), box g2_5 79 (ePattern v2_1.1), rowT (eI .i64) w.heap.size 3 (.slice A6 (List.length l5) k7) l5, rowT eS w.heap.size 9 (.slice A9 (List.length l8) k10) l8, rowT (eI .i64) w.heap.size 3 (.slice A12 (List.length l11) k13) l11, rowT eS w.heap.size 9 (.slice A15_1 (List.length ([([] : Str), ([63] : Str), ([42, 63, 42] : Str), ([114, 108, 42] : Str), ([42, 42] : Str), ([120] : Str), ([63, 63, 63, 63, 63, 63, 63, 63, 63, 63, 63, 63, 63, 63, 63, 63, 63, 63, 63, 63] : Str), ([63, 63, 63, 63, 63, 63, 63, 63, 63, 63, 63, 63, 63, 63, 63, 63, 63, 63, 63, 63, 63] : Str), ([42, 117, 42, 100, 42, 108, 42, 114, 42] : Str)] : List Str)) k15_1) ([([] : Str), ([63] : Str), ([42, 63, 42] : Str), ([114, 108, 42] : Str), ([42, 42] : Str), ([120] : Str), ([63, 63, 63, 63, 63, 63, 63, 63, 63, 63, 63, 63, 63, 63, 63, 63, 63, 63, 63, 63] : Str), ([63, 63, 63, 63, 63, 63, 63, 63, 63, 63, 63, 63, 63, 63, 63, 63, 63, 63, 63, 63, 63] : Str), ([42, 117, 42, 100, 42, 108, 42, 114, 42] : Str)] : List Str)]) (by kernel_rfl) ?_
          refine c_inb ?_
          refine c_seq ?_
          refine r_start ?_
          refine xq rfl (y_load (.agg (ePattern ({ s4 with Steps := v15_2.1 })).toArray) 3 g1_1 0) ?_
          refine xx rfl (x_sto 2 g0_1 0 (ePattern ({ s4 with Steps := v15_2.1 })) ?_)
          refine rend ?_
          replace h := H.done h
          subst h
          exact ret func137 rfl (vs := [.agg (ePattern ({ s4 with Steps := v15_2.1 })).toArray]) (.cell 2 g0_1 rfl (by kernel_rfl) (by kernel_rfl) .nil) rfl (fun W S => S.retQ)
        replace h := H.f q20 h
        refine c_seq ?_
        refine r_start ?_
        refine p 2 ?_
        refine rend ?_
        refine frg (fun u => (.pointer (some ⟨g0, 0, none⟩) :: (jk u 1 3 (.pointer (some ⟨g0_1, 0, none⟩) :: .pointer (some ⟨g1_1, 0, none⟩) :: (jk u 6 76 (.bool (v7_1.1 == 4) :: (jk u 83 6 []))))))) (by kernel_rfl) fun u => ?_
        refine keep 8 (its' := [box g0 94 [.slice A0 (List.length a0) k0, .int .i64 v7_1.2.1, .int .u64 v7_1.2.2], box g0_0 38 (eSign a1), box g0_1 79 (ePattern zPattern), box g1_1 79 (ePattern ({ s4 with Steps := y6_3 })), box g2_5 79 (ePattern v2_1.1), rowT (eI .i64) w.heap.size 3 (.slice A6 (List.length l5) k7) l5, rowT eS w.heap.size 9 (.slice A9 (List.length l8) k10) l8, rowT (eI .i64) w.heap.size 3 (.slice A12 (List.length l11) k13) l11]) (by kernel_rfl) ?_
        refine c_or (v7_1.1 == 4) (fun q21 => ?_) (fun q21 => ?_)
        · replace h := H.t q21 h
          refine r_start ?_
          refine p 1 ?_
          refine xx rfl (e_lit (e := (eI .i64)) (el := 3) [.int .i64 1, .int .i64 2, .int .i64 3, .int .i64 (-1)] ([1, 2, 3, (-1)] : List Int) fun A17_1 k17_1 => ?_)
          obtain ⟨v17_2, hv17_2, h⟩ := H.call h
          refine xx rfl (e_cq (cs' := [.slice A0 (List.length a0) k0, .int .i64 v17_2.2.1, .int .u64 v17_2.2.2]) (v := .int .i64 v17_2.1) 0 [.pointer (some ⟨g0, 0, none⟩), .slice A17_1 (List.length ([1, 2, 3, (-1)] : List Int)) k17_1] func143 (fun W S => C.s_l1Cur_among W hv17_2 (S.bx 0) ((s_argN h0 q0).out W S) q0 ((s_own 8).out W S) (ap_row S 8 0 (by decide))) ?_)
          refine p 1 ?_
          refine xx rfl (x_sto 3 g1_1 4 (ePattern ({ s4 with Steps := y6_3, Hands := v17_2.1 })) ?_)
          refine rend ?_
          refine c_inb ?_
          refine c_seq ?_
          refine r_start ?_
          refine xq rfl (y_load (.agg (ePattern ({ s4 with Steps := y6_3, Hands := v17_2.1 })).toArray) 3 g1_1 0) ?_
          refine xx rfl (x_sto 2 g0_1 0 (ePattern ({ s4 with Steps := y6_3, Hands := v17_2.1 })) ?_)
          refine rend ?_
          replace h := H.done h
          subst h
          exact ret func137 rfl (vs := [.agg (ePattern ({ s4 with Steps := y6_3, Hands := v17_2.1 })).toArray]) (.cell 2 g0_1 rfl (by kernel_rfl) (by kernel_rfl) .nil) rfl (fun W S => S.retQ)
        replace h := H.f q21 h
        refine c_skip ?_
        refine c_inb ?_
        refine c_seq ?_
        refine r_start ?_
        refine xq rfl (y_load (.agg (ePattern ({ s4 with Steps := y6_3 })).toArray) 3 g1_1 0) ?_
        refine xx rfl (x_sto 2 g0_1 0 (ePattern ({ s4 with Steps := y6_3 })) ?_)
        refine rend ?_
        replace h := H.done h
        subst h
        exact ret func137 rfl (vs := [.agg (ePattern ({ s4 with Steps := y6_3 })).toArray]) (.cell 2 g0_1 rfl (by kernel_rfl) (by kernel_rfl) .nil) rfl (fun W S => S.retQ)
      replace h := H.f q16 h
      refine c_skip ?_
      refine c_seq ?_
      refine c_seq ?_
      refine r_start ?_
      refine p 1 ?_
      obtain ⟨v7_1, hv7_1, h⟩ := H.call h
      refine xx rfl (e_cq (cs' := [.slice A0 (List.length a0) k0, .int .i64 v7_1.2.1, .int .u64 v7_1.2.2]) (v := .int .i64 v7_1.1) 0 [.pointer (some ⟨g0, 0, none⟩), .int .i64 12] func79 (fun W S => C.s_l1Cur_pick W hv7_1 (S.bx 0) ((s_argN h0 q0).out W S) q0) ?_)
      refine rend ?_
      refine c_block ?_
      refine c_seq ?_
      refine r_start ?_
      refine p 2 ?_
      refine rend ?_
      refine c_or (v7_1.1 == 0) (fun q22 => ?_) (fun q22 => ?_)
      · replace h := H.t q22 h
        refine r_start ?_
        refine p 1 ?_
        refine xx rfl (e_lit (e := eS) (el := 9) [.string (bs ([49, 63, 63, 63, 63] : Str)), .string (bs ([50, 63, 48, 63, 63] : Str)), .string (bs ([63, 63, 63, 63, 63] : Str)), .string (bs ([48, 48, 48, 48] : Str)), .string (bs ([48, 63, 51, 63, 63] : Str)), .string (bs ([63, 63, 63, 63, 63, 63] : Str))] ([([49, 63, 63, 63, 63] : Str), ([50, 63, 48, 63, 63] : Str), ([63, 63, 63, 63, 63] : Str), ([48, 48, 48, 48] : Str), ([48, 63, 51, 63, 63] : Str), ([63, 63, 63, 63, 63, 63] : Str)] : List Str) fun A9_1 k9_1 => ?_)
        obtain ⟨v9_2, hv9_2, h⟩ := H.call h
        refine xx rfl (e_cq (cs' := [.slice A0 (List.length a0) k0, .int .i64 v9_2.2.1, .int .u64 v9_2.2.2]) (v := .string (bs v9_2.1)) 0 [.pointer (some ⟨g0, 0, none⟩), .slice A9_1 (List.length ([([49, 63, 63, 63, 63] : Str), ([50, 63, 48, 63, 63] : Str), ([63, 63, 63, 63, 63] : Str), ([48, 48, 48, 48] : Str), ([48, 63, 51, 63, 63] : Str), ([63, 63, 63, 63, 63, 63] : Str)] : List Str)) k9_1] func117 (fun W S => C.s_l1Cur_of W hv9_2 (S.bx 0) ((s_argN h0 q0).out W S) q0 ((s_own 8).out W S) (ap_row S 8 0 (by decide))) ?_)
        refine p 1 ?_
        refine xx rfl (x_sto 3 g1_1 0 (ePattern ({ s4 with Shape := v9_2.1 })) ?_)
        refine rend ?_
        refine c_inb ?_
        refine c_seq ?_
        refine r_start ?_
        refine xq rfl (y_load (.agg (ePattern ({ s4 with Shape := v9_2.1 })).toArray) 3 g1_1 0) ?_
        refine xx rfl (x_sto 2 g0_1 0 (ePattern ({ s4 with Shape := v9_2.1 })) ?_)
        refine rend ?_
        replace h := H.done h
        subst h
        exact ret func137 rfl (vs := [.agg (ePattern ({ s4 with Shape := v9_2.1 })).toArray]) (.cell 2 g0_1 rfl (by kernel_rfl) (by kernel_rfl) .nil) rfl (fun W S => S.retQ)
      replace h := H.f q22 h
      refine c_seq ?_
      refine r_start ?_
      refine p 2 ?_
      refine rend ?_
      refine c_or (v7_1.1 == 1) (fun q23 => ?_) (fun q23 => ?_)
      · replace h := H.t q23 h
        refine r_start ?_
        refine p 1 ?_
        refine xx rfl (e_lit (e := eS) (el := 9) [.string (bs ([63, 117] : Str)), .string (bs ([108, 114] : Str)), .string (bs ([98, 63] : Str)), .string (bs ([120, 63] : Str)), .string (bs ([63] : Str))] ([([63, 117] : Str), ([108, 114] : Str), ([98, 63] : Str), ([120, 63] : Str), ([63] : Str)] : List Str) fun A11_1 k11_1 => ?_)
        obtain ⟨v11_2, hv11_2, h⟩ := H.call h
        refine xx rfl (e_cq (cs' := [.slice A0 (List.length a0) k0, .int .i64 v11_2.2.1, .int .u64 v11_2.2.2]) (v := .string (bs v11_2.1)) 0 [.pointer (some ⟨g0, 0, none⟩), .slice A11_1 (List.length ([([63, 117] : Str), ([108, 114] : Str), ([98, 63] : Str), ([120, 63] : Str), ([63] : Str)] : List Str)) k11_1] func117 (fun W S => C.s_l1Cur_of W hv11_2 (S.bx 0) ((s_argN h0 q0).out W S) q0 ((s_own 8).out W S) (ap_row S 8 0 (by decide))) ?_)
        refine p 1 ?_
        refine xx rfl (x_sto 3 g1_1 1 (ePattern ({ s4 with Orient := v11_2.1 })) ?_)
        refine rend ?_
        refine c_inb ?_
        refine c_seq ?_
        refine r_start ?_
        refine xq rfl (y_load (.agg (ePattern ({ s4 with Orient := v11_2.1 })).toArray) 3 g1_1 0) ?_
        refine xx rfl (x_sto 2 g0_1 0 (ePattern ({ s4 with Orient := v11_2.1 })) ?_)
        refine rend ?_
        replace h := H.done h
        subst h
        exact ret func137 rfl (vs := [.agg (ePattern ({ s4 with Orient := v11_2.1 })).toArray]) (.cell 2 g0_1 rfl (by kernel_rfl) (by kernel_rfl) .nil) rfl (fun W S => S.retQ)
      replace h := H.f q23 h
      refine c_seq ?_
      refine r_start ?_
      refine p 2 ?_
      refine rend ?_
      refine c_or (v7_1.1 == 2) (fun q24 => ?_) (fun q24 => ?_)
      · replace h := H.t q24 h
        refine r_start ?_
        refine p 1 ?_
        refine xx rfl (e_lit (e := (eI .i64)) (el := 3) [.int .i64 0, .int .i64 5, .int .i64 9, .int .i64 10, .int .i64 (-2)] ([0, 5, 9, 10, (-2)] : List Int) fun A13_1 k13_1 => ?_)
        obtain ⟨v13_2, hv13_2, h⟩ := H.call h
        refine xx rfl (e_cq (cs' := [.slice A0 (List.length a0) k0, .int .i64 v13_2.2.1, .int .u64 v13_2.2.2]) (v := .int .i64 v13_2.1) 0 [.pointer (some ⟨g0, 0, none⟩), .slice A13_1 (List.length ([0, 5, 9, 10, (-2)] : List Int)) k13_1] func143 (fun W S => C.s_l1Cur_among W hv13_2 (S.bx 0) ((s_argN h0 q0).out W S) q0 ((s_own 8).out W S) (ap_row S 8 0 (by decide))) ?_)
        refine p 1 ?_
        refine xx rfl (x_sto 3 g1_1 2 (ePattern ({ s4 with Region := v13_2.1 })) ?_)
        refine rend ?_
        refine c_inb ?_
        refine c_seq ?_
        refine r_start ?_
        refine xq rfl (y_load (.agg (ePattern ({ s4 with Region := v13_2.1 })).toArray) 3 g1_1 0) ?_
        refine xx rfl (x_sto 2 g0_1 0 (ePattern ({ s4 with Region := v13_2.1 })) ?_)
        refine rend ?_
        replace h := H.done h
        subst h
        exact ret func137 rfl (vs := [.agg (ePattern ({ s4 with Region := v13_2.1 })).toArray]) (.cell 2 g0_1 rfl (by kernel_rfl) (by kernel_rfl) .nil) rfl (fun W S => S.retQ)
      replace h := H.f q24 h
      refine c_seq ?_
      refine r_start ?_
      refine p 2 ?_
      refine rend ?_
      refine c_or (v7_1.1 == 3) (fun q25 => ?_) (fun q25 => ?_)
      · replace h := H.t q25 h
        refine r_start ?_
        refine p 1 ?_
        refine xx rfl (e_lit (e := eS) (el := 9) [.string (bs ([] : Str)), .string (bs ([63] : Str)), .string (bs ([42, 63, 42] : Str)), .string (bs ([114, 108, 42] : Str)), .string (bs ([42, 42] : Str)), .string (bs ([120] : Str)), .string (bs ([63, 63, 63, 63, 63, 63, 63, 63, 63, 63, 63, 63, 63, 63, 63, 63, 63, 63, 63, 63] : Str)), .string (bs ([63, 63, 63, 63, 63, 63, 63, 63, 63, 63, 63, 63, 63, 63, 63, 63, 63, 63, 63, 63, 63] : Str)), .string (bs ([42, 117, 42, 100, 42, 108, 42, 114, 42] : Str))] ([([] : Str), ([63] : Str), ([42, 63, 42] : Str), ([114, 108, 42] : Str), ([42, 42] : Str), ([120] : Str), ([63, 63, 63, 63, 63, 63, 63, 63, 63, 63, 63, 63, 63, 63, 63, 63, 63, 63, 63, 63] : Str), ([63, 63, 63, 63, 63, 63, 63, 63, 63, 63, 63, 63, 63, 63, 63, 63, 63, 63, 63, 63, 63] : Str), ([42, 117, 42, 100, 42, 108, 42, 114, 42] : Str)] : List Str) fun A15_1 k15_1 => ?_)
        obtain ⟨v15_2, hv15_2, h⟩ := H.call h
        refine xx rfl (e_cq (cs' := [.slice A0 (List.length a0) k0, .int .i64 v15_2.2.1, .int .u64 v15_2.2.2]) (v := .string (bs v15_2.1)) 0 [.pointer (some ⟨g0, 0, none⟩), .slice A15_1 (List.length ([([] : Str), ([63] : Str), ([42, 63, 42] : Str), ([114, 108, 42] : Str), ([42, 42] : Str), ([120] : Str), ([63, 63, 63, 63, 63, 63, 63, 63, 63, 63, 63, 63, 63, 63, 63, 63, 63, 63, 63, 63] : Str), ([63, 63, 63, 63, 63, 63, 63, 63, 63, 63, 63, 63, 63, 63, 63, 63, 63, 63, 63, 63, 63] : Str), ([42, 117, 42, 100, 42, 108, 42, 114, 42] : Str)] : List Str)) k15_1] func117 (fun W S => C.s_l1Cur_of W hv15_2 (S.bx 0) ((s_argN h0 q0).out W S) q0 ((s_own 8).out W S) (ap_row S 8 0 (by decide))) ?_)
        refine p 1 ?_
        refine xx rfl (x_sto 3 g1_1 3 (ePattern ({ s4 with Steps := v15_2.1 })) ?_)
        refine rend ?_
        refine c_inb ?_
        refine c_seq ?_
        refine r_start ?_
        refine xq rfl (y_load (.agg (ePattern ({ s4 with Steps := v15_2.1 })).toArray) 3 g1_1 0) ?_
        refine xx rfl (x_sto 2 g0_1 0 (ePattern ({ s4 with Steps := v15_2.1 })) ?_)
        refine rend ?_
        refine frg (fun u => (jk u 0 4 (.pointer (some ⟨g0_1, 0, none⟩) :: (jk u 5 84 [])))) (by kernel_rfl) fun u => ?_
        refine keep 9 (its' := [box g0 94 [.slice A0 (List.length a0) k0, .int .i64 v15_2.2.1, .int .u64 v15_2.2.2], box g0_0 38 (eSign a1), box g0_1 79 (ePattern ({ s4 with Steps := v15_2.1 })), box g1_1 79 (ePattern ({ s4 with Steps := v15_2.1 })), box g2_5 79 (ePattern v2_1.1), rowT (eI .i64) w.heap.size 3 (.slice A6 (List.length l5) k7) l5, rowT eS w.heap.size 9 (.slice A9 (List.length l8) k10) l8, rowT (eI .i64) w.heap.size 3 (.slice A12 (List.length l11) k13) l11, rowT eS w.heap.size 9 (.slice A15_1 (List.length ([([] : Str), ([63] : Str), ([42, 63, 42] : Str), ([114, 108, 42] : Str), ([42, 42] : Str), ([120] : Str), ([63, 63, 63, 63, 63, 63, 63, 63, 63, 63, 63, 63, 63, 63, 63, 63, 63, 63, 63, 63] : Str), ([63, 63, 63, 63, 63, 63, 63, 63, 63, 63, 63, 63, 63, 63, 63, 63, 63, 63, 63, 63, 63] : Str), ([42, 117, 42, 100, 42, 108, 42, 114, 42] : Str)] : List Str)) k15_1) ([([] : Str), ([63] : Str), ([42, 63, 42] : Str), ([114, 108, 42] : Str), ([42, 42] : Str), ([120] : Str), ([63, 63, 63, 63, 63, 63, 63, 63, 63, 63, 63, 63, 63, 63, 63, 63, 63, 63, 63, 63] : Str), ([63, 63, 63, 63, 63, 63, 63, 63, 63, 63, 63, 63, 63, 63, 63, 63, 63, 63, 63, 63, 63] : Str), ([42, 117, 42, 100, 42, 108, 42, 114, 42] : Str)] : List Str)]) (by kernel_rfl) ?_
        replace h := H.done h
        subst h
        exact ret func137 rfl (vs := [.agg (ePattern ({ s4 with Steps := v15_2.1 })).toArray]) (.cell 2 g0_1 rfl (by kernel_rfl) (by kernel_rfl) .nil) rfl (fun W S => S.retQ)
      replace h := H.f q25 h
      refine c_seq ?_
      refine r_start ?_
      refine p 2 ?_
      refine rend ?_
      refine c_or (v7_1.1 == 4) (fun q26 => ?_) (fun q26 => ?_)
      · replace h := H.t q26 h
        refine r_start ?_
        refine p 1 ?_
        refine xx rfl (e_lit (e := (eI .i64)) (el := 3) [.int .i64 1, .int .i64 2, .int .i64 3, .int .i64 (-1)] ([1, 2, 3, (-1)] : List Int) fun A17_1 k17_1 => ?_)
        obtain ⟨v17_2, hv17_2, h⟩ := H.call h
        refine xx rfl (e_cq (cs' := [.slice A0 (List.length a0) k0, .int .i64 v17_2.2.1, .int .u64 v17_2.2.2]) (v := .int .i64 v17_2.1) 0 [.pointer (some ⟨g0, 0, none⟩), .slice A17_1 (List.length ([1, 2, 3, (-1)] : List Int)) k17_1] func143 (fun W S => C.s_l1Cur_among W hv17_2 (S.bx 0) ((s_argN h0 q0).out W S) q0 ((s_own 8).out W S) (ap_row S 8 0 (by decide))) ?_)
        refine p 1 ?_
        refine xx rfl (x_sto 3 g1_1 4 (ePattern ({ s4 with Hands := v17_2.1 })) ?_)
        refine rend ?_
        refine frg (fun u => (jk u 0 4 (.pointer (some ⟨g0_1, 0, none⟩) :: .pointer (some ⟨g1_1, 0, none⟩) :: (jk u 6 83 [])))) (by kernel_rfl) fun u => ?_
        refine keep 9 (its' := [box g0 94 [.slice A0 (List.length a0) k0, .int .i64 v17_2.2.1, .int .u64 v17_2.2.2], box g0_0 38 (eSign a1), box g0_1 79 (ePattern zPattern), box g1_1 79 (ePattern ({ s4 with Hands := v17_2.1 })), box g2_5 79 (ePattern v2_1.1), rowT (eI .i64) w.heap.size 3 (.slice A6 (List.length l5) k7) l5, rowT eS w.heap.size 9 (.slice A9 (List.length l8) k10) l8, rowT (eI .i64) w.heap.size 3 (.slice A12 (List.length l11) k13) l11, rowT (eI .i64) w.heap.size 3 (.slice A17_1 (List.length ([1, 2, 3, (-1)] : List Int)) k17_1) ([1, 2, 3, (-1)] : List Int)]) (by kernel_rfl) ?_
        refine c_inb ?_
        refine c_seq ?_
        refine r_start ?_
        refine xq rfl (y_load (.agg (ePattern ({ s4 with Hands := v17_2.1 })).toArray) 3 g1_1 0) ?_
        refine xx rfl (x_sto 2 g0_1 0 (ePattern ({ s4 with Hands := v17_2.1 })) ?_)
        refine rend ?_
        replace h := H.done h
        subst h
        exact ret func137 rfl (vs := [.agg (ePattern ({ s4 with Hands := v17_2.1 })).toArray]) (.cell 2 g0_1 rfl (by kernel_rfl) (by kernel_rfl) .nil) rfl (fun W S => S.retQ)
      replace h := H.f q26 h
      refine c_skip ?_
      refine c_inb ?_
      refine c_seq ?_
      refine r_start ?_
      refine xq rfl (y_load (.agg (ePattern s4).toArray) 3 g1_1 0) ?_
      refine xx rfl (x_sto 2 g0_1 0 (ePattern s4) ?_)
      refine rend ?_
      refine frg (fun u => (jk u 0 4 (.pointer (some ⟨g0_1, 0, none⟩) :: (jk u 5 84 [])))) (by kernel_rfl) fun u => ?_
      refine keep 8 (its' := [box g0 94 [.slice A0 (List.length a0) k0, .int .i64 v7_1.2.1, .int .u64 v7_1.2.2], box g0_0 38 (eSign a1), box g0_1 79 (ePattern s4), box g1_1 79 (ePattern s4), box g2_5 79 (ePattern v2_1.1), rowT (eI .i64) w.heap.size 3 (.slice A6 (List.length l5) k7) l5, rowT eS w.heap.size 9 (.slice A9 (List.length l8) k10) l8, rowT (eI .i64) w.heap.size 3 (.slice A12 (List.length l11) k13) l11]) (by kernel_rfl) ?_
      replace h := H.done h
      subst h
      exact ret func137 rfl (vs := [.agg (ePattern s4).toArray]) (.cell 2 g0_1 rfl (by kernel_rfl) (by kernel_rfl) .nil) rfl (fun W S => S.retQ)
    replace h := H.f q15 h
    refine o_set 47 (congrArg Value.bool q15) ?_
    refine p 3 ?_
    refine rend ?_
    refine c_f (by kernel_rfl) ?_
    refine c_skip ?_
    refine c_seq ?_
    refine c_seq ?_
    refine r_start ?_
    refine p 1 ?_
    obtain ⟨v7_1, hv7_1, h⟩ := H.call h
    refine xx rfl (e_cq (cs' := [.slice A0 (List.length a0) k0, .int .i64 v7_1.2.1, .int .u64 v7_1.2.2]) (v := .int .i64 v7_1.1) 0 [.pointer (some ⟨g0, 0, none⟩), .int .i64 12] func79 (fun W S => C.s_l1Cur_pick W hv7_1 (S.bx 0) ((s_argN h0 q0).out W S) q0) ?_)
    refine rend ?_
    refine c_block ?_
    refine c_seq ?_
    refine r_start ?_
    refine p 2 ?_
    refine rend ?_
    refine c_or (v7_1.1 == 0) (fun q27 => ?_) (fun q27 => ?_)
    · replace h := H.t q27 h
      refine r_start ?_
      refine p 1 ?_
      refine xx rfl (e_lit (e := eS) (el := 9) [.string (bs ([49, 63, 63, 63, 63] : Str)), .string (bs ([50, 63, 48, 63, 63] : Str)), .string (bs ([63, 63, 63, 63, 63] : Str)), .string (bs ([48, 48, 48, 48] : Str)), .string (bs ([48, 63, 51, 63, 63] : Str)), .string (bs ([63, 63, 63, 63, 63, 63] : Str))] ([([49, 63, 63, 63, 63] : Str), ([50, 63, 48, 63, 63] : Str), ([63, 63, 63, 63, 63] : Str), ([48, 48, 48, 48] : Str), ([48, 63, 51, 63, 63] : Str), ([63, 63, 63, 63, 63, 63] : Str)] : List Str) fun A9_1 k9_1 => ?_)
      obtain ⟨v9_2, hv9_2, h⟩ := H.call h
      refine xx rfl (e_cq (cs' := [.slice A0 (List.length a0) k0, .int .i64 v9_2.2.1, .int .u64 v9_2.2.2]) (v := .string (bs v9_2.1)) 0 [.pointer (some ⟨g0, 0, none⟩), .slice A9_1 (List.length ([([49, 63, 63, 63, 63] : Str), ([50, 63, 48, 63, 63] : Str), ([63, 63, 63, 63, 63] : Str), ([48, 48, 48, 48] : Str), ([48, 63, 51, 63, 63] : Str), ([63, 63, 63, 63, 63, 63] : Str)] : List Str)) k9_1] func117 (fun W S => C.s_l1Cur_of W hv9_2 (S.bx 0) ((s_argN h0 q0).out W S) q0 ((s_own 8).out W S) (ap_row S 8 0 (by decide))) ?_)
      refine p 1 ?_
      refine xx rfl (x_sto 3 g1_1 0 (ePattern ({ s4 with Shape := v9_2.1 })) ?_)
      refine rend ?_
      refine c_inb ?_
      refine c_seq ?_
      refine r_start ?_
      refine xq rfl (y_load (.agg (ePattern ({ s4 with Shape := v9_2.1 })).toArray) 3 g1_1 0) ?_
      refine xx rfl (x_sto 2 g0_1 0 (ePattern ({ s4 with Shape := v9_2.1 })) ?_)
      refine rend ?_
      replace h := H.done h
      subst h
      exact ret func137 rfl (vs := [.agg (ePattern ({ s4 with Shape := v9_2.1 })).toArray]) (.cell 2 g0_1 rfl (by kernel_rfl) (by kernel_rfl) .nil) rfl (fun W S => S.retQ)
    replace h := H.f q27 h
    refine c_seq ?_
    refine r_start ?_
    refine p 2 ?_
    refine rend ?_
    refine c_or (v7_1.1 == 1) (fun q28 => ?_) (fun q28 => ?_)
    · replace h := H.t q28 h
      refine r_start ?_
      refine p 1 ?_
      refine xx rfl (e_lit (e := eS) (el := 9) [.string (bs ([63, 117] : Str)), .string (bs ([108, 114] : Str)), .string (bs ([98, 63] : Str)), .string (bs ([120, 63] : Str)), .string (bs ([63] : Str))] ([([63, 117] : Str), ([108, 114] : Str), ([98, 63] : Str), ([120, 63] : Str), ([63] : Str)] : List Str) fun A11_1 k11_1 => ?_)
      obtain ⟨v11_2, hv11_2, h⟩ := H.call h
      refine xx rfl (e_cq (cs' := [.slice A0 (List.length a0) k0, .int .i64 v11_2.2.1, .int .u64 v11_2.2.2]) (v := .string (bs v11_2.1)) 0 [.pointer (some ⟨g0, 0, none⟩), .slice A11_1 (List.length ([([63, 117] : Str), ([108, 114] : Str), ([98, 63] : Str), ([120, 63] : Str), ([63] : Str)] : List Str)) k11_1] func117 (fun W S => C.s_l1Cur_of W hv11_2 (S.bx 0) ((s_argN h0 q0).out W S) q0 ((s_own 8).out W S) (ap_row S 8 0 (by decide))) ?_)
      refine p 1 ?_
      refine xx rfl (x_sto 3 g1_1 1 (ePattern ({ s4 with Orient := v11_2.1 })) ?_)
      refine rend ?_
      refine c_inb ?_
      refine c_seq ?_
      refine r_start ?_
      refine xq rfl (y_load (.agg (ePattern ({ s4 with Orient := v11_2.1 })).toArray) 3 g1_1 0) ?_
      refine xx rfl (x_sto 2 g0_1 0 (ePattern ({ s4 with Orient := v11_2.1 })) ?_)
      refine rend ?_
      replace h := H.done h
      subst h
      exact ret func137 rfl (vs := [.agg (ePattern ({ s4 with Orient := v11_2.1 })).toArray]) (.cell 2 g0_1 rfl (by kernel_rfl) (by kernel_rfl) .nil) rfl (fun W S => S.retQ)
    replace h := H.f q28 h
    refine c_seq ?_
    refine r_start ?_
    refine p 2 ?_
    refine rend ?_
    refine c_or (v7_1.1 == 2) (fun q29 => ?_) (fun q29 => ?_)
    · replace h := H.t q29 h
      refine r_start ?_
      refine p 1 ?_
      refine xx rfl (e_lit (e := (eI .i64)) (el := 3) [.int .i64 0, .int .i64 5, .int .i64 9, .int .i64 10, .int .i64 (-2)] ([0, 5, 9, 10, (-2)] : List Int) fun A13_1 k13_1 => ?_)
      obtain ⟨v13_2, hv13_2, h⟩ := H.call h
      refine xx rfl (e_cq (cs' := [.slice A0 (List.length a0) k0, .int .i64 v13_2.2.1, .int .u64 v13_2.2.2]) (v := .int .i64 v13_2.1) 0 [.pointer (some ⟨g0, 0, none⟩), .slice A13_1 (List.length ([0, 5, 9, 10, (-2)] : List Int)) k13_1] func143 (fun W S => C.s_l1Cur_among W hv13_2 (S.bx 0) ((s_argN h0 q0).out W S) q0 ((s_own 8).out W S) (ap_row S 8 0 (by decide))) ?_)
      refine p 1 ?_
      refine xx rfl (x_sto 3 g1_1 2 (ePattern ({ s4 with Region := v13_2.1 })) ?_)
      refine rend ?_
      refine c_inb ?_
      refine c_seq ?_
      refine r_start ?_
      refine xq rfl (y_load (.agg (ePattern ({ s4 with Region := v13_2.1 })).toArray) 3 g1_1 0) ?_
      refine xx rfl (x_sto 2 g0_1 0 (ePattern ({ s4 with Region := v13_2.1 })) ?_)
      refine rend ?_
      replace h := H.done h
      subst h
      exact ret func137 rfl (vs := [.agg (ePattern ({ s4 with Region := v13_2.1 })).toArray]) (.cell 2 g0_1 rfl (by kernel_rfl) (by kernel_rfl) .nil) rfl (fun W S => S.retQ)
    replace h := H.f q29 h
    refine c_seq ?_
    refine r_start ?_
    refine p 2 ?_
    refine rend ?_
    refine c_or (v7_1.1 == 3) (fun q30 => ?_) (fun q30 => ?_)
    · replace h := H.t q30 h
      refine r_start ?_
      refine p 1 ?_
      refine xx rfl (e_lit (e := eS) (el := 9) [.string (bs ([] : Str)), .string (bs ([63] : Str)), .string (bs ([42, 63, 42] : Str)), .string (bs ([114, 108, 42] : Str)), .string (bs ([42, 42] : Str)), .string (bs ([120] : Str)), .string (bs ([63, 63, 63, 63, 63, 63, 63, 63, 63, 63, 63, 63, 63, 63, 63, 63, 63, 63, 63, 63] : Str)), .string (bs ([63, 63, 63, 63, 63, 63, 63, 63, 63, 63, 63, 63, 63, 63, 63, 63, 63, 63, 63, 63, 63] : Str)), .string (bs ([42, 117, 42, 100, 42, 108, 42, 114, 42] : Str))] ([([] : Str), ([63] : Str), ([42, 63, 42] : Str), ([114, 108, 42] : Str), ([42, 42] : Str), ([120] : Str), ([63, 63, 63, 63, 63, 63, 63, 63, 63, 63, 63, 63, 63, 63, 63, 63, 63, 63, 63, 63] : Str), ([63, 63, 63, 63, 63, 63, 63, 63, 63, 63, 63, 63, 63, 63, 63, 63, 63, 63, 63, 63, 63] : Str), ([42, 117, 42, 100, 42, 108, 42, 114, 42] : Str)] : List Str) fun A15_1 k15_1 => ?_)
      obtain ⟨v15_2, hv15_2, h⟩ := H.call h
      refine xx rfl (e_cq (cs' := [.slice A0 (List.length a0) k0, .int .i64 v15_2.2.1, .int .u64 v15_2.2.2]) (v := .string (bs v15_2.1)) 0 [.pointer (some ⟨g0, 0, none⟩), .slice A15_1 (List.length ([([] : Str), ([63] : Str), ([42, 63, 42] : Str), ([114, 108, 42] : Str), ([42, 42] : Str), ([120] : Str), ([63, 63, 63, 63, 63, 63, 63, 63, 63, 63, 63, 63, 63, 63, 63, 63, 63, 63, 63, 63] : Str), ([63, 63, 63, 63, 63, 63, 63, 63, 63, 63, 63, 63, 63, 63, 63, 63, 63, 63, 63, 63, 63] : Str), ([42, 117, 42, 100, 42, 108, 42, 114, 42] : Str)] : List Str)) k15_1] func117 (fun W S => C.s_l1Cur_of W hv15_2 (S.bx 0) ((s_argN h0 q0).out W S) q0 ((s_own 8).out W S) (ap_row S 8 0 (by decide))) ?_)
      refine p 1 ?_
      refine xx rfl (x_sto 3 g1_1 3 (ePattern ({ s4 with Steps := v15_2.1 })) ?_)
      refine rend ?_
      refine c_inb ?_
      refine c_seq ?_
      refine r_start ?_
      refine xq rfl (y_load (.agg (ePattern ({ s4 with Steps := v15_2.1 })).toArray) 3 g1_1 0) ?_
      refine xx rfl (x_sto 2 g0_1 0 (ePattern ({ s4 with Steps := v15_2.1 })) ?_)
      refine rend ?_
      refine frg (fun u => (jk u 0 4 (.pointer (some ⟨g0_1, 0, none⟩) :: (jk u 5 84 [])))) (by kernel_rfl) fun u => ?_
      refine keep 9 (its' := [box g0 94 [.slice A0 (List.length a0) k0, .int .i64 v15_2.2.1, .int .u64 v15_2.2.2], box g0_0 38 (eSign a1), box g0_1 79 (ePattern ({ s4 with Steps := v15_2.1 })), box g1_1 79 (ePattern ({ s4 with Steps := v15_2.1 })), box g2_5 79 (ePattern v2_1.1), rowT (eI .i64) w.heap.size 3 (.slice A6 (List.length l5) k7) l5, rowT eS w.heap.size 9 (.slice A9 (List.length l8) k10) l8, rowT (eI .i64) w.heap.size 3 (.slice A12 (List.length l11) k13) l11, rowT eS w.heap.size 9 (.slice A15_1 (List.length ([([] : Str), ([63] : Str), ([42, 63, 42] : Str), ([114, 108, 42] : Str), ([42, 42] : Str), ([120] : Str), ([63, 63, 63, 63, 63, 63, 63, 63, 63, 63, 63, 63, 63, 63, 63, 63, 63, 63, 63, 63] : Str), ([63, 63, 63, 63, 63, 63, 63, 63, 63, 63, 63, 63, 63, 63, 63, 63, 63, 63, 63, 63, 63] : Str), ([42, 117, 42, 100, 42, 108, 42, 114, 42] : Str)] : List Str)) k15_1) ([([] : Str), ([63] : Str), ([42, 63, 42] : Str), ([114, 108, 42] : Str), ([42, 42] : Str), ([120] : Str), ([63, 63, 63, 63, 63, 63, 63, 63, 63, 63, 63, 63, 63, 63, 63, 63, 63, 63, 63, 63] : Str), ([63, 63, 63, 63, 63, 63, 63, 63, 63, 63, 63, 63, 63, 63, 63, 63, 63, 63, 63, 63, 63] : Str), ([42, 117, 42, 100, 42, 108, 42, 114, 42] : Str)] : List Str)]) (by kernel_rfl) ?_
      replace h := H.done h
      subst h
      exact ret func137 rfl (vs := [.agg (ePattern ({ s4 with Steps := v15_2.1 })).toArray]) (.cell 2 g0_1 rfl (by kernel_rfl) (by kernel_rfl) .nil) rfl (fun W S => S.retQ)
    replace h := H.f q30 h
    refine c_seq ?_
    refine r_start ?_
    refine p 2 ?_
    refine rend ?_
    refine c_or (v7_1.1 == 4) (fun q31 => ?_) (fun q31 => ?_)
    · replace h := H.t q31 h
      refine r_start ?_
      refine p 1 ?_
      refine xx rfl (e_lit (e := (eI .i64)) (el := 3) [.int .i64 1, .int .i64 2, .int .i64 3, .int .i64 (-1)] ([1, 2, 3, (-1)] : List Int) fun A17_1 k17_1 => ?_)
      obtain ⟨v17_2, hv17_2, h⟩ := H.call h
      refine xx rfl (e_cq (cs' := [.slice A0 (List.length a0) k0, .int .i64 v17_2.2.1, .int .u64 v17_2.2.2]) (v := .int .i64 v17_2.1) 0 [.pointer (some ⟨g0, 0, none⟩), .slice A17_1 (List.length ([1, 2, 3, (-1)] : List Int)) k17_1] func143 (fun W S => C.s_l1Cur_among W hv17_2 (S.bx 0) ((s_argN h0 q0).out W S) q0 ((s_own 8).out W S) (ap_row S 8 0 (by decide))) ?_)
      refine p 1 ?_
      refine xx rfl (x_sto 3 g1_1 4 (ePattern ({ s4 with Hands := v17_2.1 })) ?_)
      refine rend ?_
      refine frg (fun u => (jk u 0 4 (.pointer (some ⟨g0_1, 0, none⟩) :: .pointer (some ⟨g1_1, 0, none⟩) :: (jk u 6 83 [])))) (by kernel_rfl) fun u => ?_
      refine keep 9 (its' := [box g0 94 [.slice A0 (List.length a0) k0, .int .i64 v17_2.2.1, .int .u64 v17_2.2.2], box g0_0 38 (eSign a1), box g0_1 79 (ePattern zPattern), box g1_1 79 (ePattern ({ s4 with Hands := v17_2.1 })), box g2_5 79 (ePattern v2_1.1), rowT (eI .i64) w.heap.size 3 (.slice A6 (List.length l5) k7) l5, rowT eS w.heap.size 9 (.slice A9 (List.length l8) k10) l8, rowT (eI .i64) w.heap.size 3 (.slice A12 (List.length l11) k13) l11, rowT (eI .i64) w.heap.size 3 (.slice A17_1 (List.length ([1, 2, 3, (-1)] : List Int)) k17_1) ([1, 2, 3, (-1)] : List Int)]) (by kernel_rfl) ?_
      refine c_inb ?_
      refine c_seq ?_
      refine r_start ?_
      refine xq rfl (y_load (.agg (ePattern ({ s4 with Hands := v17_2.1 })).toArray) 3 g1_1 0) ?_
      refine xx rfl (x_sto 2 g0_1 0 (ePattern ({ s4 with Hands := v17_2.1 })) ?_)
      refine rend ?_
      replace h := H.done h
      subst h
      exact ret func137 rfl (vs := [.agg (ePattern ({ s4 with Hands := v17_2.1 })).toArray]) (.cell 2 g0_1 rfl (by kernel_rfl) (by kernel_rfl) .nil) rfl (fun W S => S.retQ)
    replace h := H.f q31 h
    refine c_skip ?_
    refine c_inb ?_
    refine c_seq ?_
    refine r_start ?_
    refine xq rfl (y_load (.agg (ePattern s4).toArray) 3 g1_1 0) ?_
    refine xx rfl (x_sto 2 g0_1 0 (ePattern s4) ?_)
    refine rend ?_
    refine frg (fun u => (jk u 0 4 (.pointer (some ⟨g0_1, 0, none⟩) :: (jk u 5 84 [])))) (by kernel_rfl) fun u => ?_
    refine keep 8 (its' := [box g0 94 [.slice A0 (List.length a0) k0, .int .i64 v7_1.2.1, .int .u64 v7_1.2.2], box g0_0 38 (eSign a1), box g0_1 79 (ePattern s4), box g1_1 79 (ePattern s4), box g2_5 79 (ePattern v2_1.1), rowT (eI .i64) w.heap.size 3 (.slice A6 (List.length l5) k7) l5, rowT eS w.heap.size 9 (.slice A9 (List.length l8) k10) l8, rowT (eI .i64) w.heap.size 3 (.slice A12 (List.length l11) k13) l11]) (by kernel_rfl) ?_
    replace h := H.done h
    subst h
    exact ret func137 rfl (vs := [.agg (ePattern s4).toArray]) (.cell 2 g0_1 rfl (by kernel_rfl) (by kernel_rfl) .nil) rfl (fun W S => S.retQ)
  replace h := H.f q1 h
  refine c_skip ?_
  refine c_seq ?_
  refine c_seq ?_
  refine r_start ?_
  refine p 1 ?_
  obtain ⟨v7_1, hv7_1, h⟩ := H.call h
  refine xx rfl (e_cq (cs' := [.slice A0 (List.length a0) k0, .int .i64 v7_1.2.1, .int .u64 v7_1.2.2]) (v := .int .i64 v7_1.1) 0 [.pointer (some ⟨g0, 0, none⟩), .int .i64 12] func79 (fun W S => C.s_l1Cur_pick W hv7_1 (S.bx 0) ((s_argN h0 q0).out W S) q0) ?_)
  refine rend ?_
  refine c_block ?_
  refine c_seq ?_
  refine r_start ?_
  refine p 2 ?_
  refine rend ?_
  refine c_or (v7_1.1 == 0) (fun q32 => ?_) (fun q32 => ?_)
  · replace h := H.t q32 h
    refine r_start ?_
    refine p 1 ?_
    refine xx rfl (e_lit (e := eS) (el := 9) [.string (bs ([49, 63, 63, 63, 63] : Str)), .string (bs ([50, 63, 48, 63, 63] : Str)), .string (bs ([63, 63, 63, 63, 63] : Str)), .string (bs ([48, 48, 48, 48] : Str)), .string (bs ([48, 63, 51, 63, 63] : Str)), .string (bs ([63, 63, 63, 63, 63, 63] : Str))] ([([49, 63, 63, 63, 63] : Str), ([50, 63, 48, 63, 63] : Str), ([63, 63, 63, 63, 63] : Str), ([48, 48, 48, 48] : Str), ([48, 63, 51, 63, 63] : Str), ([63, 63, 63, 63, 63, 63] : Str)] : List Str) fun A9_1 k9_1 => ?_)
    obtain ⟨v9_2, hv9_2, h⟩ := H.call h
    refine xx rfl (e_cq (cs' := [.slice A0 (List.length a0) k0, .int .i64 v9_2.2.1, .int .u64 v9_2.2.2]) (v := .string (bs v9_2.1)) 0 [.pointer (some ⟨g0, 0, none⟩), .slice A9_1 (List.length ([([49, 63, 63, 63, 63] : Str), ([50, 63, 48, 63, 63] : Str), ([63, 63, 63, 63, 63] : Str), ([48, 48, 48, 48] : Str), ([48, 63, 51, 63, 63] : Str), ([63, 63, 63, 63, 63, 63] : Str)] : List Str)) k9_1] func117 (fun W S => C.s_l1Cur_of W hv9_2 (S.bx 0) ((s_argN h0 q0).out W S) q0 ((s_own 5).out W S) (ap_row S 5 0 (by decide))) ?_)
    refine p 1 ?_
    refine xx rfl (x_sto 3 g1_1 0 (ePattern (⟨v9_2.1, ([102, 63] : Str), (-1), ([42, 114] : Str), 1⟩ : Pattern)) ?_)
    refine rend ?_
    refine c_inb ?_
    refine c_seq ?_
    refine r_start ?_
    refine xq rfl (y_load (.agg (ePattern (⟨v9_2.1, ([102, 63] : Str), (-1), ([42, 114] : Str), 1⟩ : Pattern)).toArray) 3 g1_1 0) ?_
    refine xx rfl (x_sto 2 g0_1 0 (ePattern (⟨v9_2.1, ([102, 63] : Str), (-1), ([42, 114] : Str), 1⟩ : Pattern)) ?_)
    refine rend ?_
    replace h := H.done h
    subst h
    exact ret func137 rfl (vs := [.agg (ePattern (⟨v9_2.1, ([102, 63] : Str), (-1), ([42, 114] : Str), 1⟩ : Pattern)).toArray]) (.cell 2 g0_1 rfl (by kernel_rfl) (by kernel_rfl) .nil) rfl (fun W S => S.retQ)
  replace h := H.f q32 h
  refine c_seq ?_
  refine r_start ?_
  refine p 2 ?_
  refine rend ?_
  refine c_or (v7_1.1 == 1) (fun q33 => ?_) (fun q33 => ?_)
  · replace h := H.t q33 h
    refine r_start ?_
    refine p 1 ?_
    refine xx rfl (e_lit (e := eS) (el := 9) [.string (bs ([63, 117] : Str)), .string (bs ([108, 114] : Str)), .string (bs ([98, 63] : Str)), .string (bs ([120, 63] : Str)), .string (bs ([63] : Str))] ([([63, 117] : Str), ([108, 114] : Str), ([98, 63] : Str), ([120, 63] : Str), ([63] : Str)] : List Str) fun A11_1 k11_1 => ?_)
    obtain ⟨v11_2, hv11_2, h⟩ := H.call h
    refine xx rfl (e_cq (cs' := [.slice A0 (List.length a0) k0, .int .i64 v11_2.2.1, .int .u64 v11_2.2.2]) (v := .string (bs v11_2.1)) 0 [.pointer (some ⟨g0, 0, none⟩), .slice A11_1 (List.length ([([63, 117] : Str), ([108, 114] : Str), ([98, 63] : Str), ([120, 63] : Str), ([63] : Str)] : List Str)) k11_1] func117 (fun W S => C.s_l1Cur_of W hv11_2 (S.bx 0) ((s_argN h0 q0).out W S) q0 ((s_own 5).out W S) (ap_row S 5 0 (by decide))) ?_)
    refine p 1 ?_
    refine xx rfl (x_sto 3 g1_1 1 (ePattern (⟨([48, 63, 63, 63, 63] : Str), v11_2.1, (-1), ([42, 114] : Str), 1⟩ : Pattern)) ?_)
    refine rend ?_
    refine c_inb ?_
    refine c_seq ?_
    refine r_start ?_
    refine xq rfl (y_load (.agg (ePattern (⟨([48, 63, 63, 63, 63] : Str), v11_2.1, (-1), ([42, 114] : Str), 1⟩ : Pattern)).toArray) 3 g1_1 0) ?_
    refine xx rfl (x_sto 2 g0_1 0 (ePattern (⟨([48, 63, 63, 63, 63] : Str), v11_2.1, (-1), ([42, 114] : Str), 1⟩ : Pattern)) ?_)
    refine rend ?_
    replace h := H.done h
    subst h
    exact ret func137 rfl (vs := [.agg (ePattern (⟨([48, 63, 63, 63, 63] : Str), v11_2.1, (-1), ([42, 114] : Str), 1⟩ : Pattern)).toArray]) (.cell 2 g0_1 rfl (by kernel_rfl) (by kernel_rfl) .nil) rfl (fun W S => S.retQ)
  replace h := H.f q33 h
  refine c_seq ?_
  refine r_start ?_
  refine p 2 ?_
  refine rend ?_
  refine c_or (v7_1.1 == 2) (fun q34 => ?_) (fun q34 => ?_)
  · replace h := H.t q34 h
    refine r_start ?_
    refine p 1 ?_
    refine xx rfl (e_lit (e := (eI .i64)) (el := 3) [.int .i64 0, .int .i64 5, .int .i64 9, .int .i64 10, .int .i64 (-2)] ([0, 5, 9, 10, (-2)] : List Int) fun A13_1 k13_1 => ?_)
    obtain ⟨v13_2, hv13_2, h⟩ := H.call h
    refine xx rfl (e_cq (cs' := [.slice A0 (List.length a0) k0, .int .i64 v13_2.2.1, .int .u64 v13_2.2.2]) (v := .int .i64 v13_2.1) 0 [.pointer (some ⟨g0, 0, none⟩), .slice A13_1 (List.length ([0, 5, 9, 10, (-2)] : List Int)) k13_1] func143 (fun W S => C.s_l1Cur_among W hv13_2 (S.bx 0) ((s_argN h0 q0).out W S) q0 ((s_own 5).out W S) (ap_row S 5 0 (by decide))) ?_)
    refine p 1 ?_
    refine xx rfl (x_sto 3 g1_1 2 (ePattern (⟨([48, 63, 63, 63, 63] : Str), ([102, 63] : Str), v13_2.1, ([42, 114] : Str), 1⟩ : Pattern)) ?_)
    refine rend ?_
    refine c_inb ?_
    refine c_seq ?_
    refine r_start ?_
    refine xq rfl (y_load (.agg (ePattern (⟨([48, 63, 63, 63, 63] : Str), ([102, 63] : Str), v13_2.1, ([42, 114] : Str), 1⟩ : Pattern)).toArray) 3 g1_1 0) ?_
    refine xx rfl (x_sto 2 g0_1 0 (ePattern (⟨([48, 63, 63, 63, 63] : Str), ([102, 63] : Str), v13_2.1, ([42, 114] : Str), 1⟩ : Pattern)) ?_)
    refine rend ?_
    replace h := H.done h
    subst h
    exact ret func137 rfl (vs := [.agg (ePattern (⟨([48, 63, 63, 63, 63] : Str), ([102, 63] : Str), v13_2.1, ([42, 114] : Str), 1⟩ : Pattern)).toArray]) (.cell 2 g0_1 rfl (by kernel_rfl) (by kernel_rfl) .nil) rfl (fun W S => S.retQ)
  replace h := H.f q34 h
  refine c_seq ?_
  refine r_start ?_
  refine p 2 ?_
  refine rend ?_
  refine c_or (v7_1.1 == 3) (fun q35 => ?_) (fun q35 => ?_)
  · replace h := H.t q35 h
    refine r_start ?_
    refine p 1 ?_
    refine xx rfl (e_lit (e := eS) (el := 9) [.string (bs ([] : Str)), .string (bs ([63] : Str)), .string (bs ([42, 63, 42] : Str)), .string (bs ([114, 108, 42] : Str)), .string (bs ([42, 42] : Str)), .string (bs ([120] : Str)), .string (bs ([63, 63, 63, 63, 63, 63, 63, 63, 63, 63, 63, 63, 63, 63, 63, 63, 63, 63, 63, 63] : Str)), .string (bs ([63, 63, 63, 63, 63, 63, 63, 63, 63, 63, 63, 63, 63, 63, 63, 63, 63, 63, 63, 63, 63] : Str)), .string (bs ([42, 117, 42, 100, 42, 108, 42, 114, 42] : Str))] ([([] : Str), ([63] : Str), ([42, 63, 42] : Str), ([114, 108, 42] : Str), ([42, 42] : Str), ([120] : Str), ([63, 63, 63, 63, 63, 63, 63, 63, 63, 63, 63, 63, 63, 63, 63, 63, 63, 63, 63, 63] : Str), ([63, 63, 63, 63, 63, 63, 63, 63, 63, 63, 63, 63, 63, 63, 63, 63, 63, 63, 63, 63, 63] : Str), ([42, 117, 42, 100, 42, 108, 42, 114, 42] : Str)] : List Str) fun A15_1 k15_1 => ?_)
    obtain ⟨v15_2, hv15_2, h⟩ := H.call h
    refine xx rfl (e_cq (cs' := [.slice A0 (List.length a0) k0, .int .i64 v15_2.2.1, .int .u64 v15_2.2.2]) (v := .string (bs v15_2.1)) 0 [.pointer (some ⟨g0, 0, none⟩), .slice A15_1 (List.length ([([] : Str), ([63] : Str), ([42, 63, 42] : Str), ([114, 108, 42] : Str), ([42, 42] : Str), ([120] : Str), ([63, 63, 63, 63, 63, 63, 63, 63, 63, 63, 63, 63, 63, 63, 63, 63, 63, 63, 63, 63] : Str), ([63, 63, 63, 63, 63, 63, 63, 63, 63, 63, 63, 63, 63, 63, 63, 63, 63, 63, 63, 63, 63] : Str), ([42, 117, 42, 100, 42, 108, 42, 114, 42] : Str)] : List Str)) k15_1] func117 (fun W S => C.s_l1Cur_of W hv15_2 (S.bx 0) ((s_argN h0 q0).out W S) q0 ((s_own 5).out W S) (ap_row S 5 0 (by decide))) ?_)
    refine p 1 ?_
    refine xx rfl (x_sto 3 g1_1 3 (ePattern (⟨([48, 63, 63, 63, 63] : Str), ([102, 63] : Str), (-1), v15_2.1, 1⟩ : Pattern)) ?_)
    refine rend ?_
    refine c_inb ?_
    refine c_seq ?_
    refine r_start ?_
    refine xq rfl (y_load (.agg (ePattern (⟨([48, 63, 63, 63, 63] : Str), ([102, 63] : Str), (-1), v15_2.1, 1⟩ : Pattern)).toArray) 3 g1_1 0) ?_
    refine xx rfl (x_sto 2 g0_1 0 (ePattern (⟨([48, 63, 63, 63, 63] : Str), ([102, 63] : Str), (-1), v15_2.1, 1⟩ : Pattern)) ?_)
    refine rend ?_
    replace h := H.done h
    subst h
    exact ret func137 rfl (vs := [.agg (ePattern (⟨([48, 63, 63, 63, 63] : Str), ([102, 63] : Str), (-1), v15_2.1, 1⟩ : Pattern)).toArray]) (.cell 2 g0_1 rfl (by kernel_rfl) (by kernel_rfl) .nil) rfl (fun W S => S.retQ)
  replace h := H.f q35 h
  refine c_seq ?_
  refine r_start ?_
  refine p 2 ?_
  refine rend ?_
  refine c_or (v7_1.1 == 4) (fun q36 => ?_) (fun q36 => ?_)
  · replace h := H.t q36 h
    refine r_start ?_
    refine p 1 ?_
    refine xx rfl (e_lit (e := (eI .i64)) (el := 3) [.int .i64 1, .int .i64 2, .int .i64 3, .int .i64 (-1)] ([1, 2, 3, (-1)] : List Int) fun A17_1 k17_1 => ?_)
    obtain ⟨v17_2, hv17_2, h⟩ := H.call h
    refine xx rfl (e_cq (cs' := [.slice A0 (List.length a0) k0, .int .i64 v17_2.2.1, .int .u64 v17_2.2.2]) (v := .int .i64 v17_2.1) 0 [.pointer (some ⟨g0, 0, none⟩), .slice A17_1 (List.length ([1, 2, 3, (-1)] : List Int)) k17_1] func143 (fun W S => C.s_l1Cur_among W hv17_2 (S.bx 0) ((s_argN h0 q0).out W S) q0 ((s_own 5).out W S) (ap_row S 5 0 (by decide))) ?_)
    refine p 1 ?_
    refine xx rfl (x_sto 3 g1_1 4 (ePattern (⟨([48, 63, 63, 63, 63] : Str), ([102, 63] : Str), (-1), ([42, 114] : Str), v17_2.1⟩ : Pattern)) ?_)
    refine rend ?_
    refine c_inb ?_
    refine c_seq ?_
    refine r_start ?_
    refine xq rfl (y_load (.agg (ePattern (⟨([48, 63, 63, 63, 63] : Str), ([102, 63] : Str), (-1), ([42, 114] : Str), v17_2.1⟩ : Pattern)).toArray) 3 g1_1 0) ?_
    refine xx rfl (x_sto 2 g0_1 0 (ePattern (⟨([48, 63, 63, 63, 63] : Str), ([102, 63] : Str), (-1), ([42, 114] : Str), v17_2.1⟩ : Pattern)) ?_)
    refine rend ?_
    refine frg (fun u => (jk u 0 4 (.pointer (some ⟨g0_1, 0, none⟩) :: (jk u 5 84 [])))) (by kernel_rfl) fun u => ?_
    refine keep 6 (its' := [box g0 94 [.slice A0 (List.length a0) k0, .int .i64 v17_2.2.1, .int .u64 v17_2.2.2], box g0_0 38 (eSign a1), box g0_1 79 (ePattern (⟨([48, 63, 63, 63, 63] : Str), ([102, 63] : Str), (-1), ([42, 114] : Str), v17_2.1⟩ : Pattern)), box g1_1 79 (ePattern (⟨([48, 63, 63, 63, 63] : Str), ([102, 63] : Str), (-1), ([42, 114] : Str), v17_2.1⟩ : Pattern)), box g2_5 79 (ePattern v2_1.1), rowT (eI .i64) w.heap.size 3 (.slice A17_1 (List.length ([1, 2, 3, (-1)] : List Int)) k17_1) ([1, 2, 3, (-1)] : List Int)]) (by kernel_rfl) ?_
    replace h := H.done h
    subst h
    exact ret func137 rfl (vs := [.agg (ePattern (⟨([48, 63, 63, 63, 63] : Str), ([102, 63] : Str), (-1), ([42, 114] : Str), v17_2.1⟩ : Pattern)).toArray]) (.cell 2 g0_1 rfl (by kernel_rfl) (by kernel_rfl) .nil) rfl (fun W S => S.retQ)
  replace h := H.f q36 h
  refine c_skip ?_
  refine c_inb ?_
  refine c_seq ?_
  refine r_start ?_
  refine xq rfl (y_load (.agg (ePattern (⟨([48, 63, 63, 63, 63] : Str), ([102, 63] : Str), (-1), ([42, 114] : Str), 1⟩ : Pattern)).toArray) 3 g1_1 0) ?_
  refine xx rfl (x_sto 2 g0_1 0 (ePattern (⟨([48, 63, 63, 63, 63] : Str), ([102, 63] : Str), (-1), ([42, 114] : Str), 1⟩ : Pattern)) ?_)
  refine rend ?_
  replace h := H.done h
  subst h
  exact ret func137 rfl (vs := [.agg (ePattern (⟨([48, 63, 63, 63, 63] : Str), ([102, 63] : Str), (-1), ([42, 114] : Str), 1⟩ : Pattern)).toArray]) (.cell 2 g0_1 rfl (by kernel_rfl) (by kernel_rfl) .nil) rfl (fun W S => S.retQ)
end Go.Proofs.XC
