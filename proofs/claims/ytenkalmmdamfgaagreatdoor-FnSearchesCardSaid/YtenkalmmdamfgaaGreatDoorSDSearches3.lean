/- Contracts: each function, called where its plain function gives an answer, returns just that answer and changes nothing that was there. By AI agents; no person has read it. -/
import Derived.Test.YtenkalmmdamfgaaGreatDoorSDSearches2
set_option linter.unusedVariables false
set_option linter.unusedSimpArgs false
set_option maxRecDepth 100000
set_option maxHeartbeats 40000000
namespace Go.Proofs.XC
open Go Go.RowKit
open Tryz
theorem C.s_l1Cur_lexicon {fu : Nat} {a0 : List Int} {A0 : Option Addr} {k0 g0 : Nat} {t0 s0 : Int} {r : ((List Sign) × Int × Int)} (w : World) (h : X.s_l1Cur_lexicon fu a0 t0 s0 = some r) (m0 : w.heap[g0]? = some (.cells ([.slice A0 (List.length a0) k0, .int .i64 t0, .int .u64 s0] : List Value).toArray 94 (0, 0))) (h0 : RdT (eI .u8) w (.slice A0 (List.length a0) k0) a0) (q0 : 0 < List.length a0 → ∀ k, (Value.slice A0 (List.length a0) k0).ownBlock = some k → ¬ k = g0) : Calls prog 142 #[.pointer (some ⟨g0, 0, none⟩)] w (RetQR nSign 38 g0 94 [.slice A0 (List.length a0) k0, .int .i64 r.2.1, .int .u64 r.2.2] w r.1 (fun v => v)) := by
  refine callsQ (args := [.pointer (some ⟨g0, 0, none⟩)]) m0 func142 rfl ?_
  replace h : H (X.s_l1Cur_lexicon fu a0 t0 s0) (fun o => o = r) := H.mk h
  unfold X.s_l1Cur_lexicon at h
  refine c_seq ?_
  refine r_start ?_
  refine p 1 ?_
  refine rend ?_
  refine c_seq ?_
  refine r_start ?_
  refine p 1 ?_
  obtain ⟨v1_1, hv1_1, h⟩ := H.call h
  refine xx rfl (e_cq (cs' := [.slice A0 (List.length a0) k0, .int .i64 v1_1.2.1, .int .u64 v1_1.2.2]) (v := .agg (eSign v1_1.1).toArray) 0 [.pointer (some ⟨g0, 0, none⟩)] func138 (fun W S => C.s_l1Cur_sign W hv1_1 (S.bx 0) ((s_argN h0 q0).out W S) q0) ?_)
  refine xx rfl (x_new (eSign zSign) fun g1_2 => ?_)
  refine xx rfl (x_sto 1 g1_2 0 (eSign v1_1.1) ?_)
  refine rend ?_
  refine c_seq ?_
  refine r_start ?_
  refine p 1 ?_
  refine rend ?_
  refine c_seq ?_
  refine r_start ?_
  refine p 1 ?_
  obtain ⟨v3_1, hv3_1, h⟩ := H.call h
  refine xx rfl (e_cq (cs' := [.slice A0 (List.length a0) k0, .int .i64 v3_1.2.1, .int .u64 v3_1.2.2]) (v := .int .i64 v3_1.1) 0 [.pointer (some ⟨g0, 0, none⟩), .int .i64 8] func79 (fun W S => C.s_l1Cur_pick W hv3_1 (S.bx 0) ((s_argN h0 q0).out W S) q0) ?_)
  refine p 1 ?_
  refine rend ?_
  refine c_seq ?_
  refine c_seq ?_
  refine r_start ?_
  refine p 1 ?_
  obtain ⟨v4_1, hv4_1, h⟩ := H.call h
  refine xx rfl (e_cq (cs' := [.slice A0 (List.length a0) k0, .int .i64 v4_1.2.1, .int .u64 v4_1.2.2]) (v := .bool v4_1.1) 0 [.pointer (some ⟨g0, 0, none⟩), .int .i64 12] func78 (fun W S => C.s_l1Cur_one W hv4_1 (S.bx 0) ((s_argN h0 q0).out W S) q0) ?_)
  refine rend ?_
  refine c_or v4_1.1 (fun q1 => ?_) (fun q1 => ?_)
  · replace h := H.t q1 h
    refine r_start ?_
    refine p 1 ?_
    obtain ⟨v5_1, hv5_1, h⟩ := H.call h
    refine xx rfl (e_cq (cs' := [.slice A0 (List.length a0) k0, .int .i64 v5_1.2.1, .int .u64 v5_1.2.2]) (v := .int .i64 v5_1.1) 0 [.pointer (some ⟨g0, 0, none⟩), .int .i64 2] func79 (fun W S => C.s_l1Cur_pick W hv5_1 (S.bx 0) ((s_argN h0 q0).out W S) q0) ?_)
    refine p 2 ?_
    refine rend ?_
    refine c_seq ?_
    refine c_block ?_
    refine c_nil nSign 38 ?_
    refine joinH (X := (Int × Int × Sign × (List Sign) × Option Addr × Nat)) 0 (H.bnd h) (fun ⟨n8, n9, s10, l11, A12, k13⟩ => (n8, n9, s10, l11)) (fun ⟨n8, n9, s10, l11, A12, k13⟩ => [box g0 94 [.slice A0 (List.length a0) k0, .int .i64 n8, .int .u64 n9], box g1_2 38 (eSign s10), rowT nSign w.heap.size 38 (.slice A12 (List.length l11) k13) l11]) (fun ⟨n8, n9, s10, l11, A12, k13⟩ u => (.pointer (some ⟨g0, 0, none⟩) :: (jk u 1 3 (.slice A12 (List.length l11) k13 :: .int .i64 (wr (16 + v5_1.1)) :: (jk u 6 75 []))))) (fun h hj14 => ?_) ?_
    · skip
      refine loopR (X := (Int × Int × Sign × (List Sign) × Option Addr × Nat)) (fun ⟨n2, n3, s4, l5, A6, k7⟩ => (n2, n3, s4, l5)) (fun ⟨n2, n3, s4, l5, A6, k7⟩ => [box g0 94 [.slice A0 (List.length a0) k0, .int .i64 n2, .int .u64 n3], box g1_2 38 (eSign s4), rowT nSign w.heap.size 38 (.slice A6 (List.length l5) k7) l5]) (fun ⟨n2, n3, s4, l5, A6, k7⟩ u => (.pointer (some ⟨g0, 0, none⟩) :: (jk u 1 2 (.pointer (some ⟨g1_2, 0, none⟩) :: .slice A6 (List.length l5) k7 :: .int .i64 (wr (16 + v5_1.1)) :: (jk u 6 75 []))))) (v5_1.2.1, v5_1.2.2, v1_1.1, ([] : List Sign), none, 0) h (by kernel_rfl) (by kernel_rfl) ?_
      intro x u h
      obtain ⟨n2, n3, s4, l5, A6, k7⟩ := x
      refine c_seq ?_
      refine c_seq ?_
      refine r_start ?_
      refine p 4 ?_
      refine rend ?_
      refine c_or (decide ((List.length l5 : Int) < (wr (16 + v5_1.1)))) (fun q15 => ?_) (fun q15 => ?_)
      · replace h := H.t q15 h
        refine c_skip ?_
        refine c_block ?_
        refine c_seq ?_
        refine r_start ?_
        refine xq rfl (y_load (.agg (eSign s4).toArray) 1 g1_2 0) ?_
        refine xx rfl (x_new (eSign zSign) fun g7_1 => ?_)
        refine xx rfl (x_sto 3 g7_1 0 (eSign s4) ?_)
        refine rend ?_
        refine c_seq ?_
        refine c_seq ?_
        refine r_start ?_
        refine p 1 ?_
        obtain ⟨v8_1, hv8_1, h⟩ := H.call h
        refine xx rfl (e_cq (cs' := [.slice A0 (List.length a0) k0, .int .i64 v8_1.2.1, .int .u64 v8_1.2.2]) (v := .int .i64 v8_1.1) 0 [.pointer (some ⟨g0, 0, none⟩), .int .i64 6] func79 (fun W S => C.s_l1Cur_pick W hv8_1 (S.bx 0) ((s_argN h0 q0).out W S) q0) ?_)
        refine rend ?_
        refine c_block ?_
        refine c_seq ?_
        refine r_start ?_
        refine p 2 ?_
        refine rend ?_
        refine c_or (v8_1.1 == 0) (fun q16 => ?_) (fun q16 => ?_)
        · replace h := H.t q16 h
          refine r_start ?_
          refine p 1 ?_
          obtain ⟨v10_1, hv10_1, h⟩ := H.call h
          refine xx rfl (e_cq (cs' := [.slice A0 (List.length a0) k0, .int .i64 v10_1.2.1, .int .u64 v10_1.2.2]) (v := .agg (eShape v10_1.1).toArray) 0 [.pointer (some ⟨g0, 0, none⟩)] func189 (fun W S => C.s_l1Cur_shape W hv10_1 (S.bx 0) ((s_argN h0 q0).out W S) q0) ?_)
          refine p 2 ?_
          refine xx rfl (x_sto 3 g7_1 0 (eSign ({ s4 with Main := { s4.Main with Shape := v10_1.1 } })) ?_)
          refine rend ?_
          refine c_inb ?_
          refine c_seq ?_
          refine c_seq ?_
          refine r_start ?_
          refine xq rfl (y_load (.agg (eSign ({ s4 with Main := { s4.Main with Shape := v10_1.1 } })).toArray) 3 g7_1 0) ?_
          obtain ⟨v20_1, hv20_1, h⟩ := H.call h
          refine xq rfl (y_call [.agg (eSign ({ s4 with Main := { s4.Main with Shape := v10_1.1 } })).toArray] (.bool v20_1) func75 (fun W S => C.s_siGood W hv20_1)) ?_
          refine p 1 ?_
          refine rend ?_
          refine frg (fun u => (.pointer (some ⟨g0, 0, none⟩) :: (jk u 1 2 (.pointer (some ⟨g1_2, 0, none⟩) :: .slice A6 (List.length l5) k7 :: .int .i64 (wr (16 + v5_1.1)) :: .pointer (some ⟨g7_1, 0, none⟩) :: (jk u 7 50 (.bool (!v20_1) :: (jk u 58 23 []))))))) (by kernel_rfl) fun u => ?_
          refine keep 4 (its' := [box g0 94 [.slice A0 (List.length a0) k0, .int .i64 v10_1.2.1, .int .u64 v10_1.2.2], box g1_2 38 (eSign s4), rowT nSign w.heap.size 38 (.slice A6 (List.length l5) k7) l5, box g7_1 38 (eSign ({ s4 with Main := { s4.Main with Shape := v10_1.1 } }))]) (by kernel_rfl) ?_
          refine c_or (!v20_1) (fun q17 => ?_) (fun q17 => ?_)
          · replace h := H.t q17 h
            refine r_start ?_
            refine p 1 ?_
            obtain ⟨v21_1, hv21_1, h⟩ := H.call h
            refine xx rfl (e_cq (cs' := [.slice A0 (List.length a0) k0, .int .i64 v21_1.2.1, .int .u64 v21_1.2.2]) (v := .agg (eSign v21_1.1).toArray) 0 [.pointer (some ⟨g0, 0, none⟩)] func138 (fun W S => C.s_l1Cur_sign W hv21_1 (S.bx 0) ((s_argN h0 q0).out W S) q0) ?_)
            refine xx rfl (x_sto 3 g7_1 0 (eSign v21_1.1) ?_)
            refine rend ?_
            refine c_seq ?_
            refine r_start ?_
            refine p 1 ?_
            refine xq rfl (y_load (.agg (eSign v21_1.1).toArray) 3 g7_1 0) ?_
            refine xx rfl (e_lit (e := nSign) (el := 38) [.agg (eSign v21_1.1).toArray] ([v21_1.1] : List Sign) fun A22_2 k22_2 => ?_)
            obtain ⟨y22_3, hy22_3, h⟩ := H.call h
            refine xx rfl (e_app 2 hy22_3 (s_own 4) fun A22_3 k22_3 => ?_)
            refine p 1 ?_
            refine rend ?_
            refine c_seq ?_
            refine r_start ?_
            refine p 1 ?_
            obtain ⟨v23_1, hv23_1, h⟩ := H.call h
            refine xx rfl (e_cq (cs' := [.slice A0 (List.length a0) k0, .int .i64 v23_1.2.1, .int .u64 v23_1.2.2]) (v := .bool v23_1.1) 0 [.pointer (some ⟨g0, 0, none⟩), .int .i64 3] func78 (fun W S => C.s_l1Cur_one W hv23_1 (S.bx 0) ((s_argN h0 q0).out W S) q0) ?_)
            refine rend ?_
            refine c_or v23_1.1 (fun q18 => ?_) (fun q18 => ?_)
            · replace h := H.t q18 h
              refine r_start ?_
              refine xq rfl (y_load (.agg (eSign v21_1.1).toArray) 3 g7_1 0) ?_
              refine xx rfl (x_sto 1 g1_2 0 (eSign v21_1.1) ?_)
              refine rend ?_
              refine c_inb ?_
              replace h := H.inl h
              exact h (v23_1.2.1, v23_1.2.2, v21_1.1, y22_3, A22_3, k22_3) _ _ rfl (by kernel_rfl) (by kernel_rfl)
            replace h := H.f q18 h
            refine c_skip ?_
            refine c_inb ?_
            replace h := H.inl h
            exact h (v23_1.2.1, v23_1.2.2, s4, y22_3, A22_3, k22_3) _ _ rfl (by kernel_rfl) (by kernel_rfl)
          replace h := H.f q17 h
          refine c_skip ?_
          refine c_seq ?_
          refine r_start ?_
          refine p 1 ?_
          refine xq rfl (y_load (.agg (eSign ({ s4 with Main := { s4.Main with Shape := v10_1.1 } })).toArray) 3 g7_1 0) ?_
          refine xx rfl (e_lit (e := nSign) (el := 38) [.agg (eSign ({ s4 with Main := { s4.Main with Shape := v10_1.1 } })).toArray] ([{ s4 with Main := { s4.Main with Shape := v10_1.1 } }] : List Sign) fun A22_2 k22_2 => ?_)
          obtain ⟨y22_3, hy22_3, h⟩ := H.call h
          refine xx rfl (e_app 2 hy22_3 (s_own 4) fun A22_3 k22_3 => ?_)
          refine p 1 ?_
          refine rend ?_
          refine c_seq ?_
          refine r_start ?_
          refine p 1 ?_
          obtain ⟨v23_1, hv23_1, h⟩ := H.call h
          refine xx rfl (e_cq (cs' := [.slice A0 (List.length a0) k0, .int .i64 v23_1.2.1, .int .u64 v23_1.2.2]) (v := .bool v23_1.1) 0 [.pointer (some ⟨g0, 0, none⟩), .int .i64 3] func78 (fun W S => C.s_l1Cur_one W hv23_1 (S.bx 0) ((s_argN h0 q0).out W S) q0) ?_)
          refine rend ?_
          refine c_or v23_1.1 (fun q19 => ?_) (fun q19 => ?_)
          · replace h := H.t q19 h
            refine r_start ?_
            refine xq rfl (y_load (.agg (eSign ({ s4 with Main := { s4.Main with Shape := v10_1.1 } })).toArray) 3 g7_1 0) ?_
            refine xx rfl (x_sto 1 g1_2 0 (eSign ({ s4 with Main := { s4.Main with Shape := v10_1.1 } })) ?_)
            refine rend ?_
            refine c_inb ?_
            replace h := H.inl h
            exact h (v23_1.2.1, v23_1.2.2, { s4 with Main := { s4.Main with Shape := v10_1.1 } }, y22_3, A22_3, k22_3) _ _ rfl (by kernel_rfl) (by kernel_rfl)
          replace h := H.f q19 h
          refine c_skip ?_
          refine c_inb ?_
          replace h := H.inl h
          exact h (v23_1.2.1, v23_1.2.2, s4, y22_3, A22_3, k22_3) _ _ rfl (by kernel_rfl) (by kernel_rfl)
        replace h := H.f q16 h
        refine c_seq ?_
        refine r_start ?_
        refine p 2 ?_
        refine rend ?_
        refine c_or (v8_1.1 == 1) (fun q20 => ?_) (fun q20 => ?_)
        · replace h := H.t q20 h
          refine r_start ?_
          refine p 1 ?_
          obtain ⟨v12_1, hv12_1, h⟩ := H.call h
          refine xx rfl (e_cq (cs' := [.slice A0 (List.length a0) k0, .int .i64 v12_1.2.1, .int .u64 v12_1.2.2]) (v := .agg (eOrient v12_1.1).toArray) 0 [.pointer (some ⟨g0, 0, none⟩)] func190 (fun W S => C.s_l1Cur_orient W hv12_1 (S.bx 0) ((s_argN h0 q0).out W S) q0) ?_)
          refine p 2 ?_
          refine xx rfl (x_sto 3 g7_1 6 (eSign ({ s4 with Main := { s4.Main with Orient := v12_1.1 } })) ?_)
          refine rend ?_
          refine frg (fun u => (.pointer (some ⟨g0, 0, none⟩) :: (jk u 1 2 (.pointer (some ⟨g1_2, 0, none⟩) :: .slice A6 (List.length l5) k7 :: .int .i64 (wr (16 + v5_1.1)) :: .pointer (some ⟨g7_1, 0, none⟩) :: (jk u 7 74 []))))) (by kernel_rfl) fun u => ?_
          refine keep 4 (its' := [box g0 94 [.slice A0 (List.length a0) k0, .int .i64 v12_1.2.1, .int .u64 v12_1.2.2], box g1_2 38 (eSign s4), rowT nSign w.heap.size 38 (.slice A6 (List.length l5) k7) l5, box g7_1 38 (eSign ({ s4 with Main := { s4.Main with Orient := v12_1.1 } }))]) (by kernel_rfl) ?_
          refine c_inb ?_
          refine c_seq ?_
          refine c_seq ?_
          refine r_start ?_
          refine xq rfl (y_load (.agg (eSign ({ s4 with Main := { s4.Main with Orient := v12_1.1 } })).toArray) 3 g7_1 0) ?_
          obtain ⟨v20_1, hv20_1, h⟩ := H.call h
          refine xq rfl (y_call [.agg (eSign ({ s4 with Main := { s4.Main with Orient := v12_1.1 } })).toArray] (.bool v20_1) func75 (fun W S => C.s_siGood W hv20_1)) ?_
          refine p 1 ?_
          refine rend ?_
          refine c_or (!v20_1) (fun q21 => ?_) (fun q21 => ?_)
          · replace h := H.t q21 h
            refine r_start ?_
            refine p 1 ?_
            obtain ⟨v21_1, hv21_1, h⟩ := H.call h
            refine xx rfl (e_cq (cs' := [.slice A0 (List.length a0) k0, .int .i64 v21_1.2.1, .int .u64 v21_1.2.2]) (v := .agg (eSign v21_1.1).toArray) 0 [.pointer (some ⟨g0, 0, none⟩)] func138 (fun W S => C.s_l1Cur_sign W hv21_1 (S.bx 0) ((s_argN h0 q0).out W S) q0) ?_)
            refine xx rfl (x_sto 3 g7_1 0 (eSign v21_1.1) ?_)
            refine rend ?_
            refine c_seq ?_
            refine r_start ?_
            refine p 1 ?_
            refine xq rfl (y_load (.agg (eSign v21_1.1).toArray) 3 g7_1 0) ?_
            refine xx rfl (e_lit (e := nSign) (el := 38) [.agg (eSign v21_1.1).toArray] ([v21_1.1] : List Sign) fun A22_2 k22_2 => ?_)
            obtain ⟨y22_3, hy22_3, h⟩ := H.call h
            refine xx rfl (e_app 2 hy22_3 (s_own 4) fun A22_3 k22_3 => ?_)
            refine p 1 ?_
            refine rend ?_
            refine c_seq ?_
            refine r_start ?_
            refine p 1 ?_
            obtain ⟨v23_1, hv23_1, h⟩ := H.call h
            refine xx rfl (e_cq (cs' := [.slice A0 (List.length a0) k0, .int .i64 v23_1.2.1, .int .u64 v23_1.2.2]) (v := .bool v23_1.1) 0 [.pointer (some ⟨g0, 0, none⟩), .int .i64 3] func78 (fun W S => C.s_l1Cur_one W hv23_1 (S.bx 0) ((s_argN h0 q0).out W S) q0) ?_)
            refine rend ?_
            refine c_or v23_1.1 (fun q22 => ?_) (fun q22 => ?_)
            · replace h := H.t q22 h
              refine r_start ?_
              refine xq rfl (y_load (.agg (eSign v21_1.1).toArray) 3 g7_1 0) ?_
              refine xx rfl (x_sto 1 g1_2 0 (eSign v21_1.1) ?_)
              refine rend ?_
              refine c_inb ?_
              replace h := H.inl h
              exact h (v23_1.2.1, v23_1.2.2, v21_1.1, y22_3, A22_3, k22_3) _ _ rfl (by kernel_rfl) (by kernel_rfl)
            replace h := H.f q22 h
            refine c_skip ?_
            refine c_inb ?_
            replace h := H.inl h
            exact h (v23_1.2.1, v23_1.2.2, s4, y22_3, A22_3, k22_3) _ _ rfl (by kernel_rfl) (by kernel_rfl)
          replace h := H.f q21 h
          refine c_skip ?_
          refine c_seq ?_
          refine r_start ?_
          refine p 1 ?_
          refine xq rfl (y_load (.agg (eSign ({ s4 with Main := { s4.Main with Orient := v12_1.1 } })).toArray) 3 g7_1 0) ?_
          refine xx rfl (e_lit (e := nSign) (el := 38) [.agg (eSign ({ s4 with Main := { s4.Main with Orient := v12_1.1 } })).toArray] ([{ s4 with Main := { s4.Main with Orient := v12_1.1 } }] : List Sign) fun A22_2 k22_2 => ?_)
          obtain ⟨y22_3, hy22_3, h⟩ := H.call h
          refine xx rfl (e_app 2 hy22_3 (s_own 4) fun A22_3 k22_3 => ?_)
          refine p 1 ?_
          refine rend ?_
          refine c_seq ?_
          refine r_start ?_
          refine p 1 ?_
          obtain ⟨v23_1, hv23_1, h⟩ := H.call h
          refine xx rfl (e_cq (cs' := [.slice A0 (List.length a0) k0, .int .i64 v23_1.2.1, .int .u64 v23_1.2.2]) (v := .bool v23_1.1) 0 [.pointer (some ⟨g0, 0, none⟩), .int .i64 3] func78 (fun W S => C.s_l1Cur_one W hv23_1 (S.bx 0) ((s_argN h0 q0).out W S) q0) ?_)
          refine rend ?_
          refine c_or v23_1.1 (fun q23 => ?_) (fun q23 => ?_)
          · replace h := H.t q23 h
            refine r_start ?_
            refine xq rfl (y_load (.agg (eSign ({ s4 with Main := { s4.Main with Orient := v12_1.1 } })).toArray) 3 g7_1 0) ?_
            refine xx rfl (x_sto 1 g1_2 0 (eSign ({ s4 with Main := { s4.Main with Orient := v12_1.1 } })) ?_)
            refine rend ?_
            refine c_inb ?_
            replace h := H.inl h
            exact h (v23_1.2.1, v23_1.2.2, { s4 with Main := { s4.Main with Orient := v12_1.1 } }, y22_3, A22_3, k22_3) _ _ rfl (by kernel_rfl) (by kernel_rfl)
          replace h := H.f q23 h
          refine c_skip ?_
          refine c_inb ?_
          replace h := H.inl h
          exact h (v23_1.2.1, v23_1.2.2, s4, y22_3, A22_3, k22_3) _ _ rfl (by kernel_rfl) (by kernel_rfl)
        replace h := H.f q20 h
        refine c_seq ?_
        refine r_start ?_
        refine p 2 ?_
        refine rend ?_
        refine frg (fun u => (.pointer (some ⟨g0, 0, none⟩) :: (jk u 1 2 (.pointer (some ⟨g1_2, 0, none⟩) :: .slice A6 (List.length l5) k7 :: .int .i64 (wr (16 + v5_1.1)) :: .pointer (some ⟨g7_1, 0, none⟩) :: (jk u 7 15 (.int .i64 v8_1.1 :: (jk u 23 12 (.bool (v8_1.1 == 2) :: (jk u 36 45 []))))))))) (by kernel_rfl) fun u => ?_
        refine keep 4 (its' := [box g0 94 [.slice A0 (List.length a0) k0, .int .i64 v8_1.2.1, .int .u64 v8_1.2.2], box g1_2 38 (eSign s4), rowT nSign w.heap.size 38 (.slice A6 (List.length l5) k7) l5, box g7_1 38 (eSign s4)]) (by kernel_rfl) ?_
        refine c_or (v8_1.1 == 2) (fun q24 => ?_) (fun q24 => ?_)
        · replace h := H.t q24 h
          refine r_start ?_
          refine p 1 ?_
          obtain ⟨v14_1, hv14_1, h⟩ := H.call h
          refine xx rfl (e_cq (cs' := [.slice A0 (List.length a0) k0, .int .i64 v14_1.2.1, .int .u64 v14_1.2.2]) (v := .agg (ePlace v14_1.1).toArray) 0 [.pointer (some ⟨g0, 0, none⟩)] func191 (fun W S => C.s_l1Cur_place W hv14_1 (S.bx 0) ((s_argN h0 q0).out W S) q0) ?_)
          refine p 2 ?_
          refine xx rfl (x_sto 3 g7_1 8 (eSign ({ s4 with Main := { s4.Main with Place := v14_1.1 } })) ?_)
          refine rend ?_
          refine c_inb ?_
          refine c_seq ?_
          refine c_seq ?_
          refine r_start ?_
          refine xq rfl (y_load (.agg (eSign ({ s4 with Main := { s4.Main with Place := v14_1.1 } })).toArray) 3 g7_1 0) ?_
          obtain ⟨v20_1, hv20_1, h⟩ := H.call h
          refine xq rfl (y_call [.agg (eSign ({ s4 with Main := { s4.Main with Place := v14_1.1 } })).toArray] (.bool v20_1) func75 (fun W S => C.s_siGood W hv20_1)) ?_
          refine p 1 ?_
          refine rend ?_
          refine c_or (!v20_1) (fun q25 => ?_) (fun q25 => ?_)
          · replace h := H.t q25 h
            refine r_start ?_
            refine p 1 ?_
            obtain ⟨v21_1, hv21_1, h⟩ := H.call h
            refine xx rfl (e_cq (cs' := [.slice A0 (List.length a0) k0, .int .i64 v21_1.2.1, .int .u64 v21_1.2.2]) (v := .agg (eSign v21_1.1).toArray) 0 [.pointer (some ⟨g0, 0, none⟩)] func138 (fun W S => C.s_l1Cur_sign W hv21_1 (S.bx 0) ((s_argN h0 q0).out W S) q0) ?_)
            refine xx rfl (x_sto 3 g7_1 0 (eSign v21_1.1) ?_)
            refine rend ?_
            refine c_seq ?_
            refine r_start ?_
            refine p 1 ?_
            refine xq rfl (y_load (.agg (eSign v21_1.1).toArray) 3 g7_1 0) ?_
            refine xx rfl (e_lit (e := nSign) (el := 38) [.agg (eSign v21_1.1).toArray] ([v21_1.1] : List Sign) fun A22_2 k22_2 => ?_)
            obtain ⟨y22_3, hy22_3, h⟩ := H.call h
            refine xx rfl (e_app 2 hy22_3 (s_own 4) fun A22_3 k22_3 => ?_)
            refine p 1 ?_
            refine rend ?_
            refine c_seq ?_
            refine r_start ?_
            refine p 1 ?_
            obtain ⟨v23_1, hv23_1, h⟩ := H.call h
            refine xx rfl (e_cq (cs' := [.slice A0 (List.length a0) k0, .int .i64 v23_1.2.1, .int .u64 v23_1.2.2]) (v := .bool v23_1.1) 0 [.pointer (some ⟨g0, 0, none⟩), .int .i64 3] func78 (fun W S => C.s_l1Cur_one W hv23_1 (S.bx 0) ((s_argN h0 q0).out W S) q0) ?_)
            refine rend ?_
            refine c_or v23_1.1 (fun q26 => ?_) (fun q26 => ?_)
            · replace h := H.t q26 h
              refine r_start ?_
              refine xq rfl (y_load (.agg (eSign v21_1.1).toArray) 3 g7_1 0) ?_
              refine xx rfl (x_sto 1 g1_2 0 (eSign v21_1.1) ?_)
              refine rend ?_
              refine c_inb ?_
              replace h := H.inl h
              exact h (v23_1.2.1, v23_1.2.2, v21_1.1, y22_3, A22_3, k22_3) _ _ rfl (by kernel_rfl) (by kernel_rfl)
            replace h := H.f q26 h
            refine c_skip ?_
            refine c_inb ?_
            replace h := H.inl h
            exact h (v23_1.2.1, v23_1.2.2, s4, y22_3, A22_3, k22_3) _ _ rfl (by kernel_rfl) (by kernel_rfl)
          replace h := H.f q25 h
          refine c_skip ?_
          refine c_seq ?_
          refine r_start ?_
          refine p 1 ?_
          refine xq rfl (y_load (.agg (eSign ({ s4 with Main := { s4.Main with Place := v14_1.1 } })).toArray) 3 g7_1 0) ?_
          refine xx rfl (e_lit (e := nSign) (el := 38) [.agg (eSign ({ s4 with Main := { s4.Main with Place := v14_1.1 } })).toArray] ([{ s4 with Main := { s4.Main with Place := v14_1.1 } }] : List Sign) fun A22_2 k22_2 => ?_)
          obtain ⟨y22_3, hy22_3, h⟩ := H.call h
          refine xx rfl (e_app 2 hy22_3 (s_own 4) fun A22_3 k22_3 => ?_)
          refine p 1 ?_
          refine rend ?_
          refine c_seq ?_
          refine r_start ?_
          refine p 1 ?_
          obtain ⟨v23_1, hv23_1, h⟩ := H.call h
          refine xx rfl (e_cq (cs' := [.slice A0 (List.length a0) k0, .int .i64 v23_1.2.1, .int .u64 v23_1.2.2]) (v := .bool v23_1.1) 0 [.pointer (some ⟨g0, 0, none⟩), .int .i64 3] func78 (fun W S => C.s_l1Cur_one W hv23_1 (S.bx 0) ((s_argN h0 q0).out W S) q0) ?_)
          refine rend ?_
          refine c_or v23_1.1 (fun q27 => ?_) (fun q27 => ?_)
          · replace h := H.t q27 h
            refine r_start ?_
            refine xq rfl (y_load (.agg (eSign ({ s4 with Main := { s4.Main with Place := v14_1.1 } })).toArray) 3 g7_1 0) ?_
            refine xx rfl (x_sto 1 g1_2 0 (eSign ({ s4 with Main := { s4.Main with Place := v14_1.1 } })) ?_)
            refine rend ?_
            refine c_inb ?_
            replace h := H.inl h
            exact h (v23_1.2.1, v23_1.2.2, { s4 with Main := { s4.Main with Place := v14_1.1 } }, y22_3, A22_3, k22_3) _ _ rfl (by kernel_rfl) (by kernel_rfl)
          replace h := H.f q27 h
          refine c_skip ?_
          refine c_inb ?_
          replace h := H.inl h
          exact h (v23_1.2.1, v23_1.2.2, s4, y22_3, A22_3, k22_3) _ _ rfl (by kernel_rfl) (by kernel_rfl)
        replace h := H.f q24 h
        refine c_seq ?_
        refine r_start ?_
        refine p 2 ?_
        refine rend ?_
        refine c_or (v8_1.1 == 3) (fun q28 => ?_) (fun q28 => ?_)
        · replace h := H.t q28 h
          refine r_start ?_
          refine p 1 ?_
          obtain ⟨v16_1, hv16_1, h⟩ := H.call h
          refine xx rfl (e_cq (cs' := [.slice A0 (List.length a0) k0, .int .i64 v16_1.2.1, .int .u64 v16_1.2.2]) (v := .agg (eMove v16_1.1).toArray) 0 [.pointer (some ⟨g0, 0, none⟩)] func192 (fun W S => C.s_l1Cur_move W hv16_1 (S.bx 0) ((s_argN h0 q0).out W S) q0) ?_)
          refine p 2 ?_
          refine xx rfl (x_sto 3 g7_1 11 (eSign ({ s4 with Main := { s4.Main with Move := v16_1.1 } })) ?_)
          refine rend ?_
          refine c_inb ?_
          refine c_seq ?_
          refine c_seq ?_
          refine r_start ?_
          refine xq rfl (y_load (.agg (eSign ({ s4 with Main := { s4.Main with Move := v16_1.1 } })).toArray) 3 g7_1 0) ?_
          obtain ⟨v20_1, hv20_1, h⟩ := H.call h
          refine xq rfl (y_call [.agg (eSign ({ s4 with Main := { s4.Main with Move := v16_1.1 } })).toArray] (.bool v20_1) func75 (fun W S => C.s_siGood W hv20_1)) ?_
          refine p 1 ?_
          refine rend ?_
          refine c_or (!v20_1) (fun q29 => ?_) (fun q29 => ?_)
          · replace h := H.t q29 h
            refine r_start ?_
            refine p 1 ?_
            obtain ⟨v21_1, hv21_1, h⟩ := H.call h
            refine xx rfl (e_cq (cs' := [.slice A0 (List.length a0) k0, .int .i64 v21_1.2.1, .int .u64 v21_1.2.2]) (v := .agg (eSign v21_1.1).toArray) 0 [.pointer (some ⟨g0, 0, none⟩)] func138 (fun W S => C.s_l1Cur_sign W hv21_1 (S.bx 0) ((s_argN h0 q0).out W S) q0) ?_)
            refine xx rfl (x_sto 3 g7_1 0 (eSign v21_1.1) ?_)
            refine rend ?_
            refine c_seq ?_
            refine r_start ?_
            refine p 1 ?_
            refine xq rfl (y_load (.agg (eSign v21_1.1).toArray) 3 g7_1 0) ?_
            refine xx rfl (e_lit (e := nSign) (el := 38) [.agg (eSign v21_1.1).toArray] ([v21_1.1] : List Sign) fun A22_2 k22_2 => ?_)
            obtain ⟨y22_3, hy22_3, h⟩ := H.call h
            refine xx rfl (e_app 2 hy22_3 (s_own 4) fun A22_3 k22_3 => ?_)
            refine p 1 ?_
            refine rend ?_
            refine c_seq ?_
            refine r_start ?_
            refine p 1 ?_
            obtain ⟨v23_1, hv23_1, h⟩ := H.call h
            refine xx rfl (e_cq (cs' := [.slice A0 (List.length a0) k0, .int .i64 v23_1.2.1, .int .u64 v23_1.2.2]) (v := .bool v23_1.1) 0 [.pointer (some ⟨g0, 0, none⟩), .int .i64 3] func78 (fun W S => C.s_l1Cur_one W hv23_1 (S.bx 0) ((s_argN h0 q0).out W S) q0) ?_)
            refine rend ?_
            refine c_or v23_1.1 (fun q30 => ?_) (fun q30 => ?_)
            · replace h := H.t q30 h
              refine r_start ?_
              refine xq rfl (y_load (.agg (eSign v21_1.1).toArray) 3 g7_1 0) ?_
              refine xx rfl (x_sto 1 g1_2 0 (eSign v21_1.1) ?_)
              refine rend ?_
              refine c_inb ?_
              replace h := H.inl h
              exact h (v23_1.2.1, v23_1.2.2, v21_1.1, y22_3, A22_3, k22_3) _ _ rfl (by kernel_rfl) (by kernel_rfl)
            replace h := H.f q30 h
            refine c_skip ?_
            refine c_inb ?_
            replace h := H.inl h
            exact h (v23_1.2.1, v23_1.2.2, s4, y22_3, A22_3, k22_3) _ _ rfl (by kernel_rfl) (by kernel_rfl)
          replace h := H.f q29 h
          refine c_skip ?_
          refine c_seq ?_
          refine r_start ?_
          refine p 1 ?_
          refine xq rfl (y_load (.agg (eSign ({ s4 with Main := { s4.Main with Move := v16_1.1 } })).toArray) 3 g7_1 0) ?_
          refine xx rfl (e_lit (e := nSign) (el := 38) [.agg (eSign ({ s4 with Main := { s4.Main with Move := v16_1.1 } })).toArray] ([{ s4 with Main := { s4.Main with Move := v16_1.1 } }] : List Sign) fun A22_2 k22_2 => ?_)
          obtain ⟨y22_3, hy22_3, h⟩ := H.call h
          refine xx rfl (e_app 2 hy22_3 (s_own 4) fun A22_3 k22_3 => ?_)
          refine p 1 ?_
          refine rend ?_
          refine c_seq ?_
          refine r_start ?_
          refine p 1 ?_
          obtain ⟨v23_1, hv23_1, h⟩ := H.call h
          refine xx rfl (e_cq (cs' := [.slice A0 (List.length a0) k0, .int .i64 v23_1.2.1, .int .u64 v23_1.2.2]) (v := .bool v23_1.1) 0 [.pointer (some ⟨g0, 0, none⟩), .int .i64 3] func78 (fun W S => C.s_l1Cur_one W hv23_1 (S.bx 0) ((s_argN h0 q0).out W S) q0) ?_)
          refine rend ?_
          refine c_or v23_1.1 (fun q31 => ?_) (fun q31 => ?_)
          · replace h := H.t q31 h
            refine r_start ?_
            refine xq rfl (y_load (.agg (eSign ({ s4 with Main := { s4.Main with Move := v16_1.1 } })).toArray) 3 g7_1 0) ?_
            refine xx rfl (x_sto 1 g1_2 0 (eSign ({ s4 with Main := { s4.Main with Move := v16_1.1 } })) ?_)
            refine rend ?_
            refine c_inb ?_
            replace h := H.inl h
            exact h (v23_1.2.1, v23_1.2.2, { s4 with Main := { s4.Main with Move := v16_1.1 } }, y22_3, A22_3, k22_3) _ _ rfl (by kernel_rfl) (by kernel_rfl)
          replace h := H.f q31 h
          refine c_skip ?_
          refine c_inb ?_
          replace h := H.inl h
          exact h (v23_1.2.1, v23_1.2.2, s4, y22_3, A22_3, k22_3) _ _ rfl (by kernel_rfl) (by kernel_rfl)
        replace h := H.f q28 h
        refine c_seq ?_
        refine r_start ?_
        refine p 2 ?_
        refine rend ?_
        refine c_or (v8_1.1 == 4) (fun q32 => ?_) (fun q32 => ?_)
        · replace h := H.t q32 h
          refine c_seq ?_
          refine r_start ?_
          refine p 1 ?_
          refine xx rfl (x_sto 3 g7_1 13 (eSign ({ s4 with Two := true })) ?_)
          refine rend ?_
          refine r_start ?_
          refine p 2 ?_
          refine xq rfl (y_load (.agg (eHand s4.Main).toArray) 3 g7_1 0) ?_
          obtain ⟨v19_3, hv19_3, h⟩ := H.call h
          refine xx rfl (e_cq (cs' := [.slice A0 (List.length a0) k0, .int .i64 v19_3.2.1, .int .u64 v19_3.2.2]) (v := .agg (eHand v19_3.1).toArray) 0 [.pointer (some ⟨g0, 0, none⟩), .agg (eHand s4.Main).toArray] func188 (fun W S => C.s_l1Cur_otherFor W hv19_3 (S.bx 0) ((s_argN h0 q0).out W S) q0) ?_)
          refine p 1 ?_
          refine xx rfl (x_sto 3 g7_1 14 (eSign (⟨s4.Main, true, v19_3.1⟩ : Sign)) ?_)
          refine rend ?_
          refine c_inb ?_
          refine c_seq ?_
          refine c_seq ?_
          refine r_start ?_
          refine xq rfl (y_load (.agg (eSign (⟨s4.Main, true, v19_3.1⟩ : Sign)).toArray) 3 g7_1 0) ?_
          obtain ⟨v20_1, hv20_1, h⟩ := H.call h
          refine xq rfl (y_call [.agg (eSign (⟨s4.Main, true, v19_3.1⟩ : Sign)).toArray] (.bool v20_1) func75 (fun W S => C.s_siGood W hv20_1)) ?_
          refine p 1 ?_
          refine rend ?_
          refine c_or (!v20_1) (fun q33 => ?_) (fun q33 => ?_)
          · replace h := H.t q33 h
            refine r_start ?_
            refine p 1 ?_
            obtain ⟨v21_1, hv21_1, h⟩ := H.call h
            refine xx rfl (e_cq (cs' := [.slice A0 (List.length a0) k0, .int .i64 v21_1.2.1, .int .u64 v21_1.2.2]) (v := .agg (eSign v21_1.1).toArray) 0 [.pointer (some ⟨g0, 0, none⟩)] func138 (fun W S => C.s_l1Cur_sign W hv21_1 (S.bx 0) ((s_argN h0 q0).out W S) q0) ?_)
            refine xx rfl (x_sto 3 g7_1 0 (eSign v21_1.1) ?_)
            refine rend ?_
            refine c_seq ?_
            refine r_start ?_
            refine p 1 ?_
            refine xq rfl (y_load (.agg (eSign v21_1.1).toArray) 3 g7_1 0) ?_
            refine xx rfl (e_lit (e := nSign) (el := 38) [.agg (eSign v21_1.1).toArray] ([v21_1.1] : List Sign) fun A22_2 k22_2 => ?_)
            obtain ⟨y22_3, hy22_3, h⟩ := H.call h
            refine xx rfl (e_app 2 hy22_3 (s_own 4) fun A22_3 k22_3 => ?_)
            refine p 1 ?_
            refine rend ?_
            refine c_seq ?_
            refine r_start ?_
            refine p 1 ?_
            obtain ⟨v23_1, hv23_1, h⟩ := H.call h
            refine xx rfl (e_cq (cs' := [.slice A0 (List.length a0) k0, .int .i64 v23_1.2.1, .int .u64 v23_1.2.2]) (v := .bool v23_1.1) 0 [.pointer (some ⟨g0, 0, none⟩), .int .i64 3] func78 (fun W S => C.s_l1Cur_one W hv23_1 (S.bx 0) ((s_argN h0 q0).out W S) q0) ?_)
            refine rend ?_
            refine c_or v23_1.1 (fun q34 => ?_) (fun q34 => ?_)
            · replace h := H.t q34 h
              refine r_start ?_
              refine xq rfl (y_load (.agg (eSign v21_1.1).toArray) 3 g7_1 0) ?_
              refine xx rfl (x_sto 1 g1_2 0 (eSign v21_1.1) ?_)
              refine rend ?_
              refine c_inb ?_
              replace h := H.inl h
              exact h (v23_1.2.1, v23_1.2.2, v21_1.1, y22_3, A22_3, k22_3) _ _ rfl (by kernel_rfl) (by kernel_rfl)
            replace h := H.f q34 h
            refine c_skip ?_
            refine c_inb ?_
            replace h := H.inl h
            exact h (v23_1.2.1, v23_1.2.2, s4, y22_3, A22_3, k22_3) _ _ rfl (by kernel_rfl) (by kernel_rfl)
          replace h := H.f q33 h
          refine c_skip ?_
          refine c_seq ?_
          refine r_start ?_
          refine p 1 ?_
          refine xq rfl (y_load (.agg (eSign (⟨s4.Main, true, v19_3.1⟩ : Sign)).toArray) 3 g7_1 0) ?_
          refine xx rfl (e_lit (e := nSign) (el := 38) [.agg (eSign (⟨s4.Main, true, v19_3.1⟩ : Sign)).toArray] ([(⟨s4.Main, true, v19_3.1⟩ : Sign)] : List Sign) fun A22_2 k22_2 => ?_)
          obtain ⟨y22_3, hy22_3, h⟩ := H.call h
          refine xx rfl (e_app 2 hy22_3 (s_own 4) fun A22_3 k22_3 => ?_)
          refine p 1 ?_
          refine rend ?_
          refine c_seq ?_
          refine r_start ?_
          refine p 1 ?_
          obtain ⟨v23_1, hv23_1, h⟩ := H.call h
          refine xx rfl (e_cq (cs' := [.slice A0 (List.length a0) k0, .int .i64 v23_1.2.1, .int .u64 v23_1.2.2]) (v := .bool v23_1.1) 0 [.pointer (some ⟨g0, 0, none⟩), .int .i64 3] func78 (fun W S => C.s_l1Cur_one W hv23_1 (S.bx 0) ((s_argN h0 q0).out W S) q0) ?_)
          refine rend ?_
          refine c_or v23_1.1 (fun q35 => ?_) (fun q35 => ?_)
          · replace h := H.t q35 h
            refine r_start ?_
            refine xq rfl (y_load (.agg (eSign (⟨s4.Main, true, v19_3.1⟩ : Sign)).toArray) 3 g7_1 0) ?_
            refine xx rfl (x_sto 1 g1_2 0 (eSign (⟨s4.Main, true, v19_3.1⟩ : Sign)) ?_)
            refine rend ?_
            refine c_inb ?_
            replace h := H.inl h
            exact h (v23_1.2.1, v23_1.2.2, (⟨s4.Main, true, v19_3.1⟩ : Sign), y22_3, A22_3, k22_3) _ _ rfl (by kernel_rfl) (by kernel_rfl)
          replace h := H.f q35 h
          refine c_skip ?_
          refine c_inb ?_
          replace h := H.inl h
          exact h (v23_1.2.1, v23_1.2.2, s4, y22_3, A22_3, k22_3) _ _ rfl (by kernel_rfl) (by kernel_rfl)
        replace h := H.f q32 h
        refine c_skip ?_
        refine c_inb ?_
        refine c_seq ?_
        refine c_seq ?_
        refine r_start ?_
        refine xq rfl (y_load (.agg (eSign s4).toArray) 3 g7_1 0) ?_
        obtain ⟨v20_1, hv20_1, h⟩ := H.call h
        refine xq rfl (y_call [.agg (eSign s4).toArray] (.bool v20_1) func75 (fun W S => C.s_siGood W hv20_1)) ?_
        refine p 1 ?_
        refine rend ?_
        refine c_or (!v20_1) (fun q36 => ?_) (fun q36 => ?_)
        · replace h := H.t q36 h
          refine r_start ?_
          refine p 1 ?_
          obtain ⟨v21_1, hv21_1, h⟩ := H.call h
          refine xx rfl (e_cq (cs' := [.slice A0 (List.length a0) k0, .int .i64 v21_1.2.1, .int .u64 v21_1.2.2]) (v := .agg (eSign v21_1.1).toArray) 0 [.pointer (some ⟨g0, 0, none⟩)] func138 (fun W S => C.s_l1Cur_sign W hv21_1 (S.bx 0) ((s_argN h0 q0).out W S) q0) ?_)
          refine xx rfl (x_sto 3 g7_1 0 (eSign v21_1.1) ?_)
          refine rend ?_
          refine c_seq ?_
          refine r_start ?_
          refine p 1 ?_
          refine xq rfl (y_load (.agg (eSign v21_1.1).toArray) 3 g7_1 0) ?_
          refine xx rfl (e_lit (e := nSign) (el := 38) [.agg (eSign v21_1.1).toArray] ([v21_1.1] : List Sign) fun A22_2 k22_2 => ?_)
          obtain ⟨y22_3, hy22_3, h⟩ := H.call h
          refine xx rfl (e_app 2 hy22_3 (s_own 4) fun A22_3 k22_3 => ?_)
          refine p 1 ?_
          refine rend ?_
          refine c_seq ?_
          refine r_start ?_
          refine p 1 ?_
          obtain ⟨v23_1, hv23_1, h⟩ := H.call h
          refine xx rfl (e_cq (cs' := [.slice A0 (List.length a0) k0, .int .i64 v23_1.2.1, .int .u64 v23_1.2.2]) (v := .bool v23_1.1) 0 [.pointer (some ⟨g0, 0, none⟩), .int .i64 3] func78 (fun W S => C.s_l1Cur_one W hv23_1 (S.bx 0) ((s_argN h0 q0).out W S) q0) ?_)
          refine rend ?_
          refine c_or v23_1.1 (fun q37 => ?_) (fun q37 => ?_)
          · replace h := H.t q37 h
            refine r_start ?_
            refine xq rfl (y_load (.agg (eSign v21_1.1).toArray) 3 g7_1 0) ?_
            refine xx rfl (x_sto 1 g1_2 0 (eSign v21_1.1) ?_)
            refine rend ?_
            refine c_inb ?_
            replace h := H.inl h
            exact h (v23_1.2.1, v23_1.2.2, v21_1.1, y22_3, A22_3, k22_3) _ _ rfl (by kernel_rfl) (by kernel_rfl)
          replace h := H.f q37 h
          refine c_skip ?_
          refine c_inb ?_
          replace h := H.inl h
          exact h (v23_1.2.1, v23_1.2.2, s4, y22_3, A22_3, k22_3) _ _ rfl (by kernel_rfl) (by kernel_rfl)
        replace h := H.f q36 h
        refine c_skip ?_
        refine c_seq ?_
        refine r_start ?_
        refine p 1 ?_
        refine xq rfl (y_load (.agg (eSign s4).toArray) 3 g7_1 0) ?_
        refine xx rfl (e_lit (e := nSign) (el := 38) [.agg (eSign s4).toArray] ([s4] : List Sign) fun A22_2 k22_2 => ?_)
        obtain ⟨y22_3, hy22_3, h⟩ := H.call h
        refine xx rfl (e_app 2 hy22_3 (s_own 4) fun A22_3 k22_3 => ?_)
        refine p 1 ?_
        refine rend ?_
        refine c_seq ?_
        refine r_start ?_
        refine p 1 ?_
        obtain ⟨v23_1, hv23_1, h⟩ := H.call h
        refine xx rfl (e_cq (cs' := [.slice A0 (List.length a0) k0, .int .i64 v23_1.2.1, .int .u64 v23_1.2.2]) (v := .bool v23_1.1) 0 [.pointer (some ⟨g0, 0, none⟩), .int .i64 3] func78 (fun W S => C.s_l1Cur_one W hv23_1 (S.bx 0) ((s_argN h0 q0).out W S) q0) ?_)
        refine rend ?_
        refine c_or v23_1.1 (fun q38 => ?_) (fun q38 => ?_)
        · replace h := H.t q38 h
          refine r_start ?_
          refine xq rfl (y_load (.agg (eSign s4).toArray) 3 g7_1 0) ?_
          refine xx rfl (x_sto 1 g1_2 0 (eSign s4) ?_)
          refine rend ?_
          refine c_inb ?_
          replace h := H.inl h
          exact h (v23_1.2.1, v23_1.2.2, s4, y22_3, A22_3, k22_3) _ _ rfl (by kernel_rfl) (by kernel_rfl)
        replace h := H.f q38 h
        refine c_skip ?_
        refine c_inb ?_
        replace h := H.inl h
        exact h (v23_1.2.1, v23_1.2.2, s4, y22_3, A22_3, k22_3) _ _ rfl (by kernel_rfl) (by kernel_rfl)
      replace h := H.f q15 h
      refine cx ?_
      replace h := H.inr h
      exact hj14 (n2, n3, s4, l5, A6, k7) _ _ h (by kernel_rfl) (by kernel_rfl)
    intro x u h
    obtain ⟨n8, n9, s10, l11, A12, k13⟩ := x
    refine c_seq ?_
    refine c_seq ?_
    refine r_start ?_
    refine p 3 ?_
    refine br (decide ((wr (16 + v5_1.1)) > 0)) (fun q39 => ?_) (fun q39 => ?_)
    · replace h := H.t q39 h
      refine o_set 69 (congrArg Value.bool q39) ?_
      refine p 1 ?_
      obtain ⟨v25_4, hv25_4, h⟩ := H.call h
      refine xx rfl (e_cq (cs' := [.slice A0 (List.length a0) k0, .int .i64 v25_4.2.1, .int .u64 v25_4.2.2]) (v := .bool v25_4.1) 0 [.pointer (some ⟨g0, 0, none⟩), .int .i64 24] func78 (fun W S => C.s_l1Cur_one W hv25_4 (S.bx 0) ((s_argN h0 q0).out W S) q0) ?_)
      refine p 1 ?_
      refine rend ?_
      refine c_or v25_4.1 (fun q40 => ?_) (fun q40 => ?_)
      · replace h := H.t q40 h
        refine r_start ?_
        refine p 3 ?_
        obtain ⟨v26_3, hv26_3, h⟩ := H.call h
        refine xx rfl (e_cq (cs' := [.slice A0 (List.length a0) k0, .int .i64 v26_3.2.1, .int .u64 v26_3.2.2]) (v := .int .i64 v26_3.1) 0 [.pointer (some ⟨g0, 0, none⟩), .int .i64 (wr (16 + v5_1.1))] func79 (fun W S => C.s_l1Cur_pick W hv26_3 (S.bx 0) ((s_argN h0 q0).out W S) q0) ?_)
        refine p 1 ?_
        obtain ⟨v26_5, hv26_5, h⟩ := H.call h
        refine xx rfl (e_cq (cs' := [.slice A0 (List.length a0) k0, .int .i64 v26_5.2.1, .int .u64 v26_5.2.2]) (v := .agg (eSign v26_5.1).toArray) 0 [.pointer (some ⟨g0, 0, none⟩)] func73 (fun W S => C.s_l1Cur_anySign W hv26_5 (S.bx 0) ((s_argN h0 q0).out W S) q0) ?_)
        obtain ⟨y26_6, hy26_6, h⟩ := H.call h
        refine xq rfl (y_idx (e := nSign) (el := 38) hy26_6 (s_own 2)) ?_
        refine xx rfl (e_stel (e := nSign) (b := v26_5.1) 2 0 (eSign v26_5.1) hy26_6 (by kernel_rfl) ?_)
        refine o_set 4 (sl_set (A := A12) (c := k13) (l := l11) (n := Int.toNat v26_3.1) (b := v26_5.1)) ?_
        refine rend ?_
        refine c_seq ?_
        refine r_start ?_
        refine p 2 ?_
        refine rend ?_
        replace h := H.done h
        subst h
        exact ret func142 rfl (vs := [.slice A12 (List.length (List.set l11 (Int.toNat v26_3.1) v26_5.1)) k13]) (.tmp (by kernel_rfl) .nil) rfl (fun W S => S.retQR (res := fun v => v) 2 (by decide))
      replace h := H.f q40 h
      refine c_skip ?_
      refine c_seq ?_
      refine r_start ?_
      refine p 2 ?_
      refine rend ?_
      replace h := H.done h
      subst h
      exact ret func142 rfl (vs := [.slice A12 (List.length l11) k13]) (.tmp (by kernel_rfl) .nil) rfl (fun W S => S.retQR (res := fun v => v) 2 (by decide))
    replace h := H.f q39 h
    refine o_set 69 (congrArg Value.bool q39) ?_
    refine p 3 ?_
    refine rend ?_
    refine c_f (by kernel_rfl) ?_
    refine c_skip ?_
    refine c_seq ?_
    refine r_start ?_
    refine p 2 ?_
    refine rend ?_
    replace h := H.done h
    subst h
    exact ret func142 rfl (vs := [.slice A12 (List.length l11) k13]) (.tmp (by kernel_rfl) .nil) rfl (fun W S => S.retQR (res := fun v => v) 2 (by decide))
  replace h := H.f q1 h
  refine c_skip ?_
  refine c_seq ?_
  refine c_block ?_
  refine c_nil nSign 38 ?_
  refine joinH (X := (Int × Int × Sign × (List Sign) × Option Addr × Nat)) 0 (H.bnd h) (fun ⟨n47, n48, s49, l50, A51, k52⟩ => (n47, n48, s49, l50)) (fun ⟨n47, n48, s49, l50, A51, k52⟩ => [box g0 94 [.slice A0 (List.length a0) k0, .int .i64 n47, .int .u64 n48], box g1_2 38 (eSign s49), rowT nSign w.heap.size 38 (.slice A51 (List.length l50) k52) l50]) (fun ⟨n47, n48, s49, l50, A51, k52⟩ u => (.pointer (some ⟨g0, 0, none⟩) :: (jk u 1 3 (.slice A51 (List.length l50) k52 :: .int .i64 v3_1.1 :: (jk u 6 75 []))))) (fun h hj53 => ?_) ?_
  · skip
    refine loopR (X := (Int × Int × Sign × (List Sign) × Option Addr × Nat)) (fun ⟨n41, n42, s43, l44, A45, k46⟩ => (n41, n42, s43, l44)) (fun ⟨n41, n42, s43, l44, A45, k46⟩ => [box g0 94 [.slice A0 (List.length a0) k0, .int .i64 n41, .int .u64 n42], box g1_2 38 (eSign s43), rowT nSign w.heap.size 38 (.slice A45 (List.length l44) k46) l44]) (fun ⟨n41, n42, s43, l44, A45, k46⟩ u => (.pointer (some ⟨g0, 0, none⟩) :: (jk u 1 2 (.pointer (some ⟨g1_2, 0, none⟩) :: .slice A45 (List.length l44) k46 :: .int .i64 v3_1.1 :: (jk u 6 75 []))))) (v4_1.2.1, v4_1.2.2, v1_1.1, ([] : List Sign), none, 0) h (by kernel_rfl) (by kernel_rfl) ?_
    intro x u h
    obtain ⟨n41, n42, s43, l44, A45, k46⟩ := x
    refine c_seq ?_
    refine c_seq ?_
    refine r_start ?_
    refine p 4 ?_
    refine rend ?_
    refine c_or (decide ((List.length l44 : Int) < v3_1.1)) (fun q54 => ?_) (fun q54 => ?_)
    · replace h := H.t q54 h
      refine c_skip ?_
      refine c_block ?_
      refine c_seq ?_
      refine r_start ?_
      refine xq rfl (y_load (.agg (eSign s43).toArray) 1 g1_2 0) ?_
      refine xx rfl (x_new (eSign zSign) fun g7_1 => ?_)
      refine xx rfl (x_sto 3 g7_1 0 (eSign s43) ?_)
      refine rend ?_
      refine c_seq ?_
      refine c_seq ?_
      refine r_start ?_
      refine p 1 ?_
      obtain ⟨v8_1, hv8_1, h⟩ := H.call h
      refine xx rfl (e_cq (cs' := [.slice A0 (List.length a0) k0, .int .i64 v8_1.2.1, .int .u64 v8_1.2.2]) (v := .int .i64 v8_1.1) 0 [.pointer (some ⟨g0, 0, none⟩), .int .i64 6] func79 (fun W S => C.s_l1Cur_pick W hv8_1 (S.bx 0) ((s_argN h0 q0).out W S) q0) ?_)
      refine rend ?_
      refine c_block ?_
      refine c_seq ?_
      refine r_start ?_
      refine p 2 ?_
      refine rend ?_
      refine c_or (v8_1.1 == 0) (fun q55 => ?_) (fun q55 => ?_)
      · replace h := H.t q55 h
        refine r_start ?_
        refine p 1 ?_
        obtain ⟨v10_1, hv10_1, h⟩ := H.call h
        refine xx rfl (e_cq (cs' := [.slice A0 (List.length a0) k0, .int .i64 v10_1.2.1, .int .u64 v10_1.2.2]) (v := .agg (eShape v10_1.1).toArray) 0 [.pointer (some ⟨g0, 0, none⟩)] func189 (fun W S => C.s_l1Cur_shape W hv10_1 (S.bx 0) ((s_argN h0 q0).out W S) q0) ?_)
        refine p 2 ?_
        refine xx rfl (x_sto 3 g7_1 0 (eSign ({ s43 with Main := { s43.Main with Shape := v10_1.1 } })) ?_)
        refine rend ?_
        refine c_inb ?_
        refine c_seq ?_
        refine c_seq ?_
        refine r_start ?_
        refine xq rfl (y_load (.agg (eSign ({ s43 with Main := { s43.Main with Shape := v10_1.1 } })).toArray) 3 g7_1 0) ?_
        obtain ⟨v20_1, hv20_1, h⟩ := H.call h
        refine xq rfl (y_call [.agg (eSign ({ s43 with Main := { s43.Main with Shape := v10_1.1 } })).toArray] (.bool v20_1) func75 (fun W S => C.s_siGood W hv20_1)) ?_
        refine p 1 ?_
        refine rend ?_
        refine c_or (!v20_1) (fun q56 => ?_) (fun q56 => ?_)
        · replace h := H.t q56 h
          refine r_start ?_
          refine p 1 ?_
          obtain ⟨v21_1, hv21_1, h⟩ := H.call h
          refine xx rfl (e_cq (cs' := [.slice A0 (List.length a0) k0, .int .i64 v21_1.2.1, .int .u64 v21_1.2.2]) (v := .agg (eSign v21_1.1).toArray) 0 [.pointer (some ⟨g0, 0, none⟩)] func138 (fun W S => C.s_l1Cur_sign W hv21_1 (S.bx 0) ((s_argN h0 q0).out W S) q0) ?_)
          refine xx rfl (x_sto 3 g7_1 0 (eSign v21_1.1) ?_)
          refine rend ?_
          refine frg (fun u => (.pointer (some ⟨g0, 0, none⟩) :: (jk u 1 2 (.pointer (some ⟨g1_2, 0, none⟩) :: .slice A45 (List.length l44) k46 :: .int .i64 v3_1.1 :: .pointer (some ⟨g7_1, 0, none⟩) :: (jk u 7 74 []))))) (by kernel_rfl) fun u => ?_
          refine keep 4 (its' := [box g0 94 [.slice A0 (List.length a0) k0, .int .i64 v21_1.2.1, .int .u64 v21_1.2.2], box g1_2 38 (eSign s43), rowT nSign w.heap.size 38 (.slice A45 (List.length l44) k46) l44, box g7_1 38 (eSign v21_1.1)]) (by kernel_rfl) ?_
          refine c_seq ?_
          refine r_start ?_
          refine p 1 ?_
          refine xq rfl (y_load (.agg (eSign v21_1.1).toArray) 3 g7_1 0) ?_
          refine xx rfl (e_lit (e := nSign) (el := 38) [.agg (eSign v21_1.1).toArray] ([v21_1.1] : List Sign) fun A22_2 k22_2 => ?_)
          obtain ⟨y22_3, hy22_3, h⟩ := H.call h
          refine xx rfl (e_app 2 hy22_3 (s_own 4) fun A22_3 k22_3 => ?_)
          refine p 1 ?_
          refine rend ?_
          refine c_seq ?_
          refine r_start ?_
          refine p 1 ?_
          obtain ⟨v23_1, hv23_1, h⟩ := H.call h
          refine xx rfl (e_cq (cs' := [.slice A0 (List.length a0) k0, .int .i64 v23_1.2.1, .int .u64 v23_1.2.2]) (v := .bool v23_1.1) 0 [.pointer (some ⟨g0, 0, none⟩), .int .i64 3] func78 (fun W S => C.s_l1Cur_one W hv23_1 (S.bx 0) ((s_argN h0 q0).out W S) q0) ?_)
          refine rend ?_
          refine c_or v23_1.1 (fun q57 => ?_) (fun q57 => ?_)
          · replace h := H.t q57 h
            refine r_start ?_
            refine xq rfl (y_load (.agg (eSign v21_1.1).toArray) 3 g7_1 0) ?_
            refine xx rfl (x_sto 1 g1_2 0 (eSign v21_1.1) ?_)
            refine rend ?_
            refine c_inb ?_
            replace h := H.inl h
            exact h (v23_1.2.1, v23_1.2.2, v21_1.1, y22_3, A22_3, k22_3) _ _ rfl (by kernel_rfl) (by kernel_rfl)
          replace h := H.f q57 h
          refine c_skip ?_
          refine c_inb ?_
          replace h := H.inl h
          exact h (v23_1.2.1, v23_1.2.2, s43, y22_3, A22_3, k22_3) _ _ rfl (by kernel_rfl) (by kernel_rfl)
        replace h := H.f q56 h
        refine c_skip ?_
        refine c_seq ?_
        refine r_start ?_
        refine p 1 ?_
        refine xq rfl (y_load (.agg (eSign ({ s43 with Main := { s43.Main with Shape := v10_1.1 } })).toArray) 3 g7_1 0) ?_
        refine xx rfl (e_lit (e := nSign) (el := 38) [.agg (eSign ({ s43 with Main := { s43.Main with Shape := v10_1.1 } })).toArray] ([{ s43 with Main := { s43.Main with Shape := v10_1.1 } }] : List Sign) fun A22_2 k22_2 => ?_)
        obtain ⟨y22_3, hy22_3, h⟩ := H.call h
        refine xx rfl (e_app 2 hy22_3 (s_own 4) fun A22_3 k22_3 => ?_)
        refine p 1 ?_
        refine rend ?_
        refine frg (fun u => (.pointer (some ⟨g0, 0, none⟩) :: (jk u 1 2 (.pointer (some ⟨g1_2, 0, none⟩) :: .slice A22_3 (List.length y22_3) k22_3 :: .int .i64 v3_1.1 :: .pointer (some ⟨g7_1, 0, none⟩) :: (jk u 7 74 []))))) (by kernel_rfl) fun u => ?_
        refine keep 5 (its' := [box g0 94 [.slice A0 (List.length a0) k0, .int .i64 v10_1.2.1, .int .u64 v10_1.2.2], box g1_2 38 (eSign s43), rowT nSign w.heap.size 38 (.slice A22_3 (List.length y22_3) k22_3) y22_3, box g7_1 38 (eSign ({ s43 with Main := { s43.Main with Shape := v10_1.1 } })), rowT nSign w.heap.size 38 (.slice A22_2 (List.length ([{ s43 with Main := { s43.Main with Shape := v10_1.1 } }] : List Sign)) k22_2) ([{ s43 with Main := { s43.Main with Shape := v10_1.1 } }] : List Sign)]) (by kernel_rfl) ?_
        refine c_seq ?_
        refine r_start ?_
        refine p 1 ?_
        obtain ⟨v23_1, hv23_1, h⟩ := H.call h
        refine xx rfl (e_cq (cs' := [.slice A0 (List.length a0) k0, .int .i64 v23_1.2.1, .int .u64 v23_1.2.2]) (v := .bool v23_1.1) 0 [.pointer (some ⟨g0, 0, none⟩), .int .i64 3] func78 (fun W S => C.s_l1Cur_one W hv23_1 (S.bx 0) ((s_argN h0 q0).out W S) q0) ?_)
        refine rend ?_
        refine c_or v23_1.1 (fun q58 => ?_) (fun q58 => ?_)
        · replace h := H.t q58 h
          refine r_start ?_
          refine xq rfl (y_load (.agg (eSign ({ s43 with Main := { s43.Main with Shape := v10_1.1 } })).toArray) 3 g7_1 0) ?_
          refine xx rfl (x_sto 1 g1_2 0 (eSign ({ s43 with Main := { s43.Main with Shape := v10_1.1 } })) ?_)
          refine rend ?_
          refine c_inb ?_
          replace h := H.inl h
          exact h (v23_1.2.1, v23_1.2.2, { s43 with Main := { s43.Main with Shape := v10_1.1 } }, y22_3, A22_3, k22_3) _ _ rfl (by kernel_rfl) (by kernel_rfl)
        replace h := H.f q58 h
        refine c_skip ?_
        refine c_inb ?_
        replace h := H.inl h
        exact h (v23_1.2.1, v23_1.2.2, s43, y22_3, A22_3, k22_3) _ _ rfl (by kernel_rfl) (by kernel_rfl)
      replace h := H.f q55 h
      refine c_seq ?_
      refine r_start ?_
      refine p 2 ?_
      refine rend ?_
      refine c_or (v8_1.1 == 1) (fun q59 => ?_) (fun q59 => ?_)
      · replace h := H.t q59 h
        refine r_start ?_
        refine p 1 ?_
        obtain ⟨v12_1, hv12_1, h⟩ := H.call h
        refine xx rfl (e_cq (cs' := [.slice A0 (List.length a0) k0, .int .i64 v12_1.2.1, .int .u64 v12_1.2.2]) (v := .agg (eOrient v12_1.1).toArray) 0 [.pointer (some ⟨g0, 0, none⟩)] func190 (fun W S => C.s_l1Cur_orient W hv12_1 (S.bx 0) ((s_argN h0 q0).out W S) q0) ?_)
        refine p 2 ?_
        refine xx rfl (x_sto 3 g7_1 6 (eSign ({ s43 with Main := { s43.Main with Orient := v12_1.1 } })) ?_)
        refine rend ?_
        refine c_inb ?_
        refine c_seq ?_
        refine c_seq ?_
        refine r_start ?_
        refine xq rfl (y_load (.agg (eSign ({ s43 with Main := { s43.Main with Orient := v12_1.1 } })).toArray) 3 g7_1 0) ?_
        obtain ⟨v20_1, hv20_1, h⟩ := H.call h
        refine xq rfl (y_call [.agg (eSign ({ s43 with Main := { s43.Main with Orient := v12_1.1 } })).toArray] (.bool v20_1) func75 (fun W S => C.s_siGood W hv20_1)) ?_
        refine p 1 ?_
        refine rend ?_
        refine frg (fun u => (.pointer (some ⟨g0, 0, none⟩) :: (jk u 1 2 (.pointer (some ⟨g1_2, 0, none⟩) :: .slice A45 (List.length l44) k46 :: .int .i64 v3_1.1 :: .pointer (some ⟨g7_1, 0, none⟩) :: (jk u 7 50 (.bool (!v20_1) :: (jk u 58 23 []))))))) (by kernel_rfl) fun u => ?_
        refine keep 4 (its' := [box g0 94 [.slice A0 (List.length a0) k0, .int .i64 v12_1.2.1, .int .u64 v12_1.2.2], box g1_2 38 (eSign s43), rowT nSign w.heap.size 38 (.slice A45 (List.length l44) k46) l44, box g7_1 38 (eSign ({ s43 with Main := { s43.Main with Orient := v12_1.1 } }))]) (by kernel_rfl) ?_
        refine c_or (!v20_1) (fun q60 => ?_) (fun q60 => ?_)
        · replace h := H.t q60 h
          refine r_start ?_
          refine p 1 ?_
          obtain ⟨v21_1, hv21_1, h⟩ := H.call h
          refine xx rfl (e_cq (cs' := [.slice A0 (List.length a0) k0, .int .i64 v21_1.2.1, .int .u64 v21_1.2.2]) (v := .agg (eSign v21_1.1).toArray) 0 [.pointer (some ⟨g0, 0, none⟩)] func138 (fun W S => C.s_l1Cur_sign W hv21_1 (S.bx 0) ((s_argN h0 q0).out W S) q0) ?_)
          refine xx rfl (x_sto 3 g7_1 0 (eSign v21_1.1) ?_)
          refine rend ?_
          refine c_seq ?_
          refine r_start ?_
          refine p 1 ?_
          refine xq rfl (y_load (.agg (eSign v21_1.1).toArray) 3 g7_1 0) ?_
          refine xx rfl (e_lit (e := nSign) (el := 38) [.agg (eSign v21_1.1).toArray] ([v21_1.1] : List Sign) fun A22_2 k22_2 => ?_)
          obtain ⟨y22_3, hy22_3, h⟩ := H.call h
          refine xx rfl (e_app 2 hy22_3 (s_own 4) fun A22_3 k22_3 => ?_)
          refine p 1 ?_
          refine rend ?_
          refine c_seq ?_
          refine r_start ?_
          refine p 1 ?_
          obtain ⟨v23_1, hv23_1, h⟩ := H.call h
          refine xx rfl (e_cq (cs' := [.slice A0 (List.length a0) k0, .int .i64 v23_1.2.1, .int .u64 v23_1.2.2]) (v := .bool v23_1.1) 0 [.pointer (some ⟨g0, 0, none⟩), .int .i64 3] func78 (fun W S => C.s_l1Cur_one W hv23_1 (S.bx 0) ((s_argN h0 q0).out W S) q0) ?_)
          refine rend ?_
          refine c_or v23_1.1 (fun q61 => ?_) (fun q61 => ?_)
          · replace h := H.t q61 h
            refine r_start ?_
            refine xq rfl (y_load (.agg (eSign v21_1.1).toArray) 3 g7_1 0) ?_
            refine xx rfl (x_sto 1 g1_2 0 (eSign v21_1.1) ?_)
            refine rend ?_
            refine c_inb ?_
            replace h := H.inl h
            exact h (v23_1.2.1, v23_1.2.2, v21_1.1, y22_3, A22_3, k22_3) _ _ rfl (by kernel_rfl) (by kernel_rfl)
          replace h := H.f q61 h
          refine c_skip ?_
          refine c_inb ?_
          replace h := H.inl h
          exact h (v23_1.2.1, v23_1.2.2, s43, y22_3, A22_3, k22_3) _ _ rfl (by kernel_rfl) (by kernel_rfl)
        replace h := H.f q60 h
        refine c_skip ?_
        refine c_seq ?_
        refine r_start ?_
        refine p 1 ?_
        refine xq rfl (y_load (.agg (eSign ({ s43 with Main := { s43.Main with Orient := v12_1.1 } })).toArray) 3 g7_1 0) ?_
        refine xx rfl (e_lit (e := nSign) (el := 38) [.agg (eSign ({ s43 with Main := { s43.Main with Orient := v12_1.1 } })).toArray] ([{ s43 with Main := { s43.Main with Orient := v12_1.1 } }] : List Sign) fun A22_2 k22_2 => ?_)
        obtain ⟨y22_3, hy22_3, h⟩ := H.call h
        refine xx rfl (e_app 2 hy22_3 (s_own 4) fun A22_3 k22_3 => ?_)
        refine p 1 ?_
        refine rend ?_
        refine c_seq ?_
        refine r_start ?_
        refine p 1 ?_
        obtain ⟨v23_1, hv23_1, h⟩ := H.call h
        refine xx rfl (e_cq (cs' := [.slice A0 (List.length a0) k0, .int .i64 v23_1.2.1, .int .u64 v23_1.2.2]) (v := .bool v23_1.1) 0 [.pointer (some ⟨g0, 0, none⟩), .int .i64 3] func78 (fun W S => C.s_l1Cur_one W hv23_1 (S.bx 0) ((s_argN h0 q0).out W S) q0) ?_)
        refine rend ?_
        refine c_or v23_1.1 (fun q62 => ?_) (fun q62 => ?_)
        · replace h := H.t q62 h
          refine r_start ?_
          refine xq rfl (y_load (.agg (eSign ({ s43 with Main := { s43.Main with Orient := v12_1.1 } })).toArray) 3 g7_1 0) ?_
          refine xx rfl (x_sto 1 g1_2 0 (eSign ({ s43 with Main := { s43.Main with Orient := v12_1.1 } })) ?_)
          refine rend ?_
          refine c_inb ?_
          replace h := H.inl h
          exact h (v23_1.2.1, v23_1.2.2, { s43 with Main := { s43.Main with Orient := v12_1.1 } }, y22_3, A22_3, k22_3) _ _ rfl (by kernel_rfl) (by kernel_rfl)
        replace h := H.f q62 h
        refine c_skip ?_
        refine c_inb ?_
        replace h := H.inl h
        exact h (v23_1.2.1, v23_1.2.2, s43, y22_3, A22_3, k22_3) _ _ rfl (by kernel_rfl) (by kernel_rfl)
      replace h := H.f q59 h
      refine c_seq ?_
      refine r_start ?_
      refine p 2 ?_
      refine rend ?_
      refine c_or (v8_1.1 == 2) (fun q63 => ?_) (fun q63 => ?_)
      · replace h := H.t q63 h
        refine r_start ?_
        refine p 1 ?_
        obtain ⟨v14_1, hv14_1, h⟩ := H.call h
        refine xx rfl (e_cq (cs' := [.slice A0 (List.length a0) k0, .int .i64 v14_1.2.1, .int .u64 v14_1.2.2]) (v := .agg (ePlace v14_1.1).toArray) 0 [.pointer (some ⟨g0, 0, none⟩)] func191 (fun W S => C.s_l1Cur_place W hv14_1 (S.bx 0) ((s_argN h0 q0).out W S) q0) ?_)
        refine p 2 ?_
        refine xx rfl (x_sto 3 g7_1 8 (eSign ({ s43 with Main := { s43.Main with Place := v14_1.1 } })) ?_)
        refine rend ?_
        refine frg (fun u => (.pointer (some ⟨g0, 0, none⟩) :: (jk u 1 2 (.pointer (some ⟨g1_2, 0, none⟩) :: .slice A45 (List.length l44) k46 :: .int .i64 v3_1.1 :: .pointer (some ⟨g7_1, 0, none⟩) :: (jk u 7 74 []))))) (by kernel_rfl) fun u => ?_
        refine keep 4 (its' := [box g0 94 [.slice A0 (List.length a0) k0, .int .i64 v14_1.2.1, .int .u64 v14_1.2.2], box g1_2 38 (eSign s43), rowT nSign w.heap.size 38 (.slice A45 (List.length l44) k46) l44, box g7_1 38 (eSign ({ s43 with Main := { s43.Main with Place := v14_1.1 } }))]) (by kernel_rfl) ?_
        refine c_inb ?_
        refine c_seq ?_
        refine c_seq ?_
        refine r_start ?_
        refine xq rfl (y_load (.agg (eSign ({ s43 with Main := { s43.Main with Place := v14_1.1 } })).toArray) 3 g7_1 0) ?_
        obtain ⟨v20_1, hv20_1, h⟩ := H.call h
        refine xq rfl (y_call [.agg (eSign ({ s43 with Main := { s43.Main with Place := v14_1.1 } })).toArray] (.bool v20_1) func75 (fun W S => C.s_siGood W hv20_1)) ?_
        refine p 1 ?_
        refine rend ?_
        refine c_or (!v20_1) (fun q64 => ?_) (fun q64 => ?_)
        · replace h := H.t q64 h
          refine r_start ?_
          refine p 1 ?_
          obtain ⟨v21_1, hv21_1, h⟩ := H.call h
          refine xx rfl (e_cq (cs' := [.slice A0 (List.length a0) k0, .int .i64 v21_1.2.1, .int .u64 v21_1.2.2]) (v := .agg (eSign v21_1.1).toArray) 0 [.pointer (some ⟨g0, 0, none⟩)] func138 (fun W S => C.s_l1Cur_sign W hv21_1 (S.bx 0) ((s_argN h0 q0).out W S) q0) ?_)
          refine xx rfl (x_sto 3 g7_1 0 (eSign v21_1.1) ?_)
          refine rend ?_
          refine c_seq ?_
          refine r_start ?_
          refine p 1 ?_
          refine xq rfl (y_load (.agg (eSign v21_1.1).toArray) 3 g7_1 0) ?_
          refine xx rfl (e_lit (e := nSign) (el := 38) [.agg (eSign v21_1.1).toArray] ([v21_1.1] : List Sign) fun A22_2 k22_2 => ?_)
          obtain ⟨y22_3, hy22_3, h⟩ := H.call h
          refine xx rfl (e_app 2 hy22_3 (s_own 4) fun A22_3 k22_3 => ?_)
          refine p 1 ?_
          refine rend ?_
          refine c_seq ?_
          refine r_start ?_
          refine p 1 ?_
          obtain ⟨v23_1, hv23_1, h⟩ := H.call h
          refine xx rfl (e_cq (cs' := [.slice A0 (List.length a0) k0, .int .i64 v23_1.2.1, .int .u64 v23_1.2.2]) (v := .bool v23_1.1) 0 [.pointer (some ⟨g0, 0, none⟩), .int .i64 3] func78 (fun W S => C.s_l1Cur_one W hv23_1 (S.bx 0) ((s_argN h0 q0).out W S) q0) ?_)
          refine rend ?_
          refine c_or v23_1.1 (fun q65 => ?_) (fun q65 => ?_)
          · replace h := H.t q65 h
            refine r_start ?_
            refine xq rfl (y_load (.agg (eSign v21_1.1).toArray) 3 g7_1 0) ?_
            refine xx rfl (x_sto 1 g1_2 0 (eSign v21_1.1) ?_)
            refine rend ?_
            refine c_inb ?_
            replace h := H.inl h
            exact h (v23_1.2.1, v23_1.2.2, v21_1.1, y22_3, A22_3, k22_3) _ _ rfl (by kernel_rfl) (by kernel_rfl)
          replace h := H.f q65 h
          refine c_skip ?_
          refine c_inb ?_
          replace h := H.inl h
          exact h (v23_1.2.1, v23_1.2.2, s43, y22_3, A22_3, k22_3) _ _ rfl (by kernel_rfl) (by kernel_rfl)
        replace h := H.f q64 h
        refine c_skip ?_
        refine c_seq ?_
        refine r_start ?_
        refine p 1 ?_
        refine xq rfl (y_load (.agg (eSign ({ s43 with Main := { s43.Main with Place := v14_1.1 } })).toArray) 3 g7_1 0) ?_
        refine xx rfl (e_lit (e := nSign) (el := 38) [.agg (eSign ({ s43 with Main := { s43.Main with Place := v14_1.1 } })).toArray] ([{ s43 with Main := { s43.Main with Place := v14_1.1 } }] : List Sign) fun A22_2 k22_2 => ?_)
        obtain ⟨y22_3, hy22_3, h⟩ := H.call h
        refine xx rfl (e_app 2 hy22_3 (s_own 4) fun A22_3 k22_3 => ?_)
        refine p 1 ?_
        refine rend ?_
        refine c_seq ?_
        refine r_start ?_
        refine p 1 ?_
        obtain ⟨v23_1, hv23_1, h⟩ := H.call h
        refine xx rfl (e_cq (cs' := [.slice A0 (List.length a0) k0, .int .i64 v23_1.2.1, .int .u64 v23_1.2.2]) (v := .bool v23_1.1) 0 [.pointer (some ⟨g0, 0, none⟩), .int .i64 3] func78 (fun W S => C.s_l1Cur_one W hv23_1 (S.bx 0) ((s_argN h0 q0).out W S) q0) ?_)
        refine rend ?_
        refine c_or v23_1.1 (fun q66 => ?_) (fun q66 => ?_)
        · replace h := H.t q66 h
          refine r_start ?_
          refine xq rfl (y_load (.agg (eSign ({ s43 with Main := { s43.Main with Place := v14_1.1 } })).toArray) 3 g7_1 0) ?_
          refine xx rfl (x_sto 1 g1_2 0 (eSign ({ s43 with Main := { s43.Main with Place := v14_1.1 } })) ?_)
          refine rend ?_
          refine c_inb ?_
          replace h := H.inl h
          exact h (v23_1.2.1, v23_1.2.2, { s43 with Main := { s43.Main with Place := v14_1.1 } }, y22_3, A22_3, k22_3) _ _ rfl (by kernel_rfl) (by kernel_rfl)
        replace h := H.f q66 h
        refine c_skip ?_
        refine c_inb ?_
        replace h := H.inl h
        exact h (v23_1.2.1, v23_1.2.2, s43, y22_3, A22_3, k22_3) _ _ rfl (by kernel_rfl) (by kernel_rfl)
      replace h := H.f q63 h
      refine c_seq ?_
      refine r_start ?_
      refine p 2 ?_
      refine rend ?_
      refine frg (fun u => (.pointer (some ⟨g0, 0, none⟩) :: (jk u 1 2 (.pointer (some ⟨g1_2, 0, none⟩) :: .slice A45 (List.length l44) k46 :: .int .i64 v3_1.1 :: .pointer (some ⟨g7_1, 0, none⟩) :: (jk u 7 15 (.int .i64 v8_1.1 :: (jk u 23 18 (.bool (v8_1.1 == 3) :: (jk u 42 39 []))))))))) (by kernel_rfl) fun u => ?_
      refine keep 4 (its' := [box g0 94 [.slice A0 (List.length a0) k0, .int .i64 v8_1.2.1, .int .u64 v8_1.2.2], box g1_2 38 (eSign s43), rowT nSign w.heap.size 38 (.slice A45 (List.length l44) k46) l44, box g7_1 38 (eSign s43)]) (by kernel_rfl) ?_
      refine c_or (v8_1.1 == 3) (fun q67 => ?_) (fun q67 => ?_)
      · replace h := H.t q67 h
        refine r_start ?_
        refine p 1 ?_
        obtain ⟨v16_1, hv16_1, h⟩ := H.call h
        refine xx rfl (e_cq (cs' := [.slice A0 (List.length a0) k0, .int .i64 v16_1.2.1, .int .u64 v16_1.2.2]) (v := .agg (eMove v16_1.1).toArray) 0 [.pointer (some ⟨g0, 0, none⟩)] func192 (fun W S => C.s_l1Cur_move W hv16_1 (S.bx 0) ((s_argN h0 q0).out W S) q0) ?_)
        refine p 2 ?_
        refine xx rfl (x_sto 3 g7_1 11 (eSign ({ s43 with Main := { s43.Main with Move := v16_1.1 } })) ?_)
        refine rend ?_
        refine c_inb ?_
        refine c_seq ?_
        refine c_seq ?_
        refine r_start ?_
        refine xq rfl (y_load (.agg (eSign ({ s43 with Main := { s43.Main with Move := v16_1.1 } })).toArray) 3 g7_1 0) ?_
        obtain ⟨v20_1, hv20_1, h⟩ := H.call h
        refine xq rfl (y_call [.agg (eSign ({ s43 with Main := { s43.Main with Move := v16_1.1 } })).toArray] (.bool v20_1) func75 (fun W S => C.s_siGood W hv20_1)) ?_
        refine p 1 ?_
        refine rend ?_
        refine c_or (!v20_1) (fun q68 => ?_) (fun q68 => ?_)
        · replace h := H.t q68 h
          refine r_start ?_
          refine p 1 ?_
          obtain ⟨v21_1, hv21_1, h⟩ := H.call h
          refine xx rfl (e_cq (cs' := [.slice A0 (List.length a0) k0, .int .i64 v21_1.2.1, .int .u64 v21_1.2.2]) (v := .agg (eSign v21_1.1).toArray) 0 [.pointer (some ⟨g0, 0, none⟩)] func138 (fun W S => C.s_l1Cur_sign W hv21_1 (S.bx 0) ((s_argN h0 q0).out W S) q0) ?_)
          refine xx rfl (x_sto 3 g7_1 0 (eSign v21_1.1) ?_)
          refine rend ?_
          refine c_seq ?_
          refine r_start ?_
          refine p 1 ?_
          refine xq rfl (y_load (.agg (eSign v21_1.1).toArray) 3 g7_1 0) ?_
          refine xx rfl (e_lit (e := nSign) (el := 38) [.agg (eSign v21_1.1).toArray] ([v21_1.1] : List Sign) fun A22_2 k22_2 => ?_)
          obtain ⟨y22_3, hy22_3, h⟩ := H.call h
          refine xx rfl (e_app 2 hy22_3 (s_own 4) fun A22_3 k22_3 => ?_)
          refine p 1 ?_
          refine rend ?_
          refine c_seq ?_
          refine r_start ?_
          refine p 1 ?_
          obtain ⟨v23_1, hv23_1, h⟩ := H.call h
          refine xx rfl (e_cq (cs' := [.slice A0 (List.length a0) k0, .int .i64 v23_1.2.1, .int .u64 v23_1.2.2]) (v := .bool v23_1.1) 0 [.pointer (some ⟨g0, 0, none⟩), .int .i64 3] func78 (fun W S => C.s_l1Cur_one W hv23_1 (S.bx 0) ((s_argN h0 q0).out W S) q0) ?_)
          refine rend ?_
          refine c_or v23_1.1 (fun q69 => ?_) (fun q69 => ?_)
          · replace h := H.t q69 h
            refine r_start ?_
            refine xq rfl (y_load (.agg (eSign v21_1.1).toArray) 3 g7_1 0) ?_
            refine xx rfl (x_sto 1 g1_2 0 (eSign v21_1.1) ?_)
            refine rend ?_
            refine c_inb ?_
            replace h := H.inl h
            exact h (v23_1.2.1, v23_1.2.2, v21_1.1, y22_3, A22_3, k22_3) _ _ rfl (by kernel_rfl) (by kernel_rfl)
          replace h := H.f q69 h
          refine c_skip ?_
          refine c_inb ?_
          replace h := H.inl h
          exact h (v23_1.2.1, v23_1.2.2, s43, y22_3, A22_3, k22_3) _ _ rfl (by kernel_rfl) (by kernel_rfl)
        replace h := H.f q68 h
        refine c_skip ?_
        refine c_seq ?_
        refine r_start ?_
        refine p 1 ?_
        refine xq rfl (y_load (.agg (eSign ({ s43 with Main := { s43.Main with Move := v16_1.1 } })).toArray) 3 g7_1 0) ?_
        refine xx rfl (e_lit (e := nSign) (el := 38) [.agg (eSign ({ s43 with Main := { s43.Main with Move := v16_1.1 } })).toArray] ([{ s43 with Main := { s43.Main with Move := v16_1.1 } }] : List Sign) fun A22_2 k22_2 => ?_)
        obtain ⟨y22_3, hy22_3, h⟩ := H.call h
        refine xx rfl (e_app 2 hy22_3 (s_own 4) fun A22_3 k22_3 => ?_)
        refine p 1 ?_
        refine rend ?_
        refine c_seq ?_
        refine r_start ?_
        refine p 1 ?_
        obtain ⟨v23_1, hv23_1, h⟩ := H.call h
        refine xx rfl (e_cq (cs' := [.slice A0 (List.length a0) k0, .int .i64 v23_1.2.1, .int .u64 v23_1.2.2]) (v := .bool v23_1.1) 0 [.pointer (some ⟨g0, 0, none⟩), .int .i64 3] func78 (fun W S => C.s_l1Cur_one W hv23_1 (S.bx 0) ((s_argN h0 q0).out W S) q0) ?_)
        refine rend ?_
        refine c_or v23_1.1 (fun q70 => ?_) (fun q70 => ?_)
        · replace h := H.t q70 h
          refine r_start ?_
          refine xq rfl (y_load (.agg (eSign ({ s43 with Main := { s43.Main with Move := v16_1.1 } })).toArray) 3 g7_1 0) ?_
          refine xx rfl (x_sto 1 g1_2 0 (eSign ({ s43 with Main := { s43.Main with Move := v16_1.1 } })) ?_)
          refine rend ?_
          refine c_inb ?_
          replace h := H.inl h
          exact h (v23_1.2.1, v23_1.2.2, { s43 with Main := { s43.Main with Move := v16_1.1 } }, y22_3, A22_3, k22_3) _ _ rfl (by kernel_rfl) (by kernel_rfl)
        replace h := H.f q70 h
        refine c_skip ?_
        refine c_inb ?_
        replace h := H.inl h
        exact h (v23_1.2.1, v23_1.2.2, s43, y22_3, A22_3, k22_3) _ _ rfl (by kernel_rfl) (by kernel_rfl)
      replace h := H.f q67 h
      refine c_seq ?_
      refine r_start ?_
      refine p 2 ?_
      refine rend ?_
      refine c_or (v8_1.1 == 4) (fun q71 => ?_) (fun q71 => ?_)
      · replace h := H.t q71 h
        refine c_seq ?_
        refine r_start ?_
        refine p 1 ?_
        refine xx rfl (x_sto 3 g7_1 13 (eSign ({ s43 with Two := true })) ?_)
        refine rend ?_
        refine r_start ?_
        refine p 2 ?_
        refine xq rfl (y_load (.agg (eHand s43.Main).toArray) 3 g7_1 0) ?_
        obtain ⟨v19_3, hv19_3, h⟩ := H.call h
        refine xx rfl (e_cq (cs' := [.slice A0 (List.length a0) k0, .int .i64 v19_3.2.1, .int .u64 v19_3.2.2]) (v := .agg (eHand v19_3.1).toArray) 0 [.pointer (some ⟨g0, 0, none⟩), .agg (eHand s43.Main).toArray] func188 (fun W S => C.s_l1Cur_otherFor W hv19_3 (S.bx 0) ((s_argN h0 q0).out W S) q0) ?_)
        refine p 1 ?_
        refine xx rfl (x_sto 3 g7_1 14 (eSign (⟨s43.Main, true, v19_3.1⟩ : Sign)) ?_)
        refine rend ?_
        refine c_inb ?_
        refine c_seq ?_
        refine c_seq ?_
        refine r_start ?_
        refine xq rfl (y_load (.agg (eSign (⟨s43.Main, true, v19_3.1⟩ : Sign)).toArray) 3 g7_1 0) ?_
        obtain ⟨v20_1, hv20_1, h⟩ := H.call h
        refine xq rfl (y_call [.agg (eSign (⟨s43.Main, true, v19_3.1⟩ : Sign)).toArray] (.bool v20_1) func75 (fun W S => C.s_siGood W hv20_1)) ?_
        refine p 1 ?_
        refine rend ?_
        refine c_or (!v20_1) (fun q72 => ?_) (fun q72 => ?_)
        · replace h := H.t q72 h
          refine r_start ?_
          refine p 1 ?_
          obtain ⟨v21_1, hv21_1, h⟩ := H.call h
          refine xx rfl (e_cq (cs' := [.slice A0 (List.length a0) k0, .int .i64 v21_1.2.1, .int .u64 v21_1.2.2]) (v := .agg (eSign v21_1.1).toArray) 0 [.pointer (some ⟨g0, 0, none⟩)] func138 (fun W S => C.s_l1Cur_sign W hv21_1 (S.bx 0) ((s_argN h0 q0).out W S) q0) ?_)
          refine xx rfl (x_sto 3 g7_1 0 (eSign v21_1.1) ?_)
          refine rend ?_
          refine c_seq ?_
          refine r_start ?_
          refine p 1 ?_
          refine xq rfl (y_load (.agg (eSign v21_1.1).toArray) 3 g7_1 0) ?_
          refine xx rfl (e_lit (e := nSign) (el := 38) [.agg (eSign v21_1.1).toArray] ([v21_1.1] : List Sign) fun A22_2 k22_2 => ?_)
          obtain ⟨y22_3, hy22_3, h⟩ := H.call h
          refine xx rfl (e_app 2 hy22_3 (s_own 4) fun A22_3 k22_3 => ?_)
          refine p 1 ?_
          refine rend ?_
          refine c_seq ?_
          refine r_start ?_
          refine p 1 ?_
          obtain ⟨v23_1, hv23_1, h⟩ := H.call h
          refine xx rfl (e_cq (cs' := [.slice A0 (List.length a0) k0, .int .i64 v23_1.2.1, .int .u64 v23_1.2.2]) (v := .bool v23_1.1) 0 [.pointer (some ⟨g0, 0, none⟩), .int .i64 3] func78 (fun W S => C.s_l1Cur_one W hv23_1 (S.bx 0) ((s_argN h0 q0).out W S) q0) ?_)
          refine rend ?_
          refine c_or v23_1.1 (fun q73 => ?_) (fun q73 => ?_)
          · replace h := H.t q73 h
            refine r_start ?_
            refine xq rfl (y_load (.agg (eSign v21_1.1).toArray) 3 g7_1 0) ?_
            refine xx rfl (x_sto 1 g1_2 0 (eSign v21_1.1) ?_)
            refine rend ?_
            refine c_inb ?_
            replace h := H.inl h
            exact h (v23_1.2.1, v23_1.2.2, v21_1.1, y22_3, A22_3, k22_3) _ _ rfl (by kernel_rfl) (by kernel_rfl)
          replace h := H.f q73 h
          refine c_skip ?_
          refine c_inb ?_
          replace h := H.inl h
          exact h (v23_1.2.1, v23_1.2.2, s43, y22_3, A22_3, k22_3) _ _ rfl (by kernel_rfl) (by kernel_rfl)
        replace h := H.f q72 h
        refine c_skip ?_
        refine c_seq ?_
        refine r_start ?_
        refine p 1 ?_
        refine xq rfl (y_load (.agg (eSign (⟨s43.Main, true, v19_3.1⟩ : Sign)).toArray) 3 g7_1 0) ?_
        refine xx rfl (e_lit (e := nSign) (el := 38) [.agg (eSign (⟨s43.Main, true, v19_3.1⟩ : Sign)).toArray] ([(⟨s43.Main, true, v19_3.1⟩ : Sign)] : List Sign) fun A22_2 k22_2 => ?_)
        obtain ⟨y22_3, hy22_3, h⟩ := H.call h
        refine xx rfl (e_app 2 hy22_3 (s_own 4) fun A22_3 k22_3 => ?_)
        refine p 1 ?_
        refine rend ?_
        refine c_seq ?_
        refine r_start ?_
        refine p 1 ?_
        obtain ⟨v23_1, hv23_1, h⟩ := H.call h
        refine xx rfl (e_cq (cs' := [.slice A0 (List.length a0) k0, .int .i64 v23_1.2.1, .int .u64 v23_1.2.2]) (v := .bool v23_1.1) 0 [.pointer (some ⟨g0, 0, none⟩), .int .i64 3] func78 (fun W S => C.s_l1Cur_one W hv23_1 (S.bx 0) ((s_argN h0 q0).out W S) q0) ?_)
        refine rend ?_
        refine c_or v23_1.1 (fun q74 => ?_) (fun q74 => ?_)
        · replace h := H.t q74 h
          refine r_start ?_
          refine xq rfl (y_load (.agg (eSign (⟨s43.Main, true, v19_3.1⟩ : Sign)).toArray) 3 g7_1 0) ?_
          refine xx rfl (x_sto 1 g1_2 0 (eSign (⟨s43.Main, true, v19_3.1⟩ : Sign)) ?_)
          refine rend ?_
          refine c_inb ?_
          replace h := H.inl h
          exact h (v23_1.2.1, v23_1.2.2, (⟨s43.Main, true, v19_3.1⟩ : Sign), y22_3, A22_3, k22_3) _ _ rfl (by kernel_rfl) (by kernel_rfl)
        replace h := H.f q74 h
        refine c_skip ?_
        refine c_inb ?_
        replace h := H.inl h
        exact h (v23_1.2.1, v23_1.2.2, s43, y22_3, A22_3, k22_3) _ _ rfl (by kernel_rfl) (by kernel_rfl)
      replace h := H.f q71 h
      refine c_skip ?_
      refine c_inb ?_
      refine c_seq ?_
      refine c_seq ?_
      refine r_start ?_
      refine xq rfl (y_load (.agg (eSign s43).toArray) 3 g7_1 0) ?_
      obtain ⟨v20_1, hv20_1, h⟩ := H.call h
      refine xq rfl (y_call [.agg (eSign s43).toArray] (.bool v20_1) func75 (fun W S => C.s_siGood W hv20_1)) ?_
      refine p 1 ?_
      refine rend ?_
      refine c_or (!v20_1) (fun q75 => ?_) (fun q75 => ?_)
      · replace h := H.t q75 h
        refine r_start ?_
        refine p 1 ?_
        obtain ⟨v21_1, hv21_1, h⟩ := H.call h
        refine xx rfl (e_cq (cs' := [.slice A0 (List.length a0) k0, .int .i64 v21_1.2.1, .int .u64 v21_1.2.2]) (v := .agg (eSign v21_1.1).toArray) 0 [.pointer (some ⟨g0, 0, none⟩)] func138 (fun W S => C.s_l1Cur_sign W hv21_1 (S.bx 0) ((s_argN h0 q0).out W S) q0) ?_)
        refine xx rfl (x_sto 3 g7_1 0 (eSign v21_1.1) ?_)
        refine rend ?_
        refine c_seq ?_
        refine r_start ?_
        refine p 1 ?_
        refine xq rfl (y_load (.agg (eSign v21_1.1).toArray) 3 g7_1 0) ?_
        refine xx rfl (e_lit (e := nSign) (el := 38) [.agg (eSign v21_1.1).toArray] ([v21_1.1] : List Sign) fun A22_2 k22_2 => ?_)
        obtain ⟨y22_3, hy22_3, h⟩ := H.call h
        refine xx rfl (e_app 2 hy22_3 (s_own 4) fun A22_3 k22_3 => ?_)
        refine p 1 ?_
        refine rend ?_
        refine c_seq ?_
        refine r_start ?_
        refine p 1 ?_
        obtain ⟨v23_1, hv23_1, h⟩ := H.call h
        refine xx rfl (e_cq (cs' := [.slice A0 (List.length a0) k0, .int .i64 v23_1.2.1, .int .u64 v23_1.2.2]) (v := .bool v23_1.1) 0 [.pointer (some ⟨g0, 0, none⟩), .int .i64 3] func78 (fun W S => C.s_l1Cur_one W hv23_1 (S.bx 0) ((s_argN h0 q0).out W S) q0) ?_)
        refine rend ?_
        refine c_or v23_1.1 (fun q76 => ?_) (fun q76 => ?_)
        · replace h := H.t q76 h
          refine r_start ?_
          refine xq rfl (y_load (.agg (eSign v21_1.1).toArray) 3 g7_1 0) ?_
          refine xx rfl (x_sto 1 g1_2 0 (eSign v21_1.1) ?_)
          refine rend ?_
          refine c_inb ?_
          replace h := H.inl h
          exact h (v23_1.2.1, v23_1.2.2, v21_1.1, y22_3, A22_3, k22_3) _ _ rfl (by kernel_rfl) (by kernel_rfl)
        replace h := H.f q76 h
        refine c_skip ?_
        refine c_inb ?_
        replace h := H.inl h
        exact h (v23_1.2.1, v23_1.2.2, s43, y22_3, A22_3, k22_3) _ _ rfl (by kernel_rfl) (by kernel_rfl)
      replace h := H.f q75 h
      refine c_skip ?_
      refine c_seq ?_
      refine r_start ?_
      refine p 1 ?_
      refine xq rfl (y_load (.agg (eSign s43).toArray) 3 g7_1 0) ?_
      refine xx rfl (e_lit (e := nSign) (el := 38) [.agg (eSign s43).toArray] ([s43] : List Sign) fun A22_2 k22_2 => ?_)
      obtain ⟨y22_3, hy22_3, h⟩ := H.call h
      refine xx rfl (e_app 2 hy22_3 (s_own 4) fun A22_3 k22_3 => ?_)
      refine p 1 ?_
      refine rend ?_
      refine c_seq ?_
      refine r_start ?_
      refine p 1 ?_
      obtain ⟨v23_1, hv23_1, h⟩ := H.call h
      refine xx rfl (e_cq (cs' := [.slice A0 (List.length a0) k0, .int .i64 v23_1.2.1, .int .u64 v23_1.2.2]) (v := .bool v23_1.1) 0 [.pointer (some ⟨g0, 0, none⟩), .int .i64 3] func78 (fun W S => C.s_l1Cur_one W hv23_1 (S.bx 0) ((s_argN h0 q0).out W S) q0) ?_)
      refine rend ?_
      refine c_or v23_1.1 (fun q77 => ?_) (fun q77 => ?_)
      · replace h := H.t q77 h
        refine r_start ?_
        refine xq rfl (y_load (.agg (eSign s43).toArray) 3 g7_1 0) ?_
        refine xx rfl (x_sto 1 g1_2 0 (eSign s43) ?_)
        refine rend ?_
        refine c_inb ?_
        replace h := H.inl h
        exact h (v23_1.2.1, v23_1.2.2, s43, y22_3, A22_3, k22_3) _ _ rfl (by kernel_rfl) (by kernel_rfl)
      replace h := H.f q77 h
      refine c_skip ?_
      refine c_inb ?_
      replace h := H.inl h
      exact h (v23_1.2.1, v23_1.2.2, s43, y22_3, A22_3, k22_3) _ _ rfl (by kernel_rfl) (by kernel_rfl)
    replace h := H.f q54 h
    refine cx ?_
    replace h := H.inr h
    exact hj53 (n41, n42, s43, l44, A45, k46) _ _ h (by kernel_rfl) (by kernel_rfl)
  intro x u h
  obtain ⟨n47, n48, s49, l50, A51, k52⟩ := x
  refine c_seq ?_
  refine c_seq ?_
  refine r_start ?_
  refine p 3 ?_
  refine br (decide (v3_1.1 > 0)) (fun q78 => ?_) (fun q78 => ?_)
  · replace h := H.t q78 h
    refine o_set 69 (congrArg Value.bool q78) ?_
    refine p 1 ?_
    obtain ⟨v25_4, hv25_4, h⟩ := H.call h
    refine xx rfl (e_cq (cs' := [.slice A0 (List.length a0) k0, .int .i64 v25_4.2.1, .int .u64 v25_4.2.2]) (v := .bool v25_4.1) 0 [.pointer (some ⟨g0, 0, none⟩), .int .i64 24] func78 (fun W S => C.s_l1Cur_one W hv25_4 (S.bx 0) ((s_argN h0 q0).out W S) q0) ?_)
    refine p 1 ?_
    refine rend ?_
    refine c_or v25_4.1 (fun q79 => ?_) (fun q79 => ?_)
    · replace h := H.t q79 h
      refine r_start ?_
      refine p 3 ?_
      obtain ⟨v26_3, hv26_3, h⟩ := H.call h
      refine xx rfl (e_cq (cs' := [.slice A0 (List.length a0) k0, .int .i64 v26_3.2.1, .int .u64 v26_3.2.2]) (v := .int .i64 v26_3.1) 0 [.pointer (some ⟨g0, 0, none⟩), .int .i64 v3_1.1] func79 (fun W S => C.s_l1Cur_pick W hv26_3 (S.bx 0) ((s_argN h0 q0).out W S) q0) ?_)
      refine p 1 ?_
      obtain ⟨v26_5, hv26_5, h⟩ := H.call h
      refine xx rfl (e_cq (cs' := [.slice A0 (List.length a0) k0, .int .i64 v26_5.2.1, .int .u64 v26_5.2.2]) (v := .agg (eSign v26_5.1).toArray) 0 [.pointer (some ⟨g0, 0, none⟩)] func73 (fun W S => C.s_l1Cur_anySign W hv26_5 (S.bx 0) ((s_argN h0 q0).out W S) q0) ?_)
      obtain ⟨y26_6, hy26_6, h⟩ := H.call h
      refine xq rfl (y_idx (e := nSign) (el := 38) hy26_6 (s_own 2)) ?_
      refine xx rfl (e_stel (e := nSign) (b := v26_5.1) 2 0 (eSign v26_5.1) hy26_6 (by kernel_rfl) ?_)
      refine o_set 4 (sl_set (A := A51) (c := k52) (l := l50) (n := Int.toNat v26_3.1) (b := v26_5.1)) ?_
      refine rend ?_
      refine c_seq ?_
      refine r_start ?_
      refine p 2 ?_
      refine rend ?_
      replace h := H.done h
      subst h
      exact ret func142 rfl (vs := [.slice A51 (List.length (List.set l50 (Int.toNat v26_3.1) v26_5.1)) k52]) (.tmp (by kernel_rfl) .nil) rfl (fun W S => S.retQR (res := fun v => v) 2 (by decide))
    replace h := H.f q79 h
    refine c_skip ?_
    refine c_seq ?_
    refine r_start ?_
    refine p 2 ?_
    refine rend ?_
    replace h := H.done h
    subst h
    exact ret func142 rfl (vs := [.slice A51 (List.length l50) k52]) (.tmp (by kernel_rfl) .nil) rfl (fun W S => S.retQR (res := fun v => v) 2 (by decide))
  replace h := H.f q78 h
  refine o_set 69 (congrArg Value.bool q78) ?_
  refine p 3 ?_
  refine rend ?_
  refine c_f (by kernel_rfl) ?_
  refine c_skip ?_
  refine c_seq ?_
  refine r_start ?_
  refine p 2 ?_
  refine rend ?_
  replace h := H.done h
  subst h
  exact ret func142 rfl (vs := [.slice A51 (List.length l50) k52]) (.tmp (by kernel_rfl) .nil) rfl (fun W S => S.retQR (res := fun v => v) 2 (by decide))
theorem C.s_l1Cur_patternAnd {fu : Nat} {a0 : List Int} {A0 : Option Addr} {k0 g0 : Nat} {t0 s0 : Int} {r : (Pattern × (List Sign) × Int × Int)} (w : World) (h : X.s_l1Cur_patternAnd fu a0 t0 s0 = some r) (m0 : w.heap[g0]? = some (.cells ([.slice A0 (List.length a0) k0, .int .i64 t0, .int .u64 s0] : List Value).toArray 94 (0, 0))) (h0 : RdT (eI .u8) w (.slice A0 (List.length a0) k0) a0) (q0 : 0 < List.length a0 → ∀ k, (Value.slice A0 (List.length a0) k0).ownBlock = some k → ¬ k = g0) : Calls prog 123 #[.pointer (some ⟨g0, 0, none⟩)] w (RetQR nSign 38 g0 94 [.slice A0 (List.length a0) k0, .int .i64 r.2.2.1, .int .u64 r.2.2.2] w r.2.1 (fun v => .tuple #[.agg (ePattern r.1).toArray, v])) := by
  refine callsQ (args := [.pointer (some ⟨g0, 0, none⟩)]) m0 func123 rfl ?_
  replace h : H (X.s_l1Cur_patternAnd fu a0 t0 s0) (fun o => o = r) := H.mk h
  unfold X.s_l1Cur_patternAnd at h
  refine c_seq ?_
  refine r_start ?_
  refine xx rfl (x_new (ePattern zPattern) fun g0_0 => ?_)
  refine p 1 ?_
  refine rend ?_
  refine c_seq ?_
  refine r_start ?_
  refine p 1 ?_
  obtain ⟨v1_1, hv1_1, h⟩ := H.call h
  refine xx rfl (e_cqR (cs' := [.slice A0 (List.length a0) k0, .int .i64 v1_1.2.1, .int .u64 v1_1.2.2]) 0 [.pointer (some ⟨g0, 0, none⟩)] (fun v => v) func142 (fun W S => C.s_l1Cur_lexicon W hv1_1 (S.bx 0) ((s_argN h0 q0).out W S) q0) fun A1_1 k1_1 => ?_)
  refine p 1 ?_
  refine rend ?_
  refine c_seq ?_
  refine c_seq ?_
  refine r_start ?_
  refine p 3 ?_
  refine rend ?_
  refine c_or ((List.length v1_1.1 : Int) == 0) (fun q1 => ?_) (fun q1 => ?_)
  · replace h := H.t q1 h
    refine c_seq ?_
    refine r_start ?_
    refine p 2 ?_
    obtain ⟨v3_2, hv3_2, h⟩ := H.call h
    refine xx rfl (e_cq (cs' := [.slice A0 (List.length a0) k0, .int .i64 v3_2.2.1, .int .u64 v3_2.2.2]) (v := .agg (eSign v3_2.1).toArray) 0 [.pointer (some ⟨g0, 0, none⟩)] func138 (fun W S => C.s_l1Cur_sign W hv3_2 (S.bx 0) ((s_argN h0 q0).out W S) q0) ?_)
    obtain ⟨v3_3, hv3_3, h⟩ := H.call h
    refine xx rfl (e_cq (cs' := [.slice A0 (List.length a0) k0, .int .i64 v3_3.2.1, .int .u64 v3_3.2.2]) (v := .agg (ePattern v3_3.1).toArray) 0 [.pointer (some ⟨g0, 0, none⟩), .agg (eSign v3_2.1).toArray] func137 (fun W S => C.s_l1Cur_pattern W hv3_3 (S.bx 0) ((s_argN h0 q0).out W S) q0) ?_)
    refine p 1 ?_
    refine xx rfl (x_sto 1 g0_0 0 (ePattern v3_3.1) ?_)
    refine p 1 ?_
    refine rend ?_
    replace h := H.done h
    subst h
    exact ret func123 rfl (vs := [.agg (ePattern v3_3.1).toArray, .slice A1_1 (List.length v1_1.1) k1_1]) (.cell 1 g0_0 rfl (by kernel_rfl) (by kernel_rfl) (.tmp (by kernel_rfl) .nil)) rfl (fun W S => S.retQR (res := fun v => .tuple #[.agg (ePattern v3_3.1).toArray, v]) 2 (by decide))
  replace h := H.f q1 h
  refine c_skip ?_
  refine c_seq ?_
  refine r_start ?_
  refine p 5 ?_
  obtain ⟨v4_5, hv4_5, h⟩ := H.call h
  refine xx rfl (e_cq (cs' := [.slice A0 (List.length a0) k0, .int .i64 v4_5.2.1, .int .u64 v4_5.2.2]) (v := .int .i64 v4_5.1) 0 [.pointer (some ⟨g0, 0, none⟩), .int .i64 (List.length v1_1.1 : Int)] func79 (fun W S => C.s_l1Cur_pick W hv4_5 (S.bx 0) ((s_argN h0 q0).out W S) q0) ?_)
  obtain ⟨y4_6, hy4_6, h⟩ := H.call h
  refine xq rfl (y_idx (e := nSign) (el := 38) hy4_6 (s_own 2)) ?_
  refine xq rfl (y_el (e := nSign) 0 (.agg (eSign y4_6).toArray) hy4_6 (s_own 2)) ?_
  obtain ⟨v4_8, hv4_8, h⟩ := H.call h
  refine xx rfl (e_cq (cs' := [.slice A0 (List.length a0) k0, .int .i64 v4_8.2.1, .int .u64 v4_8.2.2]) (v := .agg (ePattern v4_8.1).toArray) 0 [.pointer (some ⟨g0, 0, none⟩), .agg (eSign y4_6).toArray] func137 (fun W S => C.s_l1Cur_pattern W hv4_8 (S.bx 0) ((s_argN h0 q0).out W S) q0) ?_)
  refine p 1 ?_
  refine xx rfl (x_sto 1 g0_0 0 (ePattern v4_8.1) ?_)
  refine p 1 ?_
  refine rend ?_
  replace h := H.done h
  subst h
  exact ret func123 rfl (vs := [.agg (ePattern v4_8.1).toArray, .slice A1_1 (List.length v1_1.1) k1_1]) (.cell 1 g0_0 rfl (by kernel_rfl) (by kernel_rfl) (.tmp (by kernel_rfl) .nil)) rfl (fun W S => S.retQR (res := fun v => .tuple #[.agg (ePattern v4_8.1).toArray, v]) 2 (by decide))
theorem C.s_DrawAnswersFor {fu : Nat} {a0 : (List Int)} {A0 : Option Addr} {k0 : Nat} {r : (Pattern × (List Sign))} (w : World) (h : X.s_DrawAnswersFor fu a0 = some r) (h0 : RdT (eI .u8) w (.slice A0 (List.length a0) k0) a0) : Calls prog 52 #[.slice A0 (List.length a0) k0] w (RetR nSign 38 w r.2 (fun v => .tuple #[.agg (ePattern r.1).toArray, v])) := by
  refine calls (M := no) (args := [.slice A0 (List.length a0) k0]) func52 rfl ?_
  replace h : H (X.s_DrawAnswersFor fu a0) (fun o => o = r) := H.mk h
  unfold X.s_DrawAnswersFor at h
  refine c_seq ?_
  refine r_start ?_
  refine xx rfl (x_new (ePattern zPattern) fun g0_0 => ?_)
  refine p 1 ?_
  refine rend ?_
  refine c_seq ?_
  refine r_start ?_
  refine p 2 ?_
  refine xx rfl (x_box [.slice A0 (List.length a0) k0, .int .i64 0, .int .u64 0] fun g1_2 => ?_)
  refine p 1 ?_
  refine rend ?_
  refine c_seq ?_
  refine r_start ?_
  refine p 1 ?_
  obtain ⟨v2_1, hv2_1, h⟩ := H.call h
  refine xx rfl (e_cqR (cs' := [.slice A0 (List.length a0) k0, .int .i64 v2_1.2.2.1, .int .u64 v2_1.2.2.2]) 1 [.pointer (some ⟨g1_2, 0, none⟩)] (fun v => .tuple #[.agg (ePattern v2_1.1).toArray, v]) func123 (fun W S => C.s_l1Cur_patternAnd W hv2_1 (S.bx 1) ((s_arg h0).out W S) (ap_arg h0 S 1)) fun A2_1 k2_1 => ?_)
  refine p 2 ?_
  refine xx rfl (x_sto 0 g0_0 0 (ePattern v2_1.1) ?_)
  refine p 1 ?_
  refine rend ?_
  replace h := H.done h
  subst h
  exact ret func52 rfl (vs := [.agg (ePattern v2_1.1).toArray, .slice A2_1 (List.length v2_1.2.1) k2_1]) (.cell 0 g0_0 rfl (by kernel_rfl) (by kernel_rfl) (.tmp (by kernel_rfl) .nil)) rfl (fun W S => ⟨_, _, rfl, S.row 2, S.below⟩)
theorem C.i_IsPattern {a0 : Pattern} {r : Bool} (w : World) (h : X.i_IsPattern a0 = some r) : Calls prog 56 #[.agg (ePattern a0).toArray] w (Ret w (.bool r)) := by
  refine calls (M := no) (args := [.agg (ePattern a0).toArray]) func56 rfl ?_
  replace h : H (X.i_IsPattern a0) (fun o => o = r) := H.mk h
  unfold X.i_IsPattern at h
  refine c_seq ?_
  refine r_start ?_
  refine xx rfl (x_box (ePattern a0) fun g0_0 => ?_)
  refine p 1 ?_
  refine rend ?_
  refine c_seq ?_
  refine r_start ?_
  refine p 1 ?_
  refine xq rfl (y_load (.string (bs a0.Shape)) 0 g0_0 0) ?_
  refine p 3 ?_
  refine br ((List.length a0.Shape : Int) == 5) (fun q1 => ?_) (fun q1 => ?_)
  · replace h := H.t q1 h
    refine o_set 7 (congrArg Value.bool q1) ?_
    refine p 1 ?_
    refine xq rfl (y_load (.string (bs a0.Shape)) 0 g0_0 0) ?_
    obtain ⟨v1_7, hv1_7, h⟩ := H.call h
    refine xq rfl (y_call [.string (bs a0.Shape), .string (bs ([48, 49, 50, 63] : Str))] (.bool v1_7) func127 (fun W S => C.i_hasOnly W hv1_7)) ?_
    refine p 2 ?_
    refine br v1_7 (fun q2 => ?_) (fun q2 => ?_)
    · replace h := H.t q2 h
      refine o_set 12 (congrArg Value.bool q2) ?_
      refine p 1 ?_
      refine xq rfl (y_load (.string (bs a0.Orient)) 0 g0_0 1) ?_
      refine p 4 ?_
      refine br ((List.length a0.Orient : Int) == 2) (fun q3 => ?_) (fun q3 => ?_)
      · replace h := H.t q3 h
        refine o_set 18 (congrArg Value.bool q3) ?_
        refine p 1 ?_
        refine xq rfl (y_load (.string (bs a0.Orient)) 0 g0_0 1) ?_
        obtain ⟨v1_18, hv1_18, h⟩ := H.call h
        refine xq rfl (y_call [.string (bs a0.Orient), .string (bs ([117, 100, 108, 114, 102, 98, 63] : Str))] (.bool v1_18) func127 (fun W S => C.i_hasOnly W hv1_18)) ?_
        refine p 2 ?_
        refine br v1_18 (fun q4 => ?_) (fun q4 => ?_)
        · replace h := H.t q4 h
          refine o_set 23 (congrArg Value.bool q4) ?_
          refine p 1 ?_
          refine xq rfl (y_load (.int .i64 a0.Region) 0 g0_0 2) ?_
          obtain ⟨v1_23, hv1_23, h⟩ := H.call h
          refine xq rfl (y_call [.int .i64 a0.Region, .int .i64 (-1), .int .i64 9] (.bool v1_23) func120 (fun W S => C.i_within W hv1_23)) ?_
          refine p 2 ?_
          refine br v1_23 (fun q5 => ?_) (fun q5 => ?_)
          · replace h := H.t q5 h
            refine o_set 28 (congrArg Value.bool q5) ?_
            refine p 1 ?_
            refine xq rfl (y_load (.string (bs a0.Steps)) 0 g0_0 3) ?_
            refine p 4 ?_
            refine br (decide ((List.length a0.Steps : Int) ≤ 20)) (fun q6 => ?_) (fun q6 => ?_)
            · replace h := H.t q6 h
              refine o_set 34 (congrArg Value.bool q6) ?_
              refine p 1 ?_
              refine xq rfl (y_load (.string (bs a0.Steps)) 0 g0_0 3) ?_
              obtain ⟨v1_34, hv1_34, h⟩ := H.call h
              refine xq rfl (y_call [.string (bs a0.Steps), .string (bs ([117, 100, 108, 114, 102, 98, 63, 42] : Str))] (.bool v1_34) func127 (fun W S => C.i_hasOnly W hv1_34)) ?_
              refine p 2 ?_
              refine br v1_34 (fun q7 => ?_) (fun q7 => ?_)
              · replace h := H.t q7 h
                refine o_set 39 (congrArg Value.bool q7) ?_
                refine p 1 ?_
                refine xq rfl (y_load (.int .i64 a0.Hands) 0 g0_0 4) ?_
                obtain ⟨v1_39, hv1_39, h⟩ := H.call h
                refine xq rfl (y_call [.int .i64 a0.Hands, .int .i64 0, .int .i64 2] (.bool v1_39) func120 (fun W S => C.i_within W hv1_39)) ?_
                refine p 2 ?_
                refine rend ?_
                replace h := H.done h
                subst h
                exact ret func56 rfl (vs := [.bool v1_39]) (.tmp (by kernel_rfl) .nil) rfl (fun W S => ⟨rfl, S.below⟩)
              replace h := H.f q7 h
              refine o_set 39 (congrArg Value.bool q7) ?_
              refine p 5 ?_
              refine rend ?_
              replace h := H.done h
              subst h
              exact ret func56 rfl (vs := [.bool false]) (.tmp (by kernel_rfl) .nil) rfl (fun W S => ⟨rfl, S.below⟩)
            replace h := H.f q6 h
            refine o_set 34 (congrArg Value.bool q6) ?_
            refine p 10 ?_
            refine rend ?_
            replace h := H.done h
            subst h
            exact ret func56 rfl (vs := [.bool false]) (.tmp (by kernel_rfl) .nil) rfl (fun W S => ⟨rfl, S.below⟩)
          replace h := H.f q5 h
          refine o_set 28 (congrArg Value.bool q5) ?_
          refine p 16 ?_
          refine rend ?_
          replace h := H.done h
          subst h
          exact ret func56 rfl (vs := [.bool false]) (.tmp (by kernel_rfl) .nil) rfl (fun W S => ⟨rfl, S.below⟩)
        replace h := H.f q4 h
        refine o_set 23 (congrArg Value.bool q4) ?_
        refine p 21 ?_
        refine rend ?_
        replace h := H.done h
        subst h
        exact ret func56 rfl (vs := [.bool false]) (.tmp (by kernel_rfl) .nil) rfl (fun W S => ⟨rfl, S.below⟩)
      replace h := H.f q3 h
      refine o_set 18 (congrArg Value.bool q3) ?_
      refine p 26 ?_
      refine rend ?_
      replace h := H.done h
      subst h
      exact ret func56 rfl (vs := [.bool false]) (.tmp (by kernel_rfl) .nil) rfl (fun W S => ⟨rfl, S.below⟩)
    replace h := H.f q2 h
    refine o_set 12 (congrArg Value.bool q2) ?_
    refine p 32 ?_
    refine rend ?_
    replace h := H.done h
    subst h
    exact ret func56 rfl (vs := [.bool false]) (.tmp (by kernel_rfl) .nil) rfl (fun W S => ⟨rfl, S.below⟩)
  replace h := H.f q1 h
  refine o_set 7 (congrArg Value.bool q1) ?_
  refine p 37 ?_
  refine rend ?_
  replace h := H.done h
  subst h
  exact ret func56 rfl (vs := [.bool false]) (.tmp (by kernel_rfl) .nil) rfl (fun W S => ⟨rfl, S.below⟩)
theorem C.i_moveOf {fu : Nat} {a0 : Str} {r : (Move × Bool)} (w : World) (h : X.i_moveOf fu a0 = some r) : Calls prog 266 #[.string (bs a0)] w (Ret w (.tuple #[.agg (eMove r.1).toArray, .bool r.2])) := by
  refine calls (M := no) (args := [.string (bs a0)]) func266 rfl ?_
  replace h : H (X.i_moveOf fu a0) (fun o => o = r) := H.mk h
  unfold X.i_moveOf at h
  refine c_seq ?_
  refine r_start ?_
  refine xx rfl (x_new (eMove zMove) fun g0_0 => ?_)
  refine p 1 ?_
  refine rend ?_
  refine c_seq ?_
  refine c_seq ?_
  refine r_start ?_
  refine p 2 ?_
  refine rend ?_
  refine c_or (seq a0 ([] : Str)) (fun q1 => ?_) (fun q1 => ?_)
  · replace h := H.t q1 h
    refine c_seq ?_
    refine r_start ?_
    refine p 1 ?_
    refine xx rfl (x_sto 0 g0_0 0 (eMove ({ zMove with Repeat := 1 })) ?_)
    refine p 1 ?_
    refine rend ?_
    replace h := H.done h
    subst h
    exact ret func266 rfl (vs := [.agg (eMove ({ zMove with Repeat := 1 })).toArray, .bool true]) (.cell 0 g0_0 rfl (by kernel_rfl) (by kernel_rfl) (.tmp (by kernel_rfl) .nil)) rfl (fun W S => ⟨rfl, S.below⟩)
  replace h := H.f q1 h
  refine c_skip ?_
  refine c_seq ?_
  refine c_seq ?_
  refine r_start ?_
  refine p 1 ?_
  refine rend ?_
  refine c_block ?_
  refine joinE (X := Unit) 0 (H.or h) (fun (x : Unit) => x) (fun _ => [box g0_0 34 (eMove zMove)]) (fun _ u => (jk u 0 2 (.pointer (some ⟨g0_0, 0, none⟩) :: (jk u 3 30 [])))) (fun h hj3 => ?_) ?_
  · skip
    refine loopR (X := Int) (fun (x : Int) => x) (fun n2 => [box g0_0 34 (eMove zMove)]) (fun n2 u => (.string (bs a0) :: (jk u 1 1 (.pointer (some ⟨g0_0, 0, none⟩) :: (jk u 3 1 (.int .i64 n2 :: (jk u 5 28 []))))))) 3 h (by kernel_rfl) (by kernel_rfl) ?_
    intro n2 u h
    refine c_seq ?_
    refine c_seq ?_
    refine r_start ?_
    refine p 2 ?_
    refine rend ?_
    refine c_or (decide (n2 ≥ 1)) (fun q4 => ?_) (fun q4 => ?_)
    · replace h := H.t q4 h
      refine c_skip ?_
      refine c_seq ?_
      refine c_block ?_
      refine c_seq ?_
      refine r_start ?_
      refine p 4 ?_
      obtain ⟨y6_4, hy6_4, h⟩ := H.call h
      refine xq rfl (y_div hy6_4) ?_
      obtain ⟨y6_5, hy6_5, h⟩ := H.call h
      refine xq rfl (y_cut hy6_5) ?_
      refine p 1 ?_
      refine rend ?_
      refine c_seq ?_
      refine r_start ?_
      refine p 4 ?_
      refine br (decide ((List.length y6_5 : Int) ≤ 6)) (fun q5 => ?_) (fun q5 => ?_)
      · replace h := H.t q5 h
        refine o_set 22 (congrArg Value.bool q5) ?_
        refine p 2 ?_
        obtain ⟨v7_6, hv7_6, h⟩ := H.call h
        refine xq rfl (y_call [.string (bs y6_5), .int .i64 n2] (.string (bs v7_6)) func197 (fun W S => C.strings_Repeat W hv7_6)) ?_
        refine p 3 ?_
        refine rend ?_
        refine c_or (seq v7_6 a0) (fun q6 => ?_) (fun q6 => ?_)
        · replace h := H.t q6 h
          refine c_seq ?_
          refine r_start ?_
          refine p 3 ?_
          refine xx rfl (x_sto 0 g0_0 0 (eMove (⟨y6_5, n2⟩ : Move)) ?_)
          refine p 1 ?_
          refine rend ?_
          replace h := H.inr h
          replace h := H.done h
          subst h
          exact ret func266 rfl (vs := [.agg (eMove (⟨y6_5, n2⟩ : Move)).toArray, .bool true]) (.cell 0 g0_0 rfl (by kernel_rfl) (by kernel_rfl) (.tmp (by kernel_rfl) .nil)) rfl (fun W S => ⟨rfl, S.below⟩)
        replace h := H.f q6 h
        refine c_skip ?_
        refine c_inb ?_
        refine r_start ?_
        refine p 3 ?_
        refine rend ?_
        replace h := H.inl h
        exact h (wr (n2 - 1)) _ _ rfl (by kernel_rfl) (by kernel_rfl)
      replace h := H.f q5 h
      refine o_set 22 (congrArg Value.bool q5) ?_
      refine p 6 ?_
      refine rend ?_
      refine c_f (by kernel_rfl) ?_
      refine c_skip ?_
      refine c_inb ?_
      refine r_start ?_
      refine p 3 ?_
      refine rend ?_
      replace h := H.inl h
      exact h (wr (n2 - 1)) _ _ rfl (by kernel_rfl) (by kernel_rfl)
    replace h := H.f q4 h
    refine cx ?_
    replace h := H.inr h
    exact hj3 () _ _ h (by kernel_rfl) (by kernel_rfl)
  intro x u h
  refine c_seq ?_
  refine r_start ?_
  refine p 1 ?_
  refine xx rfl (x_sto 0 g0_0 0 (eMove zMove) ?_)
  refine p 1 ?_
  refine rend ?_
  replace h := H.done h
  subst h
  exact ret func266 rfl (vs := [.agg (eMove zMove).toArray, .bool false]) (.cell 0 g0_0 rfl (by kernel_rfl) (by kernel_rfl) (.tmp (by kernel_rfl) .nil)) rfl (fun W S => ⟨rfl, S.below⟩)
theorem C.i_Move_normal {fu : Nat} {a0 : Move} {r : Move} (w : World) (h : X.i_Move_normal fu a0 = some r) : Calls prog 246 #[.agg (eMove a0).toArray] w (Ret w (.agg (eMove r).toArray)) := by
  refine calls (M := no) (args := [.agg (eMove a0).toArray]) func246 rfl ?_
  replace h : H (X.i_Move_normal fu a0) (fun o => o = r) := H.mk h
  unfold X.i_Move_normal at h
  refine c_seq ?_
  refine r_start ?_
  refine xx rfl (x_box (eMove a0) fun g0_0 => ?_)
  refine xx rfl (x_new (eMove zMove) fun g0_1 => ?_)
  refine rend ?_
  refine c_seq ?_
  refine r_start ?_
  refine xq rfl (y_load (.agg (eMove a0).toArray) 0 g0_0 0) ?_
  obtain ⟨v1_1, hv1_1, h⟩ := H.call h
  refine xq rfl (y_call [.agg (eMove a0).toArray] (.string (bs v1_1)) func161 (fun W S => C.i_Move_all W hv1_1)) ?_
  obtain ⟨v1_2, hv1_2, h⟩ := H.call h
  refine xq rfl (y_call [.string (bs v1_1)] (.tuple #[.agg (eMove v1_2.1).toArray, .bool v1_2.2]) func266 (fun W S => C.i_moveOf W hv1_2)) ?_
  refine p 3 ?_
  refine xx rfl (x_new (eMove zMove) fun g1_6 => ?_)
  refine xx rfl (x_sto 2 g1_6 0 (eMove v1_2.1) ?_)
  refine p 1 ?_
  refine rend ?_
  refine c_seq ?_
  refine r_start ?_
  refine xq rfl (y_load (.agg (eMove v1_2.1).toArray) 2 g1_6 0) ?_
  refine xx rfl (x_sto 1 g0_1 0 (eMove v1_2.1) ?_)
  refine rend ?_
  replace h := H.done h
  subst h
  exact ret func246 rfl (vs := [.agg (eMove v1_2.1).toArray]) (.cell 1 g0_1 rfl (by kernel_rfl) (by kernel_rfl) .nil) rfl (fun W S => ⟨rfl, S.below⟩)
theorem C.i_Hand_normal {fu : Nat} {a0 : Hand} {r : Hand} (w : World) (h : X.i_Hand_normal fu a0 = some r) : Calls prog 217 #[.agg (eHand a0).toArray] w (Ret w (.agg (eHand r).toArray)) := by
  refine calls (M := no) (args := [.agg (eHand a0).toArray]) func217 rfl ?_
  replace h : H (X.i_Hand_normal fu a0) (fun o => o = r) := H.mk h
  unfold X.i_Hand_normal at h
  refine c_seq ?_
  refine r_start ?_
  refine xx rfl (x_box (eHand a0) fun g0_0 => ?_)
  refine xx rfl (x_new (eHand zHand) fun g0_1 => ?_)
  refine rend ?_
  refine c_seq ?_
  refine r_start ?_
  refine p 1 ?_
  refine xq rfl (y_load (.agg (eMove a0.Move).toArray) 0 g0_0 11) ?_
  obtain ⟨v1_2, hv1_2, h⟩ := H.call h
  refine xq rfl (y_call [.agg (eMove a0.Move).toArray] (.agg (eMove v1_2).toArray) func246 (fun W S => C.i_Move_normal W hv1_2)) ?_
  refine p 1 ?_
  refine xx rfl (x_sto 0 g0_0 11 (eHand ({ a0 with Move := v1_2 })) ?_)
  refine rend ?_
  refine c_seq ?_
  refine r_start ?_
  refine xq rfl (y_load (.agg (eHand ({ a0 with Move := v1_2 })).toArray) 0 g0_0 0) ?_
  refine xx rfl (x_sto 1 g0_1 0 (eHand ({ a0 with Move := v1_2 })) ?_)
  refine rend ?_
  replace h := H.done h
  subst h
  exact ret func217 rfl (vs := [.agg (eHand ({ a0 with Move := v1_2 })).toArray]) (.cell 1 g0_1 rfl (by kernel_rfl) (by kernel_rfl) .nil) rfl (fun W S => ⟨rfl, S.below⟩)
theorem C.i_Orient_text {a0 : Orient} {r : Str} (w : World) (h : X.i_Orient_text a0 = some r) : Calls prog 182 #[.agg (eOrient a0).toArray] w (Ret w (.string (bs r))) := by
  refine calls (M := no) (args := [.agg (eOrient a0).toArray]) func182 rfl ?_
  replace h : H (X.i_Orient_text a0) (fun o => o = r) := H.mk h
  unfold X.i_Orient_text at h
  refine c_seq ?_
  refine r_start ?_
  refine xx rfl (x_box (eOrient a0) fun g0_0 => ?_)
  refine p 1 ?_
  refine rend ?_
  refine c_seq ?_
  refine as_start 14 14 ?_
  refine ap 0 1 ?_
  refine aq 1 rfl (y_load (.int .i64 a0.Palm) 0 g0_0 0) ?_
  refine ap 2 1 ?_
  refine aq 3 rfl (y_load (.int .i64 a0.Palm) 0 g0_0 0) ?_
  refine ap 4 1 ?_
  obtain ⟨y1_5, hy1_5, h⟩ := H.call h
  refine aq 5 rfl (y_cut hy1_5) ?_
  refine ap 6 1 ?_
  refine aq 7 rfl (y_load (.int .i64 a0.Fingers) 0 g0_0 1) ?_
  refine ap 8 1 ?_
  refine aq 9 rfl (y_load (.int .i64 a0.Fingers) 0 g0_0 1) ?_
  refine ap 10 1 ?_
  obtain ⟨y1_11, hy1_11, h⟩ := H.call h
  refine aq 11 rfl (y_cut hy1_11) ?_
  obtain ⟨y1_12, hy1_12, h⟩ := H.call h
  refine aq 12 rfl (y_cat hy1_12) ?_
  refine ap 13 1 ?_
  refine a_done ?_
  replace h := H.done h
  subst h
  exact ret func182 rfl (vs := [.string (bs y1_12)]) (.tmp (by kernel_rfl) .nil) rfl (fun W S => ⟨rfl, S.below⟩)
theorem C.strings_Join {a0 : List Str} {A0 : Option Addr} {k0 : Nat} {a1 r : Str} (w : World) (h : X.strings_Join a0 a1 = some r) (h0 : RdT eS w (.slice A0 (List.length a0) k0) a0) : Calls prog 247 #[.slice A0 (List.length a0) k0, .string (bs a1)] w (Ret w (.string (bs r))) := by
  unfold X.strings_Join at h
  split at h
  · rename_i hc
    obtain ⟨h1, h2⟩ := hc
    obtain rfl := Option.some.inj h
    by_cases hn : a0.length = 0
    · have ha : a0 = [] := List.eq_nil_of_length_eq_zero hn
      subst ha
      refine (Tryz.strings_Join_none A0 k0 (bs a1) w).mono ?_
      rintro e w' ⟨rfl, rfl⟩
      exact ⟨rfl, Below.refl _ _⟩
    · obtain ⟨A2, c2, e1, _, _, hcp, h4⟩ := h0
      injection e1 with e1 _ e3
      subst e1
      subst e3
      obtain ⟨b, off, rfl, hb, hcl⟩ := h4 (by omega)
      have hm : (a0.map bs).map (fun x => x.data.toList) = a0 := by
        rw [List.map_map]
        exact List.map_id _
      have := Tryz.strings_Join b off k0 (a0.map bs) (bs a1) w (fun j x hj => by
        rw [List.getElem?_map] at hj
        obtain ⟨y, hy, rfl⟩ := Option.map_eq_some_iff.1 hj
        have := hcl _ _ (eS.flat_get (j := 0) hy rfl)
        simpa [eS] using this) hb (by simpa using h2) (by simpa using hcp) (by rw [hm]; exact h1)
      rw [hm, List.length_map] at this
      exact this
  · cases h
theorem C.i_Place_text {a0 : Place} {r : Str} (w : World) (h : X.i_Place_text a0 = some r) : Calls prog 248 #[.agg (ePlace a0).toArray] w (Ret w (.string (bs r))) := by
  refine calls (M := no) (args := [.agg (ePlace a0).toArray]) func248 rfl ?_
  replace h : H (X.i_Place_text a0) (fun o => o = r) := H.mk h
  unfold X.i_Place_text at h
  refine c_seq ?_
  refine r_start ?_
  refine xx rfl (x_box (ePlace a0) fun g0_0 => ?_)
  refine p 1 ?_
  refine rend ?_
  refine c_seq ?_
  refine r_start ?_
  refine p 1 ?_
  refine xx rfl (x_new (Enc.flat eS ([([] : Str), ([] : Str), ([] : Str), ([] : Str), ([] : Str), ([] : Str), ([] : Str), ([] : Str), ([] : Str), ([] : Str)] : List Str)) fun g1_1 => ?_)
  refine xx rfl (x_sto 1 g1_1 0 (Enc.flat eS ([([115, 112, 97, 99, 101] : Str), ([104, 101, 97, 100] : Str), ([101, 121, 101] : Str), ([99, 104, 101, 101, 107] : Str), ([109, 111, 117, 116, 104] : Str), ([99, 104, 105, 110] : Str), ([110, 101, 99, 107] : Str), ([99, 104, 101, 115, 116] : Str), ([119, 97, 105, 115, 116] : Str), ([104, 105, 112] : Str)] : List Str)) ?_)
  refine rend ?_
  refine c_seq ?_
  refine as_start 11 11 ?_
  refine ap 0 1 ?_
  refine aq 1 rfl (y_load (.int .i64 a0.Region) 0 g0_0 0) ?_
  obtain ⟨y2_2, hy2_2, h⟩ := H.call h
  refine aq 2 rfl (y_arp (e := eS) (el := 9) (g := g1_1) hy2_2) ?_
  refine aq 3 rfl (y_arl (e := eS) 1 (.string (bs y2_2)) hy2_2) ?_
  refine ap 4 2 ?_
  refine aq 6 rfl (y_load (.int .i64 a0.Side) 0 g0_0 1) ?_
  refine ap 7 1 ?_
  obtain ⟨y2_8, hy2_8, h⟩ := H.call h
  refine aq 8 rfl (y_arr (e := eS) (el := 9) (.string (bs y2_8)) hy2_8) ?_
  obtain ⟨y2_9, hy2_9, h⟩ := H.call h
  refine aq 9 rfl (y_cat hy2_9) ?_
  refine ap 10 1 ?_
  refine a_done ?_
  refine c_seq ?_
  refine c_seq ?_
  refine r_start ?_
  refine p 1 ?_
  refine xq rfl (y_load (.bool a0.Contact) 0 g0_0 2) ?_
  refine rend ?_
  refine c_or a0.Contact (fun q1 => ?_) (fun q1 => ?_)
  · replace h := H.t q1 h
    refine r_start ?_
    refine p 1 ?_
    obtain ⟨y4_1, hy4_1, h⟩ := H.call h
    refine xq rfl (y_cat hy4_1) ?_
    refine p 1 ?_
    refine rend ?_
    refine c_seq ?_
    refine r_start ?_
    refine p 2 ?_
    refine rend ?_
    replace h := H.done h
    subst h
    exact ret func248 rfl (vs := [.string (bs y4_1)]) (.tmp (by kernel_rfl) .nil) rfl (fun W S => ⟨rfl, S.below⟩)
  replace h := H.f q1 h
  refine c_skip ?_
  refine c_seq ?_
  refine r_start ?_
  refine p 2 ?_
  refine rend ?_
  replace h := H.done h
  subst h
  exact ret func248 rfl (vs := [.string (bs y2_9)]) (.tmp (by kernel_rfl) .nil) rfl (fun W S => ⟨rfl, S.below⟩)
theorem C.i_Move_text {a0 : Move} {r : Str} (w : World) (h : X.i_Move_text a0 = some r) : Calls prog 249 #[.agg (eMove a0).toArray] w (Ret w (.string (bs r))) := by
  refine calls (M := no) (args := [.agg (eMove a0).toArray]) func249 rfl ?_
  replace h : H (X.i_Move_text a0) (fun o => o = r) := H.mk h
  unfold X.i_Move_text at h
  refine c_seq ?_
  refine r_start ?_
  refine xx rfl (x_box (eMove a0) fun g0_0 => ?_)
  refine p 1 ?_
  refine rend ?_
  refine c_seq ?_
  refine c_block ?_
  refine c_seq ?_
  refine r_start ?_
  refine p 1 ?_
  refine xq rfl (y_load (.string (bs a0.Steps)) 0 g0_0 0) ?_
  refine p 2 ?_
  refine rend ?_
  refine c_or (seq a0.Steps ([] : Str)) (fun q1 => ?_) (fun q1 => ?_)
  · replace h := H.t q1 h
    refine c_seq ?_
    refine r_start ?_
    refine p 1 ?_
    refine rend ?_
    replace h := H.done h
    subst h
    exact ret func249 rfl (vs := [.string (bs ([45] : Str))]) (.tmp (by kernel_rfl) .nil) rfl (fun W S => ⟨rfl, S.below⟩)
  replace h := H.f q1 h
  refine c_seq ?_
  refine r_start ?_
  refine p 1 ?_
  refine xq rfl (y_load (.int .i64 a0.Repeat) 0 g0_0 1) ?_
  refine p 2 ?_
  refine rend ?_
  refine c_or (a0.Repeat == 1) (fun q2 => ?_) (fun q2 => ?_)
  · replace h := H.t q2 h
    refine c_seq ?_
    refine r_start ?_
    refine p 1 ?_
    refine xq rfl (y_load (.string (bs a0.Steps)) 0 g0_0 0) ?_
    refine p 1 ?_
    refine rend ?_
    replace h := H.done h
    subst h
    exact ret func249 rfl (vs := [.string (bs a0.Steps)]) (.tmp (by kernel_rfl) .nil) rfl (fun W S => ⟨rfl, S.below⟩)
  replace h := H.f q2 h
  refine c_skip ?_
  refine c_inb ?_
  refine c_seq ?_
  refine as_start 8 8 ?_
  refine ap 0 1 ?_
  refine aq 1 rfl (y_load (.string (bs a0.Steps)) 0 g0_0 0) ?_
  obtain ⟨y5_2, hy5_2, h⟩ := H.call h
  refine aq 2 rfl (y_cat hy5_2) ?_
  refine ap 3 1 ?_
  refine aq 4 rfl (y_load (.int .i64 a0.Repeat) 0 g0_0 1) ?_
  obtain ⟨v5_5, hv5_5, h⟩ := H.call h
  refine aq 5 rfl (y_call [.int .i64 a0.Repeat] (.string (bs v5_5)) func173 (fun W S => C.strconv_Itoa W hv5_5)) ?_
  obtain ⟨y5_6, hy5_6, h⟩ := H.call h
  refine aq 6 rfl (y_cat hy5_6) ?_
  refine ap 7 1 ?_
  refine a_done ?_
  replace h := H.done h
  subst h
  exact ret func249 rfl (vs := [.string (bs y5_6)]) (.tmp (by kernel_rfl) .nil) rfl (fun W S => ⟨rfl, S.below⟩)
theorem C.i_Hand_text {a0 : Hand} {r : Str} (w : World) (h : X.i_Hand_text a0 = some r) : Calls prog 218 #[.agg (eHand a0).toArray] w (Ret w (.string (bs r))) := by
  refine calls (M := no) (args := [.agg (eHand a0).toArray]) func218 rfl ?_
  replace h : H (X.i_Hand_text a0) (fun o => o = r) := H.mk h
  unfold X.i_Hand_text at h
  refine c_seq ?_
  refine r_start ?_
  refine xx rfl (x_box (eHand a0) fun g0_0 => ?_)
  refine p 1 ?_
  refine rend ?_
  refine c_seq ?_
  refine as_start 15 15 ?_
  refine ap 0 1 ?_
  refine aq 1 rfl (y_load (.agg (eShape a0.Shape).toArray) 0 g0_0 0) ?_
  obtain ⟨v1_2, hv1_2, h⟩ := H.call h
  refine aq 2 rfl (y_call [.agg (eShape a0.Shape).toArray] (.string (bs v1_2)) func181 (fun W S => C.i_Shape_text W hv1_2)) ?_
  refine ap 3 1 ?_
  refine aq 4 rfl (y_load (.agg (eOrient a0.Orient).toArray) 0 g0_0 6) ?_
  obtain ⟨v1_5, hv1_5, h⟩ := H.call h
  refine aq 5 rfl (y_call [.agg (eOrient a0.Orient).toArray] (.string (bs v1_5)) func182 (fun W S => C.i_Orient_text W hv1_5)) ?_
  refine ap 6 1 ?_
  refine aq 7 rfl (y_load (.agg (ePlace a0.Place).toArray) 0 g0_0 8) ?_
  obtain ⟨v1_8, hv1_8, h⟩ := H.call h
  refine aq 8 rfl (y_call [.agg (ePlace a0.Place).toArray] (.string (bs v1_8)) func248 (fun W S => C.i_Place_text W hv1_8)) ?_
  refine ap 9 1 ?_
  refine aq 10 rfl (y_load (.agg (eMove a0.Move).toArray) 0 g0_0 11) ?_
  obtain ⟨v1_11, hv1_11, h⟩ := H.call h
  refine aq 11 rfl (y_call [.agg (eMove a0.Move).toArray] (.string (bs v1_11)) func249 (fun W S => C.i_Move_text W hv1_11)) ?_
  refine ax 12 rfl (e_lit (e := eS) (el := 9) [.string (bs v1_2), .string (bs v1_5), .string (bs v1_8), .string (bs v1_11)] ([v1_2, v1_5, v1_8, v1_11] : List Str) fun A1_12 k1_12 => ⟨.inr (by kernel_rfl), ?_⟩)
  obtain ⟨v1_13, hv1_13, h⟩ := H.call h
  refine ax 13 rfl (e_y (y_call [.slice A1_12 (List.length ([v1_2, v1_5, v1_8, v1_11] : List Str)) k1_12, .string (bs ([47] : Str))] (.string (bs v1_13)) func247 (fun W S => C.strings_Join W hv1_13 ((s_own 1).out W S))) ⟨.inr (by kernel_rfl), ?_⟩)
  refine ap 14 1 ?_
  refine a_done ?_
  replace h := H.done h
  subst h
  exact ret func218 rfl (vs := [.string (bs v1_13)]) (.tmp (by kernel_rfl) .nil) rfl (fun W S => ⟨rfl, S.below⟩)
theorem C.i_Sign_normal {fu : Nat} {a0 : Sign} {r : Sign} (w : World) (h : X.i_Sign_normal fu a0 = some r) : Calls prog 180 #[.agg (eSign a0).toArray] w (Ret w (.agg (eSign r).toArray)) := by
  refine calls (M := no) (args := [.agg (eSign a0).toArray]) func180 rfl ?_
  replace h : H (X.i_Sign_normal fu a0) (fun o => o = r) := H.mk h
  unfold X.i_Sign_normal at h
  refine c_seq ?_
  refine r_start ?_
  refine xx rfl (x_box (eSign a0) fun g0_0 => ?_)
  refine xx rfl (x_new (eSign zSign) fun g0_1 => ?_)
  refine rend ?_
  refine c_seq ?_
  refine r_start ?_
  refine p 1 ?_
  refine xq rfl (y_load (.agg (eHand a0.Main).toArray) 0 g0_0 0) ?_
  obtain ⟨v1_2, hv1_2, h⟩ := H.call h
  refine xq rfl (y_call [.agg (eHand a0.Main).toArray] (.agg (eHand v1_2).toArray) func217 (fun W S => C.i_Hand_normal W hv1_2)) ?_
  refine p 1 ?_
  refine xx rfl (x_sto 0 g0_0 0 (eSign ({ a0 with Main := v1_2 })) ?_)
  refine rend ?_
  refine c_seq ?_
  refine c_seq ?_
  refine r_start ?_
  refine p 1 ?_
  refine xq rfl (y_load (.bool a0.Two) 0 g0_0 13) ?_
  refine p 1 ?_
  refine rend ?_
  refine c_or (!a0.Two) (fun q1 => ?_) (fun q1 => ?_)
  · replace h := H.t q1 h
    refine c_seq ?_
    refine r_start ?_
    refine xq rfl (y_load (.agg (eSign ({ a0 with Main := v1_2 })).toArray) 0 g0_0 0) ?_
    refine xx rfl (x_sto 1 g0_1 0 (eSign ({ a0 with Main := v1_2 })) ?_)
    refine rend ?_
    replace h := H.done h
    subst h
    exact ret func180 rfl (vs := [.agg (eSign ({ a0 with Main := v1_2 })).toArray]) (.cell 1 g0_1 rfl (by kernel_rfl) (by kernel_rfl) .nil) rfl (fun W S => ⟨rfl, S.below⟩)
  replace h := H.f q1 h
  refine c_skip ?_
  refine c_seq ?_
  refine r_start ?_
  refine p 1 ?_
  refine xq rfl (y_load (.agg (eHand a0.Other).toArray) 0 g0_0 14) ?_
  obtain ⟨v4_2, hv4_2, h⟩ := H.call h
  refine xq rfl (y_call [.agg (eHand a0.Other).toArray] (.agg (eHand v4_2).toArray) func217 (fun W S => C.i_Hand_normal W hv4_2)) ?_
  refine p 1 ?_
  refine xx rfl (x_sto 0 g0_0 14 (eSign (⟨v1_2, a0.Two, v4_2⟩ : Sign)) ?_)
  refine rend ?_
  refine c_seq ?_
  refine c_seq ?_
  refine as_start 12 12 ?_
  refine aq 0 rfl (y_load (.agg (eSign (⟨v1_2, a0.Two, v4_2⟩ : Sign)).toArray) 0 g0_0 0) ?_
  obtain ⟨v5_1, hv5_1, h⟩ := H.call h
  refine aq 1 rfl (y_call [.agg (eSign (⟨v1_2, a0.Two, v4_2⟩ : Sign)).toArray] (.int .i64 v5_1) func170 (fun W S => C.i_Sign_kind W hv5_1)) ?_
  refine ap 2 2 ?_
  refine br (v5_1 == 1) (fun q2 => ?_) (fun q2 => ?_)
  · replace h := H.t q2 h
    refine a_set 18 (congrArg Value.bool q2) ?_
    refine ap 4 1 ?_
    refine aq 5 rfl (y_load (.agg (eHand v4_2).toArray) 0 g0_0 14) ?_
    obtain ⟨v5_6, hv5_6, h⟩ := H.call h
    refine aq 6 rfl (y_call [.agg (eHand v4_2).toArray] (.string (bs v5_6)) func218 (fun W S => C.i_Hand_text W hv5_6)) ?_
    refine ap 7 1 ?_
    refine aq 8 rfl (y_load (.agg (eHand v1_2).toArray) 0 g0_0 0) ?_
    obtain ⟨v5_9, hv5_9, h⟩ := H.call h
    refine aq 9 rfl (y_call [.agg (eHand v1_2).toArray] (.string (bs v5_9)) func218 (fun W S => C.i_Hand_text W hv5_9)) ?_
    refine ap 10 2 ?_
    refine a_done ?_
    refine c_or (slt v5_6 v5_9) (fun q3 => ?_) (fun q3 => ?_)
    · replace h := H.t q3 h
      refine r_start ?_
      refine p 1 ?_
      refine xq rfl (y_load (.agg (eHand v4_2).toArray) 0 g0_0 14) ?_
      refine p 1 ?_
      refine xq rfl (y_load (.agg (eHand v1_2).toArray) 0 g0_0 0) ?_
      refine p 1 ?_
      refine xx rfl (x_sto 0 g0_0 0 (eSign (⟨v4_2, a0.Two, v4_2⟩ : Sign)) ?_)
      refine p 1 ?_
      refine xx rfl (x_sto 0 g0_0 14 (eSign (⟨v4_2, a0.Two, v1_2⟩ : Sign)) ?_)
      refine rend ?_
      refine c_seq ?_
      refine r_start ?_
      refine xq rfl (y_load (.agg (eSign (⟨v4_2, a0.Two, v1_2⟩ : Sign)).toArray) 0 g0_0 0) ?_
      refine xx rfl (x_sto 1 g0_1 0 (eSign (⟨v4_2, a0.Two, v1_2⟩ : Sign)) ?_)
      refine rend ?_
      replace h := H.done h
      subst h
      exact ret func180 rfl (vs := [.agg (eSign (⟨v4_2, a0.Two, v1_2⟩ : Sign)).toArray]) (.cell 1 g0_1 rfl (by kernel_rfl) (by kernel_rfl) .nil) rfl (fun W S => ⟨rfl, S.below⟩)
    replace h := H.f q3 h
    refine c_skip ?_
    refine c_seq ?_
    refine r_start ?_
    refine xq rfl (y_load (.agg (eSign (⟨v1_2, a0.Two, v4_2⟩ : Sign)).toArray) 0 g0_0 0) ?_
    refine xx rfl (x_sto 1 g0_1 0 (eSign (⟨v1_2, a0.Two, v4_2⟩ : Sign)) ?_)
    refine rend ?_
    replace h := H.done h
    subst h
    exact ret func180 rfl (vs := [.agg (eSign (⟨v1_2, a0.Two, v4_2⟩ : Sign)).toArray]) (.cell 1 g0_1 rfl (by kernel_rfl) (by kernel_rfl) .nil) rfl (fun W S => ⟨rfl, S.below⟩)
  replace h := H.f q2 h
  refine a_set 18 (congrArg Value.bool q2) ?_
  refine ap 4 8 ?_
  refine a_done ?_
  refine c_f (by kernel_rfl) ?_
  refine c_skip ?_
  refine c_seq ?_
  refine r_start ?_
  refine xq rfl (y_load (.agg (eSign (⟨v1_2, a0.Two, v4_2⟩ : Sign)).toArray) 0 g0_0 0) ?_
  refine xx rfl (x_sto 1 g0_1 0 (eSign (⟨v1_2, a0.Two, v4_2⟩ : Sign)) ?_)
  refine rend ?_
  replace h := H.done h
  subst h
  exact ret func180 rfl (vs := [.agg (eSign (⟨v1_2, a0.Two, v4_2⟩ : Sign)).toArray]) (.cell 1 g0_1 rfl (by kernel_rfl) (by kernel_rfl) .nil) rfl (fun W S => ⟨rfl, S.below⟩)
theorem C.i_patternOf {fu : Nat} {a0 : Sign} {r : Pattern} (w : World) (h : X.i_patternOf fu a0 = some r) : Calls prog 131 #[.agg (eSign a0).toArray] w (Ret w (.agg (ePattern r).toArray)) := by
  refine calls (M := no) (args := [.agg (eSign a0).toArray]) func131 rfl ?_
  replace h : H (X.i_patternOf fu a0) (fun o => o = r) := H.mk h
  unfold X.i_patternOf at h
  refine c_seq ?_
  refine r_start ?_
  refine xx rfl (x_box (eSign a0) fun g0_0 => ?_)
  refine xx rfl (x_new (ePattern zPattern) fun g0_1 => ?_)
  refine rend ?_
  refine c_seq ?_
  refine r_start ?_
  refine xq rfl (y_load (.agg (eSign a0).toArray) 0 g0_0 0) ?_
  obtain ⟨v1_1, hv1_1, h⟩ := H.call h
  refine xq rfl (y_call [.agg (eSign a0).toArray] (.agg (eSign v1_1).toArray) func180 (fun W S => C.i_Sign_normal W hv1_1)) ?_
  refine p 1 ?_
  refine xx rfl (x_new (eHand zHand) fun g1_3 => ?_)
  refine xx rfl (x_sto 2 g1_3 0 (eHand v1_1.Main) ?_)
  refine rend ?_
  refine c_seq ?_
  refine as_start 16 16 ?_
  refine ap 0 1 ?_
  refine aq 1 rfl (y_load (.agg (eShape v1_1.Main.Shape).toArray) 2 g1_3 0) ?_
  obtain ⟨v2_2, hv2_2, h⟩ := H.call h
  refine aq 2 rfl (y_call [.agg (eShape v1_1.Main.Shape).toArray] (.string (bs v2_2)) func181 (fun W S => C.i_Shape_text W hv2_2)) ?_
  obtain ⟨y2_3, hy2_3, h⟩ := H.call h
  refine aq 3 rfl (y_cut hy2_3) ?_
  refine ap 4 1 ?_
  refine aq 5 rfl (y_load (.agg (eOrient v1_1.Main.Orient).toArray) 2 g1_3 6) ?_
  obtain ⟨v2_6, hv2_6, h⟩ := H.call h
  refine aq 6 rfl (y_call [.agg (eOrient v1_1.Main.Orient).toArray] (.string (bs v2_6)) func182 (fun W S => C.i_Orient_text W hv2_6)) ?_
  refine ap 7 2 ?_
  refine aq 9 rfl (y_load (.int .i64 v1_1.Main.Place.Region) 2 g1_3 8) ?_
  refine ap 10 1 ?_
  refine aq 11 rfl (y_load (.agg (eMove v1_1.Main.Move).toArray) 2 g1_3 11) ?_
  obtain ⟨v2_12, hv2_12, h⟩ := H.call h
  refine aq 12 rfl (y_call [.agg (eMove v1_1.Main.Move).toArray] (.string (bs v2_12)) func161 (fun W S => C.i_Move_all W hv2_12)) ?_
  refine ap 13 1 ?_
  refine ax 14 rfl (x_new (ePattern zPattern) fun g2_14 => ⟨.inr (by kernel_rfl), ?_⟩)
  refine ax 15 rfl (x_sto 3 g2_14 0 (ePattern (⟨y2_3, v2_6, v1_1.Main.Place.Region, v2_12, 1⟩ : Pattern)) ⟨.inr (by kernel_rfl), ?_⟩)
  refine a_done ?_
  refine c_seq ?_
  refine c_seq ?_
  refine r_start ?_
  refine p 1 ?_
  refine xq rfl (y_load (.bool a0.Two) 0 g0_0 13) ?_
  refine rend ?_
  refine c_or a0.Two (fun q1 => ?_) (fun q1 => ?_)
  · replace h := H.t q1 h
    refine r_start ?_
    refine p 1 ?_
    refine xx rfl (x_sto 3 g2_14 4 (ePattern (⟨y2_3, v2_6, v1_1.Main.Place.Region, v2_12, 2⟩ : Pattern)) ?_)
    refine rend ?_
    refine c_seq ?_
    refine r_start ?_
    refine xq rfl (y_load (.agg (ePattern (⟨y2_3, v2_6, v1_1.Main.Place.Region, v2_12, 2⟩ : Pattern)).toArray) 3 g2_14 0) ?_
    refine xx rfl (x_sto 1 g0_1 0 (ePattern (⟨y2_3, v2_6, v1_1.Main.Place.Region, v2_12, 2⟩ : Pattern)) ?_)
    refine rend ?_
    replace h := H.done h
    subst h
    exact ret func131 rfl (vs := [.agg (ePattern (⟨y2_3, v2_6, v1_1.Main.Place.Region, v2_12, 2⟩ : Pattern)).toArray]) (.cell 1 g0_1 rfl (by kernel_rfl) (by kernel_rfl) .nil) rfl (fun W S => ⟨rfl, S.below⟩)
  replace h := H.f q1 h
  refine c_skip ?_
  refine c_seq ?_
  refine r_start ?_
  refine xq rfl (y_load (.agg (ePattern (⟨y2_3, v2_6, v1_1.Main.Place.Region, v2_12, 1⟩ : Pattern)).toArray) 3 g2_14 0) ?_
  refine xx rfl (x_sto 1 g0_1 0 (ePattern (⟨y2_3, v2_6, v1_1.Main.Place.Region, v2_12, 1⟩ : Pattern)) ?_)
  refine rend ?_
  replace h := H.done h
  subst h
  exact ret func131 rfl (vs := [.agg (ePattern (⟨y2_3, v2_6, v1_1.Main.Place.Region, v2_12, 1⟩ : Pattern)).toArray]) (.cell 1 g0_1 rfl (by kernel_rfl) (by kernel_rfl) .nil) rfl (fun W S => ⟨rfl, S.below⟩)
theorem C.i_apart {a0 : Str} {a1 : Str} {r : Int} (w : World) (h : X.i_apart a0 a1 = some r) : Calls prog 140 #[.string (bs a0), .string (bs a1)] w (Ret w (.int .i64 r)) := by
  refine calls (M := no) (args := [.string (bs a0), .string (bs a1)]) func140 rfl ?_
  replace h : H (X.i_apart a0 a1) (fun o => o = r) := H.mk h
  unfold X.i_apart at h
  refine c_seq ?_
  refine r_start ?_
  refine p 1 ?_
  refine rend ?_
  refine c_seq ?_
  refine r_start ?_
  refine p 1 ?_
  refine rend ?_
  refine c_seq ?_
  refine c_seq ?_
  refine r_start ?_
  refine p 3 ?_
  refine rend ?_
  refine c_block ?_
  refine joinH (X := Int) 0 (H.bnd h) (fun (x : Int) => x) (fun n2 => []) (fun n2 u => (jk u 0 5 (.int .i64 n2 :: (jk u 6 23 [])))) (fun h hj3 => ?_) ?_
  · skip
    refine rangeNR (X := Int) (fun (x : Int) => x) (fun n1 => []) (fun (j4 : Int) n1 u => (.string (bs a0) :: .string (bs a1) :: (jk u 2 3 (.int .i64 n1 :: (jk u 6 2 (.int .i64 (List.length a0 : Int) :: .int .i64 j4 :: (jk u 10 19 []))))))) 0 h (by kernel_rfl) (by kernel_rfl) ?_ ?_
    · intro j4 n1 u q5 hw6 h
      refine c_seq ?_
      refine r_start ?_
      refine p 1 ?_
      refine rend ?_
      refine c_seq ?_
      refine c_yes q5 ?_
      refine c_skip ?_
      refine c_seq ?_
      refine c_block ?_
      refine c_seq ?_
      refine r_start ?_
      refine p 2 ?_
      refine rend ?_
      refine c_seq ?_
      refine as_start 13 13 ?_
      refine ap 0 2 ?_
      obtain ⟨y5_2, hy5_2, h⟩ := H.call h
      refine aq 2 rfl (y_byte hy5_2) ?_
      refine ap 3 2 ?_
      refine br (y5_2 != 63) (fun q8 => ?_) (fun q8 => ?_)
      · replace h := H.t q8 h
        refine a_set 16 (congrArg Value.bool q8) ?_
        refine ap 5 2 ?_
        refine aq 7 rfl (y_byte hy5_2) ?_
        refine ap 8 2 ?_
        obtain ⟨y5_10, hy5_10, h⟩ := H.call h
        refine aq 10 rfl (y_byte hy5_10) ?_
        refine ap 11 2 ?_
        refine a_done ?_
        refine c_or (y5_2 != y5_10) (fun q9 => ?_) (fun q9 => ?_)
        · replace h := H.t q9 h
          refine r_start ?_
          refine p 3 ?_
          refine rend ?_
          refine c_inb ?_
          refine r_start ?_
          refine p 2 ?_
          refine rend ?_
          refine c_set 9 (ci hw6) ?_
          replace h := H.inl h
          exact h (wr (n1 + 1)) _ _ rfl (by kernel_rfl) (by kernel_rfl)
        replace h := H.f q9 h
        refine c_skip ?_
        refine c_inb ?_
        refine r_start ?_
        refine p 2 ?_
        refine rend ?_
        refine c_set 9 (ci hw6) ?_
        replace h := H.inl h
        exact h n1 _ _ rfl (by kernel_rfl) (by kernel_rfl)
      replace h := H.f q8 h
      refine a_set 16 (congrArg Value.bool q8) ?_
      refine ap 5 8 ?_
      refine a_done ?_
      refine c_f (by kernel_rfl) ?_
      refine c_skip ?_
      refine c_inb ?_
      refine r_start ?_
      refine p 2 ?_
      refine rend ?_
      refine c_set 9 (ci hw6) ?_
      replace h := H.inl h
      exact h n1 _ _ rfl (by kernel_rfl) (by kernel_rfl)
    · intro j7 n1 u q5 h
      refine c_seq ?_
      refine r_start ?_
      refine p 1 ?_
      refine rend ?_
      refine c_seq ?_
      refine c_no q5 ?_
      refine cx ?_
      replace h := H.done h
      exact hj3 n1 _ _ h (by kernel_rfl) (by kernel_rfl)
  intro n2 u h
  refine c_seq ?_
  refine r_start ?_
  refine p 2 ?_
  refine rend ?_
  replace h := H.done h
  subst h
  exact ret func140 rfl (vs := [.int .i64 n2]) (.tmp (by kernel_rfl) .nil) rfl (fun W S => ⟨rfl, S.below⟩)
theorem C.i_fits {a0 : Str} {a1 : Str} {r : Bool} (w : World) (h : X.i_fits a0 a1 = some r) : Calls prog 177 #[.string (bs a0), .string (bs a1)] w (Ret w (.bool r)) := by
  refine calls (M := no) (args := [.string (bs a0), .string (bs a1)]) func177 rfl ?_
  replace h : H (X.i_fits a0 a1) (fun o => o = r) := H.mk h
  unfold X.i_fits at h
  refine c_seq ?_
  refine r_start ?_
  refine p 1 ?_
  refine rend ?_
  refine c_seq ?_
  refine c_seq ?_
  refine r_start ?_
  refine p 2 ?_
  refine rend ?_
  refine c_or (seq a0 ([] : Str)) (fun q1 => ?_) (fun q1 => ?_)
  · replace h := H.t q1 h
    refine c_seq ?_
    refine r_start ?_
    refine p 3 ?_
    refine rend ?_
    replace h := H.done h
    subst h
    exact ret func177 rfl (vs := [.bool (seq a1 ([] : Str))]) (.tmp (by kernel_rfl) .nil) rfl (fun W S => ⟨rfl, S.below⟩)
  replace h := H.f q1 h
  refine c_skip ?_
  refine c_seq ?_
  refine r_start ?_
  refine p 3 ?_
  obtain ⟨y3_3, hy3_3, h⟩ := H.call h
  refine xx rfl (e_make (el := 4) hy3_3 fun A3_3 k3_3 => ?_)
  refine p 1 ?_
  refine rend ?_
  refine c_seq ?_
  refine r_start ?_
  refine p 1 ?_
  obtain ⟨y4_1, hy4_1, h⟩ := H.call h
  refine xq rfl (y_idx (e := eB) (el := 4) hy4_1 (s_own 0)) ?_
  refine xx rfl (e_stel (e := eB) (b := true) 0 0 ([.bool true]) hy4_1 (by kernel_rfl) ?_)
  refine o_set 5 (sl_set (A := A3_3) (c := k3_3) (l := y3_3) (n := Int.toNat 0) (b := true)) ?_
  refine rend ?_
  refine c_seq ?_
  refine c_seq ?_
  refine r_start ?_
  refine p 3 ?_
  refine rend ?_
  refine c_block ?_
  refine joinH (X := ((List Bool) × Option Addr × Nat)) 0 (H.bnd h) (fun ⟨l5, A6, k7⟩ => l5) (fun ⟨l5, A6, k7⟩ => [rowT eB w.heap.size 4 (.slice A6 (List.length l5) k7) l5]) (fun ⟨l5, A6, k7⟩ u => (jk u 0 1 (.string (bs a1) :: (jk u 2 3 (.slice A6 (List.length l5) k7 :: (jk u 6 84 [])))))) (fun h hj8 => ?_) ?_
  · skip
    refine rangeNR (X := ((List Bool) × Option Addr × Nat)) (fun ⟨l2, A3, k4⟩ => l2) (fun ⟨l2, A3, k4⟩ => [rowT eB w.heap.size 4 (.slice A3 (List.length l2) k4) l2]) (fun (j9 : Int) ⟨l2, A3, k4⟩ u => (.string (bs a0) :: .string (bs a1) :: (jk u 2 3 (.slice A3 (List.length l2) k4 :: (jk u 6 14 (.int .i64 (List.length a0 : Int) :: .int .i64 j9 :: (jk u 22 68 []))))))) ((List.set y3_3 (Int.toNat 0) true), A3_3, k3_3) h (by kernel_rfl) (by kernel_rfl) ?_ ?_
    · intro j9 x u q10 hw11 h
      obtain ⟨l2, A3, k4⟩ := x
      refine c_seq ?_
      refine r_start ?_
      refine p 1 ?_
      refine rend ?_
      refine c_seq ?_
      refine c_yes q10 ?_
      refine c_skip ?_
      refine c_seq ?_
      refine c_block ?_
      refine c_seq ?_
      refine r_start ?_
      refine p 2 ?_
      refine rend ?_
      refine c_seq ?_
      refine r_start ?_
      refine p 2 ?_
      obtain ⟨y8_2, hy8_2, h⟩ := H.call h
      refine xx rfl (e_make (el := 4) hy8_2 fun A8_2 k8_2 => ?_)
      refine p 1 ?_
      refine rend ?_
      refine c_seq ?_
      refine c_seq ?_
      refine r_start ?_
      refine p 3 ?_
      refine rend ?_
      refine c_block ?_
      refine joinH (X := ((List Bool) × Option Addr × Nat)) 2 (H.bnd h) (fun ⟨l16, A17, k18⟩ => l16) (fun ⟨l16, A17, k18⟩ => [rowT eB w.heap.size 4 (.slice A3 (List.length l2) k4) l2, rowT eB w.heap.size 4 (.slice A17 (List.length l16) k18) l16]) (fun ⟨l16, A17, k18⟩ u => (.string (bs a0) :: .string (bs a1) :: (jk u 2 5 (.slice A17 (List.length l16) k18 :: (jk u 8 12 (.int .i64 (List.length a0 : Int) :: .int .i64 (j9 : Int) :: (jk u 22 68 []))))))) (fun h hj19 => ?_) ?_
      · skip
        refine rangeR (X := ((List Bool) × Option Addr × Nat)) (s_own 0) (fun ⟨l13, A14, k15⟩ => l13) (fun ⟨l13, A14, k15⟩ => [rowT eB w.heap.size 4 (.slice A3 (List.length l2) k4) l2, rowT eB w.heap.size 4 (.slice A14 (List.length l13) k15) l13]) (fun (j20 : Nat) ⟨l13, A14, k15⟩ u => (.string (bs a0) :: .string (bs a1) :: (jk u 2 3 (.slice A3 (List.length l2) k4 :: .int .i64 (j9 : Int) :: .slice A14 (List.length l13) k15 :: (jk u 8 12 (.int .i64 (List.length a0 : Int) :: .int .i64 (j9 : Int) :: (jk u 22 6 (.int .i64 (List.length l2 : Int) :: .int .i64 (j20 : Int) :: (jk u 30 60 []))))))))) (y8_2, A8_2, k8_2) h (by kernel_rfl) (by kernel_rfl) ?_ ?_
        · intro j20 x u x21 q22 hg23 hw24 h
          obtain ⟨l13, A14, k15⟩ := x
          refine c_seq ?_
          refine r_start ?_
          refine p 1 ?_
          refine rend ?_
          refine c_seq ?_
          refine c_yes q22 ?_
          refine c_skip ?_
          refine c_seq ?_
          refine c_block ?_
          refine c_seq ?_
          refine r_start ?_
          refine p 2 ?_
          refine rend ?_
          refine c_seq ?_
          refine r_start ?_
          refine p 2 ?_
          obtain ⟨y12_2, hy12_2, h⟩ := H.call h
          refine xq rfl (y_byte hy12_2) ?_
          refine p 1 ?_
          refine rend ?_
          refine frg (fun u => (.string (bs a0) :: .string (bs a1) :: (jk u 2 3 (.slice A3 (List.length l2) k4 :: .int .i64 (j9 : Int) :: .slice A14 (List.length l13) k15 :: .int .i64 (j20 : Int) :: (jk u 9 11 (.int .i64 (List.length a0 : Int) :: .int .i64 (j9 : Int) :: (jk u 22 6 (.int .i64 (List.length l2 : Int) :: .int .i64 (j20 : Int) :: (jk u 30 5 (.bool (y12_2 == 42) :: (jk u 36 54 []))))))))))) (by kernel_rfl) fun u => ?_
          refine keep 2 (its' := [rowT eB w.heap.size 4 (.slice A3 (List.length l2) k4) l2, rowT eB w.heap.size 4 (.slice A14 (List.length l13) k15) l13]) (by kernel_rfl) ?_
          refine c_or (y12_2 == 42) (fun q25 => ?_) (fun q25 => ?_)
          · replace h := H.t q25 h
            refine r_start ?_
            refine p 4 ?_
            refine xq rfl (y_idx (e := eB) (el := 4) hg23 (s_own 0)) ?_
            refine xq rfl (y_el (e := eB) 0 (.bool x21) hg23 (s_own 0)) ?_
            refine p 1 ?_
            refine br x21 (fun q26 => ?_) (fun q26 => ?_)
            · replace h := H.t q26 h
              refine o_set 42 (congrArg Value.bool q26) ?_
              refine p 10 ?_
              obtain ⟨y13_17, hy13_17, h⟩ := H.call h
              refine xq rfl (y_idx (e := eB) (el := 4) hy13_17 (s_own 1)) ?_
              refine xx rfl (e_stel (e := eB) (b := true) 1 0 ([.bool true]) hy13_17 (by kernel_rfl) ?_)
              refine o_set 7 (sl_set (A := A14) (c := k15) (l := l13) (n := Int.toNat (j20 : Int)) (b := true)) ?_
              refine rend ?_
              refine c_inb ?_
              refine r_start ?_
              refine p 2 ?_
              refine rend ?_
              refine c_set 29 (ci hw24) ?_
              replace h := H.inl h
              exact h ((List.set l13 (Int.toNat (j20 : Int)) true), A14, k15) _ _ rfl (by kernel_rfl) (by kernel_rfl)
            replace h := H.f q26 h
            refine o_set 42 (congrArg Value.bool q26) ?_
            refine p 3 ?_
            refine br (decide ((j20 : Int) > 0)) (fun q27 => ?_) (fun q27 => ?_)
            · replace h := H.t q27 h
              refine o_set 45 (congrArg Value.bool q27) ?_
              refine p 3 ?_
              obtain ⟨y13_13, hy13_13, h⟩ := H.call h
              refine xq rfl (y_idx (e := eB) (el := 4) hy13_13 (s_own 1)) ?_
              refine xq rfl (y_el (e := eB) 0 (.bool y13_13) hy13_13 (s_own 1)) ?_
              refine p 2 ?_
              obtain ⟨y13_17, hy13_17, h⟩ := H.call h
              refine xq rfl (y_idx (e := eB) (el := 4) hy13_17 (s_own 1)) ?_
              refine xx rfl (e_stel (e := eB) (b := y13_13) 1 0 ([.bool y13_13]) hy13_17 (by kernel_rfl) ?_)
              refine o_set 7 (sl_set (A := A14) (c := k15) (l := l13) (n := Int.toNat (j20 : Int)) (b := y13_13)) ?_
              refine rend ?_
              refine c_inb ?_
              refine r_start ?_
              refine p 2 ?_
              refine rend ?_
              refine c_set 29 (ci hw24) ?_
              replace h := H.inl h
              exact h ((List.set l13 (Int.toNat (j20 : Int)) y13_13), A14, k15) _ _ rfl (by kernel_rfl) (by kernel_rfl)
            replace h := H.f q27 h
            refine o_set 45 (congrArg Value.bool q27) ?_
            refine p 7 ?_
            obtain ⟨y13_17, hy13_17, h⟩ := H.call h
            refine xq rfl (y_idx (e := eB) (el := 4) hy13_17 (s_own 1)) ?_
            refine xx rfl (e_stel (e := eB) (b := false) 1 0 ([.bool false]) hy13_17 (by kernel_rfl) ?_)
            refine o_set 7 (sl_set (A := A14) (c := k15) (l := l13) (n := Int.toNat (j20 : Int)) (b := false)) ?_
            refine rend ?_
            refine c_inb ?_
            refine r_start ?_
            refine p 2 ?_
            refine rend ?_
            refine c_set 29 (ci hw24) ?_
            replace h := H.inl h
            exact h ((List.set l13 (Int.toNat (j20 : Int)) false), A14, k15) _ _ rfl (by kernel_rfl) (by kernel_rfl)
          replace h := H.f q25 h
          refine as_start 28 29 ?_
          refine ap 0 5 ?_
          refine br (decide ((j20 : Int) > 0)) (fun q28 => ?_) (fun q28 => ?_)
          · replace h := H.t q28 h
            refine a_set 58 (congrArg Value.bool q28) ?_
            refine ap 5 3 ?_
            obtain ⟨y14_8, hy14_8, h⟩ := H.call h
            refine aq 8 rfl (y_idx (e := eB) (el := 4) hy14_8 (s_own 0)) ?_
            refine aq 9 rfl (y_el (e := eB) 0 (.bool y14_8) hy14_8 (s_own 0)) ?_
            refine ap 10 2 ?_
            refine br y14_8 (fun q29 => ?_) (fun q29 => ?_)
            · replace h := H.t q29 h
              refine a_set 65 (congrArg Value.bool q29) ?_
              refine ap 12 2 ?_
              refine aq 14 rfl (y_byte hy12_2) ?_
              refine ap 15 2 ?_
              refine br (y12_2 == 63) (fun q30 => ?_) (fun q30 => ?_)
              · replace h := H.t q30 h
                refine a_set 70 (congrArg Value.bool q30) ?_
                refine ap 17 10 ?_
                obtain ⟨y14_27, hy14_27, h⟩ := H.call h
                refine aq 27 rfl (y_idx (e := eB) (el := 4) hy14_27 (s_own 1)) ?_
                refine ax 28 rfl (e_stel (e := eB) (b := true) 1 0 ([.bool true]) hy14_27 (by kernel_rfl) ⟨.inl (by kernel_rfl), ?_⟩)
                refine a_set 7 (sl_set (A := A14) (c := k15) (l := l13) (n := Int.toNat (j20 : Int)) (b := true)) ?_
                refine a_done ?_
                refine c_inb ?_
                refine r_start ?_
                refine p 2 ?_
                refine rend ?_
                refine c_set 29 (ci hw24) ?_
                replace h := H.inl h
                exact h ((List.set l13 (Int.toNat (j20 : Int)) true), A14, k15) _ _ rfl (by kernel_rfl) (by kernel_rfl)
              replace h := H.f q30 h
              refine a_set 70 (congrArg Value.bool q30) ?_
              refine ap 17 2 ?_
              refine aq 19 rfl (y_byte hy12_2) ?_
              refine ap 20 3 ?_
              obtain ⟨y14_23, hy14_23, h⟩ := H.call h
              refine aq 23 rfl (y_byte hy14_23) ?_
              refine ap 24 3 ?_
              obtain ⟨y14_27, hy14_27, h⟩ := H.call h
              refine aq 27 rfl (y_idx (e := eB) (el := 4) hy14_27 (s_own 1)) ?_
              refine ax 28 rfl (e_stel (e := eB) (b := (y12_2 == y14_23)) 1 0 ([.bool (y12_2 == y14_23)]) hy14_27 (by kernel_rfl) ⟨.inl (by kernel_rfl), ?_⟩)
              refine a_set 7 (sl_set (A := A14) (c := k15) (l := l13) (n := Int.toNat (j20 : Int)) (b := (y12_2 == y14_23))) ?_
              refine a_done ?_
              refine c_inb ?_
              refine r_start ?_
              refine p 2 ?_
              refine rend ?_
              refine c_set 29 (ci hw24) ?_
              replace h := H.inl h
              exact h ((List.set l13 (Int.toNat (j20 : Int)) (y12_2 == y14_23)), A14, k15) _ _ rfl (by kernel_rfl) (by kernel_rfl)
            replace h := H.f q29 h
            refine a_set 65 (congrArg Value.bool q29) ?_
            refine ap 12 15 ?_
            obtain ⟨y14_27, hy14_27, h⟩ := H.call h
            refine aq 27 rfl (y_idx (e := eB) (el := 4) hy14_27 (s_own 1)) ?_
            refine ax 28 rfl (e_stel (e := eB) (b := false) 1 0 ([.bool false]) hy14_27 (by kernel_rfl) ⟨.inl (by kernel_rfl), ?_⟩)
            refine a_set 7 (sl_set (A := A14) (c := k15) (l := l13) (n := Int.toNat (j20 : Int)) (b := false)) ?_
            refine a_done ?_
            refine c_inb ?_
            refine r_start ?_
            refine p 2 ?_
            refine rend ?_
            refine c_set 29 (ci hw24) ?_
            replace h := H.inl h
            exact h ((List.set l13 (Int.toNat (j20 : Int)) false), A14, k15) _ _ rfl (by kernel_rfl) (by kernel_rfl)
          replace h := H.f q28 h
          refine a_set 58 (congrArg Value.bool q28) ?_
          refine ap 5 22 ?_
          obtain ⟨y14_27, hy14_27, h⟩ := H.call h
          refine aq 27 rfl (y_idx (e := eB) (el := 4) hy14_27 (s_own 1)) ?_
          refine ax 28 rfl (e_stel (e := eB) (b := false) 1 0 ([.bool false]) hy14_27 (by kernel_rfl) ⟨.inl (by kernel_rfl), ?_⟩)
          refine a_set 7 (sl_set (A := A14) (c := k15) (l := l13) (n := Int.toNat (j20 : Int)) (b := false)) ?_
          refine a_done ?_
          refine c_inb ?_
          refine r_start ?_
          refine p 2 ?_
          refine rend ?_
          refine c_set 29 (ci hw24) ?_
          replace h := H.inl h
          exact h ((List.set l13 (Int.toNat (j20 : Int)) false), A14, k15) _ _ rfl (by kernel_rfl) (by kernel_rfl)
        · intro x u q22 h
          obtain ⟨l13, A14, k15⟩ := x
          refine c_seq ?_
          refine r_start ?_
          refine p 1 ?_
          refine rend ?_
          refine c_seq ?_
          refine c_no q22 ?_
          refine cx ?_
          replace h := H.done h
          exact hj19 (l13, A14, k15) _ _ h (by kernel_rfl) (by kernel_rfl)
      intro x u h
      obtain ⟨l16, A17, k18⟩ := x
      refine r_start ?_
      refine p 2 ?_
      refine rend ?_
      refine c_inb ?_
      refine r_start ?_
      refine p 2 ?_
      refine rend ?_
      refine pick [1] [rowT eB w.heap.size 4 (.slice A17 (List.length l16) k18) l16] ?_
      refine c_set 21 (ci hw11) ?_
      replace h := H.inl h
      exact h (l16, A17, k18) _ _ rfl (by kernel_rfl) (by kernel_rfl)
    · intro j12 x u q10 h
      obtain ⟨l2, A3, k4⟩ := x
      refine c_seq ?_
      refine r_start ?_
      refine p 1 ?_
      refine rend ?_
      refine c_seq ?_
      refine c_no q10 ?_
      refine cx ?_
      replace h := H.done h
      exact hj8 (l2, A3, k4) _ _ h (by kernel_rfl) (by kernel_rfl)
  intro x u h
  obtain ⟨l5, A6, k7⟩ := x
  refine c_seq ?_
  refine r_start ?_
  refine p 3 ?_
  obtain ⟨y18_3, hy18_3, h⟩ := H.call h
  refine xq rfl (y_idx (e := eB) (el := 4) hy18_3 (s_own 0)) ?_
  refine xq rfl (y_el (e := eB) 0 (.bool y18_3) hy18_3 (s_own 0)) ?_
  refine p 1 ?_
  refine rend ?_
  replace h := H.done h
  subst h
  exact ret func177 rfl (vs := [.bool y18_3]) (.tmp (by kernel_rfl) .nil) rfl (fun W S => ⟨rfl, S.below⟩)
theorem C.i_Pattern_cost {fu : Nat} {a0 : Pattern} {a1 : Sign} {r : Int} (w : World) (h : X.i_Pattern_cost fu a0 a1 = some r) : Calls prog 128 #[.agg (ePattern a0).toArray, .agg (eSign a1).toArray] w (Ret w (.int .i64 r)) := by
  refine calls (M := no) (args := [.agg (ePattern a0).toArray, .agg (eSign a1).toArray]) func128 rfl ?_
  replace h : H (X.i_Pattern_cost fu a0 a1) (fun o => o = r) := H.mk h
  unfold X.i_Pattern_cost at h
  refine c_seq ?_
  refine r_start ?_
  refine xx rfl (x_box (ePattern a0) fun g0_0 => ?_)
  refine xx rfl (x_box (eSign a1) fun g0_1 => ?_)
  refine p 1 ?_
  refine rend ?_
  refine c_seq ?_
  refine r_start ?_
  refine xq rfl (y_load (.agg (eSign a1).toArray) 1 g0_1 0) ?_
  obtain ⟨v1_1, hv1_1, h⟩ := H.call h
  refine xq rfl (y_call [.agg (eSign a1).toArray] (.agg (ePattern v1_1).toArray) func131 (fun W S => C.i_patternOf W hv1_1)) ?_
  refine xx rfl (x_new (ePattern zPattern) fun g1_2 => ?_)
  refine xx rfl (x_sto 2 g1_2 0 (ePattern v1_1) ?_)
  refine rend ?_
  refine c_seq ?_
  refine as_start 12 12 ?_
  refine ap 0 1 ?_
  refine aq 1 rfl (y_load (.string (bs a0.Shape)) 0 g0_0 0) ?_
  refine ap 2 1 ?_
  refine aq 3 rfl (y_load (.string (bs v1_1.Shape)) 2 g1_2 0) ?_
  obtain ⟨v2_4, hv2_4, h⟩ := H.call h
  refine aq 4 rfl (y_call [.string (bs a0.Shape), .string (bs v1_1.Shape)] (.int .i64 v2_4) func140 (fun W S => C.i_apart W hv2_4)) ?_
  refine ap 5 1 ?_
  refine aq 6 rfl (y_load (.string (bs a0.Orient)) 0 g0_0 1) ?_
  refine ap 7 1 ?_
  refine aq 8 rfl (y_load (.string (bs v1_1.Orient)) 2 g1_2 1) ?_
  obtain ⟨v2_9, hv2_9, h⟩ := H.call h
  refine aq 9 rfl (y_call [.string (bs a0.Orient), .string (bs v1_1.Orient)] (.int .i64 v2_9) func140 (fun W S => C.i_apart W hv2_9)) ?_
  refine ap 10 2 ?_
  refine a_done ?_
  refine c_seq ?_
  refine c_seq ?_
  refine r_start ?_
  refine p 1 ?_
  refine xq rfl (y_load (.int .i64 a0.Region) 0 g0_0 2) ?_
  refine p 2 ?_
  refine br (decide (a0.Region ≥ 0)) (fun q1 => ?_) (fun q1 => ?_)
  · replace h := H.t q1 h
    refine o_set 23 (congrArg Value.bool q1) ?_
    refine p 1 ?_
    refine xq rfl (y_load (.int .i64 a0.Region) 0 g0_0 2) ?_
    refine p 1 ?_
    refine xq rfl (y_load (.int .i64 v1_1.Region) 2 g1_2 2) ?_
    refine p 2 ?_
    refine rend ?_
    refine c_or (a0.Region != v1_1.Region) (fun q2 => ?_) (fun q2 => ?_)
    · replace h := H.t q2 h
      refine r_start ?_
      refine p 3 ?_
      refine rend ?_
      refine c_seq ?_
      refine c_seq ?_
      refine r_start ?_
      refine p 1 ?_
      refine xq rfl (y_load (.int .i64 a0.Hands) 0 g0_0 4) ?_
      refine p 2 ?_
      refine br (decide (a0.Hands > 0)) (fun q3 => ?_) (fun q3 => ?_)
      · replace h := H.t q3 h
        refine o_set 35 (congrArg Value.bool q3) ?_
        refine p 1 ?_
        refine xq rfl (y_load (.int .i64 a0.Hands) 0 g0_0 4) ?_
        refine p 1 ?_
        refine xq rfl (y_load (.int .i64 v1_1.Hands) 2 g1_2 4) ?_
        refine p 2 ?_
        refine rend ?_
        refine c_or (a0.Hands != v1_1.Hands) (fun q4 => ?_) (fun q4 => ?_)
        · replace h := H.t q4 h
          refine r_start ?_
          refine p 3 ?_
          refine rend ?_
          refine c_seq ?_
          refine c_seq ?_
          refine r_start ?_
          refine p 1 ?_
          refine xq rfl (y_load (.string (bs a0.Steps)) 0 g0_0 3) ?_
          refine p 1 ?_
          refine xq rfl (y_load (.string (bs v1_1.Steps)) 2 g1_2 3) ?_
          obtain ⟨v7_4, hv7_4, h⟩ := H.call h
          refine xq rfl (y_call [.string (bs a0.Steps), .string (bs v1_1.Steps)] (.bool v7_4) func177 (fun W S => C.i_fits W hv7_4)) ?_
          refine p 1 ?_
          refine rend ?_
          refine c_or (!v7_4) (fun q5 => ?_) (fun q5 => ?_)
          · replace h := H.t q5 h
            refine r_start ?_
            refine p 3 ?_
            refine rend ?_
            refine c_seq ?_
            refine r_start ?_
            refine p 2 ?_
            refine rend ?_
            replace h := H.done h
            subst h
            exact ret func128 rfl (vs := [.int .i64 (wr ((wr ((wr ((wr (v2_4 + v2_9)) + 2)) + 2)) + 3))]) (.tmp (by kernel_rfl) .nil) rfl (fun W S => ⟨rfl, S.below⟩)
          replace h := H.f q5 h
          refine c_skip ?_
          refine c_seq ?_
          refine r_start ?_
          refine p 2 ?_
          refine rend ?_
          replace h := H.done h
          subst h
          exact ret func128 rfl (vs := [.int .i64 (wr ((wr ((wr (v2_4 + v2_9)) + 2)) + 2))]) (.tmp (by kernel_rfl) .nil) rfl (fun W S => ⟨rfl, S.below⟩)
        replace h := H.f q4 h
        refine c_skip ?_
        refine c_seq ?_
        refine c_seq ?_
        refine r_start ?_
        refine p 1 ?_
        refine xq rfl (y_load (.string (bs a0.Steps)) 0 g0_0 3) ?_
        refine p 1 ?_
        refine xq rfl (y_load (.string (bs v1_1.Steps)) 2 g1_2 3) ?_
        obtain ⟨v7_4, hv7_4, h⟩ := H.call h
        refine xq rfl (y_call [.string (bs a0.Steps), .string (bs v1_1.Steps)] (.bool v7_4) func177 (fun W S => C.i_fits W hv7_4)) ?_
        refine p 1 ?_
        refine rend ?_
        refine c_or (!v7_4) (fun q6 => ?_) (fun q6 => ?_)
        · replace h := H.t q6 h
          refine r_start ?_
          refine p 3 ?_
          refine rend ?_
          refine c_seq ?_
          refine r_start ?_
          refine p 2 ?_
          refine rend ?_
          replace h := H.done h
          subst h
          exact ret func128 rfl (vs := [.int .i64 (wr ((wr ((wr (v2_4 + v2_9)) + 2)) + 3))]) (.tmp (by kernel_rfl) .nil) rfl (fun W S => ⟨rfl, S.below⟩)
        replace h := H.f q6 h
        refine c_skip ?_
        refine c_seq ?_
        refine r_start ?_
        refine p 2 ?_
        refine rend ?_
        replace h := H.done h
        subst h
        exact ret func128 rfl (vs := [.int .i64 (wr ((wr (v2_4 + v2_9)) + 2))]) (.tmp (by kernel_rfl) .nil) rfl (fun W S => ⟨rfl, S.below⟩)
      replace h := H.f q3 h
      refine o_set 35 (congrArg Value.bool q3) ?_
      refine p 6 ?_
      refine rend ?_
      refine c_f (by kernel_rfl) ?_
      refine c_skip ?_
      refine c_seq ?_
      refine c_seq ?_
      refine r_start ?_
      refine p 1 ?_
      refine xq rfl (y_load (.string (bs a0.Steps)) 0 g0_0 3) ?_
      refine p 1 ?_
      refine xq rfl (y_load (.string (bs v1_1.Steps)) 2 g1_2 3) ?_
      obtain ⟨v7_4, hv7_4, h⟩ := H.call h
      refine xq rfl (y_call [.string (bs a0.Steps), .string (bs v1_1.Steps)] (.bool v7_4) func177 (fun W S => C.i_fits W hv7_4)) ?_
      refine p 1 ?_
      refine rend ?_
      refine c_or (!v7_4) (fun q7 => ?_) (fun q7 => ?_)
      · replace h := H.t q7 h
        refine r_start ?_
        refine p 3 ?_
        refine rend ?_
        refine c_seq ?_
        refine r_start ?_
        refine p 2 ?_
        refine rend ?_
        replace h := H.done h
        subst h
        exact ret func128 rfl (vs := [.int .i64 (wr ((wr ((wr (v2_4 + v2_9)) + 2)) + 3))]) (.tmp (by kernel_rfl) .nil) rfl (fun W S => ⟨rfl, S.below⟩)
      replace h := H.f q7 h
      refine c_skip ?_
      refine c_seq ?_
      refine r_start ?_
      refine p 2 ?_
      refine rend ?_
      replace h := H.done h
      subst h
      exact ret func128 rfl (vs := [.int .i64 (wr ((wr (v2_4 + v2_9)) + 2))]) (.tmp (by kernel_rfl) .nil) rfl (fun W S => ⟨rfl, S.below⟩)
    replace h := H.f q2 h
    refine c_skip ?_
    refine c_seq ?_
    refine c_seq ?_
    refine r_start ?_
    refine p 1 ?_
    refine xq rfl (y_load (.int .i64 a0.Hands) 0 g0_0 4) ?_
    refine p 2 ?_
    refine br (decide (a0.Hands > 0)) (fun q8 => ?_) (fun q8 => ?_)
    · replace h := H.t q8 h
      refine o_set 35 (congrArg Value.bool q8) ?_
      refine p 1 ?_
      refine xq rfl (y_load (.int .i64 a0.Hands) 0 g0_0 4) ?_
      refine p 1 ?_
      refine xq rfl (y_load (.int .i64 v1_1.Hands) 2 g1_2 4) ?_
      refine p 2 ?_
      refine rend ?_
      refine c_or (a0.Hands != v1_1.Hands) (fun q9 => ?_) (fun q9 => ?_)
      · replace h := H.t q9 h
        refine r_start ?_
        refine p 3 ?_
        refine rend ?_
        refine c_seq ?_
        refine c_seq ?_
        refine r_start ?_
        refine p 1 ?_
        refine xq rfl (y_load (.string (bs a0.Steps)) 0 g0_0 3) ?_
        refine p 1 ?_
        refine xq rfl (y_load (.string (bs v1_1.Steps)) 2 g1_2 3) ?_
        obtain ⟨v7_4, hv7_4, h⟩ := H.call h
        refine xq rfl (y_call [.string (bs a0.Steps), .string (bs v1_1.Steps)] (.bool v7_4) func177 (fun W S => C.i_fits W hv7_4)) ?_
        refine p 1 ?_
        refine rend ?_
        refine c_or (!v7_4) (fun q10 => ?_) (fun q10 => ?_)
        · replace h := H.t q10 h
          refine r_start ?_
          refine p 3 ?_
          refine rend ?_
          refine c_seq ?_
          refine r_start ?_
          refine p 2 ?_
          refine rend ?_
          replace h := H.done h
          subst h
          exact ret func128 rfl (vs := [.int .i64 (wr ((wr ((wr (v2_4 + v2_9)) + 2)) + 3))]) (.tmp (by kernel_rfl) .nil) rfl (fun W S => ⟨rfl, S.below⟩)
        replace h := H.f q10 h
        refine c_skip ?_
        refine c_seq ?_
        refine r_start ?_
        refine p 2 ?_
        refine rend ?_
        replace h := H.done h
        subst h
        exact ret func128 rfl (vs := [.int .i64 (wr ((wr (v2_4 + v2_9)) + 2))]) (.tmp (by kernel_rfl) .nil) rfl (fun W S => ⟨rfl, S.below⟩)
      replace h := H.f q9 h
      refine c_skip ?_
      refine c_seq ?_
      refine c_seq ?_
      refine r_start ?_
      refine p 1 ?_
      refine xq rfl (y_load (.string (bs a0.Steps)) 0 g0_0 3) ?_
      refine p 1 ?_
      refine xq rfl (y_load (.string (bs v1_1.Steps)) 2 g1_2 3) ?_
      obtain ⟨v7_4, hv7_4, h⟩ := H.call h
      refine xq rfl (y_call [.string (bs a0.Steps), .string (bs v1_1.Steps)] (.bool v7_4) func177 (fun W S => C.i_fits W hv7_4)) ?_
      refine p 1 ?_
      refine rend ?_
      refine c_or (!v7_4) (fun q11 => ?_) (fun q11 => ?_)
      · replace h := H.t q11 h
        refine r_start ?_
        refine p 3 ?_
        refine rend ?_
        refine c_seq ?_
        refine r_start ?_
        refine p 2 ?_
        refine rend ?_
        replace h := H.done h
        subst h
        exact ret func128 rfl (vs := [.int .i64 (wr ((wr (v2_4 + v2_9)) + 3))]) (.tmp (by kernel_rfl) .nil) rfl (fun W S => ⟨rfl, S.below⟩)
      replace h := H.f q11 h
      refine c_skip ?_
      refine c_seq ?_
      refine r_start ?_
      refine p 2 ?_
      refine rend ?_
      replace h := H.done h
      subst h
      exact ret func128 rfl (vs := [.int .i64 (wr (v2_4 + v2_9))]) (.tmp (by kernel_rfl) .nil) rfl (fun W S => ⟨rfl, S.below⟩)
    replace h := H.f q8 h
    refine o_set 35 (congrArg Value.bool q8) ?_
    refine p 6 ?_
    refine rend ?_
    refine c_f (by kernel_rfl) ?_
    refine c_skip ?_
    refine c_seq ?_
    refine c_seq ?_
    refine r_start ?_
    refine p 1 ?_
    refine xq rfl (y_load (.string (bs a0.Steps)) 0 g0_0 3) ?_
    refine p 1 ?_
    refine xq rfl (y_load (.string (bs v1_1.Steps)) 2 g1_2 3) ?_
    obtain ⟨v7_4, hv7_4, h⟩ := H.call h
    refine xq rfl (y_call [.string (bs a0.Steps), .string (bs v1_1.Steps)] (.bool v7_4) func177 (fun W S => C.i_fits W hv7_4)) ?_
    refine p 1 ?_
    refine rend ?_
    refine c_or (!v7_4) (fun q12 => ?_) (fun q12 => ?_)
    · replace h := H.t q12 h
      refine r_start ?_
      refine p 3 ?_
      refine rend ?_
      refine c_seq ?_
      refine r_start ?_
      refine p 2 ?_
      refine rend ?_
      replace h := H.done h
      subst h
      exact ret func128 rfl (vs := [.int .i64 (wr ((wr (v2_4 + v2_9)) + 3))]) (.tmp (by kernel_rfl) .nil) rfl (fun W S => ⟨rfl, S.below⟩)
    replace h := H.f q12 h
    refine c_skip ?_
    refine c_seq ?_
    refine r_start ?_
    refine p 2 ?_
    refine rend ?_
    replace h := H.done h
    subst h
    exact ret func128 rfl (vs := [.int .i64 (wr (v2_4 + v2_9))]) (.tmp (by kernel_rfl) .nil) rfl (fun W S => ⟨rfl, S.below⟩)
  replace h := H.f q1 h
  refine o_set 23 (congrArg Value.bool q1) ?_
  refine p 6 ?_
  refine rend ?_
  refine c_f (by kernel_rfl) ?_
  refine c_skip ?_
  refine c_seq ?_
  refine c_seq ?_
  refine r_start ?_
  refine p 1 ?_
  refine xq rfl (y_load (.int .i64 a0.Hands) 0 g0_0 4) ?_
  refine p 2 ?_
  refine br (decide (a0.Hands > 0)) (fun q13 => ?_) (fun q13 => ?_)
  · replace h := H.t q13 h
    refine o_set 35 (congrArg Value.bool q13) ?_
    refine p 1 ?_
    refine xq rfl (y_load (.int .i64 a0.Hands) 0 g0_0 4) ?_
    refine p 1 ?_
    refine xq rfl (y_load (.int .i64 v1_1.Hands) 2 g1_2 4) ?_
    refine p 2 ?_
    refine rend ?_
    refine c_or (a0.Hands != v1_1.Hands) (fun q14 => ?_) (fun q14 => ?_)
    · replace h := H.t q14 h
      refine r_start ?_
      refine p 3 ?_
      refine rend ?_
      refine c_seq ?_
      refine c_seq ?_
      refine r_start ?_
      refine p 1 ?_
      refine xq rfl (y_load (.string (bs a0.Steps)) 0 g0_0 3) ?_
      refine p 1 ?_
      refine xq rfl (y_load (.string (bs v1_1.Steps)) 2 g1_2 3) ?_
      obtain ⟨v7_4, hv7_4, h⟩ := H.call h
      refine xq rfl (y_call [.string (bs a0.Steps), .string (bs v1_1.Steps)] (.bool v7_4) func177 (fun W S => C.i_fits W hv7_4)) ?_
      refine p 1 ?_
      refine rend ?_
      refine c_or (!v7_4) (fun q15 => ?_) (fun q15 => ?_)
      · replace h := H.t q15 h
        refine r_start ?_
        refine p 3 ?_
        refine rend ?_
        refine c_seq ?_
        refine r_start ?_
        refine p 2 ?_
        refine rend ?_
        replace h := H.done h
        subst h
        exact ret func128 rfl (vs := [.int .i64 (wr ((wr ((wr (v2_4 + v2_9)) + 2)) + 3))]) (.tmp (by kernel_rfl) .nil) rfl (fun W S => ⟨rfl, S.below⟩)
      replace h := H.f q15 h
      refine c_skip ?_
      refine c_seq ?_
      refine r_start ?_
      refine p 2 ?_
      refine rend ?_
      replace h := H.done h
      subst h
      exact ret func128 rfl (vs := [.int .i64 (wr ((wr (v2_4 + v2_9)) + 2))]) (.tmp (by kernel_rfl) .nil) rfl (fun W S => ⟨rfl, S.below⟩)
    replace h := H.f q14 h
    refine c_skip ?_
    refine c_seq ?_
    refine c_seq ?_
    refine r_start ?_
    refine p 1 ?_
    refine xq rfl (y_load (.string (bs a0.Steps)) 0 g0_0 3) ?_
    refine p 1 ?_
    refine xq rfl (y_load (.string (bs v1_1.Steps)) 2 g1_2 3) ?_
    obtain ⟨v7_4, hv7_4, h⟩ := H.call h
    refine xq rfl (y_call [.string (bs a0.Steps), .string (bs v1_1.Steps)] (.bool v7_4) func177 (fun W S => C.i_fits W hv7_4)) ?_
    refine p 1 ?_
    refine rend ?_
    refine c_or (!v7_4) (fun q16 => ?_) (fun q16 => ?_)
    · replace h := H.t q16 h
      refine r_start ?_
      refine p 3 ?_
      refine rend ?_
      refine c_seq ?_
      refine r_start ?_
      refine p 2 ?_
      refine rend ?_
      replace h := H.done h
      subst h
      exact ret func128 rfl (vs := [.int .i64 (wr ((wr (v2_4 + v2_9)) + 3))]) (.tmp (by kernel_rfl) .nil) rfl (fun W S => ⟨rfl, S.below⟩)
    replace h := H.f q16 h
    refine c_skip ?_
    refine c_seq ?_
    refine r_start ?_
    refine p 2 ?_
    refine rend ?_
    replace h := H.done h
    subst h
    exact ret func128 rfl (vs := [.int .i64 (wr (v2_4 + v2_9))]) (.tmp (by kernel_rfl) .nil) rfl (fun W S => ⟨rfl, S.below⟩)
  replace h := H.f q13 h
  refine o_set 35 (congrArg Value.bool q13) ?_
  refine p 6 ?_
  refine rend ?_
  refine c_f (by kernel_rfl) ?_
  refine c_skip ?_
  refine c_seq ?_
  refine c_seq ?_
  refine r_start ?_
  refine p 1 ?_
  refine xq rfl (y_load (.string (bs a0.Steps)) 0 g0_0 3) ?_
  refine p 1 ?_
  refine xq rfl (y_load (.string (bs v1_1.Steps)) 2 g1_2 3) ?_
  obtain ⟨v7_4, hv7_4, h⟩ := H.call h
  refine xq rfl (y_call [.string (bs a0.Steps), .string (bs v1_1.Steps)] (.bool v7_4) func177 (fun W S => C.i_fits W hv7_4)) ?_
  refine p 1 ?_
  refine rend ?_
  refine c_or (!v7_4) (fun q17 => ?_) (fun q17 => ?_)
  · replace h := H.t q17 h
    refine r_start ?_
    refine p 3 ?_
    refine rend ?_
    refine c_seq ?_
    refine r_start ?_
    refine p 2 ?_
    refine rend ?_
    replace h := H.done h
    subst h
    exact ret func128 rfl (vs := [.int .i64 (wr ((wr (v2_4 + v2_9)) + 3))]) (.tmp (by kernel_rfl) .nil) rfl (fun W S => ⟨rfl, S.below⟩)
  replace h := H.f q17 h
  refine c_skip ?_
  refine c_seq ?_
  refine r_start ?_
  refine p 2 ?_
  refine rend ?_
  replace h := H.done h
  subst h
  exact ret func128 rfl (vs := [.int .i64 (wr (v2_4 + v2_9))]) (.tmp (by kernel_rfl) .nil) rfl (fun W S => ⟨rfl, S.below⟩)
theorem C.i_Pattern_answers_1 {fu : Nat} {a0 : Sign} {a1 : Pattern} {p1 : Nat} {r : Bool} (w : World) (h : X.i_Pattern_answers_1 fu a1 a0 = some r) (hp1 : w.heap[p1]? = some (.cells (ePattern a1 : List Value).toArray 79 (0, 0))) : Calls prog 174 #[.agg (eSign a0).toArray, .pointer (some ⟨p1, 0, none⟩)] w (Ret w (.bool r)) := by
  refine calls (M := no) (args := [.agg (eSign a0).toArray, .pointer (some ⟨p1, 0, none⟩)]) func174 rfl ?_
  replace h : H (X.i_Pattern_answers_1 fu a1 a0) (fun o => o = r) := H.mk h
  unfold X.i_Pattern_answers_1 at h
  refine c_seq ?_
  refine r_start ?_
  refine xx rfl (x_box (eSign a0) fun g0_0 => ?_)
  refine p 1 ?_
  refine rend ?_
  refine c_seq ?_
  refine r_start ?_
  refine xq rfl (y_ld0 (.agg (ePattern a1).toArray) p1 0 hp1) ?_
  refine xq rfl (y_load (.agg (eSign a0).toArray) 0 g0_0 0) ?_
  obtain ⟨v1_2, hv1_2, h⟩ := H.call h
  refine xq rfl (y_call [.agg (ePattern a1).toArray, .agg (eSign a0).toArray] (.int .i64 v1_2) func128 (fun W S => C.i_Pattern_cost W hv1_2)) ?_
  refine p 2 ?_
  refine rend ?_
  replace h := H.done h
  subst h
  exact ret func174 rfl (vs := [.bool (v1_2 == 0)]) (.tmp (by kernel_rfl) .nil) rfl (fun W S => ⟨rfl, S.below⟩)
theorem C.i_Pattern_answers {fu : Nat} {a0 : Pattern} {a1 : (List Sign)} {A1 : Option Addr} {k1 : Nat} {r : (List Int)} (w : World) (h : X.i_Pattern_answers fu a0 a1 = some r) (h1 : RdT nSign w (.slice A1 (List.length a1) k1) a1) : Calls prog 124 #[.agg (ePattern a0).toArray, .slice A1 (List.length a1) k1] w (RetR (eI .i64) 3 w r (fun v => v)) := by
  refine calls (M := no) (args := [.agg (ePattern a0).toArray, .slice A1 (List.length a1) k1]) func124 rfl ?_
  replace h : H (X.i_Pattern_answers fu a0 a1) (fun o => o = r) := H.mk h
  unfold X.i_Pattern_answers at h
  refine c_seq ?_
  refine r_start ?_
  refine xx rfl (x_box (ePattern a0) fun g0_0 => ?_)
  refine p 1 ?_
  refine rend ?_
  refine c_seq ?_
  refine r_start ?_
  refine p 2 ?_
  obtain ⟨v1_2, hv1_2, h⟩ := H.call h
  refine xx rfl (e_cr [.slice A1 (List.length a1) k1, .func (.func 174) #[] #[.pointer (some ⟨g0_0, 0, none⟩)]] (fun v => v) func103 (fun W S => C.i_those_i_Sign W hv1_2 ((s_arg h1).out W S) (isFn_of func174) (fun x0_2 r W2 hu2 hx2 => C.i_Pattern_answers_1 W2 hx2 (bx_up (S.bx 0) hu2))) fun A1_2 k1_2 => ?_)
  refine p 1 ?_
  refine rend ?_
  replace h := H.done h
  subst h
  exact ret func124 rfl (vs := [.slice A1_2 (List.length v1_2) k1_2]) (.tmp (by kernel_rfl) .nil) rfl (fun W S => ⟨_, _, rfl, S.row 1, S.below⟩)
theorem C.i_AnswersFor {fu : Nat} {a0 : Pattern} {a1 : (List Sign)} {A1 : Option Addr} {k1 : Nat} {r : ((List Int) × Bool)} (w : World) (h : X.i_AnswersFor fu a0 a1 = some r) (h1 : RdT nSign w (.slice A1 (List.length a1) k1) a1) : Calls prog 53 #[.agg (ePattern a0).toArray, .slice A1 (List.length a1) k1] w (RetR (eI .i64) 3 w r.1 (fun v => .tuple #[v, .bool r.2])) := by
  refine calls (M := no) (args := [.agg (ePattern a0).toArray, .slice A1 (List.length a1) k1]) func53 rfl ?_
  replace h : H (X.i_AnswersFor fu a0 a1) (fun o => o = r) := H.mk h
  unfold X.i_AnswersFor at h
  refine c_seq ?_
  refine r_start ?_
  refine xx rfl (x_box (ePattern a0) fun g0_0 => ?_)
  refine p 2 ?_
  refine rend ?_
  refine c_seq ?_
  refine c_seq ?_
  refine r_start ?_
  refine xq rfl (y_load (.agg (ePattern a0).toArray) 0 g0_0 0) ?_
  obtain ⟨v1_1, hv1_1, h⟩ := H.call h
  refine xq rfl (y_call [.agg (ePattern a0).toArray] (.bool v1_1) func56 (fun W S => C.i_IsPattern W hv1_1)) ?_
  refine p 2 ?_
  refine br (!v1_1) (fun q1 => ?_) (fun q1 => ?_)
  · replace h := H.t q1 h
    refine o_set 9 (congrArg Value.bool q1) ?_
    refine p 4 ?_
    refine rend ?_
    refine c_t (by kernel_rfl) ?_
    refine c_seq ?_
    refine r_start ?_
    refine p 2 ?_
    refine rend ?_
    replace h := H.done h
    subst h
    exact ret func53 rfl (vs := [.slice none 0 0, .bool false]) (.tmp (by kernel_rfl) (.tmp (by kernel_rfl) .nil)) rfl (fun W S => ⟨none, 0, rfl, World.ownsRow_nil _ _ _ _, S.below⟩)
  replace h := H.f q1 h
  refine o_set 9 (congrArg Value.bool q1) ?_
  refine p 1 ?_
  obtain ⟨v1_5, hv1_5, h⟩ := H.call h
  refine xq rfl (y_call [.slice A1 (List.length a1) k1, .int .i64 16] (.bool v1_5) func80 (fun W S => C.i_areSigns W hv1_5 ((s_arg h1).out W S))) ?_
  refine p 2 ?_
  refine rend ?_
  refine c_or (!v1_5) (fun q2 => ?_) (fun q2 => ?_)
  · replace h := H.t q2 h
    refine c_seq ?_
    refine r_start ?_
    refine p 2 ?_
    refine rend ?_
    replace h := H.done h
    subst h
    exact ret func53 rfl (vs := [.slice none 0 0, .bool false]) (.tmp (by kernel_rfl) (.tmp (by kernel_rfl) .nil)) rfl (fun W S => ⟨none, 0, rfl, World.ownsRow_nil _ _ _ _, S.below⟩)
  replace h := H.f q2 h
  refine c_skip ?_
  refine c_seq ?_
  refine r_start ?_
  refine xq rfl (y_load (.agg (ePattern a0).toArray) 0 g0_0 0) ?_
  refine p 1 ?_
  obtain ⟨v3_2, hv3_2, h⟩ := H.call h
  refine xx rfl (e_cr [.agg (ePattern a0).toArray, .slice A1 (List.length a1) k1] (fun v => v) func124 (fun W S => C.i_Pattern_answers W hv3_2 ((s_arg h1).out W S)) fun A3_2 k3_2 => ?_)
  refine p 2 ?_
  refine rend ?_
  replace h := H.done h
  subst h
  exact ret func53 rfl (vs := [.slice A3_2 (List.length v3_2) k3_2, .bool true]) (.tmp (by kernel_rfl) (.tmp (by kernel_rfl) .nil)) rfl (fun W S => ⟨_, _, rfl, S.row 1, S.below⟩)
theorem C.s_seIn {fu : Nat} {a0 : Str} {a1 : Int} {r : Bool} (w : World) (h : X.s_seIn fu a0 a1 = some r) : Calls prog 216 #[.string (bs a0), .int .u8 a1] w (Ret w (.bool r)) := by
  refine calls (M := no) (args := [.string (bs a0), .int .u8 a1]) func216 rfl ?_
  replace h : H (X.s_seIn fu a0 a1) (fun o => o = r) := H.mk h
  unfold X.s_seIn at h
  refine c_seq ?_
  refine r_start ?_
  refine p 1 ?_
  refine rend ?_
  refine c_seq ?_
  refine c_seq ?_
  refine r_start ?_
  refine p 1 ?_
  refine rend ?_
  refine c_block ?_
  refine joinE (X := Unit) 0 (H.or h) (fun (x : Unit) => x) (fun _ => []) (fun _ u => (jk u 0 17 [])) (fun h hj2 => ?_) ?_
  · skip
    refine loopR (X := Int) (fun (x : Int) => x) (fun n1 => []) (fun n1 u => (.string (bs a0) :: .int .u8 a1 :: (jk u 2 3 (.int .i64 n1 :: (jk u 6 11 []))))) 0 h (by kernel_rfl) (by kernel_rfl) ?_
    intro n1 u h
    refine c_seq ?_
    refine c_seq ?_
    refine r_start ?_
    refine p 4 ?_
    refine rend ?_
    refine c_or (decide (n1 < (List.length a0 : Int))) (fun q3 => ?_) (fun q3 => ?_)
    · replace h := H.t q3 h
      refine c_skip ?_
      refine c_seq ?_
      refine c_block ?_
      refine c_seq ?_
      refine r_start ?_
      refine p 2 ?_
      obtain ⟨y4_2, hy4_2, h⟩ := H.call h
      refine xq rfl (y_byte hy4_2) ?_
      refine p 2 ?_
      refine rend ?_
      refine c_or (y4_2 == a1) (fun q4 => ?_) (fun q4 => ?_)
      · replace h := H.t q4 h
        refine c_seq ?_
        refine r_start ?_
        refine p 1 ?_
        refine rend ?_
        replace h := H.inr h
        replace h := H.done h
        subst h
        exact ret func216 rfl (vs := [.bool true]) (.tmp (by kernel_rfl) .nil) rfl (fun W S => ⟨rfl, S.below⟩)
      replace h := H.f q4 h
      refine c_skip ?_
      refine c_inb ?_
      refine r_start ?_
      refine p 3 ?_
      refine rend ?_
      replace h := H.inl h
      exact h (wr (n1 + 1)) _ _ rfl (by kernel_rfl) (by kernel_rfl)
    replace h := H.f q3 h
    refine cx ?_
    replace h := H.inr h
    exact hj2 () _ _ h (by kernel_rfl) (by kernel_rfl)
  intro x u h
  refine c_seq ?_
  refine r_start ?_
  refine p 1 ?_
  refine rend ?_
  replace h := H.done h
  subst h
  exact ret func216 rfl (vs := [.bool false]) (.tmp (by kernel_rfl) .nil) rfl (fun W S => ⟨rfl, S.below⟩)
theorem C.s_seWild {fu : Nat} {a0 : Str} {a1 : Str} {a2 : Int} {r : Bool} (w : World) (h : X.s_seWild fu a0 a1 a2 = some r) : Calls prog 178 #[.string (bs a0), .string (bs a1), .int .i64 a2] w (Ret w (.bool r)) := by
  refine calls (M := no) (args := [.string (bs a0), .string (bs a1), .int .i64 a2]) func178 rfl ?_
  replace h : H (X.s_seWild fu a0 a1 a2) (fun o => o = r) := H.mk h
  unfold X.s_seWild at h
  refine c_seq ?_
  refine r_start ?_
  refine p 1 ?_
  refine rend ?_
  refine c_seq ?_
  refine c_seq ?_
  refine r_start ?_
  refine p 4 ?_
  refine rend ?_
  refine c_or ((List.length a0 : Int) != a2) (fun q1 => ?_) (fun q1 => ?_)
  · replace h := H.t q1 h
    refine c_seq ?_
    refine r_start ?_
    refine p 1 ?_
    refine rend ?_
    replace h := H.done h
    subst h
    exact ret func178 rfl (vs := [.bool false]) (.tmp (by kernel_rfl) .nil) rfl (fun W S => ⟨rfl, S.below⟩)
  replace h := H.f q1 h
  refine c_skip ?_
  refine c_seq ?_
  refine c_seq ?_
  refine r_start ?_
  refine p 1 ?_
  refine rend ?_
  refine c_block ?_
  refine joinE (X := Unit) 0 (H.or h) (fun (x : Unit) => x) (fun _ => []) (fun _ u => (jk u 0 30 [])) (fun h hj3 => ?_) ?_
  · skip
    refine loopR (X := Int) (fun (x : Int) => x) (fun n2 => []) (fun n2 u => (.string (bs a0) :: .string (bs a1) :: (jk u 2 5 (.int .i64 n2 :: (jk u 8 22 []))))) 0 h (by kernel_rfl) (by kernel_rfl) ?_
    intro n2 u h
    refine c_seq ?_
    refine c_seq ?_
    refine r_start ?_
    refine p 4 ?_
    refine rend ?_
    refine c_or (decide (n2 < (List.length a0 : Int))) (fun q4 => ?_) (fun q4 => ?_)
    · replace h := H.t q4 h
      refine c_skip ?_
      refine c_seq ?_
      refine c_block ?_
      refine c_seq ?_
      refine r_start ?_
      refine p 2 ?_
      obtain ⟨y6_2, hy6_2, h⟩ := H.call h
      refine xq rfl (y_byte hy6_2) ?_
      refine p 2 ?_
      refine br (y6_2 != 63) (fun q5 => ?_) (fun q5 => ?_)
      · replace h := H.t q5 h
        refine o_set 22 (congrArg Value.bool q5) ?_
        refine p 3 ?_
        refine xq rfl (y_byte hy6_2) ?_
        obtain ⟨v6_9, hv6_9, h⟩ := H.call h
        refine xq rfl (y_call [.string (bs a1), .int .u8 y6_2] (.bool v6_9) func216 (fun W S => C.s_seIn W hv6_9)) ?_
        refine p 2 ?_
        refine rend ?_
        refine c_or (!v6_9) (fun q6 => ?_) (fun q6 => ?_)
        · replace h := H.t q6 h
          refine c_seq ?_
          refine r_start ?_
          refine p 1 ?_
          refine rend ?_
          replace h := H.inr h
          replace h := H.done h
          subst h
          exact ret func178 rfl (vs := [.bool false]) (.tmp (by kernel_rfl) .nil) rfl (fun W S => ⟨rfl, S.below⟩)
        replace h := H.f q6 h
        refine c_skip ?_
        refine c_inb ?_
        refine r_start ?_
        refine p 3 ?_
        refine rend ?_
        replace h := H.inl h
        exact h (wr (n2 + 1)) _ _ rfl (by kernel_rfl) (by kernel_rfl)
      replace h := H.f q5 h
      refine o_set 22 (congrArg Value.bool q5) ?_
      refine p 7 ?_
      refine rend ?_
      refine c_f (by kernel_rfl) ?_
      refine c_skip ?_
      refine c_inb ?_
      refine r_start ?_
      refine p 3 ?_
      refine rend ?_
      replace h := H.inl h
      exact h (wr (n2 + 1)) _ _ rfl (by kernel_rfl) (by kernel_rfl)
    replace h := H.f q4 h
    refine cx ?_
    replace h := H.inr h
    exact hj3 () _ _ h (by kernel_rfl) (by kernel_rfl)
  intro x u h
  refine c_seq ?_
  refine r_start ?_
  refine p 1 ?_
  refine rend ?_
  replace h := H.done h
  subst h
  exact ret func178 rfl (vs := [.bool true]) (.tmp (by kernel_rfl) .nil) rfl (fun W S => ⟨rfl, S.below⟩)
theorem C.s_seGood {fu : Nat} {a0 : Pattern} {r : Bool} (w : World) (h : X.s_seGood fu a0 = some r) : Calls prog 129 #[.agg (ePattern a0).toArray] w (Ret w (.bool r)) := by
  refine calls (M := no) (args := [.agg (ePattern a0).toArray]) func129 rfl ?_
  replace h : H (X.s_seGood fu a0) (fun o => o = r) := H.mk h
  unfold X.s_seGood at h
  refine c_seq ?_
  refine r_start ?_
  refine xx rfl (x_box (ePattern a0) fun g0_0 => ?_)
  refine p 1 ?_
  refine rend ?_
  refine c_seq ?_
  refine r_start ?_
  refine p 1 ?_
  refine xq rfl (y_load (.string (bs a0.Shape)) 0 g0_0 0) ?_
  obtain ⟨v1_2, hv1_2, h⟩ := H.call h
  refine xq rfl (y_call [.string (bs a0.Shape), .string (bs ([48, 49, 50] : Str)), .int .i64 5] (.bool v1_2) func178 (fun W S => C.s_seWild W hv1_2)) ?_
  refine p 1 ?_
  refine br v1_2 (fun q1 => ?_) (fun q1 => ?_)
  · replace h := H.t q1 h
    refine o_set 6 (congrArg Value.bool q1) ?_
    refine p 1 ?_
    refine xq rfl (y_load (.string (bs a0.Orient)) 0 g0_0 1) ?_
    obtain ⟨v1_6, hv1_6, h⟩ := H.call h
    refine xq rfl (y_call [.string (bs a0.Orient), .string (bs ([117, 100, 108, 114, 102, 98] : Str)), .int .i64 2] (.bool v1_6) func178 (fun W S => C.s_seWild W hv1_6)) ?_
    refine p 2 ?_
    refine br v1_6 (fun q2 => ?_) (fun q2 => ?_)
    · replace h := H.t q2 h
      refine o_set 11 (congrArg Value.bool q2) ?_
      refine p 1 ?_
      refine xq rfl (y_load (.int .i64 a0.Region) 0 g0_0 2) ?_
      obtain ⟨v1_11, hv1_11, h⟩ := H.call h
      refine xq rfl (y_call [.int .i64 a0.Region, .int .i64 (-1), .int .i64 9] (.bool v1_11) func145 (fun W S => C.s_l1In W hv1_11)) ?_
      refine p 2 ?_
      refine br v1_11 (fun q3 => ?_) (fun q3 => ?_)
      · replace h := H.t q3 h
        refine o_set 16 (congrArg Value.bool q3) ?_
        refine p 1 ?_
        refine xq rfl (y_load (.string (bs a0.Steps)) 0 g0_0 3) ?_
        refine p 4 ?_
        refine br (decide ((List.length a0.Steps : Int) ≤ 20)) (fun q4 => ?_) (fun q4 => ?_)
        · replace h := H.t q4 h
          refine o_set 22 (congrArg Value.bool q4) ?_
          refine p 1 ?_
          refine xq rfl (y_load (.string (bs a0.Steps)) 0 g0_0 3) ?_
          refine p 1 ?_
          refine xq rfl (y_load (.string (bs a0.Steps)) 0 g0_0 3) ?_
          refine p 1 ?_
          obtain ⟨v1_25, hv1_25, h⟩ := H.call h
          refine xq rfl (y_call [.string (bs a0.Steps), .string (bs ([117, 100, 108, 114, 102, 98, 42] : Str)), .int .i64 (List.length a0.Steps : Int)] (.bool v1_25) func178 (fun W S => C.s_seWild W hv1_25)) ?_
          refine p 2 ?_
          refine br v1_25 (fun q5 => ?_) (fun q5 => ?_)
          · replace h := H.t q5 h
            refine o_set 30 (congrArg Value.bool q5) ?_
            refine p 1 ?_
            refine xq rfl (y_load (.int .i64 a0.Hands) 0 g0_0 4) ?_
            obtain ⟨v1_30, hv1_30, h⟩ := H.call h
            refine xq rfl (y_call [.int .i64 a0.Hands, .int .i64 0, .int .i64 2] (.bool v1_30) func145 (fun W S => C.s_l1In W hv1_30)) ?_
            refine p 2 ?_
            refine rend ?_
            replace h := H.done h
            subst h
            exact ret func129 rfl (vs := [.bool v1_30]) (.tmp (by kernel_rfl) .nil) rfl (fun W S => ⟨rfl, S.below⟩)
          replace h := H.f q5 h
          refine o_set 30 (congrArg Value.bool q5) ?_
          refine p 5 ?_
          refine rend ?_
          replace h := H.done h
          subst h
          exact ret func129 rfl (vs := [.bool false]) (.tmp (by kernel_rfl) .nil) rfl (fun W S => ⟨rfl, S.below⟩)
        replace h := H.f q4 h
        refine o_set 22 (congrArg Value.bool q4) ?_
        refine p 13 ?_
        refine rend ?_
        replace h := H.done h
        subst h
        exact ret func129 rfl (vs := [.bool false]) (.tmp (by kernel_rfl) .nil) rfl (fun W S => ⟨rfl, S.below⟩)
      replace h := H.f q3 h
      refine o_set 16 (congrArg Value.bool q3) ?_
      refine p 19 ?_
      refine rend ?_
      replace h := H.done h
      subst h
      exact ret func129 rfl (vs := [.bool false]) (.tmp (by kernel_rfl) .nil) rfl (fun W S => ⟨rfl, S.below⟩)
    replace h := H.f q2 h
    refine o_set 11 (congrArg Value.bool q2) ?_
    refine p 24 ?_
    refine rend ?_
    replace h := H.done h
    subst h
    exact ret func129 rfl (vs := [.bool false]) (.tmp (by kernel_rfl) .nil) rfl (fun W S => ⟨rfl, S.below⟩)
  replace h := H.f q1 h
  refine o_set 6 (congrArg Value.bool q1) ?_
  refine p 29 ?_
  refine rend ?_
  replace h := H.done h
  subst h
  exact ret func129 rfl (vs := [.bool false]) (.tmp (by kernel_rfl) .nil) rfl (fun W S => ⟨rfl, S.below⟩)
theorem C.s_noList {fu : Nat} {a0 : (List Sign)} {A0 : Option Addr} {k0 : Nat} {r : Bool} (w : World) (h : X.s_noList fu a0 = some r) (h0 : RdT nSign w (.slice A0 (List.length a0) k0) a0) : Calls prog 175 #[.slice A0 (List.length a0) k0] w (Ret w (.bool r)) := by
  refine calls (M := no) (args := [.slice A0 (List.length a0) k0]) func175 rfl ?_
  replace h : H (X.s_noList fu a0) (fun o => o = r) := H.mk h
  unfold X.s_noList at h
  refine c_seq ?_
  refine r_start ?_
  refine p 1 ?_
  refine rend ?_
  refine c_seq ?_
  refine c_seq ?_
  refine r_start ?_
  refine p 3 ?_
  refine rend ?_
  refine c_block ?_
  refine joinE (X := Unit) 0 (H.or h) (fun (x : Unit) => x) (fun _ => []) (fun _ u => (.slice A0 (List.length a0) k0 :: (jk u 1 17 []))) (fun h hj1 => ?_) ?_
  · skip
    refine rangeR (X := Unit) (s_arg h0) (fun (x : Unit) => x) (fun _ => []) (fun (j2 : Nat) _ u => (.slice A0 (List.length a0) k0 :: (jk u 1 4 (.slice A0 (List.length a0) k0 :: .int .i64 (List.length a0 : Int) :: .int .i64 (j2 : Int) :: (jk u 8 10 []))))) () h (by kernel_rfl) (by kernel_rfl) ?_ ?_
    · intro j2 x u x3 q4 hg5 hw6 h
      refine c_seq ?_
      refine r_start ?_
      refine p 1 ?_
      refine rend ?_
      refine c_seq ?_
      refine c_yes q4 ?_
      refine c_skip ?_
      refine c_seq ?_
      refine c_block ?_
      refine c_seq ?_
      refine r_start ?_
      refine xq rfl (y_idx (e := nSign) (el := 38) hg5 (s_arg h0)) ?_
      refine xq rfl (y_el (e := nSign) 0 (.agg (eSign x3).toArray) hg5 (s_arg h0)) ?_
      refine xx rfl (x_new (eSign zSign) fun g3_2 => ?_)
      refine xx rfl (x_sto 0 g3_2 0 (eSign x3) ?_)
      refine rend ?_
      refine c_seq ?_
      refine r_start ?_
      refine xq rfl (y_load (.agg (eSign x3).toArray) 0 g3_2 0) ?_
      obtain ⟨v4_1, hv4_1, h⟩ := H.call h
      refine xq rfl (y_call [.agg (eSign x3).toArray] (.bool v4_1) func75 (fun W S => C.s_siGood W hv4_1)) ?_
      refine p 1 ?_
      refine rend ?_
      refine c_or (!v4_1) (fun q7 => ?_) (fun q7 => ?_)
      · replace h := H.t q7 h
        refine c_seq ?_
        refine r_start ?_
        refine p 1 ?_
        refine rend ?_
        replace h := H.inr h
        replace h := H.done h
        subst h
        exact ret func175 rfl (vs := [.bool false]) (.tmp (by kernel_rfl) .nil) rfl (fun W S => ⟨rfl, S.below⟩)
      replace h := H.f q7 h
      refine c_skip ?_
      refine c_inb ?_
      refine r_start ?_
      refine p 2 ?_
      refine rend ?_
      refine c_set 7 (ci hw6) ?_
      replace h := H.inl h
      exact h () _ _ rfl (by kernel_rfl) (by kernel_rfl)
    · intro x u q4 h
      refine c_seq ?_
      refine r_start ?_
      refine p 1 ?_
      refine rend ?_
      refine c_seq ?_
      refine c_no q4 ?_
      refine cx ?_
      replace h := H.done h
      exact hj1 () _ _ h (by kernel_rfl) (by kernel_rfl)
  intro x u h
  refine c_seq ?_
  refine r_start ?_
  refine p 4 ?_
  refine rend ?_
  replace h := H.done h
  subst h
  exact ret func175 rfl (vs := [.bool (decide ((List.length a0 : Int) ≤ 16))]) (.tmp (by kernel_rfl) .nil) rfl (fun W S => ⟨rfl, S.below⟩)
theorem C.s_seAsked {fu : Nat} {a0 : Pattern} {a1 : (List Sign)} {A1 : Option Addr} {k1 : Nat} {r : Bool} (w : World) (h : X.s_seAsked fu a0 a1 = some r) (h1 : RdT nSign w (.slice A1 (List.length a1) k1) a1) : Calls prog 125 #[.agg (ePattern a0).toArray, .slice A1 (List.length a1) k1] w (Ret w (.bool r)) := by
  refine calls (M := no) (args := [.agg (ePattern a0).toArray, .slice A1 (List.length a1) k1]) func125 rfl ?_
  replace h : H (X.s_seAsked fu a0 a1) (fun o => o = r) := H.mk h
  unfold X.s_seAsked at h
  refine c_seq ?_
  refine r_start ?_
  refine xx rfl (x_box (ePattern a0) fun g0_0 => ?_)
  refine p 1 ?_
  refine rend ?_
  refine c_seq ?_
  refine r_start ?_
  refine xq rfl (y_load (.agg (ePattern a0).toArray) 0 g0_0 0) ?_
  obtain ⟨v1_1, hv1_1, h⟩ := H.call h
  refine xq rfl (y_call [.agg (ePattern a0).toArray] (.bool v1_1) func129 (fun W S => C.s_seGood W hv1_1)) ?_
  refine p 1 ?_
  refine br v1_1 (fun q1 => ?_) (fun q1 => ?_)
  · replace h := H.t q1 h
    refine o_set 7 (congrArg Value.bool q1) ?_
    refine p 1 ?_
    obtain ⟨v1_4, hv1_4, h⟩ := H.call h
    refine xq rfl (y_call [.slice A1 (List.length a1) k1] (.bool v1_4) func175 (fun W S => C.s_noList W hv1_4 ((s_arg h1).out W S))) ?_
    refine p 2 ?_
    refine rend ?_
    replace h := H.done h
    subst h
    exact ret func125 rfl (vs := [.bool v1_4]) (.tmp (by kernel_rfl) .nil) rfl (fun W S => ⟨rfl, S.below⟩)
  replace h := H.f q1 h
  refine o_set 7 (congrArg Value.bool q1) ?_
  refine p 4 ?_
  refine rend ?_
  replace h := H.done h
  subst h
  exact ret func125 rfl (vs := [.bool false]) (.tmp (by kernel_rfl) .nil) rfl (fun W S => ⟨rfl, S.below⟩)
theorem C.s_seMissed {fu : Nat} {a0 : Str} {a1 : Str} {r : Int} (w : World) (h : X.s_seMissed fu a0 a1 = some r) : Calls prog 141 #[.string (bs a0), .string (bs a1)] w (Ret w (.int .i64 r)) := by
  refine calls (M := no) (args := [.string (bs a0), .string (bs a1)]) func141 rfl ?_
  replace h : H (X.s_seMissed fu a0 a1) (fun o => o = r) := H.mk h
  unfold X.s_seMissed at h
  refine c_seq ?_
  refine r_start ?_
  refine p 1 ?_
  refine rend ?_
  refine c_seq ?_
  refine r_start ?_
  refine p 1 ?_
  refine rend ?_
  refine c_seq ?_
  refine c_seq ?_
  refine r_start ?_
  refine p 1 ?_
  refine rend ?_
  refine c_block ?_
  refine joinH (X := Int) 0 (H.bnd h) (fun (x : Int) => x) (fun n3 => []) (fun n3 u => (jk u 0 5 (.int .i64 n3 :: (jk u 6 23 [])))) (fun h hj4 => ?_) ?_
  · skip
    refine loopR (X := (Int × Int)) (fun (x : (Int × Int)) => x) (fun ⟨n1, n2⟩ => []) (fun ⟨n1, n2⟩ u => (.string (bs a0) :: .string (bs a1) :: (jk u 2 3 (.int .i64 n1 :: .int .i64 n2 :: (jk u 7 22 []))))) (0, 0) h (by kernel_rfl) (by kernel_rfl) ?_
    intro x u h
    obtain ⟨n1, n2⟩ := x
    refine c_seq ?_
    refine c_seq ?_
    refine r_start ?_
    refine p 4 ?_
    refine rend ?_
    refine c_or (decide (n2 < (List.length a0 : Int))) (fun q5 => ?_) (fun q5 => ?_)
    · replace h := H.t q5 h
      refine c_skip ?_
      refine c_seq ?_
      refine c_block ?_
      refine c_seq ?_
      refine as_start 13 13 ?_
      refine ap 0 2 ?_
      obtain ⟨y5_2, hy5_2, h⟩ := H.call h
      refine aq 2 rfl (y_byte hy5_2) ?_
      refine ap 3 2 ?_
      refine br (y5_2 != 63) (fun q6 => ?_) (fun q6 => ?_)
      · replace h := H.t q6 h
        refine a_set 17 (congrArg Value.bool q6) ?_
        refine ap 5 2 ?_
        refine aq 7 rfl (y_byte hy5_2) ?_
        refine ap 8 2 ?_
        obtain ⟨y5_10, hy5_10, h⟩ := H.call h
        refine aq 10 rfl (y_byte hy5_10) ?_
        refine ap 11 2 ?_
        refine a_done ?_
        refine c_or (y5_2 != y5_10) (fun q7 => ?_) (fun q7 => ?_)
        · replace h := H.t q7 h
          refine r_start ?_
          refine p 3 ?_
          refine rend ?_
          refine c_inb ?_
          refine r_start ?_
          refine p 3 ?_
          refine rend ?_
          replace h := H.inl h
          exact h ((wr (n1 + 1)), (wr (n2 + 1))) _ _ rfl (by kernel_rfl) (by kernel_rfl)
        replace h := H.f q7 h
        refine c_skip ?_
        refine c_inb ?_
        refine r_start ?_
        refine p 3 ?_
        refine rend ?_
        replace h := H.inl h
        exact h (n1, (wr (n2 + 1))) _ _ rfl (by kernel_rfl) (by kernel_rfl)
      replace h := H.f q6 h
      refine a_set 17 (congrArg Value.bool q6) ?_
      refine ap 5 8 ?_
      refine a_done ?_
      refine c_f (by kernel_rfl) ?_
      refine c_skip ?_
      refine c_inb ?_
      refine r_start ?_
      refine p 3 ?_
      refine rend ?_
      replace h := H.inl h
      exact h (n1, (wr (n2 + 1))) _ _ rfl (by kernel_rfl) (by kernel_rfl)
    replace h := H.f q5 h
    refine cx ?_
    replace h := H.inr h
    exact hj4 n1 _ _ h (by kernel_rfl) (by kernel_rfl)
  intro n3 u h
  refine c_seq ?_
  refine r_start ?_
  refine p 2 ?_
  refine rend ?_
  replace h := H.done h
  subst h
  exact ret func141 rfl (vs := [.int .i64 n3]) (.tmp (by kernel_rfl) .nil) rfl (fun W S => ⟨rfl, S.below⟩)
theorem C.s_seSteps {fu : Nat} {a0 : Str} {a1 : Str} {r : Bool} (w : World) (h : X.s_seSteps fu a0 a1 = some r) : Calls prog 179 #[.string (bs a0), .string (bs a1)] w (Ret w (.bool r)) := by
  refine calls (M := no) (args := [.string (bs a0), .string (bs a1)]) func179 rfl ?_
  replace h : H (X.s_seSteps fu a0 a1) (fun o => o = r) := H.mk h
  unfold X.s_seSteps at h
  refine c_seq ?_
  refine r_start ?_
  refine p 1 ?_
  refine rend ?_
  refine c_seq ?_
  refine r_start ?_
  refine p 3 ?_
  obtain ⟨y1_3, hy1_3, h⟩ := H.call h
  refine xx rfl (e_make (el := 4) hy1_3 fun A1_3 k1_3 => ?_)
  refine p 1 ?_
  refine rend ?_
  refine c_seq ?_
  refine r_start ?_
  refine p 1 ?_
  obtain ⟨y2_1, hy2_1, h⟩ := H.call h
  refine xq rfl (y_idx (e := eB) (el := 4) hy2_1 (s_own 0)) ?_
  refine xx rfl (e_stel (e := eB) (b := true) 0 0 ([.bool true]) hy2_1 (by kernel_rfl) ?_)
  refine o_set 5 (sl_set (A := A1_3) (c := k1_3) (l := y1_3) (n := Int.toNat 0) (b := true)) ?_
  refine rend ?_
  refine c_seq ?_
  refine c_seq ?_
  refine r_start ?_
  refine p 1 ?_
  refine rend ?_
  refine c_block ?_
  refine joinH (X := ((List Bool) × Option Addr × Nat)) 0 (H.bnd h) (fun ⟨l5, A6, k7⟩ => l5) (fun ⟨l5, A6, k7⟩ => [rowT eB w.heap.size 4 (.slice A6 (List.length l5) k7) l5]) (fun ⟨l5, A6, k7⟩ u => (jk u 0 1 (.string (bs a1) :: (jk u 2 3 (.slice A6 (List.length l5) k7 :: (jk u 6 77 [])))))) (fun h hj8 => ?_) ?_
  · skip
    refine loopR (X := (Int × (List Bool) × Option Addr × Nat)) (fun ⟨n1, l2, A3, k4⟩ => (n1, l2)) (fun ⟨n1, l2, A3, k4⟩ => [rowT eB w.heap.size 4 (.slice A3 (List.length l2) k4) l2]) (fun ⟨n1, l2, A3, k4⟩ u => (.string (bs a0) :: .string (bs a1) :: (jk u 2 3 (.slice A3 (List.length l2) k4 :: .int .i64 n1 :: (jk u 7 76 []))))) (0, (List.set y1_3 (Int.toNat 0) true), A1_3, k1_3) h (by kernel_rfl) (by kernel_rfl) ?_
    intro x u h
    obtain ⟨n1, l2, A3, k4⟩ := x
    refine c_seq ?_
    refine c_seq ?_
    refine r_start ?_
    refine p 4 ?_
    refine rend ?_
    refine c_or (decide (n1 < (List.length a0 : Int))) (fun q9 => ?_) (fun q9 => ?_)
    · replace h := H.t q9 h
      refine c_skip ?_
      refine c_seq ?_
      refine c_block ?_
      refine c_seq ?_
      refine r_start ?_
      refine p 3 ?_
      obtain ⟨y6_3, hy6_3, h⟩ := H.call h
      refine xx rfl (e_make (el := 4) hy6_3 fun A6_3 k6_3 => ?_)
      refine p 1 ?_
      refine rend ?_
      refine c_seq ?_
      refine c_seq ?_
      refine r_start ?_
      refine p 3 ?_
      refine rend ?_
      refine c_block ?_
      refine joinH (X := ((List Bool) × Option Addr × Nat)) 2 (H.bnd h) (fun ⟨l13, A14, k15⟩ => l13) (fun ⟨l13, A14, k15⟩ => [rowT eB w.heap.size 4 (.slice A3 (List.length l2) k4) l2, rowT eB w.heap.size 4 (.slice A14 (List.length l13) k15) l13]) (fun ⟨l13, A14, k15⟩ u => (.string (bs a0) :: .string (bs a1) :: (jk u 2 4 (.int .i64 n1 :: .slice A14 (List.length l13) k15 :: (jk u 8 75 []))))) (fun h hj16 => ?_) ?_
      · skip
        refine rangeR (X := ((List Bool) × Option Addr × Nat)) (s_own 0) (fun ⟨l10, A11, k12⟩ => l10) (fun ⟨l10, A11, k12⟩ => [rowT eB w.heap.size 4 (.slice A3 (List.length l2) k4) l2, rowT eB w.heap.size 4 (.slice A11 (List.length l10) k12) l10]) (fun (j17 : Nat) ⟨l10, A11, k12⟩ u => (.string (bs a0) :: .string (bs a1) :: (jk u 2 4 (.int .i64 n1 :: .slice A11 (List.length l10) k12 :: (jk u 8 19 (.slice A3 (List.length l2) k4 :: .int .i64 (List.length l2 : Int) :: .int .i64 (j17 : Int) :: (jk u 30 53 []))))))) (y6_3, A6_3, k6_3) h (by kernel_rfl) (by kernel_rfl) ?_ ?_
        · intro j17 x u x18 q19 hg20 hw21 h
          obtain ⟨l10, A11, k12⟩ := x
          refine c_seq ?_
          refine r_start ?_
          refine p 1 ?_
          refine rend ?_
          refine c_seq ?_
          refine c_yes q19 ?_
          refine c_skip ?_
          refine c_seq ?_
          refine c_block ?_
          refine c_seq ?_
          refine r_start ?_
          refine p 1 ?_
          refine xq rfl (y_idx (e := eB) (el := 4) hg20 (s_own 0)) ?_
          refine xq rfl (y_el (e := eB) 0 (.bool x18) hg20 (s_own 0)) ?_
          refine p 2 ?_
          refine rend ?_
          refine c_block ?_
          refine c_seq ?_
          refine r_start ?_
          refine p 3 ?_
          refine rend ?_
          refine c_or (!x18) (fun q22 => ?_) (fun q22 => ?_)
          · replace h := H.t q22 h
            refine c_skip ?_
            refine c_inb ?_
            refine c_inb ?_
            refine r_start ?_
            refine p 2 ?_
            refine rend ?_
            refine c_set 29 (ci hw21) ?_
            replace h := H.inl h
            exact h (l10, A11, k12) _ _ rfl (by kernel_rfl) (by kernel_rfl)
          replace h := H.f q22 h
          refine c_seq ?_
          refine r_start ?_
          refine p 2 ?_
          obtain ⟨y11_2, hy11_2, h⟩ := H.call h
          refine xq rfl (y_byte hy11_2) ?_
          refine p 2 ?_
          refine rend ?_
          refine c_or (y11_2 == 42) (fun q23 => ?_) (fun q23 => ?_)
          · replace h := H.t q23 h
            refine c_seq ?_
            refine r_start ?_
            refine p 2 ?_
            refine rend ?_
            refine frg (fun u => (.string (bs a0) :: .string (bs a1) :: (jk u 2 4 (.int .i64 n1 :: .slice A11 (List.length l10) k12 :: (jk u 8 2 (.int .i64 (j17 : Int) :: (jk u 11 16 (.slice A3 (List.length l2) k4 :: .int .i64 (List.length l2 : Int) :: .int .i64 (j17 : Int) :: (jk u 30 53 []))))))))) (by kernel_rfl) fun u => ?_
            refine keep 2 (its' := [rowT eB w.heap.size 4 (.slice A3 (List.length l2) k4) l2, rowT eB w.heap.size 4 (.slice A11 (List.length l10) k12) l10]) (by kernel_rfl) ?_
            refine c_block ?_
            refine joinH (X := ((List Bool) × Option Addr × Nat)) 5 (H.bnd h) (fun ⟨l28, A29, k30⟩ => l28) (fun ⟨l28, A29, k30⟩ => [rowT eB w.heap.size 4 (.slice A3 (List.length l2) k4) l2, rowT eB w.heap.size 4 (.slice A29 (List.length l28) k30) l28]) (fun ⟨l28, A29, k30⟩ u => (.string (bs a0) :: .string (bs a1) :: (jk u 2 4 (.int .i64 n1 :: .slice A29 (List.length l28) k30 :: (jk u 8 19 (.slice A3 (List.length l2) k4 :: .int .i64 (List.length l2 : Int) :: .int .i64 (j17 : Int) :: (jk u 30 53 []))))))) (fun h hj31 => ?_) ?_
            · skip
              refine loopR (X := (Int × (List Bool) × Option Addr × Nat)) (fun ⟨n24, l25, A26, k27⟩ => (n24, l25)) (fun ⟨n24, l25, A26, k27⟩ => [rowT eB w.heap.size 4 (.slice A3 (List.length l2) k4) l2, rowT eB w.heap.size 4 (.slice A26 (List.length l25) k27) l25]) (fun ⟨n24, l25, A26, k27⟩ u => (.string (bs a0) :: .string (bs a1) :: (jk u 2 4 (.int .i64 n1 :: .slice A26 (List.length l25) k27 :: (jk u 8 2 (.int .i64 n24 :: (jk u 11 16 (.slice A3 (List.length l2) k4 :: .int .i64 (List.length l2 : Int) :: .int .i64 (j17 : Int) :: (jk u 30 53 []))))))))) ((j17 : Int), l10, A11, k12) h (by kernel_rfl) (by kernel_rfl) ?_
              intro x u h
              obtain ⟨n24, l25, A26, k27⟩ := x
              refine c_seq ?_
              refine c_seq ?_
              refine r_start ?_
              refine p 4 ?_
              refine rend ?_
              refine c_or (decide (n24 ≤ (List.length a1 : Int))) (fun q32 => ?_) (fun q32 => ?_)
              · replace h := H.t q32 h
                refine c_skip ?_
                refine c_seq ?_
                refine c_block ?_
                refine r_start ?_
                refine p 2 ?_
                obtain ⟨y15_2, hy15_2, h⟩ := H.call h
                refine xq rfl (y_idx (e := eB) (el := 4) hy15_2 (s_own 1)) ?_
                refine xx rfl (e_stel (e := eB) (b := true) 1 0 ([.bool true]) hy15_2 (by kernel_rfl) ?_)
                refine o_set 7 (sl_set (A := A26) (c := k27) (l := l25) (n := Int.toNat n24) (b := true)) ?_
                refine rend ?_
                refine c_inb ?_
                refine r_start ?_
                refine p 3 ?_
                refine rend ?_
                replace h := H.inl h
                exact h ((wr (n24 + 1)), (List.set l25 (Int.toNat n24) true), A26, k27) _ _ rfl (by kernel_rfl) (by kernel_rfl)
              replace h := H.f q32 h
              refine cx ?_
              replace h := H.inr h
              exact hj31 (l25, A26, k27) _ _ h (by kernel_rfl) (by kernel_rfl)
            intro x u h
            obtain ⟨l28, A29, k30⟩ := x
            refine c_inb ?_
            refine c_inb ?_
            refine r_start ?_
            refine p 2 ?_
            refine rend ?_
            refine c_set 29 (ci hw21) ?_
            replace h := H.inl h
            exact h (l28, A29, k30) _ _ rfl (by kernel_rfl) (by kernel_rfl)
          replace h := H.f q23 h
          refine c_seq ?_
          refine as_start 20 20 ?_
          refine ap 0 5 ?_
          refine br (decide ((j17 : Int) < (List.length a1 : Int))) (fun q33 => ?_) (fun q33 => ?_)
          · replace h := H.t q33 h
            refine a_set 57 (congrArg Value.bool q33) ?_
            refine ap 5 2 ?_
            refine aq 7 rfl (y_byte hy11_2) ?_
            refine ap 8 2 ?_
            refine br (y11_2 == 63) (fun q34 => ?_) (fun q34 => ?_)
            · replace h := H.t q34 h
              refine a_set 62 (congrArg Value.bool q34) ?_
              refine ap 10 10 ?_
              refine a_done ?_
              refine c_t (by kernel_rfl) ?_
              refine r_start ?_
              refine p 3 ?_
              obtain ⟨y17_3, hy17_3, h⟩ := H.call h
              refine xq rfl (y_idx (e := eB) (el := 4) hy17_3 (s_own 1)) ?_
              refine xx rfl (e_stel (e := eB) (b := true) 1 0 ([.bool true]) hy17_3 (by kernel_rfl) ?_)
              refine o_set 7 (sl_set (A := A11) (c := k12) (l := l10) (n := Int.toNat (wr ((j17 : Int) + 1))) (b := true)) ?_
              refine rend ?_
              refine frg (fun u => (.string (bs a0) :: .string (bs a1) :: (jk u 2 4 (.int .i64 n1 :: .slice A11 (List.length (List.set l10 (Int.toNat (wr ((j17 : Int) + 1))) true)) k12 :: (jk u 8 19 (.slice A3 (List.length l2) k4 :: .int .i64 (List.length l2 : Int) :: .int .i64 (j17 : Int) :: (jk u 30 53 []))))))) (by kernel_rfl) fun u => ?_
              refine keep 2 (its' := [rowT eB w.heap.size 4 (.slice A3 (List.length l2) k4) l2, rowT eB w.heap.size 4 (.slice A11 (List.length (List.set l10 (Int.toNat (wr ((j17 : Int) + 1))) true)) k12) (List.set l10 (Int.toNat (wr ((j17 : Int) + 1))) true)]) (by kernel_rfl) ?_
              refine c_inb ?_
              refine c_inb ?_
              refine r_start ?_
              refine p 2 ?_
              refine rend ?_
              refine c_set 29 (ci hw21) ?_
              replace h := H.inl h
              exact h ((List.set l10 (Int.toNat (wr ((j17 : Int) + 1))) true), A11, k12) _ _ rfl (by kernel_rfl) (by kernel_rfl)
            replace h := H.f q34 h
            refine a_set 62 (congrArg Value.bool q34) ?_
            refine ap 10 2 ?_
            refine aq 12 rfl (y_byte hy11_2) ?_
            refine ap 13 2 ?_
            obtain ⟨y16_15, hy16_15, h⟩ := H.call h
            refine aq 15 rfl (y_byte hy16_15) ?_
            refine ap 16 4 ?_
            refine a_done ?_
            refine c_or (y11_2 == y16_15) (fun q35 => ?_) (fun q35 => ?_)
            · replace h := H.t q35 h
              refine r_start ?_
              refine p 3 ?_
              obtain ⟨y17_3, hy17_3, h⟩ := H.call h
              refine xq rfl (y_idx (e := eB) (el := 4) hy17_3 (s_own 1)) ?_
              refine xx rfl (e_stel (e := eB) (b := true) 1 0 ([.bool true]) hy17_3 (by kernel_rfl) ?_)
              refine o_set 7 (sl_set (A := A11) (c := k12) (l := l10) (n := Int.toNat (wr ((j17 : Int) + 1))) (b := true)) ?_
              refine rend ?_
              refine frg (fun u => (.string (bs a0) :: .string (bs a1) :: (jk u 2 4 (.int .i64 n1 :: .slice A11 (List.length (List.set l10 (Int.toNat (wr ((j17 : Int) + 1))) true)) k12 :: (jk u 8 19 (.slice A3 (List.length l2) k4 :: .int .i64 (List.length l2 : Int) :: .int .i64 (j17 : Int) :: (jk u 30 53 []))))))) (by kernel_rfl) fun u => ?_
              refine keep 2 (its' := [rowT eB w.heap.size 4 (.slice A3 (List.length l2) k4) l2, rowT eB w.heap.size 4 (.slice A11 (List.length (List.set l10 (Int.toNat (wr ((j17 : Int) + 1))) true)) k12) (List.set l10 (Int.toNat (wr ((j17 : Int) + 1))) true)]) (by kernel_rfl) ?_
              refine c_inb ?_
              refine c_inb ?_
              refine r_start ?_
              refine p 2 ?_
              refine rend ?_
              refine c_set 29 (ci hw21) ?_
              replace h := H.inl h
              exact h ((List.set l10 (Int.toNat (wr ((j17 : Int) + 1))) true), A11, k12) _ _ rfl (by kernel_rfl) (by kernel_rfl)
            replace h := H.f q35 h
            refine c_skip ?_
            refine c_inb ?_
            refine c_inb ?_
            refine r_start ?_
            refine p 2 ?_
            refine rend ?_
            refine c_set 29 (ci hw21) ?_
            replace h := H.inl h
            exact h (l10, A11, k12) _ _ rfl (by kernel_rfl) (by kernel_rfl)
          replace h := H.f q33 h
          refine a_set 57 (congrArg Value.bool q33) ?_
          refine ap 5 15 ?_
          refine a_done ?_
          refine c_f (by kernel_rfl) ?_
          refine c_skip ?_
          refine c_inb ?_
          refine c_inb ?_
          refine r_start ?_
          refine p 2 ?_
          refine rend ?_
          refine c_set 29 (ci hw21) ?_
          replace h := H.inl h
          exact h (l10, A11, k12) _ _ rfl (by kernel_rfl) (by kernel_rfl)
        · intro x u q19 h
          obtain ⟨l10, A11, k12⟩ := x
          refine c_seq ?_
          refine r_start ?_
          refine p 1 ?_
          refine rend ?_
          refine c_seq ?_
          refine c_no q19 ?_
          refine cx ?_
          replace h := H.done h
          exact hj16 (l10, A11, k12) _ _ h (by kernel_rfl) (by kernel_rfl)
      intro x u h
      obtain ⟨l13, A14, k15⟩ := x
      refine r_start ?_
      refine p 2 ?_
      refine rend ?_
      refine c_inb ?_
      refine r_start ?_
      refine p 3 ?_
      refine rend ?_
      refine pick [1] [rowT eB w.heap.size 4 (.slice A14 (List.length l13) k15) l13] ?_
      replace h := H.inl h
      exact h ((wr (n1 + 1)), l13, A14, k15) _ _ rfl (by kernel_rfl) (by kernel_rfl)
    replace h := H.f q9 h
    refine cx ?_
    replace h := H.inr h
    exact hj8 (l2, A3, k4) _ _ h (by kernel_rfl) (by kernel_rfl)
  intro x u h
  obtain ⟨l5, A6, k7⟩ := x
  refine c_seq ?_
  refine r_start ?_
  refine p 3 ?_
  obtain ⟨y20_3, hy20_3, h⟩ := H.call h
  refine xq rfl (y_idx (e := eB) (el := 4) hy20_3 (s_own 0)) ?_
  refine xq rfl (y_el (e := eB) 0 (.bool y20_3) hy20_3 (s_own 0)) ?_
  refine p 1 ?_
  refine rend ?_
  replace h := H.done h
  subst h
  exact ret func179 rfl (vs := [.bool y20_3]) (.tmp (by kernel_rfl) .nil) rfl (fun W S => ⟨rfl, S.below⟩)
theorem C.s_seCost {fu : Nat} {a0 : Pattern} {a1 : Sign} {r : Int} (w : World) (h : X.s_seCost fu a0 a1 = some r) : Calls prog 130 #[.agg (ePattern a0).toArray, .agg (eSign a1).toArray] w (Ret w (.int .i64 r)) := by
  refine calls (M := no) (args := [.agg (ePattern a0).toArray, .agg (eSign a1).toArray]) func130 rfl ?_
  replace h : H (X.s_seCost fu a0 a1) (fun o => o = r) := H.mk h
  unfold X.s_seCost at h
  refine c_seq ?_
  refine r_start ?_
  refine xx rfl (x_box (ePattern a0) fun g0_0 => ?_)
  refine xx rfl (x_box (eSign a1) fun g0_1 => ?_)
  refine p 1 ?_
  refine rend ?_
  refine c_seq ?_
  refine r_start ?_
  refine xq rfl (y_load (.agg (eSign a1).toArray) 1 g0_1 0) ?_
  obtain ⟨v1_1, hv1_1, h⟩ := H.call h
  refine xq rfl (y_call [.agg (eSign a1).toArray] (.agg (eSign v1_1).toArray) func132 (fun W S => C.s_noForm W hv1_1)) ?_
  refine xx rfl (x_new (eSign zSign) fun g1_2 => ?_)
  refine xx rfl (x_sto 2 g1_2 0 (eSign v1_1) ?_)
  refine rend ?_
  refine c_seq ?_
  refine as_start 16 16 ?_
  refine ap 0 1 ?_
  refine aq 1 rfl (y_load (.string (bs a0.Shape)) 0 g0_0 0) ?_
  refine ap 2 2 ?_
  refine aq 4 rfl (y_load (.agg (eShape v1_1.Main.Shape).toArray) 2 g1_2 0) ?_
  obtain ⟨v2_5, hv2_5, h⟩ := H.call h
  refine aq 5 rfl (y_call [.agg (eShape v1_1.Main.Shape).toArray] (.string (bs v2_5)) func133 (fun W S => C.s_seShape W hv2_5)) ?_
  obtain ⟨v2_6, hv2_6, h⟩ := H.call h
  refine aq 6 rfl (y_call [.string (bs a0.Shape), .string (bs v2_5)] (.int .i64 v2_6) func141 (fun W S => C.s_seMissed W hv2_6)) ?_
  refine ap 7 1 ?_
  refine aq 8 rfl (y_load (.string (bs a0.Orient)) 0 g0_0 1) ?_
  refine ap 9 2 ?_
  refine aq 11 rfl (y_load (.agg (eOrient v1_1.Main.Orient).toArray) 2 g1_2 6) ?_
  obtain ⟨v2_12, hv2_12, h⟩ := H.call h
  refine aq 12 rfl (y_call [.agg (eOrient v1_1.Main.Orient).toArray] (.string (bs v2_12)) func134 (fun W S => C.s_orText W hv2_12)) ?_
  obtain ⟨v2_13, hv2_13, h⟩ := H.call h
  refine aq 13 rfl (y_call [.string (bs a0.Orient), .string (bs v2_12)] (.int .i64 v2_13) func141 (fun W S => C.s_seMissed W hv2_13)) ?_
  refine ap 14 2 ?_
  refine a_done ?_
  refine c_seq ?_
  refine c_seq ?_
  refine r_start ?_
  refine p 1 ?_
  refine xq rfl (y_load (.int .i64 a0.Region) 0 g0_0 2) ?_
  refine p 2 ?_
  refine br (decide (a0.Region ≥ 0)) (fun q1 => ?_) (fun q1 => ?_)
  · replace h := H.t q1 h
    refine o_set 27 (congrArg Value.bool q1) ?_
    refine p 1 ?_
    refine xq rfl (y_load (.int .i64 a0.Region) 0 g0_0 2) ?_
    refine p 3 ?_
    refine xq rfl (y_load (.int .i64 v1_1.Main.Place.Region) 2 g1_2 8) ?_
    refine p 2 ?_
    refine rend ?_
    refine c_or (a0.Region != v1_1.Main.Place.Region) (fun q2 => ?_) (fun q2 => ?_)
    · replace h := H.t q2 h
      refine r_start ?_
      refine p 3 ?_
      refine rend ?_
      refine c_seq ?_
      refine c_seq ?_
      refine as_start 10 10 ?_
      refine ap 0 1 ?_
      refine aq 1 rfl (y_load (.int .i64 a0.Hands) 0 g0_0 4) ?_
      refine ap 2 2 ?_
      refine br (decide (a0.Hands > 0)) (fun q3 => ?_) (fun q3 => ?_)
      · replace h := H.t q3 h
        refine a_set 41 (congrArg Value.bool q3) ?_
        refine ap 4 1 ?_
        refine aq 5 rfl (y_load (.int .i64 a0.Hands) 0 g0_0 4) ?_
        refine aq 6 rfl (y_load (.agg (eSign v1_1).toArray) 2 g1_2 0) ?_
        obtain ⟨v5_7, hv5_7, h⟩ := H.call h
        refine aq 7 rfl (y_call [.agg (eSign v1_1).toArray] (.int .i64 v5_7) func136 (fun W S => C.s_seHands W hv5_7)) ?_
        refine ap 8 2 ?_
        refine a_done ?_
        refine c_or (a0.Hands != v5_7) (fun q4 => ?_) (fun q4 => ?_)
        · replace h := H.t q4 h
          refine r_start ?_
          refine p 3 ?_
          refine rend ?_
          refine c_seq ?_
          refine c_seq ?_
          refine as_start 8 8 ?_
          refine ap 0 1 ?_
          refine aq 1 rfl (y_load (.string (bs a0.Steps)) 0 g0_0 3) ?_
          refine ap 2 2 ?_
          refine aq 4 rfl (y_load (.agg (eMove v1_1.Main.Move).toArray) 2 g1_2 11) ?_
          obtain ⟨v7_5, hv7_5, h⟩ := H.call h
          refine aq 5 rfl (y_call [.agg (eMove v1_1.Main.Move).toArray] (.string (bs v7_5)) func135 (fun W S => C.s_mvAll W hv7_5)) ?_
          obtain ⟨v7_6, hv7_6, h⟩ := H.call h
          refine aq 6 rfl (y_call [.string (bs a0.Steps), .string (bs v7_5)] (.bool v7_6) func179 (fun W S => C.s_seSteps W hv7_6)) ?_
          refine ap 7 1 ?_
          refine a_done ?_
          refine c_or (!v7_6) (fun q5 => ?_) (fun q5 => ?_)
          · replace h := H.t q5 h
            refine r_start ?_
            refine p 3 ?_
            refine rend ?_
            refine c_seq ?_
            refine r_start ?_
            refine p 2 ?_
            refine rend ?_
            replace h := H.done h
            subst h
            exact ret func130 rfl (vs := [.int .i64 (wr ((wr ((wr ((wr (v2_6 + v2_13)) + 2)) + 2)) + 3))]) (.tmp (by kernel_rfl) .nil) rfl (fun W S => ⟨rfl, S.below⟩)
          replace h := H.f q5 h
          refine c_skip ?_
          refine c_seq ?_
          refine r_start ?_
          refine p 2 ?_
          refine rend ?_
          replace h := H.done h
          subst h
          exact ret func130 rfl (vs := [.int .i64 (wr ((wr ((wr (v2_6 + v2_13)) + 2)) + 2))]) (.tmp (by kernel_rfl) .nil) rfl (fun W S => ⟨rfl, S.below⟩)
        replace h := H.f q4 h
        refine c_skip ?_
        refine c_seq ?_
        refine c_seq ?_
        refine as_start 8 8 ?_
        refine ap 0 1 ?_
        refine aq 1 rfl (y_load (.string (bs a0.Steps)) 0 g0_0 3) ?_
        refine ap 2 2 ?_
        refine aq 4 rfl (y_load (.agg (eMove v1_1.Main.Move).toArray) 2 g1_2 11) ?_
        obtain ⟨v7_5, hv7_5, h⟩ := H.call h
        refine aq 5 rfl (y_call [.agg (eMove v1_1.Main.Move).toArray] (.string (bs v7_5)) func135 (fun W S => C.s_mvAll W hv7_5)) ?_
        obtain ⟨v7_6, hv7_6, h⟩ := H.call h
        refine aq 6 rfl (y_call [.string (bs a0.Steps), .string (bs v7_5)] (.bool v7_6) func179 (fun W S => C.s_seSteps W hv7_6)) ?_
        refine ap 7 1 ?_
        refine a_done ?_
        refine c_or (!v7_6) (fun q6 => ?_) (fun q6 => ?_)
        · replace h := H.t q6 h
          refine r_start ?_
          refine p 3 ?_
          refine rend ?_
          refine c_seq ?_
          refine r_start ?_
          refine p 2 ?_
          refine rend ?_
          replace h := H.done h
          subst h
          exact ret func130 rfl (vs := [.int .i64 (wr ((wr ((wr (v2_6 + v2_13)) + 2)) + 3))]) (.tmp (by kernel_rfl) .nil) rfl (fun W S => ⟨rfl, S.below⟩)
        replace h := H.f q6 h
        refine c_skip ?_
        refine c_seq ?_
        refine r_start ?_
        refine p 2 ?_
        refine rend ?_
        replace h := H.done h
        subst h
        exact ret func130 rfl (vs := [.int .i64 (wr ((wr (v2_6 + v2_13)) + 2))]) (.tmp (by kernel_rfl) .nil) rfl (fun W S => ⟨rfl, S.below⟩)
      replace h := H.f q3 h
      refine a_set 41 (congrArg Value.bool q3) ?_
      refine ap 4 6 ?_
      refine a_done ?_
      refine c_f (by kernel_rfl) ?_
      refine c_skip ?_
      refine c_seq ?_
      refine c_seq ?_
      refine as_start 8 8 ?_
      refine ap 0 1 ?_
      refine aq 1 rfl (y_load (.string (bs a0.Steps)) 0 g0_0 3) ?_
      refine ap 2 2 ?_
      refine aq 4 rfl (y_load (.agg (eMove v1_1.Main.Move).toArray) 2 g1_2 11) ?_
      obtain ⟨v7_5, hv7_5, h⟩ := H.call h
      refine aq 5 rfl (y_call [.agg (eMove v1_1.Main.Move).toArray] (.string (bs v7_5)) func135 (fun W S => C.s_mvAll W hv7_5)) ?_
      obtain ⟨v7_6, hv7_6, h⟩ := H.call h
      refine aq 6 rfl (y_call [.string (bs a0.Steps), .string (bs v7_5)] (.bool v7_6) func179 (fun W S => C.s_seSteps W hv7_6)) ?_
      refine ap 7 1 ?_
      refine a_done ?_
      refine c_or (!v7_6) (fun q7 => ?_) (fun q7 => ?_)
      · replace h := H.t q7 h
        refine r_start ?_
        refine p 3 ?_
        refine rend ?_
        refine c_seq ?_
        refine r_start ?_
        refine p 2 ?_
        refine rend ?_
        replace h := H.done h
        subst h
        exact ret func130 rfl (vs := [.int .i64 (wr ((wr ((wr (v2_6 + v2_13)) + 2)) + 3))]) (.tmp (by kernel_rfl) .nil) rfl (fun W S => ⟨rfl, S.below⟩)
      replace h := H.f q7 h
      refine c_skip ?_
      refine c_seq ?_
      refine r_start ?_
      refine p 2 ?_
      refine rend ?_
      replace h := H.done h
      subst h
      exact ret func130 rfl (vs := [.int .i64 (wr ((wr (v2_6 + v2_13)) + 2))]) (.tmp (by kernel_rfl) .nil) rfl (fun W S => ⟨rfl, S.below⟩)
    replace h := H.f q2 h
    refine c_skip ?_
    refine c_seq ?_
    refine c_seq ?_
    refine as_start 10 10 ?_
    refine ap 0 1 ?_
    refine aq 1 rfl (y_load (.int .i64 a0.Hands) 0 g0_0 4) ?_
    refine ap 2 2 ?_
    refine br (decide (a0.Hands > 0)) (fun q8 => ?_) (fun q8 => ?_)
    · replace h := H.t q8 h
      refine a_set 41 (congrArg Value.bool q8) ?_
      refine ap 4 1 ?_
      refine aq 5 rfl (y_load (.int .i64 a0.Hands) 0 g0_0 4) ?_
      refine aq 6 rfl (y_load (.agg (eSign v1_1).toArray) 2 g1_2 0) ?_
      obtain ⟨v5_7, hv5_7, h⟩ := H.call h
      refine aq 7 rfl (y_call [.agg (eSign v1_1).toArray] (.int .i64 v5_7) func136 (fun W S => C.s_seHands W hv5_7)) ?_
      refine ap 8 2 ?_
      refine a_done ?_
      refine c_or (a0.Hands != v5_7) (fun q9 => ?_) (fun q9 => ?_)
      · replace h := H.t q9 h
        refine r_start ?_
        refine p 3 ?_
        refine rend ?_
        refine c_seq ?_
        refine c_seq ?_
        refine as_start 8 8 ?_
        refine ap 0 1 ?_
        refine aq 1 rfl (y_load (.string (bs a0.Steps)) 0 g0_0 3) ?_
        refine ap 2 2 ?_
        refine aq 4 rfl (y_load (.agg (eMove v1_1.Main.Move).toArray) 2 g1_2 11) ?_
        obtain ⟨v7_5, hv7_5, h⟩ := H.call h
        refine aq 5 rfl (y_call [.agg (eMove v1_1.Main.Move).toArray] (.string (bs v7_5)) func135 (fun W S => C.s_mvAll W hv7_5)) ?_
        obtain ⟨v7_6, hv7_6, h⟩ := H.call h
        refine aq 6 rfl (y_call [.string (bs a0.Steps), .string (bs v7_5)] (.bool v7_6) func179 (fun W S => C.s_seSteps W hv7_6)) ?_
        refine ap 7 1 ?_
        refine a_done ?_
        refine c_or (!v7_6) (fun q10 => ?_) (fun q10 => ?_)
        · replace h := H.t q10 h
          refine r_start ?_
          refine p 3 ?_
          refine rend ?_
          refine c_seq ?_
          refine r_start ?_
          refine p 2 ?_
          refine rend ?_
          replace h := H.done h
          subst h
          exact ret func130 rfl (vs := [.int .i64 (wr ((wr ((wr (v2_6 + v2_13)) + 2)) + 3))]) (.tmp (by kernel_rfl) .nil) rfl (fun W S => ⟨rfl, S.below⟩)
        replace h := H.f q10 h
        refine c_skip ?_
        refine c_seq ?_
        refine r_start ?_
        refine p 2 ?_
        refine rend ?_
        replace h := H.done h
        subst h
        exact ret func130 rfl (vs := [.int .i64 (wr ((wr (v2_6 + v2_13)) + 2))]) (.tmp (by kernel_rfl) .nil) rfl (fun W S => ⟨rfl, S.below⟩)
      replace h := H.f q9 h
      refine c_skip ?_
      refine c_seq ?_
      refine c_seq ?_
      refine as_start 8 8 ?_
      refine ap 0 1 ?_
      refine aq 1 rfl (y_load (.string (bs a0.Steps)) 0 g0_0 3) ?_
      refine ap 2 2 ?_
      refine aq 4 rfl (y_load (.agg (eMove v1_1.Main.Move).toArray) 2 g1_2 11) ?_
      obtain ⟨v7_5, hv7_5, h⟩ := H.call h
      refine aq 5 rfl (y_call [.agg (eMove v1_1.Main.Move).toArray] (.string (bs v7_5)) func135 (fun W S => C.s_mvAll W hv7_5)) ?_
      obtain ⟨v7_6, hv7_6, h⟩ := H.call h
      refine aq 6 rfl (y_call [.string (bs a0.Steps), .string (bs v7_5)] (.bool v7_6) func179 (fun W S => C.s_seSteps W hv7_6)) ?_
      refine ap 7 1 ?_
      refine a_done ?_
      refine c_or (!v7_6) (fun q11 => ?_) (fun q11 => ?_)
      · replace h := H.t q11 h
        refine r_start ?_
        refine p 3 ?_
        refine rend ?_
        refine c_seq ?_
        refine r_start ?_
        refine p 2 ?_
        refine rend ?_
        replace h := H.done h
        subst h
        exact ret func130 rfl (vs := [.int .i64 (wr ((wr (v2_6 + v2_13)) + 3))]) (.tmp (by kernel_rfl) .nil) rfl (fun W S => ⟨rfl, S.below⟩)
      replace h := H.f q11 h
      refine c_skip ?_
      refine c_seq ?_
      refine r_start ?_
      refine p 2 ?_
      refine rend ?_
      replace h := H.done h
      subst h
      exact ret func130 rfl (vs := [.int .i64 (wr (v2_6 + v2_13))]) (.tmp (by kernel_rfl) .nil) rfl (fun W S => ⟨rfl, S.below⟩)
    replace h := H.f q8 h
    refine a_set 41 (congrArg Value.bool q8) ?_
    refine ap 4 6 ?_
    refine a_done ?_
    refine c_f (by kernel_rfl) ?_
    refine c_skip ?_
    refine c_seq ?_
    refine c_seq ?_
    refine as_start 8 8 ?_
    refine ap 0 1 ?_
    refine aq 1 rfl (y_load (.string (bs a0.Steps)) 0 g0_0 3) ?_
    refine ap 2 2 ?_
    refine aq 4 rfl (y_load (.agg (eMove v1_1.Main.Move).toArray) 2 g1_2 11) ?_
    obtain ⟨v7_5, hv7_5, h⟩ := H.call h
    refine aq 5 rfl (y_call [.agg (eMove v1_1.Main.Move).toArray] (.string (bs v7_5)) func135 (fun W S => C.s_mvAll W hv7_5)) ?_
    obtain ⟨v7_6, hv7_6, h⟩ := H.call h
    refine aq 6 rfl (y_call [.string (bs a0.Steps), .string (bs v7_5)] (.bool v7_6) func179 (fun W S => C.s_seSteps W hv7_6)) ?_
    refine ap 7 1 ?_
    refine a_done ?_
    refine c_or (!v7_6) (fun q12 => ?_) (fun q12 => ?_)
    · replace h := H.t q12 h
      refine r_start ?_
      refine p 3 ?_
      refine rend ?_
      refine c_seq ?_
      refine r_start ?_
      refine p 2 ?_
      refine rend ?_
      replace h := H.done h
      subst h
      exact ret func130 rfl (vs := [.int .i64 (wr ((wr (v2_6 + v2_13)) + 3))]) (.tmp (by kernel_rfl) .nil) rfl (fun W S => ⟨rfl, S.below⟩)
    replace h := H.f q12 h
    refine c_skip ?_
    refine c_seq ?_
    refine r_start ?_
    refine p 2 ?_
    refine rend ?_
    replace h := H.done h
    subst h
    exact ret func130 rfl (vs := [.int .i64 (wr (v2_6 + v2_13))]) (.tmp (by kernel_rfl) .nil) rfl (fun W S => ⟨rfl, S.below⟩)
  replace h := H.f q1 h
  refine o_set 27 (congrArg Value.bool q1) ?_
  refine p 8 ?_
  refine rend ?_
  refine c_f (by kernel_rfl) ?_
  refine c_skip ?_
  refine c_seq ?_
  refine c_seq ?_
  refine as_start 10 10 ?_
  refine ap 0 1 ?_
  refine aq 1 rfl (y_load (.int .i64 a0.Hands) 0 g0_0 4) ?_
  refine ap 2 2 ?_
  refine br (decide (a0.Hands > 0)) (fun q13 => ?_) (fun q13 => ?_)
  · replace h := H.t q13 h
    refine a_set 41 (congrArg Value.bool q13) ?_
    refine ap 4 1 ?_
    refine aq 5 rfl (y_load (.int .i64 a0.Hands) 0 g0_0 4) ?_
    refine aq 6 rfl (y_load (.agg (eSign v1_1).toArray) 2 g1_2 0) ?_
    obtain ⟨v5_7, hv5_7, h⟩ := H.call h
    refine aq 7 rfl (y_call [.agg (eSign v1_1).toArray] (.int .i64 v5_7) func136 (fun W S => C.s_seHands W hv5_7)) ?_
    refine ap 8 2 ?_
    refine a_done ?_
    refine c_or (a0.Hands != v5_7) (fun q14 => ?_) (fun q14 => ?_)
    · replace h := H.t q14 h
      refine r_start ?_
      refine p 3 ?_
      refine rend ?_
      refine c_seq ?_
      refine c_seq ?_
      refine as_start 8 8 ?_
      refine ap 0 1 ?_
      refine aq 1 rfl (y_load (.string (bs a0.Steps)) 0 g0_0 3) ?_
      refine ap 2 2 ?_
      refine aq 4 rfl (y_load (.agg (eMove v1_1.Main.Move).toArray) 2 g1_2 11) ?_
      obtain ⟨v7_5, hv7_5, h⟩ := H.call h
      refine aq 5 rfl (y_call [.agg (eMove v1_1.Main.Move).toArray] (.string (bs v7_5)) func135 (fun W S => C.s_mvAll W hv7_5)) ?_
      obtain ⟨v7_6, hv7_6, h⟩ := H.call h
      refine aq 6 rfl (y_call [.string (bs a0.Steps), .string (bs v7_5)] (.bool v7_6) func179 (fun W S => C.s_seSteps W hv7_6)) ?_
      refine ap 7 1 ?_
      refine a_done ?_
      refine c_or (!v7_6) (fun q15 => ?_) (fun q15 => ?_)
      · replace h := H.t q15 h
        refine r_start ?_
        refine p 3 ?_
        refine rend ?_
        refine c_seq ?_
        refine r_start ?_
        refine p 2 ?_
        refine rend ?_
        replace h := H.done h
        subst h
        exact ret func130 rfl (vs := [.int .i64 (wr ((wr ((wr (v2_6 + v2_13)) + 2)) + 3))]) (.tmp (by kernel_rfl) .nil) rfl (fun W S => ⟨rfl, S.below⟩)
      replace h := H.f q15 h
      refine c_skip ?_
      refine c_seq ?_
      refine r_start ?_
      refine p 2 ?_
      refine rend ?_
      replace h := H.done h
      subst h
      exact ret func130 rfl (vs := [.int .i64 (wr ((wr (v2_6 + v2_13)) + 2))]) (.tmp (by kernel_rfl) .nil) rfl (fun W S => ⟨rfl, S.below⟩)
    replace h := H.f q14 h
    refine c_skip ?_
    refine c_seq ?_
    refine c_seq ?_
    refine as_start 8 8 ?_
    refine ap 0 1 ?_
    refine aq 1 rfl (y_load (.string (bs a0.Steps)) 0 g0_0 3) ?_
    refine ap 2 2 ?_
    refine aq 4 rfl (y_load (.agg (eMove v1_1.Main.Move).toArray) 2 g1_2 11) ?_
    obtain ⟨v7_5, hv7_5, h⟩ := H.call h
    refine aq 5 rfl (y_call [.agg (eMove v1_1.Main.Move).toArray] (.string (bs v7_5)) func135 (fun W S => C.s_mvAll W hv7_5)) ?_
    obtain ⟨v7_6, hv7_6, h⟩ := H.call h
    refine aq 6 rfl (y_call [.string (bs a0.Steps), .string (bs v7_5)] (.bool v7_6) func179 (fun W S => C.s_seSteps W hv7_6)) ?_
    refine ap 7 1 ?_
    refine a_done ?_
    refine c_or (!v7_6) (fun q16 => ?_) (fun q16 => ?_)
    · replace h := H.t q16 h
      refine r_start ?_
      refine p 3 ?_
      refine rend ?_
      refine c_seq ?_
      refine r_start ?_
      refine p 2 ?_
      refine rend ?_
      replace h := H.done h
      subst h
      exact ret func130 rfl (vs := [.int .i64 (wr ((wr (v2_6 + v2_13)) + 3))]) (.tmp (by kernel_rfl) .nil) rfl (fun W S => ⟨rfl, S.below⟩)
    replace h := H.f q16 h
    refine c_skip ?_
    refine c_seq ?_
    refine r_start ?_
    refine p 2 ?_
    refine rend ?_
    replace h := H.done h
    subst h
    exact ret func130 rfl (vs := [.int .i64 (wr (v2_6 + v2_13))]) (.tmp (by kernel_rfl) .nil) rfl (fun W S => ⟨rfl, S.below⟩)
  replace h := H.f q13 h
  refine a_set 41 (congrArg Value.bool q13) ?_
  refine ap 4 6 ?_
  refine a_done ?_
  refine c_f (by kernel_rfl) ?_
  refine c_skip ?_
  refine c_seq ?_
  refine c_seq ?_
  refine as_start 8 8 ?_
  refine ap 0 1 ?_
  refine aq 1 rfl (y_load (.string (bs a0.Steps)) 0 g0_0 3) ?_
  refine ap 2 2 ?_
  refine aq 4 rfl (y_load (.agg (eMove v1_1.Main.Move).toArray) 2 g1_2 11) ?_
  obtain ⟨v7_5, hv7_5, h⟩ := H.call h
  refine aq 5 rfl (y_call [.agg (eMove v1_1.Main.Move).toArray] (.string (bs v7_5)) func135 (fun W S => C.s_mvAll W hv7_5)) ?_
  obtain ⟨v7_6, hv7_6, h⟩ := H.call h
  refine aq 6 rfl (y_call [.string (bs a0.Steps), .string (bs v7_5)] (.bool v7_6) func179 (fun W S => C.s_seSteps W hv7_6)) ?_
  refine ap 7 1 ?_
  refine a_done ?_
  refine c_or (!v7_6) (fun q17 => ?_) (fun q17 => ?_)
  · replace h := H.t q17 h
    refine r_start ?_
    refine p 3 ?_
    refine rend ?_
    refine c_seq ?_
    refine r_start ?_
    refine p 2 ?_
    refine rend ?_
    replace h := H.done h
    subst h
    exact ret func130 rfl (vs := [.int .i64 (wr ((wr (v2_6 + v2_13)) + 3))]) (.tmp (by kernel_rfl) .nil) rfl (fun W S => ⟨rfl, S.below⟩)
  replace h := H.f q17 h
  refine c_skip ?_
  refine c_seq ?_
  refine r_start ?_
  refine p 2 ?_
  refine rend ?_
  replace h := H.done h
  subst h
  exact ret func130 rfl (vs := [.int .i64 (wr (v2_6 + v2_13))]) (.tmp (by kernel_rfl) .nil) rfl (fun W S => ⟨rfl, S.below⟩)
theorem C.s_seWithin {fu : Nat} {a0 : Pattern} {a1 : (List Sign)} {A1 : Option Addr} {k1 : Nat} {a2 : Int} {r : (List Int)} (w : World) (h : X.s_seWithin fu a0 a1 a2 = some r) (h1 : RdT nSign w (.slice A1 (List.length a1) k1) a1) : Calls prog 126 #[.agg (ePattern a0).toArray, .slice A1 (List.length a1) k1, .int .i64 a2] w (RetR (eI .i64) 3 w r (fun v => v)) := by
  refine calls (M := no) (args := [.agg (ePattern a0).toArray, .slice A1 (List.length a1) k1, .int .i64 a2]) func126 rfl ?_
  replace h : H (X.s_seWithin fu a0 a1 a2) (fun o => o = r) := H.mk h
  unfold X.s_seWithin at h
  refine c_seq ?_
  refine r_start ?_
  refine xx rfl (x_box (ePattern a0) fun g0_0 => ?_)
  refine p 1 ?_
  refine rend ?_
  refine c_seq ?_
  refine r_start ?_
  refine p 1 ?_
  refine rend ?_
  refine c_seq ?_
  refine c_seq ?_
  refine r_start ?_
  refine p 1 ?_
  refine rend ?_
  refine c_block ?_
  refine c_nil (eI .i64) 3 ?_
  refine joinH (X := ((List Int) × Option Addr × Nat)) 0 (H.bnd h) (fun ⟨l5, A6, k7⟩ => l5) (fun ⟨l5, A6, k7⟩ => [box g0_0 79 (ePattern a0), rowT (eI .i64) w.heap.size 3 (.slice A6 (List.length l5) k7) l5]) (fun ⟨l5, A6, k7⟩ u => (jk u 0 7 (.slice A6 (List.length l5) k7 :: (jk u 8 26 [])))) (fun h hj8 => ?_) ?_
  · skip
    refine loopR (X := (Int × (List Int) × Option Addr × Nat)) (fun ⟨n1, l2, A3, k4⟩ => (n1, l2)) (fun ⟨n1, l2, A3, k4⟩ => [box g0_0 79 (ePattern a0), rowT (eI .i64) w.heap.size 3 (.slice A3 (List.length l2) k4) l2]) (fun ⟨n1, l2, A3, k4⟩ u => (jk u 0 1 (.slice A1 (List.length a1) k1 :: .int .i64 a2 :: .pointer (some ⟨g0_0, 0, none⟩) :: (jk u 4 3 (.slice A3 (List.length l2) k4 :: .int .i64 n1 :: (jk u 9 25 [])))))) (0, ([] : List Int), none, 0) h (by kernel_rfl) (by kernel_rfl) ?_
    intro x u h
    obtain ⟨n1, l2, A3, k4⟩ := x
    refine c_seq ?_
    refine c_seq ?_
    refine r_start ?_
    refine p 3 ?_
    refine rend ?_
    refine c_or (decide (n1 ≤ a2)) (fun q9 => ?_) (fun q9 => ?_)
    · replace h := H.t q9 h
      refine c_skip ?_
      refine c_seq ?_
      refine c_block ?_
      refine c_seq ?_
      refine r_start ?_
      refine p 3 ?_
      refine rend ?_
      refine c_block ?_
      refine joinH (X := ((List Int) × Option Addr × Nat)) 2 (H.bnd h) (fun ⟨l13, A14, k15⟩ => l13) (fun ⟨l13, A14, k15⟩ => [box g0_0 79 (ePattern a0), rowT (eI .i64) w.heap.size 3 (.slice A14 (List.length l13) k15) l13]) (fun ⟨l13, A14, k15⟩ u => (jk u 0 1 (.slice A1 (List.length a1) k1 :: .int .i64 a2 :: .pointer (some ⟨g0_0, 0, none⟩) :: (jk u 4 3 (.slice A14 (List.length l13) k15 :: .int .i64 n1 :: (jk u 9 25 [])))))) (fun h hj16 => ?_) ?_
      · skip
        refine rangeR (X := ((List Int) × Option Addr × Nat)) (s_arg h1) (fun ⟨l10, A11, k12⟩ => l10) (fun ⟨l10, A11, k12⟩ => [box g0_0 79 (ePattern a0), rowT (eI .i64) w.heap.size 3 (.slice A11 (List.length l10) k12) l10]) (fun (j17 : Nat) ⟨l10, A11, k12⟩ u => (jk u 0 1 (.slice A1 (List.length a1) k1 :: .int .i64 a2 :: .pointer (some ⟨g0_0, 0, none⟩) :: (jk u 4 3 (.slice A11 (List.length l10) k12 :: .int .i64 n1 :: (jk u 9 7 (.slice A1 (List.length a1) k1 :: .int .i64 (List.length a1 : Int) :: .int .i64 (j17 : Int) :: (jk u 19 15 [])))))))) (l2, A3, k4) h (by kernel_rfl) (by kernel_rfl) ?_ ?_
        · intro j17 x u x18 q19 hg20 hw21 h
          obtain ⟨l10, A11, k12⟩ := x
          refine c_seq ?_
          refine r_start ?_
          refine p 1 ?_
          refine rend ?_
          refine c_seq ?_
          refine c_yes q19 ?_
          refine c_skip ?_
          refine c_seq ?_
          refine c_block ?_
          refine c_seq ?_
          refine r_start ?_
          refine p 1 ?_
          refine xq rfl (y_idx (e := nSign) (el := 38) hg20 (s_arg h1)) ?_
          refine xq rfl (y_el (e := nSign) 0 (.agg (eSign x18).toArray) hg20 (s_arg h1)) ?_
          refine xx rfl (x_new (eSign zSign) fun g7_3 => ?_)
          refine p 1 ?_
          refine xx rfl (x_sto 2 g7_3 0 (eSign x18) ?_)
          refine rend ?_
          refine c_seq ?_
          refine r_start ?_
          refine xq rfl (y_load (.agg (ePattern a0).toArray) 0 g0_0 0) ?_
          refine xq rfl (y_load (.agg (eSign x18).toArray) 2 g7_3 0) ?_
          obtain ⟨v8_2, hv8_2, h⟩ := H.call h
          refine xq rfl (y_call [.agg (ePattern a0).toArray, .agg (eSign x18).toArray] (.int .i64 v8_2) func130 (fun W S => C.s_seCost W hv8_2)) ?_
          refine p 2 ?_
          refine rend ?_
          refine c_or (v8_2 == n1) (fun q22 => ?_) (fun q22 => ?_)
          · replace h := H.t q22 h
            refine r_start ?_
            refine p 2 ?_
            refine xx rfl (e_lit (e := (eI .i64)) (el := 3) [.int .i64 (j17 : Int)] ([(j17 : Int)] : List Int) fun A9_2 k9_2 => ?_)
            obtain ⟨y9_3, hy9_3, h⟩ := H.call h
            refine xx rfl (e_app 1 hy9_3 (s_own 3) fun A9_3 k9_3 => ?_)
            refine p 1 ?_
            refine rend ?_
            refine c_inb ?_
            refine r_start ?_
            refine p 2 ?_
            refine rend ?_
            refine c_set 18 (ci hw21) ?_
            replace h := H.inl h
            exact h (y9_3, A9_3, k9_3) _ _ rfl (by kernel_rfl) (by kernel_rfl)
          replace h := H.f q22 h
          refine c_skip ?_
          refine c_inb ?_
          refine r_start ?_
          refine p 2 ?_
          refine rend ?_
          refine c_set 18 (ci hw21) ?_
          replace h := H.inl h
          exact h (l10, A11, k12) _ _ rfl (by kernel_rfl) (by kernel_rfl)
        · intro x u q19 h
          obtain ⟨l10, A11, k12⟩ := x
          refine c_seq ?_
          refine r_start ?_
          refine p 1 ?_
          refine rend ?_
          refine c_seq ?_
          refine c_no q19 ?_
          refine cx ?_
          replace h := H.done h
          exact hj16 (l10, A11, k12) _ _ h (by kernel_rfl) (by kernel_rfl)
      intro x u h
      obtain ⟨l13, A14, k15⟩ := x
      refine c_inb ?_
      refine r_start ?_
      refine p 3 ?_
      refine rend ?_
      replace h := H.inl h
      exact h ((wr (n1 + 1)), l13, A14, k15) _ _ rfl (by kernel_rfl) (by kernel_rfl)
    replace h := H.f q9 h
    refine cx ?_
    replace h := H.inr h
    exact hj8 (l2, A3, k4) _ _ h (by kernel_rfl) (by kernel_rfl)
  intro x u h
  obtain ⟨l5, A6, k7⟩ := x
  refine c_seq ?_
  refine r_start ?_
  refine p 2 ?_
  refine rend ?_
  replace h := H.done h
  subst h
  exact ret func126 rfl (vs := [.slice A6 (List.length l5) k7]) (.tmp (by kernel_rfl) .nil) rfl (fun W S => ⟨_, _, rfl, S.row 1, S.below⟩)
theorem C.s_AnswersFor {fu : Nat} {a0 : Pattern} {a1 : (List Sign)} {A1 : Option Addr} {k1 : Nat} {r : ((List Int) × Bool)} (w : World) (h : X.s_AnswersFor fu a0 a1 = some r) (h1 : RdT nSign w (.slice A1 (List.length a1) k1) a1) : Calls prog 54 #[.agg (ePattern a0).toArray, .slice A1 (List.length a1) k1] w (RetR (eI .i64) 3 w r.1 (fun v => .tuple #[v, .bool r.2])) := by
  refine calls (M := no) (args := [.agg (ePattern a0).toArray, .slice A1 (List.length a1) k1]) func54 rfl ?_
  replace h : H (X.s_AnswersFor fu a0 a1) (fun o => o = r) := H.mk h
  unfold X.s_AnswersFor at h
  refine c_seq ?_
  refine r_start ?_
  refine xx rfl (x_box (ePattern a0) fun g0_0 => ?_)
  refine p 2 ?_
  refine rend ?_
  refine c_seq ?_
  refine c_seq ?_
  refine r_start ?_
  refine xq rfl (y_load (.agg (ePattern a0).toArray) 0 g0_0 0) ?_
  refine p 1 ?_
  obtain ⟨v1_2, hv1_2, h⟩ := H.call h
  refine xq rfl (y_call [.agg (ePattern a0).toArray, .slice A1 (List.length a1) k1] (.bool v1_2) func125 (fun W S => C.s_seAsked W hv1_2 ((s_arg h1).out W S))) ?_
  refine p 1 ?_
  refine rend ?_
  refine c_or (!v1_2) (fun q1 => ?_) (fun q1 => ?_)
  · replace h := H.t q1 h
    refine c_seq ?_
    refine r_start ?_
    refine p 2 ?_
    refine rend ?_
    replace h := H.done h
    subst h
    exact ret func54 rfl (vs := [.slice none 0 0, .bool false]) (.tmp (by kernel_rfl) (.tmp (by kernel_rfl) .nil)) rfl (fun W S => ⟨none, 0, rfl, World.ownsRow_nil _ _ _ _, S.below⟩)
  replace h := H.f q1 h
  refine c_skip ?_
  refine c_seq ?_
  refine r_start ?_
  refine xq rfl (y_load (.agg (ePattern a0).toArray) 0 g0_0 0) ?_
  refine p 1 ?_
  obtain ⟨v3_2, hv3_2, h⟩ := H.call h
  refine xx rfl (e_cr [.agg (ePattern a0).toArray, .slice A1 (List.length a1) k1, .int .i64 0] (fun v => v) func126 (fun W S => C.s_seWithin W hv3_2 ((s_arg h1).out W S)) fun A3_2 k3_2 => ?_)
  refine p 2 ?_
  refine rend ?_
  replace h := H.done h
  subst h
  exact ret func54 rfl (vs := [.slice A3_2 (List.length v3_2) k3_2, .bool true]) (.tmp (by kernel_rfl) (.tmp (by kernel_rfl) .nil)) rfl (fun W S => ⟨_, _, rfl, S.row 1, S.below⟩)
theorem C.l_sameInts {a0 : (List Int)} {A0 : Option Addr} {k0 : Nat} {a1 : (List Int)} {A1 : Option Addr} {k1 : Nat} {r : Bool} (w : World) (h : X.l_sameInts a0 a1 = some r) (h0 : RdT (eI .i64) w (.slice A0 (List.length a0) k0) a0) (h1 : RdT (eI .i64) w (.slice A1 (List.length a1) k1) a1) : Calls prog 55 #[.slice A0 (List.length a0) k0, .slice A1 (List.length a1) k1] w (Ret w (.bool r)) := by
  refine calls (M := no) (args := [.slice A0 (List.length a0) k0, .slice A1 (List.length a1) k1]) func55 rfl ?_
  replace h : H (X.l_sameInts a0 a1) (fun o => o = r) := H.mk h
  unfold X.l_sameInts at h
  refine c_seq ?_
  refine r_start ?_
  refine p 1 ?_
  refine rend ?_
  refine c_seq ?_
  refine c_seq ?_
  refine r_start ?_
  refine p 5 ?_
  refine rend ?_
  refine c_or ((List.length a0 : Int) != (List.length a1 : Int)) (fun q1 => ?_) (fun q1 => ?_)
  · replace h := H.t q1 h
    refine c_seq ?_
    refine r_start ?_
    refine p 1 ?_
    refine rend ?_
    replace h := H.done h
    subst h
    exact ret func55 rfl (vs := [.bool false]) (.tmp (by kernel_rfl) .nil) rfl (fun W S => ⟨rfl, S.below⟩)
  replace h := H.f q1 h
  refine c_skip ?_
  refine c_seq ?_
  refine c_seq ?_
  refine r_start ?_
  refine p 3 ?_
  refine rend ?_
  refine c_block ?_
  refine joinE (X := Unit) 0 (H.or h) (fun (x : Unit) => x) (fun _ => []) (fun _ u => (jk u 0 26 [])) (fun h hj2 => ?_) ?_
  · skip
    refine rangeR (X := Unit) (s_arg h0) (fun (x : Unit) => x) (fun _ => []) (fun (j3 : Nat) _ u => (.slice A0 (List.length a0) k0 :: .slice A1 (List.length a1) k1 :: (jk u 2 10 (.int .i64 (List.length a0 : Int) :: .int .i64 (j3 : Int) :: (jk u 14 12 []))))) () h (by kernel_rfl) (by kernel_rfl) ?_ ?_
    · intro j3 x u x4 q5 hg6 hw7 h
      refine c_seq ?_
      refine r_start ?_
      refine p 1 ?_
      refine rend ?_
      refine c_seq ?_
      refine c_yes q5 ?_
      refine c_skip ?_
      refine c_seq ?_
      refine c_block ?_
      refine c_seq ?_
      refine r_start ?_
      refine p 2 ?_
      refine rend ?_
      refine c_seq ?_
      refine as_start 9 9 ?_
      refine ap 0 2 ?_
      refine aq 2 rfl (y_idx (e := (eI .i64)) (el := 3) hg6 (s_arg h0)) ?_
      refine aq 3 rfl (y_el (e := (eI .i64)) 0 (.int .i64 x4) hg6 (s_arg h0)) ?_
      refine ap 4 2 ?_
      obtain ⟨y6_6, hy6_6, h⟩ := H.call h
      refine aq 6 rfl (y_idx (e := (eI .i64)) (el := 3) hy6_6 (s_arg h1)) ?_
      refine aq 7 rfl (y_el (e := (eI .i64)) 0 (.int .i64 y6_6) hy6_6 (s_arg h1)) ?_
      refine ap 8 1 ?_
      refine a_done ?_
      refine c_or (x4 != y6_6) (fun q8 => ?_) (fun q8 => ?_)
      · replace h := H.t q8 h
        refine c_seq ?_
        refine r_start ?_
        refine p 1 ?_
        refine rend ?_
        replace h := H.inr h
        replace h := H.done h
        subst h
        exact ret func55 rfl (vs := [.bool false]) (.tmp (by kernel_rfl) .nil) rfl (fun W S => ⟨rfl, S.below⟩)
      replace h := H.f q8 h
      refine c_skip ?_
      refine c_inb ?_
      refine r_start ?_
      refine p 2 ?_
      refine rend ?_
      refine c_set 13 (ci hw7) ?_
      replace h := H.inl h
      exact h () _ _ rfl (by kernel_rfl) (by kernel_rfl)
    · intro x u q5 h
      refine c_seq ?_
      refine r_start ?_
      refine p 1 ?_
      refine rend ?_
      refine c_seq ?_
      refine c_no q5 ?_
      refine cx ?_
      replace h := H.done h
      exact hj2 () _ _ h (by kernel_rfl) (by kernel_rfl)
  intro x u h
  refine c_seq ?_
  refine r_start ?_
  refine p 1 ?_
  refine rend ?_
  replace h := H.done h
  subst h
  exact ret func55 rfl (vs := [.bool true]) (.tmp (by kernel_rfl) .nil) rfl (fun W S => ⟨rfl, S.below⟩)
theorem C.i_MatchesSign {fu : Nat} {a0 : Pattern} {a1 : Sign} {r : (Bool × Bool)} (w : World) (h : X.i_MatchesSign fu a0 a1 = some r) : Calls prog 57 #[.agg (ePattern a0).toArray, .agg (eSign a1).toArray] w (Ret w (.tuple #[.bool r.1, .bool r.2])) := by
  refine calls (M := no) (args := [.agg (ePattern a0).toArray, .agg (eSign a1).toArray]) func57 rfl ?_
  replace h : H (X.i_MatchesSign fu a0 a1) (fun o => o = r) := H.mk h
  unfold X.i_MatchesSign at h
  refine c_seq ?_
  refine r_start ?_
  refine xx rfl (x_box (ePattern a0) fun g0_0 => ?_)
  refine xx rfl (x_box (eSign a1) fun g0_1 => ?_)
  refine p 2 ?_
  refine rend ?_
  refine c_seq ?_
  refine c_seq ?_
  refine r_start ?_
  refine xq rfl (y_load (.agg (ePattern a0).toArray) 0 g0_0 0) ?_
  obtain ⟨v1_1, hv1_1, h⟩ := H.call h
  refine xq rfl (y_call [.agg (ePattern a0).toArray] (.bool v1_1) func56 (fun W S => C.i_IsPattern W hv1_1)) ?_
  refine p 2 ?_
  refine br (!v1_1) (fun q1 => ?_) (fun q1 => ?_)
  · replace h := H.t q1 h
    refine o_set 9 (congrArg Value.bool q1) ?_
    refine p 4 ?_
    refine rend ?_
    refine c_t (by kernel_rfl) ?_
    refine c_seq ?_
    refine r_start ?_
    refine p 2 ?_
    refine rend ?_
    replace h := H.done h
    subst h
    exact ret func57 rfl (vs := [.bool false, .bool false]) (.tmp (by kernel_rfl) (.tmp (by kernel_rfl) .nil)) rfl (fun W S => ⟨rfl, S.below⟩)
  replace h := H.f q1 h
  refine o_set 9 (congrArg Value.bool q1) ?_
  refine xq rfl (y_load (.agg (eSign a1).toArray) 1 g0_1 0) ?_
  obtain ⟨v1_5, hv1_5, h⟩ := H.call h
  refine xq rfl (y_call [.agg (eSign a1).toArray] (.bool v1_5) func21 (fun W S => C.i_IsSign W hv1_5)) ?_
  refine p 2 ?_
  refine rend ?_
  refine c_or (!v1_5) (fun q2 => ?_) (fun q2 => ?_)
  · replace h := H.t q2 h
    refine c_seq ?_
    refine r_start ?_
    refine p 2 ?_
    refine rend ?_
    replace h := H.done h
    subst h
    exact ret func57 rfl (vs := [.bool false, .bool false]) (.tmp (by kernel_rfl) (.tmp (by kernel_rfl) .nil)) rfl (fun W S => ⟨rfl, S.below⟩)
  replace h := H.f q2 h
  refine c_skip ?_
  refine c_seq ?_
  refine r_start ?_
  refine xq rfl (y_load (.agg (ePattern a0).toArray) 0 g0_0 0) ?_
  refine xq rfl (y_load (.agg (eSign a1).toArray) 1 g0_1 0) ?_
  obtain ⟨v3_2, hv3_2, h⟩ := H.call h
  refine xq rfl (y_call [.agg (ePattern a0).toArray, .agg (eSign a1).toArray] (.int .i64 v3_2) func128 (fun W S => C.i_Pattern_cost W hv3_2)) ?_
  refine p 3 ?_
  refine rend ?_
  replace h := H.done h
  subst h
  exact ret func57 rfl (vs := [.bool (v3_2 == 0), .bool true]) (.tmp (by kernel_rfl) (.tmp (by kernel_rfl) .nil)) rfl (fun W S => ⟨rfl, S.below⟩)
theorem C.s_MatchesSign {fu : Nat} {a0 : Pattern} {a1 : Sign} {r : (Bool × Bool)} (w : World) (h : X.s_MatchesSign fu a0 a1 = some r) : Calls prog 58 #[.agg (ePattern a0).toArray, .agg (eSign a1).toArray] w (Ret w (.tuple #[.bool r.1, .bool r.2])) := by
  refine calls (M := no) (args := [.agg (ePattern a0).toArray, .agg (eSign a1).toArray]) func58 rfl ?_
  replace h : H (X.s_MatchesSign fu a0 a1) (fun o => o = r) := H.mk h
  unfold X.s_MatchesSign at h
  refine c_seq ?_
  refine r_start ?_
  refine xx rfl (x_box (ePattern a0) fun g0_0 => ?_)
  refine xx rfl (x_box (eSign a1) fun g0_1 => ?_)
  refine p 2 ?_
  refine rend ?_
  refine c_seq ?_
  refine c_seq ?_
  refine r_start ?_
  refine xq rfl (y_load (.agg (ePattern a0).toArray) 0 g0_0 0) ?_
  obtain ⟨v1_1, hv1_1, h⟩ := H.call h
  refine xq rfl (y_call [.agg (ePattern a0).toArray] (.bool v1_1) func129 (fun W S => C.s_seGood W hv1_1)) ?_
  refine p 2 ?_
  refine br (!v1_1) (fun q1 => ?_) (fun q1 => ?_)
  · replace h := H.t q1 h
    refine o_set 9 (congrArg Value.bool q1) ?_
    refine p 4 ?_
    refine rend ?_
    refine c_t (by kernel_rfl) ?_
    refine c_seq ?_
    refine r_start ?_
    refine p 2 ?_
    refine rend ?_
    replace h := H.done h
    subst h
    exact ret func58 rfl (vs := [.bool false, .bool false]) (.tmp (by kernel_rfl) (.tmp (by kernel_rfl) .nil)) rfl (fun W S => ⟨rfl, S.below⟩)
  replace h := H.f q1 h
  refine o_set 9 (congrArg Value.bool q1) ?_
  refine xq rfl (y_load (.agg (eSign a1).toArray) 1 g0_1 0) ?_
  obtain ⟨v1_5, hv1_5, h⟩ := H.call h
  refine xq rfl (y_call [.agg (eSign a1).toArray] (.bool v1_5) func75 (fun W S => C.s_siGood W hv1_5)) ?_
  refine p 2 ?_
  refine rend ?_
  refine c_or (!v1_5) (fun q2 => ?_) (fun q2 => ?_)
  · replace h := H.t q2 h
    refine c_seq ?_
    refine r_start ?_
    refine p 2 ?_
    refine rend ?_
    replace h := H.done h
    subst h
    exact ret func58 rfl (vs := [.bool false, .bool false]) (.tmp (by kernel_rfl) (.tmp (by kernel_rfl) .nil)) rfl (fun W S => ⟨rfl, S.below⟩)
  replace h := H.f q2 h
  refine c_skip ?_
  refine c_seq ?_
  refine r_start ?_
  refine xq rfl (y_load (.agg (ePattern a0).toArray) 0 g0_0 0) ?_
  refine xq rfl (y_load (.agg (eSign a1).toArray) 1 g0_1 0) ?_
  obtain ⟨v3_2, hv3_2, h⟩ := H.call h
  refine xq rfl (y_call [.agg (ePattern a0).toArray, .agg (eSign a1).toArray] (.int .i64 v3_2) func130 (fun W S => C.s_seCost W hv3_2)) ?_
  refine p 3 ?_
  refine rend ?_
  replace h := H.done h
  subst h
  exact ret func58 rfl (vs := [.bool (v3_2 == 0), .bool true]) (.tmp (by kernel_rfl) (.tmp (by kernel_rfl) .nil)) rfl (fun W S => ⟨rfl, S.below⟩)
end Go.Proofs.XC
