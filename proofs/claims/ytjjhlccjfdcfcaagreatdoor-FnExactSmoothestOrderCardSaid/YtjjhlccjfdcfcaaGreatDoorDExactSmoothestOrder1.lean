/- Contracts: each function, called where its plain function gives an answer, returns just that answer and changes nothing that was there. By AI agents; no person has read it. -/
import Derived.Test.YtjjhlccjfdcfcaaGreatDoorDExactSmoothestOrder
set_option linter.unusedVariables false
set_option linter.unusedSimpArgs false
set_option maxRecDepth 100000
set_option maxHeartbeats 40000000
namespace Go.Proofs.XC
open Go Go.RowKit
open Tryz
theorem C.i_SmoothestOrder_1 {fu : Nat} {c0 : (List Sign)} {Al : Option Addr} {kl g2 g3 g4 g5 B : Nat} {a0 : (List Int)} {A0 : Option Addr} {k0 : Nat} {a1 : (List Sign)} {A1 : Option Addr} {k1 : Nat} {b0 : (List Int)} {Ab : Option Addr} {kb : Nat} {z0 : Int} {r : (List Int) × Int} (M : Nat → Prop) (w : World) (h : X.i_SmoothestOrder_1 fu c0 a0 a1 b0 z0 = some r) (hl : RdT nSign w (.slice Al (List.length c0) kl) c0) (ql : 0 < List.length c0 → ∀ k, (Value.slice Al (List.length c0) kl).ownBlock = some k → ¬ M k) (h0 : RdT (eI .i64) w (.slice A0 (List.length a0) k0) a0) (q0 : 0 < List.length a0 → ∀ k, (Value.slice A0 (List.length a0) k0).ownBlock = some k → ¬ M k) (h1 : RdT nSign w (.slice A1 (List.length a1) k1) a1) (q1 : 0 < List.length a1 → ∀ k, (Value.slice A1 (List.length a1) k1).ownBlock = some k → ¬ M k) (hB : B ≤ w.heap.size) (S : St M w w [box g2 26 [.slice Al (List.length c0) kl], box g5 67 [.func (.func 35) #[] #[.pointer (some ⟨g2, 0, none⟩), .pointer (some ⟨g3, 0, none⟩), .pointer (some ⟨g4, 0, none⟩), .pointer (some ⟨g5, 0, none⟩)]], box g3 28 [.slice Ab (List.length b0) kb], box g4 3 [.int .i64 z0], rowN (eI .i64) B 3 (.slice Ab (List.length b0) kb) b0]) : Calls prog 35 #[.slice A0 (List.length a0) k0, .slice A1 (List.length a1) k1, .pointer (some ⟨g2, 0, none⟩), .pointer (some ⟨g3, 0, none⟩), .pointer (some ⟨g4, 0, none⟩), .pointer (some ⟨g5, 0, none⟩)] w (fun en W2 => en = .returned (.tuple #[]) ∧ ∃ A k, St M w W2 [box g2 26 [.slice Al (List.length c0) kl], box g5 67 [.func (.func 35) #[] #[.pointer (some ⟨g2, 0, none⟩), .pointer (some ⟨g3, 0, none⟩), .pointer (some ⟨g4, 0, none⟩), .pointer (some ⟨g5, 0, none⟩)]], box g3 28 [.slice A (List.length r.1) k], box g4 3 [.int .i64 r.2], rowN (eI .i64) B 3 (.slice A (List.length r.1) k) r.1]) := by
  induction fu generalizing a0 A0 k0 a1 A1 k1 b0 Ab kb z0 r M w with
  | zero => cases h
  | succ fu ih =>
  refine callsH (args := [.slice A0 (List.length a0) k0, .slice A1 (List.length a1) k1, .pointer (some ⟨g2, 0, none⟩), .pointer (some ⟨g3, 0, none⟩), .pointer (some ⟨g4, 0, none⟩), .pointer (some ⟨g5, 0, none⟩)]) S func35 rfl ?_
  replace h : H (X.i_SmoothestOrder_1 (fu + 1) c0 a0 a1 b0 z0) (fun o => o = r) := H.mk h
  rw [X.i_SmoothestOrder_1] at h
  refine c_fact (f_nilN 4) fun hz => ?_
  refine c_seq ?_
  refine joinT (X := (Int × (List Int) × Option Addr × Nat)) (H.bnd h) (fun ⟨s1, l2, A3, k4⟩ => (s1, l2)) (fun ⟨s1, l2, A3, k4⟩ => [box g2 26 [.slice Al (List.length c0) kl], box g5 67 [.func (.func 35) #[] #[.pointer (some ⟨g2, 0, none⟩), .pointer (some ⟨g3, 0, none⟩), .pointer (some ⟨g4, 0, none⟩), .pointer (some ⟨g5, 0, none⟩)]], box g3 28 [.slice A3 (List.length l2) k4], box g4 3 [.int .i64 s1], rowN (eI .i64) B 3 (.slice A3 (List.length l2) k4) l2]) (fun ⟨s1, l2, A3, k4⟩ u => (.slice A0 (List.length a0) k0 :: .slice A1 (List.length a1) k1 :: .pointer (some ⟨g2, 0, none⟩) :: (jk u 3 2 (.pointer (some ⟨g5, 0, none⟩) :: (jk u 6 47 []))))) (fun h hj5 => ?_) ?_
  · skip
    refine c_seq ?_
    refine as_start 15 15 ?_
    refine ap 0 2 ?_
    refine aq 2 rfl (y_load (.slice Al (List.length c0) kl) 0 g2 0) ?_
    refine ap 3 3 ?_
    refine br ((List.length a0 : Int) == (List.length c0 : Int)) (fun q6 => ?_) (fun q6 => ?_)
    · replace h := H.t q6 h
      refine a_set 15 (congrArg Value.bool q6) ?_
      refine aq 6 rfl (y_load (.slice Ab (List.length b0) kb) 2 g3 0) ?_
      refine aq 7 rfl (y_eqn (A := Ab) (n := List.length b0) (c := kb) (el := 3) rfl (by kernel_rfl) (by kernel_rfl) (by kernel_rfl)) ?_
      refine a_set 17 (congrArg Value.bool hz) ?_
      refine ap 8 1 ?_
      refine br (List.isEmpty b0) (fun q7 => ?_) (fun q7 => ?_)
      · replace h := H.t q7 h
        refine a_set 18 (congrArg Value.bool q7) ?_
        refine ap 9 6 ?_
        refine a_done ?_
        refine c_t (by kernel_rfl) ?_
        refine r_start ?_
        refine p 1 ?_
        obtain ⟨v1_1, hv1_1, h⟩ := H.call h
        refine xx rfl (e_cr [.slice A0 (List.length a0) k0] (fun v => v) func37 (fun W S => C.slices_Clone_int_int W hv1_1 ((s_argN h0 q0).out W S)) fun A1_1 k1_1 => ?_)
        refine p 1 ?_
        obtain ⟨v1_3, hv1_3, h⟩ := H.call h
        refine xq rfl (y_call [.slice A1 (List.length a1) k1] (.int .i64 v1_3) func36 (fun W S => C.i_gapsIn W hv1_3 ((s_argN h1 q1).out W S))) ?_
        refine br (List.isEmpty v1_1) (fun q8 => ?_) (fun q8 => ?_)
        · exact H.none (H.t q8 h)
        replace h := H.f q8 h
        refine o_toN 5 hB q8 ?_
        refine xx rfl (x_sto 2 g3 0 [.slice A1_1 (List.length v1_1) k1_1] ?_)
        refine xx rfl (x_sto 3 g4 0 [.int .i64 v1_3] ?_)
        refine rend ?_
        refine pick [0, 1, 2, 3, 5] [box g2 26 [.slice Al (List.length c0) kl], box g5 67 [.func (.func 35) #[] #[.pointer (some ⟨g2, 0, none⟩), .pointer (some ⟨g3, 0, none⟩), .pointer (some ⟨g4, 0, none⟩), .pointer (some ⟨g5, 0, none⟩)]], box g3 28 [.slice A1_1 (List.length v1_1) k1_1], box g4 3 [.int .i64 v1_3], rowN (eI .i64) B 3 (.slice A1_1 (List.length v1_1) k1_1) v1_1] ?_
        replace h := H.done h
        exact hj5 (v1_3, v1_1, A1_1, k1_1) _ _ h (by kernel_rfl) (by kernel_rfl)
      replace h := H.f q7 h
      refine a_set 18 (congrArg Value.bool q7) ?_
      refine ap 9 1 ?_
      obtain ⟨v0_10, hv0_10, h⟩ := H.call h
      refine aq 10 rfl (y_call [.slice A1 (List.length a1) k1] (.int .i64 v0_10) func36 (fun W S => C.i_gapsIn W hv0_10 ((s_argN h1 q1).out W S))) ?_
      refine aq 11 rfl (y_load (.int .i64 z0) 3 g4 0) ?_
      refine ap 12 3 ?_
      refine a_done ?_
      refine c_or (decide (v0_10 < z0)) (fun q9 => ?_) (fun q9 => ?_)
      · replace h := H.t q9 h
        refine r_start ?_
        refine p 1 ?_
        obtain ⟨v1_1, hv1_1, h⟩ := H.call h
        refine xx rfl (e_cr [.slice A0 (List.length a0) k0] (fun v => v) func37 (fun W S => C.slices_Clone_int_int W hv1_1 ((s_argN h0 q0).out W S)) fun A1_1 k1_1 => ?_)
        refine p 1 ?_
        obtain ⟨v1_3, hv1_3, h⟩ := H.call h
        refine xq rfl (y_call [.slice A1 (List.length a1) k1] (.int .i64 v1_3) func36 (fun W S => C.i_gapsIn W hv1_3 ((s_argN h1 q1).out W S))) ?_
        refine br (List.isEmpty v1_1) (fun q10 => ?_) (fun q10 => ?_)
        · exact H.none (H.t q10 h)
        replace h := H.f q10 h
        refine o_toN 5 hB q10 ?_
        refine xx rfl (x_sto 2 g3 0 [.slice A1_1 (List.length v1_1) k1_1] ?_)
        refine xx rfl (x_sto 3 g4 0 [.int .i64 v1_3] ?_)
        refine rend ?_
        refine pick [0, 1, 2, 3, 5] [box g2 26 [.slice Al (List.length c0) kl], box g5 67 [.func (.func 35) #[] #[.pointer (some ⟨g2, 0, none⟩), .pointer (some ⟨g3, 0, none⟩), .pointer (some ⟨g4, 0, none⟩), .pointer (some ⟨g5, 0, none⟩)]], box g3 28 [.slice A1_1 (List.length v1_1) k1_1], box g4 3 [.int .i64 v1_3], rowN (eI .i64) B 3 (.slice A1_1 (List.length v1_1) k1_1) v1_1] ?_
        replace h := H.done h
        exact hj5 (v1_3, v1_1, A1_1, k1_1) _ _ h (by kernel_rfl) (by kernel_rfl)
      replace h := H.f q9 h
      refine c_skip ?_
      replace h := H.done h
      exact hj5 (z0, b0, Ab, kb) _ _ h (by kernel_rfl) (by kernel_rfl)
    replace h := H.f q6 h
    refine a_set 15 (congrArg Value.bool q6) ?_
    refine ap 6 9 ?_
    refine a_done ?_
    refine c_f (by kernel_rfl) ?_
    refine c_skip ?_
    replace h := H.done h
    exact hj5 (z0, b0, Ab, kb) _ _ h (by kernel_rfl) (by kernel_rfl)
  intro x u h
  obtain ⟨s1, l2, A3, k4⟩ := x
  refine c_seq ?_
  refine r_start ?_
  refine xq rfl (y_load (.slice Al (List.length c0) kl) 0 g2 0) ?_
  refine p 2 ?_
  refine rend ?_
  refine c_block ?_
  refine joinH (X := (Int × (List Int) × Option Addr × Nat)) 0 (H.bnd h) (fun ⟨s15, l16, A17, k18⟩ => (s15, l16)) (fun ⟨s15, l16, A17, k18⟩ => [box g2 26 [.slice Al (List.length c0) kl], box g5 67 [.func (.func 35) #[] #[.pointer (some ⟨g2, 0, none⟩), .pointer (some ⟨g3, 0, none⟩), .pointer (some ⟨g4, 0, none⟩), .pointer (some ⟨g5, 0, none⟩)]], box g3 28 [.slice A17 (List.length l16) k18], box g4 3 [.int .i64 s15], rowN (eI .i64) B 3 (.slice A17 (List.length l16) k18) l16]) (fun ⟨s15, l16, A17, k18⟩ u => (jk u 0 53 [])) (fun h hj19 => ?_) ?_
  · skip
    refine rangeR (X := (Int × (List Int) × Option Addr × Nat)) (s_argN hl ql) (fun ⟨s11, l12, A13, k14⟩ => (s11, l12)) (fun ⟨s11, l12, A13, k14⟩ => [box g2 26 [.slice Al (List.length c0) kl], box g5 67 [.func (.func 35) #[] #[.pointer (some ⟨g2, 0, none⟩), .pointer (some ⟨g3, 0, none⟩), .pointer (some ⟨g4, 0, none⟩), .pointer (some ⟨g5, 0, none⟩)]], box g3 28 [.slice A13 (List.length l12) k14], box g4 3 [.int .i64 s11], rowN (eI .i64) B 3 (.slice A13 (List.length l12) k14) l12]) (fun (j20 : Nat) ⟨s11, l12, A13, k14⟩ u => (.slice A0 (List.length a0) k0 :: .slice A1 (List.length a1) k1 :: (jk u 2 3 (.pointer (some ⟨g5, 0, none⟩) :: (jk u 6 23 (.slice Al (List.length c0) kl :: .int .i64 (List.length c0 : Int) :: .int .i64 (j20 : Int) :: (jk u 32 21 []))))))) (s1, l2, A3, k4) h (by kernel_rfl) (by kernel_rfl) ?_ ?_
    · intro j20 x u x21 q22 hg23 hw24 h
      obtain ⟨s11, l12, A13, k14⟩ := x
      refine c_seq ?_
      refine r_start ?_
      refine p 1 ?_
      refine rend ?_
      refine c_seq ?_
      refine c_yes q22 ?_
      refine c_skip ?_
      refine c_seq ?_
      refine c_block ?_
      refine c_seq ?_
      refine r_start ?_
      refine p 1 ?_
      refine xq rfl (y_idx (e := nSign) (el := 46) hg23 (s_argN hl ql)) ?_
      refine xq rfl (y_el (e := nSign) 0 (.agg (eSign x21).toArray) hg23 (s_argN hl ql)) ?_
      refine xx rfl (x_new (eSign zSign) fun g4_3 => ?_)
      refine p 1 ?_
      refine xx rfl (x_sto 5 g4_3 0 (eSign x21) ?_)
      refine rend ?_
      refine c_seq ?_
      refine r_start ?_
      refine p 2 ?_
      obtain ⟨v5_2, hv5_2, h⟩ := H.call h
      refine xq rfl (y_call [.slice A0 (List.length a0) k0, .int .i64 (j20 : Int)] (.bool v5_2) func38 (fun W S => C.slices_Contains_int_int W hv5_2 ((s_argN h0 q0).out W S))) ?_
      refine p 1 ?_
      refine rend ?_
      refine c_or (!v5_2) (fun q25 => ?_) (fun q25 => ?_)
      · replace h := H.t q25 h
        refine as_start 11 12 ?_
        refine aq 0 rfl (y_load (.func (.func 35) #[] #[.pointer (some ⟨g2, 0, none⟩), .pointer (some ⟨g3, 0, none⟩), .pointer (some ⟨g4, 0, none⟩), .pointer (some ⟨g5, 0, none⟩)]) 1 g5 0) ?_
        refine ap 1 1 ?_
        refine ap 3 1 ?_
        refine ap 6 1 ?_
        refine aq 8 rfl (y_load (.agg (eSign x21).toArray) 5 g4_3 0) ?_
        refine a_three 2 4 9 rfl rfl rfl ?_ ?_ ?_
        · skip
          obtain ⟨v6_2, hv6_2, h⟩ := H.call h
          refine (e_cr [.slice A0 (List.length a0) k0] (fun v => v) func37 (fun W S => C.slices_Clone_int_int W hv6_2 ((s_argN h0 q0).out W S)) fun A6_2 k6_2 => ⟨.inr (by kernel_rfl), ?_⟩)
          refine a_two 4 9 rfl rfl ?_ ?_
          · skip
            refine (e_lit (e := (eI .i64)) (el := 3) [.int .i64 (j20 : Int)] ([(j20 : Int)] : List Int) fun A6_4 k6_4 => ⟨.inr (by kernel_rfl), ?_⟩)
            refine a_two 5 9 rfl rfl ?_ ?_
            · skip
              obtain ⟨y6_5, hy6_5, h⟩ := H.call h
              refine (e_app 6 hy6_5 (s_own 7) fun A6_5 k6_5 => ⟨.inr (by kernel_rfl), ?_⟩)
              refine a_two 7 9 rfl rfl ?_ ?_
              · skip
                obtain ⟨v6_7, hv6_7, h⟩ := H.call h
                refine (e_cr [.slice A1 (List.length a1) k1] (fun v => v) func39 (fun W S => C.slices_Clone_i_Sign_i_Sign W hv6_7 ((s_argN h1 q1).out W S)) fun A6_7 k6_7 => ⟨.inr (by kernel_rfl), ?_⟩)
                refine ax 9 rfl (e_lit (e := nSign) (el := 46) [.agg (eSign x21).toArray] ([x21] : List Sign) fun A6_9 k6_9 => ⟨.inr (by kernel_rfl), ?_⟩)
                obtain ⟨y6_10, hy6_10, h⟩ := H.call h
                refine ax 10 rfl (e_app 8 hy6_10 (s_own 9) fun A6_10 k6_10 => ⟨.inr (by kernel_rfl), ?_⟩)
                obtain ⟨v6_11, hv6_11, h⟩ := H.call h
                refine ax 11 rfl (e_ch (v := .tuple #[]) 5 (fun (A6_11 : Option Addr) (k6_11 : Nat) => [box g2 26 [.slice Al (List.length c0) kl], box g5 67 [.func (.func 35) #[] #[.pointer (some ⟨g2, 0, none⟩), .pointer (some ⟨g3, 0, none⟩), .pointer (some ⟨g4, 0, none⟩), .pointer (some ⟨g5, 0, none⟩)]], box g3 28 [.slice A6_11 (List.length v6_11.1) k6_11], box g4 3 [.int .i64 v6_11.2], rowN (eI .i64) B 3 (.slice A6_11 (List.length v6_11.1) k6_11) v6_11.1]) [.pointer (some ⟨g2, 0, none⟩), .pointer (some ⟨g3, 0, none⟩), .pointer (some ⟨g4, 0, none⟩), .pointer (some ⟨g5, 0, none⟩)] [.slice A6_5 (List.length y6_5) k6_5, .slice A6_10 (List.length y6_10) k6_10, .pointer (some ⟨g2, 0, none⟩), .pointer (some ⟨g3, 0, none⟩), .pointer (some ⟨g4, 0, none⟩), .pointer (some ⟨g5, 0, none⟩)] func35 (fun W S M2 hM S2 => ih M2 W hv6_11 ((s_argN hl ql).out W S) (ap_old hl ql S hM) ((s_own 6).out W S) (ap_rowH S 6 (by decide) hM) ((s_own 8).out W S) (ap_rowH S 8 (by decide) hM) (Nat.le_trans hB S.size) S2) fun A6_11 k6_11 => ⟨.inl (by kernel_rfl), ?_⟩)
                refine a_done ?_
                refine c_inb ?_
                refine r_start ?_
                refine p 2 ?_
                refine rend ?_
                refine c_set 31 (ci hw24) ?_
                replace h := H.inl h
                exact h (v6_11.2, v6_11.1, A6_11, k6_11) _ _ rfl (by kernel_rfl) (by kernel_rfl)
              refine (e_lit (e := nSign) (el := 46) [.agg (eSign x21).toArray] ([x21] : List Sign) fun A6_9 k6_9 => ⟨.inr (by kernel_rfl), ?_⟩)
              obtain ⟨v6_7, hv6_7, h⟩ := H.call h
              refine ax 7 rfl (e_cr [.slice A1 (List.length a1) k1] (fun v => v) func39 (fun W S => C.slices_Clone_i_Sign_i_Sign W hv6_7 ((s_argN h1 q1).out W S)) fun A6_7 k6_7 => ⟨.inr (by kernel_rfl), ?_⟩)
              obtain ⟨y6_10, hy6_10, h⟩ := H.call h
              refine ax 10 rfl (e_app 9 hy6_10 (s_own 8) fun A6_10 k6_10 => ⟨.inr (by kernel_rfl), ?_⟩)
              obtain ⟨v6_11, hv6_11, h⟩ := H.call h
              refine ax 11 rfl (e_ch (v := .tuple #[]) 5 (fun (A6_11 : Option Addr) (k6_11 : Nat) => [box g2 26 [.slice Al (List.length c0) kl], box g5 67 [.func (.func 35) #[] #[.pointer (some ⟨g2, 0, none⟩), .pointer (some ⟨g3, 0, none⟩), .pointer (some ⟨g4, 0, none⟩), .pointer (some ⟨g5, 0, none⟩)]], box g3 28 [.slice A6_11 (List.length v6_11.1) k6_11], box g4 3 [.int .i64 v6_11.2], rowN (eI .i64) B 3 (.slice A6_11 (List.length v6_11.1) k6_11) v6_11.1]) [.pointer (some ⟨g2, 0, none⟩), .pointer (some ⟨g3, 0, none⟩), .pointer (some ⟨g4, 0, none⟩), .pointer (some ⟨g5, 0, none⟩)] [.slice A6_5 (List.length y6_5) k6_5, .slice A6_10 (List.length y6_10) k6_10, .pointer (some ⟨g2, 0, none⟩), .pointer (some ⟨g3, 0, none⟩), .pointer (some ⟨g4, 0, none⟩), .pointer (some ⟨g5, 0, none⟩)] func35 (fun W S M2 hM S2 => ih M2 W hv6_11 ((s_argN hl ql).out W S) (ap_old hl ql S hM) ((s_own 6).out W S) (ap_rowH S 6 (by decide) hM) ((s_own 9).out W S) (ap_rowH S 9 (by decide) hM) (Nat.le_trans hB S.size) S2) fun A6_11 k6_11 => ⟨.inl (by kernel_rfl), ?_⟩)
              refine a_done ?_
              refine swp [box g2 26 [.slice Al (List.length c0) kl], box g5 67 [.func (.func 35) #[] #[.pointer (some ⟨g2, 0, none⟩), .pointer (some ⟨g3, 0, none⟩), .pointer (some ⟨g4, 0, none⟩), .pointer (some ⟨g5, 0, none⟩)]], box g3 28 [.slice A6_11 (List.length v6_11.1) k6_11], box g4 3 [.int .i64 v6_11.2], rowN (eI .i64) B 3 (.slice A6_11 (List.length v6_11.1) k6_11) v6_11.1, box g4_3 46 (eSign x21), rowT (eI .i64) w.heap.size 3 (.slice A6_5 (List.length y6_5) k6_5) y6_5, rowT (eI .i64) w.heap.size 3 (.slice A6_4 (List.length ([(j20 : Int)] : List Int)) k6_4) ([(j20 : Int)] : List Int)] (rowT nSign w.heap.size 46 (.slice A6_9 (List.length ([x21] : List Sign)) k6_9) ([x21] : List Sign)) (rowT nSign w.heap.size 46 (.slice A6_10 (List.length y6_10) k6_10) y6_10) ?_
              refine c_inb ?_
              refine r_start ?_
              refine p 2 ?_
              refine rend ?_
              refine c_set 31 (ci hw24) ?_
              replace h := H.inl h
              exact h (v6_11.2, v6_11.1, A6_11, k6_11) _ _ rfl (by kernel_rfl) (by kernel_rfl)
            refine (e_lit (e := nSign) (el := 46) [.agg (eSign x21).toArray] ([x21] : List Sign) fun A6_9 k6_9 => ⟨.inr (by kernel_rfl), ?_⟩)
            obtain ⟨y6_5, hy6_5, h⟩ := H.call h
            refine ax 5 rfl (e_app 6 hy6_5 (s_own 7) fun A6_5 k6_5 => ⟨.inr (by kernel_rfl), ?_⟩)
            obtain ⟨v6_7, hv6_7, h⟩ := H.call h
            refine ax 7 rfl (e_cr [.slice A1 (List.length a1) k1] (fun v => v) func39 (fun W S => C.slices_Clone_i_Sign_i_Sign W hv6_7 ((s_argN h1 q1).out W S)) fun A6_7 k6_7 => ⟨.inr (by kernel_rfl), ?_⟩)
            obtain ⟨y6_10, hy6_10, h⟩ := H.call h
            refine ax 10 rfl (e_app 9 hy6_10 (s_own 8) fun A6_10 k6_10 => ⟨.inr (by kernel_rfl), ?_⟩)
            obtain ⟨v6_11, hv6_11, h⟩ := H.call h
            refine ax 11 rfl (e_ch (v := .tuple #[]) 5 (fun (A6_11 : Option Addr) (k6_11 : Nat) => [box g2 26 [.slice Al (List.length c0) kl], box g5 67 [.func (.func 35) #[] #[.pointer (some ⟨g2, 0, none⟩), .pointer (some ⟨g3, 0, none⟩), .pointer (some ⟨g4, 0, none⟩), .pointer (some ⟨g5, 0, none⟩)]], box g3 28 [.slice A6_11 (List.length v6_11.1) k6_11], box g4 3 [.int .i64 v6_11.2], rowN (eI .i64) B 3 (.slice A6_11 (List.length v6_11.1) k6_11) v6_11.1]) [.pointer (some ⟨g2, 0, none⟩), .pointer (some ⟨g3, 0, none⟩), .pointer (some ⟨g4, 0, none⟩), .pointer (some ⟨g5, 0, none⟩)] [.slice A6_5 (List.length y6_5) k6_5, .slice A6_10 (List.length y6_10) k6_10, .pointer (some ⟨g2, 0, none⟩), .pointer (some ⟨g3, 0, none⟩), .pointer (some ⟨g4, 0, none⟩), .pointer (some ⟨g5, 0, none⟩)] func35 (fun W S M2 hM S2 => ih M2 W hv6_11 ((s_argN hl ql).out W S) (ap_old hl ql S hM) ((s_own 6).out W S) (ap_rowH S 6 (by decide) hM) ((s_own 9).out W S) (ap_rowH S 9 (by decide) hM) (Nat.le_trans hB S.size) S2) fun A6_11 k6_11 => ⟨.inl (by kernel_rfl), ?_⟩)
            refine a_done ?_
            refine swp [box g2 26 [.slice Al (List.length c0) kl], box g5 67 [.func (.func 35) #[] #[.pointer (some ⟨g2, 0, none⟩), .pointer (some ⟨g3, 0, none⟩), .pointer (some ⟨g4, 0, none⟩), .pointer (some ⟨g5, 0, none⟩)]], box g3 28 [.slice A6_11 (List.length v6_11.1) k6_11], box g4 3 [.int .i64 v6_11.2], rowN (eI .i64) B 3 (.slice A6_11 (List.length v6_11.1) k6_11) v6_11.1, box g4_3 46 (eSign x21), rowT (eI .i64) w.heap.size 3 (.slice A6_5 (List.length y6_5) k6_5) y6_5, rowT (eI .i64) w.heap.size 3 (.slice A6_4 (List.length ([(j20 : Int)] : List Int)) k6_4) ([(j20 : Int)] : List Int)] (rowT nSign w.heap.size 46 (.slice A6_9 (List.length ([x21] : List Sign)) k6_9) ([x21] : List Sign)) (rowT nSign w.heap.size 46 (.slice A6_10 (List.length y6_10) k6_10) y6_10) ?_
            refine c_inb ?_
            refine r_start ?_
            refine p 2 ?_
            refine rend ?_
            refine c_set 31 (ci hw24) ?_
            replace h := H.inl h
            exact h (v6_11.2, v6_11.1, A6_11, k6_11) _ _ rfl (by kernel_rfl) (by kernel_rfl)
          refine (e_lit (e := nSign) (el := 46) [.agg (eSign x21).toArray] ([x21] : List Sign) fun A6_9 k6_9 => ⟨.inr (by kernel_rfl), ?_⟩)
          refine ax 4 rfl (e_lit (e := (eI .i64)) (el := 3) [.int .i64 (j20 : Int)] ([(j20 : Int)] : List Int) fun A6_4 k6_4 => ⟨.inr (by kernel_rfl), ?_⟩)
          obtain ⟨y6_5, hy6_5, h⟩ := H.call h
          refine ax 5 rfl (e_app 6 hy6_5 (s_own 8) fun A6_5 k6_5 => ⟨.inr (by kernel_rfl), ?_⟩)
          obtain ⟨v6_7, hv6_7, h⟩ := H.call h
          refine ax 7 rfl (e_cr [.slice A1 (List.length a1) k1] (fun v => v) func39 (fun W S => C.slices_Clone_i_Sign_i_Sign W hv6_7 ((s_argN h1 q1).out W S)) fun A6_7 k6_7 => ⟨.inr (by kernel_rfl), ?_⟩)
          obtain ⟨y6_10, hy6_10, h⟩ := H.call h
          refine ax 10 rfl (e_app 9 hy6_10 (s_own 7) fun A6_10 k6_10 => ⟨.inr (by kernel_rfl), ?_⟩)
          obtain ⟨v6_11, hv6_11, h⟩ := H.call h
          refine ax 11 rfl (e_ch (v := .tuple #[]) 5 (fun (A6_11 : Option Addr) (k6_11 : Nat) => [box g2 26 [.slice Al (List.length c0) kl], box g5 67 [.func (.func 35) #[] #[.pointer (some ⟨g2, 0, none⟩), .pointer (some ⟨g3, 0, none⟩), .pointer (some ⟨g4, 0, none⟩), .pointer (some ⟨g5, 0, none⟩)]], box g3 28 [.slice A6_11 (List.length v6_11.1) k6_11], box g4 3 [.int .i64 v6_11.2], rowN (eI .i64) B 3 (.slice A6_11 (List.length v6_11.1) k6_11) v6_11.1]) [.pointer (some ⟨g2, 0, none⟩), .pointer (some ⟨g3, 0, none⟩), .pointer (some ⟨g4, 0, none⟩), .pointer (some ⟨g5, 0, none⟩)] [.slice A6_5 (List.length y6_5) k6_5, .slice A6_10 (List.length y6_10) k6_10, .pointer (some ⟨g2, 0, none⟩), .pointer (some ⟨g3, 0, none⟩), .pointer (some ⟨g4, 0, none⟩), .pointer (some ⟨g5, 0, none⟩)] func35 (fun W S M2 hM S2 => ih M2 W hv6_11 ((s_argN hl ql).out W S) (ap_old hl ql S hM) ((s_own 6).out W S) (ap_rowH S 6 (by decide) hM) ((s_own 9).out W S) (ap_rowH S 9 (by decide) hM) (Nat.le_trans hB S.size) S2) fun A6_11 k6_11 => ⟨.inl (by kernel_rfl), ?_⟩)
          refine a_done ?_
          refine pick [0, 1, 2, 3, 4, 5, 6, 8, 9, 7] [box g2 26 [.slice Al (List.length c0) kl], box g5 67 [.func (.func 35) #[] #[.pointer (some ⟨g2, 0, none⟩), .pointer (some ⟨g3, 0, none⟩), .pointer (some ⟨g4, 0, none⟩), .pointer (some ⟨g5, 0, none⟩)]], box g3 28 [.slice A6_11 (List.length v6_11.1) k6_11], box g4 3 [.int .i64 v6_11.2], rowN (eI .i64) B 3 (.slice A6_11 (List.length v6_11.1) k6_11) v6_11.1, box g4_3 46 (eSign x21), rowT (eI .i64) w.heap.size 3 (.slice A6_5 (List.length y6_5) k6_5) y6_5, rowT (eI .i64) w.heap.size 3 (.slice A6_4 (List.length ([(j20 : Int)] : List Int)) k6_4) ([(j20 : Int)] : List Int), rowT nSign w.heap.size 46 (.slice A6_10 (List.length y6_10) k6_10) y6_10, rowT nSign w.heap.size 46 (.slice A6_9 (List.length ([x21] : List Sign)) k6_9) ([x21] : List Sign)] ?_
          refine c_inb ?_
          refine r_start ?_
          refine p 2 ?_
          refine rend ?_
          refine c_set 31 (ci hw24) ?_
          replace h := H.inl h
          exact h (v6_11.2, v6_11.1, A6_11, k6_11) _ _ rfl (by kernel_rfl) (by kernel_rfl)
        · skip
          refine (e_lit (e := (eI .i64)) (el := 3) [.int .i64 (j20 : Int)] ([(j20 : Int)] : List Int) fun A6_4 k6_4 => ⟨.inr (by kernel_rfl), ?_⟩)
          refine a_two 2 9 rfl rfl ?_ ?_
          · skip
            obtain ⟨v6_2, hv6_2, h⟩ := H.call h
            refine (e_cr [.slice A0 (List.length a0) k0] (fun v => v) func37 (fun W S => C.slices_Clone_int_int W hv6_2 ((s_argN h0 q0).out W S)) fun A6_2 k6_2 => ⟨.inr (by kernel_rfl), ?_⟩)
            refine a_two 5 9 rfl rfl ?_ ?_
            · skip
              obtain ⟨y6_5, hy6_5, h⟩ := H.call h
              refine (e_app 7 hy6_5 (s_own 6) fun A6_5 k6_5 => ⟨.inr (by kernel_rfl), ?_⟩)
              refine a_two 7 9 rfl rfl ?_ ?_
              · skip
                obtain ⟨v6_7, hv6_7, h⟩ := H.call h
                refine (e_cr [.slice A1 (List.length a1) k1] (fun v => v) func39 (fun W S => C.slices_Clone_i_Sign_i_Sign W hv6_7 ((s_argN h1 q1).out W S)) fun A6_7 k6_7 => ⟨.inr (by kernel_rfl), ?_⟩)
                refine ax 9 rfl (e_lit (e := nSign) (el := 46) [.agg (eSign x21).toArray] ([x21] : List Sign) fun A6_9 k6_9 => ⟨.inr (by kernel_rfl), ?_⟩)
                obtain ⟨y6_10, hy6_10, h⟩ := H.call h
                refine ax 10 rfl (e_app 8 hy6_10 (s_own 9) fun A6_10 k6_10 => ⟨.inr (by kernel_rfl), ?_⟩)
                obtain ⟨v6_11, hv6_11, h⟩ := H.call h
                refine ax 11 rfl (e_ch (v := .tuple #[]) 5 (fun (A6_11 : Option Addr) (k6_11 : Nat) => [box g2 26 [.slice Al (List.length c0) kl], box g5 67 [.func (.func 35) #[] #[.pointer (some ⟨g2, 0, none⟩), .pointer (some ⟨g3, 0, none⟩), .pointer (some ⟨g4, 0, none⟩), .pointer (some ⟨g5, 0, none⟩)]], box g3 28 [.slice A6_11 (List.length v6_11.1) k6_11], box g4 3 [.int .i64 v6_11.2], rowN (eI .i64) B 3 (.slice A6_11 (List.length v6_11.1) k6_11) v6_11.1]) [.pointer (some ⟨g2, 0, none⟩), .pointer (some ⟨g3, 0, none⟩), .pointer (some ⟨g4, 0, none⟩), .pointer (some ⟨g5, 0, none⟩)] [.slice A6_5 (List.length y6_5) k6_5, .slice A6_10 (List.length y6_10) k6_10, .pointer (some ⟨g2, 0, none⟩), .pointer (some ⟨g3, 0, none⟩), .pointer (some ⟨g4, 0, none⟩), .pointer (some ⟨g5, 0, none⟩)] func35 (fun W S M2 hM S2 => ih M2 W hv6_11 ((s_argN hl ql).out W S) (ap_old hl ql S hM) ((s_own 7).out W S) (ap_rowH S 7 (by decide) hM) ((s_own 8).out W S) (ap_rowH S 8 (by decide) hM) (Nat.le_trans hB S.size) S2) fun A6_11 k6_11 => ⟨.inl (by kernel_rfl), ?_⟩)
                refine a_done ?_
                refine pick [0, 1, 2, 3, 4, 5, 7, 6, 8, 9] [box g2 26 [.slice Al (List.length c0) kl], box g5 67 [.func (.func 35) #[] #[.pointer (some ⟨g2, 0, none⟩), .pointer (some ⟨g3, 0, none⟩), .pointer (some ⟨g4, 0, none⟩), .pointer (some ⟨g5, 0, none⟩)]], box g3 28 [.slice A6_11 (List.length v6_11.1) k6_11], box g4 3 [.int .i64 v6_11.2], rowN (eI .i64) B 3 (.slice A6_11 (List.length v6_11.1) k6_11) v6_11.1, box g4_3 46 (eSign x21), rowT (eI .i64) w.heap.size 3 (.slice A6_5 (List.length y6_5) k6_5) y6_5, rowT (eI .i64) w.heap.size 3 (.slice A6_4 (List.length ([(j20 : Int)] : List Int)) k6_4) ([(j20 : Int)] : List Int), rowT nSign w.heap.size 46 (.slice A6_10 (List.length y6_10) k6_10) y6_10, rowT nSign w.heap.size 46 (.slice A6_9 (List.length ([x21] : List Sign)) k6_9) ([x21] : List Sign)] ?_
                refine c_inb ?_
                refine r_start ?_
                refine p 2 ?_
                refine rend ?_
                refine c_set 31 (ci hw24) ?_
                replace h := H.inl h
                exact h (v6_11.2, v6_11.1, A6_11, k6_11) _ _ rfl (by kernel_rfl) (by kernel_rfl)
              refine (e_lit (e := nSign) (el := 46) [.agg (eSign x21).toArray] ([x21] : List Sign) fun A6_9 k6_9 => ⟨.inr (by kernel_rfl), ?_⟩)
              obtain ⟨v6_7, hv6_7, h⟩ := H.call h
              refine ax 7 rfl (e_cr [.slice A1 (List.length a1) k1] (fun v => v) func39 (fun W S => C.slices_Clone_i_Sign_i_Sign W hv6_7 ((s_argN h1 q1).out W S)) fun A6_7 k6_7 => ⟨.inr (by kernel_rfl), ?_⟩)
              obtain ⟨y6_10, hy6_10, h⟩ := H.call h
              refine ax 10 rfl (e_app 9 hy6_10 (s_own 8) fun A6_10 k6_10 => ⟨.inr (by kernel_rfl), ?_⟩)
              obtain ⟨v6_11, hv6_11, h⟩ := H.call h
              refine ax 11 rfl (e_ch (v := .tuple #[]) 5 (fun (A6_11 : Option Addr) (k6_11 : Nat) => [box g2 26 [.slice Al (List.length c0) kl], box g5 67 [.func (.func 35) #[] #[.pointer (some ⟨g2, 0, none⟩), .pointer (some ⟨g3, 0, none⟩), .pointer (some ⟨g4, 0, none⟩), .pointer (some ⟨g5, 0, none⟩)]], box g3 28 [.slice A6_11 (List.length v6_11.1) k6_11], box g4 3 [.int .i64 v6_11.2], rowN (eI .i64) B 3 (.slice A6_11 (List.length v6_11.1) k6_11) v6_11.1]) [.pointer (some ⟨g2, 0, none⟩), .pointer (some ⟨g3, 0, none⟩), .pointer (some ⟨g4, 0, none⟩), .pointer (some ⟨g5, 0, none⟩)] [.slice A6_5 (List.length y6_5) k6_5, .slice A6_10 (List.length y6_10) k6_10, .pointer (some ⟨g2, 0, none⟩), .pointer (some ⟨g3, 0, none⟩), .pointer (some ⟨g4, 0, none⟩), .pointer (some ⟨g5, 0, none⟩)] func35 (fun W S M2 hM S2 => ih M2 W hv6_11 ((s_argN hl ql).out W S) (ap_old hl ql S hM) ((s_own 7).out W S) (ap_rowH S 7 (by decide) hM) ((s_own 9).out W S) (ap_rowH S 9 (by decide) hM) (Nat.le_trans hB S.size) S2) fun A6_11 k6_11 => ⟨.inl (by kernel_rfl), ?_⟩)
              refine a_done ?_
              refine pick [0, 1, 2, 3, 4, 5, 7, 6, 9, 8] [box g2 26 [.slice Al (List.length c0) kl], box g5 67 [.func (.func 35) #[] #[.pointer (some ⟨g2, 0, none⟩), .pointer (some ⟨g3, 0, none⟩), .pointer (some ⟨g4, 0, none⟩), .pointer (some ⟨g5, 0, none⟩)]], box g3 28 [.slice A6_11 (List.length v6_11.1) k6_11], box g4 3 [.int .i64 v6_11.2], rowN (eI .i64) B 3 (.slice A6_11 (List.length v6_11.1) k6_11) v6_11.1, box g4_3 46 (eSign x21), rowT (eI .i64) w.heap.size 3 (.slice A6_5 (List.length y6_5) k6_5) y6_5, rowT (eI .i64) w.heap.size 3 (.slice A6_4 (List.length ([(j20 : Int)] : List Int)) k6_4) ([(j20 : Int)] : List Int), rowT nSign w.heap.size 46 (.slice A6_10 (List.length y6_10) k6_10) y6_10, rowT nSign w.heap.size 46 (.slice A6_9 (List.length ([x21] : List Sign)) k6_9) ([x21] : List Sign)] ?_
              refine c_inb ?_
              refine r_start ?_
              refine p 2 ?_
              refine rend ?_
              refine c_set 31 (ci hw24) ?_
              replace h := H.inl h
              exact h (v6_11.2, v6_11.1, A6_11, k6_11) _ _ rfl (by kernel_rfl) (by kernel_rfl)
            refine (e_lit (e := nSign) (el := 46) [.agg (eSign x21).toArray] ([x21] : List Sign) fun A6_9 k6_9 => ⟨.inr (by kernel_rfl), ?_⟩)
            obtain ⟨y6_5, hy6_5, h⟩ := H.call h
            refine ax 5 rfl (e_app 7 hy6_5 (s_own 6) fun A6_5 k6_5 => ⟨.inr (by kernel_rfl), ?_⟩)
            obtain ⟨v6_7, hv6_7, h⟩ := H.call h
            refine ax 7 rfl (e_cr [.slice A1 (List.length a1) k1] (fun v => v) func39 (fun W S => C.slices_Clone_i_Sign_i_Sign W hv6_7 ((s_argN h1 q1).out W S)) fun A6_7 k6_7 => ⟨.inr (by kernel_rfl), ?_⟩)
            obtain ⟨y6_10, hy6_10, h⟩ := H.call h
            refine ax 10 rfl (e_app 9 hy6_10 (s_own 8) fun A6_10 k6_10 => ⟨.inr (by kernel_rfl), ?_⟩)
            obtain ⟨v6_11, hv6_11, h⟩ := H.call h
            refine ax 11 rfl (e_ch (v := .tuple #[]) 5 (fun (A6_11 : Option Addr) (k6_11 : Nat) => [box g2 26 [.slice Al (List.length c0) kl], box g5 67 [.func (.func 35) #[] #[.pointer (some ⟨g2, 0, none⟩), .pointer (some ⟨g3, 0, none⟩), .pointer (some ⟨g4, 0, none⟩), .pointer (some ⟨g5, 0, none⟩)]], box g3 28 [.slice A6_11 (List.length v6_11.1) k6_11], box g4 3 [.int .i64 v6_11.2], rowN (eI .i64) B 3 (.slice A6_11 (List.length v6_11.1) k6_11) v6_11.1]) [.pointer (some ⟨g2, 0, none⟩), .pointer (some ⟨g3, 0, none⟩), .pointer (some ⟨g4, 0, none⟩), .pointer (some ⟨g5, 0, none⟩)] [.slice A6_5 (List.length y6_5) k6_5, .slice A6_10 (List.length y6_10) k6_10, .pointer (some ⟨g2, 0, none⟩), .pointer (some ⟨g3, 0, none⟩), .pointer (some ⟨g4, 0, none⟩), .pointer (some ⟨g5, 0, none⟩)] func35 (fun W S M2 hM S2 => ih M2 W hv6_11 ((s_argN hl ql).out W S) (ap_old hl ql S hM) ((s_own 7).out W S) (ap_rowH S 7 (by decide) hM) ((s_own 9).out W S) (ap_rowH S 9 (by decide) hM) (Nat.le_trans hB S.size) S2) fun A6_11 k6_11 => ⟨.inl (by kernel_rfl), ?_⟩)
            refine a_done ?_
            refine pick [0, 1, 2, 3, 4, 5, 7, 6, 9, 8] [box g2 26 [.slice Al (List.length c0) kl], box g5 67 [.func (.func 35) #[] #[.pointer (some ⟨g2, 0, none⟩), .pointer (some ⟨g3, 0, none⟩), .pointer (some ⟨g4, 0, none⟩), .pointer (some ⟨g5, 0, none⟩)]], box g3 28 [.slice A6_11 (List.length v6_11.1) k6_11], box g4 3 [.int .i64 v6_11.2], rowN (eI .i64) B 3 (.slice A6_11 (List.length v6_11.1) k6_11) v6_11.1, box g4_3 46 (eSign x21), rowT (eI .i64) w.heap.size 3 (.slice A6_5 (List.length y6_5) k6_5) y6_5, rowT (eI .i64) w.heap.size 3 (.slice A6_4 (List.length ([(j20 : Int)] : List Int)) k6_4) ([(j20 : Int)] : List Int), rowT nSign w.heap.size 46 (.slice A6_10 (List.length y6_10) k6_10) y6_10, rowT nSign w.heap.size 46 (.slice A6_9 (List.length ([x21] : List Sign)) k6_9) ([x21] : List Sign)] ?_
            refine c_inb ?_
            refine r_start ?_
            refine p 2 ?_
            refine rend ?_
            refine c_set 31 (ci hw24) ?_
            replace h := H.inl h
            exact h (v6_11.2, v6_11.1, A6_11, k6_11) _ _ rfl (by kernel_rfl) (by kernel_rfl)
          refine (e_lit (e := nSign) (el := 46) [.agg (eSign x21).toArray] ([x21] : List Sign) fun A6_9 k6_9 => ⟨.inr (by kernel_rfl), ?_⟩)
          obtain ⟨v6_2, hv6_2, h⟩ := H.call h
          refine ax 2 rfl (e_cr [.slice A0 (List.length a0) k0] (fun v => v) func37 (fun W S => C.slices_Clone_int_int W hv6_2 ((s_argN h0 q0).out W S)) fun A6_2 k6_2 => ⟨.inr (by kernel_rfl), ?_⟩)
          obtain ⟨y6_5, hy6_5, h⟩ := H.call h
          refine ax 5 rfl (e_app 8 hy6_5 (s_own 6) fun A6_5 k6_5 => ⟨.inr (by kernel_rfl), ?_⟩)
          obtain ⟨v6_7, hv6_7, h⟩ := H.call h
          refine ax 7 rfl (e_cr [.slice A1 (List.length a1) k1] (fun v => v) func39 (fun W S => C.slices_Clone_i_Sign_i_Sign W hv6_7 ((s_argN h1 q1).out W S)) fun A6_7 k6_7 => ⟨.inr (by kernel_rfl), ?_⟩)
          obtain ⟨y6_10, hy6_10, h⟩ := H.call h
          refine ax 10 rfl (e_app 9 hy6_10 (s_own 7) fun A6_10 k6_10 => ⟨.inr (by kernel_rfl), ?_⟩)
          obtain ⟨v6_11, hv6_11, h⟩ := H.call h
          refine ax 11 rfl (e_ch (v := .tuple #[]) 5 (fun (A6_11 : Option Addr) (k6_11 : Nat) => [box g2 26 [.slice Al (List.length c0) kl], box g5 67 [.func (.func 35) #[] #[.pointer (some ⟨g2, 0, none⟩), .pointer (some ⟨g3, 0, none⟩), .pointer (some ⟨g4, 0, none⟩), .pointer (some ⟨g5, 0, none⟩)]], box g3 28 [.slice A6_11 (List.length v6_11.1) k6_11], box g4 3 [.int .i64 v6_11.2], rowN (eI .i64) B 3 (.slice A6_11 (List.length v6_11.1) k6_11) v6_11.1]) [.pointer (some ⟨g2, 0, none⟩), .pointer (some ⟨g3, 0, none⟩), .pointer (some ⟨g4, 0, none⟩), .pointer (some ⟨g5, 0, none⟩)] [.slice A6_5 (List.length y6_5) k6_5, .slice A6_10 (List.length y6_10) k6_10, .pointer (some ⟨g2, 0, none⟩), .pointer (some ⟨g3, 0, none⟩), .pointer (some ⟨g4, 0, none⟩), .pointer (some ⟨g5, 0, none⟩)] func35 (fun W S M2 hM S2 => ih M2 W hv6_11 ((s_argN hl ql).out W S) (ap_old hl ql S hM) ((s_own 8).out W S) (ap_rowH S 8 (by decide) hM) ((s_own 9).out W S) (ap_rowH S 9 (by decide) hM) (Nat.le_trans hB S.size) S2) fun A6_11 k6_11 => ⟨.inl (by kernel_rfl), ?_⟩)
          refine a_done ?_
          refine pick [0, 1, 2, 3, 4, 5, 8, 6, 9, 7] [box g2 26 [.slice Al (List.length c0) kl], box g5 67 [.func (.func 35) #[] #[.pointer (some ⟨g2, 0, none⟩), .pointer (some ⟨g3, 0, none⟩), .pointer (some ⟨g4, 0, none⟩), .pointer (some ⟨g5, 0, none⟩)]], box g3 28 [.slice A6_11 (List.length v6_11.1) k6_11], box g4 3 [.int .i64 v6_11.2], rowN (eI .i64) B 3 (.slice A6_11 (List.length v6_11.1) k6_11) v6_11.1, box g4_3 46 (eSign x21), rowT (eI .i64) w.heap.size 3 (.slice A6_5 (List.length y6_5) k6_5) y6_5, rowT (eI .i64) w.heap.size 3 (.slice A6_4 (List.length ([(j20 : Int)] : List Int)) k6_4) ([(j20 : Int)] : List Int), rowT nSign w.heap.size 46 (.slice A6_10 (List.length y6_10) k6_10) y6_10, rowT nSign w.heap.size 46 (.slice A6_9 (List.length ([x21] : List Sign)) k6_9) ([x21] : List Sign)] ?_
          refine c_inb ?_
          refine r_start ?_
          refine p 2 ?_
          refine rend ?_
          refine c_set 31 (ci hw24) ?_
          replace h := H.inl h
          exact h (v6_11.2, v6_11.1, A6_11, k6_11) _ _ rfl (by kernel_rfl) (by kernel_rfl)
        refine (e_lit (e := nSign) (el := 46) [.agg (eSign x21).toArray] ([x21] : List Sign) fun A6_9 k6_9 => ⟨.inr (by kernel_rfl), ?_⟩)
        refine a_two 2 4 rfl rfl ?_ ?_
        · skip
          obtain ⟨v6_2, hv6_2, h⟩ := H.call h
          refine (e_cr [.slice A0 (List.length a0) k0] (fun v => v) func37 (fun W S => C.slices_Clone_int_int W hv6_2 ((s_argN h0 q0).out W S)) fun A6_2 k6_2 => ⟨.inr (by kernel_rfl), ?_⟩)
          refine ax 4 rfl (e_lit (e := (eI .i64)) (el := 3) [.int .i64 (j20 : Int)] ([(j20 : Int)] : List Int) fun A6_4 k6_4 => ⟨.inr (by kernel_rfl), ?_⟩)
          obtain ⟨y6_5, hy6_5, h⟩ := H.call h
          refine ax 5 rfl (e_app 7 hy6_5 (s_own 8) fun A6_5 k6_5 => ⟨.inr (by kernel_rfl), ?_⟩)
          obtain ⟨v6_7, hv6_7, h⟩ := H.call h
          refine ax 7 rfl (e_cr [.slice A1 (List.length a1) k1] (fun v => v) func39 (fun W S => C.slices_Clone_i_Sign_i_Sign W hv6_7 ((s_argN h1 q1).out W S)) fun A6_7 k6_7 => ⟨.inr (by kernel_rfl), ?_⟩)
          obtain ⟨y6_10, hy6_10, h⟩ := H.call h
          refine ax 10 rfl (e_app 9 hy6_10 (s_own 6) fun A6_10 k6_10 => ⟨.inr (by kernel_rfl), ?_⟩)
          obtain ⟨v6_11, hv6_11, h⟩ := H.call h
          refine ax 11 rfl (e_ch (v := .tuple #[]) 5 (fun (A6_11 : Option Addr) (k6_11 : Nat) => [box g2 26 [.slice Al (List.length c0) kl], box g5 67 [.func (.func 35) #[] #[.pointer (some ⟨g2, 0, none⟩), .pointer (some ⟨g3, 0, none⟩), .pointer (some ⟨g4, 0, none⟩), .pointer (some ⟨g5, 0, none⟩)]], box g3 28 [.slice A6_11 (List.length v6_11.1) k6_11], box g4 3 [.int .i64 v6_11.2], rowN (eI .i64) B 3 (.slice A6_11 (List.length v6_11.1) k6_11) v6_11.1]) [.pointer (some ⟨g2, 0, none⟩), .pointer (some ⟨g3, 0, none⟩), .pointer (some ⟨g4, 0, none⟩), .pointer (some ⟨g5, 0, none⟩)] [.slice A6_5 (List.length y6_5) k6_5, .slice A6_10 (List.length y6_10) k6_10, .pointer (some ⟨g2, 0, none⟩), .pointer (some ⟨g3, 0, none⟩), .pointer (some ⟨g4, 0, none⟩), .pointer (some ⟨g5, 0, none⟩)] func35 (fun W S M2 hM S2 => ih M2 W hv6_11 ((s_argN hl ql).out W S) (ap_old hl ql S hM) ((s_own 7).out W S) (ap_rowH S 7 (by decide) hM) ((s_own 9).out W S) (ap_rowH S 9 (by decide) hM) (Nat.le_trans hB S.size) S2) fun A6_11 k6_11 => ⟨.inl (by kernel_rfl), ?_⟩)
          refine a_done ?_
          refine pick [0, 1, 2, 3, 4, 5, 7, 8, 9, 6] [box g2 26 [.slice Al (List.length c0) kl], box g5 67 [.func (.func 35) #[] #[.pointer (some ⟨g2, 0, none⟩), .pointer (some ⟨g3, 0, none⟩), .pointer (some ⟨g4, 0, none⟩), .pointer (some ⟨g5, 0, none⟩)]], box g3 28 [.slice A6_11 (List.length v6_11.1) k6_11], box g4 3 [.int .i64 v6_11.2], rowN (eI .i64) B 3 (.slice A6_11 (List.length v6_11.1) k6_11) v6_11.1, box g4_3 46 (eSign x21), rowT (eI .i64) w.heap.size 3 (.slice A6_5 (List.length y6_5) k6_5) y6_5, rowT (eI .i64) w.heap.size 3 (.slice A6_4 (List.length ([(j20 : Int)] : List Int)) k6_4) ([(j20 : Int)] : List Int), rowT nSign w.heap.size 46 (.slice A6_10 (List.length y6_10) k6_10) y6_10, rowT nSign w.heap.size 46 (.slice A6_9 (List.length ([x21] : List Sign)) k6_9) ([x21] : List Sign)] ?_
          refine c_inb ?_
          refine r_start ?_
          refine p 2 ?_
          refine rend ?_
          refine c_set 31 (ci hw24) ?_
          replace h := H.inl h
          exact h (v6_11.2, v6_11.1, A6_11, k6_11) _ _ rfl (by kernel_rfl) (by kernel_rfl)
        refine (e_lit (e := (eI .i64)) (el := 3) [.int .i64 (j20 : Int)] ([(j20 : Int)] : List Int) fun A6_4 k6_4 => ⟨.inr (by kernel_rfl), ?_⟩)
        obtain ⟨v6_2, hv6_2, h⟩ := H.call h
        refine ax 2 rfl (e_cr [.slice A0 (List.length a0) k0] (fun v => v) func37 (fun W S => C.slices_Clone_int_int W hv6_2 ((s_argN h0 q0).out W S)) fun A6_2 k6_2 => ⟨.inr (by kernel_rfl), ?_⟩)
        obtain ⟨y6_5, hy6_5, h⟩ := H.call h
        refine ax 5 rfl (e_app 8 hy6_5 (s_own 7) fun A6_5 k6_5 => ⟨.inr (by kernel_rfl), ?_⟩)
        obtain ⟨v6_7, hv6_7, h⟩ := H.call h
        refine ax 7 rfl (e_cr [.slice A1 (List.length a1) k1] (fun v => v) func39 (fun W S => C.slices_Clone_i_Sign_i_Sign W hv6_7 ((s_argN h1 q1).out W S)) fun A6_7 k6_7 => ⟨.inr (by kernel_rfl), ?_⟩)
        obtain ⟨y6_10, hy6_10, h⟩ := H.call h
        refine ax 10 rfl (e_app 9 hy6_10 (s_own 6) fun A6_10 k6_10 => ⟨.inr (by kernel_rfl), ?_⟩)
        obtain ⟨v6_11, hv6_11, h⟩ := H.call h
        refine ax 11 rfl (e_ch (v := .tuple #[]) 5 (fun (A6_11 : Option Addr) (k6_11 : Nat) => [box g2 26 [.slice Al (List.length c0) kl], box g5 67 [.func (.func 35) #[] #[.pointer (some ⟨g2, 0, none⟩), .pointer (some ⟨g3, 0, none⟩), .pointer (some ⟨g4, 0, none⟩), .pointer (some ⟨g5, 0, none⟩)]], box g3 28 [.slice A6_11 (List.length v6_11.1) k6_11], box g4 3 [.int .i64 v6_11.2], rowN (eI .i64) B 3 (.slice A6_11 (List.length v6_11.1) k6_11) v6_11.1]) [.pointer (some ⟨g2, 0, none⟩), .pointer (some ⟨g3, 0, none⟩), .pointer (some ⟨g4, 0, none⟩), .pointer (some ⟨g5, 0, none⟩)] [.slice A6_5 (List.length y6_5) k6_5, .slice A6_10 (List.length y6_10) k6_10, .pointer (some ⟨g2, 0, none⟩), .pointer (some ⟨g3, 0, none⟩), .pointer (some ⟨g4, 0, none⟩), .pointer (some ⟨g5, 0, none⟩)] func35 (fun W S M2 hM S2 => ih M2 W hv6_11 ((s_argN hl ql).out W S) (ap_old hl ql S hM) ((s_own 8).out W S) (ap_rowH S 8 (by decide) hM) ((s_own 9).out W S) (ap_rowH S 9 (by decide) hM) (Nat.le_trans hB S.size) S2) fun A6_11 k6_11 => ⟨.inl (by kernel_rfl), ?_⟩)
        refine a_done ?_
        refine pick [0, 1, 2, 3, 4, 5, 8, 7, 9, 6] [box g2 26 [.slice Al (List.length c0) kl], box g5 67 [.func (.func 35) #[] #[.pointer (some ⟨g2, 0, none⟩), .pointer (some ⟨g3, 0, none⟩), .pointer (some ⟨g4, 0, none⟩), .pointer (some ⟨g5, 0, none⟩)]], box g3 28 [.slice A6_11 (List.length v6_11.1) k6_11], box g4 3 [.int .i64 v6_11.2], rowN (eI .i64) B 3 (.slice A6_11 (List.length v6_11.1) k6_11) v6_11.1, box g4_3 46 (eSign x21), rowT (eI .i64) w.heap.size 3 (.slice A6_5 (List.length y6_5) k6_5) y6_5, rowT (eI .i64) w.heap.size 3 (.slice A6_4 (List.length ([(j20 : Int)] : List Int)) k6_4) ([(j20 : Int)] : List Int), rowT nSign w.heap.size 46 (.slice A6_10 (List.length y6_10) k6_10) y6_10, rowT nSign w.heap.size 46 (.slice A6_9 (List.length ([x21] : List Sign)) k6_9) ([x21] : List Sign)] ?_
        refine c_inb ?_
        refine r_start ?_
        refine p 2 ?_
        refine rend ?_
        refine c_set 31 (ci hw24) ?_
        replace h := H.inl h
        exact h (v6_11.2, v6_11.1, A6_11, k6_11) _ _ rfl (by kernel_rfl) (by kernel_rfl)
      replace h := H.f q25 h
      refine c_skip ?_
      refine c_inb ?_
      refine r_start ?_
      refine p 2 ?_
      refine rend ?_
      refine c_set 31 (ci hw24) ?_
      replace h := H.inl h
      exact h (s11, l12, A13, k14) _ _ rfl (by kernel_rfl) (by kernel_rfl)
    · intro x u q22 h
      obtain ⟨s11, l12, A13, k14⟩ := x
      refine c_seq ?_
      refine r_start ?_
      refine p 1 ?_
      refine rend ?_
      refine c_seq ?_
      refine c_no q22 ?_
      refine cx ?_
      replace h := H.done h
      exact hj19 (s11, l12, A13, k14) _ _ h (by kernel_rfl) (by kernel_rfl)
  intro x u h
  obtain ⟨s15, l16, A17, k18⟩ := x
  replace h := H.done h
  subst h
  exact fin func35 rfl (vs := []) .nil rfl (fun W S => ⟨rfl, _, _, S.take 5⟩)
theorem C.i_SmoothestOrder {fu : Nat} {a0 : (List Sign)} {A0 : Option Addr} {k0 : Nat} {r : ((List Int) × Int × Bool)} (w : World) (h : X.i_SmoothestOrder fu a0 = some r) (h0 : RdT nSign w (.slice A0 (List.length a0) k0) a0) : Calls prog 9 #[.slice A0 (List.length a0) k0] w (RetR (eI .i64) 3 w r.1 (fun v => .tuple #[v, .int .i64 r.2.1, .bool r.2.2])) := by
  refine calls (M := no) (args := [.slice A0 (List.length a0) k0]) func9 rfl ?_
  replace h : H (X.i_SmoothestOrder fu a0) (fun o => o = r) := H.mk h
  unfold X.i_SmoothestOrder at h
  refine c_seq ?_
  refine r_start ?_
  refine xx rfl (x_box [.slice A0 (List.length a0) k0] fun g0_0 => ?_)
  refine p 3 ?_
  refine rend ?_
  refine c_seq ?_
  refine c_seq ?_
  refine r_start ?_
  refine xq rfl (y_load (.slice A0 (List.length a0) k0) 0 g0_0 0) ?_
  obtain ⟨v1_1, hv1_1, h⟩ := H.call h
  refine xq rfl (y_call [.slice A0 (List.length a0) k0] (.bool v1_1) func34 (fun W S => C.i_isMade W hv1_1 ((s_arg h0).out W S))) ?_
  refine p 1 ?_
  refine rend ?_
  refine c_or (!v1_1) (fun q1 => ?_) (fun q1 => ?_)
  · replace h := H.t q1 h
    refine c_seq ?_
    refine r_start ?_
    refine p 3 ?_
    refine rend ?_
    replace h := H.done h
    subst h
    exact ret func9 rfl (vs := [.slice none 0 0, .int .i64 0, .bool false]) (.tmp (by kernel_rfl) (.tmp (by kernel_rfl) (.tmp (by kernel_rfl) .nil))) rfl (fun W S => ⟨none, 0, rfl, World.ownsRow_nil _ _ _ _, S.below⟩)
  replace h := H.f q1 h
  refine c_skip ?_
  refine c_seq ?_
  refine r_start ?_
  refine xx rfl (x_new [.slice none 0 0] fun g3_0 => ?_)
  refine o_nil (eI .i64) 3 ?_
  refine o_nil0 2 ?_
  refine rend ?_
  refine c_seq ?_
  refine r_start ?_
  refine xx rfl (x_new [.int .i64 0] fun g4_0 => ?_)
  refine xx rfl (x_sto 3 g4_0 0 [.int .i64 0] ?_)
  refine rend ?_
  refine c_seq ?_
  refine r_start ?_
  refine xx rfl (x_new [.nilFunc] fun g5_0 => ?_)
  refine rend ?_
  refine c_seq ?_
  refine r_start ?_
  refine p 1 ?_
  refine xx rfl (x_sto 4 g5_0 0 [.func (.func 35) #[] #[.pointer (some ⟨g0_0, 0, none⟩), .pointer (some ⟨g3_0, 0, none⟩), .pointer (some ⟨g4_0, 0, none⟩), .pointer (some ⟨g5_0, 0, none⟩)]] ?_)
  refine rend ?_
  refine c_seq ?_
  refine r_start ?_
  refine xq rfl (y_load (.func (.func 35) #[] #[.pointer (some ⟨g0_0, 0, none⟩), .pointer (some ⟨g3_0, 0, none⟩), .pointer (some ⟨g4_0, 0, none⟩), .pointer (some ⟨g5_0, 0, none⟩)]) 4 g5_0 0) ?_
  refine pickO [0, 4, 1, 3, 2] [box g0_0 26 [.slice A0 (List.length a0) k0], box g5_0 67 [.func (.func 35) #[] #[.pointer (some ⟨g0_0, 0, none⟩), .pointer (some ⟨g3_0, 0, none⟩), .pointer (some ⟨g4_0, 0, none⟩), .pointer (some ⟨g5_0, 0, none⟩)]], box g3_0 28 [.slice none 0 0], box g4_0 3 [.int .i64 0], rowN (eI .i64) w.heap.size 3 (.slice none 0 0) ([] : List Int)] ?_
  obtain ⟨v7_1, hv7_1, h⟩ := H.call h
  refine xx rfl (e_ch (v := .tuple #[]) 5 (fun (A7_1 : Option Addr) (k7_1 : Nat) => [box g0_0 26 [.slice A0 (List.length a0) k0], box g5_0 67 [.func (.func 35) #[] #[.pointer (some ⟨g0_0, 0, none⟩), .pointer (some ⟨g3_0, 0, none⟩), .pointer (some ⟨g4_0, 0, none⟩), .pointer (some ⟨g5_0, 0, none⟩)]], box g3_0 28 [.slice A7_1 (List.length v7_1.1) k7_1], box g4_0 3 [.int .i64 v7_1.2], rowN (eI .i64) w.heap.size 3 (.slice A7_1 (List.length v7_1.1) k7_1) v7_1.1]) [.pointer (some ⟨g0_0, 0, none⟩), .pointer (some ⟨g3_0, 0, none⟩), .pointer (some ⟨g4_0, 0, none⟩), .pointer (some ⟨g5_0, 0, none⟩)] [.slice none 0 0, .slice none 0 0, .pointer (some ⟨g0_0, 0, none⟩), .pointer (some ⟨g3_0, 0, none⟩), .pointer (some ⟨g4_0, 0, none⟩), .pointer (some ⟨g5_0, 0, none⟩)] func35 (fun W S M2 hM S2 => C.i_SmoothestOrder_1 (b0 := ([] : List Int)) (z0 := 0) (a0 := ([] : List _)) (A0 := none) (k0 := 0) (a1 := ([] : List _)) (A1 := none) (k1 := 0) (Ab := none) (kb := 0) (B := w.heap.size) M2 W hv7_1 ((s_arg h0).out W S) (ap_old (M := no) h0 (fun _ _ _ h => h) S hM) (s_nil.out W S) ap_nilM (s_nil.out W S) ap_nilM S.size S2) fun A7_1 k7_1 => ?_)
  refine o_ofN 4 ?_
  refine rend ?_
  refine c_seq ?_
  refine as_start 5 5 ?_
  refine aq 0 rfl (y_load (.slice A7_1 (List.length v7_1.1) k7_1) 2 g3_0 0) ?_
  refine aq 1 rfl (y_load (.int .i64 v7_1.2) 3 g4_0 0) ?_
  refine ap 2 3 ?_
  refine a_done ?_
  replace h := H.done h
  subst h
  exact ret func9 rfl (vs := [.slice A7_1 (List.length v7_1.1) k7_1, .int .i64 v7_1.2, .bool true]) (.tmp (by kernel_rfl) (.tmp (by kernel_rfl) (.tmp (by kernel_rfl) .nil))) rfl (fun W S => ⟨_, _, rfl, S.row 4, S.below⟩)
theorem C.s_paList {fu : Nat} {a0 : (List Sign)} {A0 : Option Addr} {k0 : Nat} {r : Bool} (w : World) (h : X.s_paList fu a0 = some r) (h0 : RdT nSign w (.slice A0 (List.length a0) k0) a0) : Calls prog 78 #[.slice A0 (List.length a0) k0] w (Ret w (.bool r)) := by
  refine calls (M := no) (args := [.slice A0 (List.length a0) k0]) func78 rfl ?_
  replace h : H (X.s_paList fu a0) (fun o => o = r) := H.mk h
  unfold X.s_paList at h
  refine c_seq ?_
  refine r_start ?_
  refine p 1 ?_
  refine rend ?_
  refine c_seq ?_
  refine c_seq ?_
  refine r_start ?_
  refine p 3 ?_
  refine rend ?_
  refine c_block ?_
  refine joinE (X := Unit) 0 (H.or h) (fun (x : Unit) => x) (fun _ => []) (fun _ u => (.slice A0 (List.length a0) k0 :: (jk u 1 17 []))) (fun h hj1 => ?_) ?_
  · skip
    refine rangeR (X := Unit) (s_arg h0) (fun (x : Unit) => x) (fun _ => []) (fun (j2 : Nat) _ u => (.slice A0 (List.length a0) k0 :: (jk u 1 4 (.slice A0 (List.length a0) k0 :: .int .i64 (List.length a0 : Int) :: .int .i64 (j2 : Int) :: (jk u 8 10 []))))) () h (by kernel_rfl) (by kernel_rfl) ?_ ?_
    · intro j2 x u x3 q4 hg5 hw6 h
      refine c_seq ?_
      refine r_start ?_
      refine p 1 ?_
      refine rend ?_
      refine c_seq ?_
      refine c_yes q4 ?_
      refine c_skip ?_
      refine c_seq ?_
      refine c_block ?_
      refine c_seq ?_
      refine r_start ?_
      refine xq rfl (y_idx (e := nSign) (el := 46) hg5 (s_arg h0)) ?_
      refine xq rfl (y_el (e := nSign) 0 (.agg (eSign x3).toArray) hg5 (s_arg h0)) ?_
      refine xx rfl (x_new (eSign zSign) fun g3_2 => ?_)
      refine xx rfl (x_sto 0 g3_2 0 (eSign x3) ?_)
      refine rend ?_
      refine c_seq ?_
      refine r_start ?_
      refine xq rfl (y_load (.agg (eSign x3).toArray) 0 g3_2 0) ?_
      obtain ⟨v4_1, hv4_1, h⟩ := H.call h
      refine xq rfl (y_call [.agg (eSign x3).toArray] (.bool v4_1) func61 (fun W S => C.s_siGood W hv4_1)) ?_
      refine p 1 ?_
      refine rend ?_
      refine c_or (!v4_1) (fun q7 => ?_) (fun q7 => ?_)
      · replace h := H.t q7 h
        refine c_seq ?_
        refine r_start ?_
        refine p 1 ?_
        refine rend ?_
        replace h := H.inr h
        replace h := H.done h
        subst h
        exact ret func78 rfl (vs := [.bool false]) (.tmp (by kernel_rfl) .nil) rfl (fun W S => ⟨rfl, S.below⟩)
      replace h := H.f q7 h
      refine c_skip ?_
      refine c_inb ?_
      refine r_start ?_
      refine p 2 ?_
      refine rend ?_
      refine c_set 7 (ci hw6) ?_
      replace h := H.inl h
      exact h () _ _ rfl (by kernel_rfl) (by kernel_rfl)
    · intro x u q4 h
      refine c_seq ?_
      refine r_start ?_
      refine p 1 ?_
      refine rend ?_
      refine c_seq ?_
      refine c_no q4 ?_
      refine cx ?_
      replace h := H.done h
      exact hj1 () _ _ h (by kernel_rfl) (by kernel_rfl)
  intro x u h
  refine c_seq ?_
  refine r_start ?_
  refine p 4 ?_
  refine rend ?_
  replace h := H.done h
  subst h
  exact ret func78 rfl (vs := [.bool (decide ((List.length a0 : Int) ≤ 20))]) (.tmp (by kernel_rfl) .nil) rfl (fun W S => ⟨rfl, S.below⟩)
theorem C.s_cmGood {fu : Nat} {a0 : (List Sign)} {A0 : Option Addr} {k0 : Nat} {r : Bool} (w : World) (h : X.s_cmGood fu a0 = some r) (h0 : RdT nSign w (.slice A0 (List.length a0) k0) a0) : Calls prog 40 #[.slice A0 (List.length a0) k0] w (Ret w (.bool r)) := by
  refine calls (M := no) (args := [.slice A0 (List.length a0) k0]) func40 rfl ?_
  replace h : H (X.s_cmGood fu a0) (fun o => o = r) := H.mk h
  unfold X.s_cmGood at h
  refine c_seq ?_
  refine r_start ?_
  refine p 1 ?_
  refine rend ?_
  refine c_seq ?_
  refine r_start ?_
  refine p 2 ?_
  obtain ⟨v1_2, hv1_2, h⟩ := H.call h
  refine xq rfl (y_call [.int .i64 (List.length a0 : Int), .int .i64 2, .int .i64 4] (.bool v1_2) func77 (fun W S => C.s_l1In W hv1_2)) ?_
  refine p 1 ?_
  refine br v1_2 (fun q1 => ?_) (fun q1 => ?_)
  · replace h := H.t q1 h
    refine o_set 6 (congrArg Value.bool q1) ?_
    refine p 1 ?_
    obtain ⟨v1_5, hv1_5, h⟩ := H.call h
    refine xq rfl (y_call [.slice A0 (List.length a0) k0] (.bool v1_5) func78 (fun W S => C.s_paList W hv1_5 ((s_arg h0).out W S))) ?_
    refine p 2 ?_
    refine rend ?_
    replace h := H.done h
    subst h
    exact ret func40 rfl (vs := [.bool v1_5]) (.tmp (by kernel_rfl) .nil) rfl (fun W S => ⟨rfl, S.below⟩)
  replace h := H.f q1 h
  refine o_set 6 (congrArg Value.bool q1) ?_
  refine p 4 ?_
  refine rend ?_
  replace h := H.done h
  subst h
  exact ret func40 rfl (vs := [.bool false]) (.tmp (by kernel_rfl) .nil) rfl (fun W S => ⟨rfl, S.below⟩)
theorem C.s_l1Has {a0 : (List Int)} {A0 : Option Addr} {k0 : Nat} {a1 : Int} {r : Bool} (w : World) (h : X.s_l1Has a0 a1 = some r) (h0 : RdT (eI .i64) w (.slice A0 (List.length a0) k0) a0) : Calls prog 79 #[.slice A0 (List.length a0) k0, .int .i64 a1] w (Ret w (.bool r)) := by
  refine calls (M := no) (args := [.slice A0 (List.length a0) k0, .int .i64 a1]) func79 rfl ?_
  replace h : H (X.s_l1Has a0 a1) (fun o => o = r) := H.mk h
  unfold X.s_l1Has at h
  refine c_seq ?_
  refine r_start ?_
  refine p 1 ?_
  refine rend ?_
  refine c_seq ?_
  refine c_seq ?_
  refine r_start ?_
  refine p 3 ?_
  refine rend ?_
  refine c_block ?_
  refine joinE (X := Unit) 0 (H.or h) (fun (x : Unit) => x) (fun _ => []) (fun _ u => (jk u 0 17 [])) (fun h hj1 => ?_) ?_
  · skip
    refine rangeR (X := Unit) (s_arg h0) (fun (x : Unit) => x) (fun _ => []) (fun (j2 : Nat) _ u => (jk u 0 1 (.int .i64 a1 :: (jk u 2 5 (.slice A0 (List.length a0) k0 :: .int .i64 (List.length a0 : Int) :: .int .i64 (j2 : Int) :: (jk u 10 7 [])))))) () h (by kernel_rfl) (by kernel_rfl) ?_ ?_
    · intro j2 x u x3 q4 hg5 hw6 h
      refine c_seq ?_
      refine r_start ?_
      refine p 1 ?_
      refine rend ?_
      refine c_seq ?_
      refine c_yes q4 ?_
      refine c_skip ?_
      refine c_seq ?_
      refine c_block ?_
      refine c_seq ?_
      refine r_start ?_
      refine xq rfl (y_idx (e := (eI .i64)) (el := 3) hg5 (s_arg h0)) ?_
      refine xq rfl (y_el (e := (eI .i64)) 0 (.int .i64 x3) hg5 (s_arg h0)) ?_
      refine p 1 ?_
      refine rend ?_
      refine c_seq ?_
      refine r_start ?_
      refine p 3 ?_
      refine rend ?_
      refine c_or (x3 == a1) (fun q7 => ?_) (fun q7 => ?_)
      · replace h := H.t q7 h
        refine c_seq ?_
        refine r_start ?_
        refine p 1 ?_
        refine rend ?_
        replace h := H.inr h
        replace h := H.done h
        subst h
        exact ret func79 rfl (vs := [.bool true]) (.tmp (by kernel_rfl) .nil) rfl (fun W S => ⟨rfl, S.below⟩)
      replace h := H.f q7 h
      refine c_skip ?_
      refine c_inb ?_
      refine r_start ?_
      refine p 2 ?_
      refine rend ?_
      refine c_set 9 (ci hw6) ?_
      replace h := H.inl h
      exact h () _ _ rfl (by kernel_rfl) (by kernel_rfl)
    · intro x u q4 h
      refine c_seq ?_
      refine r_start ?_
      refine p 1 ?_
      refine rend ?_
      refine c_seq ?_
      refine c_no q4 ?_
      refine cx ?_
      replace h := H.done h
      exact hj1 () _ _ h (by kernel_rfl) (by kernel_rfl)
  intro x u h
  refine c_seq ?_
  refine r_start ?_
  refine p 1 ?_
  refine rend ?_
  replace h := H.done h
  subst h
  exact ret func79 rfl (vs := [.bool false]) (.tmp (by kernel_rfl) .nil) rfl (fun W S => ⟨rfl, S.below⟩)
theorem C.s_l1Own {a0 : (List Int)} {A0 : Option Addr} {k0 : Nat} {r : (List Int)} (w : World) (h : X.s_l1Own a0 = some r) (h0 : RdT (eI .i64) w (.slice A0 (List.length a0) k0) a0) : Calls prog 80 #[.slice A0 (List.length a0) k0] w (RetR (eI .i64) 3 w r (fun v => v)) := by
  refine calls (M := no) (args := [.slice A0 (List.length a0) k0]) func80 rfl ?_
  replace h : H (X.s_l1Own a0) (fun o => o = r) := H.mk h
  unfold X.s_l1Own at h
  refine c_seq ?_
  refine r_start ?_
  refine p 1 ?_
  refine rend ?_
  refine c_seq ?_
  refine r_start ?_
  refine xx rfl (e_lit (e := (eI .i64)) (el := 3) [] ([] : List Int) fun A1_0 k1_0 => ?_)
  refine p 1 ?_
  obtain ⟨y1_2, hy1_2, h⟩ := H.call h
  refine xx rfl (e_app 0 hy1_2 (s_arg h0) fun A1_2 k1_2 => ?_)
  refine p 1 ?_
  refine rend ?_
  replace h := H.done h
  subst h
  exact ret func80 rfl (vs := [.slice A1_2 (List.length y1_2) k1_2]) (.tmp (by kernel_rfl) .nil) rfl (fun W S => ⟨_, _, rfl, S.row 0, S.below⟩)
theorem C.s_cmOrders {fu : Nat} {a0 : Int} {a1 : (List Int)} {A1 : Option Addr} {k1 : Nat} {r : (List (List Int))} (w : World) (h : X.s_cmOrders fu a0 a1 = some r) (h1 : RdT (eI .i64) w (.slice A1 (List.length a1) k1) a1) : Calls prog 41 #[.int .i64 a0, .slice A1 (List.length a1) k1] w (RetO (eI .i64) 28 (Value.slice A1 (List.length a1) k1).ownBlock w r) := by
  induction fu generalizing a0 a1 A1 k1 r w with
  | zero => cases h
  | succ fu ih =>
  refine calls (M := no) (args := [.int .i64 a0, .slice A1 (List.length a1) k1]) func41 rfl ?_
  replace h : H (X.s_cmOrders (fu + 1) a0 a1) (fun o => o = r) := H.mk h
  rw [X.s_cmOrders] at h
  refine c_seq ?_
  refine r_start ?_
  refine p 1 ?_
  refine rend ?_
  refine c_seq ?_
  refine c_seq ?_
  refine r_start ?_
  refine p 4 ?_
  refine rend ?_
  refine c_or ((List.length a1 : Int) == a0) (fun q1 => ?_) (fun q1 => ?_)
  · replace h := H.t q1 h
    refine c_seq ?_
    refine r_start ?_
    refine p 1 ?_
    refine xx rfl (e_lit (e := eSl) (el := 28) [.slice A1 (List.length a1) k1] [(⟨A1, List.length a1, k1⟩ : Sl)] fun A2_1 k2_1 => ?_)
    refine p 1 ?_
    refine rend ?_
    replace h := H.done h
    subst h
    exact ret func41 rfl (vs := [.slice A2_1 (List.length [(⟨A1, List.length a1, k1⟩ : Sl)]) k2_1]) (.tmp (by kernel_rfl) .nil) rfl (fun W S => S.retO1 h1 0)
  replace h := H.f q1 h
  refine c_skip ?_
  refine c_seq ?_
  refine r_start ?_
  refine p 1 ?_
  refine rend ?_
  refine c_seq ?_
  refine c_seq ?_
  refine r_start ?_
  refine p 1 ?_
  refine rend ?_
  refine c_block ?_
  refine c_nil eSl 28 ?_
  refine c_rdi (eI .i64) ?_
  refine joinH (X := ((List (List Int)) × List Sl × Option Addr × Nat)) 0 (H.bnd h) (fun ⟨l10, u7, A8, k9⟩ => l10) (fun ⟨l10, u7, A8, k9⟩ => [rowT eSl w.heap.size 28 (.slice A8 (List.length u7) k9) u7, rdis (eI .i64) u7 l10]) (fun ⟨l10, u7, A8, k9⟩ u => (jk u 0 5 (.slice A8 (List.length u7) k9 :: (jk u 6 26 [])))) (fun h hj11 => ?_) ?_
  · skip
    refine loopR (X := (Int × (List (List Int)) × List Sl × Option Addr × Nat)) (fun ⟨n2, l6, u3, A4, k5⟩ => (n2, l6)) (fun ⟨n2, l6, u3, A4, k5⟩ => [rowT eSl w.heap.size 28 (.slice A4 (List.length u3) k5) u3, rdis (eI .i64) u3 l6]) (fun ⟨n2, l6, u3, A4, k5⟩ u => (.int .i64 a0 :: .slice A1 (List.length a1) k1 :: (jk u 2 3 (.slice A4 (List.length u3) k5 :: .int .i64 n2 :: (jk u 7 25 []))))) (0, ([] : List (List Int)), ([] : List Sl), none, 0) h (by kernel_rfl) (by kernel_rfl) ?_
    intro x u h
    obtain ⟨n2, l6, u3, A4, k5⟩ := x
    refine c_seq ?_
    refine c_seq ?_
    refine r_start ?_
    refine p 3 ?_
    refine rend ?_
    refine c_or (decide (n2 < a0)) (fun q12 => ?_) (fun q12 => ?_)
    · replace h := H.t q12 h
      refine c_skip ?_
      refine c_seq ?_
      refine c_block ?_
      refine c_seq ?_
      refine r_start ?_
      refine p 2 ?_
      obtain ⟨v7_2, hv7_2, h⟩ := H.call h
      refine xq rfl (y_call [.slice A1 (List.length a1) k1, .int .i64 n2] (.bool v7_2) func79 (fun W S => C.s_l1Has W hv7_2 ((s_arg h1).out W S))) ?_
      refine p 1 ?_
      refine rend ?_
      refine c_or (!v7_2) (fun q13 => ?_) (fun q13 => ?_)
      · replace h := H.t q13 h
        refine r_start ?_
        refine p 3 ?_
        obtain ⟨v8_3, hv8_3, h⟩ := H.call h
        refine xx rfl (e_cr [.slice A1 (List.length a1) k1] (fun v => v) func80 (fun W S => C.s_l1Own W hv8_3 ((s_arg h1).out W S)) fun A8_3 k8_3 => ?_)
        refine p 1 ?_
        refine xx rfl (e_lit (e := (eI .i64)) (el := 3) [.int .i64 n2] ([n2] : List Int) fun A8_5 k8_5 => ?_)
        obtain ⟨y8_6, hy8_6, h⟩ := H.call h
        refine xx rfl (e_app 2 hy8_6 (s_own 3) fun A8_6 k8_6 => ?_)
        obtain ⟨v8_7, hv8_7, h⟩ := H.call h
        refine pickO [0, 1, 3, 2] [rowT eSl w.heap.size 28 (.slice A4 (List.length u3) k5) u3, rdis (eI .i64) u3 l6, rowT (eI .i64) w.heap.size 3 (.slice A8_5 (List.length ([n2] : List Int)) k8_5) ([n2] : List Int), rowT (eI .i64) w.heap.size 3 (.slice A8_6 (List.length y8_6) k8_6) y8_6] ?_
        refine xx rfl (e_cro [rowT eSl w.heap.size 28 (.slice A4 (List.length u3) k5) u3, rdis (eI .i64) u3 l6, rowT (eI .i64) w.heap.size 3 (.slice A8_5 (List.length ([n2] : List Int)) k8_5) ([n2] : List Int)] (rowT (eI .i64) w.heap.size 3 (.slice A8_6 (List.length y8_6) k8_6) y8_6) [.int .i64 a0, .slice A8_6 (List.length y8_6) k8_6] func41 (fun W S => ih W hv8_7 ((s_own 3).out W S)) (fun k hk => hk) fun A8_7 k8_7 u8_7 => ?_)
        obtain ⟨y8_8, hy8_8, h⟩ := H.call h
        refine o_fact (f_len (i_ownR 1)) fun hl1 => ?_
        refine o_fact (f_len (i_ownR 4)) fun hl2 => ?_
        obtain ⟨hs1, hq1⟩ := appD_sl hy8_8 hl1 hl2
        refine xx rfl (e_app (e := eSl) 0 hs1 (s_own 3) fun A8_8 k8_8 => ?_)
        refine mergeR (e := (eI .i64)) (us := u3) (vs := u8_7) (ls := l6) (ms := v8_7) [0, 2, 1, 4] [rowT eSl w.heap.size 28 (.slice A8_8 (List.length (u3 ++ u8_7)) k8_8) (u3 ++ u8_7), rowT (eI .i64) w.heap.size 3 (.slice A8_5 (List.length ([n2] : List Int)) k8_5) ([n2] : List Int)] hq1 ?_
        refine p 1 ?_
        refine rend ?_
        refine c_inb ?_
        refine r_start ?_
        refine p 3 ?_
        refine rend ?_
        refine pick [0, 2] [rowT eSl w.heap.size 28 (.slice A8_8 (List.length (u3 ++ u8_7)) k8_8) (u3 ++ u8_7), rdis (eI .i64) (u3 ++ u8_7) y8_8] ?_
        replace h := H.inl h
        exact h ((wr (n2 + 1)), y8_8, (u3 ++ u8_7), A8_8, k8_8) _ _ rfl (by kernel_rfl) (by kernel_rfl)
      replace h := H.f q13 h
      refine c_skip ?_
      refine c_inb ?_
      refine r_start ?_
      refine p 3 ?_
      refine rend ?_
      replace h := H.inl h
      exact h ((wr (n2 + 1)), l6, u3, A4, k5) _ _ rfl (by kernel_rfl) (by kernel_rfl)
    replace h := H.f q12 h
    refine cx ?_
    replace h := H.inr h
    exact hj11 (l6, u3, A4, k5) _ _ h (by kernel_rfl) (by kernel_rfl)
  intro x u h
  obtain ⟨l10, u7, A8, k9⟩ := x
  refine c_seq ?_
  refine r_start ?_
  refine p 2 ?_
  refine rend ?_
  replace h := H.done h
  subst h
  exact ret func41 rfl (vs := [.slice A8 (List.length u7) k9]) (.tmp (by kernel_rfl) .nil) rfl (fun W S => S.retO 0 1 (by decide))
theorem C.s_l1Most {a0 : Int} {a1 : Int} {r : Int} (w : World) (h : X.s_l1Most a0 a1 = some r) : Calls prog 62 #[.int .i64 a0, .int .i64 a1] w (Ret w (.int .i64 r)) := by
  refine calls (M := no) (args := [.int .i64 a0, .int .i64 a1]) func62 rfl ?_
  replace h : H (X.s_l1Most a0 a1) (fun o => o = r) := H.mk h
  unfold X.s_l1Most at h
  refine c_seq ?_
  refine r_start ?_
  refine p 1 ?_
  refine rend ?_
  refine c_seq ?_
  refine c_seq ?_
  refine r_start ?_
  refine p 3 ?_
  refine rend ?_
  refine c_or (decide (a0 > a1)) (fun q1 => ?_) (fun q1 => ?_)
  · replace h := H.t q1 h
    refine c_seq ?_
    refine r_start ?_
    refine p 2 ?_
    refine rend ?_
    replace h := H.done h
    subst h
    exact ret func62 rfl (vs := [.int .i64 a0]) (.tmp (by kernel_rfl) .nil) rfl (fun W S => ⟨rfl, S.below⟩)
  replace h := H.f q1 h
  refine c_skip ?_
  refine c_seq ?_
  refine r_start ?_
  refine p 2 ?_
  refine rend ?_
  replace h := H.done h
  subst h
  exact ret func62 rfl (vs := [.int .i64 a1]) (.tmp (by kernel_rfl) .nil) rfl (fun W S => ⟨rfl, S.below⟩)
theorem C.s_l1Abs {a0 : Int} {r : Int} (w : World) (h : X.s_l1Abs a0 = some r) : Calls prog 127 #[.int .i64 a0] w (Ret w (.int .i64 r)) := by
  refine calls (M := no) (args := [.int .i64 a0]) func127 rfl ?_
  replace h : H (X.s_l1Abs a0) (fun o => o = r) := H.mk h
  unfold X.s_l1Abs at h
  refine c_seq ?_
  refine r_start ?_
  refine p 1 ?_
  refine rend ?_
  refine c_seq ?_
  refine r_start ?_
  refine p 3 ?_
  obtain ⟨v1_3, hv1_3, h⟩ := H.call h
  refine xq rfl (y_call [.int .i64 a0, .int .i64 (wr (0 - a0))] (.int .i64 v1_3) func62 (fun W S => C.s_l1Most W hv1_3)) ?_
  refine p 1 ?_
  refine rend ?_
  replace h := H.done h
  subst h
  exact ret func127 rfl (vs := [.int .i64 v1_3]) (.tmp (by kernel_rfl) .nil) rfl (fun W S => ⟨rfl, S.below⟩)
theorem C.s_plFar {a0 : Place} {a1 : Place} {r : Int} (w : World) (h : X.s_plFar a0 a1 = some r) : Calls prog 81 #[.agg (ePlace a0).toArray, .agg (ePlace a1).toArray] w (Ret w (.int .i64 r)) := by
  refine calls (M := no) (args := [.agg (ePlace a0).toArray, .agg (ePlace a1).toArray]) func81 rfl ?_
  replace h : H (X.s_plFar a0 a1) (fun o => o = r) := H.mk h
  unfold X.s_plFar at h
  refine c_seq ?_
  refine r_start ?_
  refine xx rfl (x_box (ePlace a0) fun g0_0 => ?_)
  refine xx rfl (x_box (ePlace a1) fun g0_1 => ?_)
  refine p 1 ?_
  refine rend ?_
  refine c_seq ?_
  refine r_start ?_
  refine p 1 ?_
  refine xq rfl (y_load (.int .i64 a0.Side) 0 g0_0 1) ?_
  refine p 1 ?_
  refine xq rfl (y_load (.int .i64 a1.Side) 1 g0_1 1) ?_
  refine p 1 ?_
  obtain ⟨v1_5, hv1_5, h⟩ := H.call h
  refine xq rfl (y_call [.int .i64 (wr (a0.Side - a1.Side))] (.int .i64 v1_5) func127 (fun W S => C.s_l1Abs W hv1_5)) ?_
  refine p 1 ?_
  refine rend ?_
  refine c_seq ?_
  refine c_seq ?_
  refine r_start ?_
  refine p 1 ?_
  refine xq rfl (y_load (.bool a0.Contact) 0 g0_0 2) ?_
  refine p 1 ?_
  refine xq rfl (y_load (.bool a1.Contact) 1 g0_1 2) ?_
  refine p 1 ?_
  refine rend ?_
  refine c_or (!(a0.Contact == a1.Contact)) (fun q1 => ?_) (fun q1 => ?_)
  · replace h := H.t q1 h
    refine r_start ?_
    refine p 3 ?_
    refine rend ?_
    refine c_seq ?_
    refine c_seq ?_
    refine r_start ?_
    refine p 1 ?_
    refine xq rfl (y_load (.int .i64 a0.Region) 0 g0_0 0) ?_
    refine p 2 ?_
    refine xq rfl (y_load (.int .i64 a1.Region) 1 g0_1 0) ?_
    refine p 2 ?_
    refine rend ?_
    refine c_or (!((a0.Region == 0) == (a1.Region == 0))) (fun q2 => ?_) (fun q2 => ?_)
    · replace h := H.t q2 h
      refine c_seq ?_
      refine r_start ?_
      refine p 3 ?_
      refine rend ?_
      replace h := H.done h
      subst h
      exact ret func81 rfl (vs := [.int .i64 (wr ((wr (v1_5 + 1)) + 4))]) (.tmp (by kernel_rfl) .nil) rfl (fun W S => ⟨rfl, S.below⟩)
    replace h := H.f q2 h
    refine c_skip ?_
    refine c_seq ?_
    refine r_start ?_
    refine p 2 ?_
    refine xq rfl (y_load (.int .i64 a0.Region) 0 g0_0 0) ?_
    refine p 1 ?_
    refine xq rfl (y_load (.int .i64 a1.Region) 1 g0_1 0) ?_
    refine p 1 ?_
    obtain ⟨v6_6, hv6_6, h⟩ := H.call h
    refine xq rfl (y_call [.int .i64 (wr (a0.Region - a1.Region))] (.int .i64 v6_6) func127 (fun W S => C.s_l1Abs W hv6_6)) ?_
    refine p 2 ?_
    refine rend ?_
    replace h := H.done h
    subst h
    exact ret func81 rfl (vs := [.int .i64 (wr ((wr (v1_5 + 1)) + v6_6))]) (.tmp (by kernel_rfl) .nil) rfl (fun W S => ⟨rfl, S.below⟩)
  replace h := H.f q1 h
  refine c_skip ?_
  refine c_seq ?_
  refine c_seq ?_
  refine r_start ?_
  refine p 1 ?_
  refine xq rfl (y_load (.int .i64 a0.Region) 0 g0_0 0) ?_
  refine p 2 ?_
  refine xq rfl (y_load (.int .i64 a1.Region) 1 g0_1 0) ?_
  refine p 2 ?_
  refine rend ?_
  refine c_or (!((a0.Region == 0) == (a1.Region == 0))) (fun q3 => ?_) (fun q3 => ?_)
  · replace h := H.t q3 h
    refine c_seq ?_
    refine r_start ?_
    refine p 3 ?_
    refine rend ?_
    replace h := H.done h
    subst h
    exact ret func81 rfl (vs := [.int .i64 (wr (v1_5 + 4))]) (.tmp (by kernel_rfl) .nil) rfl (fun W S => ⟨rfl, S.below⟩)
  replace h := H.f q3 h
  refine c_skip ?_
  refine c_seq ?_
  refine r_start ?_
  refine p 2 ?_
  refine xq rfl (y_load (.int .i64 a0.Region) 0 g0_0 0) ?_
  refine p 1 ?_
  refine xq rfl (y_load (.int .i64 a1.Region) 1 g0_1 0) ?_
  refine p 1 ?_
  obtain ⟨v6_6, hv6_6, h⟩ := H.call h
  refine xq rfl (y_call [.int .i64 (wr (a0.Region - a1.Region))] (.int .i64 v6_6) func127 (fun W S => C.s_l1Abs W hv6_6)) ?_
  refine p 2 ?_
  refine rend ?_
  replace h := H.done h
  subst h
  exact ret func81 rfl (vs := [.int .i64 (wr (v1_5 + v6_6))]) (.tmp (by kernel_rfl) .nil) rfl (fun W S => ⟨rfl, S.below⟩)
theorem C.s_cmGap {a0 : Sign} {a1 : Sign} {r : Int} (w : World) (h : X.s_cmGap a0 a1 = some r) : Calls prog 42 #[.agg (eSign a0).toArray, .agg (eSign a1).toArray] w (Ret w (.int .i64 r)) := by
  refine calls (M := no) (args := [.agg (eSign a0).toArray, .agg (eSign a1).toArray]) func42 rfl ?_
  replace h : H (X.s_cmGap a0 a1) (fun o => o = r) := H.mk h
  unfold X.s_cmGap at h
  refine c_seq ?_
  refine r_start ?_
  refine xx rfl (x_box (eSign a0) fun g0_0 => ?_)
  refine xx rfl (x_box (eSign a1) fun g0_1 => ?_)
  refine p 1 ?_
  refine rend ?_
  refine c_seq ?_
  refine r_start ?_
  refine p 2 ?_
  refine xq rfl (y_load (.agg (ePlace a0.Main.Place).toArray) 0 g0_0 8) ?_
  refine p 2 ?_
  refine xq rfl (y_load (.agg (ePlace a1.Main.Place).toArray) 1 g0_1 8) ?_
  obtain ⟨v1_6, hv1_6, h⟩ := H.call h
  refine xq rfl (y_call [.agg (ePlace a0.Main.Place).toArray, .agg (ePlace a1.Main.Place).toArray] (.int .i64 v1_6) func81 (fun W S => C.s_plFar W hv1_6)) ?_
  refine p 1 ?_
  refine rend ?_
  refine c_seq ?_
  refine c_seq ?_
  refine r_start ?_
  refine p 1 ?_
  refine xq rfl (y_load (.bool a0.Two) 0 g0_0 13) ?_
  refine p 1 ?_
  refine xq rfl (y_load (.bool a1.Two) 1 g0_1 13) ?_
  refine p 1 ?_
  refine rend ?_
  refine c_or (!(a0.Two == a1.Two)) (fun q1 => ?_) (fun q1 => ?_)
  · replace h := H.t q1 h
    refine r_start ?_
    refine p 3 ?_
    refine rend ?_
    refine c_seq ?_
    refine r_start ?_
    refine p 2 ?_
    refine rend ?_
    replace h := H.done h
    subst h
    exact ret func42 rfl (vs := [.int .i64 (wr (v1_6 + 1))]) (.tmp (by kernel_rfl) .nil) rfl (fun W S => ⟨rfl, S.below⟩)
  replace h := H.f q1 h
  refine c_skip ?_
  refine c_seq ?_
  refine r_start ?_
  refine p 2 ?_
  refine rend ?_
  replace h := H.done h
  subst h
  exact ret func42 rfl (vs := [.int .i64 v1_6]) (.tmp (by kernel_rfl) .nil) rfl (fun W S => ⟨rfl, S.below⟩)
theorem C.s_SmoothestOrder {fu : Nat} {a0 : (List Sign)} {A0 : Option Addr} {k0 : Nat} {r : ((List Int) × Int × Bool)} (w : World) (h : X.s_SmoothestOrder fu a0 = some r) (h0 : RdT nSign w (.slice A0 (List.length a0) k0) a0) : Calls prog 10 #[.slice A0 (List.length a0) k0] w (RetRO (eI .i64) w r.1 (fun v => .tuple #[v, .int .i64 r.2.1, .bool r.2.2])) := by
  refine calls (M := no) (args := [.slice A0 (List.length a0) k0]) func10 rfl ?_
  replace h : H (X.s_SmoothestOrder fu a0) (fun o => o = r) := H.mk h
  unfold X.s_SmoothestOrder at h
  refine c_seq ?_
  refine r_start ?_
  refine p 3 ?_
  refine rend ?_
  refine c_seq ?_
  refine c_seq ?_
  refine r_start ?_
  refine p 1 ?_
  obtain ⟨v1_1, hv1_1, h⟩ := H.call h
  refine xq rfl (y_call [.slice A0 (List.length a0) k0] (.bool v1_1) func40 (fun W S => C.s_cmGood W hv1_1 ((s_arg h0).out W S))) ?_
  refine p 1 ?_
  refine rend ?_
  refine c_or (!v1_1) (fun q1 => ?_) (fun q1 => ?_)
  · replace h := H.t q1 h
    refine c_seq ?_
    refine r_start ?_
    refine p 3 ?_
    refine rend ?_
    replace h := H.done h
    subst h
    exact ret func10 rfl (vs := [.slice none 0 0, .int .i64 0, .bool false]) (.tmp (by kernel_rfl) (.tmp (by kernel_rfl) (.tmp (by kernel_rfl) .nil))) rfl (fun W S => retRO_nil (res := fun v => .tuple #[v, .int .i64 0, .bool false]) S)
  replace h := H.f q1 h
  refine c_skip ?_
  refine c_seq ?_
  refine r_start ?_
  refine p 1 ?_
  refine rend ?_
  refine c_seq ?_
  refine r_start ?_
  refine p 1 ?_
  refine rend ?_
  refine c_seq ?_
  refine c_seq ?_
  refine r_start ?_
  refine p 2 ?_
  obtain ⟨v5_2, hv5_2, h⟩ := H.call h
  refine xx rfl (e_cro0 [.int .i64 (List.length a0 : Int), .slice none 0 0] func41 (fun W S => C.s_cmOrders W hv5_2 (s_nil.out W S)) fun A5_2 k5_2 u5_2 => ?_)
  refine p 1 ?_
  refine o_fact (f_len (i_ownR 1)) fun hl5_3 => ?_
  refine o_set 17 (len_sl hl5_3) ?_
  refine p 1 ?_
  refine rend ?_
  refine c_block ?_
  refine joinH (X := (Int × Int)) 0 (H.bnd h) (fun (x : (Int × Int)) => x) (fun ⟨n4, n5⟩ => [rowT eSl w.heap.size 28 (.slice A5_2 (List.length u5_2) k5_2) u5_2, rdis (eI .i64) u5_2 v5_2]) (fun ⟨n4, n5⟩ u => (jk u 0 5 (.slice ((blS u5_2 n4).A) (List.length (blL v5_2 n4)) ((blS u5_2 n4).c) :: .int .i64 n5 :: (jk u 7 52 [])))) (fun h hj6 => ?_) ?_
  · skip
    refine rangeRD (X := (Int × Int)) (s_own 0) (i_ownR 1) (fun (x : (Int × Int)) => x) (fun ⟨n2, n3⟩ => [rowT eSl w.heap.size 28 (.slice A5_2 (List.length u5_2) k5_2) u5_2, rdis (eI .i64) u5_2 v5_2]) (fun (j7 : Nat) ⟨n2, n3⟩ u => (.slice A0 (List.length a0) k0 :: (jk u 1 4 (.slice ((blS u5_2 n2).A) (List.length (blL v5_2 n2)) ((blS u5_2 n2).c) :: .int .i64 n3 :: (jk u 7 9 (.slice A5_2 (List.length u5_2) k5_2 :: .int .i64 (List.length v5_2 : Int) :: .int .i64 (j7 : Int) :: (jk u 19 40 []))))))) ((-1), 0) h (by kernel_rfl) (by kernel_rfl) ?_ ?_
    · intro j7 x u x8 q9 hg10 hw11 h
      obtain ⟨n2, n3⟩ := x
      refine c_seq ?_
      refine r_start ?_
      refine p 1 ?_
      refine rend ?_
      refine c_seq ?_
      refine c_yes q9 ?_
      refine c_skip ?_
      refine c_seq ?_
      refine c_block ?_
      refine c_seq ?_
      refine r_start ?_
      refine o_fact (f_len (i_ownR 1)) fun hl7_0 => ?_
      obtain ⟨s7_0, hs7_0⟩ := getI_both hl7_0 hg10
      refine xq rfl (y_idx (e := eSl) (el := 28) hs7_0 (s_own 0)) ?_
      refine xq rfl (y_el (e := eSl) 0 (.slice s7_0.A s7_0.n s7_0.c) hs7_0 (s_own 0)) ?_
      refine o_fact (f_n (i_ownR 1) hs7_0 hg10) fun he7_1 => ?_
      refine o_set 21 (sl_n he7_1) ?_
      refine p 1 ?_
      refine rend ?_
      refine c_seq ?_
      refine r_start ?_
      refine p 1 ?_
      refine rend ?_
      refine c_seq ?_
      refine c_seq ?_
      refine r_start ?_
      refine p 1 ?_
      refine rend ?_
      refine c_block ?_
      refine joinH (X := (Int × Int)) 2 (H.bnd h) (fun (x : (Int × Int)) => x) (fun ⟨n14, n15⟩ => [rowT eSl w.heap.size 28 (.slice A5_2 (List.length u5_2) k5_2) u5_2, rdis (eI .i64) u5_2 v5_2]) (fun ⟨n14, n15⟩ u => (.slice A0 (List.length a0) k0 :: (jk u 1 4 (.slice ((blS u5_2 n14).A) (List.length (blL v5_2 n14)) ((blS u5_2 n14).c) :: .int .i64 n3 :: (jk u 7 1 (.slice s7_0.A (List.length x8) s7_0.c :: .int .i64 n15 :: (jk u 10 6 (.slice A5_2 (List.length u5_2) k5_2 :: .int .i64 (List.length v5_2 : Int) :: .int .i64 (j7 : Int) :: (jk u 19 40 []))))))))) (fun h hj16 => ?_) ?_
      · skip
        refine loopR (X := (Int × Int)) (fun (x : (Int × Int)) => x) (fun ⟨n12, n13⟩ => [rowT eSl w.heap.size 28 (.slice A5_2 (List.length u5_2) k5_2) u5_2, rdis (eI .i64) u5_2 v5_2]) (fun ⟨n12, n13⟩ u => (.slice A0 (List.length a0) k0 :: (jk u 1 4 (.slice ((blS u5_2 n2).A) (List.length (blL v5_2 n2)) ((blS u5_2 n2).c) :: .int .i64 n3 :: (jk u 7 1 (.slice s7_0.A (List.length x8) s7_0.c :: .int .i64 n12 :: .int .i64 n13 :: (jk u 11 5 (.slice A5_2 (List.length u5_2) k5_2 :: .int .i64 (List.length v5_2 : Int) :: .int .i64 (j7 : Int) :: (jk u 19 40 []))))))))) (0, 1) h (by kernel_rfl) (by kernel_rfl) ?_
        intro x u h
        obtain ⟨n12, n13⟩ := x
        refine c_seq ?_
        refine c_seq ?_
        refine r_start ?_
        refine p 4 ?_
        refine rend ?_
        refine c_or (decide (n13 < (List.length x8 : Int))) (fun q17 => ?_) (fun q17 => ?_)
        · replace h := H.t q17 h
          refine c_skip ?_
          refine c_seq ?_
          refine c_block ?_
          refine as_start 19 19 ?_
          refine ap 0 5 ?_
          obtain ⟨y12_5, hy12_5, h⟩ := H.call h
          refine aq 5 rfl (y_idx (e := (eI .i64)) (el := 3) hy12_5 (s_in (i_ownR 1) hs7_0 hg10)) ?_
          refine aq 6 rfl (y_el (e := (eI .i64)) 0 (.int .i64 y12_5) hy12_5 (s_in (i_ownR 1) hs7_0 hg10)) ?_
          obtain ⟨y12_7, hy12_7, h⟩ := H.call h
          refine aq 7 rfl (y_idx (e := nSign) (el := 46) hy12_7 (s_arg h0)) ?_
          refine aq 8 rfl (y_el (e := nSign) 0 (.agg (eSign y12_7).toArray) hy12_7 (s_arg h0)) ?_
          refine ap 9 3 ?_
          obtain ⟨y12_12, hy12_12, h⟩ := H.call h
          refine aq 12 rfl (y_idx (e := (eI .i64)) (el := 3) hy12_12 (s_in (i_ownR 1) hs7_0 hg10)) ?_
          refine aq 13 rfl (y_el (e := (eI .i64)) 0 (.int .i64 y12_12) hy12_12 (s_in (i_ownR 1) hs7_0 hg10)) ?_
          obtain ⟨y12_14, hy12_14, h⟩ := H.call h
          refine aq 14 rfl (y_idx (e := nSign) (el := 46) hy12_14 (s_arg h0)) ?_
          refine aq 15 rfl (y_el (e := nSign) 0 (.agg (eSign y12_14).toArray) hy12_14 (s_arg h0)) ?_
          obtain ⟨v12_16, hv12_16, h⟩ := H.call h
          refine aq 16 rfl (y_call [.agg (eSign y12_7).toArray, .agg (eSign y12_14).toArray] (.int .i64 v12_16) func42 (fun W S => C.s_cmGap W hv12_16)) ?_
          refine ap 17 2 ?_
          refine a_done ?_
          refine c_inb ?_
          refine r_start ?_
          refine p 3 ?_
          refine rend ?_
          replace h := H.inl h
          exact h ((wr (n12 + v12_16)), (wr (n13 + 1))) _ _ rfl (by kernel_rfl) (by kernel_rfl)
        replace h := H.f q17 h
        refine cx ?_
        replace h := H.inr h
        exact hj16 (n2, n12) _ _ h (by kernel_rfl) (by kernel_rfl)
      intro x u h
      obtain ⟨n14, n15⟩ := x
      refine c_seq ?_
      refine r_start ?_
      refine p 4 ?_
      refine br ((List.length (blL v5_2 n14) : Int) == 0) (fun q18 => ?_) (fun q18 => ?_)
      · replace h := H.t q18 h
        refine o_set 49 (congrArg Value.bool q18) ?_
        refine p 4 ?_
        refine rend ?_
        refine c_t (by kernel_rfl) ?_
        refine c_seq ?_
        refine r_start ?_
        refine p 2 ?_
        refine rend ?_
        refine frg (fun u => (.slice A0 (List.length a0) k0 :: (jk u 1 4 (.slice s7_0.A (List.length x8) s7_0.c :: (jk u 6 3 (.int .i64 n15 :: (jk u 10 6 (.slice A5_2 (List.length u5_2) k5_2 :: .int .i64 (List.length v5_2 : Int) :: .int .i64 (j7 : Int) :: (jk u 19 40 []))))))))) (by kernel_rfl) fun u => ?_
        refine keep 2 (its' := [rowT eSl w.heap.size 28 (.slice A5_2 (List.length u5_2) k5_2) u5_2, rdis (eI .i64) u5_2 v5_2]) (by kernel_rfl) ?_
        refine r_start ?_
        refine p 2 ?_
        refine rend ?_
        refine c_inb ?_
        refine r_start ?_
        refine p 2 ?_
        refine rend ?_
        refine c_set 5 (sl_bl hs7_0 hg10) ?_
        refine c_set 18 (ci hw11) ?_
        replace h := H.inl h
        exact h ((j7 : Int), n15) _ _ rfl (by kernel_rfl) (by kernel_rfl)
      replace h := H.f q18 h
      refine o_set 49 (congrArg Value.bool q18) ?_
      refine p 4 ?_
      refine rend ?_
      refine c_or (decide (n15 < n3)) (fun q19 => ?_) (fun q19 => ?_)
      · replace h := H.t q19 h
        refine c_seq ?_
        refine r_start ?_
        refine p 2 ?_
        refine rend ?_
        refine frg (fun u => (.slice A0 (List.length a0) k0 :: (jk u 1 4 (.slice s7_0.A (List.length x8) s7_0.c :: (jk u 6 3 (.int .i64 n15 :: (jk u 10 6 (.slice A5_2 (List.length u5_2) k5_2 :: .int .i64 (List.length v5_2 : Int) :: .int .i64 (j7 : Int) :: (jk u 19 40 []))))))))) (by kernel_rfl) fun u => ?_
        refine keep 2 (its' := [rowT eSl w.heap.size 28 (.slice A5_2 (List.length u5_2) k5_2) u5_2, rdis (eI .i64) u5_2 v5_2]) (by kernel_rfl) ?_
        refine r_start ?_
        refine p 2 ?_
        refine rend ?_
        refine c_inb ?_
        refine r_start ?_
        refine p 2 ?_
        refine rend ?_
        refine c_set 5 (sl_bl hs7_0 hg10) ?_
        refine c_set 18 (ci hw11) ?_
        replace h := H.inl h
        exact h ((j7 : Int), n15) _ _ rfl (by kernel_rfl) (by kernel_rfl)
      replace h := H.f q19 h
      refine c_skip ?_
      refine c_inb ?_
      refine r_start ?_
      refine p 2 ?_
      refine rend ?_
      refine c_set 18 (ci hw11) ?_
      replace h := H.inl h
      exact h (n14, n3) _ _ rfl (by kernel_rfl) (by kernel_rfl)
    · intro x u q9 h
      obtain ⟨n2, n3⟩ := x
      refine c_seq ?_
      refine r_start ?_
      refine p 1 ?_
      refine rend ?_
      refine c_seq ?_
      refine c_no q9 ?_
      refine cx ?_
      replace h := H.done h
      exact hj6 (n2, n3) _ _ h (by kernel_rfl) (by kernel_rfl)
  intro x u h
  obtain ⟨n4, n5⟩ := x
  refine c_seq ?_
  refine r_start ?_
  refine p 5 ?_
  refine rend ?_
  replace h := H.done h
  subst h
  exact ret func10 rfl (vs := [.slice ((blS u5_2 n4).A) (List.length (blL v5_2 n4)) ((blS u5_2 n4).c), .int .i64 n5, .bool true]) (.tmp (by kernel_rfl) (.tmp (by kernel_rfl) (.tmp (by kernel_rfl) .nil))) rfl (fun W S => S.retRO (res := fun v => .tuple #[v, .int .i64 n5, .bool true]) 1)
theorem C.l_szMove {a0 : Move} {a1 : Int} {r : Int} (w : World) (h : X.l_szMove a0 a1 = some r) : Calls prog 159 #[.agg (eMove a0).toArray, .int .i64 a1] w (Ret w (.int .i64 r)) := by
  refine calls (M := no) (args := [.agg (eMove a0).toArray, .int .i64 a1]) func159 rfl ?_
  replace h : H (X.l_szMove a0 a1) (fun o => o = r) := H.mk h
  unfold X.l_szMove at h
  refine c_seq ?_
  refine r_start ?_
  refine xx rfl (x_box (eMove a0) fun g0_0 => ?_)
  refine p 1 ?_
  refine rend ?_
  refine c_seq ?_
  refine r_start ?_
  refine p 2 ?_
  refine xq rfl (y_load (.string (bs a0.Steps)) 0 g0_0 0) ?_
  refine p 3 ?_
  refine rend ?_
  refine c_seq ?_
  refine c_seq ?_
  refine r_start ?_
  refine p 2 ?_
  refine rend ?_
  refine c_or (decide ((wr (a1 - (List.length a0.Steps : Int))) < 0)) (fun q1 => ?_) (fun q1 => ?_)
  · replace h := H.t q1 h
    refine c_seq ?_
    refine r_start ?_
    refine p 1 ?_
    refine rend ?_
    replace h := H.done h
    subst h
    exact ret func159 rfl (vs := [.int .i64 (-1)]) (.tmp (by kernel_rfl) .nil) rfl (fun W S => ⟨rfl, S.below⟩)
  replace h := H.f q1 h
  refine c_skip ?_
  refine c_seq ?_
  refine r_start ?_
  refine p 2 ?_
  refine rend ?_
  replace h := H.done h
  subst h
  exact ret func159 rfl (vs := [.int .i64 (wr (a1 - (List.length a0.Steps : Int)))]) (.tmp (by kernel_rfl) .nil) rfl (fun W S => ⟨rfl, S.below⟩)
theorem C.l_szHand {a0 : Hand} {a1 : Int} {r : Int} (w : World) (h : X.l_szHand a0 a1 = some r) : Calls prog 102 #[.agg (eHand a0).toArray, .int .i64 a1] w (Ret w (.int .i64 r)) := by
  refine calls (M := no) (args := [.agg (eHand a0).toArray, .int .i64 a1]) func102 rfl ?_
  replace h : H (X.l_szHand a0 a1) (fun o => o = r) := H.mk h
  unfold X.l_szHand at h
  refine c_seq ?_
  refine r_start ?_
  refine xx rfl (x_box (eHand a0) fun g0_0 => ?_)
  refine p 1 ?_
  refine rend ?_
  refine c_seq ?_
  refine r_start ?_
  refine p 1 ?_
  refine xq rfl (y_load (.agg (eMove a0.Move).toArray) 0 g0_0 11) ?_
  refine p 1 ?_
  obtain ⟨v1_3, hv1_3, h⟩ := H.call h
  refine xq rfl (y_call [.agg (eMove a0.Move).toArray, .int .i64 a1] (.int .i64 v1_3) func159 (fun W S => C.l_szMove W hv1_3)) ?_
  refine p 1 ?_
  refine rend ?_
  refine c_seq ?_
  refine c_seq ?_
  refine r_start ?_
  refine p 2 ?_
  refine rend ?_
  refine c_or (decide (v1_3 < 0)) (fun q1 => ?_) (fun q1 => ?_)
  · replace h := H.t q1 h
    refine c_seq ?_
    refine r_start ?_
    refine p 1 ?_
    refine rend ?_
    replace h := H.done h
    subst h
    exact ret func102 rfl (vs := [.int .i64 (-1)]) (.tmp (by kernel_rfl) .nil) rfl (fun W S => ⟨rfl, S.below⟩)
  replace h := H.f q1 h
  refine c_skip ?_
  refine c_seq ?_
  refine r_start ?_
  refine p 2 ?_
  refine rend ?_
  replace h := H.done h
  subst h
  exact ret func102 rfl (vs := [.int .i64 v1_3]) (.tmp (by kernel_rfl) .nil) rfl (fun W S => ⟨rfl, S.below⟩)
theorem C.l_szSign {a0 : Sign} {a1 : Int} {r : Int} (w : World) (h : X.l_szSign a0 a1 = some r) : Calls prog 64 #[.agg (eSign a0).toArray, .int .i64 a1] w (Ret w (.int .i64 r)) := by
  refine calls (M := no) (args := [.agg (eSign a0).toArray, .int .i64 a1]) func64 rfl ?_
  replace h : H (X.l_szSign a0 a1) (fun o => o = r) := H.mk h
  unfold X.l_szSign at h
  refine c_seq ?_
  refine r_start ?_
  refine xx rfl (x_box (eSign a0) fun g0_0 => ?_)
  refine p 1 ?_
  refine rend ?_
  refine c_seq ?_
  refine r_start ?_
  refine p 1 ?_
  refine xq rfl (y_load (.agg (eHand a0.Main).toArray) 0 g0_0 0) ?_
  refine p 1 ?_
  obtain ⟨v1_3, hv1_3, h⟩ := H.call h
  refine xq rfl (y_call [.agg (eHand a0.Main).toArray, .int .i64 a1] (.int .i64 v1_3) func102 (fun W S => C.l_szHand W hv1_3)) ?_
  refine p 1 ?_
  refine rend ?_
  refine c_seq ?_
  refine c_seq ?_
  refine r_start ?_
  refine p 2 ?_
  refine rend ?_
  refine c_or (decide (v1_3 < 0)) (fun q1 => ?_) (fun q1 => ?_)
  · replace h := H.t q1 h
    refine c_seq ?_
    refine r_start ?_
    refine p 1 ?_
    refine rend ?_
    replace h := H.done h
    subst h
    exact ret func64 rfl (vs := [.int .i64 (-1)]) (.tmp (by kernel_rfl) .nil) rfl (fun W S => ⟨rfl, S.below⟩)
  replace h := H.f q1 h
  refine c_skip ?_
  refine c_seq ?_
  refine r_start ?_
  refine p 1 ?_
  refine xq rfl (y_load (.agg (eHand a0.Other).toArray) 0 g0_0 14) ?_
  refine p 1 ?_
  obtain ⟨v4_3, hv4_3, h⟩ := H.call h
  refine xq rfl (y_call [.agg (eHand a0.Other).toArray, .int .i64 v1_3] (.int .i64 v4_3) func102 (fun W S => C.l_szHand W hv4_3)) ?_
  refine p 1 ?_
  refine rend ?_
  refine c_seq ?_
  refine c_seq ?_
  refine r_start ?_
  refine p 2 ?_
  refine rend ?_
  refine c_or (decide (v4_3 < 0)) (fun q2 => ?_) (fun q2 => ?_)
  · replace h := H.t q2 h
    refine c_seq ?_
    refine r_start ?_
    refine p 1 ?_
    refine rend ?_
    replace h := H.done h
    subst h
    exact ret func64 rfl (vs := [.int .i64 (-1)]) (.tmp (by kernel_rfl) .nil) rfl (fun W S => ⟨rfl, S.below⟩)
  replace h := H.f q2 h
  refine c_skip ?_
  refine c_seq ?_
  refine r_start ?_
  refine p 2 ?_
  refine rend ?_
  replace h := H.done h
  subst h
  exact ret func64 rfl (vs := [.int .i64 v4_3]) (.tmp (by kernel_rfl) .nil) rfl (fun W S => ⟨rfl, S.below⟩)
theorem C.l_szSignS {fu : Nat} {a0 : (List Sign)} {A0 : Option Addr} {k0 : Nat} {a1 : Int} {r : Int} (w : World) (h : X.l_szSignS fu a0 a1 = some r) (h0 : RdT nSign w (.slice A0 (List.length a0) k0) a0) : Calls prog 23 #[.slice A0 (List.length a0) k0, .int .i64 a1] w (Ret w (.int .i64 r)) := by
  refine calls (M := no) (args := [.slice A0 (List.length a0) k0, .int .i64 a1]) func23 rfl ?_
  replace h : H (X.l_szSignS fu a0 a1) (fun o => o = r) := H.mk h
  unfold X.l_szSignS at h
  refine c_seq ?_
  refine r_start ?_
  refine p 1 ?_
  refine rend ?_
  refine c_seq ?_
  refine r_start ?_
  refine p 5 ?_
  refine rend ?_
  refine c_seq ?_
  refine c_seq ?_
  refine r_start ?_
  refine p 2 ?_
  refine rend ?_
  refine c_or (decide ((wr (a1 - (List.length a0 : Int))) < 0)) (fun q1 => ?_) (fun q1 => ?_)
  · replace h := H.t q1 h
    refine c_seq ?_
    refine r_start ?_
    refine p 1 ?_
    refine rend ?_
    replace h := H.done h
    subst h
    exact ret func23 rfl (vs := [.int .i64 (-1)]) (.tmp (by kernel_rfl) .nil) rfl (fun W S => ⟨rfl, S.below⟩)
  replace h := H.f q1 h
  refine c_skip ?_
  refine c_seq ?_
  refine c_seq ?_
  refine r_start ?_
  refine p 1 ?_
  refine rend ?_
  refine c_block ?_
  refine joinE (X := Int) 0 (H.or h) (fun (x : Int) => x) (fun n4 => []) (fun n4 u => (jk u 0 1 (.int .i64 n4 :: (jk u 2 25 [])))) (fun h hj5 => ?_) ?_
  · skip
    refine loopR (X := (Int × Int)) (fun (x : (Int × Int)) => x) (fun ⟨n2, n3⟩ => []) (fun ⟨n2, n3⟩ u => (.slice A0 (List.length a0) k0 :: .int .i64 n2 :: (jk u 2 3 (.int .i64 n3 :: (jk u 6 21 []))))) ((wr (a1 - (List.length a0 : Int))), 0) h (by kernel_rfl) (by kernel_rfl) ?_
    intro x u h
    obtain ⟨n2, n3⟩ := x
    refine c_seq ?_
    refine c_seq ?_
    refine r_start ?_
    refine p 4 ?_
    refine rend ?_
    refine c_or (decide (n3 < (List.length a0 : Int))) (fun q6 => ?_) (fun q6 => ?_)
    · replace h := H.t q6 h
      refine c_skip ?_
      refine c_seq ?_
      refine c_block ?_
      refine c_seq ?_
      refine r_start ?_
      refine p 2 ?_
      obtain ⟨y7_2, hy7_2, h⟩ := H.call h
      refine xq rfl (y_idx (e := nSign) (el := 104) hy7_2 (s_arg h0)) ?_
      refine xq rfl (y_el (e := nSign) 0 (.agg (eSign y7_2).toArray) hy7_2 (s_arg h0)) ?_
      refine p 1 ?_
      obtain ⟨v7_5, hv7_5, h⟩ := H.call h
      refine xq rfl (y_call [.agg (eSign y7_2).toArray, .int .i64 n2] (.int .i64 v7_5) func64 (fun W S => C.l_szSign W hv7_5)) ?_
      refine p 1 ?_
      refine rend ?_
      refine c_seq ?_
      refine r_start ?_
      refine p 2 ?_
      refine rend ?_
      refine c_or (decide (v7_5 < 0)) (fun q7 => ?_) (fun q7 => ?_)
      · replace h := H.t q7 h
        refine c_seq ?_
        refine r_start ?_
        refine p 1 ?_
        refine rend ?_
        replace h := H.inr h
        replace h := H.done h
        subst h
        exact ret func23 rfl (vs := [.int .i64 (-1)]) (.tmp (by kernel_rfl) .nil) rfl (fun W S => ⟨rfl, S.below⟩)
      replace h := H.f q7 h
      refine c_skip ?_
      refine c_inb ?_
      refine r_start ?_
      refine p 3 ?_
      refine rend ?_
      replace h := H.inl h
      exact h (v7_5, (wr (n3 + 1))) _ _ rfl (by kernel_rfl) (by kernel_rfl)
    replace h := H.f q6 h
    refine cx ?_
    replace h := H.inr h
    exact hj5 n2 _ _ h (by kernel_rfl) (by kernel_rfl)
  intro n4 u h
  refine c_seq ?_
  refine r_start ?_
  refine p 2 ?_
  refine rend ?_
  replace h := H.done h
  subst h
  exact ret func23 rfl (vs := [.int .i64 n4]) (.tmp (by kernel_rfl) .nil) rfl (fun W S => ⟨rfl, S.below⟩)
theorem C.l_toShape {a0 : Shape} {r : Shape} (w : World) (h : X.l_toShape a0 = some r) : Calls prog 160 #[.agg (eShape a0).toArray] w (Ret w (.agg (eShape r).toArray)) := by
  refine calls (M := no) (args := [.agg (eShape a0).toArray]) func160 rfl ?_
  replace h : H (X.l_toShape a0) (fun o => o = r) := H.mk h
  unfold X.l_toShape at h
  refine c_seq ?_
  refine r_start ?_
  refine xx rfl (x_box (eShape a0) fun g0_0 => ?_)
  refine xx rfl (x_new (eShape zShape) fun g0_1 => ?_)
  refine rend ?_
  refine c_seq ?_
  refine r_start ?_
  refine xx rfl (x_new (eShape zShape) fun g1_0 => ?_)
  refine rend ?_
  refine c_seq ?_
  refine r_start ?_
  refine p 1 ?_
  refine xq rfl (y_load (.int .i64 a0.Thumb) 0 g0_0 0) ?_
  refine p 1 ?_
  refine xx rfl (x_sto 2 g1_0 0 (eShape ({ zShape with Thumb := a0.Thumb })) ?_)
  refine rend ?_
  refine c_seq ?_
  refine r_start ?_
  refine p 1 ?_
  refine xq rfl (y_load (.int .i64 a0.Index) 0 g0_0 1) ?_
  refine p 1 ?_
  refine xx rfl (x_sto 2 g1_0 1 (eShape ({ zShape with Thumb := a0.Thumb, Index := a0.Index })) ?_)
  refine rend ?_
  refine c_seq ?_
  refine r_start ?_
  refine p 1 ?_
  refine xq rfl (y_load (.int .i64 a0.Middle) 0 g0_0 2) ?_
  refine p 1 ?_
  refine xx rfl (x_sto 2 g1_0 2 (eShape ({ a0 with Ring := zShape.Ring, Little := zShape.Little, Spread := zShape.Spread })) ?_)
  refine rend ?_
  refine c_seq ?_
  refine r_start ?_
  refine p 1 ?_
  refine xq rfl (y_load (.int .i64 a0.Ring) 0 g0_0 3) ?_
  refine p 1 ?_
  refine xx rfl (x_sto 2 g1_0 3 (eShape ({ a0 with Little := zShape.Little, Spread := zShape.Spread })) ?_)
  refine rend ?_
  refine c_seq ?_
  refine r_start ?_
  refine p 1 ?_
  refine xq rfl (y_load (.int .i64 a0.Little) 0 g0_0 4) ?_
  refine p 1 ?_
  refine xx rfl (x_sto 2 g1_0 4 (eShape ({ a0 with Spread := zShape.Spread })) ?_)
  refine rend ?_
  refine c_seq ?_
  refine r_start ?_
  refine p 1 ?_
  refine xq rfl (y_load (.bool a0.Spread) 0 g0_0 5) ?_
  refine p 1 ?_
  refine xx rfl (x_sto 2 g1_0 5 (eShape a0) ?_)
  refine rend ?_
  refine c_seq ?_
  refine r_start ?_
  refine xq rfl (y_load (.agg (eShape a0).toArray) 2 g1_0 0) ?_
  refine xx rfl (x_sto 1 g0_1 0 (eShape a0) ?_)
  refine rend ?_
  replace h := H.done h
  subst h
  exact ret func160 rfl (vs := [.agg (eShape a0).toArray]) (.cell 1 g0_1 rfl (by kernel_rfl) (by kernel_rfl) .nil) rfl (fun W S => ⟨rfl, S.below⟩)
theorem C.l_toOrient {a0 : Orient} {r : Orient} (w : World) (h : X.l_toOrient a0 = some r) : Calls prog 161 #[.agg (eOrient a0).toArray] w (Ret w (.agg (eOrient r).toArray)) := by
  refine calls (M := no) (args := [.agg (eOrient a0).toArray]) func161 rfl ?_
  replace h : H (X.l_toOrient a0) (fun o => o = r) := H.mk h
  unfold X.l_toOrient at h
  refine c_seq ?_
  refine r_start ?_
  refine xx rfl (x_box (eOrient a0) fun g0_0 => ?_)
  refine xx rfl (x_new (eOrient zOrient) fun g0_1 => ?_)
  refine rend ?_
  refine c_seq ?_
  refine r_start ?_
  refine xx rfl (x_new (eOrient zOrient) fun g1_0 => ?_)
  refine rend ?_
  refine c_seq ?_
  refine r_start ?_
  refine p 1 ?_
  refine xq rfl (y_load (.int .i64 a0.Palm) 0 g0_0 0) ?_
  refine p 1 ?_
  refine xx rfl (x_sto 2 g1_0 0 (eOrient ({ a0 with Fingers := zOrient.Fingers })) ?_)
  refine rend ?_
  refine c_seq ?_
  refine r_start ?_
  refine p 1 ?_
  refine xq rfl (y_load (.int .i64 a0.Fingers) 0 g0_0 1) ?_
  refine p 1 ?_
  refine xx rfl (x_sto 2 g1_0 1 (eOrient a0) ?_)
  refine rend ?_
  refine c_seq ?_
  refine r_start ?_
  refine xq rfl (y_load (.agg (eOrient a0).toArray) 2 g1_0 0) ?_
  refine xx rfl (x_sto 1 g0_1 0 (eOrient a0) ?_)
  refine rend ?_
  replace h := H.done h
  subst h
  exact ret func161 rfl (vs := [.agg (eOrient a0).toArray]) (.cell 1 g0_1 rfl (by kernel_rfl) (by kernel_rfl) .nil) rfl (fun W S => ⟨rfl, S.below⟩)
theorem C.l_toPlace {a0 : Place} {r : Place} (w : World) (h : X.l_toPlace a0 = some r) : Calls prog 162 #[.agg (ePlace a0).toArray] w (Ret w (.agg (ePlace r).toArray)) := by
  refine calls (M := no) (args := [.agg (ePlace a0).toArray]) func162 rfl ?_
  replace h : H (X.l_toPlace a0) (fun o => o = r) := H.mk h
  unfold X.l_toPlace at h
  refine c_seq ?_
  refine r_start ?_
  refine xx rfl (x_box (ePlace a0) fun g0_0 => ?_)
  refine xx rfl (x_new (ePlace zPlace) fun g0_1 => ?_)
  refine rend ?_
  refine c_seq ?_
  refine r_start ?_
  refine xx rfl (x_new (ePlace zPlace) fun g1_0 => ?_)
  refine rend ?_
  refine c_seq ?_
  refine r_start ?_
  refine p 1 ?_
  refine xq rfl (y_load (.int .i64 a0.Region) 0 g0_0 0) ?_
  refine p 1 ?_
  refine xx rfl (x_sto 2 g1_0 0 (ePlace ({ zPlace with Region := a0.Region })) ?_)
  refine rend ?_
  refine c_seq ?_
  refine r_start ?_
  refine p 1 ?_
  refine xq rfl (y_load (.int .i64 a0.Side) 0 g0_0 1) ?_
  refine p 1 ?_
  refine xx rfl (x_sto 2 g1_0 1 (ePlace ({ a0 with Contact := zPlace.Contact })) ?_)
  refine rend ?_
  refine c_seq ?_
  refine r_start ?_
  refine p 1 ?_
  refine xq rfl (y_load (.bool a0.Contact) 0 g0_0 2) ?_
  refine p 1 ?_
  refine xx rfl (x_sto 2 g1_0 2 (ePlace a0) ?_)
  refine rend ?_
  refine c_seq ?_
  refine r_start ?_
  refine xq rfl (y_load (.agg (ePlace a0).toArray) 2 g1_0 0) ?_
  refine xx rfl (x_sto 1 g0_1 0 (ePlace a0) ?_)
  refine rend ?_
  replace h := H.done h
  subst h
  exact ret func162 rfl (vs := [.agg (ePlace a0).toArray]) (.cell 1 g0_1 rfl (by kernel_rfl) (by kernel_rfl) .nil) rfl (fun W S => ⟨rfl, S.below⟩)
theorem C.l_toMove {a0 : Move} {r : Move} (w : World) (h : X.l_toMove a0 = some r) : Calls prog 163 #[.agg (eMove a0).toArray] w (Ret w (.agg (eMove r).toArray)) := by
  refine calls (M := no) (args := [.agg (eMove a0).toArray]) func163 rfl ?_
  replace h : H (X.l_toMove a0) (fun o => o = r) := H.mk h
  unfold X.l_toMove at h
  refine c_seq ?_
  refine r_start ?_
  refine xx rfl (x_box (eMove a0) fun g0_0 => ?_)
  refine xx rfl (x_new (eMove zMove) fun g0_1 => ?_)
  refine rend ?_
  refine c_seq ?_
  refine r_start ?_
  refine xx rfl (x_new (eMove zMove) fun g1_0 => ?_)
  refine rend ?_
  refine c_seq ?_
  refine r_start ?_
  refine p 1 ?_
  refine xq rfl (y_load (.string (bs a0.Steps)) 0 g0_0 0) ?_
  refine p 1 ?_
  refine xx rfl (x_sto 2 g1_0 0 (eMove ({ a0 with Repeat := zMove.Repeat })) ?_)
  refine rend ?_
  refine c_seq ?_
  refine r_start ?_
  refine p 1 ?_
  refine xq rfl (y_load (.int .i64 a0.Repeat) 0 g0_0 1) ?_
  refine p 1 ?_
  refine xx rfl (x_sto 2 g1_0 1 (eMove a0) ?_)
  refine rend ?_
  refine c_seq ?_
  refine r_start ?_
  refine xq rfl (y_load (.agg (eMove a0).toArray) 2 g1_0 0) ?_
  refine xx rfl (x_sto 1 g0_1 0 (eMove a0) ?_)
  refine rend ?_
  replace h := H.done h
  subst h
  exact ret func163 rfl (vs := [.agg (eMove a0).toArray]) (.cell 1 g0_1 rfl (by kernel_rfl) (by kernel_rfl) .nil) rfl (fun W S => ⟨rfl, S.below⟩)
theorem C.l_toHand {a0 : Hand} {r : Hand} (w : World) (h : X.l_toHand a0 = some r) : Calls prog 103 #[.agg (eHand a0).toArray] w (Ret w (.agg (eHand r).toArray)) := by
  refine calls (M := no) (args := [.agg (eHand a0).toArray]) func103 rfl ?_
  replace h : H (X.l_toHand a0) (fun o => o = r) := H.mk h
  unfold X.l_toHand at h
  refine c_seq ?_
  refine r_start ?_
  refine xx rfl (x_box (eHand a0) fun g0_0 => ?_)
  refine xx rfl (x_new (eHand zHand) fun g0_1 => ?_)
  refine rend ?_
  refine c_seq ?_
  refine r_start ?_
  refine xx rfl (x_new (eHand zHand) fun g1_0 => ?_)
  refine rend ?_
  refine c_seq ?_
  refine r_start ?_
  refine p 1 ?_
  refine xq rfl (y_load (.agg (eShape a0.Shape).toArray) 0 g0_0 0) ?_
  obtain ⟨v2_2, hv2_2, h⟩ := H.call h
  refine xq rfl (y_call [.agg (eShape a0.Shape).toArray] (.agg (eShape v2_2).toArray) func160 (fun W S => C.l_toShape W hv2_2)) ?_
  refine p 1 ?_
  refine xx rfl (x_sto 2 g1_0 0 (eHand ({ zHand with Shape := v2_2 })) ?_)
  refine rend ?_
  refine c_seq ?_
  refine r_start ?_
  refine p 1 ?_
  refine xq rfl (y_load (.agg (eOrient a0.Orient).toArray) 0 g0_0 6) ?_
  obtain ⟨v3_2, hv3_2, h⟩ := H.call h
  refine xq rfl (y_call [.agg (eOrient a0.Orient).toArray] (.agg (eOrient v3_2).toArray) func161 (fun W S => C.l_toOrient W hv3_2)) ?_
  refine p 1 ?_
  refine xx rfl (x_sto 2 g1_0 6 (eHand ({ zHand with Shape := v2_2, Orient := v3_2 })) ?_)
  refine rend ?_
  refine c_seq ?_
  refine r_start ?_
  refine p 1 ?_
  refine xq rfl (y_load (.agg (ePlace a0.Place).toArray) 0 g0_0 8) ?_
  obtain ⟨v4_2, hv4_2, h⟩ := H.call h
  refine xq rfl (y_call [.agg (ePlace a0.Place).toArray] (.agg (ePlace v4_2).toArray) func162 (fun W S => C.l_toPlace W hv4_2)) ?_
  refine p 1 ?_
  refine xx rfl (x_sto 2 g1_0 8 (eHand (⟨v2_2, v3_2, v4_2, zHand.Move⟩ : Hand)) ?_)
  refine rend ?_
  refine c_seq ?_
  refine r_start ?_
  refine p 1 ?_
  refine xq rfl (y_load (.agg (eMove a0.Move).toArray) 0 g0_0 11) ?_
  obtain ⟨v5_2, hv5_2, h⟩ := H.call h
  refine xq rfl (y_call [.agg (eMove a0.Move).toArray] (.agg (eMove v5_2).toArray) func163 (fun W S => C.l_toMove W hv5_2)) ?_
  refine p 1 ?_
  refine xx rfl (x_sto 2 g1_0 11 (eHand (⟨v2_2, v3_2, v4_2, v5_2⟩ : Hand)) ?_)
  refine rend ?_
  refine c_seq ?_
  refine r_start ?_
  refine xq rfl (y_load (.agg (eHand (⟨v2_2, v3_2, v4_2, v5_2⟩ : Hand)).toArray) 2 g1_0 0) ?_
  refine xx rfl (x_sto 1 g0_1 0 (eHand (⟨v2_2, v3_2, v4_2, v5_2⟩ : Hand)) ?_)
  refine rend ?_
  replace h := H.done h
  subst h
  exact ret func103 rfl (vs := [.agg (eHand (⟨v2_2, v3_2, v4_2, v5_2⟩ : Hand)).toArray]) (.cell 1 g0_1 rfl (by kernel_rfl) (by kernel_rfl) .nil) rfl (fun W S => ⟨rfl, S.below⟩)
theorem C.l_toSign {a0 : Sign} {r : Sign} (w : World) (h : X.l_toSign a0 = some r) : Calls prog 65 #[.agg (eSign a0).toArray] w (Ret w (.agg (eSign r).toArray)) := by
  refine calls (M := no) (args := [.agg (eSign a0).toArray]) func65 rfl ?_
  replace h : H (X.l_toSign a0) (fun o => o = r) := H.mk h
  unfold X.l_toSign at h
  refine c_seq ?_
  refine r_start ?_
  refine xx rfl (x_box (eSign a0) fun g0_0 => ?_)
  refine xx rfl (x_new (eSign zSign) fun g0_1 => ?_)
  refine rend ?_
  refine c_seq ?_
  refine r_start ?_
  refine xx rfl (x_new (eSign zSign) fun g1_0 => ?_)
  refine rend ?_
  refine c_seq ?_
  refine r_start ?_
  refine p 1 ?_
  refine xq rfl (y_load (.agg (eHand a0.Main).toArray) 0 g0_0 0) ?_
  obtain ⟨v2_2, hv2_2, h⟩ := H.call h
  refine xq rfl (y_call [.agg (eHand a0.Main).toArray] (.agg (eHand v2_2).toArray) func103 (fun W S => C.l_toHand W hv2_2)) ?_
  refine p 1 ?_
  refine xx rfl (x_sto 2 g1_0 0 (eSign ({ zSign with Main := v2_2 })) ?_)
  refine rend ?_
  refine c_seq ?_
  refine r_start ?_
  refine p 1 ?_
  refine xq rfl (y_load (.bool a0.Two) 0 g0_0 13) ?_
  refine p 1 ?_
  refine xx rfl (x_sto 2 g1_0 13 (eSign (⟨v2_2, a0.Two, zSign.Other⟩ : Sign)) ?_)
  refine rend ?_
  refine c_seq ?_
  refine r_start ?_
  refine p 1 ?_
  refine xq rfl (y_load (.agg (eHand a0.Other).toArray) 0 g0_0 14) ?_
  obtain ⟨v4_2, hv4_2, h⟩ := H.call h
  refine xq rfl (y_call [.agg (eHand a0.Other).toArray] (.agg (eHand v4_2).toArray) func103 (fun W S => C.l_toHand W hv4_2)) ?_
  refine p 1 ?_
  refine xx rfl (x_sto 2 g1_0 14 (eSign (⟨v2_2, a0.Two, v4_2⟩ : Sign)) ?_)
  refine rend ?_
  refine c_seq ?_
  refine r_start ?_
  refine xq rfl (y_load (.agg (eSign (⟨v2_2, a0.Two, v4_2⟩ : Sign)).toArray) 2 g1_0 0) ?_
  refine xx rfl (x_sto 1 g0_1 0 (eSign (⟨v2_2, a0.Two, v4_2⟩ : Sign)) ?_)
  refine rend ?_
  replace h := H.done h
  subst h
  exact ret func65 rfl (vs := [.agg (eSign (⟨v2_2, a0.Two, v4_2⟩ : Sign)).toArray]) (.cell 1 g0_1 rfl (by kernel_rfl) (by kernel_rfl) .nil) rfl (fun W S => ⟨rfl, S.below⟩)
theorem C.l_toSignS {fu : Nat} {a0 : (List Sign)} {A0 : Option Addr} {k0 : Nat} {r : (List Sign)} (w : World) (h : X.l_toSignS fu a0 = some r) (h0 : RdT nSign w (.slice A0 (List.length a0) k0) a0) : Calls prog 24 #[.slice A0 (List.length a0) k0] w (RetR nSign 46 w r (fun v => v)) := by
  refine calls (M := no) (args := [.slice A0 (List.length a0) k0]) func24 rfl ?_
  replace h : H (X.l_toSignS fu a0) (fun o => o = r) := H.mk h
  unfold X.l_toSignS at h
  refine c_seq ?_
  refine r_start ?_
  refine p 1 ?_
  refine rend ?_
  refine c_seq ?_
  refine r_start ?_
  refine p 2 ?_
  obtain ⟨y1_2, hy1_2, h⟩ := H.call h
  refine xx rfl (e_make (el := 46) hy1_2 fun A1_2 k1_2 => ?_)
  refine p 1 ?_
  refine rend ?_
  refine c_seq ?_
  refine c_seq ?_
  refine r_start ?_
  refine p 1 ?_
  refine rend ?_
  refine c_block ?_
  refine joinH (X := ((List Sign) × Option Addr × Nat)) 0 (H.bnd h) (fun ⟨l5, A6, k7⟩ => l5) (fun ⟨l5, A6, k7⟩ => [rowT nSign w.heap.size 46 (.slice A6 (List.length l5) k7) l5]) (fun ⟨l5, A6, k7⟩ u => (jk u 0 3 (.slice A6 (List.length l5) k7 :: (jk u 4 19 [])))) (fun h hj8 => ?_) ?_
  · skip
    refine loopR (X := (Int × (List Sign) × Option Addr × Nat)) (fun ⟨n1, l2, A3, k4⟩ => (n1, l2)) (fun ⟨n1, l2, A3, k4⟩ => [rowT nSign w.heap.size 46 (.slice A3 (List.length l2) k4) l2]) (fun ⟨n1, l2, A3, k4⟩ u => (.slice A0 (List.length a0) k0 :: (jk u 1 2 (.slice A3 (List.length l2) k4 :: .int .i64 n1 :: (jk u 5 18 []))))) (0, y1_2, A1_2, k1_2) h (by kernel_rfl) (by kernel_rfl) ?_
    intro x u h
    obtain ⟨n1, l2, A3, k4⟩ := x
    refine c_seq ?_
    refine c_seq ?_
    refine r_start ?_
    refine p 4 ?_
    refine rend ?_
    refine c_or (decide (n1 < (List.length a0 : Int))) (fun q9 => ?_) (fun q9 => ?_)
    · replace h := H.t q9 h
      refine c_skip ?_
      refine c_seq ?_
      refine c_block ?_
      refine r_start ?_
      refine p 4 ?_
      obtain ⟨y5_4, hy5_4, h⟩ := H.call h
      refine xq rfl (y_idx (e := nSign) (el := 104) hy5_4 (s_arg h0)) ?_
      refine xq rfl (y_el (e := nSign) 0 (.agg (eSign y5_4).toArray) hy5_4 (s_arg h0)) ?_
      obtain ⟨v5_6, hv5_6, h⟩ := H.call h
      refine xq rfl (y_call [.agg (eSign y5_4).toArray] (.agg (eSign v5_6).toArray) func65 (fun W S => C.l_toSign W hv5_6)) ?_
      obtain ⟨y5_7, hy5_7, h⟩ := H.call h
      refine xq rfl (y_idx (e := nSign) (el := 46) hy5_7 (s_own 0)) ?_
      refine xx rfl (e_stel (e := nSign) (b := v5_6) 0 0 (eSign v5_6) hy5_7 (by kernel_rfl) ?_)
      refine o_set 3 (sl_set (A := A3) (c := k4) (l := l2) (n := Int.toNat n1) (b := v5_6)) ?_
      refine rend ?_
      refine c_inb ?_
      refine r_start ?_
      refine p 3 ?_
      refine rend ?_
      replace h := H.inl h
      exact h ((wr (n1 + 1)), (List.set l2 (Int.toNat n1) v5_6), A3, k4) _ _ rfl (by kernel_rfl) (by kernel_rfl)
    replace h := H.f q9 h
    refine cx ?_
    replace h := H.inr h
    exact hj8 (l2, A3, k4) _ _ h (by kernel_rfl) (by kernel_rfl)
  intro x u h
  obtain ⟨l5, A6, k7⟩ := x
  refine c_seq ?_
  refine r_start ?_
  refine p 2 ?_
  refine rend ?_
  replace h := H.done h
  subst h
  exact ret func24 rfl (vs := [.slice A6 (List.length l5) k7]) (.tmp (by kernel_rfl) .nil) rfl (fun W S => ⟨_, _, rfl, S.row 0, S.below⟩)
theorem C.l_eqIntS {fu : Nat} {a0 : (List Int)} {A0 : Option Addr} {k0 : Nat} {a1 : (List Int)} {A1 : Option Addr} {k1 : Nat} {r : Bool} (w : World) (h : X.l_eqIntS fu a0 a1 = some r) (h0 : RdT (eI .i64) w (.slice A0 (List.length a0) k0) a0) (h1 : RdT (eI .i64) w (.slice A1 (List.length a1) k1) a1) : Calls prog 25 #[.slice A0 (List.length a0) k0, .slice A1 (List.length a1) k1] w (Ret w (.bool r)) := by
  refine calls (M := no) (args := [.slice A0 (List.length a0) k0, .slice A1 (List.length a1) k1]) func25 rfl ?_
  replace h : H (X.l_eqIntS fu a0 a1) (fun o => o = r) := H.mk h
  unfold X.l_eqIntS at h
  refine c_seq ?_
  refine r_start ?_
  refine p 1 ?_
  refine rend ?_
  refine c_seq ?_
  refine c_seq ?_
  refine r_start ?_
  refine p 5 ?_
  refine rend ?_
  refine c_or ((List.length a0 : Int) != (List.length a1 : Int)) (fun q1 => ?_) (fun q1 => ?_)
  · replace h := H.t q1 h
    refine c_seq ?_
    refine r_start ?_
    refine p 1 ?_
    refine rend ?_
    replace h := H.done h
    subst h
    exact ret func25 rfl (vs := [.bool false]) (.tmp (by kernel_rfl) .nil) rfl (fun W S => ⟨rfl, S.below⟩)
  replace h := H.f q1 h
  refine c_skip ?_
  refine c_seq ?_
  refine c_seq ?_
  refine r_start ?_
  refine p 1 ?_
  refine rend ?_
  refine c_block ?_
  refine joinE (X := Unit) 0 (H.or h) (fun (x : Unit) => x) (fun _ => []) (fun _ u => (jk u 0 26 [])) (fun h hj3 => ?_) ?_
  · skip
    refine loopR (X := Int) (fun (x : Int) => x) (fun n2 => []) (fun n2 u => (.slice A0 (List.length a0) k0 :: .slice A1 (List.length a1) k1 :: (jk u 2 3 (.int .i64 n2 :: (jk u 6 20 []))))) 0 h (by kernel_rfl) (by kernel_rfl) ?_
    intro n2 u h
    refine c_seq ?_
    refine c_seq ?_
    refine r_start ?_
    refine p 4 ?_
    refine rend ?_
    refine c_or (decide (n2 < (List.length a0 : Int))) (fun q4 => ?_) (fun q4 => ?_)
    · replace h := H.t q4 h
      refine c_skip ?_
      refine c_seq ?_
      refine c_block ?_
      refine c_seq ?_
      refine as_start 9 9 ?_
      refine ap 0 2 ?_
      obtain ⟨y6_2, hy6_2, h⟩ := H.call h
      refine aq 2 rfl (y_idx (e := (eI .i64)) (el := 3) hy6_2 (s_arg h0)) ?_
      refine aq 3 rfl (y_el (e := (eI .i64)) 0 (.int .i64 y6_2) hy6_2 (s_arg h0)) ?_
      refine ap 4 2 ?_
      obtain ⟨y6_6, hy6_6, h⟩ := H.call h
      refine aq 6 rfl (y_idx (e := (eI .i64)) (el := 3) hy6_6 (s_arg h1)) ?_
      refine aq 7 rfl (y_el (e := (eI .i64)) 0 (.int .i64 y6_6) hy6_6 (s_arg h1)) ?_
      refine ap 8 1 ?_
      refine a_done ?_
      refine c_or (y6_2 != y6_6) (fun q5 => ?_) (fun q5 => ?_)
      · replace h := H.t q5 h
        refine c_seq ?_
        refine r_start ?_
        refine p 1 ?_
        refine rend ?_
        replace h := H.inr h
        replace h := H.done h
        subst h
        exact ret func25 rfl (vs := [.bool false]) (.tmp (by kernel_rfl) .nil) rfl (fun W S => ⟨rfl, S.below⟩)
      replace h := H.f q5 h
      refine c_skip ?_
      refine c_inb ?_
      refine r_start ?_
      refine p 3 ?_
      refine rend ?_
      replace h := H.inl h
      exact h (wr (n2 + 1)) _ _ rfl (by kernel_rfl) (by kernel_rfl)
    replace h := H.f q4 h
    refine cx ?_
    replace h := H.inr h
    exact hj3 () _ _ h (by kernel_rfl) (by kernel_rfl)
  intro x u h
  refine c_seq ?_
  refine r_start ?_
  refine p 1 ?_
  refine rend ?_
  replace h := H.done h
  subst h
  exact ret func25 rfl (vs := [.bool true]) (.tmp (by kernel_rfl) .nil) rfl (fun W S => ⟨rfl, S.below⟩)
theorem C.l_eqShape {a0 : Shape} {a1 : Shape} {r : Bool} (w : World) (h : X.l_eqShape a0 a1 = some r) : Calls prog 164 #[.agg (eShape a0).toArray, .agg (eShape a1).toArray] w (Ret w (.bool r)) := by
  refine calls (M := no) (args := [.agg (eShape a0).toArray, .agg (eShape a1).toArray]) func164 rfl ?_
  replace h : H (X.l_eqShape a0 a1) (fun o => o = r) := H.mk h
  unfold X.l_eqShape at h
  refine c_seq ?_
  refine r_start ?_
  refine xx rfl (x_box (eShape a0) fun g0_0 => ?_)
  refine xx rfl (x_box (eShape a1) fun g0_1 => ?_)
  refine p 1 ?_
  refine rend ?_
  refine c_seq ?_
  refine c_seq ?_
  refine r_start ?_
  refine p 1 ?_
  refine xq rfl (y_load (.int .i64 a0.Thumb) 0 g0_0 0) ?_
  refine p 1 ?_
  refine xq rfl (y_load (.int .i64 a1.Thumb) 1 g0_1 0) ?_
  refine p 1 ?_
  refine rend ?_
  refine c_or (a0.Thumb != a1.Thumb) (fun q1 => ?_) (fun q1 => ?_)
  · replace h := H.t q1 h
    refine c_seq ?_
    refine r_start ?_
    refine p 1 ?_
    refine rend ?_
    replace h := H.done h
    subst h
    exact ret func164 rfl (vs := [.bool false]) (.tmp (by kernel_rfl) .nil) rfl (fun W S => ⟨rfl, S.below⟩)
  replace h := H.f q1 h
  refine c_skip ?_
  refine c_seq ?_
  refine c_seq ?_
  refine r_start ?_
  refine p 1 ?_
  refine xq rfl (y_load (.int .i64 a0.Index) 0 g0_0 1) ?_
  refine p 1 ?_
  refine xq rfl (y_load (.int .i64 a1.Index) 1 g0_1 1) ?_
  refine p 1 ?_
  refine rend ?_
  refine c_or (a0.Index != a1.Index) (fun q2 => ?_) (fun q2 => ?_)
  · replace h := H.t q2 h
    refine c_seq ?_
    refine r_start ?_
    refine p 1 ?_
    refine rend ?_
    replace h := H.done h
    subst h
    exact ret func164 rfl (vs := [.bool false]) (.tmp (by kernel_rfl) .nil) rfl (fun W S => ⟨rfl, S.below⟩)
  replace h := H.f q2 h
  refine c_skip ?_
  refine c_seq ?_
  refine c_seq ?_
  refine r_start ?_
  refine p 1 ?_
  refine xq rfl (y_load (.int .i64 a0.Middle) 0 g0_0 2) ?_
  refine p 1 ?_
  refine xq rfl (y_load (.int .i64 a1.Middle) 1 g0_1 2) ?_
  refine p 1 ?_
  refine rend ?_
  refine c_or (a0.Middle != a1.Middle) (fun q3 => ?_) (fun q3 => ?_)
  · replace h := H.t q3 h
    refine c_seq ?_
    refine r_start ?_
    refine p 1 ?_
    refine rend ?_
    replace h := H.done h
    subst h
    exact ret func164 rfl (vs := [.bool false]) (.tmp (by kernel_rfl) .nil) rfl (fun W S => ⟨rfl, S.below⟩)
  replace h := H.f q3 h
  refine c_skip ?_
  refine c_seq ?_
  refine c_seq ?_
  refine r_start ?_
  refine p 1 ?_
  refine xq rfl (y_load (.int .i64 a0.Ring) 0 g0_0 3) ?_
  refine p 1 ?_
  refine xq rfl (y_load (.int .i64 a1.Ring) 1 g0_1 3) ?_
  refine p 1 ?_
  refine rend ?_
  refine c_or (a0.Ring != a1.Ring) (fun q4 => ?_) (fun q4 => ?_)
  · replace h := H.t q4 h
    refine c_seq ?_
    refine r_start ?_
    refine p 1 ?_
    refine rend ?_
    replace h := H.done h
    subst h
    exact ret func164 rfl (vs := [.bool false]) (.tmp (by kernel_rfl) .nil) rfl (fun W S => ⟨rfl, S.below⟩)
  replace h := H.f q4 h
  refine c_skip ?_
  refine c_seq ?_
  refine c_seq ?_
  refine r_start ?_
  refine p 1 ?_
  refine xq rfl (y_load (.int .i64 a0.Little) 0 g0_0 4) ?_
  refine p 1 ?_
  refine xq rfl (y_load (.int .i64 a1.Little) 1 g0_1 4) ?_
  refine p 1 ?_
  refine rend ?_
  refine c_or (a0.Little != a1.Little) (fun q5 => ?_) (fun q5 => ?_)
  · replace h := H.t q5 h
    refine c_seq ?_
    refine r_start ?_
    refine p 1 ?_
    refine rend ?_
    replace h := H.done h
    subst h
    exact ret func164 rfl (vs := [.bool false]) (.tmp (by kernel_rfl) .nil) rfl (fun W S => ⟨rfl, S.below⟩)
  replace h := H.f q5 h
  refine c_skip ?_
  refine c_seq ?_
  refine c_seq ?_
  refine r_start ?_
  refine p 1 ?_
  refine xq rfl (y_load (.bool a0.Spread) 0 g0_0 5) ?_
  refine p 1 ?_
  refine xq rfl (y_load (.bool a1.Spread) 1 g0_1 5) ?_
  refine p 1 ?_
  refine rend ?_
  refine c_or (!(a0.Spread == a1.Spread)) (fun q6 => ?_) (fun q6 => ?_)
  · replace h := H.t q6 h
    refine c_seq ?_
    refine r_start ?_
    refine p 1 ?_
    refine rend ?_
    replace h := H.done h
    subst h
    exact ret func164 rfl (vs := [.bool false]) (.tmp (by kernel_rfl) .nil) rfl (fun W S => ⟨rfl, S.below⟩)
  replace h := H.f q6 h
  refine c_skip ?_
  refine c_seq ?_
  refine r_start ?_
  refine p 1 ?_
  refine rend ?_
  replace h := H.done h
  subst h
  exact ret func164 rfl (vs := [.bool true]) (.tmp (by kernel_rfl) .nil) rfl (fun W S => ⟨rfl, S.below⟩)
theorem C.l_eqOrient {a0 : Orient} {a1 : Orient} {r : Bool} (w : World) (h : X.l_eqOrient a0 a1 = some r) : Calls prog 165 #[.agg (eOrient a0).toArray, .agg (eOrient a1).toArray] w (Ret w (.bool r)) := by
  refine calls (M := no) (args := [.agg (eOrient a0).toArray, .agg (eOrient a1).toArray]) func165 rfl ?_
  replace h : H (X.l_eqOrient a0 a1) (fun o => o = r) := H.mk h
  unfold X.l_eqOrient at h
  refine c_seq ?_
  refine r_start ?_
  refine xx rfl (x_box (eOrient a0) fun g0_0 => ?_)
  refine xx rfl (x_box (eOrient a1) fun g0_1 => ?_)
  refine p 1 ?_
  refine rend ?_
  refine c_seq ?_
  refine c_seq ?_
  refine r_start ?_
  refine p 1 ?_
  refine xq rfl (y_load (.int .i64 a0.Palm) 0 g0_0 0) ?_
  refine p 1 ?_
  refine xq rfl (y_load (.int .i64 a1.Palm) 1 g0_1 0) ?_
  refine p 1 ?_
  refine rend ?_
  refine c_or (a0.Palm != a1.Palm) (fun q1 => ?_) (fun q1 => ?_)
  · replace h := H.t q1 h
    refine c_seq ?_
    refine r_start ?_
    refine p 1 ?_
    refine rend ?_
    replace h := H.done h
    subst h
    exact ret func165 rfl (vs := [.bool false]) (.tmp (by kernel_rfl) .nil) rfl (fun W S => ⟨rfl, S.below⟩)
  replace h := H.f q1 h
  refine c_skip ?_
  refine c_seq ?_
  refine c_seq ?_
  refine r_start ?_
  refine p 1 ?_
  refine xq rfl (y_load (.int .i64 a0.Fingers) 0 g0_0 1) ?_
  refine p 1 ?_
  refine xq rfl (y_load (.int .i64 a1.Fingers) 1 g0_1 1) ?_
  refine p 1 ?_
  refine rend ?_
  refine c_or (a0.Fingers != a1.Fingers) (fun q2 => ?_) (fun q2 => ?_)
  · replace h := H.t q2 h
    refine c_seq ?_
    refine r_start ?_
    refine p 1 ?_
    refine rend ?_
    replace h := H.done h
    subst h
    exact ret func165 rfl (vs := [.bool false]) (.tmp (by kernel_rfl) .nil) rfl (fun W S => ⟨rfl, S.below⟩)
  replace h := H.f q2 h
  refine c_skip ?_
  refine c_seq ?_
  refine r_start ?_
  refine p 1 ?_
  refine rend ?_
  replace h := H.done h
  subst h
  exact ret func165 rfl (vs := [.bool true]) (.tmp (by kernel_rfl) .nil) rfl (fun W S => ⟨rfl, S.below⟩)
theorem C.l_eqPlace {a0 : Place} {a1 : Place} {r : Bool} (w : World) (h : X.l_eqPlace a0 a1 = some r) : Calls prog 166 #[.agg (ePlace a0).toArray, .agg (ePlace a1).toArray] w (Ret w (.bool r)) := by
  refine calls (M := no) (args := [.agg (ePlace a0).toArray, .agg (ePlace a1).toArray]) func166 rfl ?_
  replace h : H (X.l_eqPlace a0 a1) (fun o => o = r) := H.mk h
  unfold X.l_eqPlace at h
  refine c_seq ?_
  refine r_start ?_
  refine xx rfl (x_box (ePlace a0) fun g0_0 => ?_)
  refine xx rfl (x_box (ePlace a1) fun g0_1 => ?_)
  refine p 1 ?_
  refine rend ?_
  refine c_seq ?_
  refine c_seq ?_
  refine r_start ?_
  refine p 1 ?_
  refine xq rfl (y_load (.int .i64 a0.Region) 0 g0_0 0) ?_
  refine p 1 ?_
  refine xq rfl (y_load (.int .i64 a1.Region) 1 g0_1 0) ?_
  refine p 1 ?_
  refine rend ?_
  refine c_or (a0.Region != a1.Region) (fun q1 => ?_) (fun q1 => ?_)
  · replace h := H.t q1 h
    refine c_seq ?_
    refine r_start ?_
    refine p 1 ?_
    refine rend ?_
    replace h := H.done h
    subst h
    exact ret func166 rfl (vs := [.bool false]) (.tmp (by kernel_rfl) .nil) rfl (fun W S => ⟨rfl, S.below⟩)
  replace h := H.f q1 h
  refine c_skip ?_
  refine c_seq ?_
  refine c_seq ?_
  refine r_start ?_
  refine p 1 ?_
  refine xq rfl (y_load (.int .i64 a0.Side) 0 g0_0 1) ?_
  refine p 1 ?_
  refine xq rfl (y_load (.int .i64 a1.Side) 1 g0_1 1) ?_
  refine p 1 ?_
  refine rend ?_
  refine c_or (a0.Side != a1.Side) (fun q2 => ?_) (fun q2 => ?_)
  · replace h := H.t q2 h
    refine c_seq ?_
    refine r_start ?_
    refine p 1 ?_
    refine rend ?_
    replace h := H.done h
    subst h
    exact ret func166 rfl (vs := [.bool false]) (.tmp (by kernel_rfl) .nil) rfl (fun W S => ⟨rfl, S.below⟩)
  replace h := H.f q2 h
  refine c_skip ?_
  refine c_seq ?_
  refine c_seq ?_
  refine r_start ?_
  refine p 1 ?_
  refine xq rfl (y_load (.bool a0.Contact) 0 g0_0 2) ?_
  refine p 1 ?_
  refine xq rfl (y_load (.bool a1.Contact) 1 g0_1 2) ?_
  refine p 1 ?_
  refine rend ?_
  refine c_or (!(a0.Contact == a1.Contact)) (fun q3 => ?_) (fun q3 => ?_)
  · replace h := H.t q3 h
    refine c_seq ?_
    refine r_start ?_
    refine p 1 ?_
    refine rend ?_
    replace h := H.done h
    subst h
    exact ret func166 rfl (vs := [.bool false]) (.tmp (by kernel_rfl) .nil) rfl (fun W S => ⟨rfl, S.below⟩)
  replace h := H.f q3 h
  refine c_skip ?_
  refine c_seq ?_
  refine r_start ?_
  refine p 1 ?_
  refine rend ?_
  replace h := H.done h
  subst h
  exact ret func166 rfl (vs := [.bool true]) (.tmp (by kernel_rfl) .nil) rfl (fun W S => ⟨rfl, S.below⟩)
theorem C.l_eqMove {a0 : Move} {a1 : Move} {r : Bool} (w : World) (h : X.l_eqMove a0 a1 = some r) : Calls prog 167 #[.agg (eMove a0).toArray, .agg (eMove a1).toArray] w (Ret w (.bool r)) := by
  refine calls (M := no) (args := [.agg (eMove a0).toArray, .agg (eMove a1).toArray]) func167 rfl ?_
  replace h : H (X.l_eqMove a0 a1) (fun o => o = r) := H.mk h
  unfold X.l_eqMove at h
  refine c_seq ?_
  refine r_start ?_
  refine xx rfl (x_box (eMove a0) fun g0_0 => ?_)
  refine xx rfl (x_box (eMove a1) fun g0_1 => ?_)
  refine p 1 ?_
  refine rend ?_
  refine c_seq ?_
  refine c_seq ?_
  refine r_start ?_
  refine p 1 ?_
  refine xq rfl (y_load (.string (bs a0.Steps)) 0 g0_0 0) ?_
  refine p 1 ?_
  refine xq rfl (y_load (.string (bs a1.Steps)) 1 g0_1 0) ?_
  refine p 1 ?_
  refine rend ?_
  refine c_or (!seq a0.Steps a1.Steps) (fun q1 => ?_) (fun q1 => ?_)
  · replace h := H.t q1 h
    refine c_seq ?_
    refine r_start ?_
    refine p 1 ?_
    refine rend ?_
    replace h := H.done h
    subst h
    exact ret func167 rfl (vs := [.bool false]) (.tmp (by kernel_rfl) .nil) rfl (fun W S => ⟨rfl, S.below⟩)
  replace h := H.f q1 h
  refine c_skip ?_
  refine c_seq ?_
  refine c_seq ?_
  refine r_start ?_
  refine p 1 ?_
  refine xq rfl (y_load (.int .i64 a0.Repeat) 0 g0_0 1) ?_
  refine p 1 ?_
  refine xq rfl (y_load (.int .i64 a1.Repeat) 1 g0_1 1) ?_
  refine p 1 ?_
  refine rend ?_
  refine c_or (a0.Repeat != a1.Repeat) (fun q2 => ?_) (fun q2 => ?_)
  · replace h := H.t q2 h
    refine c_seq ?_
    refine r_start ?_
    refine p 1 ?_
    refine rend ?_
    replace h := H.done h
    subst h
    exact ret func167 rfl (vs := [.bool false]) (.tmp (by kernel_rfl) .nil) rfl (fun W S => ⟨rfl, S.below⟩)
  replace h := H.f q2 h
  refine c_skip ?_
  refine c_seq ?_
  refine r_start ?_
  refine p 1 ?_
  refine rend ?_
  replace h := H.done h
  subst h
  exact ret func167 rfl (vs := [.bool true]) (.tmp (by kernel_rfl) .nil) rfl (fun W S => ⟨rfl, S.below⟩)
theorem C.l_eqHand {a0 : Hand} {a1 : Hand} {r : Bool} (w : World) (h : X.l_eqHand a0 a1 = some r) : Calls prog 104 #[.agg (eHand a0).toArray, .agg (eHand a1).toArray] w (Ret w (.bool r)) := by
  refine calls (M := no) (args := [.agg (eHand a0).toArray, .agg (eHand a1).toArray]) func104 rfl ?_
  replace h : H (X.l_eqHand a0 a1) (fun o => o = r) := H.mk h
  unfold X.l_eqHand at h
  refine c_seq ?_
  refine r_start ?_
  refine xx rfl (x_box (eHand a0) fun g0_0 => ?_)
  refine xx rfl (x_box (eHand a1) fun g0_1 => ?_)
  refine p 1 ?_
  refine rend ?_
  refine c_seq ?_
  refine c_seq ?_
  refine r_start ?_
  refine p 1 ?_
  refine xq rfl (y_load (.agg (eShape a0.Shape).toArray) 0 g0_0 0) ?_
  refine p 1 ?_
  refine xq rfl (y_load (.agg (eShape a1.Shape).toArray) 1 g0_1 0) ?_
  obtain ⟨v1_4, hv1_4, h⟩ := H.call h
  refine xq rfl (y_call [.agg (eShape a0.Shape).toArray, .agg (eShape a1.Shape).toArray] (.bool v1_4) func164 (fun W S => C.l_eqShape W hv1_4)) ?_
  refine p 1 ?_
  refine rend ?_
  refine c_or (!v1_4) (fun q1 => ?_) (fun q1 => ?_)
  · replace h := H.t q1 h
    refine c_seq ?_
    refine r_start ?_
    refine p 1 ?_
    refine rend ?_
    replace h := H.done h
    subst h
    exact ret func104 rfl (vs := [.bool false]) (.tmp (by kernel_rfl) .nil) rfl (fun W S => ⟨rfl, S.below⟩)
  replace h := H.f q1 h
  refine c_skip ?_
  refine c_seq ?_
  refine c_seq ?_
  refine r_start ?_
  refine p 1 ?_
  refine xq rfl (y_load (.agg (eOrient a0.Orient).toArray) 0 g0_0 6) ?_
  refine p 1 ?_
  refine xq rfl (y_load (.agg (eOrient a1.Orient).toArray) 1 g0_1 6) ?_
  obtain ⟨v3_4, hv3_4, h⟩ := H.call h
  refine xq rfl (y_call [.agg (eOrient a0.Orient).toArray, .agg (eOrient a1.Orient).toArray] (.bool v3_4) func165 (fun W S => C.l_eqOrient W hv3_4)) ?_
  refine p 1 ?_
  refine rend ?_
  refine c_or (!v3_4) (fun q2 => ?_) (fun q2 => ?_)
  · replace h := H.t q2 h
    refine c_seq ?_
    refine r_start ?_
    refine p 1 ?_
    refine rend ?_
    replace h := H.done h
    subst h
    exact ret func104 rfl (vs := [.bool false]) (.tmp (by kernel_rfl) .nil) rfl (fun W S => ⟨rfl, S.below⟩)
  replace h := H.f q2 h
  refine c_skip ?_
  refine c_seq ?_
  refine c_seq ?_
  refine r_start ?_
  refine p 1 ?_
  refine xq rfl (y_load (.agg (ePlace a0.Place).toArray) 0 g0_0 8) ?_
  refine p 1 ?_
  refine xq rfl (y_load (.agg (ePlace a1.Place).toArray) 1 g0_1 8) ?_
  obtain ⟨v5_4, hv5_4, h⟩ := H.call h
  refine xq rfl (y_call [.agg (ePlace a0.Place).toArray, .agg (ePlace a1.Place).toArray] (.bool v5_4) func166 (fun W S => C.l_eqPlace W hv5_4)) ?_
  refine p 1 ?_
  refine rend ?_
  refine c_or (!v5_4) (fun q3 => ?_) (fun q3 => ?_)
  · replace h := H.t q3 h
    refine c_seq ?_
    refine r_start ?_
    refine p 1 ?_
    refine rend ?_
    replace h := H.done h
    subst h
    exact ret func104 rfl (vs := [.bool false]) (.tmp (by kernel_rfl) .nil) rfl (fun W S => ⟨rfl, S.below⟩)
  replace h := H.f q3 h
  refine c_skip ?_
  refine c_seq ?_
  refine c_seq ?_
  refine r_start ?_
  refine p 1 ?_
  refine xq rfl (y_load (.agg (eMove a0.Move).toArray) 0 g0_0 11) ?_
  refine p 1 ?_
  refine xq rfl (y_load (.agg (eMove a1.Move).toArray) 1 g0_1 11) ?_
  obtain ⟨v7_4, hv7_4, h⟩ := H.call h
  refine xq rfl (y_call [.agg (eMove a0.Move).toArray, .agg (eMove a1.Move).toArray] (.bool v7_4) func167 (fun W S => C.l_eqMove W hv7_4)) ?_
  refine p 1 ?_
  refine rend ?_
  refine c_or (!v7_4) (fun q4 => ?_) (fun q4 => ?_)
  · replace h := H.t q4 h
    refine c_seq ?_
    refine r_start ?_
    refine p 1 ?_
    refine rend ?_
    replace h := H.done h
    subst h
    exact ret func104 rfl (vs := [.bool false]) (.tmp (by kernel_rfl) .nil) rfl (fun W S => ⟨rfl, S.below⟩)
  replace h := H.f q4 h
  refine c_skip ?_
  refine c_seq ?_
  refine r_start ?_
  refine p 1 ?_
  refine rend ?_
  replace h := H.done h
  subst h
  exact ret func104 rfl (vs := [.bool true]) (.tmp (by kernel_rfl) .nil) rfl (fun W S => ⟨rfl, S.below⟩)
theorem C.l_eqSign {a0 : Sign} {a1 : Sign} {r : Bool} (w : World) (h : X.l_eqSign a0 a1 = some r) : Calls prog 66 #[.agg (eSign a0).toArray, .agg (eSign a1).toArray] w (Ret w (.bool r)) := by
  refine calls (M := no) (args := [.agg (eSign a0).toArray, .agg (eSign a1).toArray]) func66 rfl ?_
  replace h : H (X.l_eqSign a0 a1) (fun o => o = r) := H.mk h
  unfold X.l_eqSign at h
  refine c_seq ?_
  refine r_start ?_
  refine xx rfl (x_box (eSign a0) fun g0_0 => ?_)
  refine xx rfl (x_box (eSign a1) fun g0_1 => ?_)
  refine p 1 ?_
  refine rend ?_
  refine c_seq ?_
  refine c_seq ?_
  refine r_start ?_
  refine p 1 ?_
  refine xq rfl (y_load (.agg (eHand a0.Main).toArray) 0 g0_0 0) ?_
  refine p 1 ?_
  refine xq rfl (y_load (.agg (eHand a1.Main).toArray) 1 g0_1 0) ?_
  obtain ⟨v1_4, hv1_4, h⟩ := H.call h
  refine xq rfl (y_call [.agg (eHand a0.Main).toArray, .agg (eHand a1.Main).toArray] (.bool v1_4) func104 (fun W S => C.l_eqHand W hv1_4)) ?_
  refine p 1 ?_
  refine rend ?_
  refine c_or (!v1_4) (fun q1 => ?_) (fun q1 => ?_)
  · replace h := H.t q1 h
    refine c_seq ?_
    refine r_start ?_
    refine p 1 ?_
    refine rend ?_
    replace h := H.done h
    subst h
    exact ret func66 rfl (vs := [.bool false]) (.tmp (by kernel_rfl) .nil) rfl (fun W S => ⟨rfl, S.below⟩)
  replace h := H.f q1 h
  refine c_skip ?_
  refine c_seq ?_
  refine c_seq ?_
  refine r_start ?_
  refine p 1 ?_
  refine xq rfl (y_load (.bool a0.Two) 0 g0_0 13) ?_
  refine p 1 ?_
  refine xq rfl (y_load (.bool a1.Two) 1 g0_1 13) ?_
  refine p 1 ?_
  refine rend ?_
  refine c_or (!(a0.Two == a1.Two)) (fun q2 => ?_) (fun q2 => ?_)
  · replace h := H.t q2 h
    refine c_seq ?_
    refine r_start ?_
    refine p 1 ?_
    refine rend ?_
    replace h := H.done h
    subst h
    exact ret func66 rfl (vs := [.bool false]) (.tmp (by kernel_rfl) .nil) rfl (fun W S => ⟨rfl, S.below⟩)
  replace h := H.f q2 h
  refine c_skip ?_
  refine c_seq ?_
  refine c_seq ?_
  refine r_start ?_
  refine p 1 ?_
  refine xq rfl (y_load (.agg (eHand a0.Other).toArray) 0 g0_0 14) ?_
  refine p 1 ?_
  refine xq rfl (y_load (.agg (eHand a1.Other).toArray) 1 g0_1 14) ?_
  obtain ⟨v5_4, hv5_4, h⟩ := H.call h
  refine xq rfl (y_call [.agg (eHand a0.Other).toArray, .agg (eHand a1.Other).toArray] (.bool v5_4) func104 (fun W S => C.l_eqHand W hv5_4)) ?_
  refine p 1 ?_
  refine rend ?_
  refine c_or (!v5_4) (fun q3 => ?_) (fun q3 => ?_)
  · replace h := H.t q3 h
    refine c_seq ?_
    refine r_start ?_
    refine p 1 ?_
    refine rend ?_
    replace h := H.done h
    subst h
    exact ret func66 rfl (vs := [.bool false]) (.tmp (by kernel_rfl) .nil) rfl (fun W S => ⟨rfl, S.below⟩)
  replace h := H.f q3 h
  refine c_skip ?_
  refine c_seq ?_
  refine r_start ?_
  refine p 1 ?_
  refine rend ?_
  replace h := H.done h
  subst h
  exact ret func66 rfl (vs := [.bool true]) (.tmp (by kernel_rfl) .nil) rfl (fun W S => ⟨rfl, S.below⟩)
theorem C.l_eqSignS {fu : Nat} {a0 : (List Sign)} {A0 : Option Addr} {k0 : Nat} {a1 : (List Sign)} {A1 : Option Addr} {k1 : Nat} {r : Bool} (w : World) (h : X.l_eqSignS fu a0 a1 = some r) (h0 : RdT nSign w (.slice A0 (List.length a0) k0) a0) (h1 : RdT nSign w (.slice A1 (List.length a1) k1) a1) : Calls prog 26 #[.slice A0 (List.length a0) k0, .slice A1 (List.length a1) k1] w (Ret w (.bool r)) := by
  refine calls (M := no) (args := [.slice A0 (List.length a0) k0, .slice A1 (List.length a1) k1]) func26 rfl ?_
  replace h : H (X.l_eqSignS fu a0 a1) (fun o => o = r) := H.mk h
  unfold X.l_eqSignS at h
  refine c_seq ?_
  refine r_start ?_
  refine p 1 ?_
  refine rend ?_
  refine c_seq ?_
  refine c_seq ?_
  refine r_start ?_
  refine p 5 ?_
  refine rend ?_
  refine c_or ((List.length a0 : Int) != (List.length a1 : Int)) (fun q1 => ?_) (fun q1 => ?_)
  · replace h := H.t q1 h
    refine c_seq ?_
    refine r_start ?_
    refine p 1 ?_
    refine rend ?_
    replace h := H.done h
    subst h
    exact ret func26 rfl (vs := [.bool false]) (.tmp (by kernel_rfl) .nil) rfl (fun W S => ⟨rfl, S.below⟩)
  replace h := H.f q1 h
  refine c_skip ?_
  refine c_seq ?_
  refine c_seq ?_
  refine r_start ?_
  refine p 1 ?_
  refine rend ?_
  refine c_block ?_
  refine joinE (X := Unit) 0 (H.or h) (fun (x : Unit) => x) (fun _ => []) (fun _ u => (jk u 0 27 [])) (fun h hj3 => ?_) ?_
  · skip
    refine loopR (X := Int) (fun (x : Int) => x) (fun n2 => []) (fun n2 u => (.slice A0 (List.length a0) k0 :: .slice A1 (List.length a1) k1 :: (jk u 2 3 (.int .i64 n2 :: (jk u 6 21 []))))) 0 h (by kernel_rfl) (by kernel_rfl) ?_
    intro n2 u h
    refine c_seq ?_
    refine c_seq ?_
    refine r_start ?_
    refine p 4 ?_
    refine rend ?_
    refine c_or (decide (n2 < (List.length a0 : Int))) (fun q4 => ?_) (fun q4 => ?_)
    · replace h := H.t q4 h
      refine c_skip ?_
      refine c_seq ?_
      refine c_block ?_
      refine c_seq ?_
      refine as_start 10 10 ?_
      refine ap 0 2 ?_
      obtain ⟨y6_2, hy6_2, h⟩ := H.call h
      refine aq 2 rfl (y_idx (e := nSign) (el := 46) hy6_2 (s_arg h0)) ?_
      refine aq 3 rfl (y_el (e := nSign) 0 (.agg (eSign y6_2).toArray) hy6_2 (s_arg h0)) ?_
      refine ap 4 2 ?_
      obtain ⟨y6_6, hy6_6, h⟩ := H.call h
      refine aq 6 rfl (y_idx (e := nSign) (el := 46) hy6_6 (s_arg h1)) ?_
      refine aq 7 rfl (y_el (e := nSign) 0 (.agg (eSign y6_6).toArray) hy6_6 (s_arg h1)) ?_
      obtain ⟨v6_8, hv6_8, h⟩ := H.call h
      refine aq 8 rfl (y_call [.agg (eSign y6_2).toArray, .agg (eSign y6_6).toArray] (.bool v6_8) func66 (fun W S => C.l_eqSign W hv6_8)) ?_
      refine ap 9 1 ?_
      refine a_done ?_
      refine c_or (!v6_8) (fun q5 => ?_) (fun q5 => ?_)
      · replace h := H.t q5 h
        refine c_seq ?_
        refine r_start ?_
        refine p 1 ?_
        refine rend ?_
        replace h := H.inr h
        replace h := H.done h
        subst h
        exact ret func26 rfl (vs := [.bool false]) (.tmp (by kernel_rfl) .nil) rfl (fun W S => ⟨rfl, S.below⟩)
      replace h := H.f q5 h
      refine c_skip ?_
      refine c_inb ?_
      refine r_start ?_
      refine p 3 ?_
      refine rend ?_
      replace h := H.inl h
      exact h (wr (n2 + 1)) _ _ rfl (by kernel_rfl) (by kernel_rfl)
    replace h := H.f q4 h
    refine cx ?_
    replace h := H.inr h
    exact hj3 () _ _ h (by kernel_rfl) (by kernel_rfl)
  intro x u h
  refine c_seq ?_
  refine r_start ?_
  refine p 1 ?_
  refine rend ?_
  replace h := H.done h
  subst h
  exact ret func26 rfl (vs := [.bool true]) (.tmp (by kernel_rfl) .nil) rfl (fun W S => ⟨rfl, S.below⟩)
theorem C.l_markText {fu : Nat} {a0 : Int} {r : Str} (w : World) (h : X.l_markText fu a0 = some r) : Calls prog 67 #[.int .i64 a0] w (Ret w (.string (bs r))) := by
  refine calls (M := no) (args := [.int .i64 a0]) func67 rfl ?_
  replace h : H (X.l_markText fu a0) (fun o => o = r) := H.mk h
  unfold X.l_markText at h
  refine c_seq ?_
  refine r_start ?_
  refine p 1 ?_
  refine rend ?_
  refine c_seq ?_
  refine c_seq ?_
  refine r_start ?_
  refine p 2 ?_
  refine rend ?_
  refine c_or (decide (a0 ≤ 0)) (fun q1 => ?_) (fun q1 => ?_)
  · replace h := H.t q1 h
    refine c_seq ?_
    refine r_start ?_
    refine p 1 ?_
    refine rend ?_
    replace h := H.done h
    subst h
    exact ret func67 rfl (vs := [.string (bs ([109, 48] : Str))]) (.tmp (by kernel_rfl) .nil) rfl (fun W S => ⟨rfl, S.below⟩)
  replace h := H.f q1 h
  refine c_skip ?_
  refine c_seq ?_
  refine r_start ?_
  refine p 1 ?_
  refine rend ?_
  refine c_seq ?_
  refine c_block ?_
  refine joinH (X := Str) 0 (H.bnd h) (fun (x : Str) => x) (fun t4 => []) (fun t4 u => (jk u 0 3 (.string (bs t4) :: (jk u 4 16 [])))) (fun h hj5 => ?_) ?_
  · skip
    refine loopR (X := (Int × Str)) (fun (x : (Int × Str)) => x) (fun ⟨n2, t3⟩ => []) (fun ⟨n2, t3⟩ u => (.int .i64 n2 :: (jk u 1 2 (.string (bs t3) :: (jk u 4 16 []))))) (a0, ([] : Str)) h (by kernel_rfl) (by kernel_rfl) ?_
    intro x u h
    obtain ⟨n2, t3⟩ := x
    refine c_seq ?_
    refine c_seq ?_
    refine r_start ?_
    refine p 2 ?_
    refine rend ?_
    refine c_or (decide (n2 > 0)) (fun q6 => ?_) (fun q6 => ?_)
    · replace h := H.t q6 h
      refine c_skip ?_
      refine c_block ?_
      refine c_seq ?_
      refine r_start ?_
      refine p 4 ?_
      refine xx rfl (e_lit (e := (eI .u8)) (el := 5) [.int .u8 (wk .u8 (wr (48 + (Int.tmod n2 10))))] ([(wk .u8 (wr (48 + (Int.tmod n2 10))))] : List Int) fun A5_4 k5_4 => ?_)
      refine xq rfl (y_conv (el := 5) (s_own 0)) ?_
      refine p 1 ?_
      obtain ⟨y5_7, hy5_7, h⟩ := H.call h
      refine xq rfl (y_cat hy5_7) ?_
      refine p 1 ?_
      refine rend ?_
      refine r_start ?_
      refine p 3 ?_
      refine rend ?_
      refine c_inb ?_
      replace h := H.inl h
      exact h ((wr (Int.tdiv n2 10)), y5_7) _ _ rfl (by kernel_rfl) (by kernel_rfl)
    replace h := H.f q6 h
    refine cx ?_
    replace h := H.inr h
    exact hj5 t3 _ _ h (by kernel_rfl) (by kernel_rfl)
  intro t4 u h
  refine c_seq ?_
  refine r_start ?_
  refine p 1 ?_
  obtain ⟨y7_1, hy7_1, h⟩ := H.call h
  refine xq rfl (y_cat hy7_1) ?_
  refine p 1 ?_
  refine rend ?_
  replace h := H.done h
  subst h
  exact ret func67 rfl (vs := [.string (bs y7_1)]) (.tmp (by kernel_rfl) .nil) rfl (fun W S => ⟨rfl, S.below⟩)
end Go.Proofs.XC
