/- Contracts: each function, called where its plain function gives an answer, returns just that answer and changes nothing that was there. By AI agents; no person has read it. -/
import Derived.Test.YthmgaaommjienaaGreatDoorC2
set_option linter.unusedVariables false
set_option linter.unusedSimpArgs false
set_option maxRecDepth 100000
set_option maxHeartbeats 40000000
namespace Go.Proofs.XC
open Go Go.RowKit
open Tryz
theorem C.s_cmRoot {fu : Nat} {a0 : Str} {r : Str} (w : World) (h : X.s_cmRoot fu a0 = some r) : Calls prog 202 #[.string (bs a0)] w (Ret w (.string (bs r))) := by
  refine calls (M := no) (args := [.string (bs a0)]) func202 rfl ?_
  replace h : H (X.s_cmRoot fu a0) (fun o => o = r) := H.mk h
  unfold X.s_cmRoot at h
  refine c_seq ?_
  refine r_start ?_
  refine p 1 ?_
  refine rend ?_
  refine c_seq ?_
  refine c_seq ?_
  refine r_start ?_
  refine p 1 ?_
  refine rend ?_
  refine c_block ?_
  refine joinE (X := Unit) 0 (H.or h) (fun (x : Unit) => x) (fun _ => []) (fun _ u => (.string (bs a0) :: (jk u 1 30 []))) (fun h hj2 => ?_) ?_
  · skip
    refine loopR (X := Int) (fun (x : Int) => x) (fun n1 => []) (fun n1 u => (.string (bs a0) :: (jk u 1 2 (.int .i64 n1 :: (jk u 4 27 []))))) 1 h (by kernel_rfl) (by kernel_rfl) ?_
    intro n1 u h
    refine c_seq ?_
    refine c_seq ?_
    refine r_start ?_
    refine p 4 ?_
    refine rend ?_
    refine c_or (decide (n1 < (List.length a0 : Int))) (fun q3 => ?_) (fun q3 => ?_)
    · replace h := H.t q3 h
      refine c_skip ?_
      refine c_seq ?_
      refine c_block ?_
      refine c_seq ?_
      refine as_start 17 17 ?_
      refine ap 0 3 ?_
      obtain ⟨y4_3, hy4_3, h⟩ := H.call h
      refine aq 3 rfl (y_mod hy4_3) ?_
      refine ap 4 2 ?_
      refine br (y4_3 == 0) (fun q4 => ?_) (fun q4 => ?_)
      · replace h := H.t q4 h
        refine a_set 15 (congrArg Value.bool q4) ?_
        refine ap 6 2 ?_
        obtain ⟨y4_8, hy4_8, h⟩ := H.call h
        refine aq 8 rfl (y_cut hy4_8) ?_
        refine ap 9 3 ?_
        obtain ⟨y4_12, hy4_12, h⟩ := H.call h
        refine aq 12 rfl (y_div hy4_12) ?_
        obtain ⟨v4_13, hv4_13, h⟩ := H.call h
        refine aq 13 rfl (y_call [.string (bs y4_8), .int .i64 y4_12] (.string (bs v4_13)) func143 (fun W S => C.s_mvTimes W hv4_13)) ?_
        refine ap 14 3 ?_
        refine a_done ?_
        refine c_or (seq v4_13 a0) (fun q5 => ?_) (fun q5 => ?_)
        · replace h := H.t q5 h
          refine c_seq ?_
          refine r_start ?_
          refine p 2 ?_
          obtain ⟨y5_2, hy5_2, h⟩ := H.call h
          refine xq rfl (y_cut hy5_2) ?_
          refine p 1 ?_
          refine rend ?_
          replace h := H.inr h
          replace h := H.done h
          subst h
          exact ret func202 rfl (vs := [.string (bs y5_2)]) (.tmp (by kernel_rfl) .nil) rfl (fun W S => ⟨rfl, S.below⟩)
        replace h := H.f q5 h
        refine c_skip ?_
        refine c_inb ?_
        refine r_start ?_
        refine p 3 ?_
        refine rend ?_
        replace h := H.inl h
        exact h (wr (n1 + 1)) _ _ rfl (by kernel_rfl) (by kernel_rfl)
      replace h := H.f q4 h
      refine a_set 15 (congrArg Value.bool q4) ?_
      refine ap 6 11 ?_
      refine a_done ?_
      refine c_f (by kernel_rfl) ?_
      refine c_skip ?_
      refine c_inb ?_
      refine r_start ?_
      refine p 3 ?_
      refine rend ?_
      replace h := H.inl h
      exact h (wr (n1 + 1)) _ _ rfl (by kernel_rfl) (by kernel_rfl)
    replace h := H.f q3 h
    refine cx ?_
    replace h := H.inr h
    exact hj2 () _ _ h (by kernel_rfl) (by kernel_rfl)
  intro x u h
  refine c_seq ?_
  refine r_start ?_
  refine p 2 ?_
  refine rend ?_
  replace h := H.done h
  subst h
  exact ret func202 rfl (vs := [.string (bs a0)]) (.tmp (by kernel_rfl) .nil) rfl (fun W S => ⟨rfl, S.below⟩)
theorem C.s_cmReduce {fu : Nat} {a0 : Sign} {r : Sign} (w : World) (h : X.s_cmReduce fu a0 = some r) : Calls prog 135 #[.agg (eSign a0).toArray] w (Ret w (.agg (eSign r).toArray)) := by
  refine calls (M := no) (args := [.agg (eSign a0).toArray]) func135 rfl ?_
  replace h : H (X.s_cmReduce fu a0) (fun o => o = r) := H.mk h
  unfold X.s_cmReduce at h
  refine c_seq ?_
  refine r_start ?_
  refine xx rfl (x_box (eSign a0) fun g0_0 => ?_)
  refine xx rfl (x_new (eSign zSign) fun g0_1 => ?_)
  refine rend ?_
  refine c_seq ?_
  refine r_start ?_
  refine p 2 ?_
  refine xq rfl (y_load (.agg (eMove a0.Main.Move).toArray) 0 g0_0 11) ?_
  obtain ⟨v1_3, hv1_3, h⟩ := H.call h
  refine xq rfl (y_call [.agg (eMove a0.Main.Move).toArray] (.string (bs v1_3)) func76 (fun W S => C.s_mvAll W hv1_3)) ?_
  obtain ⟨v1_4, hv1_4, h⟩ := H.call h
  refine xq rfl (y_call [.string (bs v1_3)] (.string (bs v1_4)) func202 (fun W S => C.s_cmRoot W hv1_4)) ?_
  refine p 3 ?_
  refine xx rfl (x_sto 0 g0_0 11 (eSign ({ a0 with Main := { a0.Main with Move := (⟨v1_4, 1⟩ : Move) } })) ?_)
  refine rend ?_
  refine c_seq ?_
  refine c_seq ?_
  refine r_start ?_
  refine p 1 ?_
  refine xq rfl (y_load (.bool a0.Two) 0 g0_0 13) ?_
  refine rend ?_
  refine c_or a0.Two (fun q1 => ?_) (fun q1 => ?_)
  · replace h := H.t q1 h
    refine r_start ?_
    refine p 2 ?_
    refine xq rfl (y_load (.agg (eMove a0.Other.Move).toArray) 0 g0_0 25) ?_
    obtain ⟨v3_3, hv3_3, h⟩ := H.call h
    refine xq rfl (y_call [.agg (eMove a0.Other.Move).toArray] (.string (bs v3_3)) func76 (fun W S => C.s_mvAll W hv3_3)) ?_
    obtain ⟨v3_4, hv3_4, h⟩ := H.call h
    refine xq rfl (y_call [.string (bs v3_3)] (.string (bs v3_4)) func202 (fun W S => C.s_cmRoot W hv3_4)) ?_
    refine p 3 ?_
    refine xx rfl (x_sto 0 g0_0 25 (eSign (⟨{ a0.Main with Move := (⟨v1_4, 1⟩ : Move) }, a0.Two, { a0.Other with Move := (⟨v3_4, 1⟩ : Move) }⟩ : Sign)) ?_)
    refine rend ?_
    refine c_seq ?_
    refine r_start ?_
    refine xq rfl (y_load (.agg (eSign (⟨{ a0.Main with Move := (⟨v1_4, 1⟩ : Move) }, a0.Two, { a0.Other with Move := (⟨v3_4, 1⟩ : Move) }⟩ : Sign)).toArray) 0 g0_0 0) ?_
    refine xx rfl (x_sto 1 g0_1 0 (eSign (⟨{ a0.Main with Move := (⟨v1_4, 1⟩ : Move) }, a0.Two, { a0.Other with Move := (⟨v3_4, 1⟩ : Move) }⟩ : Sign)) ?_)
    refine rend ?_
    replace h := H.done h
    subst h
    exact ret func135 rfl (vs := [.agg (eSign (⟨{ a0.Main with Move := (⟨v1_4, 1⟩ : Move) }, a0.Two, { a0.Other with Move := (⟨v3_4, 1⟩ : Move) }⟩ : Sign)).toArray]) (.cell 1 g0_1 rfl (by kernel_rfl) (by kernel_rfl) .nil) rfl (fun W S => ⟨rfl, S.below⟩)
  replace h := H.f q1 h
  refine c_skip ?_
  refine c_seq ?_
  refine r_start ?_
  refine xq rfl (y_load (.agg (eSign ({ a0 with Main := { a0.Main with Move := (⟨v1_4, 1⟩ : Move) } })).toArray) 0 g0_0 0) ?_
  refine xx rfl (x_sto 1 g0_1 0 (eSign ({ a0 with Main := { a0.Main with Move := (⟨v1_4, 1⟩ : Move) } })) ?_)
  refine rend ?_
  replace h := H.done h
  subst h
  exact ret func135 rfl (vs := [.agg (eSign ({ a0 with Main := { a0.Main with Move := (⟨v1_4, 1⟩ : Move) } })).toArray]) (.cell 1 g0_1 rfl (by kernel_rfl) (by kernel_rfl) .nil) rfl (fun W S => ⟨rfl, S.below⟩)
theorem C.s_PartsOfCompound {fu : Nat} {a0 : (List Sign)} {A0 : Option Addr} {k0 : Nat} {a1 : (List Sign)} {A1 : Option Addr} {k1 : Nat} {r : ((List Int) × Bool)} (w : World) (h : X.s_PartsOfCompound fu a0 a1 = some r) (h0 : RdT nSign w (.slice A0 (List.length a0) k0) a0) (h1 : RdT nSign w (.slice A1 (List.length a1) k1) a1) : Calls prog 69 #[.slice A0 (List.length a0) k0, .slice A1 (List.length a1) k1] w (RetR (eI .i64) 3 w r.1 (fun v => .tuple #[v, .bool r.2])) := by
  refine calls (M := no) (args := [.slice A0 (List.length a0) k0, .slice A1 (List.length a1) k1]) func69 rfl ?_
  replace h : H (X.s_PartsOfCompound fu a0 a1) (fun o => o = r) := H.mk h
  unfold X.s_PartsOfCompound at h
  refine c_seq ?_
  refine r_start ?_
  refine p 2 ?_
  refine rend ?_
  refine c_seq ?_
  refine c_seq ?_
  refine r_start ?_
  refine p 1 ?_
  obtain ⟨v1_1, hv1_1, h⟩ := H.call h
  refine xq rfl (y_call [.slice A0 (List.length a0) k0] (.bool v1_1) func82 (fun W S => C.s_paList W hv1_1 ((s_arg h0).out W S))) ?_
  refine p 2 ?_
  refine br (!v1_1) (fun q1 => ?_) (fun q1 => ?_)
  · replace h := H.t q1 h
    refine o_set 15 (congrArg Value.bool q1) ?_
    refine p 4 ?_
    refine rend ?_
    refine c_t (by kernel_rfl) ?_
    refine c_seq ?_
    refine r_start ?_
    refine p 2 ?_
    refine rend ?_
    replace h := H.done h
    subst h
    exact ret func69 rfl (vs := [.slice none 0 0, .bool false]) (.tmp (by kernel_rfl) (.tmp (by kernel_rfl) .nil)) rfl (fun W S => ⟨none, 0, rfl, World.ownsRow_nil _ _ _ _, S.below⟩)
  replace h := H.f q1 h
  refine o_set 15 (congrArg Value.bool q1) ?_
  refine p 1 ?_
  obtain ⟨v1_5, hv1_5, h⟩ := H.call h
  refine xq rfl (y_call [.slice A1 (List.length a1) k1] (.bool v1_5) func91 (fun W S => C.s_cmGood W hv1_5 ((s_arg h1).out W S))) ?_
  refine p 2 ?_
  refine rend ?_
  refine c_or (!v1_5) (fun q2 => ?_) (fun q2 => ?_)
  · replace h := H.t q2 h
    refine c_seq ?_
    refine r_start ?_
    refine p 2 ?_
    refine rend ?_
    replace h := H.done h
    subst h
    exact ret func69 rfl (vs := [.slice none 0 0, .bool false]) (.tmp (by kernel_rfl) (.tmp (by kernel_rfl) .nil)) rfl (fun W S => ⟨none, 0, rfl, World.ownsRow_nil _ _ _ _, S.below⟩)
  replace h := H.f q2 h
  refine c_skip ?_
  refine c_seq ?_
  refine r_start ?_
  refine p 1 ?_
  refine rend ?_
  refine c_seq ?_
  refine c_seq ?_
  refine r_start ?_
  refine p 3 ?_
  refine rend ?_
  refine c_block ?_
  refine c_nil (eI .i64) 3 ?_
  refine joinE (X := ((List Int) × Option Addr × Nat)) 0 (H.or h) (fun ⟨l6, A7, k8⟩ => l6) (fun ⟨l6, A7, k8⟩ => [rowT (eI .i64) w.heap.size 3 (.slice A7 (List.length l6) k8) l6]) (fun ⟨l6, A7, k8⟩ u => (jk u 0 6 (.slice A7 (List.length l6) k8 :: (jk u 7 51 [])))) (fun h hj9 => ?_) ?_
  · skip
    refine rangeR (X := ((List Int) × Option Addr × Nat)) (s_arg h1) (fun ⟨l3, A4, k5⟩ => l3) (fun ⟨l3, A4, k5⟩ => [rowT (eI .i64) w.heap.size 3 (.slice A4 (List.length l3) k5) l3]) (fun (j10 : Nat) ⟨l3, A4, k5⟩ u => (.slice A0 (List.length a0) k0 :: .slice A1 (List.length a1) k1 :: (jk u 2 4 (.slice A4 (List.length l3) k5 :: (jk u 7 13 (.slice A1 (List.length a1) k1 :: .int .i64 (List.length a1 : Int) :: .int .i64 (j10 : Int) :: (jk u 23 35 []))))))) (([] : List Int), none, 0) h (by kernel_rfl) (by kernel_rfl) ?_ ?_
    · intro j10 x u x11 q12 hg13 hw14 h
      obtain ⟨l3, A4, k5⟩ := x
      refine c_seq ?_
      refine r_start ?_
      refine p 1 ?_
      refine rend ?_
      refine c_seq ?_
      refine c_yes q12 ?_
      refine c_skip ?_
      refine c_seq ?_
      refine c_block ?_
      refine c_seq ?_
      refine r_start ?_
      refine p 1 ?_
      refine xq rfl (y_idx (e := nSign) (el := 46) hg13 (s_arg h1)) ?_
      refine xq rfl (y_el (e := nSign) 0 (.agg (eSign x11).toArray) hg13 (s_arg h1)) ?_
      refine xx rfl (x_new (eSign zSign) fun g6_3 => ?_)
      refine p 1 ?_
      refine xx rfl (x_sto 1 g6_3 0 (eSign x11) ?_)
      refine rend ?_
      refine c_seq ?_
      refine r_start ?_
      refine p 1 ?_
      refine rend ?_
      refine c_seq ?_
      refine c_seq ?_
      refine r_start ?_
      refine p 3 ?_
      refine rend ?_
      refine c_block ?_
      refine joinH (X := Int) 2 (H.bnd h) (fun (x : Int) => x) (fun n16 => [rowT (eI .i64) w.heap.size 3 (.slice A4 (List.length l3) k5) l3, box g6_3 46 (eSign x11)]) (fun n16 u => (.slice A0 (List.length a0) k0 :: .slice A1 (List.length a1) k1 :: (jk u 2 4 (.slice A4 (List.length l3) k5 :: (jk u 7 2 (.int .i64 n16 :: (jk u 10 10 (.slice A1 (List.length a1) k1 :: .int .i64 (List.length a1 : Int) :: .int .i64 (j10 : Int) :: (jk u 23 35 []))))))))) (fun h hj17 => ?_) ?_
      · skip
        refine rangeR (X := Int) (s_arg h0) (fun (x : Int) => x) (fun n15 => [rowT (eI .i64) w.heap.size 3 (.slice A4 (List.length l3) k5) l3, box g6_3 46 (eSign x11)]) (fun (j18 : Nat) n15 u => (.slice A0 (List.length a0) k0 :: .slice A1 (List.length a1) k1 :: (jk u 2 4 (.slice A4 (List.length l3) k5 :: .int .i64 (j10 : Int) :: .pointer (some ⟨g6_3, 0, none⟩) :: .int .i64 n15 :: (jk u 10 10 (.slice A1 (List.length a1) k1 :: .int .i64 (List.length a1 : Int) :: .int .i64 (j10 : Int) :: (jk u 23 4 (.slice A0 (List.length a0) k0 :: .int .i64 (List.length a0 : Int) :: .int .i64 (j18 : Int) :: (jk u 30 28 []))))))))) (-1) h (by kernel_rfl) (by kernel_rfl) ?_ ?_
        · intro j18 n15 u x19 q20 hg21 hw22 h
          refine c_seq ?_
          refine r_start ?_
          refine p 1 ?_
          refine rend ?_
          refine c_seq ?_
          refine c_yes q20 ?_
          refine c_skip ?_
          refine c_seq ?_
          refine c_block ?_
          refine c_seq ?_
          refine r_start ?_
          refine p 1 ?_
          refine xq rfl (y_idx (e := nSign) (el := 46) hg21 (s_arg h0)) ?_
          refine xq rfl (y_el (e := nSign) 0 (.agg (eSign x19).toArray) hg21 (s_arg h0)) ?_
          refine xx rfl (x_new (eSign zSign) fun g10_3 => ?_)
          refine p 1 ?_
          refine xx rfl (x_sto 2 g10_3 0 (eSign x19) ?_)
          refine rend ?_
          refine c_seq ?_
          refine c_seq ?_
          refine r_start ?_
          refine p 5 ?_
          refine rend ?_
          refine c_or (decide ((wr ((j10 : Int) + 1)) < (List.length a1 : Int))) (fun q23 => ?_) (fun q23 => ?_)
          · replace h := H.t q23 h
            refine r_start ?_
            refine xq rfl (y_load (.agg (eSign x19).toArray) 2 g10_3 0) ?_
            obtain ⟨v12_1, hv12_1, h⟩ := H.call h
            refine xq rfl (y_call [.agg (eSign x19).toArray] (.agg (eSign v12_1).toArray) func135 (fun W S => C.s_cmReduce W hv12_1)) ?_
            refine xx rfl (x_sto 2 g10_3 0 (eSign v12_1) ?_)
            refine rend ?_
            refine frg (fun u => (.slice A0 (List.length a0) k0 :: .slice A1 (List.length a1) k1 :: (jk u 2 4 (.slice A4 (List.length l3) k5 :: .int .i64 (j10 : Int) :: .pointer (some ⟨g6_3, 0, none⟩) :: .int .i64 n15 :: .int .i64 (j18 : Int) :: .pointer (some ⟨g10_3, 0, none⟩) :: (jk u 12 8 (.slice A1 (List.length a1) k1 :: .int .i64 (List.length a1 : Int) :: .int .i64 (j10 : Int) :: (jk u 23 4 (.slice A0 (List.length a0) k0 :: .int .i64 (List.length a0 : Int) :: .int .i64 (j18 : Int) :: (jk u 30 28 []))))))))) (by kernel_rfl) fun u => ?_
            refine keep 3 (its' := [rowT (eI .i64) w.heap.size 3 (.slice A4 (List.length l3) k5) l3, box g6_3 46 (eSign x11), box g10_3 46 (eSign v12_1)]) (by kernel_rfl) ?_
            refine c_seq ?_
            refine r_start ?_
            refine p 3 ?_
            refine br (decide (n15 < 0)) (fun q24 => ?_) (fun q24 => ?_)
            · replace h := H.t q24 h
              refine o_set 43 (congrArg Value.bool q24) ?_
              refine xq rfl (y_load (.agg (eSign v12_1).toArray) 2 g10_3 0) ?_
              refine xq rfl (y_load (.agg (eSign x11).toArray) 1 g6_3 0) ?_
              refine p 2 ?_
              refine rend ?_
              refine c_or (qSign v12_1 x11) (fun q25 => ?_) (fun q25 => ?_)
              · replace h := H.t q25 h
                refine r_start ?_
                refine p 2 ?_
                refine rend ?_
                refine c_inb ?_
                refine r_start ?_
                refine p 2 ?_
                refine rend ?_
                refine c_set 29 (ci hw22) ?_
                replace h := H.inl h
                exact h (j18 : Int) _ _ rfl (by kernel_rfl) (by kernel_rfl)
              replace h := H.f q25 h
              refine c_skip ?_
              refine c_inb ?_
              refine r_start ?_
              refine p 2 ?_
              refine rend ?_
              refine c_set 29 (ci hw22) ?_
              replace h := H.inl h
              exact h n15 _ _ rfl (by kernel_rfl) (by kernel_rfl)
            replace h := H.f q24 h
            refine o_set 43 (congrArg Value.bool q24) ?_
            refine p 4 ?_
            refine rend ?_
            refine c_f (by kernel_rfl) ?_
            refine c_skip ?_
            refine c_inb ?_
            refine r_start ?_
            refine p 2 ?_
            refine rend ?_
            refine c_set 29 (ci hw22) ?_
            replace h := H.inl h
            exact h n15 _ _ rfl (by kernel_rfl) (by kernel_rfl)
          replace h := H.f q23 h
          refine c_skip ?_
          refine c_seq ?_
          refine r_start ?_
          refine p 3 ?_
          refine br (decide (n15 < 0)) (fun q26 => ?_) (fun q26 => ?_)
          · replace h := H.t q26 h
            refine o_set 43 (congrArg Value.bool q26) ?_
            refine xq rfl (y_load (.agg (eSign x19).toArray) 2 g10_3 0) ?_
            refine xq rfl (y_load (.agg (eSign x11).toArray) 1 g6_3 0) ?_
            refine p 2 ?_
            refine rend ?_
            refine frg (fun u => (.slice A0 (List.length a0) k0 :: .slice A1 (List.length a1) k1 :: (jk u 2 4 (.slice A4 (List.length l3) k5 :: .int .i64 (j10 : Int) :: .pointer (some ⟨g6_3, 0, none⟩) :: .int .i64 n15 :: .int .i64 (j18 : Int) :: (jk u 11 9 (.slice A1 (List.length a1) k1 :: .int .i64 (List.length a1 : Int) :: .int .i64 (j10 : Int) :: (jk u 23 4 (.slice A0 (List.length a0) k0 :: .int .i64 (List.length a0 : Int) :: .int .i64 (j18 : Int) :: (jk u 30 17 (.bool (qSign x19 x11) :: (jk u 48 10 []))))))))))) (by kernel_rfl) fun u => ?_
            refine keep 3 (its' := [rowT (eI .i64) w.heap.size 3 (.slice A4 (List.length l3) k5) l3, box g6_3 46 (eSign x11), box g10_3 46 (eSign x19)]) (by kernel_rfl) ?_
            refine c_or (qSign x19 x11) (fun q27 => ?_) (fun q27 => ?_)
            · replace h := H.t q27 h
              refine r_start ?_
              refine p 2 ?_
              refine rend ?_
              refine c_inb ?_
              refine r_start ?_
              refine p 2 ?_
              refine rend ?_
              refine c_set 29 (ci hw22) ?_
              replace h := H.inl h
              exact h (j18 : Int) _ _ rfl (by kernel_rfl) (by kernel_rfl)
            replace h := H.f q27 h
            refine c_skip ?_
            refine c_inb ?_
            refine r_start ?_
            refine p 2 ?_
            refine rend ?_
            refine c_set 29 (ci hw22) ?_
            replace h := H.inl h
            exact h n15 _ _ rfl (by kernel_rfl) (by kernel_rfl)
          replace h := H.f q26 h
          refine o_set 43 (congrArg Value.bool q26) ?_
          refine p 4 ?_
          refine rend ?_
          refine frg (fun u => (.slice A0 (List.length a0) k0 :: .slice A1 (List.length a1) k1 :: (jk u 2 4 (.slice A4 (List.length l3) k5 :: .int .i64 (j10 : Int) :: .pointer (some ⟨g6_3, 0, none⟩) :: .int .i64 n15 :: .int .i64 (j18 : Int) :: (jk u 11 9 (.slice A1 (List.length a1) k1 :: .int .i64 (List.length a1 : Int) :: .int .i64 (j10 : Int) :: (jk u 23 4 (.slice A0 (List.length a0) k0 :: .int .i64 (List.length a0 : Int) :: .int .i64 (j18 : Int) :: (jk u 30 17 (.bool false :: (jk u 48 10 []))))))))))) (by kernel_rfl) fun u => ?_
          refine keep 3 (its' := [rowT (eI .i64) w.heap.size 3 (.slice A4 (List.length l3) k5) l3, box g6_3 46 (eSign x11), box g10_3 46 (eSign x19)]) (by kernel_rfl) ?_
          refine c_f (by kernel_rfl) ?_
          refine c_skip ?_
          refine c_inb ?_
          refine r_start ?_
          refine p 2 ?_
          refine rend ?_
          refine c_set 29 (ci hw22) ?_
          replace h := H.inl h
          exact h n15 _ _ rfl (by kernel_rfl) (by kernel_rfl)
        · intro n15 u q20 h
          refine c_seq ?_
          refine r_start ?_
          refine p 1 ?_
          refine rend ?_
          refine c_seq ?_
          refine c_no q20 ?_
          refine cx ?_
          replace h := H.done h
          exact hj17 n15 _ _ h (by kernel_rfl) (by kernel_rfl)
      intro n16 u h
      refine c_seq ?_
      refine c_seq ?_
      refine r_start ?_
      refine p 2 ?_
      refine rend ?_
      refine c_or (decide (n16 < 0)) (fun q28 => ?_) (fun q28 => ?_)
      · replace h := H.t q28 h
        refine c_seq ?_
        refine r_start ?_
        refine p 2 ?_
        refine rend ?_
        replace h := H.inr h
        replace h := H.done h
        subst h
        exact ret func69 rfl (vs := [.slice none 0 0, .bool false]) (.tmp (by kernel_rfl) (.tmp (by kernel_rfl) .nil)) rfl (fun W S => ⟨none, 0, rfl, World.ownsRow_nil _ _ _ _, S.below⟩)
      replace h := H.f q28 h
      refine c_skip ?_
      refine r_start ?_
      refine p 2 ?_
      refine xx rfl (e_lit (e := (eI .i64)) (el := 3) [.int .i64 n16] ([n16] : List Int) fun A18_2 k18_2 => ?_)
      obtain ⟨y18_3, hy18_3, h⟩ := H.call h
      refine xx rfl (e_app 0 hy18_3 (s_own 2) fun A18_3 k18_3 => ?_)
      refine p 1 ?_
      refine rend ?_
      refine c_inb ?_
      refine r_start ?_
      refine p 2 ?_
      refine rend ?_
      refine c_set 22 (ci hw14) ?_
      replace h := H.inl h
      exact h (y18_3, A18_3, k18_3) _ _ rfl (by kernel_rfl) (by kernel_rfl)
    · intro x u q12 h
      obtain ⟨l3, A4, k5⟩ := x
      refine c_seq ?_
      refine r_start ?_
      refine p 1 ?_
      refine rend ?_
      refine c_seq ?_
      refine c_no q12 ?_
      refine cx ?_
      replace h := H.done h
      exact hj9 (l3, A4, k5) _ _ h (by kernel_rfl) (by kernel_rfl)
  intro x u h
  obtain ⟨l6, A7, k8⟩ := x
  refine c_seq ?_
  refine r_start ?_
  refine p 3 ?_
  refine rend ?_
  replace h := H.done h
  subst h
  exact ret func69 rfl (vs := [.slice A7 (List.length l6) k8, .bool true]) (.tmp (by kernel_rfl) (.tmp (by kernel_rfl) .nil)) rfl (fun W S => ⟨_, _, rfl, S.row 0, S.below⟩)
theorem C.i_Move_reduced {fu : Nat} {a0 : Move} {r : Move} (w : World) (h : X.i_Move_reduced fu a0 = some r) : Calls prog 203 #[.agg (eMove a0).toArray] w (Ret w (.agg (eMove r).toArray)) := by
  refine calls (M := no) (args := [.agg (eMove a0).toArray]) func203 rfl ?_
  replace h : H (X.i_Move_reduced fu a0) (fun o => o = r) := H.mk h
  unfold X.i_Move_reduced at h
  refine c_seq ?_
  refine r_start ?_
  refine xx rfl (x_box (eMove a0) fun g0_0 => ?_)
  refine xx rfl (x_new (eMove zMove) fun g0_1 => ?_)
  refine rend ?_
  refine c_seq ?_
  refine r_start ?_
  refine xq rfl (y_load (.agg (eMove a0).toArray) 0 g0_0 0) ?_
  obtain ⟨v1_1, hv1_1, h⟩ := H.call h
  refine xq rfl (y_call [.agg (eMove a0).toArray] (.string (bs v1_1)) func133 (fun W S => C.i_Move_all W hv1_1)) ?_
  refine p 1 ?_
  refine rend ?_
  refine c_seq ?_
  refine c_seq ?_
  refine r_start ?_
  refine p 1 ?_
  refine rend ?_
  refine c_block ?_
  refine joinE (X := Unit) 0 (H.or h) (fun (x : Unit) => x) (fun _ => [box g0_0 42 (eMove a0), box g0_1 42 (eMove zMove)]) (fun _ u => (jk u 0 1 (.pointer (some ⟨g0_0, 0, none⟩) :: .pointer (some ⟨g0_1, 0, none⟩) :: (jk u 3 32 [])))) (fun h hj2 => ?_) ?_
  · skip
    refine loopR (X := Int) (fun (x : Int) => x) (fun n1 => [box g0_0 42 (eMove a0), box g0_1 42 (eMove zMove)]) (fun n1 u => (jk u 0 1 (.pointer (some ⟨g0_0, 0, none⟩) :: .pointer (some ⟨g0_1, 0, none⟩) :: .string (bs v1_1) :: .int .i64 n1 :: (jk u 5 30 [])))) 1 h (by kernel_rfl) (by kernel_rfl) ?_
    intro n1 u h
    refine c_seq ?_
    refine c_seq ?_
    refine r_start ?_
    refine p 4 ?_
    refine rend ?_
    refine c_or (decide (n1 ≤ (List.length v1_1 : Int))) (fun q3 => ?_) (fun q3 => ?_)
    · replace h := H.t q3 h
      refine c_skip ?_
      refine c_seq ?_
      refine c_block ?_
      refine c_seq ?_
      refine as_start 17 17 ?_
      refine ap 0 3 ?_
      obtain ⟨y5_3, hy5_3, h⟩ := H.call h
      refine aq 3 rfl (y_mod hy5_3) ?_
      refine ap 4 2 ?_
      refine br (y5_3 == 0) (fun q4 => ?_) (fun q4 => ?_)
      · replace h := H.t q4 h
        refine a_set 18 (congrArg Value.bool q4) ?_
        refine ap 6 2 ?_
        obtain ⟨y5_8, hy5_8, h⟩ := H.call h
        refine aq 8 rfl (y_cut hy5_8) ?_
        refine ap 9 3 ?_
        obtain ⟨y5_12, hy5_12, h⟩ := H.call h
        refine aq 12 rfl (y_div hy5_12) ?_
        obtain ⟨v5_13, hv5_13, h⟩ := H.call h
        refine aq 13 rfl (y_call [.string (bs y5_8), .int .i64 y5_12] (.string (bs v5_13)) func201 (fun W S => C.strings_Repeat W hv5_13)) ?_
        refine ap 14 3 ?_
        refine a_done ?_
        refine c_or (seq v5_13 v1_1) (fun q5 => ?_) (fun q5 => ?_)
        · replace h := H.t q5 h
          refine c_seq ?_
          refine r_start ?_
          refine p 2 ?_
          obtain ⟨y6_2, hy6_2, h⟩ := H.call h
          refine xq rfl (y_cut hy6_2) ?_
          refine p 1 ?_
          refine xx rfl (x_sto 1 g0_1 0 (eMove (⟨y6_2, 1⟩ : Move)) ?_)
          refine rend ?_
          replace h := H.inr h
          replace h := H.done h
          subst h
          exact ret func203 rfl (vs := [.agg (eMove (⟨y6_2, 1⟩ : Move)).toArray]) (.cell 1 g0_1 rfl (by kernel_rfl) (by kernel_rfl) .nil) rfl (fun W S => ⟨rfl, S.below⟩)
        replace h := H.f q5 h
        refine c_skip ?_
        refine c_inb ?_
        refine r_start ?_
        refine p 3 ?_
        refine rend ?_
        replace h := H.inl h
        exact h (wr (n1 + 1)) _ _ rfl (by kernel_rfl) (by kernel_rfl)
      replace h := H.f q4 h
      refine a_set 18 (congrArg Value.bool q4) ?_
      refine ap 6 11 ?_
      refine a_done ?_
      refine c_f (by kernel_rfl) ?_
      refine c_skip ?_
      refine c_inb ?_
      refine r_start ?_
      refine p 3 ?_
      refine rend ?_
      replace h := H.inl h
      exact h (wr (n1 + 1)) _ _ rfl (by kernel_rfl) (by kernel_rfl)
    replace h := H.f q3 h
    refine cx ?_
    replace h := H.inr h
    exact hj2 () _ _ h (by kernel_rfl) (by kernel_rfl)
  intro x u h
  refine c_seq ?_
  refine r_start ?_
  refine xq rfl (y_load (.agg (eMove a0).toArray) 0 g0_0 0) ?_
  refine xx rfl (x_sto 1 g0_1 0 (eMove a0) ?_)
  refine rend ?_
  replace h := H.done h
  subst h
  exact ret func203 rfl (vs := [.agg (eMove a0).toArray]) (.cell 1 g0_1 rfl (by kernel_rfl) (by kernel_rfl) .nil) rfl (fun W S => ⟨rfl, S.below⟩)
theorem C.i_Sign_reduced {fu : Nat} {a0 : Sign} {r : Sign} (w : World) (h : X.i_Sign_reduced fu a0 = some r) : Calls prog 138 #[.agg (eSign a0).toArray] w (Ret w (.agg (eSign r).toArray)) := by
  refine calls (M := no) (args := [.agg (eSign a0).toArray]) func138 rfl ?_
  replace h : H (X.i_Sign_reduced fu a0) (fun o => o = r) := H.mk h
  unfold X.i_Sign_reduced at h
  refine c_seq ?_
  refine r_start ?_
  refine xx rfl (x_box (eSign a0) fun g0_0 => ?_)
  refine xx rfl (x_new (eSign zSign) fun g0_1 => ?_)
  refine rend ?_
  refine c_seq ?_
  refine r_start ?_
  refine p 2 ?_
  refine xq rfl (y_load (.agg (eMove a0.Main.Move).toArray) 0 g0_0 11) ?_
  obtain ⟨v1_3, hv1_3, h⟩ := H.call h
  refine xq rfl (y_call [.agg (eMove a0.Main.Move).toArray] (.agg (eMove v1_3).toArray) func203 (fun W S => C.i_Move_reduced W hv1_3)) ?_
  refine p 2 ?_
  refine xx rfl (x_sto 0 g0_0 11 (eSign ({ a0 with Main := { a0.Main with Move := v1_3 } })) ?_)
  refine rend ?_
  refine c_seq ?_
  refine c_seq ?_
  refine r_start ?_
  refine p 1 ?_
  refine xq rfl (y_load (.bool a0.Two) 0 g0_0 13) ?_
  refine rend ?_
  refine c_or a0.Two (fun q1 => ?_) (fun q1 => ?_)
  · replace h := H.t q1 h
    refine r_start ?_
    refine p 2 ?_
    refine xq rfl (y_load (.agg (eMove a0.Other.Move).toArray) 0 g0_0 25) ?_
    obtain ⟨v3_3, hv3_3, h⟩ := H.call h
    refine xq rfl (y_call [.agg (eMove a0.Other.Move).toArray] (.agg (eMove v3_3).toArray) func203 (fun W S => C.i_Move_reduced W hv3_3)) ?_
    refine p 2 ?_
    refine xx rfl (x_sto 0 g0_0 25 (eSign (⟨{ a0.Main with Move := v1_3 }, a0.Two, { a0.Other with Move := v3_3 }⟩ : Sign)) ?_)
    refine rend ?_
    refine c_seq ?_
    refine r_start ?_
    refine xq rfl (y_load (.agg (eSign (⟨{ a0.Main with Move := v1_3 }, a0.Two, { a0.Other with Move := v3_3 }⟩ : Sign)).toArray) 0 g0_0 0) ?_
    refine xx rfl (x_sto 1 g0_1 0 (eSign (⟨{ a0.Main with Move := v1_3 }, a0.Two, { a0.Other with Move := v3_3 }⟩ : Sign)) ?_)
    refine rend ?_
    replace h := H.done h
    subst h
    exact ret func138 rfl (vs := [.agg (eSign (⟨{ a0.Main with Move := v1_3 }, a0.Two, { a0.Other with Move := v3_3 }⟩ : Sign)).toArray]) (.cell 1 g0_1 rfl (by kernel_rfl) (by kernel_rfl) .nil) rfl (fun W S => ⟨rfl, S.below⟩)
  replace h := H.f q1 h
  refine c_skip ?_
  refine c_seq ?_
  refine r_start ?_
  refine xq rfl (y_load (.agg (eSign ({ a0 with Main := { a0.Main with Move := v1_3 } })).toArray) 0 g0_0 0) ?_
  refine xx rfl (x_sto 1 g0_1 0 (eSign ({ a0 with Main := { a0.Main with Move := v1_3 } })) ?_)
  refine rend ?_
  replace h := H.done h
  subst h
  exact ret func138 rfl (vs := [.agg (eSign ({ a0 with Main := { a0.Main with Move := v1_3 } })).toArray]) (.cell 1 g0_1 rfl (by kernel_rfl) (by kernel_rfl) .nil) rfl (fun W S => ⟨rfl, S.below⟩)
theorem C.i_PartsOfCompound_1 {fu : Nat} {a0 : Sign} {a1 : Int} {p1 : Nat} {a2 : (List Sign)} {A2 : Option Addr} {k2 : Nat} {p2 : Nat} {a3 : Sign} {p3 : Nat} {r : Bool} (w : World) (h : X.i_PartsOfCompound_1 fu a1 a2 a3 a0 = some r) (hp1 : w.heap[p1]? = some (.cells ([.int .i64 a1] : List Value).toArray 3 (0, 0))) (h2 : RdT nSign w (.slice A2 (List.length a2) k2) a2) (hp2 : w.heap[p2]? = some (.cells ([.slice A2 (List.length a2) k2] : List Value).toArray 57 (0, 0))) (hp3 : w.heap[p3]? = some (.cells (eSign a3 : List Value).toArray 46 (0, 0))) : Calls prog 137 #[.agg (eSign a0).toArray, .pointer (some ⟨p1, 0, none⟩), .pointer (some ⟨p2, 0, none⟩), .pointer (some ⟨p3, 0, none⟩)] w (Ret w (.bool r)) := by
  refine calls (M := no) (args := [.agg (eSign a0).toArray, .pointer (some ⟨p1, 0, none⟩), .pointer (some ⟨p2, 0, none⟩), .pointer (some ⟨p3, 0, none⟩)]) func137 rfl ?_
  replace h : H (X.i_PartsOfCompound_1 fu a1 a2 a3 a0) (fun o => o = r) := H.mk h
  unfold X.i_PartsOfCompound_1 at h
  refine c_seq ?_
  refine r_start ?_
  refine xx rfl (x_box (eSign a0) fun g0_0 => ?_)
  refine p 1 ?_
  refine rend ?_
  refine c_seq ?_
  refine c_seq ?_
  refine r_start ?_
  refine xq rfl (y_ld0 (.int .i64 a1) p1 0 hp1) ?_
  refine p 1 ?_
  refine xq rfl (y_ld0 (.slice A2 (List.length a2) k2) p2 0 hp2) ?_
  refine p 2 ?_
  refine rend ?_
  refine c_or (decide ((wr (a1 + 1)) < (List.length a2 : Int))) (fun q1 => ?_) (fun q1 => ?_)
  · replace h := H.t q1 h
    refine c_seq ?_
    refine as_start 5 5 ?_
    refine aq 0 rfl (y_load (.agg (eSign a0).toArray) 0 g0_0 0) ?_
    obtain ⟨v2_1, hv2_1, h⟩ := H.call h
    refine aq 1 rfl (y_call [.agg (eSign a0).toArray] (.agg (eSign v2_1).toArray) func138 (fun W S => C.i_Sign_reduced W hv2_1)) ?_
    refine aq 2 rfl (y_ld0 (.agg (eSign a3).toArray) p3 0 hp3) ?_
    refine ap 3 2 ?_
    refine a_done ?_
    replace h := H.done h
    subst h
    exact ret func137 rfl (vs := [.bool (qSign v2_1 a3)]) (.tmp (by kernel_rfl) .nil) rfl (fun W S => ⟨rfl, S.below⟩)
  replace h := H.f q1 h
  refine c_skip ?_
  refine c_seq ?_
  refine r_start ?_
  refine xq rfl (y_load (.agg (eSign a0).toArray) 0 g0_0 0) ?_
  refine xq rfl (y_ld0 (.agg (eSign a3).toArray) p3 0 hp3) ?_
  refine p 2 ?_
  refine rend ?_
  replace h := H.done h
  subst h
  exact ret func137 rfl (vs := [.bool (qSign a0 a3)]) (.tmp (by kernel_rfl) .nil) rfl (fun W S => ⟨rfl, S.below⟩)
theorem C.i_PartsOfCompound {fu : Nat} {a0 : (List Sign)} {A0 : Option Addr} {k0 : Nat} {a1 : (List Sign)} {A1 : Option Addr} {k1 : Nat} {r : ((List Int) × Bool)} (w : World) (h : X.i_PartsOfCompound fu a0 a1 = some r) (h0 : RdT nSign w (.slice A0 (List.length a0) k0) a0) (h1 : RdT nSign w (.slice A1 (List.length a1) k1) a1) : Calls prog 70 #[.slice A0 (List.length a0) k0, .slice A1 (List.length a1) k1] w (RetR (eI .i64) 3 w r.1 (fun v => .tuple #[v, .bool r.2])) := by
  refine calls (M := no) (args := [.slice A0 (List.length a0) k0, .slice A1 (List.length a1) k1]) func70 rfl ?_
  replace h : H (X.i_PartsOfCompound fu a0 a1) (fun o => o = r) := H.mk h
  unfold X.i_PartsOfCompound at h
  refine c_seq ?_
  refine r_start ?_
  refine xx rfl (x_box [.slice A1 (List.length a1) k1] fun g0_0 => ?_)
  refine p 2 ?_
  refine rend ?_
  refine c_seq ?_
  refine c_seq ?_
  refine r_start ?_
  refine p 1 ?_
  obtain ⟨v1_1, hv1_1, h⟩ := H.call h
  refine xq rfl (y_call [.slice A0 (List.length a0) k0, .int .i64 20] (.bool v1_1) func106 (fun W S => C.i_areSigns W hv1_1 ((s_arg h0).out W S))) ?_
  refine p 2 ?_
  refine br (!v1_1) (fun q1 => ?_) (fun q1 => ?_)
  · replace h := H.t q1 h
    refine o_set 13 (congrArg Value.bool q1) ?_
    refine p 4 ?_
    refine rend ?_
    refine c_t (by kernel_rfl) ?_
    refine c_seq ?_
    refine r_start ?_
    refine p 2 ?_
    refine rend ?_
    replace h := H.done h
    subst h
    exact ret func70 rfl (vs := [.slice none 0 0, .bool false]) (.tmp (by kernel_rfl) (.tmp (by kernel_rfl) .nil)) rfl (fun W S => ⟨none, 0, rfl, World.ownsRow_nil _ _ _ _, S.below⟩)
  replace h := H.f q1 h
  refine o_set 13 (congrArg Value.bool q1) ?_
  refine xq rfl (y_load (.slice A1 (List.length a1) k1) 0 g0_0 0) ?_
  obtain ⟨v1_5, hv1_5, h⟩ := H.call h
  refine xq rfl (y_call [.slice A1 (List.length a1) k1] (.bool v1_5) func92 (fun W S => C.i_isMade W hv1_5 ((s_arg h1).out W S))) ?_
  refine p 2 ?_
  refine rend ?_
  refine c_or (!v1_5) (fun q2 => ?_) (fun q2 => ?_)
  · replace h := H.t q2 h
    refine c_seq ?_
    refine r_start ?_
    refine p 2 ?_
    refine rend ?_
    replace h := H.done h
    subst h
    exact ret func70 rfl (vs := [.slice none 0 0, .bool false]) (.tmp (by kernel_rfl) (.tmp (by kernel_rfl) .nil)) rfl (fun W S => ⟨none, 0, rfl, World.ownsRow_nil _ _ _ _, S.below⟩)
  replace h := H.f q2 h
  refine c_skip ?_
  refine c_seq ?_
  refine r_start ?_
  refine p 1 ?_
  refine rend ?_
  refine c_seq ?_
  refine c_seq ?_
  refine r_start ?_
  refine xq rfl (y_load (.slice A1 (List.length a1) k1) 0 g0_0 0) ?_
  refine p 2 ?_
  refine rend ?_
  refine c_block ?_
  refine c_nil (eI .i64) 3 ?_
  refine joinE (X := ((List Int) × Option Addr × Nat)) 0 (H.or h) (fun ⟨l6, A7, k8⟩ => l6) (fun ⟨l6, A7, k8⟩ => [box g0_0 57 [.slice A1 (List.length a1) k1], rowT (eI .i64) w.heap.size 3 (.slice A7 (List.length l6) k8) l6]) (fun ⟨l6, A7, k8⟩ u => (jk u 0 6 (.slice A7 (List.length l6) k8 :: (jk u 7 29 [])))) (fun h hj9 => ?_) ?_
  · skip
    refine rangeR (X := ((List Int) × Option Addr × Nat)) (s_arg h1) (fun ⟨l3, A4, k5⟩ => l3) (fun ⟨l3, A4, k5⟩ => [box g0_0 57 [.slice A1 (List.length a1) k1], rowT (eI .i64) w.heap.size 3 (.slice A4 (List.length l3) k5) l3]) (fun (j10 : Nat) ⟨l3, A4, k5⟩ u => (.slice A0 (List.length a0) k0 :: (jk u 1 2 (.pointer (some ⟨g0_0, 0, none⟩) :: (jk u 4 2 (.slice A4 (List.length l3) k5 :: (jk u 7 11 (.slice A1 (List.length a1) k1 :: .int .i64 (List.length a1 : Int) :: .int .i64 (j10 : Int) :: (jk u 21 15 []))))))))) (([] : List Int), none, 0) h (by kernel_rfl) (by kernel_rfl) ?_ ?_
    · intro j10 x u x11 q12 hg13 hw14 h
      obtain ⟨l3, A4, k5⟩ := x
      refine c_seq ?_
      refine r_start ?_
      refine p 1 ?_
      refine rend ?_
      refine c_seq ?_
      refine c_yes q12 ?_
      refine c_skip ?_
      refine c_seq ?_
      refine c_block ?_
      refine c_seq ?_
      refine r_start ?_
      refine p 1 ?_
      refine xq rfl (y_idx (e := nSign) (el := 46) hg13 (s_arg h1)) ?_
      refine xq rfl (y_el (e := nSign) 0 (.agg (eSign x11).toArray) hg13 (s_arg h1)) ?_
      refine xx rfl (x_new [.int .i64 0] fun g6_3 => ?_)
      refine xx rfl (x_new (eSign zSign) fun g6_4 => ?_)
      refine xx rfl (x_sto 2 g6_3 0 [.int .i64 (j10 : Int)] ?_)
      refine xx rfl (x_sto 3 g6_4 0 (eSign x11) ?_)
      refine rend ?_
      refine c_seq ?_
      refine r_start ?_
      refine p 2 ?_
      obtain ⟨v7_2, hv7_2, h⟩ := H.call h
      refine xq rfl (y_call [.slice A0 (List.length a0) k0, .func (.func 137) #[] #[.pointer (some ⟨g6_3, 0, none⟩), .pointer (some ⟨g0_0, 0, none⟩), .pointer (some ⟨g6_4, 0, none⟩)]] (.int .i64 v7_2) func136 (fun W S => C.slices_IndexFunc_i_Sign_i_Sign W hv7_2 ((s_arg h0).out W S) (isFn_of func137) (fun x0_2 r W2 hu2 hx2 => C.i_PartsOfCompound_1 W2 hx2 (bx_up (S.bx 2) hu2) (Rd.up ((s_arg h1).out W S) hu2) (bx_up (S.bx 0) hu2) (bx_up (S.bx 3) hu2)))) ?_
      refine p 1 ?_
      refine rend ?_
      refine c_seq ?_
      refine c_seq ?_
      refine r_start ?_
      refine p 2 ?_
      refine rend ?_
      refine c_or (decide (v7_2 < 0)) (fun q15 => ?_) (fun q15 => ?_)
      · replace h := H.t q15 h
        refine c_seq ?_
        refine r_start ?_
        refine p 2 ?_
        refine rend ?_
        replace h := H.inr h
        replace h := H.done h
        subst h
        exact ret func70 rfl (vs := [.slice none 0 0, .bool false]) (.tmp (by kernel_rfl) (.tmp (by kernel_rfl) .nil)) rfl (fun W S => ⟨none, 0, rfl, World.ownsRow_nil _ _ _ _, S.below⟩)
      replace h := H.f q15 h
      refine c_skip ?_
      refine r_start ?_
      refine p 2 ?_
      refine xx rfl (e_lit (e := (eI .i64)) (el := 3) [.int .i64 v7_2] ([v7_2] : List Int) fun A10_2 k10_2 => ?_)
      obtain ⟨y10_3, hy10_3, h⟩ := H.call h
      refine xx rfl (e_app 1 hy10_3 (s_own 4) fun A10_3 k10_3 => ?_)
      refine p 1 ?_
      refine rend ?_
      refine c_inb ?_
      refine r_start ?_
      refine p 2 ?_
      refine rend ?_
      refine c_set 20 (ci hw14) ?_
      replace h := H.inl h
      exact h (y10_3, A10_3, k10_3) _ _ rfl (by kernel_rfl) (by kernel_rfl)
    · intro x u q12 h
      obtain ⟨l3, A4, k5⟩ := x
      refine c_seq ?_
      refine r_start ?_
      refine p 1 ?_
      refine rend ?_
      refine c_seq ?_
      refine c_no q12 ?_
      refine cx ?_
      replace h := H.done h
      exact hj9 (l3, A4, k5) _ _ h (by kernel_rfl) (by kernel_rfl)
  intro x u h
  obtain ⟨l6, A7, k8⟩ := x
  refine c_seq ?_
  refine r_start ?_
  refine p 3 ?_
  refine rend ?_
  replace h := H.done h
  subst h
  exact ret func70 rfl (vs := [.slice A7 (List.length l6) k8, .bool true]) (.tmp (by kernel_rfl) (.tmp (by kernel_rfl) .nil)) rfl (fun W S => ⟨_, _, rfl, S.row 1, S.below⟩)
theorem C.l_FnExactPartsOfCompound {fu : Nat} {a0 : (List Sign)} {A0 : Option Addr} {k0 : Nat} {a1 : (List Sign)} {A1 : Option Addr} {k1 : Nat} {r : Bool} (w : World) (h : X.l_FnExactPartsOfCompound fu a0 a1 = some r) (h0 : RdT nSign w (.slice A0 (List.length a0) k0) a0) (h1 : RdT nSign w (.slice A1 (List.length a1) k1) a1) : Calls prog 14 #[.slice A0 (List.length a0) k0, .slice A1 (List.length a1) k1] w (Ret w (.bool r)) := by
  refine calls (M := no) (args := [.slice A0 (List.length a0) k0, .slice A1 (List.length a1) k1]) func14 rfl ?_
  replace h : H (X.l_FnExactPartsOfCompound fu a0 a1) (fun o => o = r) := H.mk h
  unfold X.l_FnExactPartsOfCompound at h
  refine c_seq ?_
  refine r_start ?_
  refine p 1 ?_
  refine rend ?_
  refine c_seq ?_
  refine r_start ?_
  refine p 1 ?_
  refine rend ?_
  refine c_seq ?_
  refine r_start ?_
  refine p 2 ?_
  obtain ⟨v2_2, hv2_2, h⟩ := H.call h
  refine xq rfl (y_call [.slice A0 (List.length a0) k0, .int .i64 1048576] (.int .i64 v2_2) func22 (fun W S => C.l_szSignS W hv2_2 ((s_arg h0).out W S))) ?_
  refine p 1 ?_
  refine rend ?_
  refine c_seq ?_
  refine c_seq ?_
  refine r_start ?_
  refine p 2 ?_
  refine rend ?_
  refine c_or (decide (v2_2 < 0)) (fun q1 => ?_) (fun q1 => ?_)
  · replace h := H.t q1 h
    refine c_seq ?_
    refine r_start ?_
    refine p 1 ?_
    refine rend ?_
    replace h := H.done h
    subst h
    exact ret func14 rfl (vs := [.bool true]) (.tmp (by kernel_rfl) .nil) rfl (fun W S => ⟨rfl, S.below⟩)
  replace h := H.f q1 h
  refine c_skip ?_
  refine c_seq ?_
  refine r_start ?_
  refine p 2 ?_
  obtain ⟨v5_2, hv5_2, h⟩ := H.call h
  refine xq rfl (y_call [.slice A1 (List.length a1) k1, .int .i64 v2_2] (.int .i64 v5_2) func22 (fun W S => C.l_szSignS W hv5_2 ((s_arg h1).out W S))) ?_
  refine p 1 ?_
  refine rend ?_
  refine c_seq ?_
  refine c_seq ?_
  refine r_start ?_
  refine p 2 ?_
  refine rend ?_
  refine c_or (decide (v5_2 < 0)) (fun q2 => ?_) (fun q2 => ?_)
  · replace h := H.t q2 h
    refine c_seq ?_
    refine r_start ?_
    refine p 1 ?_
    refine rend ?_
    replace h := H.done h
    subst h
    exact ret func14 rfl (vs := [.bool true]) (.tmp (by kernel_rfl) .nil) rfl (fun W S => ⟨rfl, S.below⟩)
  replace h := H.f q2 h
  refine c_skip ?_
  refine c_seq ?_
  refine r_start ?_
  refine p 1 ?_
  obtain ⟨v8_1, hv8_1, h⟩ := H.call h
  refine xx rfl (e_cr [.slice A0 (List.length a0) k0] (fun v => v) func24 (fun W S => C.l_toSignS W hv8_1 ((s_arg h0).out W S)) fun A8_1 k8_1 => ?_)
  refine p 1 ?_
  obtain ⟨v8_3, hv8_3, h⟩ := H.call h
  refine xx rfl (e_cr [.slice A1 (List.length a1) k1] (fun v => v) func24 (fun W S => C.l_toSignS W hv8_3 ((s_arg h1).out W S)) fun A8_3 k8_3 => ?_)
  obtain ⟨v8_4, hv8_4, h⟩ := H.call h
  refine xx rfl (e_cr [.slice A8_1 (List.length v8_1) k8_1, .slice A8_3 (List.length v8_3) k8_3] (fun v => .tuple #[v, .bool v8_4.2]) func69 (fun W S => C.s_PartsOfCompound W hv8_4 ((s_own 0).out W S) ((s_own 1).out W S)) fun A8_4 k8_4 => ?_)
  refine p 5 ?_
  refine rend ?_
  refine c_seq ?_
  refine r_start ?_
  refine p 1 ?_
  obtain ⟨v9_1, hv9_1, h⟩ := H.call h
  refine xx rfl (e_cr [.slice A0 (List.length a0) k0] (fun v => v) func24 (fun W S => C.l_toSignS W hv9_1 ((s_arg h0).out W S)) fun A9_1 k9_1 => ?_)
  refine p 1 ?_
  refine rend ?_
  refine c_seq ?_
  refine r_start ?_
  refine p 1 ?_
  obtain ⟨v10_1, hv10_1, h⟩ := H.call h
  refine xx rfl (e_cr [.slice A1 (List.length a1) k1] (fun v => v) func24 (fun W S => C.l_toSignS W hv10_1 ((s_arg h1).out W S)) fun A10_1 k10_1 => ?_)
  refine p 1 ?_
  refine rend ?_
  refine c_seq ?_
  refine r_start ?_
  refine p 2 ?_
  obtain ⟨v11_2, hv11_2, h⟩ := H.call h
  refine xx rfl (e_cr [.slice A9_1 (List.length v9_1) k9_1, .slice A10_1 (List.length v10_1) k10_1] (fun v => .tuple #[v, .bool v11_2.2]) func70 (fun W S => C.i_PartsOfCompound W hv11_2 ((s_own 3).out W S) ((s_own 4).out W S)) fun A11_2 k11_2 => ?_)
  refine p 5 ?_
  refine rend ?_
  refine c_seq ?_
  refine c_seq ?_
  refine r_start ?_
  refine p 2 ?_
  obtain ⟨v12_2, hv12_2, h⟩ := H.call h
  refine xq rfl (y_call [.slice A11_2 (List.length v11_2.1) k11_2, .slice A8_4 (List.length v8_4.1) k8_4] (.bool v12_2) func42 (fun W S => C.l_eqIntS W hv12_2 ((s_own 5).out W S) ((s_own 2).out W S))) ?_
  refine p 2 ?_
  refine br (!v12_2) (fun q3 => ?_) (fun q3 => ?_)
  · replace h := H.t q3 h
    refine o_set 49 (congrArg Value.bool q3) ?_
    refine p 4 ?_
    refine rend ?_
    refine c_t (by kernel_rfl) ?_
    refine c_seq ?_
    refine r_start ?_
    refine p 1 ?_
    refine rend ?_
    refine frg (fun u => (jk u 0 4 (.bool false :: (jk u 5 114 [])))) (by kernel_rfl) fun u => ?_
    refine keep 6 (its' := [rowT nSign w.heap.size 46 (.slice A8_1 (List.length v8_1) k8_1) v8_1, rowT nSign w.heap.size 46 (.slice A8_3 (List.length v8_3) k8_3) v8_3, rowT (eI .i64) w.heap.size 3 (.slice A8_4 (List.length v8_4.1) k8_4) v8_4.1, rowT nSign w.heap.size 46 (.slice A9_1 (List.length v9_1) k9_1) v9_1, rowT nSign w.heap.size 46 (.slice A10_1 (List.length v10_1) k10_1) v10_1, rowT (eI .i64) w.heap.size 3 (.slice A11_2 (List.length v11_2.1) k11_2) v11_2.1]) (by kernel_rfl) ?_
    replace h := H.done h
    subst h
    exact ret func14 rfl (vs := [.bool false]) (.tmp (by kernel_rfl) .nil) rfl (fun W S => ⟨rfl, S.below⟩)
  replace h := H.f q3 h
  refine o_set 49 (congrArg Value.bool q3) ?_
  refine p 4 ?_
  refine rend ?_
  refine c_or (!(v11_2.2 == v8_4.2)) (fun q4 => ?_) (fun q4 => ?_)
  · replace h := H.t q4 h
    refine c_seq ?_
    refine r_start ?_
    refine p 1 ?_
    refine rend ?_
    refine frg (fun u => (jk u 0 4 (.bool false :: (jk u 5 114 [])))) (by kernel_rfl) fun u => ?_
    refine keep 6 (its' := [rowT nSign w.heap.size 46 (.slice A8_1 (List.length v8_1) k8_1) v8_1, rowT nSign w.heap.size 46 (.slice A8_3 (List.length v8_3) k8_3) v8_3, rowT (eI .i64) w.heap.size 3 (.slice A8_4 (List.length v8_4.1) k8_4) v8_4.1, rowT nSign w.heap.size 46 (.slice A9_1 (List.length v9_1) k9_1) v9_1, rowT nSign w.heap.size 46 (.slice A10_1 (List.length v10_1) k10_1) v10_1, rowT (eI .i64) w.heap.size 3 (.slice A11_2 (List.length v11_2.1) k11_2) v11_2.1]) (by kernel_rfl) ?_
    replace h := H.done h
    subst h
    exact ret func14 rfl (vs := [.bool false]) (.tmp (by kernel_rfl) .nil) rfl (fun W S => ⟨rfl, S.below⟩)
  replace h := H.f q4 h
  refine c_skip ?_
  refine c_seq ?_
  refine c_seq ?_
  refine r_start ?_
  refine p 2 ?_
  obtain ⟨v14_2, hv14_2, h⟩ := H.call h
  refine xx rfl (e_cr [.slice A0 (List.length a0) k0] (fun v => v) func24 (fun W S => C.l_toSignS W hv14_2 ((s_arg h0).out W S)) fun A14_2 k14_2 => ?_)
  obtain ⟨v14_3, hv14_3, h⟩ := H.call h
  refine xq rfl (y_call [.slice A9_1 (List.length v9_1) k9_1, .slice A14_2 (List.length v14_2) k14_2] (.bool v14_3) func26 (fun W S => C.l_eqSignS W hv14_3 ((s_own 3).out W S) ((s_own 6).out W S))) ?_
  refine p 1 ?_
  refine rend ?_
  refine frg (fun u => (.slice A0 (List.length a0) k0 :: .slice A1 (List.length a1) k1 :: (jk u 2 4 (.slice A8_4 (List.length v8_4.1) k8_4 :: .bool v8_4.2 :: .slice A9_1 (List.length v9_1) k9_1 :: .slice A10_1 (List.length v10_1) k10_1 :: .slice A11_2 (List.length v11_2.1) k11_2 :: .bool v11_2.2 :: (jk u 12 46 (.bool (!v14_3) :: (jk u 59 60 []))))))) (by kernel_rfl) fun u => ?_
  refine keep 7 (its' := [rowT nSign w.heap.size 46 (.slice A8_1 (List.length v8_1) k8_1) v8_1, rowT nSign w.heap.size 46 (.slice A8_3 (List.length v8_3) k8_3) v8_3, rowT (eI .i64) w.heap.size 3 (.slice A8_4 (List.length v8_4.1) k8_4) v8_4.1, rowT nSign w.heap.size 46 (.slice A9_1 (List.length v9_1) k9_1) v9_1, rowT nSign w.heap.size 46 (.slice A10_1 (List.length v10_1) k10_1) v10_1, rowT (eI .i64) w.heap.size 3 (.slice A11_2 (List.length v11_2.1) k11_2) v11_2.1, rowT nSign w.heap.size 46 (.slice A14_2 (List.length v14_2) k14_2) v14_2]) (by kernel_rfl) ?_
  refine c_or (!v14_3) (fun q5 => ?_) (fun q5 => ?_)
  · replace h := H.t q5 h
    refine c_seq ?_
    refine r_start ?_
    refine p 1 ?_
    refine rend ?_
    replace h := H.done h
    subst h
    exact ret func14 rfl (vs := [.bool false]) (.tmp (by kernel_rfl) .nil) rfl (fun W S => ⟨rfl, S.below⟩)
  replace h := H.f q5 h
  refine c_skip ?_
  refine c_seq ?_
  refine c_seq ?_
  refine r_start ?_
  refine p 2 ?_
  obtain ⟨v16_2, hv16_2, h⟩ := H.call h
  refine xx rfl (e_cr [.slice A1 (List.length a1) k1] (fun v => v) func24 (fun W S => C.l_toSignS W hv16_2 ((s_arg h1).out W S)) fun A16_2 k16_2 => ?_)
  obtain ⟨v16_3, hv16_3, h⟩ := H.call h
  refine xq rfl (y_call [.slice A10_1 (List.length v10_1) k10_1, .slice A16_2 (List.length v16_2) k16_2] (.bool v16_3) func26 (fun W S => C.l_eqSignS W hv16_3 ((s_own 4).out W S) ((s_own 7).out W S))) ?_
  refine p 1 ?_
  refine rend ?_
  refine c_or (!v16_3) (fun q6 => ?_) (fun q6 => ?_)
  · replace h := H.t q6 h
    refine c_seq ?_
    refine r_start ?_
    refine p 1 ?_
    refine rend ?_
    replace h := H.done h
    subst h
    exact ret func14 rfl (vs := [.bool false]) (.tmp (by kernel_rfl) .nil) rfl (fun W S => ⟨rfl, S.below⟩)
  replace h := H.f q6 h
  refine c_skip ?_
  refine c_seq ?_
  refine r_start ?_
  refine p 1 ?_
  refine rend ?_
  refine c_seq ?_
  refine r_start ?_
  refine p 2 ?_
  obtain ⟨v19_2, hv19_2, h⟩ := H.call h
  refine xx rfl (e_cw (e := nSign) (l' := v19_2.2) (v := .int .i64 v19_2.1) 3 [.slice A9_1 (List.length v9_1) k9_1, .int .i64 1] func38 (fun W S => C.l_markSignS W hv19_2 rfl (S.row 3)) fun hl19_2 => ?_)
  refine o_set 8 (sl_len (A := A9_1) (c := k9_1) hl19_2) ?_
  refine p 1 ?_
  refine rend ?_
  refine c_seq ?_
  refine r_start ?_
  refine p 2 ?_
  obtain ⟨v20_2, hv20_2, h⟩ := H.call h
  refine xx rfl (e_cw (e := nSign) (l' := v20_2.2) (v := .int .i64 v20_2.1) 4 [.slice A10_1 (List.length v10_1) k10_1, .int .i64 v19_2.1] func38 (fun W S => C.l_markSignS W hv20_2 rfl (S.row 4)) fun hl20_2 => ?_)
  refine o_set 9 (sl_len (A := A10_1) (c := k10_1) hl20_2) ?_
  refine p 1 ?_
  refine rend ?_
  refine c_seq ?_
  refine c_seq ?_
  refine r_start ?_
  refine p 3 ?_
  refine br (decide (v20_2.1 < 0)) (fun q7 => ?_) (fun q7 => ?_)
  · replace h := H.t q7 h
    refine o_set 72 (congrArg Value.bool q7) ?_
    refine p 10 ?_
    refine rend ?_
    refine c_t (by kernel_rfl) ?_
    refine c_seq ?_
    refine r_start ?_
    refine p 1 ?_
    refine rend ?_
    replace h := H.done h
    subst h
    exact ret func14 rfl (vs := [.bool false]) (.tmp (by kernel_rfl) .nil) rfl (fun W S => ⟨rfl, S.below⟩)
  replace h := H.f q7 h
  refine o_set 72 (congrArg Value.bool q7) ?_
  refine p 2 ?_
  obtain ⟨v21_5, hv21_5, h⟩ := H.call h
  refine xq rfl (y_call [.slice A11_2 (List.length v11_2.1) k11_2, .slice A8_4 (List.length v8_4.1) k8_4] (.bool v21_5) func42 (fun W S => C.l_eqIntS W hv21_5 ((s_own 5).out W S) ((s_own 2).out W S))) ?_
  refine p 3 ?_
  refine br (!v21_5) (fun q8 => ?_) (fun q8 => ?_)
  · replace h := H.t q8 h
    refine o_set 78 (congrArg Value.bool q8) ?_
    refine p 4 ?_
    refine rend ?_
    refine c_t (by kernel_rfl) ?_
    refine c_seq ?_
    refine r_start ?_
    refine p 1 ?_
    refine rend ?_
    replace h := H.done h
    subst h
    exact ret func14 rfl (vs := [.bool false]) (.tmp (by kernel_rfl) .nil) rfl (fun W S => ⟨rfl, S.below⟩)
  replace h := H.f q8 h
  refine o_set 78 (congrArg Value.bool q8) ?_
  refine p 4 ?_
  refine rend ?_
  refine c_no q4 ?_
  refine c_skip ?_
  refine c_seq ?_
  refine r_start ?_
  refine p 1 ?_
  refine rend ?_
  refine c_seq ?_
  refine r_start ?_
  refine p 2 ?_
  obtain ⟨v24_2, hv24_2, h⟩ := H.call h
  refine xx rfl (e_cw (e := (eI .i64)) (l' := v24_2.2) (v := .int .i64 v24_2.1) 5 [.slice A11_2 (List.length v11_2.1) k11_2, .int .i64 1] func43 (fun W S => C.l_markIntS W hv24_2 rfl (S.row 5)) fun hl24_2 => ?_)
  refine o_set 10 (sl_len (A := A11_2) (c := k11_2) hl24_2) ?_
  refine p 1 ?_
  refine rend ?_
  refine c_seq ?_
  refine r_start ?_
  refine p 1 ?_
  refine rend ?_
  refine c_seq ?_
  refine r_start ?_
  refine p 2 ?_
  obtain ⟨v26_2, hv26_2, h⟩ := H.call h
  refine xq rfl (y_call [.slice A11_2 (List.length v24_2.2) k11_2, .int .i64 1] (.int .i64 v26_2) func44 (fun W S => C.l_heldIntS W hv26_2 ((s_own 5).out W S))) ?_
  refine p 1 ?_
  refine rend ?_
  refine c_seq ?_
  refine c_seq ?_
  refine r_start ?_
  refine p 2 ?_
  refine rend ?_
  refine c_or (decide (v26_2 < 0)) (fun q9 => ?_) (fun q9 => ?_)
  · replace h := H.t q9 h
    refine c_seq ?_
    refine r_start ?_
    refine p 1 ?_
    refine rend ?_
    replace h := H.done h
    subst h
    exact ret func14 rfl (vs := [.bool false]) (.tmp (by kernel_rfl) .nil) rfl (fun W S => ⟨rfl, S.below⟩)
  replace h := H.f q9 h
  refine c_skip ?_
  refine c_seq ?_
  refine c_seq ?_
  refine r_start ?_
  refine p 3 ?_
  refine rend ?_
  refine c_or (v26_2 != v24_2.1) (fun q10 => ?_) (fun q10 => ?_)
  · replace h := H.t q10 h
    refine c_seq ?_
    refine r_start ?_
    refine p 1 ?_
    refine rend ?_
    refine frg (fun u => (jk u 0 4 (.bool false :: (jk u 5 114 [])))) (by kernel_rfl) fun u => ?_
    refine keep 8 (its' := [rowT nSign w.heap.size 46 (.slice A8_1 (List.length v8_1) k8_1) v8_1, rowT nSign w.heap.size 46 (.slice A8_3 (List.length v8_3) k8_3) v8_3, rowT (eI .i64) w.heap.size 3 (.slice A8_4 (List.length v8_4.1) k8_4) v8_4.1, rowT nSign w.heap.size 46 (.slice A9_1 (List.length v19_2.2) k9_1) v19_2.2, rowT nSign w.heap.size 46 (.slice A10_1 (List.length v20_2.2) k10_1) v20_2.2, rowT (eI .i64) w.heap.size 3 (.slice A11_2 (List.length v24_2.2) k11_2) v24_2.2, rowT nSign w.heap.size 46 (.slice A14_2 (List.length v14_2) k14_2) v14_2, rowT nSign w.heap.size 46 (.slice A16_2 (List.length v16_2) k16_2) v16_2]) (by kernel_rfl) ?_
    replace h := H.done h
    subst h
    exact ret func14 rfl (vs := [.bool false]) (.tmp (by kernel_rfl) .nil) rfl (fun W S => ⟨rfl, S.below⟩)
  replace h := H.f q10 h
  refine c_skip ?_
  refine c_seq ?_
  refine r_start ?_
  refine p 1 ?_
  obtain ⟨v31_1, hv31_1, h⟩ := H.call h
  refine xx rfl (e_cr [.slice A0 (List.length a0) k0] (fun v => v) func24 (fun W S => C.l_toSignS W hv31_1 ((s_arg h0).out W S)) fun A31_1 k31_1 => ?_)
  refine p 1 ?_
  obtain ⟨v31_3, hv31_3, h⟩ := H.call h
  refine xx rfl (e_cr [.slice A1 (List.length a1) k1] (fun v => v) func24 (fun W S => C.l_toSignS W hv31_3 ((s_arg h1).out W S)) fun A31_3 k31_3 => ?_)
  obtain ⟨v31_4, hv31_4, h⟩ := H.call h
  refine xx rfl (e_cr [.slice A31_1 (List.length v31_1) k31_1, .slice A31_3 (List.length v31_3) k31_3] (fun v => .tuple #[v, .bool v31_4.2]) func70 (fun W S => C.i_PartsOfCompound W hv31_4 ((s_own 8).out W S) ((s_own 9).out W S)) fun A31_4 k31_4 => ?_)
  refine p 5 ?_
  refine rend ?_
  refine frg (fun u => (jk u 0 6 (.slice A8_4 (List.length v8_4.1) k8_4 :: .bool v8_4.2 :: (jk u 8 2 (.slice A11_2 (List.length v24_2.2) k11_2 :: (jk u 11 2 (.int .i64 v24_2.1 :: (jk u 14 1 (.slice A31_4 (List.length v31_4.1) k31_4 :: .bool v31_4.2 :: (jk u 17 102 [])))))))))) (by kernel_rfl) fun u => ?_
  refine keep 11 (its' := [rowT nSign w.heap.size 46 (.slice A8_1 (List.length v8_1) k8_1) v8_1, rowT nSign w.heap.size 46 (.slice A8_3 (List.length v8_3) k8_3) v8_3, rowT (eI .i64) w.heap.size 3 (.slice A8_4 (List.length v8_4.1) k8_4) v8_4.1, rowT nSign w.heap.size 46 (.slice A9_1 (List.length v19_2.2) k9_1) v19_2.2, rowT nSign w.heap.size 46 (.slice A10_1 (List.length v20_2.2) k10_1) v20_2.2, rowT (eI .i64) w.heap.size 3 (.slice A11_2 (List.length v24_2.2) k11_2) v24_2.2, rowT nSign w.heap.size 46 (.slice A14_2 (List.length v14_2) k14_2) v14_2, rowT nSign w.heap.size 46 (.slice A16_2 (List.length v16_2) k16_2) v16_2, rowT nSign w.heap.size 46 (.slice A31_1 (List.length v31_1) k31_1) v31_1, rowT nSign w.heap.size 46 (.slice A31_3 (List.length v31_3) k31_3) v31_3, rowT (eI .i64) w.heap.size 3 (.slice A31_4 (List.length v31_4.1) k31_4) v31_4.1]) (by kernel_rfl) ?_
  refine c_seq ?_
  refine c_seq ?_
  refine r_start ?_
  refine p 2 ?_
  obtain ⟨v32_2, hv32_2, h⟩ := H.call h
  refine xq rfl (y_call [.slice A31_4 (List.length v31_4.1) k31_4, .slice A8_4 (List.length v8_4.1) k8_4] (.bool v32_2) func42 (fun W S => C.l_eqIntS W hv32_2 ((s_own 10).out W S) ((s_own 2).out W S))) ?_
  refine p 2 ?_
  refine br (!v32_2) (fun q11 => ?_) (fun q11 => ?_)
  · replace h := H.t q11 h
    refine o_set 106 (congrArg Value.bool q11) ?_
    refine p 4 ?_
    refine rend ?_
    refine c_t (by kernel_rfl) ?_
    refine c_seq ?_
    refine r_start ?_
    refine p 1 ?_
    refine rend ?_
    replace h := H.done h
    subst h
    exact ret func14 rfl (vs := [.bool false]) (.tmp (by kernel_rfl) .nil) rfl (fun W S => ⟨rfl, S.below⟩)
  replace h := H.f q11 h
  refine o_set 106 (congrArg Value.bool q11) ?_
  refine p 4 ?_
  refine rend ?_
  refine c_or (!(v31_4.2 == v8_4.2)) (fun q12 => ?_) (fun q12 => ?_)
  · replace h := H.t q12 h
    refine c_seq ?_
    refine r_start ?_
    refine p 1 ?_
    refine rend ?_
    replace h := H.done h
    subst h
    exact ret func14 rfl (vs := [.bool false]) (.tmp (by kernel_rfl) .nil) rfl (fun W S => ⟨rfl, S.below⟩)
  replace h := H.f q12 h
  refine c_skip ?_
  refine c_seq ?_
  refine r_start ?_
  refine p 1 ?_
  refine rend ?_
  refine c_seq ?_
  refine r_start ?_
  refine p 2 ?_
  obtain ⟨v35_2, hv35_2, h⟩ := H.call h
  refine xq rfl (y_call [.slice A11_2 (List.length v24_2.2) k11_2, .int .i64 1] (.int .i64 v35_2) func44 (fun W S => C.l_heldIntS W hv35_2 ((s_own 5).out W S))) ?_
  refine p 1 ?_
  refine rend ?_
  refine c_seq ?_
  refine c_seq ?_
  refine r_start ?_
  refine p 2 ?_
  refine rend ?_
  refine c_or (decide (v35_2 < 0)) (fun q13 => ?_) (fun q13 => ?_)
  · replace h := H.t q13 h
    refine c_seq ?_
    refine r_start ?_
    refine p 1 ?_
    refine rend ?_
    replace h := H.done h
    subst h
    exact ret func14 rfl (vs := [.bool false]) (.tmp (by kernel_rfl) .nil) rfl (fun W S => ⟨rfl, S.below⟩)
  replace h := H.f q13 h
  refine c_skip ?_
  refine c_seq ?_
  refine c_seq ?_
  refine r_start ?_
  refine p 3 ?_
  refine rend ?_
  refine c_or (v35_2 != v24_2.1) (fun q14 => ?_) (fun q14 => ?_)
  · replace h := H.t q14 h
    refine c_seq ?_
    refine r_start ?_
    refine p 1 ?_
    refine rend ?_
    replace h := H.done h
    subst h
    exact ret func14 rfl (vs := [.bool false]) (.tmp (by kernel_rfl) .nil) rfl (fun W S => ⟨rfl, S.below⟩)
  replace h := H.f q14 h
  refine c_skip ?_
  refine c_seq ?_
  refine r_start ?_
  refine p 1 ?_
  refine rend ?_
  replace h := H.done h
  subst h
  exact ret func14 rfl (vs := [.bool true]) (.tmp (by kernel_rfl) .nil) rfl (fun W S => ⟨rfl, S.below⟩)
end Go.Proofs.XC
