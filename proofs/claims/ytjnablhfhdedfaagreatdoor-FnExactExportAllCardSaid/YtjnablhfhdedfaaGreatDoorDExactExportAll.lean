/- Contracts: each function, called where its plain function gives an answer, returns just that answer and changes nothing that was there. By AI agents; no person has read it. -/
import Derived.Test.YtjnablhfhdedfaaGreatDoorC2
set_option linter.unusedVariables false
set_option linter.unusedSimpArgs false
set_option maxRecDepth 100000
set_option maxHeartbeats 40000000
namespace Go.Proofs.XC
open Go Go.RowKit
open Tryz
theorem C.l_eqStringS {fu : Nat} {a0 : (List Str)} {A0 : Option Addr} {k0 : Nat} {a1 : (List Str)} {A1 : Option Addr} {k1 : Nat} {r : Bool} (w : World) (h : X.l_eqStringS fu a0 a1 = some r) (h0 : RdT eS w (.slice A0 (List.length a0) k0) a0) (h1 : RdT eS w (.slice A1 (List.length a1) k1) a1) : Calls prog 29 #[.slice A0 (List.length a0) k0, .slice A1 (List.length a1) k1] w (Ret w (.bool r)) := by
  refine calls (M := no) (args := [.slice A0 (List.length a0) k0, .slice A1 (List.length a1) k1]) func29 rfl ?_
  replace h : H (X.l_eqStringS fu a0 a1) (fun o => o = r) := H.mk h
  unfold X.l_eqStringS at h
  refine c_seq ?_
  refine r_start ?_
  refine p 1 ?_
  refine rend ?_
  refine c_seq ?_
  refine c_seq ?_
  refine r_start ?_
  refine p 5 ?_
  refine rend ?_
  refine c_or ((List.length a0 : Int) != (List.length a1 : Int)) (fun q1 => ?_) (fun q1 => ?_)
  · replace h := H.t q1 h
    refine c_seq ?_
    refine r_start ?_
    refine p 1 ?_
    refine rend ?_
    replace h := H.done h
    subst h
    exact ret func29 rfl (vs := [.bool false]) (.tmp (by kernel_rfl) .nil) rfl (fun W S => ⟨rfl, S.below⟩)
  replace h := H.f q1 h
  refine c_skip ?_
  refine c_seq ?_
  refine c_seq ?_
  refine r_start ?_
  refine p 1 ?_
  refine rend ?_
  refine c_block ?_
  refine joinE (X := Unit) 0 (H.or h) (fun (x : Unit) => x) (fun _ => []) (fun _ u => (jk u 0 26 [])) (fun h hj3 => ?_) ?_
  · skip
    refine loopR (X := Int) (fun (x : Int) => x) (fun n2 => []) (fun n2 u => (.slice A0 (List.length a0) k0 :: .slice A1 (List.length a1) k1 :: (jk u 2 3 (.int .i64 n2 :: (jk u 6 20 []))))) 0 h (by kernel_rfl) (by kernel_rfl) ?_
    intro n2 u h
    refine c_seq ?_
    refine c_seq ?_
    refine r_start ?_
    refine p 4 ?_
    refine rend ?_
    refine c_or (decide (n2 < (List.length a0 : Int))) (fun q4 => ?_) (fun q4 => ?_)
    · replace h := H.t q4 h
      refine c_skip ?_
      refine c_seq ?_
      refine c_block ?_
      refine c_seq ?_
      refine as_start 9 9 ?_
      refine ap 0 2 ?_
      obtain ⟨y6_2, hy6_2, h⟩ := H.call h
      refine aq 2 rfl (y_idx (e := eS) (el := 9) hy6_2 (s_arg h0)) ?_
      refine aq 3 rfl (y_el (e := eS) 0 (.string (bs y6_2)) hy6_2 (s_arg h0)) ?_
      refine ap 4 2 ?_
      obtain ⟨y6_6, hy6_6, h⟩ := H.call h
      refine aq 6 rfl (y_idx (e := eS) (el := 9) hy6_6 (s_arg h1)) ?_
      refine aq 7 rfl (y_el (e := eS) 0 (.string (bs y6_6)) hy6_6 (s_arg h1)) ?_
      refine ap 8 1 ?_
      refine a_done ?_
      refine c_or (!seq y6_2 y6_6) (fun q5 => ?_) (fun q5 => ?_)
      · replace h := H.t q5 h
        refine c_seq ?_
        refine r_start ?_
        refine p 1 ?_
        refine rend ?_
        replace h := H.inr h
        replace h := H.done h
        subst h
        exact ret func29 rfl (vs := [.bool false]) (.tmp (by kernel_rfl) .nil) rfl (fun W S => ⟨rfl, S.below⟩)
      replace h := H.f q5 h
      refine c_skip ?_
      refine c_inb ?_
      refine r_start ?_
      refine p 3 ?_
      refine rend ?_
      replace h := H.inl h
      exact h (wr (n2 + 1)) _ _ rfl (by kernel_rfl) (by kernel_rfl)
    replace h := H.f q4 h
    refine cx ?_
    replace h := H.inr h
    exact hj3 () _ _ h (by kernel_rfl) (by kernel_rfl)
  intro x u h
  refine c_seq ?_
  refine r_start ?_
  refine p 1 ?_
  refine rend ?_
  replace h := H.done h
  subst h
  exact ret func29 rfl (vs := [.bool true]) (.tmp (by kernel_rfl) .nil) rfl (fun W S => ⟨rfl, S.below⟩)
theorem C.l_markStringS {fu : Nat} {a0 : (List Str)} {A0 : Option Addr} {k0 B0 n0 : Nat} {a1 : Int} {r : (Int × (List Str))} (w : World) (h : X.l_markStringS fu a0 a1 = some r) (hn0 : List.length a0 = n0) (h0 : World.ownsRow w B0 9 (Enc.sz eS) (.slice A0 n0 k0) n0 (Enc.flat eS a0)) : Calls prog 32 #[.slice A0 (n0) k0, .int .i64 a1] w (RetW eS B0 9 A0 n0 k0 w r.2 (.int .i64 r.1)) := by
  subst hn0
  refine callsW (args := [.slice A0 (List.length a0) k0, .int .i64 a1]) rfl h0 func32 rfl ?_
  replace h : H (X.l_markStringS fu a0 a1) (fun o => o = r) := H.mk h
  unfold X.l_markStringS at h
  refine c_seq ?_
  refine r_start ?_
  refine p 1 ?_
  refine rend ?_
  refine c_seq ?_
  refine c_seq ?_
  refine r_start ?_
  refine p 1 ?_
  refine rend ?_
  refine c_block ?_
  refine joinH (X := (Int × (List Str))) 0 (H.bnd h) (fun (x : (Int × (List Str))) => x) (fun ⟨n4, l5⟩ => [argW eS B0 9 A0 (List.length a0) k0 l5]) (fun ⟨n4, l5⟩ u => (jk u 0 1 (.int .i64 n4 :: (jk u 2 18 [])))) (fun h hj6 => ?_) ?_
  · skip
    refine loopR (X := (Int × Int × (List Str))) (fun (x : (Int × Int × (List Str))) => x) (fun ⟨n1, n2, l3⟩ => [argW eS B0 9 A0 (List.length a0) k0 l3]) (fun ⟨n1, n2, l3⟩ u => (.slice A0 (List.length a0) k0 :: .int .i64 n1 :: (jk u 2 3 (.int .i64 n2 :: (jk u 6 14 []))))) (a1, 0, a0) h (by kernel_rfl) (by kernel_rfl) ?_
    intro x u h
    obtain ⟨n1, n2, l3⟩ := x
    refine c_seq ?_
    refine c_seq ?_
    refine r_start ?_
    refine p 4 ?_
    refine rend ?_
    refine c_or (decide (n2 < (List.length a0 : Int))) (fun q7 => ?_) (fun q7 => ?_)
    · replace h := H.t q7 h
      refine c_skip ?_
      refine c_seq ?_
      refine c_block ?_
      refine c_seq ?_
      refine r_start ?_
      refine p 3 ?_
      obtain ⟨v4_3, hv4_3, h⟩ := H.call h
      refine xq rfl (y_call [.int .i64 n1] (.string (bs v4_3)) func94 (fun W S => C.l_markText W hv4_3)) ?_
      obtain ⟨y4_4, hy4_4, h⟩ := H.call h
      refine xq rfl (y_idxW (e := eS) (el := 9) 0 hy4_4) ?_
      refine xx rfl (e_stW (e := eS) (b := v4_3) 0 0 ([.string (bs v4_3)]) hy4_4 (by kernel_rfl) ?_)
      refine rend ?_
      refine r_start ?_
      refine p 3 ?_
      refine rend ?_
      refine c_inb ?_
      refine r_start ?_
      refine p 3 ?_
      refine rend ?_
      replace h := H.inl h
      exact h ((wr (n1 + 1)), (wr (n2 + 1)), (List.set l3 (Int.toNat n2) v4_3)) _ _ rfl (by kernel_rfl) (by kernel_rfl)
    replace h := H.f q7 h
    refine cx ?_
    replace h := H.inr h
    exact hj6 (n1, l3) _ _ h (by kernel_rfl) (by kernel_rfl)
  intro x u h
  obtain ⟨n4, l5⟩ := x
  refine c_seq ?_
  refine r_start ?_
  refine p 2 ?_
  refine rend ?_
  replace h := H.done h
  subst h
  exact ret func32 rfl (vs := [.int .i64 n4]) (.tmp (by kernel_rfl) .nil) rfl (fun W S => S.retW)
theorem C.l_heldStringS {fu : Nat} {a0 : (List Str)} {A0 : Option Addr} {k0 : Nat} {a1 : Int} {r : Int} (w : World) (h : X.l_heldStringS fu a0 a1 = some r) (h0 : RdT eS w (.slice A0 (List.length a0) k0) a0) : Calls prog 33 #[.slice A0 (List.length a0) k0, .int .i64 a1] w (Ret w (.int .i64 r)) := by
  refine calls (M := no) (args := [.slice A0 (List.length a0) k0, .int .i64 a1]) func33 rfl ?_
  replace h : H (X.l_heldStringS fu a0 a1) (fun o => o = r) := H.mk h
  unfold X.l_heldStringS at h
  refine c_seq ?_
  refine r_start ?_
  refine p 1 ?_
  refine rend ?_
  refine c_seq ?_
  refine c_seq ?_
  refine r_start ?_
  refine p 1 ?_
  refine rend ?_
  refine c_block ?_
  refine joinE (X := Int) 0 (H.or h) (fun (x : Int) => x) (fun n3 => []) (fun n3 u => (jk u 0 1 (.int .i64 n3 :: (jk u 2 20 [])))) (fun h hj4 => ?_) ?_
  · skip
    refine loopR (X := (Int × Int)) (fun (x : (Int × Int)) => x) (fun ⟨n1, n2⟩ => []) (fun ⟨n1, n2⟩ u => (.slice A0 (List.length a0) k0 :: .int .i64 n1 :: (jk u 2 3 (.int .i64 n2 :: (jk u 6 16 []))))) (a1, 0) h (by kernel_rfl) (by kernel_rfl) ?_
    intro x u h
    obtain ⟨n1, n2⟩ := x
    refine c_seq ?_
    refine c_seq ?_
    refine r_start ?_
    refine p 4 ?_
    refine rend ?_
    refine c_or (decide (n2 < (List.length a0 : Int))) (fun q5 => ?_) (fun q5 => ?_)
    · replace h := H.t q5 h
      refine c_skip ?_
      refine c_seq ?_
      refine c_block ?_
      refine c_seq ?_
      refine c_seq ?_
      refine as_start 7 7 ?_
      refine ap 0 2 ?_
      obtain ⟨y4_2, hy4_2, h⟩ := H.call h
      refine aq 2 rfl (y_idx (e := eS) (el := 9) hy4_2 (s_arg h0)) ?_
      refine aq 3 rfl (y_el (e := eS) 0 (.string (bs y4_2)) hy4_2 (s_arg h0)) ?_
      refine ap 4 1 ?_
      obtain ⟨v4_5, hv4_5, h⟩ := H.call h
      refine aq 5 rfl (y_call [.int .i64 n1] (.string (bs v4_5)) func94 (fun W S => C.l_markText W hv4_5)) ?_
      refine ap 6 1 ?_
      refine a_done ?_
      refine c_or (!seq y4_2 v4_5) (fun q6 => ?_) (fun q6 => ?_)
      · replace h := H.t q6 h
        refine c_seq ?_
        refine r_start ?_
        refine p 1 ?_
        refine rend ?_
        replace h := H.inr h
        replace h := H.done h
        subst h
        exact ret func33 rfl (vs := [.int .i64 (-1)]) (.tmp (by kernel_rfl) .nil) rfl (fun W S => ⟨rfl, S.below⟩)
      replace h := H.f q6 h
      refine c_skip ?_
      refine r_start ?_
      refine p 3 ?_
      refine rend ?_
      refine c_inb ?_
      refine r_start ?_
      refine p 3 ?_
      refine rend ?_
      replace h := H.inl h
      exact h ((wr (n1 + 1)), (wr (n2 + 1))) _ _ rfl (by kernel_rfl) (by kernel_rfl)
    replace h := H.f q5 h
    refine cx ?_
    replace h := H.inr h
    exact hj4 n1 _ _ h (by kernel_rfl) (by kernel_rfl)
  intro n3 u h
  refine c_seq ?_
  refine r_start ?_
  refine p 2 ?_
  refine rend ?_
  replace h := H.done h
  subst h
  exact ret func33 rfl (vs := [.int .i64 n3]) (.tmp (by kernel_rfl) .nil) rfl (fun W S => ⟨rfl, S.below⟩)
theorem C.s_imText {fu : Nat} {a0 : Hand} {r : Str} (w : World) (h : X.s_imText fu a0 = some r) : Calls prog 120 #[.agg (eHand a0).toArray] w (Ret w (.string (bs r))) := by
  refine calls (M := no) (args := [.agg (eHand a0).toArray]) func120 rfl ?_
  replace h : H (X.s_imText fu a0) (fun o => o = r) := H.mk h
  unfold X.s_imText at h
  refine c_seq ?_
  refine r_start ?_
  refine xx rfl (x_box (eHand a0) fun g0_0 => ?_)
  refine p 1 ?_
  refine rend ?_
  refine c_seq ?_
  refine as_start 20 20 ?_
  refine ap 0 1 ?_
  refine aq 1 rfl (y_load (.agg (eShape a0.Shape).toArray) 0 g0_0 0) ?_
  obtain ⟨v1_2, hv1_2, h⟩ := H.call h
  refine aq 2 rfl (y_call [.agg (eShape a0.Shape).toArray] (.string (bs v1_2)) func188 (fun W S => C.s_shText W hv1_2)) ?_
  obtain ⟨y1_3, hy1_3, h⟩ := H.call h
  refine aq 3 rfl (y_cat hy1_3) ?_
  obtain ⟨y1_4, hy1_4, h⟩ := H.call h
  refine aq 4 rfl (y_cat hy1_4) ?_
  refine ap 5 1 ?_
  refine aq 6 rfl (y_load (.agg (eOrient a0.Orient).toArray) 0 g0_0 6) ?_
  obtain ⟨v1_7, hv1_7, h⟩ := H.call h
  refine aq 7 rfl (y_call [.agg (eOrient a0.Orient).toArray] (.string (bs v1_7)) func189 (fun W S => C.s_orText W hv1_7)) ?_
  obtain ⟨y1_8, hy1_8, h⟩ := H.call h
  refine aq 8 rfl (y_cat hy1_8) ?_
  obtain ⟨y1_9, hy1_9, h⟩ := H.call h
  refine aq 9 rfl (y_cat hy1_9) ?_
  refine ap 10 1 ?_
  refine aq 11 rfl (y_load (.agg (ePlace a0.Place).toArray) 0 g0_0 8) ?_
  obtain ⟨v1_12, hv1_12, h⟩ := H.call h
  refine aq 12 rfl (y_call [.agg (ePlace a0.Place).toArray] (.string (bs v1_12)) func190 (fun W S => C.s_plText W hv1_12)) ?_
  obtain ⟨y1_13, hy1_13, h⟩ := H.call h
  refine aq 13 rfl (y_cat hy1_13) ?_
  obtain ⟨y1_14, hy1_14, h⟩ := H.call h
  refine aq 14 rfl (y_cat hy1_14) ?_
  refine ap 15 1 ?_
  refine aq 16 rfl (y_load (.agg (eMove a0.Move).toArray) 0 g0_0 11) ?_
  obtain ⟨v1_17, hv1_17, h⟩ := H.call h
  refine aq 17 rfl (y_call [.agg (eMove a0.Move).toArray] (.string (bs v1_17)) func191 (fun W S => C.s_mvText W hv1_17)) ?_
  obtain ⟨y1_18, hy1_18, h⟩ := H.call h
  refine aq 18 rfl (y_cat hy1_18) ?_
  refine ap 19 1 ?_
  refine a_done ?_
  replace h := H.done h
  subst h
  exact ret func120 rfl (vs := [.string (bs y1_18)]) (.tmp (by kernel_rfl) .nil) rfl (fun W S => ⟨rfl, S.below⟩)
theorem C.s_ExportAll {fu : Nat} {a0 : (List Sign)} {A0 : Option Addr} {k0 : Nat} {r : ((List Str) × Bool)} (w : World) (h : X.s_ExportAll fu a0 = some r) (h0 : RdT nSign w (.slice A0 (List.length a0) k0) a0) : Calls prog 52 #[.slice A0 (List.length a0) k0] w (RetR eS 9 w r.1 (fun v => .tuple #[v, .bool r.2])) := by
  refine calls (M := no) (args := [.slice A0 (List.length a0) k0]) func52 rfl ?_
  replace h : H (X.s_ExportAll fu a0) (fun o => o = r) := H.mk h
  unfold X.s_ExportAll at h
  refine c_seq ?_
  refine r_start ?_
  refine p 2 ?_
  refine rend ?_
  refine c_seq ?_
  refine c_seq ?_
  refine r_start ?_
  refine p 1 ?_
  obtain ⟨v1_1, hv1_1, h⟩ := H.call h
  refine xq rfl (y_call [.slice A0 (List.length a0) k0] (.bool v1_1) func75 (fun W S => C.s_paList W hv1_1 ((s_arg h0).out W S))) ?_
  refine p 1 ?_
  refine rend ?_
  refine c_or (!v1_1) (fun q1 => ?_) (fun q1 => ?_)
  · replace h := H.t q1 h
    refine c_seq ?_
    refine r_start ?_
    refine p 2 ?_
    refine rend ?_
    replace h := H.done h
    subst h
    exact ret func52 rfl (vs := [.slice none 0 0, .bool false]) (.tmp (by kernel_rfl) (.tmp (by kernel_rfl) .nil)) rfl (fun W S => ⟨none, 0, rfl, World.ownsRow_nil _ _ _ _, S.below⟩)
  replace h := H.f q1 h
  refine c_skip ?_
  refine c_seq ?_
  refine r_start ?_
  refine p 1 ?_
  refine rend ?_
  refine c_seq ?_
  refine c_seq ?_
  refine r_start ?_
  refine p 3 ?_
  refine rend ?_
  refine c_block ?_
  refine c_nil eS 9 ?_
  refine joinH (X := ((List Str) × Option Addr × Nat)) 0 (H.bnd h) (fun ⟨l5, A6, k7⟩ => l5) (fun ⟨l5, A6, k7⟩ => [rowT eS w.heap.size 9 (.slice A6 (List.length l5) k7) l5]) (fun ⟨l5, A6, k7⟩ u => (jk u 0 4 (.slice A6 (List.length l5) k7 :: (jk u 5 29 [])))) (fun h hj8 => ?_) ?_
  · skip
    refine rangeR (X := ((List Str) × Option Addr × Nat)) (s_arg h0) (fun ⟨l2, A3, k4⟩ => l2) (fun ⟨l2, A3, k4⟩ => [rowT eS w.heap.size 9 (.slice A3 (List.length l2) k4) l2]) (fun (j9 : Nat) ⟨l2, A3, k4⟩ u => (jk u 0 4 (.slice A3 (List.length l2) k4 :: (jk u 5 6 (.slice A0 (List.length a0) k0 :: .int .i64 (List.length a0 : Int) :: .int .i64 (j9 : Int) :: (jk u 14 20 [])))))) (([] : List Str), none, 0) h (by kernel_rfl) (by kernel_rfl) ?_ ?_
    · intro j9 x u x10 q11 hg12 hw13 h
      obtain ⟨l2, A3, k4⟩ := x
      refine c_seq ?_
      refine r_start ?_
      refine p 1 ?_
      refine rend ?_
      refine c_seq ?_
      refine c_yes q11 ?_
      refine c_skip ?_
      refine c_seq ?_
      refine c_block ?_
      refine c_seq ?_
      refine r_start ?_
      refine xq rfl (y_idx (e := nSign) (el := 62) hg12 (s_arg h0)) ?_
      refine xq rfl (y_el (e := nSign) 0 (.agg (eSign x10).toArray) hg12 (s_arg h0)) ?_
      refine xx rfl (x_new (eSign zSign) fun g6_2 => ?_)
      refine xx rfl (x_sto 1 g6_2 0 (eSign x10) ?_)
      refine rend ?_
      refine c_seq ?_
      refine r_start ?_
      refine p 1 ?_
      refine xq rfl (y_load (.agg (eHand x10.Main).toArray) 1 g6_2 0) ?_
      obtain ⟨v7_2, hv7_2, h⟩ := H.call h
      refine xq rfl (y_call [.agg (eHand x10.Main).toArray] (.string (bs v7_2)) func120 (fun W S => C.s_imText W hv7_2)) ?_
      refine p 1 ?_
      refine rend ?_
      refine c_seq ?_
      refine c_seq ?_
      refine r_start ?_
      refine p 1 ?_
      refine xq rfl (y_load (.bool x10.Two) 1 g6_2 13) ?_
      refine rend ?_
      refine c_or x10.Two (fun q14 => ?_) (fun q14 => ?_)
      · replace h := H.t q14 h
        refine r_start ?_
        refine p 2 ?_
        refine xq rfl (y_load (.agg (eHand x10.Other).toArray) 1 g6_2 14) ?_
        obtain ⟨v9_3, hv9_3, h⟩ := H.call h
        refine xq rfl (y_call [.agg (eHand x10.Other).toArray] (.string (bs v9_3)) func120 (fun W S => C.s_imText W hv9_3)) ?_
        obtain ⟨y9_4, hy9_4, h⟩ := H.call h
        refine xq rfl (y_cat hy9_4) ?_
        obtain ⟨y9_5, hy9_5, h⟩ := H.call h
        refine xq rfl (y_cat hy9_5) ?_
        refine p 1 ?_
        refine rend ?_
        refine r_start ?_
        refine p 2 ?_
        refine xx rfl (e_lit (e := eS) (el := 9) [.string (bs y9_5)] ([y9_5] : List Str) fun A10_2 k10_2 => ?_)
        obtain ⟨y10_3, hy10_3, h⟩ := H.call h
        refine xx rfl (e_app 0 hy10_3 (s_own 2) fun A10_3 k10_3 => ?_)
        refine p 1 ?_
        refine rend ?_
        refine c_inb ?_
        refine r_start ?_
        refine p 2 ?_
        refine rend ?_
        refine c_set 13 (ci hw13) ?_
        replace h := H.inl h
        exact h (y10_3, A10_3, k10_3) _ _ rfl (by kernel_rfl) (by kernel_rfl)
      replace h := H.f q14 h
      refine c_skip ?_
      refine r_start ?_
      refine p 2 ?_
      refine xx rfl (e_lit (e := eS) (el := 9) [.string (bs v7_2)] ([v7_2] : List Str) fun A10_2 k10_2 => ?_)
      obtain ⟨y10_3, hy10_3, h⟩ := H.call h
      refine xx rfl (e_app 0 hy10_3 (s_own 2) fun A10_3 k10_3 => ?_)
      refine p 1 ?_
      refine rend ?_
      refine c_inb ?_
      refine r_start ?_
      refine p 2 ?_
      refine rend ?_
      refine c_set 13 (ci hw13) ?_
      replace h := H.inl h
      exact h (y10_3, A10_3, k10_3) _ _ rfl (by kernel_rfl) (by kernel_rfl)
    · intro x u q11 h
      obtain ⟨l2, A3, k4⟩ := x
      refine c_seq ?_
      refine r_start ?_
      refine p 1 ?_
      refine rend ?_
      refine c_seq ?_
      refine c_no q11 ?_
      refine cx ?_
      replace h := H.done h
      exact hj8 (l2, A3, k4) _ _ h (by kernel_rfl) (by kernel_rfl)
  intro x u h
  obtain ⟨l5, A6, k7⟩ := x
  refine c_seq ?_
  refine r_start ?_
  refine p 3 ?_
  refine rend ?_
  replace h := H.done h
  subst h
  exact ret func52 rfl (vs := [.slice A6 (List.length l5) k7, .bool true]) (.tmp (by kernel_rfl) (.tmp (by kernel_rfl) .nil)) rfl (fun W S => ⟨_, _, rfl, S.row 0, S.below⟩)
theorem C.i_Hand_old {a0 : Hand} {r : Str} (w : World) (h : X.i_Hand_old a0 = some r) : Calls prog 121 #[.agg (eHand a0).toArray] w (Ret w (.string (bs r))) := by
  refine calls (M := no) (args := [.agg (eHand a0).toArray]) func121 rfl ?_
  replace h : H (X.i_Hand_old a0) (fun o => o = r) := H.mk h
  unfold X.i_Hand_old at h
  refine c_seq ?_
  refine r_start ?_
  refine xx rfl (x_box (eHand a0) fun g0_0 => ?_)
  refine p 1 ?_
  refine rend ?_
  refine c_seq ?_
  refine as_start 20 20 ?_
  refine ap 0 1 ?_
  refine aq 1 rfl (y_load (.agg (eShape a0.Shape).toArray) 0 g0_0 0) ?_
  obtain ⟨v1_2, hv1_2, h⟩ := H.call h
  refine aq 2 rfl (y_call [.agg (eShape a0.Shape).toArray] (.string (bs v1_2)) func180 (fun W S => C.i_Shape_text W hv1_2)) ?_
  obtain ⟨y1_3, hy1_3, h⟩ := H.call h
  refine aq 3 rfl (y_cat hy1_3) ?_
  obtain ⟨y1_4, hy1_4, h⟩ := H.call h
  refine aq 4 rfl (y_cat hy1_4) ?_
  refine ap 5 1 ?_
  refine aq 6 rfl (y_load (.agg (eOrient a0.Orient).toArray) 0 g0_0 6) ?_
  obtain ⟨v1_7, hv1_7, h⟩ := H.call h
  refine aq 7 rfl (y_call [.agg (eOrient a0.Orient).toArray] (.string (bs v1_7)) func181 (fun W S => C.i_Orient_text W hv1_7)) ?_
  obtain ⟨y1_8, hy1_8, h⟩ := H.call h
  refine aq 8 rfl (y_cat hy1_8) ?_
  obtain ⟨y1_9, hy1_9, h⟩ := H.call h
  refine aq 9 rfl (y_cat hy1_9) ?_
  refine ap 10 1 ?_
  refine aq 11 rfl (y_load (.agg (ePlace a0.Place).toArray) 0 g0_0 8) ?_
  obtain ⟨v1_12, hv1_12, h⟩ := H.call h
  refine aq 12 rfl (y_call [.agg (ePlace a0.Place).toArray] (.string (bs v1_12)) func182 (fun W S => C.i_Place_text W hv1_12)) ?_
  obtain ⟨y1_13, hy1_13, h⟩ := H.call h
  refine aq 13 rfl (y_cat hy1_13) ?_
  obtain ⟨y1_14, hy1_14, h⟩ := H.call h
  refine aq 14 rfl (y_cat hy1_14) ?_
  refine ap 15 1 ?_
  refine aq 16 rfl (y_load (.agg (eMove a0.Move).toArray) 0 g0_0 11) ?_
  obtain ⟨v1_17, hv1_17, h⟩ := H.call h
  refine aq 17 rfl (y_call [.agg (eMove a0.Move).toArray] (.string (bs v1_17)) func183 (fun W S => C.i_Move_text W hv1_17)) ?_
  obtain ⟨y1_18, hy1_18, h⟩ := H.call h
  refine aq 18 rfl (y_cat hy1_18) ?_
  refine ap 19 1 ?_
  refine a_done ?_
  replace h := H.done h
  subst h
  exact ret func121 rfl (vs := [.string (bs y1_18)]) (.tmp (by kernel_rfl) .nil) rfl (fun W S => ⟨rfl, S.below⟩)
theorem C.i_ExportAll {fu : Nat} {a0 : (List Sign)} {A0 : Option Addr} {k0 : Nat} {r : ((List Str) × Bool)} (w : World) (h : X.i_ExportAll fu a0 = some r) (h0 : RdT nSign w (.slice A0 (List.length a0) k0) a0) : Calls prog 53 #[.slice A0 (List.length a0) k0] w (RetR eS 9 w r.1 (fun v => .tuple #[v, .bool r.2])) := by
  refine calls (M := no) (args := [.slice A0 (List.length a0) k0]) func53 rfl ?_
  replace h : H (X.i_ExportAll fu a0) (fun o => o = r) := H.mk h
  unfold X.i_ExportAll at h
  refine c_seq ?_
  refine r_start ?_
  refine p 2 ?_
  refine rend ?_
  refine c_seq ?_
  refine c_seq ?_
  refine r_start ?_
  refine p 1 ?_
  obtain ⟨v1_1, hv1_1, h⟩ := H.call h
  refine xq rfl (y_call [.slice A0 (List.length a0) k0, .int .i64 20] (.bool v1_1) func78 (fun W S => C.i_areSigns W hv1_1 ((s_arg h0).out W S))) ?_
  refine p 1 ?_
  refine rend ?_
  refine c_or (!v1_1) (fun q1 => ?_) (fun q1 => ?_)
  · replace h := H.t q1 h
    refine c_seq ?_
    refine r_start ?_
    refine p 2 ?_
    refine rend ?_
    replace h := H.done h
    subst h
    exact ret func53 rfl (vs := [.slice none 0 0, .bool false]) (.tmp (by kernel_rfl) (.tmp (by kernel_rfl) .nil)) rfl (fun W S => ⟨none, 0, rfl, World.ownsRow_nil _ _ _ _, S.below⟩)
  replace h := H.f q1 h
  refine c_skip ?_
  refine c_seq ?_
  refine r_start ?_
  refine p 1 ?_
  refine rend ?_
  refine c_seq ?_
  refine c_seq ?_
  refine r_start ?_
  refine p 3 ?_
  refine rend ?_
  refine c_block ?_
  refine c_nil eS 9 ?_
  refine joinH (X := ((List Str) × Option Addr × Nat)) 0 (H.bnd h) (fun ⟨l5, A6, k7⟩ => l5) (fun ⟨l5, A6, k7⟩ => [rowT eS w.heap.size 9 (.slice A6 (List.length l5) k7) l5]) (fun ⟨l5, A6, k7⟩ u => (jk u 0 4 (.slice A6 (List.length l5) k7 :: (jk u 5 29 [])))) (fun h hj8 => ?_) ?_
  · skip
    refine rangeR (X := ((List Str) × Option Addr × Nat)) (s_arg h0) (fun ⟨l2, A3, k4⟩ => l2) (fun ⟨l2, A3, k4⟩ => [rowT eS w.heap.size 9 (.slice A3 (List.length l2) k4) l2]) (fun (j9 : Nat) ⟨l2, A3, k4⟩ u => (jk u 0 4 (.slice A3 (List.length l2) k4 :: (jk u 5 6 (.slice A0 (List.length a0) k0 :: .int .i64 (List.length a0 : Int) :: .int .i64 (j9 : Int) :: (jk u 14 20 [])))))) (([] : List Str), none, 0) h (by kernel_rfl) (by kernel_rfl) ?_ ?_
    · intro j9 x u x10 q11 hg12 hw13 h
      obtain ⟨l2, A3, k4⟩ := x
      refine c_seq ?_
      refine r_start ?_
      refine p 1 ?_
      refine rend ?_
      refine c_seq ?_
      refine c_yes q11 ?_
      refine c_skip ?_
      refine c_seq ?_
      refine c_block ?_
      refine c_seq ?_
      refine r_start ?_
      refine xq rfl (y_idx (e := nSign) (el := 62) hg12 (s_arg h0)) ?_
      refine xq rfl (y_el (e := nSign) 0 (.agg (eSign x10).toArray) hg12 (s_arg h0)) ?_
      refine xx rfl (x_new (eSign zSign) fun g6_2 => ?_)
      refine xx rfl (x_sto 1 g6_2 0 (eSign x10) ?_)
      refine rend ?_
      refine c_seq ?_
      refine r_start ?_
      refine p 1 ?_
      refine xq rfl (y_load (.agg (eHand x10.Main).toArray) 1 g6_2 0) ?_
      obtain ⟨v7_2, hv7_2, h⟩ := H.call h
      refine xq rfl (y_call [.agg (eHand x10.Main).toArray] (.string (bs v7_2)) func121 (fun W S => C.i_Hand_old W hv7_2)) ?_
      refine p 1 ?_
      refine rend ?_
      refine c_seq ?_
      refine c_seq ?_
      refine r_start ?_
      refine p 1 ?_
      refine xq rfl (y_load (.bool x10.Two) 1 g6_2 13) ?_
      refine rend ?_
      refine c_or x10.Two (fun q14 => ?_) (fun q14 => ?_)
      · replace h := H.t q14 h
        refine r_start ?_
        refine p 2 ?_
        refine xq rfl (y_load (.agg (eHand x10.Other).toArray) 1 g6_2 14) ?_
        obtain ⟨v9_3, hv9_3, h⟩ := H.call h
        refine xq rfl (y_call [.agg (eHand x10.Other).toArray] (.string (bs v9_3)) func121 (fun W S => C.i_Hand_old W hv9_3)) ?_
        obtain ⟨y9_4, hy9_4, h⟩ := H.call h
        refine xq rfl (y_cat hy9_4) ?_
        obtain ⟨y9_5, hy9_5, h⟩ := H.call h
        refine xq rfl (y_cat hy9_5) ?_
        refine p 1 ?_
        refine rend ?_
        refine r_start ?_
        refine p 2 ?_
        refine xx rfl (e_lit (e := eS) (el := 9) [.string (bs y9_5)] ([y9_5] : List Str) fun A10_2 k10_2 => ?_)
        obtain ⟨y10_3, hy10_3, h⟩ := H.call h
        refine xx rfl (e_app 0 hy10_3 (s_own 2) fun A10_3 k10_3 => ?_)
        refine p 1 ?_
        refine rend ?_
        refine c_inb ?_
        refine r_start ?_
        refine p 2 ?_
        refine rend ?_
        refine c_set 13 (ci hw13) ?_
        replace h := H.inl h
        exact h (y10_3, A10_3, k10_3) _ _ rfl (by kernel_rfl) (by kernel_rfl)
      replace h := H.f q14 h
      refine c_skip ?_
      refine r_start ?_
      refine p 2 ?_
      refine xx rfl (e_lit (e := eS) (el := 9) [.string (bs v7_2)] ([v7_2] : List Str) fun A10_2 k10_2 => ?_)
      obtain ⟨y10_3, hy10_3, h⟩ := H.call h
      refine xx rfl (e_app 0 hy10_3 (s_own 2) fun A10_3 k10_3 => ?_)
      refine p 1 ?_
      refine rend ?_
      refine c_inb ?_
      refine r_start ?_
      refine p 2 ?_
      refine rend ?_
      refine c_set 13 (ci hw13) ?_
      replace h := H.inl h
      exact h (y10_3, A10_3, k10_3) _ _ rfl (by kernel_rfl) (by kernel_rfl)
    · intro x u q11 h
      obtain ⟨l2, A3, k4⟩ := x
      refine c_seq ?_
      refine r_start ?_
      refine p 1 ?_
      refine rend ?_
      refine c_seq ?_
      refine c_no q11 ?_
      refine cx ?_
      replace h := H.done h
      exact hj8 (l2, A3, k4) _ _ h (by kernel_rfl) (by kernel_rfl)
  intro x u h
  obtain ⟨l5, A6, k7⟩ := x
  refine c_seq ?_
  refine r_start ?_
  refine p 3 ?_
  refine rend ?_
  replace h := H.done h
  subst h
  exact ret func53 rfl (vs := [.slice A6 (List.length l5) k7, .bool true]) (.tmp (by kernel_rfl) (.tmp (by kernel_rfl) .nil)) rfl (fun W S => ⟨_, _, rfl, S.row 0, S.below⟩)
theorem C.l_FnExactExportAll {fu : Nat} {a0 : (List Sign)} {A0 : Option Addr} {k0 : Nat} {r : Bool} (w : World) (h : X.l_FnExactExportAll fu a0 = some r) (h0 : RdT nSign w (.slice A0 (List.length a0) k0) a0) : Calls prog 7 #[.slice A0 (List.length a0) k0] w (Ret w (.bool r)) := by
  refine calls (M := no) (args := [.slice A0 (List.length a0) k0]) func7 rfl ?_
  replace h : H (X.l_FnExactExportAll fu a0) (fun o => o = r) := H.mk h
  unfold X.l_FnExactExportAll at h
  refine c_seq ?_
  refine r_start ?_
  refine p 1 ?_
  refine rend ?_
  refine c_seq ?_
  refine r_start ?_
  refine p 1 ?_
  refine rend ?_
  refine c_seq ?_
  refine r_start ?_
  refine p 2 ?_
  obtain ⟨v2_2, hv2_2, h⟩ := H.call h
  refine xq rfl (y_call [.slice A0 (List.length a0) k0, .int .i64 1048576] (.int .i64 v2_2) func15 (fun W S => C.l_szSignS W hv2_2 ((s_arg h0).out W S))) ?_
  refine p 1 ?_
  refine rend ?_
  refine c_seq ?_
  refine c_seq ?_
  refine r_start ?_
  refine p 2 ?_
  refine rend ?_
  refine c_or (decide (v2_2 < 0)) (fun q1 => ?_) (fun q1 => ?_)
  · replace h := H.t q1 h
    refine c_seq ?_
    refine r_start ?_
    refine p 1 ?_
    refine rend ?_
    replace h := H.done h
    subst h
    exact ret func7 rfl (vs := [.bool true]) (.tmp (by kernel_rfl) .nil) rfl (fun W S => ⟨rfl, S.below⟩)
  replace h := H.f q1 h
  refine c_skip ?_
  refine c_seq ?_
  refine r_start ?_
  refine p 1 ?_
  obtain ⟨v5_1, hv5_1, h⟩ := H.call h
  refine xx rfl (e_cr [.slice A0 (List.length a0) k0] (fun v => v) func18 (fun W S => C.l_toSignS W hv5_1 ((s_arg h0).out W S)) fun A5_1 k5_1 => ?_)
  obtain ⟨v5_2, hv5_2, h⟩ := H.call h
  refine xx rfl (e_cr [.slice A5_1 (List.length v5_1) k5_1] (fun v => .tuple #[v, .bool v5_2.2]) func52 (fun W S => C.s_ExportAll W hv5_2 ((s_own 0).out W S)) fun A5_2 k5_2 => ?_)
  refine p 5 ?_
  refine rend ?_
  refine c_seq ?_
  refine r_start ?_
  refine p 1 ?_
  obtain ⟨v6_1, hv6_1, h⟩ := H.call h
  refine xx rfl (e_cr [.slice A0 (List.length a0) k0] (fun v => v) func18 (fun W S => C.l_toSignS W hv6_1 ((s_arg h0).out W S)) fun A6_1 k6_1 => ?_)
  refine p 1 ?_
  refine rend ?_
  refine c_seq ?_
  refine r_start ?_
  refine p 1 ?_
  obtain ⟨v7_1, hv7_1, h⟩ := H.call h
  refine xx rfl (e_cr [.slice A6_1 (List.length v6_1) k6_1] (fun v => .tuple #[v, .bool v7_1.2]) func53 (fun W S => C.i_ExportAll W hv7_1 ((s_own 2).out W S)) fun A7_1 k7_1 => ?_)
  refine p 5 ?_
  refine rend ?_
  refine c_seq ?_
  refine c_seq ?_
  refine r_start ?_
  refine p 2 ?_
  obtain ⟨v8_2, hv8_2, h⟩ := H.call h
  refine xq rfl (y_call [.slice A7_1 (List.length v7_1.1) k7_1, .slice A5_2 (List.length v5_2.1) k5_2] (.bool v8_2) func29 (fun W S => C.l_eqStringS W hv8_2 ((s_own 3).out W S) ((s_own 1).out W S))) ?_
  refine p 2 ?_
  refine br (!v8_2) (fun q2 => ?_) (fun q2 => ?_)
  · replace h := H.t q2 h
    refine o_set 36 (congrArg Value.bool q2) ?_
    refine p 4 ?_
    refine rend ?_
    refine c_t (by kernel_rfl) ?_
    refine c_seq ?_
    refine r_start ?_
    refine p 1 ?_
    refine rend ?_
    replace h := H.done h
    subst h
    exact ret func7 rfl (vs := [.bool false]) (.tmp (by kernel_rfl) .nil) rfl (fun W S => ⟨rfl, S.below⟩)
  replace h := H.f q2 h
  refine o_set 36 (congrArg Value.bool q2) ?_
  refine p 4 ?_
  refine rend ?_
  refine c_or (!(v7_1.2 == v5_2.2)) (fun q3 => ?_) (fun q3 => ?_)
  · replace h := H.t q3 h
    refine c_seq ?_
    refine r_start ?_
    refine p 1 ?_
    refine rend ?_
    replace h := H.done h
    subst h
    exact ret func7 rfl (vs := [.bool false]) (.tmp (by kernel_rfl) .nil) rfl (fun W S => ⟨rfl, S.below⟩)
  replace h := H.f q3 h
  refine c_skip ?_
  refine c_seq ?_
  refine c_seq ?_
  refine r_start ?_
  refine p 2 ?_
  obtain ⟨v10_2, hv10_2, h⟩ := H.call h
  refine xx rfl (e_cr [.slice A0 (List.length a0) k0] (fun v => v) func18 (fun W S => C.l_toSignS W hv10_2 ((s_arg h0).out W S)) fun A10_2 k10_2 => ?_)
  obtain ⟨v10_3, hv10_3, h⟩ := H.call h
  refine xq rfl (y_call [.slice A6_1 (List.length v6_1) k6_1, .slice A10_2 (List.length v10_2) k10_2] (.bool v10_3) func21 (fun W S => C.l_eqSignS W hv10_3 ((s_own 2).out W S) ((s_own 4).out W S))) ?_
  refine p 1 ?_
  refine rend ?_
  refine c_or (!v10_3) (fun q4 => ?_) (fun q4 => ?_)
  · replace h := H.t q4 h
    refine c_seq ?_
    refine r_start ?_
    refine p 1 ?_
    refine rend ?_
    replace h := H.done h
    subst h
    exact ret func7 rfl (vs := [.bool false]) (.tmp (by kernel_rfl) .nil) rfl (fun W S => ⟨rfl, S.below⟩)
  replace h := H.f q4 h
  refine c_skip ?_
  refine c_seq ?_
  refine r_start ?_
  refine p 1 ?_
  refine rend ?_
  refine c_seq ?_
  refine r_start ?_
  refine p 2 ?_
  obtain ⟨v13_2, hv13_2, h⟩ := H.call h
  refine xx rfl (e_cw (e := nSign) (l' := v13_2.2) (v := .int .i64 v13_2.1) 2 [.slice A6_1 (List.length v6_1) k6_1, .int .i64 1] func54 (fun W S => C.l_markSignS W hv13_2 rfl (S.row 2)) fun hl13_2 => ?_)
  refine o_set 6 (sl_len (A := A6_1) (c := k6_1) hl13_2) ?_
  refine p 1 ?_
  refine rend ?_
  refine c_seq ?_
  refine c_seq ?_
  refine r_start ?_
  refine p 3 ?_
  refine br (decide (v13_2.1 < 0)) (fun q5 => ?_) (fun q5 => ?_)
  · replace h := H.t q5 h
    refine o_set 51 (congrArg Value.bool q5) ?_
    refine p 10 ?_
    refine rend ?_
    refine frg (fun u => (.slice A0 (List.length a0) k0 :: (jk u 1 3 (.slice A5_2 (List.length v5_2.1) k5_2 :: .bool v5_2.2 :: (jk u 6 1 (.slice A7_1 (List.length v7_1.1) k7_1 :: (jk u 8 53 (.bool true :: (jk u 62 34 []))))))))) (by kernel_rfl) fun u => ?_
    refine keep 5 (its' := [rowT nSign w.heap.size 62 (.slice A5_1 (List.length v5_1) k5_1) v5_1, rowT eS w.heap.size 9 (.slice A5_2 (List.length v5_2.1) k5_2) v5_2.1, rowT nSign w.heap.size 62 (.slice A6_1 (List.length v13_2.2) k6_1) v13_2.2, rowT eS w.heap.size 9 (.slice A7_1 (List.length v7_1.1) k7_1) v7_1.1, rowT nSign w.heap.size 62 (.slice A10_2 (List.length v10_2) k10_2) v10_2]) (by kernel_rfl) ?_
    refine c_t (by kernel_rfl) ?_
    refine c_seq ?_
    refine r_start ?_
    refine p 1 ?_
    refine rend ?_
    replace h := H.done h
    subst h
    exact ret func7 rfl (vs := [.bool false]) (.tmp (by kernel_rfl) .nil) rfl (fun W S => ⟨rfl, S.below⟩)
  replace h := H.f q5 h
  refine o_set 51 (congrArg Value.bool q5) ?_
  refine p 2 ?_
  obtain ⟨v14_5, hv14_5, h⟩ := H.call h
  refine xq rfl (y_call [.slice A7_1 (List.length v7_1.1) k7_1, .slice A5_2 (List.length v5_2.1) k5_2] (.bool v14_5) func29 (fun W S => C.l_eqStringS W hv14_5 ((s_own 3).out W S) ((s_own 1).out W S))) ?_
  refine p 3 ?_
  refine br (!v14_5) (fun q6 => ?_) (fun q6 => ?_)
  · replace h := H.t q6 h
    refine o_set 57 (congrArg Value.bool q6) ?_
    refine p 4 ?_
    refine rend ?_
    refine frg (fun u => (.slice A0 (List.length a0) k0 :: (jk u 1 3 (.slice A5_2 (List.length v5_2.1) k5_2 :: .bool v5_2.2 :: (jk u 6 1 (.slice A7_1 (List.length v7_1.1) k7_1 :: (jk u 8 53 (.bool true :: (jk u 62 34 []))))))))) (by kernel_rfl) fun u => ?_
    refine keep 5 (its' := [rowT nSign w.heap.size 62 (.slice A5_1 (List.length v5_1) k5_1) v5_1, rowT eS w.heap.size 9 (.slice A5_2 (List.length v5_2.1) k5_2) v5_2.1, rowT nSign w.heap.size 62 (.slice A6_1 (List.length v13_2.2) k6_1) v13_2.2, rowT eS w.heap.size 9 (.slice A7_1 (List.length v7_1.1) k7_1) v7_1.1, rowT nSign w.heap.size 62 (.slice A10_2 (List.length v10_2) k10_2) v10_2]) (by kernel_rfl) ?_
    refine c_t (by kernel_rfl) ?_
    refine c_seq ?_
    refine r_start ?_
    refine p 1 ?_
    refine rend ?_
    replace h := H.done h
    subst h
    exact ret func7 rfl (vs := [.bool false]) (.tmp (by kernel_rfl) .nil) rfl (fun W S => ⟨rfl, S.below⟩)
  replace h := H.f q6 h
  refine o_set 57 (congrArg Value.bool q6) ?_
  refine p 4 ?_
  refine rend ?_
  refine frg (fun u => (.slice A0 (List.length a0) k0 :: (jk u 1 3 (.slice A5_2 (List.length v5_2.1) k5_2 :: .bool v5_2.2 :: (jk u 6 1 (.slice A7_1 (List.length v7_1.1) k7_1 :: (jk u 8 53 (.bool (!(v7_1.2 == v5_2.2)) :: (jk u 62 34 []))))))))) (by kernel_rfl) fun u => ?_
  refine keep 5 (its' := [rowT nSign w.heap.size 62 (.slice A5_1 (List.length v5_1) k5_1) v5_1, rowT eS w.heap.size 9 (.slice A5_2 (List.length v5_2.1) k5_2) v5_2.1, rowT nSign w.heap.size 62 (.slice A6_1 (List.length v13_2.2) k6_1) v13_2.2, rowT eS w.heap.size 9 (.slice A7_1 (List.length v7_1.1) k7_1) v7_1.1, rowT nSign w.heap.size 62 (.slice A10_2 (List.length v10_2) k10_2) v10_2]) (by kernel_rfl) ?_
  refine c_no q3 ?_
  refine c_skip ?_
  refine c_seq ?_
  refine r_start ?_
  refine p 1 ?_
  refine rend ?_
  refine c_seq ?_
  refine r_start ?_
  refine p 2 ?_
  obtain ⟨v17_2, hv17_2, h⟩ := H.call h
  refine xx rfl (e_cw (e := eS) (l' := v17_2.2) (v := .int .i64 v17_2.1) 3 [.slice A7_1 (List.length v7_1.1) k7_1, .int .i64 1] func32 (fun W S => C.l_markStringS W hv17_2 rfl (S.row 3)) fun hl17_2 => ?_)
  refine o_set 7 (sl_len (A := A7_1) (c := k7_1) hl17_2) ?_
  refine p 1 ?_
  refine rend ?_
  refine c_seq ?_
  refine r_start ?_
  refine p 1 ?_
  refine rend ?_
  refine c_seq ?_
  refine r_start ?_
  refine p 2 ?_
  obtain ⟨v19_2, hv19_2, h⟩ := H.call h
  refine xq rfl (y_call [.slice A7_1 (List.length v17_2.2) k7_1, .int .i64 1] (.int .i64 v19_2) func33 (fun W S => C.l_heldStringS W hv19_2 ((s_own 3).out W S))) ?_
  refine p 1 ?_
  refine rend ?_
  refine c_seq ?_
  refine c_seq ?_
  refine r_start ?_
  refine p 2 ?_
  refine rend ?_
  refine c_or (decide (v19_2 < 0)) (fun q7 => ?_) (fun q7 => ?_)
  · replace h := H.t q7 h
    refine c_seq ?_
    refine r_start ?_
    refine p 1 ?_
    refine rend ?_
    replace h := H.done h
    subst h
    exact ret func7 rfl (vs := [.bool false]) (.tmp (by kernel_rfl) .nil) rfl (fun W S => ⟨rfl, S.below⟩)
  replace h := H.f q7 h
  refine c_skip ?_
  refine c_seq ?_
  refine c_seq ?_
  refine r_start ?_
  refine p 3 ?_
  refine rend ?_
  refine c_or (v19_2 != v17_2.1) (fun q8 => ?_) (fun q8 => ?_)
  · replace h := H.t q8 h
    refine c_seq ?_
    refine r_start ?_
    refine p 1 ?_
    refine rend ?_
    replace h := H.done h
    subst h
    exact ret func7 rfl (vs := [.bool false]) (.tmp (by kernel_rfl) .nil) rfl (fun W S => ⟨rfl, S.below⟩)
  replace h := H.f q8 h
  refine c_skip ?_
  refine c_seq ?_
  refine r_start ?_
  refine p 1 ?_
  obtain ⟨v24_1, hv24_1, h⟩ := H.call h
  refine xx rfl (e_cr [.slice A0 (List.length a0) k0] (fun v => v) func18 (fun W S => C.l_toSignS W hv24_1 ((s_arg h0).out W S)) fun A24_1 k24_1 => ?_)
  obtain ⟨v24_2, hv24_2, h⟩ := H.call h
  refine xx rfl (e_cr [.slice A24_1 (List.length v24_1) k24_1] (fun v => .tuple #[v, .bool v24_2.2]) func53 (fun W S => C.i_ExportAll W hv24_2 ((s_own 5).out W S)) fun A24_2 k24_2 => ?_)
  refine p 5 ?_
  refine rend ?_
  refine c_seq ?_
  refine c_seq ?_
  refine r_start ?_
  refine p 2 ?_
  obtain ⟨v25_2, hv25_2, h⟩ := H.call h
  refine xq rfl (y_call [.slice A24_2 (List.length v24_2.1) k24_2, .slice A5_2 (List.length v5_2.1) k5_2] (.bool v25_2) func29 (fun W S => C.l_eqStringS W hv25_2 ((s_own 6).out W S) ((s_own 1).out W S))) ?_
  refine p 2 ?_
  refine br (!v25_2) (fun q9 => ?_) (fun q9 => ?_)
  · replace h := H.t q9 h
    refine o_set 83 (congrArg Value.bool q9) ?_
    refine p 4 ?_
    refine rend ?_
    refine c_t (by kernel_rfl) ?_
    refine c_seq ?_
    refine r_start ?_
    refine p 1 ?_
    refine rend ?_
    replace h := H.done h
    subst h
    exact ret func7 rfl (vs := [.bool false]) (.tmp (by kernel_rfl) .nil) rfl (fun W S => ⟨rfl, S.below⟩)
  replace h := H.f q9 h
  refine o_set 83 (congrArg Value.bool q9) ?_
  refine p 4 ?_
  refine rend ?_
  refine c_or (!(v24_2.2 == v5_2.2)) (fun q10 => ?_) (fun q10 => ?_)
  · replace h := H.t q10 h
    refine c_seq ?_
    refine r_start ?_
    refine p 1 ?_
    refine rend ?_
    replace h := H.done h
    subst h
    exact ret func7 rfl (vs := [.bool false]) (.tmp (by kernel_rfl) .nil) rfl (fun W S => ⟨rfl, S.below⟩)
  replace h := H.f q10 h
  refine c_skip ?_
  refine c_seq ?_
  refine r_start ?_
  refine p 1 ?_
  refine rend ?_
  refine c_seq ?_
  refine r_start ?_
  refine p 2 ?_
  obtain ⟨v28_2, hv28_2, h⟩ := H.call h
  refine xq rfl (y_call [.slice A7_1 (List.length v17_2.2) k7_1, .int .i64 1] (.int .i64 v28_2) func33 (fun W S => C.l_heldStringS W hv28_2 ((s_own 3).out W S))) ?_
  refine p 1 ?_
  refine rend ?_
  refine c_seq ?_
  refine c_seq ?_
  refine r_start ?_
  refine p 2 ?_
  refine rend ?_
  refine c_or (decide (v28_2 < 0)) (fun q11 => ?_) (fun q11 => ?_)
  · replace h := H.t q11 h
    refine c_seq ?_
    refine r_start ?_
    refine p 1 ?_
    refine rend ?_
    refine frg (fun u => (jk u 0 2 (.bool false :: (jk u 3 93 [])))) (by kernel_rfl) fun u => ?_
    refine keep 7 (its' := [rowT nSign w.heap.size 62 (.slice A5_1 (List.length v5_1) k5_1) v5_1, rowT eS w.heap.size 9 (.slice A5_2 (List.length v5_2.1) k5_2) v5_2.1, rowT nSign w.heap.size 62 (.slice A6_1 (List.length v13_2.2) k6_1) v13_2.2, rowT eS w.heap.size 9 (.slice A7_1 (List.length v17_2.2) k7_1) v17_2.2, rowT nSign w.heap.size 62 (.slice A10_2 (List.length v10_2) k10_2) v10_2, rowT nSign w.heap.size 62 (.slice A24_1 (List.length v24_1) k24_1) v24_1, rowT eS w.heap.size 9 (.slice A24_2 (List.length v24_2.1) k24_2) v24_2.1]) (by kernel_rfl) ?_
    replace h := H.done h
    subst h
    exact ret func7 rfl (vs := [.bool false]) (.tmp (by kernel_rfl) .nil) rfl (fun W S => ⟨rfl, S.below⟩)
  replace h := H.f q11 h
  refine c_skip ?_
  refine c_seq ?_
  refine c_seq ?_
  refine r_start ?_
  refine p 3 ?_
  refine rend ?_
  refine frg (fun u => (jk u 0 95 [.bool (v28_2 != v17_2.1)])) (by kernel_rfl) fun u => ?_
  refine keep 7 (its' := [rowT nSign w.heap.size 62 (.slice A5_1 (List.length v5_1) k5_1) v5_1, rowT eS w.heap.size 9 (.slice A5_2 (List.length v5_2.1) k5_2) v5_2.1, rowT nSign w.heap.size 62 (.slice A6_1 (List.length v13_2.2) k6_1) v13_2.2, rowT eS w.heap.size 9 (.slice A7_1 (List.length v17_2.2) k7_1) v17_2.2, rowT nSign w.heap.size 62 (.slice A10_2 (List.length v10_2) k10_2) v10_2, rowT nSign w.heap.size 62 (.slice A24_1 (List.length v24_1) k24_1) v24_1, rowT eS w.heap.size 9 (.slice A24_2 (List.length v24_2.1) k24_2) v24_2.1]) (by kernel_rfl) ?_
  refine c_or (v28_2 != v17_2.1) (fun q12 => ?_) (fun q12 => ?_)
  · replace h := H.t q12 h
    refine c_seq ?_
    refine r_start ?_
    refine p 1 ?_
    refine rend ?_
    replace h := H.done h
    subst h
    exact ret func7 rfl (vs := [.bool false]) (.tmp (by kernel_rfl) .nil) rfl (fun W S => ⟨rfl, S.below⟩)
  replace h := H.f q12 h
  refine c_skip ?_
  refine c_seq ?_
  refine r_start ?_
  refine p 1 ?_
  refine rend ?_
  replace h := H.done h
  subst h
  exact ret func7 rfl (vs := [.bool true]) (.tmp (by kernel_rfl) .nil) rfl (fun W S => ⟨rfl, S.below⟩)
end Go.Proofs.XC
