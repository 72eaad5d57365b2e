/- Contracts: each function, called where its plain function gives an answer, returns just that answer and changes nothing that was there. By AI agents; no person has read it. -/
import Derived.Test.YtkckmehkialgjaaGreatDoorC1
set_option linter.unusedVariables false
set_option linter.unusedSimpArgs false
set_option maxRecDepth 100000
set_option maxHeartbeats 40000000
namespace Go.Proofs.XC
open Go Go.RowKit
open Tryz
theorem C.s_l1Split {fu : Nat} {a0 : Str} {a1 : Int} {r : (List Str)} (w : World) (h : X.s_l1Split fu a0 a1 = some r) : Calls prog 78 #[.string (bs a0), .int .u8 a1] w (RetR eS 9 w r (fun v => v)) := by
  refine calls (M := no) (args := [.string (bs a0), .int .u8 a1]) func78 rfl ?_
  replace h : H (X.s_l1Split fu a0 a1) (fun o => o = r) := H.mk h
  unfold X.s_l1Split at h
  refine c_seq ?_
  refine r_start ?_
  refine p 1 ?_
  refine rend ?_
  refine c_seq ?_
  refine r_start ?_
  refine p 1 ?_
  refine rend ?_
  refine c_seq ?_
  refine r_start ?_
  refine p 1 ?_
  refine rend ?_
  refine c_seq ?_
  refine c_seq ?_
  refine r_start ?_
  refine p 1 ?_
  refine rend ?_
  refine c_block ?_
  refine c_nil eS 9 ?_
  refine joinH (X := (Int × (List Str) × Option Addr × Nat)) 0 (H.bnd h) (fun ⟨n6, l7, A8, k9⟩ => (n6, l7)) (fun ⟨n6, l7, A8, k9⟩ => [rowT eS w.heap.size 9 (.slice A8 (List.length l7) k9) l7]) (fun ⟨n6, l7, A8, k9⟩ u => (.string (bs a0) :: (jk u 1 4 (.slice A8 (List.length l7) k9 :: .int .i64 n6 :: (jk u 7 27 []))))) (fun h hj10 => ?_) ?_
  · skip
    refine loopR (X := (Int × Int × (List Str) × Option Addr × Nat)) (fun ⟨n1, n2, l3, A4, k5⟩ => (n1, n2, l3)) (fun ⟨n1, n2, l3, A4, k5⟩ => [rowT eS w.heap.size 9 (.slice A4 (List.length l3) k5) l3]) (fun ⟨n1, n2, l3, A4, k5⟩ u => (.string (bs a0) :: .int .u8 a1 :: (jk u 2 3 (.slice A4 (List.length l3) k5 :: .int .i64 n1 :: .int .i64 n2 :: (jk u 8 26 []))))) (0, 0, ([] : List Str), none, 0) h (by kernel_rfl) (by kernel_rfl) ?_
    intro x u h
    obtain ⟨n1, n2, l3, A4, k5⟩ := x
    refine c_seq ?_
    refine c_seq ?_
    refine r_start ?_
    refine p 4 ?_
    refine rend ?_
    refine c_or (decide (n2 < (List.length a0 : Int))) (fun q11 => ?_) (fun q11 => ?_)
    · replace h := H.t q11 h
      refine c_skip ?_
      refine c_seq ?_
      refine c_block ?_
      refine c_seq ?_
      refine r_start ?_
      refine p 2 ?_
      obtain ⟨y6_2, hy6_2, h⟩ := H.call h
      refine xq rfl (y_byte hy6_2) ?_
      refine p 2 ?_
      refine rend ?_
      refine c_or (y6_2 == a1) (fun q12 => ?_) (fun q12 => ?_)
      · replace h := H.t q12 h
        refine c_seq ?_
        refine r_start ?_
        refine p 4 ?_
        obtain ⟨y7_4, hy7_4, h⟩ := H.call h
        refine xq rfl (y_cut hy7_4) ?_
        refine xx rfl (e_lit (e := eS) (el := 9) [.string (bs y7_4)] ([y7_4] : List Str) fun A7_5 k7_5 => ?_)
        obtain ⟨y7_6, hy7_6, h⟩ := H.call h
        refine xx rfl (e_app 0 hy7_6 (s_own 1) fun A7_6 k7_6 => ?_)
        refine p 1 ?_
        refine rend ?_
        refine r_start ?_
        refine p 3 ?_
        refine rend ?_
        refine c_inb ?_
        refine r_start ?_
        refine p 3 ?_
        refine rend ?_
        replace h := H.inl h
        exact h ((wr (n2 + 1)), (wr (n2 + 1)), y7_6, A7_6, k7_6) _ _ rfl (by kernel_rfl) (by kernel_rfl)
      replace h := H.f q12 h
      refine c_skip ?_
      refine c_inb ?_
      refine r_start ?_
      refine p 3 ?_
      refine rend ?_
      replace h := H.inl h
      exact h (n1, (wr (n2 + 1)), l3, A4, k5) _ _ rfl (by kernel_rfl) (by kernel_rfl)
    replace h := H.f q11 h
    refine cx ?_
    replace h := H.inr h
    exact hj10 (n1, l3, A4, k5) _ _ h (by kernel_rfl) (by kernel_rfl)
  intro x u h
  obtain ⟨n6, l7, A8, k9⟩ := x
  refine c_seq ?_
  refine r_start ?_
  refine p 3 ?_
  obtain ⟨y9_3, hy9_3, h⟩ := H.call h
  refine xq rfl (y_cut hy9_3) ?_
  refine xx rfl (e_lit (e := eS) (el := 9) [.string (bs y9_3)] ([y9_3] : List Str) fun A9_4 k9_4 => ?_)
  obtain ⟨y9_5, hy9_5, h⟩ := H.call h
  refine xx rfl (e_app 0 hy9_5 (s_own 1) fun A9_5 k9_5 => ?_)
  refine p 1 ?_
  refine rend ?_
  replace h := H.done h
  subst h
  exact ret func78 rfl (vs := [.slice A9_5 (List.length y9_5) k9_5]) (.tmp (by kernel_rfl) .nil) rfl (fun W S => ⟨_, _, rfl, S.row 0, S.below⟩)
theorem C.strings_genSplit {a0 a1 : Str} {a2 a3 : Int} {r : (List Str)} (w : World) (h : X.strings_genSplit a0 a1 a2 a3 = some r) : Calls prog 158 #[.string (bs a0), .string (bs a1), .int .i64 a2, .int .i64 a3] w (RetR eS 9 w r (fun v => v)) := by
  unfold X.strings_genSplit at h
  by_cases h1 : List.length a1 = 1
  case neg => simp [h1] at h
  by_cases h2 : a2 = 0
  case neg => simp [h2] at h
  by_cases h3 : a3 = -1
  case neg => simp [h3] at h
  by_cases h4 : List.length a0 < 4294967281
  case neg => simp [h4] at h
  simp only [h1, h2, h3, h4, decide_true, Bool.and_self, cond_true, Option.some.injEq] at h
  subst h
  subst h2
  subst h3
  obtain ⟨c, rfl⟩ : ∃ c, a1 = [c] := by
    match a1, h1 with
    | [c], _ => exact ⟨c, rfl⟩
  have hsz : 1 ≤ (bs [c]).size := Nat.le_refl 1
  have hcb : Lib.countB (bs a0) (bs [c]) ≤ (bs a0).size := Lib.countB_le (bs [c]) hsz _ (bs a0) (Nat.le_refl _)
  have hall := Lib.splitB_all (bs [c]) hsz 0 _ (bs a0) rfl
  have hd := Lib.splitB_data (bs [c]) 0 (Lib.countB (bs a0) (bs [c])) (bs a0)
  have hs4 : (bs a0).size < 4294967281 := h4
  have key := Any.strings_genSplit_core Tryz.lays221 (by kernel_rfl) (bs a0) (bs [c]) 0 (-1) (Lib.countB (bs a0) (bs [c]) + 1) w hs4 hsz (Nat.zero_le _)
    (fun x d hx => (Any.strings_Index_one { Tryz.lays221 with } x c _).mono fun e w' ⟨he, hw⟩ => ⟨by
      rw [he]
      show _ = Ending.returned (Value.int .i64 (Lib.index x.data.toList [c]))
      rw [Lib.index_one], hw⟩)
    ((Any.strings_Count_one { Tryz.lays221 with } (bs a0) c w).mono fun e w' ⟨he, hw⟩ => ⟨by
      rw [he]
      show _ = Ending.returned (Value.int .i64 ((Lib.count (bs a0).data.toList [c] : Nat) : Int))
      rw [Lib.count_one]
      rfl, hw⟩) (by decide) (by decide) (by rw [if_pos (by decide)]; omega)
  rw [Nat.add_sub_cancel, hall] at key
  refine key.mono ?_
  rintro en W' ⟨rfl, rfl⟩
  have hlen : (Lib.split a0 [c]).length = Lib.countB (bs a0) (bs [c]) + 1 := by
    have : (Lib.splitB (bs [c]) 0 (Lib.countB (bs a0) (bs [c])) (bs a0)).map (·.data.toList) = Lib.split a0 [c] := hd
    rw [← this, List.length_map, hall]
  have hcells : (Lib.cellsOf (Lib.splitB (bs [c]) 0 (Lib.countB (bs a0) (bs [c])) (bs a0)) (Lib.countB (bs a0) (bs [c]) + 1)).toList = eS.flat (Lib.split a0 [c]) := by
    have e2 : Lib.split a0 [c] = (Lib.splitB (bs [c]) 0 (Lib.countB (bs a0) (bs [c])) (bs a0)).map (·.data.toList) := hd.symm
    rw [flat_str, e2, Lib.map_encStr, ← hall, Lib.cellsOf_full]
  refine ⟨some ⟨w.heap.size, 0, none⟩, Lib.countB (bs a0) (bs [c]) + 1, by rw [hlen], ?_, ?_⟩
  · refine ⟨by rw [eS.flat_length], .inr ⟨w.heap.size, _, _, rfl, Nat.le_refl _, by show (w.heap.push _)[w.heap.size]? = some _; exact Array.getElem?_push_size, by rw [hlen]; exact Nat.le_refl _, ?_, ?_, ?_⟩⟩
    · simp only [maxLen]
      omega
    · rw [Lib.cellsOf_size (by rw [hall]; exact Nat.le_refl _)]
      exact (Nat.mul_one _).symm
    · rw [hcells, List.take_of_length_le]
      rw [eS.flat_length]
      exact Nat.le_refl _
  · refine ⟨rfl, rfl, rfl, by show w.heap.size ≤ (w.heap.push _).size; rw [Array.size_push]; omega, fun k hk => ?_⟩
    show (w.heap.push _)[k]? = w.heap[k]?
    rw [Array.getElem?_push, if_neg (by omega)]
theorem C.strings_Split {a0 : Str} {a1 : Str} {r : (List Str)} (w : World) (h : X.strings_Split a0 a1 = some r) : Calls prog 95 #[.string (bs a0), .string (bs a1)] w (RetR eS 9 w r (fun v => v)) := by
  refine calls (M := no) (args := [.string (bs a0), .string (bs a1)]) func95 rfl ?_
  replace h : H (X.strings_Split a0 a1) (fun o => o = r) := H.mk h
  unfold X.strings_Split at h
  refine c_seq ?_
  refine r_start ?_
  refine p 1 ?_
  refine rend ?_
  refine c_seq ?_
  refine r_start ?_
  refine p 2 ?_
  obtain ⟨v1_2, hv1_2, h⟩ := H.call h
  refine xx rfl (e_cr [.string (bs a0), .string (bs a1), .int .i64 0, .int .i64 (-1)] (fun v => v) func158 (fun W S => C.strings_genSplit W hv1_2) fun A1_2 k1_2 => ?_)
  refine p 1 ?_
  refine rend ?_
  replace h := H.done h
  subst h
  exact ret func95 rfl (vs := [.slice A1_2 (List.length v1_2) k1_2]) (.tmp (by kernel_rfl) .nil) rfl (fun W S => ⟨_, _, rfl, S.row 0, S.below⟩)
theorem C.s_paText {fu : Nat} {a0 : Sign} {r : Str} (w : World) (h : X.s_paText fu a0 = some r) : Calls prog 87 #[.agg (eSign a0).toArray] w (Ret w (.string (bs r))) := by
  refine calls (M := no) (args := [.agg (eSign a0).toArray]) func87 rfl ?_
  replace h : H (X.s_paText fu a0) (fun o => o = r) := H.mk h
  unfold X.s_paText at h
  refine c_seq ?_
  refine r_start ?_
  refine xx rfl (x_box (eSign a0) fun g0_0 => ?_)
  refine p 1 ?_
  refine rend ?_
  refine c_seq ?_
  refine c_seq ?_
  refine r_start ?_
  refine p 1 ?_
  refine xq rfl (y_load (.bool a0.Two) 0 g0_0 13) ?_
  refine rend ?_
  refine c_or a0.Two (fun q1 => ?_) (fun q1 => ?_)
  · replace h := H.t q1 h
    refine c_seq ?_
    refine as_start 9 9 ?_
    refine ap 0 1 ?_
    refine aq 1 rfl (y_load (.agg (eHand a0.Main).toArray) 0 g0_0 0) ?_
    obtain ⟨v2_2, hv2_2, h⟩ := H.call h
    refine aq 2 rfl (y_call [.agg (eHand a0.Main).toArray] (.string (bs v2_2)) func88 (fun W S => C.s_siText W hv2_2)) ?_
    obtain ⟨y2_3, hy2_3, h⟩ := H.call h
    refine aq 3 rfl (y_cat hy2_3) ?_
    refine ap 4 1 ?_
    refine aq 5 rfl (y_load (.agg (eHand a0.Other).toArray) 0 g0_0 14) ?_
    obtain ⟨v2_6, hv2_6, h⟩ := H.call h
    refine aq 6 rfl (y_call [.agg (eHand a0.Other).toArray] (.string (bs v2_6)) func88 (fun W S => C.s_siText W hv2_6)) ?_
    obtain ⟨y2_7, hy2_7, h⟩ := H.call h
    refine aq 7 rfl (y_cat hy2_7) ?_
    refine ap 8 1 ?_
    refine a_done ?_
    replace h := H.done h
    subst h
    exact ret func87 rfl (vs := [.string (bs y2_7)]) (.tmp (by kernel_rfl) .nil) rfl (fun W S => ⟨rfl, S.below⟩)
  replace h := H.f q1 h
  refine c_skip ?_
  refine c_seq ?_
  refine r_start ?_
  refine p 1 ?_
  refine xq rfl (y_load (.agg (eHand a0.Main).toArray) 0 g0_0 0) ?_
  obtain ⟨v3_2, hv3_2, h⟩ := H.call h
  refine xq rfl (y_call [.agg (eHand a0.Main).toArray] (.string (bs v3_2)) func88 (fun W S => C.s_siText W hv3_2)) ?_
  refine p 1 ?_
  refine rend ?_
  replace h := H.done h
  subst h
  exact ret func87 rfl (vs := [.string (bs v3_2)]) (.tmp (by kernel_rfl) .nil) rfl (fun W S => ⟨rfl, S.below⟩)
theorem C.s_paShort {fu : Nat} {a0 : Sign} {r : Str} (w : World) (h : X.s_paShort fu a0 = some r) : Calls prog 40 #[.agg (eSign a0).toArray] w (Ret w (.string (bs r))) := by
  refine calls (M := no) (args := [.agg (eSign a0).toArray]) func40 rfl ?_
  replace h : H (X.s_paShort fu a0) (fun o => o = r) := H.mk h
  unfold X.s_paShort at h
  refine c_seq ?_
  refine r_start ?_
  refine xx rfl (x_box (eSign a0) fun g0_0 => ?_)
  refine p 1 ?_
  refine rend ?_
  refine c_seq ?_
  refine c_seq ?_
  refine r_start ?_
  refine p 1 ?_
  refine xq rfl (y_load (.bool a0.Two) 0 g0_0 13) ?_
  refine p 1 ?_
  refine rend ?_
  refine c_or (!a0.Two) (fun q1 => ?_) (fun q1 => ?_)
  · replace h := H.t q1 h
    refine c_seq ?_
    refine r_start ?_
    refine xq rfl (y_load (.agg (eSign a0).toArray) 0 g0_0 0) ?_
    obtain ⟨v2_1, hv2_1, h⟩ := H.call h
    refine xq rfl (y_call [.agg (eSign a0).toArray] (.string (bs v2_1)) func87 (fun W S => C.s_paText W hv2_1)) ?_
    refine p 1 ?_
    refine rend ?_
    replace h := H.done h
    subst h
    exact ret func40 rfl (vs := [.string (bs v2_1)]) (.tmp (by kernel_rfl) .nil) rfl (fun W S => ⟨rfl, S.below⟩)
  replace h := H.f q1 h
  refine c_skip ?_
  refine c_seq ?_
  refine as_start 10 10 ?_
  refine ap 0 1 ?_
  refine aq 1 rfl (y_load (.agg (eHand a0.Main).toArray) 0 g0_0 0) ?_
  obtain ⟨v3_2, hv3_2, h⟩ := H.call h
  refine aq 2 rfl (y_call [.agg (eHand a0.Main).toArray] (.string (bs v3_2)) func88 (fun W S => C.s_siText W hv3_2)) ?_
  refine ap 4 1 ?_
  refine aq 5 rfl (y_load (.agg (eHand a0.Other).toArray) 0 g0_0 14) ?_
  obtain ⟨v3_3, hv3_3, h⟩ := H.call h
  refine ax 3 rfl (e_cr [.string (bs v3_2), .int .u8 47] (fun v => v) func78 (fun W S => C.s_l1Split W hv3_3) fun A3_3 k3_3 => ⟨.inr (by kernel_rfl), ?_⟩)
  obtain ⟨v3_6, hv3_6, h⟩ := H.call h
  refine aq 6 rfl (y_call [.agg (eHand a0.Other).toArray] (.string (bs v3_6)) func88 (fun W S => C.s_siText W hv3_6)) ?_
  obtain ⟨v3_7, hv3_7, h⟩ := H.call h
  refine ax 7 rfl (e_cr [.string (bs v3_6), .int .u8 47] (fun v => v) func78 (fun W S => C.s_l1Split W hv3_7) fun A3_7 k3_7 => ⟨.inr (by kernel_rfl), ?_⟩)
  refine ap 8 2 ?_
  refine a_done ?_
  refine c_seq ?_
  refine r_start ?_
  refine p 1 ?_
  refine xq rfl (y_load (.agg (eHand a0.Main).toArray) 0 g0_0 0) ?_
  obtain ⟨v4_2, hv4_2, h⟩ := H.call h
  refine xq rfl (y_call [.agg (eHand a0.Main).toArray] (.string (bs v4_2)) func88 (fun W S => C.s_siText W hv4_2)) ?_
  obtain ⟨y4_3, hy4_3, h⟩ := H.call h
  refine xq rfl (y_cat hy4_3) ?_
  refine p 1 ?_
  refine rend ?_
  refine c_seq ?_
  refine c_seq ?_
  refine r_start ?_
  refine p 3 ?_
  refine rend ?_
  refine c_block ?_
  refine joinH (X := Str) 0 (H.bnd h) (fun (x : Str) => x) (fun t3 => [box g0_0 47 (eSign a0), rowT eS w.heap.size 9 (.slice A3_3 (List.length v3_3) k3_3) v3_3, rowT eS w.heap.size 9 (.slice A3_7 (List.length v3_7) k3_7) v3_7]) (fun t3 u => (jk u 0 5 (.string (bs t3) :: (jk u 6 41 [])))) (fun h hj4 => ?_) ?_
  · skip
    refine rangeR (X := Str) (s_own 2) (fun (x : Str) => x) (fun t2 => [box g0_0 47 (eSign a0), rowT eS w.heap.size 9 (.slice A3_3 (List.length v3_3) k3_3) v3_3, rowT eS w.heap.size 9 (.slice A3_7 (List.length v3_7) k3_7) v3_7]) (fun (j5 : Nat) t2 u => (jk u 0 3 (.slice A3_3 (List.length v3_3) k3_3 :: (jk u 4 1 (.string (bs t2) :: (jk u 6 19 (.slice A3_7 (List.length v3_7) k3_7 :: .int .i64 (List.length v3_7 : Int) :: .int .i64 (j5 : Int) :: (jk u 28 19 [])))))))) y4_3 h (by kernel_rfl) (by kernel_rfl) ?_ ?_
    · intro j5 t2 u x6 q7 hg8 hw9 h
      refine c_seq ?_
      refine r_start ?_
      refine p 1 ?_
      refine rend ?_
      refine c_seq ?_
      refine c_yes q7 ?_
      refine c_skip ?_
      refine c_seq ?_
      refine c_block ?_
      refine c_seq ?_
      refine r_start ?_
      refine p 1 ?_
      refine xq rfl (y_idx (e := eS) (el := 9) hg8 (s_own 2)) ?_
      refine xq rfl (y_el (e := eS) 0 (.string (bs x6)) hg8 (s_own 2)) ?_
      refine p 2 ?_
      refine rend ?_
      refine c_seq ?_
      refine c_seq ?_
      refine r_start ?_
      refine p 2 ?_
      refine rend ?_
      refine c_or (decide ((j5 : Int) > 0)) (fun q10 => ?_) (fun q10 => ?_)
      · replace h := H.t q10 h
        refine r_start ?_
        refine p 1 ?_
        obtain ⟨y9_1, hy9_1, h⟩ := H.call h
        refine xq rfl (y_cat hy9_1) ?_
        refine p 1 ?_
        refine rend ?_
        refine c_seq ?_
        refine c_seq ?_
        refine r_start ?_
        refine p 3 ?_
        obtain ⟨y10_3, hy10_3, h⟩ := H.call h
        refine xq rfl (y_idx (e := eS) (el := 9) hy10_3 (s_own 1)) ?_
        refine xq rfl (y_el (e := eS) 0 (.string (bs y10_3)) hy10_3 (s_own 1)) ?_
        refine p 1 ?_
        refine rend ?_
        refine c_or (seq x6 y10_3) (fun q11 => ?_) (fun q11 => ?_)
        · replace h := H.t q11 h
          refine r_start ?_
          refine p 1 ?_
          refine rend ?_
          refine r_start ?_
          refine p 2 ?_
          obtain ⟨y12_2, hy12_2, h⟩ := H.call h
          refine xq rfl (y_cat hy12_2) ?_
          refine p 1 ?_
          refine rend ?_
          refine c_inb ?_
          refine r_start ?_
          refine p 2 ?_
          refine rend ?_
          refine c_set 27 (ci hw9) ?_
          replace h := H.inl h
          exact h y12_2 _ _ rfl (by kernel_rfl) (by kernel_rfl)
        replace h := H.f q11 h
        refine c_skip ?_
        refine r_start ?_
        refine p 2 ?_
        obtain ⟨y12_2, hy12_2, h⟩ := H.call h
        refine xq rfl (y_cat hy12_2) ?_
        refine p 1 ?_
        refine rend ?_
        refine c_inb ?_
        refine r_start ?_
        refine p 2 ?_
        refine rend ?_
        refine c_set 27 (ci hw9) ?_
        replace h := H.inl h
        exact h y12_2 _ _ rfl (by kernel_rfl) (by kernel_rfl)
      replace h := H.f q10 h
      refine c_skip ?_
      refine c_seq ?_
      refine c_seq ?_
      refine r_start ?_
      refine p 3 ?_
      obtain ⟨y10_3, hy10_3, h⟩ := H.call h
      refine xq rfl (y_idx (e := eS) (el := 9) hy10_3 (s_own 1)) ?_
      refine xq rfl (y_el (e := eS) 0 (.string (bs y10_3)) hy10_3 (s_own 1)) ?_
      refine p 1 ?_
      refine rend ?_
      refine c_or (seq x6 y10_3) (fun q12 => ?_) (fun q12 => ?_)
      · replace h := H.t q12 h
        refine r_start ?_
        refine p 1 ?_
        refine rend ?_
        refine r_start ?_
        refine p 2 ?_
        obtain ⟨y12_2, hy12_2, h⟩ := H.call h
        refine xq rfl (y_cat hy12_2) ?_
        refine p 1 ?_
        refine rend ?_
        refine c_inb ?_
        refine r_start ?_
        refine p 2 ?_
        refine rend ?_
        refine c_set 27 (ci hw9) ?_
        replace h := H.inl h
        exact h y12_2 _ _ rfl (by kernel_rfl) (by kernel_rfl)
      replace h := H.f q12 h
      refine c_skip ?_
      refine r_start ?_
      refine p 2 ?_
      obtain ⟨y12_2, hy12_2, h⟩ := H.call h
      refine xq rfl (y_cat hy12_2) ?_
      refine p 1 ?_
      refine rend ?_
      refine c_inb ?_
      refine r_start ?_
      refine p 2 ?_
      refine rend ?_
      refine c_set 27 (ci hw9) ?_
      replace h := H.inl h
      exact h y12_2 _ _ rfl (by kernel_rfl) (by kernel_rfl)
    · intro t2 u q7 h
      refine c_seq ?_
      refine r_start ?_
      refine p 1 ?_
      refine rend ?_
      refine c_seq ?_
      refine c_no q7 ?_
      refine cx ?_
      replace h := H.done h
      exact hj4 t2 _ _ h (by kernel_rfl) (by kernel_rfl)
  intro t3 u h
  refine c_seq ?_
  refine r_start ?_
  refine p 2 ?_
  refine rend ?_
  replace h := H.done h
  subst h
  exact ret func40 rfl (vs := [.string (bs t3)]) (.tmp (by kernel_rfl) .nil) rfl (fun W S => ⟨rfl, S.below⟩)
theorem C.s_ShortText {fu : Nat} {a0 : Sign} {r : (Str × Bool)} (w : World) (h : X.s_ShortText fu a0 = some r) : Calls prog 12 #[.agg (eSign a0).toArray] w (Ret w (.tuple #[.string (bs r.1), .bool r.2])) := by
  refine calls (M := no) (args := [.agg (eSign a0).toArray]) func12 rfl ?_
  replace h : H (X.s_ShortText fu a0) (fun o => o = r) := H.mk h
  unfold X.s_ShortText at h
  refine c_seq ?_
  refine r_start ?_
  refine xx rfl (x_box (eSign a0) fun g0_0 => ?_)
  refine p 2 ?_
  refine rend ?_
  refine c_seq ?_
  refine c_seq ?_
  refine r_start ?_
  refine xq rfl (y_load (.agg (eSign a0).toArray) 0 g0_0 0) ?_
  obtain ⟨v1_1, hv1_1, h⟩ := H.call h
  refine xq rfl (y_call [.agg (eSign a0).toArray] (.bool v1_1) func39 (fun W S => C.s_siGood W hv1_1)) ?_
  refine p 1 ?_
  refine rend ?_
  refine c_or (!v1_1) (fun q1 => ?_) (fun q1 => ?_)
  · replace h := H.t q1 h
    refine c_seq ?_
    refine r_start ?_
    refine p 2 ?_
    refine rend ?_
    replace h := H.done h
    subst h
    exact ret func12 rfl (vs := [.string (bs ([] : Str)), .bool false]) (.tmp (by kernel_rfl) (.tmp (by kernel_rfl) .nil)) rfl (fun W S => ⟨rfl, S.below⟩)
  replace h := H.f q1 h
  refine c_skip ?_
  refine c_seq ?_
  refine r_start ?_
  refine xq rfl (y_load (.agg (eSign a0).toArray) 0 g0_0 0) ?_
  obtain ⟨v3_1, hv3_1, h⟩ := H.call h
  refine xq rfl (y_call [.agg (eSign a0).toArray] (.string (bs v3_1)) func40 (fun W S => C.s_paShort W hv3_1)) ?_
  refine p 2 ?_
  refine rend ?_
  replace h := H.done h
  subst h
  exact ret func12 rfl (vs := [.string (bs v3_1), .bool true]) (.tmp (by kernel_rfl) (.tmp (by kernel_rfl) .nil)) rfl (fun W S => ⟨rfl, S.below⟩)
theorem C.i_Sign_short {a0 : Sign} {r : Str} (w : World) (h : X.i_Sign_short a0 = some r) : Calls prog 43 #[.agg (eSign a0).toArray] w (Ret w (.string (bs r))) := by
  refine calls (M := no) (args := [.agg (eSign a0).toArray]) func43 rfl ?_
  replace h : H (X.i_Sign_short a0) (fun o => o = r) := H.mk h
  unfold X.i_Sign_short at h
  refine c_seq ?_
  refine r_start ?_
  refine xx rfl (x_box (eSign a0) fun g0_0 => ?_)
  refine p 1 ?_
  refine rend ?_
  refine c_seq ?_
  refine c_seq ?_
  refine r_start ?_
  refine p 1 ?_
  refine xq rfl (y_load (.bool a0.Two) 0 g0_0 13) ?_
  refine p 1 ?_
  refine rend ?_
  refine c_or (!a0.Two) (fun q1 => ?_) (fun q1 => ?_)
  · replace h := H.t q1 h
    refine c_seq ?_
    refine r_start ?_
    refine p 1 ?_
    refine xq rfl (y_load (.agg (eHand a0.Main).toArray) 0 g0_0 0) ?_
    obtain ⟨v2_2, hv2_2, h⟩ := H.call h
    refine xq rfl (y_call [.agg (eHand a0.Main).toArray] (.string (bs v2_2)) func94 (fun W S => C.i_Hand_text W hv2_2)) ?_
    refine p 1 ?_
    refine rend ?_
    replace h := H.done h
    subst h
    exact ret func43 rfl (vs := [.string (bs v2_2)]) (.tmp (by kernel_rfl) .nil) rfl (fun W S => ⟨rfl, S.below⟩)
  replace h := H.f q1 h
  refine c_skip ?_
  refine c_seq ?_
  refine r_start ?_
  refine p 1 ?_
  refine xq rfl (y_load (.agg (eHand a0.Other).toArray) 0 g0_0 14) ?_
  obtain ⟨v3_2, hv3_2, h⟩ := H.call h
  refine xq rfl (y_call [.agg (eHand a0.Other).toArray] (.string (bs v3_2)) func94 (fun W S => C.i_Hand_text W hv3_2)) ?_
  obtain ⟨v3_3, hv3_3, h⟩ := H.call h
  refine xx rfl (e_cr [.string (bs v3_2), .string (bs ([47] : Str))] (fun v => v) func95 (fun W S => C.strings_Split W hv3_3) fun A3_3 k3_3 => ?_)
  refine p 1 ?_
  refine rend ?_
  refine c_seq ?_
  refine c_seq ?_
  refine r_start ?_
  refine p 1 ?_
  refine xq rfl (y_load (.agg (eHand a0.Main).toArray) 0 g0_0 0) ?_
  refine p 1 ?_
  refine xq rfl (y_load (.agg (eHand a0.Other).toArray) 0 g0_0 14) ?_
  obtain ⟨v4_4, hv4_4, h⟩ := H.call h
  refine xx rfl (e_cr [.agg (eHand a0.Main).toArray, .agg (eHand a0.Other).toArray] (fun v => v) func96 (fun W S => C.i_Hand_same W hv4_4) fun A4_4 k4_4 => ?_)
  refine p 2 ?_
  refine rend ?_
  refine c_block ?_
  refine joinH (X := ((List Str) × Option Addr × Nat)) 0 (H.bnd h) (fun ⟨l5, A6, k7⟩ => l5) (fun ⟨l5, A6, k7⟩ => [box g0_0 47 (eSign a0), rowT eS w.heap.size 9 (.slice A6 (List.length l5) k7) l5, rowT eB w.heap.size 4 (.slice A4_4 (List.length v4_4) k4_4) v4_4]) (fun ⟨l5, A6, k7⟩ u => (jk u 0 1 (.pointer (some ⟨g0_0, 0, none⟩) :: (jk u 2 1 (.slice A6 (List.length l5) k7 :: (jk u 4 35 [])))))) (fun h hj8 => ?_) ?_
  · skip
    refine rangeR (X := ((List Str) × Option Addr × Nat)) (s_own 2) (fun ⟨l2, A3, k4⟩ => l2) (fun ⟨l2, A3, k4⟩ => [box g0_0 47 (eSign a0), rowT eS w.heap.size 9 (.slice A3 (List.length l2) k4) l2, rowT eB w.heap.size 4 (.slice A4_4 (List.length v4_4) k4_4) v4_4]) (fun (j9 : Nat) ⟨l2, A3, k4⟩ u => (jk u 0 1 (.pointer (some ⟨g0_0, 0, none⟩) :: (jk u 2 1 (.slice A3 (List.length l2) k4 :: (jk u 4 16 (.slice A4_4 (List.length v4_4) k4_4 :: .int .i64 (List.length v4_4 : Int) :: .int .i64 (j9 : Int) :: (jk u 23 16 [])))))))) (v3_3, A3_3, k3_3) h (by kernel_rfl) (by kernel_rfl) ?_ ?_
    · intro j9 x u x10 q11 hg12 hw13 h
      obtain ⟨l2, A3, k4⟩ := x
      refine c_seq ?_
      refine r_start ?_
      refine p 1 ?_
      refine rend ?_
      refine c_seq ?_
      refine c_yes q11 ?_
      refine c_skip ?_
      refine c_seq ?_
      refine c_block ?_
      refine c_seq ?_
      refine r_start ?_
      refine p 1 ?_
      refine xq rfl (y_idx (e := eB) (el := 4) hg12 (s_own 2)) ?_
      refine xq rfl (y_el (e := eB) 0 (.bool x10) hg12 (s_own 2)) ?_
      refine p 2 ?_
      refine rend ?_
      refine c_seq ?_
      refine r_start ?_
      refine p 1 ?_
      refine rend ?_
      refine c_or x10 (fun q14 => ?_) (fun q14 => ?_)
      · replace h := H.t q14 h
        refine r_start ?_
        refine p 2 ?_
        obtain ⟨y8_2, hy8_2, h⟩ := H.call h
        refine xq rfl (y_idx (e := eS) (el := 9) hy8_2 (s_own 1)) ?_
        refine xx rfl (e_stel (e := eS) (b := ([61] : Str)) 1 0 ([.string (bs ([61] : Str))]) hy8_2 (by kernel_rfl) ?_)
        refine o_set 3 (sl_set (A := A3) (c := k4) (l := l2) (n := Int.toNat (j9 : Int)) (b := ([61] : Str))) ?_
        refine rend ?_
        refine c_inb ?_
        refine r_start ?_
        refine p 2 ?_
        refine rend ?_
        refine c_set 22 (ci hw13) ?_
        replace h := H.inl h
        exact h ((List.set l2 (Int.toNat (j9 : Int)) ([61] : Str)), A3, k4) _ _ rfl (by kernel_rfl) (by kernel_rfl)
      replace h := H.f q14 h
      refine c_skip ?_
      refine c_inb ?_
      refine r_start ?_
      refine p 2 ?_
      refine rend ?_
      refine c_set 22 (ci hw13) ?_
      replace h := H.inl h
      exact h (l2, A3, k4) _ _ rfl (by kernel_rfl) (by kernel_rfl)
    · intro x u q11 h
      obtain ⟨l2, A3, k4⟩ := x
      refine c_seq ?_
      refine r_start ?_
      refine p 1 ?_
      refine rend ?_
      refine c_seq ?_
      refine c_no q11 ?_
      refine cx ?_
      replace h := H.done h
      exact hj8 (l2, A3, k4) _ _ h (by kernel_rfl) (by kernel_rfl)
  intro x u h
  obtain ⟨l5, A6, k7⟩ := x
  refine c_seq ?_
  refine r_start ?_
  refine p 1 ?_
  refine xq rfl (y_load (.agg (eHand a0.Main).toArray) 0 g0_0 0) ?_
  obtain ⟨v10_2, hv10_2, h⟩ := H.call h
  refine xq rfl (y_call [.agg (eHand a0.Main).toArray] (.string (bs v10_2)) func94 (fun W S => C.i_Hand_text W hv10_2)) ?_
  obtain ⟨y10_3, hy10_3, h⟩ := H.call h
  refine xq rfl (y_cat hy10_3) ?_
  refine p 1 ?_
  obtain ⟨v10_5, hv10_5, h⟩ := H.call h
  refine xq rfl (y_call [.slice A6 (List.length l5) k7, .string (bs ([47] : Str))] (.string (bs v10_5)) func97 (fun W S => C.strings_Join W hv10_5 ((s_own 1).out W S))) ?_
  obtain ⟨y10_6, hy10_6, h⟩ := H.call h
  refine xq rfl (y_cat hy10_6) ?_
  refine p 1 ?_
  refine rend ?_
  replace h := H.done h
  subst h
  exact ret func43 rfl (vs := [.string (bs y10_6)]) (.tmp (by kernel_rfl) .nil) rfl (fun W S => ⟨rfl, S.below⟩)
theorem C.i_ShortText {fu : Nat} {a0 : Sign} {r : (Str × Bool)} (w : World) (h : X.i_ShortText fu a0 = some r) : Calls prog 14 #[.agg (eSign a0).toArray] w (Ret w (.tuple #[.string (bs r.1), .bool r.2])) := by
  refine calls (M := no) (args := [.agg (eSign a0).toArray]) func14 rfl ?_
  replace h : H (X.i_ShortText fu a0) (fun o => o = r) := H.mk h
  unfold X.i_ShortText at h
  refine c_seq ?_
  refine r_start ?_
  refine xx rfl (x_box (eSign a0) fun g0_0 => ?_)
  refine p 2 ?_
  refine rend ?_
  refine c_seq ?_
  refine c_seq ?_
  refine r_start ?_
  refine xq rfl (y_load (.agg (eSign a0).toArray) 0 g0_0 0) ?_
  obtain ⟨v1_1, hv1_1, h⟩ := H.call h
  refine xq rfl (y_call [.agg (eSign a0).toArray] (.bool v1_1) func42 (fun W S => C.i_IsSign W hv1_1)) ?_
  refine p 1 ?_
  refine rend ?_
  refine c_or (!v1_1) (fun q1 => ?_) (fun q1 => ?_)
  · replace h := H.t q1 h
    refine c_seq ?_
    refine r_start ?_
    refine p 2 ?_
    refine rend ?_
    replace h := H.done h
    subst h
    exact ret func14 rfl (vs := [.string (bs ([] : Str)), .bool false]) (.tmp (by kernel_rfl) (.tmp (by kernel_rfl) .nil)) rfl (fun W S => ⟨rfl, S.below⟩)
  replace h := H.f q1 h
  refine c_skip ?_
  refine c_seq ?_
  refine r_start ?_
  refine xq rfl (y_load (.agg (eSign a0).toArray) 0 g0_0 0) ?_
  obtain ⟨v3_1, hv3_1, h⟩ := H.call h
  refine xq rfl (y_call [.agg (eSign a0).toArray] (.string (bs v3_1)) func43 (fun W S => C.i_Sign_short W hv3_1)) ?_
  refine p 2 ?_
  refine rend ?_
  replace h := H.done h
  subst h
  exact ret func14 rfl (vs := [.string (bs v3_1), .bool true]) (.tmp (by kernel_rfl) (.tmp (by kernel_rfl) .nil)) rfl (fun W S => ⟨rfl, S.below⟩)
theorem C.l_FnExactShortText {fu : Nat} {a0 : Sign} {r : Bool} (w : World) (h : X.l_FnExactShortText fu a0 = some r) : Calls prog 4 #[.agg (eSign a0).toArray] w (Ret w (.bool r)) := by
  refine calls (M := no) (args := [.agg (eSign a0).toArray]) func4 rfl ?_
  replace h : H (X.l_FnExactShortText fu a0) (fun o => o = r) := H.mk h
  unfold X.l_FnExactShortText at h
  refine c_seq ?_
  refine r_start ?_
  refine xx rfl (x_box (eSign a0) fun g0_0 => ?_)
  refine p 1 ?_
  refine rend ?_
  refine c_seq ?_
  refine r_start ?_
  refine p 1 ?_
  refine rend ?_
  refine c_seq ?_
  refine r_start ?_
  refine xq rfl (y_load (.agg (eSign a0).toArray) 0 g0_0 0) ?_
  refine p 1 ?_
  obtain ⟨v2_2, hv2_2, h⟩ := H.call h
  refine xq rfl (y_call [.agg (eSign a0).toArray, .int .i64 1048576] (.int .i64 v2_2) func11 (fun W S => C.l_szSign W hv2_2)) ?_
  refine p 1 ?_
  refine rend ?_
  refine c_seq ?_
  refine c_seq ?_
  refine r_start ?_
  refine p 2 ?_
  refine rend ?_
  refine c_or (decide (v2_2 < 0)) (fun q1 => ?_) (fun q1 => ?_)
  · replace h := H.t q1 h
    refine c_seq ?_
    refine r_start ?_
    refine p 1 ?_
    refine rend ?_
    replace h := H.done h
    subst h
    exact ret func4 rfl (vs := [.bool true]) (.tmp (by kernel_rfl) .nil) rfl (fun W S => ⟨rfl, S.below⟩)
  replace h := H.f q1 h
  refine c_skip ?_
  refine c_seq ?_
  refine r_start ?_
  refine xq rfl (y_load (.agg (eSign a0).toArray) 0 g0_0 0) ?_
  obtain ⟨v5_1, hv5_1, h⟩ := H.call h
  refine xq rfl (y_call [.agg (eSign a0).toArray] (.agg (eSign v5_1).toArray) func13 (fun W S => C.l_toSign W hv5_1)) ?_
  obtain ⟨v5_2, hv5_2, h⟩ := H.call h
  refine xq rfl (y_call [.agg (eSign v5_1).toArray] (.tuple #[.string (bs v5_2.1), .bool v5_2.2]) func12 (fun W S => C.s_ShortText W hv5_2)) ?_
  refine p 5 ?_
  refine rend ?_
  refine c_seq ?_
  refine r_start ?_
  refine xq rfl (y_load (.agg (eSign a0).toArray) 0 g0_0 0) ?_
  obtain ⟨v6_1, hv6_1, h⟩ := H.call h
  refine xq rfl (y_call [.agg (eSign a0).toArray] (.agg (eSign v6_1).toArray) func13 (fun W S => C.l_toSign W hv6_1)) ?_
  obtain ⟨v6_2, hv6_2, h⟩ := H.call h
  refine xq rfl (y_call [.agg (eSign v6_1).toArray] (.tuple #[.string (bs v6_2.1), .bool v6_2.2]) func14 (fun W S => C.i_ShortText W hv6_2)) ?_
  refine p 5 ?_
  refine rend ?_
  refine c_seq ?_
  refine c_seq ?_
  refine r_start ?_
  refine p 4 ?_
  refine br (!seq v6_2.1 v5_2.1) (fun q2 => ?_) (fun q2 => ?_)
  · replace h := H.t q2 h
    refine o_set 28 (congrArg Value.bool q2) ?_
    refine p 4 ?_
    refine rend ?_
    refine c_t (by kernel_rfl) ?_
    refine c_seq ?_
    refine r_start ?_
    refine p 1 ?_
    refine rend ?_
    replace h := H.done h
    subst h
    exact ret func4 rfl (vs := [.bool false]) (.tmp (by kernel_rfl) .nil) rfl (fun W S => ⟨rfl, S.below⟩)
  replace h := H.f q2 h
  refine o_set 28 (congrArg Value.bool q2) ?_
  refine p 4 ?_
  refine rend ?_
  refine c_or (!(v6_2.2 == v5_2.2)) (fun q3 => ?_) (fun q3 => ?_)
  · replace h := H.t q3 h
    refine c_seq ?_
    refine r_start ?_
    refine p 1 ?_
    refine rend ?_
    replace h := H.done h
    subst h
    exact ret func4 rfl (vs := [.bool false]) (.tmp (by kernel_rfl) .nil) rfl (fun W S => ⟨rfl, S.below⟩)
  replace h := H.f q3 h
  refine c_skip ?_
  refine c_seq ?_
  refine r_start ?_
  refine p 1 ?_
  refine rend ?_
  replace h := H.done h
  subst h
  exact ret func4 rfl (vs := [.bool true]) (.tmp (by kernel_rfl) .nil) rfl (fun W S => ⟨rfl, S.below⟩)
end Go.Proofs.XC
