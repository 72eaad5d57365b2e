/- Contracts: each function, called where its plain function gives an answer, returns just that answer and changes nothing that was there. By AI agents; no person has read it. -/
import Derived.Test.YtaoeiaoenjilbaaGreatDoorC1
set_option linter.unusedVariables false
set_option linter.unusedSimpArgs false
set_option maxRecDepth 100000
set_option maxHeartbeats 40000000
namespace Go.Proofs.XC
open Go Go.RowKit
open Tryz
theorem C.l_szEntry {a0 : Entry} {a1 : Int} {r : Int} (w : World) (h : X.l_szEntry a0 a1 = some r) : Calls prog 93 #[.agg (eEntry a0).toArray, .int .i64 a1] w (Ret w (.int .i64 r)) := by
  refine calls (M := no) (args := [.agg (eEntry a0).toArray, .int .i64 a1]) func93 rfl ?_
  replace h : H (X.l_szEntry a0 a1) (fun o => o = r) := H.mk h
  unfold X.l_szEntry at h
  refine c_seq ?_
  refine r_start ?_
  refine xx rfl (x_box (eEntry a0) fun g0_0 => ?_)
  refine p 1 ?_
  refine rend ?_
  refine c_seq ?_
  refine r_start ?_
  refine p 2 ?_
  refine xq rfl (y_load (.string (bs a0.Gloss)) 0 g0_0 0) ?_
  refine p 3 ?_
  refine rend ?_
  refine c_seq ?_
  refine c_seq ?_
  refine r_start ?_
  refine p 2 ?_
  refine rend ?_
  refine c_or (decide ((wr (a1 - (List.length a0.Gloss : Int))) < 0)) (fun q1 => ?_) (fun q1 => ?_)
  · replace h := H.t q1 h
    refine c_seq ?_
    refine r_start ?_
    refine p 1 ?_
    refine rend ?_
    replace h := H.done h
    subst h
    exact ret func93 rfl (vs := [.int .i64 (-1)]) (.tmp (by kernel_rfl) .nil) rfl (fun W S => ⟨rfl, S.below⟩)
  replace h := H.f q1 h
  refine c_skip ?_
  refine c_seq ?_
  refine r_start ?_
  refine p 1 ?_
  refine xq rfl (y_load (.agg (eSign a0.Sign).toArray) 0 g0_0 1) ?_
  refine p 1 ?_
  obtain ⟨v4_3, hv4_3, h⟩ := H.call h
  refine xq rfl (y_call [.agg (eSign a0.Sign).toArray, .int .i64 (wr (a1 - (List.length a0.Gloss : Int)))] (.int .i64 v4_3) func55 (fun W S => C.l_szSign W hv4_3)) ?_
  refine p 1 ?_
  refine rend ?_
  refine c_seq ?_
  refine c_seq ?_
  refine r_start ?_
  refine p 2 ?_
  refine rend ?_
  refine c_or (decide (v4_3 < 0)) (fun q2 => ?_) (fun q2 => ?_)
  · replace h := H.t q2 h
    refine c_seq ?_
    refine r_start ?_
    refine p 1 ?_
    refine rend ?_
    replace h := H.done h
    subst h
    exact ret func93 rfl (vs := [.int .i64 (-1)]) (.tmp (by kernel_rfl) .nil) rfl (fun W S => ⟨rfl, S.below⟩)
  replace h := H.f q2 h
  refine c_skip ?_
  refine c_seq ?_
  refine r_start ?_
  refine p 2 ?_
  refine rend ?_
  replace h := H.done h
  subst h
  exact ret func93 rfl (vs := [.int .i64 v4_3]) (.tmp (by kernel_rfl) .nil) rfl (fun W S => ⟨rfl, S.below⟩)
theorem C.l_szEntryS {fu : Nat} {a0 : (List Entry)} {A0 : Option Addr} {k0 : Nat} {a1 : Int} {r : Int} (w : World) (h : X.l_szEntryS fu a0 a1 = some r) (h0 : RdT nEntry w (.slice A0 (List.length a0) k0) a0) : Calls prog 44 #[.slice A0 (List.length a0) k0, .int .i64 a1] w (Ret w (.int .i64 r)) := by
  refine calls (M := no) (args := [.slice A0 (List.length a0) k0, .int .i64 a1]) func44 rfl ?_
  replace h : H (X.l_szEntryS fu a0 a1) (fun o => o = r) := H.mk h
  unfold X.l_szEntryS at h
  refine c_seq ?_
  refine r_start ?_
  refine p 1 ?_
  refine rend ?_
  refine c_seq ?_
  refine r_start ?_
  refine p 5 ?_
  refine rend ?_
  refine c_seq ?_
  refine c_seq ?_
  refine r_start ?_
  refine p 2 ?_
  refine rend ?_
  refine c_or (decide ((wr (a1 - (List.length a0 : Int))) < 0)) (fun q1 => ?_) (fun q1 => ?_)
  · replace h := H.t q1 h
    refine c_seq ?_
    refine r_start ?_
    refine p 1 ?_
    refine rend ?_
    replace h := H.done h
    subst h
    exact ret func44 rfl (vs := [.int .i64 (-1)]) (.tmp (by kernel_rfl) .nil) rfl (fun W S => ⟨rfl, S.below⟩)
  replace h := H.f q1 h
  refine c_skip ?_
  refine c_seq ?_
  refine c_seq ?_
  refine r_start ?_
  refine p 1 ?_
  refine rend ?_
  refine c_block ?_
  refine joinE (X := Int) 0 (H.or h) (fun (x : Int) => x) (fun n4 => []) (fun n4 u => (jk u 0 1 (.int .i64 n4 :: (jk u 2 25 [])))) (fun h hj5 => ?_) ?_
  · skip
    refine loopR (X := (Int × Int)) (fun (x : (Int × Int)) => x) (fun ⟨n2, n3⟩ => []) (fun ⟨n2, n3⟩ u => (.slice A0 (List.length a0) k0 :: .int .i64 n2 :: (jk u 2 3 (.int .i64 n3 :: (jk u 6 21 []))))) ((wr (a1 - (List.length a0 : Int))), 0) h (by kernel_rfl) (by kernel_rfl) ?_
    intro x u h
    obtain ⟨n2, n3⟩ := x
    refine c_seq ?_
    refine c_seq ?_
    refine r_start ?_
    refine p 4 ?_
    refine rend ?_
    refine c_or (decide (n3 < (List.length a0 : Int))) (fun q6 => ?_) (fun q6 => ?_)
    · replace h := H.t q6 h
      refine c_skip ?_
      refine c_seq ?_
      refine c_block ?_
      refine c_seq ?_
      refine r_start ?_
      refine p 2 ?_
      obtain ⟨y7_2, hy7_2, h⟩ := H.call h
      refine xq rfl (y_idx (e := nEntry) (el := 112) hy7_2 (s_arg h0)) ?_
      refine xq rfl (y_el (e := nEntry) 0 (.agg (eEntry y7_2).toArray) hy7_2 (s_arg h0)) ?_
      refine p 1 ?_
      obtain ⟨v7_5, hv7_5, h⟩ := H.call h
      refine xq rfl (y_call [.agg (eEntry y7_2).toArray, .int .i64 n2] (.int .i64 v7_5) func93 (fun W S => C.l_szEntry W hv7_5)) ?_
      refine p 1 ?_
      refine rend ?_
      refine c_seq ?_
      refine r_start ?_
      refine p 2 ?_
      refine rend ?_
      refine c_or (decide (v7_5 < 0)) (fun q7 => ?_) (fun q7 => ?_)
      · replace h := H.t q7 h
        refine c_seq ?_
        refine r_start ?_
        refine p 1 ?_
        refine rend ?_
        replace h := H.inr h
        replace h := H.done h
        subst h
        exact ret func44 rfl (vs := [.int .i64 (-1)]) (.tmp (by kernel_rfl) .nil) rfl (fun W S => ⟨rfl, S.below⟩)
      replace h := H.f q7 h
      refine c_skip ?_
      refine c_inb ?_
      refine r_start ?_
      refine p 3 ?_
      refine rend ?_
      replace h := H.inl h
      exact h (v7_5, (wr (n3 + 1))) _ _ rfl (by kernel_rfl) (by kernel_rfl)
    replace h := H.f q6 h
    refine cx ?_
    replace h := H.inr h
    exact hj5 n2 _ _ h (by kernel_rfl) (by kernel_rfl)
  intro n4 u h
  refine c_seq ?_
  refine r_start ?_
  refine p 2 ?_
  refine rend ?_
  replace h := H.done h
  subst h
  exact ret func44 rfl (vs := [.int .i64 n4]) (.tmp (by kernel_rfl) .nil) rfl (fun W S => ⟨rfl, S.below⟩)
theorem C.s_enRegion {a0 : Int} {r : Bool} (w : World) (h : X.s_enRegion a0 = some r) : Calls prog 104 #[.int .i64 a0] w (Ret w (.bool r)) := by
  refine calls (M := no) (args := [.int .i64 a0]) func104 rfl ?_
  replace h : H (X.s_enRegion a0) (fun o => o = r) := H.mk h
  unfold X.s_enRegion at h
  refine c_seq ?_
  refine r_start ?_
  refine p 1 ?_
  refine rend ?_
  refine c_seq ?_
  refine r_start ?_
  refine p 1 ?_
  obtain ⟨v1_1, hv1_1, h⟩ := H.call h
  refine xq rfl (y_call [.int .i64 a0, .int .i64 0, .int .i64 5] (.bool v1_1) func81 (fun W S => C.s_l1In W hv1_1)) ?_
  refine p 1 ?_
  refine rend ?_
  replace h := H.done h
  subst h
  exact ret func104 rfl (vs := [.bool v1_1]) (.tmp (by kernel_rfl) .nil) rfl (fun W S => ⟨rfl, S.below⟩)
theorem C.s_enGloss {fu : Nat} {a0 : Str} {r : Bool} (w : World) (h : X.s_enGloss fu a0 = some r) : Calls prog 190 #[.string (bs a0)] w (Ret w (.bool r)) := by
  refine calls (M := no) (args := [.string (bs a0)]) func190 rfl ?_
  replace h : H (X.s_enGloss fu a0) (fun o => o = r) := H.mk h
  unfold X.s_enGloss at h
  refine c_seq ?_
  refine r_start ?_
  refine p 1 ?_
  refine rend ?_
  refine c_seq ?_
  refine c_seq ?_
  refine r_start ?_
  refine p 1 ?_
  refine rend ?_
  refine c_block ?_
  refine joinE (X := Unit) 0 (H.or h) (fun (x : Unit) => x) (fun _ => []) (fun _ u => (.string (bs a0) :: (jk u 1 22 []))) (fun h hj2 => ?_) ?_
  · skip
    refine loopR (X := Int) (fun (x : Int) => x) (fun n1 => []) (fun n1 u => (.string (bs a0) :: (jk u 1 2 (.int .i64 n1 :: (jk u 4 19 []))))) 0 h (by kernel_rfl) (by kernel_rfl) ?_
    intro n1 u h
    refine c_seq ?_
    refine c_seq ?_
    refine r_start ?_
    refine p 4 ?_
    refine rend ?_
    refine c_or (decide (n1 < (List.length a0 : Int))) (fun q3 => ?_) (fun q3 => ?_)
    · replace h := H.t q3 h
      refine c_skip ?_
      refine c_seq ?_
      refine c_block ?_
      refine c_seq ?_
      refine r_start ?_
      refine p 2 ?_
      obtain ⟨y4_2, hy4_2, h⟩ := H.call h
      refine xq rfl (y_byte hy4_2) ?_
      refine p 2 ?_
      refine br (decide (y4_2 < 65)) (fun q4 => ?_) (fun q4 => ?_)
      · replace h := H.t q4 h
        refine o_set 14 (congrArg Value.bool q4) ?_
        refine p 5 ?_
        refine rend ?_
        refine c_t (by kernel_rfl) ?_
        refine c_seq ?_
        refine r_start ?_
        refine p 1 ?_
        refine rend ?_
        replace h := H.inr h
        replace h := H.done h
        subst h
        exact ret func190 rfl (vs := [.bool false]) (.tmp (by kernel_rfl) .nil) rfl (fun W S => ⟨rfl, S.below⟩)
      replace h := H.f q4 h
      refine o_set 14 (congrArg Value.bool q4) ?_
      refine p 2 ?_
      refine xq rfl (y_byte hy4_2) ?_
      refine p 2 ?_
      refine rend ?_
      refine c_or (decide (y4_2 > 90)) (fun q5 => ?_) (fun q5 => ?_)
      · replace h := H.t q5 h
        refine c_seq ?_
        refine r_start ?_
        refine p 1 ?_
        refine rend ?_
        replace h := H.inr h
        replace h := H.done h
        subst h
        exact ret func190 rfl (vs := [.bool false]) (.tmp (by kernel_rfl) .nil) rfl (fun W S => ⟨rfl, S.below⟩)
      replace h := H.f q5 h
      refine c_skip ?_
      refine c_inb ?_
      refine r_start ?_
      refine p 3 ?_
      refine rend ?_
      replace h := H.inl h
      exact h (wr (n1 + 1)) _ _ rfl (by kernel_rfl) (by kernel_rfl)
    replace h := H.f q3 h
    refine cx ?_
    replace h := H.inr h
    exact hj2 () _ _ h (by kernel_rfl) (by kernel_rfl)
  intro x u h
  refine c_seq ?_
  refine r_start ?_
  refine p 2 ?_
  obtain ⟨v6_2, hv6_2, h⟩ := H.call h
  refine xq rfl (y_call [.int .i64 (List.length a0 : Int), .int .i64 1, .int .i64 8] (.bool v6_2) func81 (fun W S => C.s_l1In W hv6_2)) ?_
  refine p 1 ?_
  refine rend ?_
  replace h := H.done h
  subst h
  exact ret func190 rfl (vs := [.bool v6_2]) (.tmp (by kernel_rfl) .nil) rfl (fun W S => ⟨rfl, S.below⟩)
theorem C.s_enOne {fu : Nat} {a0 : Entry} {r : Bool} (w : World) (h : X.s_enOne fu a0 = some r) : Calls prog 137 #[.agg (eEntry a0).toArray] w (Ret w (.bool r)) := by
  refine calls (M := no) (args := [.agg (eEntry a0).toArray]) func137 rfl ?_
  replace h : H (X.s_enOne fu a0) (fun o => o = r) := H.mk h
  unfold X.s_enOne at h
  refine c_seq ?_
  refine r_start ?_
  refine xx rfl (x_box (eEntry a0) fun g0_0 => ?_)
  refine p 1 ?_
  refine rend ?_
  refine c_seq ?_
  refine r_start ?_
  refine p 1 ?_
  refine xq rfl (y_load (.string (bs a0.Gloss)) 0 g0_0 0) ?_
  obtain ⟨v1_2, hv1_2, h⟩ := H.call h
  refine xq rfl (y_call [.string (bs a0.Gloss)] (.bool v1_2) func190 (fun W S => C.s_enGloss W hv1_2)) ?_
  refine p 1 ?_
  refine br v1_2 (fun q1 => ?_) (fun q1 => ?_)
  · replace h := H.t q1 h
    refine o_set 6 (congrArg Value.bool q1) ?_
    refine p 1 ?_
    refine xq rfl (y_load (.agg (eSign a0.Sign).toArray) 0 g0_0 1) ?_
    obtain ⟨v1_6, hv1_6, h⟩ := H.call h
    refine xq rfl (y_call [.agg (eSign a0.Sign).toArray] (.bool v1_6) func110 (fun W S => C.s_siGood W hv1_6)) ?_
    refine p 2 ?_
    refine br v1_6 (fun q2 => ?_) (fun q2 => ?_)
    · replace h := H.t q2 h
      refine o_set 11 (congrArg Value.bool q2) ?_
      refine p 1 ?_
      refine xq rfl (y_load (.int .i64 a0.Region) 0 g0_0 28) ?_
      obtain ⟨v1_11, hv1_11, h⟩ := H.call h
      refine xq rfl (y_call [.int .i64 a0.Region] (.bool v1_11) func104 (fun W S => C.s_enRegion W hv1_11)) ?_
      refine p 2 ?_
      refine br v1_11 (fun q3 => ?_) (fun q3 => ?_)
      · replace h := H.t q3 h
        refine o_set 16 (congrArg Value.bool q3) ?_
        refine p 1 ?_
        refine xq rfl (y_load (.int .i64 a0.Uses) 0 g0_0 29) ?_
        obtain ⟨v1_16, hv1_16, h⟩ := H.call h
        refine xq rfl (y_call [.int .i64 a0.Uses, .int .i64 0, .int .i64 99999] (.bool v1_16) func81 (fun W S => C.s_l1In W hv1_16)) ?_
        refine p 2 ?_
        refine rend ?_
        replace h := H.done h
        subst h
        exact ret func137 rfl (vs := [.bool v1_16]) (.tmp (by kernel_rfl) .nil) rfl (fun W S => ⟨rfl, S.below⟩)
      replace h := H.f q3 h
      refine o_set 16 (congrArg Value.bool q3) ?_
      refine p 5 ?_
      refine rend ?_
      replace h := H.done h
      subst h
      exact ret func137 rfl (vs := [.bool false]) (.tmp (by kernel_rfl) .nil) rfl (fun W S => ⟨rfl, S.below⟩)
    replace h := H.f q2 h
    refine o_set 11 (congrArg Value.bool q2) ?_
    refine p 10 ?_
    refine rend ?_
    replace h := H.done h
    subst h
    exact ret func137 rfl (vs := [.bool false]) (.tmp (by kernel_rfl) .nil) rfl (fun W S => ⟨rfl, S.below⟩)
  replace h := H.f q1 h
  refine o_set 6 (congrArg Value.bool q1) ?_
  refine p 15 ?_
  refine rend ?_
  replace h := H.done h
  subst h
  exact ret func137 rfl (vs := [.bool false]) (.tmp (by kernel_rfl) .nil) rfl (fun W S => ⟨rfl, S.below⟩)
theorem C.s_enBefore {a0 : Entry} {a1 : Entry} {r : Bool} (w : World) (h : X.s_enBefore a0 a1 = some r) : Calls prog 138 #[.agg (eEntry a0).toArray, .agg (eEntry a1).toArray] w (Ret w (.bool r)) := by
  refine calls (M := no) (args := [.agg (eEntry a0).toArray, .agg (eEntry a1).toArray]) func138 rfl ?_
  replace h : H (X.s_enBefore a0 a1) (fun o => o = r) := H.mk h
  unfold X.s_enBefore at h
  refine c_seq ?_
  refine r_start ?_
  refine xx rfl (x_box (eEntry a0) fun g0_0 => ?_)
  refine xx rfl (x_box (eEntry a1) fun g0_1 => ?_)
  refine p 1 ?_
  refine rend ?_
  refine c_seq ?_
  refine r_start ?_
  refine p 1 ?_
  refine xq rfl (y_load (.string (bs a0.Gloss)) 0 g0_0 0) ?_
  refine p 1 ?_
  refine xq rfl (y_load (.string (bs a1.Gloss)) 1 g0_1 0) ?_
  refine p 2 ?_
  refine br (slt a0.Gloss a1.Gloss) (fun q1 => ?_) (fun q1 => ?_)
  · replace h := H.t q1 h
    refine o_set 10 (congrArg Value.bool q1) ?_
    refine p 14 ?_
    refine rend ?_
    replace h := H.done h
    subst h
    exact ret func138 rfl (vs := [.bool true]) (.tmp (by kernel_rfl) .nil) rfl (fun W S => ⟨rfl, S.below⟩)
  replace h := H.f q1 h
  refine o_set 10 (congrArg Value.bool q1) ?_
  refine p 1 ?_
  refine xq rfl (y_load (.string (bs a0.Gloss)) 0 g0_0 0) ?_
  refine p 1 ?_
  refine xq rfl (y_load (.string (bs a1.Gloss)) 1 g0_1 0) ?_
  refine p 2 ?_
  refine br (seq a0.Gloss a1.Gloss) (fun q2 => ?_) (fun q2 => ?_)
  · replace h := H.t q2 h
    refine o_set 16 (congrArg Value.bool q2) ?_
    refine p 1 ?_
    refine xq rfl (y_load (.int .i64 a0.Region) 0 g0_0 28) ?_
    refine p 1 ?_
    refine xq rfl (y_load (.int .i64 a1.Region) 1 g0_1 28) ?_
    refine p 4 ?_
    refine rend ?_
    replace h := H.done h
    subst h
    exact ret func138 rfl (vs := [.bool (decide (a0.Region < a1.Region))]) (.tmp (by kernel_rfl) .nil) rfl (fun W S => ⟨rfl, S.below⟩)
  replace h := H.f q2 h
  refine o_set 16 (congrArg Value.bool q2) ?_
  refine p 8 ?_
  refine rend ?_
  replace h := H.done h
  subst h
  exact ret func138 rfl (vs := [.bool false]) (.tmp (by kernel_rfl) .nil) rfl (fun W S => ⟨rfl, S.below⟩)
theorem C.s_enGood {fu : Nat} {a0 : (List Entry)} {A0 : Option Addr} {k0 : Nat} {r : Bool} (w : World) (h : X.s_enGood fu a0 = some r) (h0 : RdT nEntry w (.slice A0 (List.length a0) k0) a0) : Calls prog 94 #[.slice A0 (List.length a0) k0] w (Ret w (.bool r)) := by
  refine calls (M := no) (args := [.slice A0 (List.length a0) k0]) func94 rfl ?_
  replace h : H (X.s_enGood fu a0) (fun o => o = r) := H.mk h
  unfold X.s_enGood at h
  refine c_seq ?_
  refine r_start ?_
  refine p 1 ?_
  refine rend ?_
  refine c_seq ?_
  refine c_seq ?_
  refine r_start ?_
  refine p 3 ?_
  refine rend ?_
  refine c_block ?_
  refine joinE (X := Unit) 0 (H.or h) (fun (x : Unit) => x) (fun _ => []) (fun _ u => (.slice A0 (List.length a0) k0 :: (jk u 1 32 []))) (fun h hj1 => ?_) ?_
  · skip
    refine rangeR (X := Unit) (s_arg h0) (fun (x : Unit) => x) (fun _ => []) (fun (j2 : Nat) _ u => (.slice A0 (List.length a0) k0 :: (jk u 1 4 (.slice A0 (List.length a0) k0 :: .int .i64 (List.length a0 : Int) :: .int .i64 (j2 : Int) :: (jk u 8 25 []))))) () h (by kernel_rfl) (by kernel_rfl) ?_ ?_
    · intro j2 x u x3 q4 hg5 hw6 h
      refine c_seq ?_
      refine r_start ?_
      refine p 1 ?_
      refine rend ?_
      refine c_seq ?_
      refine c_yes q4 ?_
      refine c_skip ?_
      refine c_seq ?_
      refine c_block ?_
      refine c_seq ?_
      refine r_start ?_
      refine p 1 ?_
      refine xq rfl (y_idx (e := nEntry) (el := 117) hg5 (s_arg h0)) ?_
      refine xq rfl (y_el (e := nEntry) 0 (.agg (eEntry x3).toArray) hg5 (s_arg h0)) ?_
      refine xx rfl (x_new (eEntry zEntry) fun g3_3 => ?_)
      refine p 1 ?_
      refine xx rfl (x_sto 0 g3_3 0 (eEntry x3) ?_)
      refine rend ?_
      refine c_seq ?_
      refine as_start 17 17 ?_
      refine aq 0 rfl (y_load (.agg (eEntry x3).toArray) 0 g3_3 0) ?_
      obtain ⟨v4_1, hv4_1, h⟩ := H.call h
      refine aq 1 rfl (y_call [.agg (eEntry x3).toArray] (.bool v4_1) func137 (fun W S => C.s_enOne W hv4_1)) ?_
      refine ap 2 2 ?_
      refine br (!v4_1) (fun q7 => ?_) (fun q7 => ?_)
      · replace h := H.t q7 h
        refine a_set 15 (congrArg Value.bool q7) ?_
        refine ap 4 13 ?_
        refine a_done ?_
        refine c_t (by kernel_rfl) ?_
        refine c_seq ?_
        refine r_start ?_
        refine p 1 ?_
        refine rend ?_
        replace h := H.inr h
        replace h := H.done h
        subst h
        exact ret func94 rfl (vs := [.bool false]) (.tmp (by kernel_rfl) .nil) rfl (fun W S => ⟨rfl, S.below⟩)
      replace h := H.f q7 h
      refine a_set 15 (congrArg Value.bool q7) ?_
      refine ap 4 3 ?_
      refine br (decide ((j2 : Int) > 0)) (fun q8 => ?_) (fun q8 => ?_)
      · replace h := H.t q8 h
        refine a_set 18 (congrArg Value.bool q8) ?_
        refine ap 7 3 ?_
        obtain ⟨y4_10, hy4_10, h⟩ := H.call h
        refine aq 10 rfl (y_idx (e := nEntry) (el := 117) hy4_10 (s_arg h0)) ?_
        refine aq 11 rfl (y_el (e := nEntry) 0 (.agg (eEntry y4_10).toArray) hy4_10 (s_arg h0)) ?_
        refine aq 12 rfl (y_load (.agg (eEntry x3).toArray) 0 g3_3 0) ?_
        obtain ⟨v4_13, hv4_13, h⟩ := H.call h
        refine aq 13 rfl (y_call [.agg (eEntry y4_10).toArray, .agg (eEntry x3).toArray] (.bool v4_13) func138 (fun W S => C.s_enBefore W hv4_13)) ?_
        refine ap 14 3 ?_
        refine a_done ?_
        refine c_or (!v4_13) (fun q9 => ?_) (fun q9 => ?_)
        · replace h := H.t q9 h
          refine c_seq ?_
          refine r_start ?_
          refine p 1 ?_
          refine rend ?_
          replace h := H.inr h
          replace h := H.done h
          subst h
          exact ret func94 rfl (vs := [.bool false]) (.tmp (by kernel_rfl) .nil) rfl (fun W S => ⟨rfl, S.below⟩)
        replace h := H.f q9 h
        refine c_skip ?_
        refine c_inb ?_
        refine r_start ?_
        refine p 2 ?_
        refine rend ?_
        refine c_set 7 (ci hw6) ?_
        replace h := H.inl h
        exact h () _ _ rfl (by kernel_rfl) (by kernel_rfl)
      replace h := H.f q8 h
      refine a_set 18 (congrArg Value.bool q8) ?_
      refine ap 7 10 ?_
      refine a_done ?_
      refine c_f (by kernel_rfl) ?_
      refine c_skip ?_
      refine c_inb ?_
      refine r_start ?_
      refine p 2 ?_
      refine rend ?_
      refine c_set 7 (ci hw6) ?_
      replace h := H.inl h
      exact h () _ _ rfl (by kernel_rfl) (by kernel_rfl)
    · intro x u q4 h
      refine c_seq ?_
      refine r_start ?_
      refine p 1 ?_
      refine rend ?_
      refine c_seq ?_
      refine c_no q4 ?_
      refine cx ?_
      replace h := H.done h
      exact hj1 () _ _ h (by kernel_rfl) (by kernel_rfl)
  intro x u h
  refine c_seq ?_
  refine r_start ?_
  refine p 4 ?_
  refine rend ?_
  replace h := H.done h
  subst h
  exact ret func94 rfl (vs := [.bool (decide ((List.length a0 : Int) ≤ 16))]) (.tmp (by kernel_rfl) .nil) rfl (fun W S => ⟨rfl, S.below⟩)
theorem C.s_enNames {a0 : (List Entry)} {A0 : Option Addr} {k0 : Nat} {r : (List Str)} (w : World) (h : X.s_enNames a0 = some r) (h0 : RdT nEntry w (.slice A0 (List.length a0) k0) a0) : Calls prog 95 #[.slice A0 (List.length a0) k0] w (RetR eS 9 w r (fun v => v)) := by
  refine calls (M := no) (args := [.slice A0 (List.length a0) k0]) func95 rfl ?_
  replace h : H (X.s_enNames a0) (fun o => o = r) := H.mk h
  unfold X.s_enNames at h
  refine c_seq ?_
  refine r_start ?_
  refine p 1 ?_
  refine rend ?_
  refine c_seq ?_
  refine r_start ?_
  refine p 1 ?_
  refine rend ?_
  refine c_seq ?_
  refine c_seq ?_
  refine r_start ?_
  refine p 3 ?_
  refine rend ?_
  refine c_block ?_
  refine c_nil eS 9 ?_
  refine joinH (X := ((List Str) × Option Addr × Nat)) 0 (H.bnd h) (fun ⟨l4, A5, k6⟩ => l4) (fun ⟨l4, A5, k6⟩ => [rowT eS w.heap.size 9 (.slice A5 (List.length l4) k6) l4]) (fun ⟨l4, A5, k6⟩ u => (jk u 0 3 (.slice A5 (List.length l4) k6 :: (jk u 4 29 [])))) (fun h hj7 => ?_) ?_
  · skip
    refine rangeR (X := ((List Str) × Option Addr × Nat)) (s_arg h0) (fun ⟨l1, A2, k3⟩ => l1) (fun ⟨l1, A2, k3⟩ => [rowT eS w.heap.size 9 (.slice A2 (List.length l1) k3) l1]) (fun (j8 : Nat) ⟨l1, A2, k3⟩ u => (jk u 0 3 (.slice A2 (List.length l1) k3 :: (jk u 4 2 (.slice A0 (List.length a0) k0 :: .int .i64 (List.length a0 : Int) :: .int .i64 (j8 : Int) :: (jk u 9 24 [])))))) (([] : List Str), none, 0) h (by kernel_rfl) (by kernel_rfl) ?_ ?_
    · intro j8 x u x9 q10 hg11 hw12 h
      obtain ⟨l1, A2, k3⟩ := x
      refine c_seq ?_
      refine r_start ?_
      refine p 1 ?_
      refine rend ?_
      refine c_seq ?_
      refine c_yes q10 ?_
      refine c_skip ?_
      refine c_seq ?_
      refine c_block ?_
      refine c_seq ?_
      refine r_start ?_
      refine xq rfl (y_idx (e := nEntry) (el := 117) hg11 (s_arg h0)) ?_
      refine xq rfl (y_el (e := nEntry) 0 (.agg (eEntry x9).toArray) hg11 (s_arg h0)) ?_
      refine xx rfl (x_new (eEntry zEntry) fun g4_2 => ?_)
      refine xx rfl (x_sto 1 g4_2 0 (eEntry x9) ?_)
      refine rend ?_
      refine c_seq ?_
      refine as_start 14 14 ?_
      refine ap 0 4 ?_
      refine br ((List.length l1 : Int) == 0) (fun q13 => ?_) (fun q13 => ?_)
      · replace h := H.t q13 h
        refine a_set 15 (congrArg Value.bool q13) ?_
        refine ap 4 10 ?_
        refine a_done ?_
        refine c_t (by kernel_rfl) ?_
        refine r_start ?_
        refine p 2 ?_
        refine xq rfl (y_load (.string (bs x9.Gloss)) 1 g4_2 0) ?_
        refine xx rfl (e_lit (e := eS) (el := 9) [.string (bs x9.Gloss)] ([x9.Gloss] : List Str) fun A6_3 k6_3 => ?_)
        obtain ⟨y6_4, hy6_4, h⟩ := H.call h
        refine xx rfl (e_app 0 hy6_4 (s_own 2) fun A6_4 k6_4 => ?_)
        refine p 1 ?_
        refine rend ?_
        refine c_inb ?_
        refine r_start ?_
        refine p 2 ?_
        refine rend ?_
        refine c_set 8 (ci hw12) ?_
        replace h := H.inl h
        exact h (y6_4, A6_4, k6_4) _ _ rfl (by kernel_rfl) (by kernel_rfl)
      replace h := H.f q13 h
      refine a_set 15 (congrArg Value.bool q13) ?_
      refine ap 4 4 ?_
      obtain ⟨y5_8, hy5_8, h⟩ := H.call h
      refine aq 8 rfl (y_idx (e := eS) (el := 9) hy5_8 (s_own 0)) ?_
      refine aq 9 rfl (y_el (e := eS) 0 (.string (bs y5_8)) hy5_8 (s_own 0)) ?_
      refine ap 10 1 ?_
      refine aq 11 rfl (y_load (.string (bs x9.Gloss)) 1 g4_2 0) ?_
      refine ap 12 2 ?_
      refine a_done ?_
      refine c_or (!seq y5_8 x9.Gloss) (fun q14 => ?_) (fun q14 => ?_)
      · replace h := H.t q14 h
        refine r_start ?_
        refine p 2 ?_
        refine xq rfl (y_load (.string (bs x9.Gloss)) 1 g4_2 0) ?_
        refine xx rfl (e_lit (e := eS) (el := 9) [.string (bs x9.Gloss)] ([x9.Gloss] : List Str) fun A6_3 k6_3 => ?_)
        obtain ⟨y6_4, hy6_4, h⟩ := H.call h
        refine xx rfl (e_app 0 hy6_4 (s_own 2) fun A6_4 k6_4 => ?_)
        refine p 1 ?_
        refine rend ?_
        refine c_inb ?_
        refine r_start ?_
        refine p 2 ?_
        refine rend ?_
        refine c_set 8 (ci hw12) ?_
        replace h := H.inl h
        exact h (y6_4, A6_4, k6_4) _ _ rfl (by kernel_rfl) (by kernel_rfl)
      replace h := H.f q14 h
      refine c_skip ?_
      refine c_inb ?_
      refine r_start ?_
      refine p 2 ?_
      refine rend ?_
      refine c_set 8 (ci hw12) ?_
      replace h := H.inl h
      exact h (l1, A2, k3) _ _ rfl (by kernel_rfl) (by kernel_rfl)
    · intro x u q10 h
      obtain ⟨l1, A2, k3⟩ := x
      refine c_seq ?_
      refine r_start ?_
      refine p 1 ?_
      refine rend ?_
      refine c_seq ?_
      refine c_no q10 ?_
      refine cx ?_
      replace h := H.done h
      exact hj7 (l1, A2, k3) _ _ h (by kernel_rfl) (by kernel_rfl)
  intro x u h
  obtain ⟨l4, A5, k6⟩ := x
  refine c_seq ?_
  refine r_start ?_
  refine p 2 ?_
  refine rend ?_
  replace h := H.done h
  subst h
  exact ret func95 rfl (vs := [.slice A5 (List.length l4) k6]) (.tmp (by kernel_rfl) .nil) rfl (fun W S => ⟨_, _, rfl, S.row 0, S.below⟩)
theorem C.s_enUses {a0 : (List Entry)} {A0 : Option Addr} {k0 : Nat} {a1 : Str} {r : Int} (w : World) (h : X.s_enUses a0 a1 = some r) (h0 : RdT nEntry w (.slice A0 (List.length a0) k0) a0) : Calls prog 96 #[.slice A0 (List.length a0) k0, .string (bs a1)] w (Ret w (.int .i64 r)) := by
  refine calls (M := no) (args := [.slice A0 (List.length a0) k0, .string (bs a1)]) func96 rfl ?_
  replace h : H (X.s_enUses a0 a1) (fun o => o = r) := H.mk h
  unfold X.s_enUses at h
  refine c_seq ?_
  refine r_start ?_
  refine p 1 ?_
  refine rend ?_
  refine c_seq ?_
  refine r_start ?_
  refine p 1 ?_
  refine rend ?_
  refine c_seq ?_
  refine c_seq ?_
  refine r_start ?_
  refine p 3 ?_
  refine rend ?_
  refine c_block ?_
  refine joinH (X := Int) 0 (H.bnd h) (fun (x : Int) => x) (fun n2 => []) (fun n2 u => (jk u 0 5 (.int .i64 n2 :: (jk u 6 18 [])))) (fun h hj3 => ?_) ?_
  · skip
    refine rangeR (X := Int) (s_arg h0) (fun (x : Int) => x) (fun n1 => []) (fun (j4 : Nat) n1 u => (jk u 0 1 (.string (bs a1) :: (jk u 2 3 (.int .i64 n1 :: (jk u 6 2 (.slice A0 (List.length a0) k0 :: .int .i64 (List.length a0 : Int) :: .int .i64 (j4 : Int) :: (jk u 11 13 [])))))))) 0 h (by kernel_rfl) (by kernel_rfl) ?_ ?_
    · intro j4 n1 u x5 q6 hg7 hw8 h
      refine c_seq ?_
      refine r_start ?_
      refine p 1 ?_
      refine rend ?_
      refine c_seq ?_
      refine c_yes q6 ?_
      refine c_skip ?_
      refine c_seq ?_
      refine c_block ?_
      refine c_seq ?_
      refine r_start ?_
      refine xq rfl (y_idx (e := nEntry) (el := 117) hg7 (s_arg h0)) ?_
      refine xq rfl (y_el (e := nEntry) 0 (.agg (eEntry x5).toArray) hg7 (s_arg h0)) ?_
      refine xx rfl (x_new (eEntry zEntry) fun g4_2 => ?_)
      refine xx rfl (x_sto 0 g4_2 0 (eEntry x5) ?_)
      refine rend ?_
      refine c_seq ?_
      refine r_start ?_
      refine p 1 ?_
      refine xq rfl (y_load (.string (bs x5.Gloss)) 0 g4_2 0) ?_
      refine p 2 ?_
      refine rend ?_
      refine c_or (seq x5.Gloss a1) (fun q9 => ?_) (fun q9 => ?_)
      · replace h := H.t q9 h
        refine r_start ?_
        refine p 2 ?_
        refine xq rfl (y_load (.int .i64 x5.Uses) 0 g4_2 29) ?_
        refine p 2 ?_
        refine rend ?_
        refine c_inb ?_
        refine r_start ?_
        refine p 2 ?_
        refine rend ?_
        refine c_set 10 (ci hw8) ?_
        replace h := H.inl h
        exact h (wr (n1 + x5.Uses)) _ _ rfl (by kernel_rfl) (by kernel_rfl)
      replace h := H.f q9 h
      refine c_skip ?_
      refine c_inb ?_
      refine r_start ?_
      refine p 2 ?_
      refine rend ?_
      refine c_set 10 (ci hw8) ?_
      replace h := H.inl h
      exact h n1 _ _ rfl (by kernel_rfl) (by kernel_rfl)
    · intro n1 u q6 h
      refine c_seq ?_
      refine r_start ?_
      refine p 1 ?_
      refine rend ?_
      refine c_seq ?_
      refine c_no q6 ?_
      refine cx ?_
      replace h := H.done h
      exact hj3 n1 _ _ h (by kernel_rfl) (by kernel_rfl)
  intro n2 u h
  refine c_seq ?_
  refine r_start ?_
  refine p 2 ?_
  refine rend ?_
  replace h := H.done h
  subst h
  exact ret func96 rfl (vs := [.int .i64 n2]) (.tmp (by kernel_rfl) .nil) rfl (fun W S => ⟨rfl, S.below⟩)
theorem C.s_RankedGlosses {fu : Nat} {a0 : (List Entry)} {A0 : Option Addr} {k0 : Nat} {r : ((List Str) × Bool)} (w : World) (h : X.s_RankedGlosses fu a0 = some r) (h0 : RdT nEntry w (.slice A0 (List.length a0) k0) a0) : Calls prog 45 #[.slice A0 (List.length a0) k0] w (RetR eS 9 w r.1 (fun v => .tuple #[v, .bool r.2])) := by
  refine calls (M := no) (args := [.slice A0 (List.length a0) k0]) func45 rfl ?_
  replace h : H (X.s_RankedGlosses fu a0) (fun o => o = r) := H.mk h
  unfold X.s_RankedGlosses at h
  refine c_seq ?_
  refine r_start ?_
  refine p 2 ?_
  refine rend ?_
  refine c_seq ?_
  refine c_seq ?_
  refine r_start ?_
  refine p 1 ?_
  obtain ⟨v1_1, hv1_1, h⟩ := H.call h
  refine xq rfl (y_call [.slice A0 (List.length a0) k0] (.bool v1_1) func94 (fun W S => C.s_enGood W hv1_1 ((s_arg h0).out W S))) ?_
  refine p 1 ?_
  refine rend ?_
  refine c_or (!v1_1) (fun q1 => ?_) (fun q1 => ?_)
  · replace h := H.t q1 h
    refine c_seq ?_
    refine r_start ?_
    refine p 2 ?_
    refine rend ?_
    replace h := H.done h
    subst h
    exact ret func45 rfl (vs := [.slice none 0 0, .bool false]) (.tmp (by kernel_rfl) (.tmp (by kernel_rfl) .nil)) rfl (fun W S => ⟨none, 0, rfl, World.ownsRow_nil _ _ _ _, S.below⟩)
  replace h := H.f q1 h
  refine c_skip ?_
  refine c_seq ?_
  refine r_start ?_
  refine p 1 ?_
  refine rend ?_
  refine c_seq ?_
  refine c_seq ?_
  refine r_start ?_
  refine p 1 ?_
  obtain ⟨v4_1, hv4_1, h⟩ := H.call h
  refine xx rfl (e_cr [.slice A0 (List.length a0) k0] (fun v => v) func95 (fun W S => C.s_enNames W hv4_1 ((s_arg h0).out W S)) fun A4_1 k4_1 => ?_)
  refine p 2 ?_
  refine rend ?_
  refine c_block ?_
  refine c_nil eS 9 ?_
  refine joinH (X := ((List Str) × Option Addr × Nat)) 0 (H.bnd h) (fun ⟨l5, A6, k7⟩ => l5) (fun ⟨l5, A6, k7⟩ => [rowT eS w.heap.size 9 (.slice A4_1 (List.length v4_1) k4_1) v4_1, rowT eS w.heap.size 9 (.slice A6 (List.length l5) k7) l5]) (fun ⟨l5, A6, k7⟩ u => (jk u 0 4 (.slice A6 (List.length l5) k7 :: (jk u 5 46 [])))) (fun h hj8 => ?_) ?_
  · skip
    refine rangeR (X := ((List Str) × Option Addr × Nat)) (s_own 0) (fun ⟨l2, A3, k4⟩ => l2) (fun ⟨l2, A3, k4⟩ => [rowT eS w.heap.size 9 (.slice A4_1 (List.length v4_1) k4_1) v4_1, rowT eS w.heap.size 9 (.slice A3 (List.length l2) k4) l2]) (fun (j9 : Nat) ⟨l2, A3, k4⟩ u => (.slice A0 (List.length a0) k0 :: (jk u 1 3 (.slice A3 (List.length l2) k4 :: (jk u 5 7 (.slice A4_1 (List.length v4_1) k4_1 :: .int .i64 (List.length v4_1 : Int) :: .int .i64 (j9 : Int) :: (jk u 15 36 []))))))) (([] : List Str), none, 0) h (by kernel_rfl) (by kernel_rfl) ?_ ?_
    · intro j9 x u x10 q11 hg12 hw13 h
      obtain ⟨l2, A3, k4⟩ := x
      refine c_seq ?_
      refine r_start ?_
      refine p 1 ?_
      refine rend ?_
      refine c_seq ?_
      refine c_yes q11 ?_
      refine c_skip ?_
      refine c_seq ?_
      refine c_block ?_
      refine c_seq ?_
      refine r_start ?_
      refine xq rfl (y_idx (e := eS) (el := 9) hg12 (s_own 0)) ?_
      refine xq rfl (y_el (e := eS) 0 (.string (bs x10)) hg12 (s_own 0)) ?_
      refine p 1 ?_
      refine rend ?_
      refine c_seq ?_
      refine r_start ?_
      refine p 3 ?_
      refine rend ?_
      refine c_seq ?_
      refine c_block ?_
      refine joinH (X := Int) 2 (H.bnd h) (fun (x : Int) => x) (fun n15 => [rowT eS w.heap.size 9 (.slice A4_1 (List.length v4_1) k4_1) v4_1, rowT eS w.heap.size 9 (.slice A3 (List.length l2) k4) l2]) (fun n15 u => (.slice A0 (List.length a0) k0 :: (jk u 1 3 (.slice A3 (List.length l2) k4 :: (jk u 5 1 (.string (bs x10) :: .int .i64 n15 :: (jk u 8 4 (.slice A4_1 (List.length v4_1) k4_1 :: .int .i64 (List.length v4_1 : Int) :: .int .i64 (j9 : Int) :: (jk u 15 36 []))))))))) (fun h hj16 => ?_) ?_
      · skip
        refine loopR (X := Int) (fun (x : Int) => x) (fun n14 => [rowT eS w.heap.size 9 (.slice A4_1 (List.length v4_1) k4_1) v4_1, rowT eS w.heap.size 9 (.slice A3 (List.length l2) k4) l2]) (fun n14 u => (.slice A0 (List.length a0) k0 :: (jk u 1 3 (.slice A3 (List.length l2) k4 :: (jk u 5 1 (.string (bs x10) :: .int .i64 n14 :: (jk u 8 4 (.slice A4_1 (List.length v4_1) k4_1 :: .int .i64 (List.length v4_1 : Int) :: .int .i64 (j9 : Int) :: (jk u 15 36 []))))))))) (List.length l2 : Int) h (by kernel_rfl) (by kernel_rfl) ?_
        intro n14 u h
        refine c_seq ?_
        refine c_seq ?_
        refine r_start ?_
        refine p 3 ?_
        refine br (decide (n14 > 0)) (fun q17 => ?_) (fun q17 => ?_)
        · replace h := H.t q17 h
          refine o_set 22 (congrArg Value.bool q17) ?_
          refine p 4 ?_
          obtain ⟨y8_7, hy8_7, h⟩ := H.call h
          refine xq rfl (y_idx (e := eS) (el := 9) hy8_7 (s_own 1)) ?_
          refine xq rfl (y_el (e := eS) 0 (.string (bs y8_7)) hy8_7 (s_own 1)) ?_
          obtain ⟨v8_9, hv8_9, h⟩ := H.call h
          refine xq rfl (y_call [.slice A0 (List.length a0) k0, .string (bs y8_7)] (.int .i64 v8_9) func96 (fun W S => C.s_enUses W hv8_9 ((s_arg h0).out W S))) ?_
          refine p 2 ?_
          obtain ⟨v8_12, hv8_12, h⟩ := H.call h
          refine xq rfl (y_call [.slice A0 (List.length a0) k0, .string (bs x10)] (.int .i64 v8_12) func96 (fun W S => C.s_enUses W hv8_12 ((s_arg h0).out W S))) ?_
          refine p 2 ?_
          refine rend ?_
          refine c_or (decide (v8_9 < v8_12)) (fun q18 => ?_) (fun q18 => ?_)
          · replace h := H.t q18 h
            refine c_skip ?_
            refine c_block ?_
            refine r_start ?_
            refine p 3 ?_
            refine rend ?_
            refine c_inb ?_
            replace h := H.inl h
            exact h (wr (n14 - 1)) _ _ rfl (by kernel_rfl) (by kernel_rfl)
          replace h := H.f q18 h
          refine cx ?_
          replace h := H.inr h
          exact hj16 n14 _ _ h (by kernel_rfl) (by kernel_rfl)
        replace h := H.f q17 h
        refine o_set 22 (congrArg Value.bool q17) ?_
        refine p 12 ?_
        refine rend ?_
        refine c_f (by kernel_rfl) ?_
        refine cx ?_
        replace h := H.inr h
        exact hj16 n14 _ _ h (by kernel_rfl) (by kernel_rfl)
      intro n15 u h
      refine as_start 13 13 ?_
      refine ap 1 2 ?_
      obtain ⟨y10_3, hy10_3, h⟩ := H.call h
      refine aq 3 rfl (y_cutl (e := eS) (el := 9) hy10_3 (s_own 1)) ?_
      refine ap 5 1 ?_
      refine ap 8 2 ?_
      obtain ⟨y10_10, hy10_10, h⟩ := H.call h
      refine aq 10 rfl (y_cutl (e := eS) (el := 9) hy10_10 (s_own 1)) ?_
      refine a_two 0 6 rfl rfl ?_ ?_
      · skip
        refine (e_lit (e := eS) (el := 9) [] ([] : List Str) fun A10_0 k10_0 => ⟨.inr (by kernel_rfl), ?_⟩)
        refine a_two 4 6 rfl rfl ?_ ?_
        · skip
          obtain ⟨y10_4, hy10_4, h⟩ := H.call h
          refine (e_app 2 hy10_4 (s_cut hy10_3 (s_own 1)) fun A10_4 k10_4 => ⟨.inr (by kernel_rfl), ?_⟩)
          refine ax 6 rfl (e_lit (e := eS) (el := 9) [.string (bs x10)] ([x10] : List Str) fun A10_6 k10_6 => ⟨.inr (by kernel_rfl), ?_⟩)
          obtain ⟨y10_7, hy10_7, h⟩ := H.call h
          refine ax 7 rfl (e_app 2 hy10_7 (s_own 3) fun A10_7 k10_7 => ⟨.inr (by kernel_rfl), ?_⟩)
          obtain ⟨y10_11, hy10_11, h⟩ := H.call h
          refine ax 11 rfl (e_app 2 hy10_11 (s_cut hy10_10 (s_own 1)) fun A10_11 k10_11 => ⟨.inr (by kernel_rfl), ?_⟩)
          refine ap 12 1 ?_
          refine a_done ?_
          refine c_inb ?_
          refine r_start ?_
          refine p 2 ?_
          refine rend ?_
          refine pick [0, 2] [rowT eS w.heap.size 9 (.slice A4_1 (List.length v4_1) k4_1) v4_1, rowT eS w.heap.size 9 (.slice A10_11 (List.length y10_11) k10_11) y10_11] ?_
          refine c_set 14 (ci hw13) ?_
          replace h := H.inl h
          exact h (y10_11, A10_11, k10_11) _ _ rfl (by kernel_rfl) (by kernel_rfl)
        refine (e_lit (e := eS) (el := 9) [.string (bs x10)] ([x10] : List Str) fun A10_6 k10_6 => ⟨.inr (by kernel_rfl), ?_⟩)
        obtain ⟨y10_4, hy10_4, h⟩ := H.call h
        refine ax 4 rfl (e_app 2 hy10_4 (s_cut hy10_3 (s_own 1)) fun A10_4 k10_4 => ⟨.inr (by kernel_rfl), ?_⟩)
        obtain ⟨y10_7, hy10_7, h⟩ := H.call h
        refine ax 7 rfl (e_app 2 hy10_7 (s_own 3) fun A10_7 k10_7 => ⟨.inr (by kernel_rfl), ?_⟩)
        obtain ⟨y10_11, hy10_11, h⟩ := H.call h
        refine ax 11 rfl (e_app 2 hy10_11 (s_cut hy10_10 (s_own 1)) fun A10_11 k10_11 => ⟨.inr (by kernel_rfl), ?_⟩)
        refine ap 12 1 ?_
        refine a_done ?_
        refine c_inb ?_
        refine r_start ?_
        refine p 2 ?_
        refine rend ?_
        refine pick [0, 2] [rowT eS w.heap.size 9 (.slice A4_1 (List.length v4_1) k4_1) v4_1, rowT eS w.heap.size 9 (.slice A10_11 (List.length y10_11) k10_11) y10_11] ?_
        refine c_set 14 (ci hw13) ?_
        replace h := H.inl h
        exact h (y10_11, A10_11, k10_11) _ _ rfl (by kernel_rfl) (by kernel_rfl)
      refine (e_lit (e := eS) (el := 9) [.string (bs x10)] ([x10] : List Str) fun A10_6 k10_6 => ⟨.inr (by kernel_rfl), ?_⟩)
      refine ax 0 rfl (e_lit (e := eS) (el := 9) [] ([] : List Str) fun A10_0 k10_0 => ⟨.inr (by kernel_rfl), ?_⟩)
      obtain ⟨y10_4, hy10_4, h⟩ := H.call h
      refine ax 4 rfl (e_app 3 hy10_4 (s_cut hy10_3 (s_own 1)) fun A10_4 k10_4 => ⟨.inr (by kernel_rfl), ?_⟩)
      obtain ⟨y10_7, hy10_7, h⟩ := H.call h
      refine ax 7 rfl (e_app 3 hy10_7 (s_own 2) fun A10_7 k10_7 => ⟨.inr (by kernel_rfl), ?_⟩)
      obtain ⟨y10_11, hy10_11, h⟩ := H.call h
      refine ax 11 rfl (e_app 3 hy10_11 (s_cut hy10_10 (s_own 1)) fun A10_11 k10_11 => ⟨.inr (by kernel_rfl), ?_⟩)
      refine ap 12 1 ?_
      refine a_done ?_
      refine swp [rowT eS w.heap.size 9 (.slice A4_1 (List.length v4_1) k4_1) v4_1, rowT eS w.heap.size 9 (.slice A3 (List.length l2) k4) l2] (rowT eS w.heap.size 9 (.slice A10_6 (List.length ([x10] : List Str)) k10_6) ([x10] : List Str)) (rowT eS w.heap.size 9 (.slice A10_11 (List.length y10_11) k10_11) y10_11) ?_
      refine c_inb ?_
      refine r_start ?_
      refine p 2 ?_
      refine rend ?_
      refine pick [0, 2] [rowT eS w.heap.size 9 (.slice A4_1 (List.length v4_1) k4_1) v4_1, rowT eS w.heap.size 9 (.slice A10_11 (List.length y10_11) k10_11) y10_11] ?_
      refine c_set 14 (ci hw13) ?_
      replace h := H.inl h
      exact h (y10_11, A10_11, k10_11) _ _ rfl (by kernel_rfl) (by kernel_rfl)
    · intro x u q11 h
      obtain ⟨l2, A3, k4⟩ := x
      refine c_seq ?_
      refine r_start ?_
      refine p 1 ?_
      refine rend ?_
      refine c_seq ?_
      refine c_no q11 ?_
      refine cx ?_
      replace h := H.done h
      exact hj8 (l2, A3, k4) _ _ h (by kernel_rfl) (by kernel_rfl)
  intro x u h
  obtain ⟨l5, A6, k7⟩ := x
  refine c_seq ?_
  refine r_start ?_
  refine p 3 ?_
  refine rend ?_
  replace h := H.done h
  subst h
  exact ret func45 rfl (vs := [.slice A6 (List.length l5) k7, .bool true]) (.tmp (by kernel_rfl) (.tmp (by kernel_rfl) .nil)) rfl (fun W S => ⟨_, _, rfl, S.row 1, S.below⟩)
theorem C.l_toEntry {a0 : Entry} {r : Entry} (w : World) (h : X.l_toEntry a0 = some r) : Calls prog 97 #[.agg (eEntry a0).toArray] w (Ret w (.agg (eEntry r).toArray)) := by
  refine calls (M := no) (args := [.agg (eEntry a0).toArray]) func97 rfl ?_
  replace h : H (X.l_toEntry a0) (fun o => o = r) := H.mk h
  unfold X.l_toEntry at h
  refine c_seq ?_
  refine r_start ?_
  refine xx rfl (x_box (eEntry a0) fun g0_0 => ?_)
  refine xx rfl (x_new (eEntry zEntry) fun g0_1 => ?_)
  refine rend ?_
  refine c_seq ?_
  refine r_start ?_
  refine xx rfl (x_new (eEntry zEntry) fun g1_0 => ?_)
  refine rend ?_
  refine c_seq ?_
  refine r_start ?_
  refine p 1 ?_
  refine xq rfl (y_load (.string (bs a0.Gloss)) 0 g0_0 0) ?_
  refine p 1 ?_
  refine xx rfl (x_sto 2 g1_0 0 (eEntry ({ zEntry with Gloss := a0.Gloss })) ?_)
  refine rend ?_
  refine c_seq ?_
  refine r_start ?_
  refine p 1 ?_
  refine xq rfl (y_load (.agg (eSign a0.Sign).toArray) 0 g0_0 1) ?_
  obtain ⟨v3_2, hv3_2, h⟩ := H.call h
  refine xq rfl (y_call [.agg (eSign a0.Sign).toArray] (.agg (eSign v3_2).toArray) func57 (fun W S => C.l_toSign W hv3_2)) ?_
  refine p 1 ?_
  refine xx rfl (x_sto 2 g1_0 1 (eEntry ({ zEntry with Gloss := a0.Gloss, Sign := v3_2 })) ?_)
  refine rend ?_
  refine c_seq ?_
  refine r_start ?_
  refine p 1 ?_
  refine xq rfl (y_load (.int .i64 a0.Region) 0 g0_0 28) ?_
  refine p 1 ?_
  refine xx rfl (x_sto 2 g1_0 28 (eEntry ({ a0 with Sign := v3_2, Uses := zEntry.Uses })) ?_)
  refine rend ?_
  refine c_seq ?_
  refine r_start ?_
  refine p 1 ?_
  refine xq rfl (y_load (.int .i64 a0.Uses) 0 g0_0 29) ?_
  refine p 1 ?_
  refine xx rfl (x_sto 2 g1_0 29 (eEntry ({ a0 with Sign := v3_2 })) ?_)
  refine rend ?_
  refine c_seq ?_
  refine r_start ?_
  refine xq rfl (y_load (.agg (eEntry ({ a0 with Sign := v3_2 })).toArray) 2 g1_0 0) ?_
  refine xx rfl (x_sto 1 g0_1 0 (eEntry ({ a0 with Sign := v3_2 })) ?_)
  refine rend ?_
  replace h := H.done h
  subst h
  exact ret func97 rfl (vs := [.agg (eEntry ({ a0 with Sign := v3_2 })).toArray]) (.cell 1 g0_1 rfl (by kernel_rfl) (by kernel_rfl) .nil) rfl (fun W S => ⟨rfl, S.below⟩)
theorem C.l_toEntryS {fu : Nat} {a0 : (List Entry)} {A0 : Option Addr} {k0 : Nat} {r : (List Entry)} (w : World) (h : X.l_toEntryS fu a0 = some r) (h0 : RdT nEntry w (.slice A0 (List.length a0) k0) a0) : Calls prog 46 #[.slice A0 (List.length a0) k0] w (RetR nEntry 117 w r (fun v => v)) := by
  refine calls (M := no) (args := [.slice A0 (List.length a0) k0]) func46 rfl ?_
  replace h : H (X.l_toEntryS fu a0) (fun o => o = r) := H.mk h
  unfold X.l_toEntryS at h
  refine c_seq ?_
  refine r_start ?_
  refine p 1 ?_
  refine rend ?_
  refine c_seq ?_
  refine r_start ?_
  refine p 2 ?_
  obtain ⟨y1_2, hy1_2, h⟩ := H.call h
  refine xx rfl (e_make (el := 117) hy1_2 fun A1_2 k1_2 => ?_)
  refine p 1 ?_
  refine rend ?_
  refine c_seq ?_
  refine c_seq ?_
  refine r_start ?_
  refine p 1 ?_
  refine rend ?_
  refine c_block ?_
  refine joinH (X := ((List Entry) × Option Addr × Nat)) 0 (H.bnd h) (fun ⟨l5, A6, k7⟩ => l5) (fun ⟨l5, A6, k7⟩ => [rowT nEntry w.heap.size 117 (.slice A6 (List.length l5) k7) l5]) (fun ⟨l5, A6, k7⟩ u => (jk u 0 3 (.slice A6 (List.length l5) k7 :: (jk u 4 19 [])))) (fun h hj8 => ?_) ?_
  · skip
    refine loopR (X := (Int × (List Entry) × Option Addr × Nat)) (fun ⟨n1, l2, A3, k4⟩ => (n1, l2)) (fun ⟨n1, l2, A3, k4⟩ => [rowT nEntry w.heap.size 117 (.slice A3 (List.length l2) k4) l2]) (fun ⟨n1, l2, A3, k4⟩ u => (.slice A0 (List.length a0) k0 :: (jk u 1 2 (.slice A3 (List.length l2) k4 :: .int .i64 n1 :: (jk u 5 18 []))))) (0, y1_2, A1_2, k1_2) h (by kernel_rfl) (by kernel_rfl) ?_
    intro x u h
    obtain ⟨n1, l2, A3, k4⟩ := x
    refine c_seq ?_
    refine c_seq ?_
    refine r_start ?_
    refine p 4 ?_
    refine rend ?_
    refine c_or (decide (n1 < (List.length a0 : Int))) (fun q9 => ?_) (fun q9 => ?_)
    · replace h := H.t q9 h
      refine c_skip ?_
      refine c_seq ?_
      refine c_block ?_
      refine r_start ?_
      refine p 4 ?_
      obtain ⟨y5_4, hy5_4, h⟩ := H.call h
      refine xq rfl (y_idx (e := nEntry) (el := 112) hy5_4 (s_arg h0)) ?_
      refine xq rfl (y_el (e := nEntry) 0 (.agg (eEntry y5_4).toArray) hy5_4 (s_arg h0)) ?_
      obtain ⟨v5_6, hv5_6, h⟩ := H.call h
      refine xq rfl (y_call [.agg (eEntry y5_4).toArray] (.agg (eEntry v5_6).toArray) func97 (fun W S => C.l_toEntry W hv5_6)) ?_
      obtain ⟨y5_7, hy5_7, h⟩ := H.call h
      refine xq rfl (y_idx (e := nEntry) (el := 117) hy5_7 (s_own 0)) ?_
      refine xx rfl (e_stel (e := nEntry) (b := v5_6) 0 0 (eEntry v5_6) hy5_7 (by kernel_rfl) ?_)
      refine o_set 3 (sl_set (A := A3) (c := k4) (l := l2) (n := Int.toNat n1) (b := v5_6)) ?_
      refine rend ?_
      refine c_inb ?_
      refine r_start ?_
      refine p 3 ?_
      refine rend ?_
      replace h := H.inl h
      exact h ((wr (n1 + 1)), (List.set l2 (Int.toNat n1) v5_6), A3, k4) _ _ rfl (by kernel_rfl) (by kernel_rfl)
    replace h := H.f q9 h
    refine cx ?_
    replace h := H.inr h
    exact hj8 (l2, A3, k4) _ _ h (by kernel_rfl) (by kernel_rfl)
  intro x u h
  obtain ⟨l5, A6, k7⟩ := x
  refine c_seq ?_
  refine r_start ?_
  refine p 2 ?_
  refine rend ?_
  replace h := H.done h
  subst h
  exact ret func46 rfl (vs := [.slice A6 (List.length l5) k7]) (.tmp (by kernel_rfl) .nil) rfl (fun W S => ⟨_, _, rfl, S.row 0, S.below⟩)
theorem C.i_isWordOf {a0 : Str} {a1 : Str} {r : Bool} (w : World) (h : X.i_isWordOf a0 a1 = some r) : Calls prog 231 #[.string (bs a0), .string (bs a1)] w (Ret w (.bool r)) := by
  refine calls (M := no) (args := [.string (bs a0), .string (bs a1)]) func231 rfl ?_
  replace h : H (X.i_isWordOf a0 a1) (fun o => o = r) := H.mk h
  unfold X.i_isWordOf at h
  refine c_seq ?_
  refine r_start ?_
  refine p 1 ?_
  refine rend ?_
  refine c_seq ?_
  refine r_start ?_
  refine p 2 ?_
  obtain ⟨v1_2, hv1_2, h⟩ := H.call h
  refine xq rfl (y_call [.int .i64 (List.length a0 : Int), .int .i64 1, .int .i64 8] (.bool v1_2) func70 (fun W S => C.i_within W hv1_2)) ?_
  refine p 1 ?_
  refine br v1_2 (fun q1 => ?_) (fun q1 => ?_)
  · replace h := H.t q1 h
    refine o_set 8 (congrArg Value.bool q1) ?_
    refine p 2 ?_
    obtain ⟨v1_6, hv1_6, h⟩ := H.call h
    refine xq rfl (y_call [.string (bs a0), .string (bs a1)] (.bool v1_6) func243 (fun W S => C.i_hasOnly W hv1_6)) ?_
    refine p 2 ?_
    refine rend ?_
    replace h := H.done h
    subst h
    exact ret func231 rfl (vs := [.bool v1_6]) (.tmp (by kernel_rfl) .nil) rfl (fun W S => ⟨rfl, S.below⟩)
  replace h := H.f q1 h
  refine o_set 8 (congrArg Value.bool q1) ?_
  refine p 5 ?_
  refine rend ?_
  replace h := H.done h
  subst h
  exact ret func231 rfl (vs := [.bool false]) (.tmp (by kernel_rfl) .nil) rfl (fun W S => ⟨rfl, S.below⟩)
theorem C.i_IsGloss {a0 : Str} {r : Bool} (w : World) (h : X.i_IsGloss a0 = some r) : Calls prog 191 #[.string (bs a0)] w (Ret w (.bool r)) := by
  refine calls (M := no) (args := [.string (bs a0)]) func191 rfl ?_
  replace h : H (X.i_IsGloss a0) (fun o => o = r) := H.mk h
  unfold X.i_IsGloss at h
  refine c_seq ?_
  refine r_start ?_
  refine p 1 ?_
  refine rend ?_
  refine c_seq ?_
  refine r_start ?_
  refine p 1 ?_
  obtain ⟨v1_1, hv1_1, h⟩ := H.call h
  refine xq rfl (y_call [.string (bs a0), .string (bs ([65, 66, 67, 68, 69, 70, 71, 72, 73, 74, 75, 76, 77, 78, 79, 80, 81, 82, 83, 84, 85, 86, 87, 88, 89, 90] : Str))] (.bool v1_1) func231 (fun W S => C.i_isWordOf W hv1_1)) ?_
  refine p 1 ?_
  refine rend ?_
  replace h := H.done h
  subst h
  exact ret func191 rfl (vs := [.bool v1_1]) (.tmp (by kernel_rfl) .nil) rfl (fun W S => ⟨rfl, S.below⟩)
theorem C.i_isEntry {fu : Nat} {a0 : Entry} {r : Bool} (w : World) (h : X.i_isEntry fu a0 = some r) : Calls prog 139 #[.agg (eEntry a0).toArray] w (Ret w (.bool r)) := by
  refine calls (M := no) (args := [.agg (eEntry a0).toArray]) func139 rfl ?_
  replace h : H (X.i_isEntry fu a0) (fun o => o = r) := H.mk h
  unfold X.i_isEntry at h
  refine c_seq ?_
  refine r_start ?_
  refine xx rfl (x_box (eEntry a0) fun g0_0 => ?_)
  refine p 1 ?_
  refine rend ?_
  refine c_seq ?_
  refine r_start ?_
  refine p 1 ?_
  refine xq rfl (y_load (.string (bs a0.Gloss)) 0 g0_0 0) ?_
  obtain ⟨v1_2, hv1_2, h⟩ := H.call h
  refine xq rfl (y_call [.string (bs a0.Gloss)] (.bool v1_2) func191 (fun W S => C.i_IsGloss W hv1_2)) ?_
  refine p 1 ?_
  refine br v1_2 (fun q1 => ?_) (fun q1 => ?_)
  · replace h := H.t q1 h
    refine o_set 6 (congrArg Value.bool q1) ?_
    refine p 1 ?_
    refine xq rfl (y_load (.agg (eSign a0.Sign).toArray) 0 g0_0 1) ?_
    obtain ⟨v1_6, hv1_6, h⟩ := H.call h
    refine xq rfl (y_call [.agg (eSign a0.Sign).toArray] (.bool v1_6) func113 (fun W S => C.i_IsSign W hv1_6)) ?_
    refine p 2 ?_
    refine br v1_6 (fun q2 => ?_) (fun q2 => ?_)
    · replace h := H.t q2 h
      refine o_set 11 (congrArg Value.bool q2) ?_
      refine p 1 ?_
      refine xq rfl (y_load (.int .i64 a0.Region) 0 g0_0 28) ?_
      obtain ⟨v1_11, hv1_11, h⟩ := H.call h
      refine xq rfl (y_call [.int .i64 a0.Region, .int .i64 0, .int .i64 5] (.bool v1_11) func70 (fun W S => C.i_within W hv1_11)) ?_
      refine p 2 ?_
      refine br v1_11 (fun q3 => ?_) (fun q3 => ?_)
      · replace h := H.t q3 h
        refine o_set 16 (congrArg Value.bool q3) ?_
        refine p 1 ?_
        refine xq rfl (y_load (.int .i64 a0.Uses) 0 g0_0 29) ?_
        obtain ⟨v1_16, hv1_16, h⟩ := H.call h
        refine xq rfl (y_call [.int .i64 a0.Uses, .int .i64 0, .int .i64 99999] (.bool v1_16) func70 (fun W S => C.i_within W hv1_16)) ?_
        refine p 2 ?_
        refine rend ?_
        replace h := H.done h
        subst h
        exact ret func139 rfl (vs := [.bool v1_16]) (.tmp (by kernel_rfl) .nil) rfl (fun W S => ⟨rfl, S.below⟩)
      replace h := H.f q3 h
      refine o_set 16 (congrArg Value.bool q3) ?_
      refine p 5 ?_
      refine rend ?_
      replace h := H.done h
      subst h
      exact ret func139 rfl (vs := [.bool false]) (.tmp (by kernel_rfl) .nil) rfl (fun W S => ⟨rfl, S.below⟩)
    replace h := H.f q2 h
    refine o_set 11 (congrArg Value.bool q2) ?_
    refine p 10 ?_
    refine rend ?_
    replace h := H.done h
    subst h
    exact ret func139 rfl (vs := [.bool false]) (.tmp (by kernel_rfl) .nil) rfl (fun W S => ⟨rfl, S.below⟩)
  replace h := H.f q1 h
  refine o_set 6 (congrArg Value.bool q1) ?_
  refine p 15 ?_
  refine rend ?_
  replace h := H.done h
  subst h
  exact ret func139 rfl (vs := [.bool false]) (.tmp (by kernel_rfl) .nil) rfl (fun W S => ⟨rfl, S.below⟩)
theorem C.cmp_isNaN_int {a0 : Int} {r : Bool} (w : World) (h : X.cmp_isNaN_int a0 = some r) : Calls prog 232 #[.int .i64 a0] w (Ret w (.bool r)) := by
  refine calls (M := no) (args := [.int .i64 a0]) func232 rfl ?_
  replace h : H (X.cmp_isNaN_int a0) (fun o => o = r) := H.mk h
  unfold X.cmp_isNaN_int at h
  refine c_seq ?_
  refine r_start ?_
  refine p 1 ?_
  refine rend ?_
  refine c_seq ?_
  refine r_start ?_
  refine p 4 ?_
  refine rend ?_
  replace h := H.done h
  subst h
  exact ret func232 rfl (vs := [.bool (a0 != a0)]) (.tmp (by kernel_rfl) .nil) rfl (fun W S => ⟨rfl, S.below⟩)
theorem C.cmp_Compare_int {a0 : Int} {a1 : Int} {r : Int} (w : World) (h : X.cmp_Compare_int a0 a1 = some r) : Calls prog 192 #[.int .i64 a0, .int .i64 a1] w (Ret w (.int .i64 r)) := by
  refine calls (M := no) (args := [.int .i64 a0, .int .i64 a1]) func192 rfl ?_
  replace h : H (X.cmp_Compare_int a0 a1) (fun o => o = r) := H.mk h
  unfold X.cmp_Compare_int at h
  refine c_seq ?_
  refine r_start ?_
  refine p 1 ?_
  refine rend ?_
  refine c_seq ?_
  refine r_start ?_
  refine p 1 ?_
  obtain ⟨v1_1, hv1_1, h⟩ := H.call h
  refine xq rfl (y_call [.int .i64 a0] (.bool v1_1) func232 (fun W S => C.cmp_isNaN_int W hv1_1)) ?_
  refine p 1 ?_
  refine rend ?_
  refine c_seq ?_
  refine r_start ?_
  refine p 1 ?_
  obtain ⟨v2_1, hv2_1, h⟩ := H.call h
  refine xq rfl (y_call [.int .i64 a1] (.bool v2_1) func232 (fun W S => C.cmp_isNaN_int W hv2_1)) ?_
  refine p 1 ?_
  refine rend ?_
  refine c_seq ?_
  refine c_seq ?_
  refine r_start ?_
  refine p 1 ?_
  refine rend ?_
  refine c_or v1_1 (fun q1 => ?_) (fun q1 => ?_)
  · replace h := H.t q1 h
    refine c_seq ?_
    refine c_seq ?_
    refine r_start ?_
    refine p 1 ?_
    refine rend ?_
    refine c_or v2_1 (fun q2 => ?_) (fun q2 => ?_)
    · replace h := H.t q2 h
      refine c_seq ?_
      refine r_start ?_
      refine p 1 ?_
      refine rend ?_
      replace h := H.done h
      subst h
      exact ret func192 rfl (vs := [.int .i64 0]) (.tmp (by kernel_rfl) .nil) rfl (fun W S => ⟨rfl, S.below⟩)
    replace h := H.f q2 h
    refine c_skip ?_
    refine c_seq ?_
    refine r_start ?_
    refine p 1 ?_
    refine rend ?_
    replace h := H.done h
    subst h
    exact ret func192 rfl (vs := [.int .i64 (-1)]) (.tmp (by kernel_rfl) .nil) rfl (fun W S => ⟨rfl, S.below⟩)
  replace h := H.f q1 h
  refine c_skip ?_
  refine c_seq ?_
  refine c_seq ?_
  refine r_start ?_
  refine p 1 ?_
  refine rend ?_
  refine c_or v2_1 (fun q3 => ?_) (fun q3 => ?_)
  · replace h := H.t q3 h
    refine c_seq ?_
    refine r_start ?_
    refine p 1 ?_
    refine rend ?_
    replace h := H.done h
    subst h
    exact ret func192 rfl (vs := [.int .i64 1]) (.tmp (by kernel_rfl) .nil) rfl (fun W S => ⟨rfl, S.below⟩)
  replace h := H.f q3 h
  refine c_skip ?_
  refine c_seq ?_
  refine c_seq ?_
  refine r_start ?_
  refine p 3 ?_
  refine rend ?_
  refine c_or (decide (a0 < a1)) (fun q4 => ?_) (fun q4 => ?_)
  · replace h := H.t q4 h
    refine c_seq ?_
    refine r_start ?_
    refine p 1 ?_
    refine rend ?_
    replace h := H.done h
    subst h
    exact ret func192 rfl (vs := [.int .i64 (-1)]) (.tmp (by kernel_rfl) .nil) rfl (fun W S => ⟨rfl, S.below⟩)
  replace h := H.f q4 h
  refine c_skip ?_
  refine c_seq ?_
  refine c_seq ?_
  refine r_start ?_
  refine p 3 ?_
  refine rend ?_
  refine c_or (decide (a0 > a1)) (fun q5 => ?_) (fun q5 => ?_)
  · replace h := H.t q5 h
    refine c_seq ?_
    refine r_start ?_
    refine p 1 ?_
    refine rend ?_
    replace h := H.done h
    subst h
    exact ret func192 rfl (vs := [.int .i64 1]) (.tmp (by kernel_rfl) .nil) rfl (fun W S => ⟨rfl, S.below⟩)
  replace h := H.f q5 h
  refine c_skip ?_
  refine c_seq ?_
  refine r_start ?_
  refine p 1 ?_
  refine rend ?_
  replace h := H.done h
  subst h
  exact ret func192 rfl (vs := [.int .i64 0]) (.tmp (by kernel_rfl) .nil) rfl (fun W S => ⟨rfl, S.below⟩)
theorem C.i_compareEntries {a0 : Entry} {a1 : Entry} {r : Int} (w : World) (h : X.i_compareEntries a0 a1 = some r) : Calls prog 140 #[.agg (eEntry a0).toArray, .agg (eEntry a1).toArray] w (Ret w (.int .i64 r)) := by
  refine calls (M := no) (args := [.agg (eEntry a0).toArray, .agg (eEntry a1).toArray]) func140 rfl ?_
  replace h : H (X.i_compareEntries a0 a1) (fun o => o = r) := H.mk h
  unfold X.i_compareEntries at h
  refine c_seq ?_
  refine r_start ?_
  refine xx rfl (x_box (eEntry a0) fun g0_0 => ?_)
  refine xx rfl (x_box (eEntry a1) fun g0_1 => ?_)
  refine p 1 ?_
  refine rend ?_
  refine c_seq ?_
  refine as_start 13 13 ?_
  refine ap 0 1 ?_
  refine aq 1 rfl (y_load (.string (bs a0.Gloss)) 0 g0_0 0) ?_
  refine ap 2 1 ?_
  refine aq 3 rfl (y_load (.string (bs a1.Gloss)) 1 g0_1 0) ?_
  obtain ⟨v1_4, hv1_4, h⟩ := H.call h
  refine aq 4 rfl (y_call [.string (bs a0.Gloss), .string (bs a1.Gloss)] (.int .i64 v1_4) func135 (fun W S => C.strings_Compare W hv1_4)) ?_
  refine ap 5 1 ?_
  refine aq 6 rfl (y_load (.int .i64 a0.Region) 0 g0_0 28) ?_
  refine ap 7 1 ?_
  refine aq 8 rfl (y_load (.int .i64 a1.Region) 1 g0_1 28) ?_
  obtain ⟨v1_9, hv1_9, h⟩ := H.call h
  refine aq 9 rfl (y_call [.int .i64 a0.Region, .int .i64 a1.Region] (.int .i64 v1_9) func192 (fun W S => C.cmp_Compare_int W hv1_9)) ?_
  refine ax 10 rfl (e_lit (e := (eI .i64)) (el := 3) [.int .i64 v1_4, .int .i64 v1_9] ([v1_4, v1_9] : List Int) fun A1_10 k1_10 => ⟨.inr (by kernel_rfl), ?_⟩)
  obtain ⟨v1_11, hv1_11, h⟩ := H.call h
  refine ax 11 rfl (e_y (y_call [.slice A1_10 (List.length ([v1_4, v1_9] : List Int)) k1_10] (.int .i64 v1_11) func136 (fun W S => C.cmp_Or_int W hv1_11 ((s_own 2).out W S))) ⟨.inr (by kernel_rfl), ?_⟩)
  refine ap 12 1 ?_
  refine a_done ?_
  replace h := H.done h
  subst h
  exact ret func140 rfl (vs := [.int .i64 v1_11]) (.tmp (by kernel_rfl) .nil) rfl (fun W S => ⟨rfl, S.below⟩)
theorem C.i_AreEntries {fu : Nat} {a0 : (List Entry)} {A0 : Option Addr} {k0 : Nat} {r : Bool} (w : World) (h : X.i_AreEntries fu a0 = some r) (h0 : RdT nEntry w (.slice A0 (List.length a0) k0) a0) : Calls prog 98 #[.slice A0 (List.length a0) k0] w (Ret w (.bool r)) := by
  refine calls (M := no) (args := [.slice A0 (List.length a0) k0]) func98 rfl ?_
  replace h : H (X.i_AreEntries fu a0) (fun o => o = r) := H.mk h
  unfold X.i_AreEntries at h
  refine c_seq ?_
  refine r_start ?_
  refine p 1 ?_
  refine rend ?_
  refine c_seq ?_
  refine c_seq ?_
  refine r_start ?_
  refine p 3 ?_
  refine rend ?_
  refine c_block ?_
  refine joinE (X := Unit) 0 (H.or h) (fun (x : Unit) => x) (fun _ => []) (fun _ u => (.slice A0 (List.length a0) k0 :: (jk u 1 32 []))) (fun h hj1 => ?_) ?_
  · skip
    refine rangeR (X := Unit) (s_arg h0) (fun (x : Unit) => x) (fun _ => []) (fun (j2 : Nat) _ u => (.slice A0 (List.length a0) k0 :: (jk u 1 4 (.slice A0 (List.length a0) k0 :: .int .i64 (List.length a0 : Int) :: .int .i64 (j2 : Int) :: (jk u 8 25 []))))) () h (by kernel_rfl) (by kernel_rfl) ?_ ?_
    · intro j2 x u x3 q4 hg5 hw6 h
      refine c_seq ?_
      refine r_start ?_
      refine p 1 ?_
      refine rend ?_
      refine c_seq ?_
      refine c_yes q4 ?_
      refine c_skip ?_
      refine c_seq ?_
      refine c_block ?_
      refine c_seq ?_
      refine r_start ?_
      refine p 1 ?_
      refine xq rfl (y_idx (e := nEntry) (el := 117) hg5 (s_arg h0)) ?_
      refine xq rfl (y_el (e := nEntry) 0 (.agg (eEntry x3).toArray) hg5 (s_arg h0)) ?_
      refine xx rfl (x_new (eEntry zEntry) fun g3_3 => ?_)
      refine p 1 ?_
      refine xx rfl (x_sto 0 g3_3 0 (eEntry x3) ?_)
      refine rend ?_
      refine c_seq ?_
      refine as_start 17 17 ?_
      refine aq 0 rfl (y_load (.agg (eEntry x3).toArray) 0 g3_3 0) ?_
      obtain ⟨v4_1, hv4_1, h⟩ := H.call h
      refine aq 1 rfl (y_call [.agg (eEntry x3).toArray] (.bool v4_1) func139 (fun W S => C.i_isEntry W hv4_1)) ?_
      refine ap 2 2 ?_
      refine br (!v4_1) (fun q7 => ?_) (fun q7 => ?_)
      · replace h := H.t q7 h
        refine a_set 15 (congrArg Value.bool q7) ?_
        refine ap 4 13 ?_
        refine a_done ?_
        refine c_t (by kernel_rfl) ?_
        refine c_seq ?_
        refine r_start ?_
        refine p 1 ?_
        refine rend ?_
        replace h := H.inr h
        replace h := H.done h
        subst h
        exact ret func98 rfl (vs := [.bool false]) (.tmp (by kernel_rfl) .nil) rfl (fun W S => ⟨rfl, S.below⟩)
      replace h := H.f q7 h
      refine a_set 15 (congrArg Value.bool q7) ?_
      refine ap 4 3 ?_
      refine br (decide ((j2 : Int) > 0)) (fun q8 => ?_) (fun q8 => ?_)
      · replace h := H.t q8 h
        refine a_set 18 (congrArg Value.bool q8) ?_
        refine ap 7 3 ?_
        obtain ⟨y4_10, hy4_10, h⟩ := H.call h
        refine aq 10 rfl (y_idx (e := nEntry) (el := 117) hy4_10 (s_arg h0)) ?_
        refine aq 11 rfl (y_el (e := nEntry) 0 (.agg (eEntry y4_10).toArray) hy4_10 (s_arg h0)) ?_
        refine aq 12 rfl (y_load (.agg (eEntry x3).toArray) 0 g3_3 0) ?_
        obtain ⟨v4_13, hv4_13, h⟩ := H.call h
        refine aq 13 rfl (y_call [.agg (eEntry y4_10).toArray, .agg (eEntry x3).toArray] (.int .i64 v4_13) func140 (fun W S => C.i_compareEntries W hv4_13)) ?_
        refine ap 14 3 ?_
        refine a_done ?_
        refine c_or (decide (v4_13 ≥ 0)) (fun q9 => ?_) (fun q9 => ?_)
        · replace h := H.t q9 h
          refine c_seq ?_
          refine r_start ?_
          refine p 1 ?_
          refine rend ?_
          replace h := H.inr h
          replace h := H.done h
          subst h
          exact ret func98 rfl (vs := [.bool false]) (.tmp (by kernel_rfl) .nil) rfl (fun W S => ⟨rfl, S.below⟩)
        replace h := H.f q9 h
        refine c_skip ?_
        refine c_inb ?_
        refine r_start ?_
        refine p 2 ?_
        refine rend ?_
        refine c_set 7 (ci hw6) ?_
        replace h := H.inl h
        exact h () _ _ rfl (by kernel_rfl) (by kernel_rfl)
      replace h := H.f q8 h
      refine a_set 18 (congrArg Value.bool q8) ?_
      refine ap 7 10 ?_
      refine a_done ?_
      refine c_f (by kernel_rfl) ?_
      refine c_skip ?_
      refine c_inb ?_
      refine r_start ?_
      refine p 2 ?_
      refine rend ?_
      refine c_set 7 (ci hw6) ?_
      replace h := H.inl h
      exact h () _ _ rfl (by kernel_rfl) (by kernel_rfl)
    · intro x u q4 h
      refine c_seq ?_
      refine r_start ?_
      refine p 1 ?_
      refine rend ?_
      refine c_seq ?_
      refine c_no q4 ?_
      refine cx ?_
      replace h := H.done h
      exact hj1 () _ _ h (by kernel_rfl) (by kernel_rfl)
  intro x u h
  refine c_seq ?_
  refine r_start ?_
  refine p 4 ?_
  refine rend ?_
  replace h := H.done h
  subst h
  exact ret func98 rfl (vs := [.bool (decide ((List.length a0 : Int) ≤ 16))]) (.tmp (by kernel_rfl) .nil) rfl (fun W S => ⟨rfl, S.below⟩)
theorem C.slices_Compact_string_string {a0 : (List Str)} {A0 : Option Addr} {k0 B0 : Nat} {r : (List Str)} (w : World) (h : X.slices_Compact_string_string a0 = some r) (h0 : World.ownsRow w B0 9 (Enc.sz eS) (.slice A0 (List.length a0) k0) (List.length a0) (Enc.flat eS a0)) : Calls prog 141 #[.slice A0 (List.length a0) k0] w (RetC eS B0 9 A0 k0 w r) := by
  unfold X.slices_Compact_string_string at h
  by_cases hb : List.length a0 ≤ 9223372036854775807
  case neg =>
    rw [decide_eq_false hb] at h
    cases h
  rw [decide_eq_true hb] at h
  obtain rfl := Option.some.inj h
  cases a0 with
  | nil =>
    refine (Tryz.slices_Compact_string_empty A0 k0 w).mono ?_
    rintro en W' ⟨rfl, rfl⟩
    exact ⟨rfl, h0, ⟨rfl, rfl, rfl, Nat.le_refl _, fun _ _ _ => rfl⟩⟩
  | cons x a =>
    have h1 : w.ownsRow B0 9 1 (.slice A0 (List.length (x :: a)) k0) (List.length (x :: a)) ((x :: a).map encStr) := by
      rw [← flat_str]
      exact h0
    obtain ⟨g, cap, e1, hg, hlt, hn, hcm, hlen, hH⟩ := Lib.holds_of_ownsRow h1 (by intro e; injection e with _ e2 _; cases e2)
    injection e1 with e1 _ e3
    subst e1
    subst e3
    refine (Tryz.slices_Compact_string g 0 k0 (x :: a) w hH hb hn).mono ?_
    rintro en W' ⟨rfl, q, rfl⟩
    have hle : (Lib.compact (x :: a)).length ≤ (x :: a).length := by
      unfold Lib.compact Lib.compactUpTo
      rw [List.length_map]
      exact Nat.le_trans (List.length_filter_le _ _) (by rw [List.length_range]; exact Nat.le_refl _)
    have h2 := Lib.ownsRow_putRow (q := q) (k := (Lib.compact (x :: a)).length) (ys := Lib.compact (x :: a) ++ List.replicate ((x :: a).length - (Lib.compact (x :: a)).length) []) h1 (by rw [List.length_append, List.length_replicate]; omega) hle
    rw [List.take_left, ← flat_str] at h2
    refine ⟨rfl, h2, ⟨rfl, rfl, rfl, by simp [Sort.putRow, Sort.mapBlock, Sort.ahead], fun k hk hne => ?_⟩⟩
    have : g ≠ k := fun e => hne (by rw [e]; rfl)
    simp [Sort.putRow, Sort.mapBlock, Sort.ahead, Array.getElem?_modify, this]
theorem C.i_glossesOf {a0 : (List Entry)} {A0 : Option Addr} {k0 : Nat} {r : (List Str)} (w : World) (h : X.i_glossesOf a0 = some r) (h0 : RdT nEntry w (.slice A0 (List.length a0) k0) a0) : Calls prog 99 #[.slice A0 (List.length a0) k0] w (RetR eS 9 w r (fun v => v)) := by
  refine calls (M := no) (args := [.slice A0 (List.length a0) k0]) func99 rfl ?_
  replace h : H (X.i_glossesOf a0) (fun o => o = r) := H.mk h
  unfold X.i_glossesOf at h
  refine c_seq ?_
  refine r_start ?_
  refine p 1 ?_
  refine rend ?_
  refine c_seq ?_
  refine r_start ?_
  refine p 1 ?_
  refine rend ?_
  refine c_seq ?_
  refine c_seq ?_
  refine r_start ?_
  refine p 3 ?_
  refine rend ?_
  refine c_block ?_
  refine c_nil eS 9 ?_
  refine joinH (X := ((List Str) × Option Addr × Nat)) 0 (H.bnd h) (fun ⟨l4, A5, k6⟩ => l4) (fun ⟨l4, A5, k6⟩ => [rowT eS w.heap.size 9 (.slice A5 (List.length l4) k6) l4]) (fun ⟨l4, A5, k6⟩ u => (jk u 0 3 (.slice A5 (List.length l4) k6 :: (jk u 4 16 [])))) (fun h hj7 => ?_) ?_
  · skip
    refine rangeR (X := ((List Str) × Option Addr × Nat)) (s_arg h0) (fun ⟨l1, A2, k3⟩ => l1) (fun ⟨l1, A2, k3⟩ => [rowT eS w.heap.size 9 (.slice A2 (List.length l1) k3) l1]) (fun (j8 : Nat) ⟨l1, A2, k3⟩ u => (jk u 0 3 (.slice A2 (List.length l1) k3 :: (jk u 4 2 (.slice A0 (List.length a0) k0 :: .int .i64 (List.length a0 : Int) :: .int .i64 (j8 : Int) :: (jk u 9 11 [])))))) (([] : List Str), none, 0) h (by kernel_rfl) (by kernel_rfl) ?_ ?_
    · intro j8 x u x9 q10 hg11 hw12 h
      obtain ⟨l1, A2, k3⟩ := x
      refine c_seq ?_
      refine r_start ?_
      refine p 1 ?_
      refine rend ?_
      refine c_seq ?_
      refine c_yes q10 ?_
      refine c_skip ?_
      refine c_seq ?_
      refine c_block ?_
      refine c_seq ?_
      refine r_start ?_
      refine xq rfl (y_idx (e := nEntry) (el := 117) hg11 (s_arg h0)) ?_
      refine xq rfl (y_el (e := nEntry) 0 (.agg (eEntry x9).toArray) hg11 (s_arg h0)) ?_
      refine xx rfl (x_new (eEntry zEntry) fun g4_2 => ?_)
      refine xx rfl (x_sto 1 g4_2 0 (eEntry x9) ?_)
      refine rend ?_
      refine r_start ?_
      refine p 2 ?_
      refine xq rfl (y_load (.string (bs x9.Gloss)) 1 g4_2 0) ?_
      refine xx rfl (e_lit (e := eS) (el := 9) [.string (bs x9.Gloss)] ([x9.Gloss] : List Str) fun A5_3 k5_3 => ?_)
      obtain ⟨y5_4, hy5_4, h⟩ := H.call h
      refine xx rfl (e_app 0 hy5_4 (s_own 2) fun A5_4 k5_4 => ?_)
      refine p 1 ?_
      refine rend ?_
      refine c_inb ?_
      refine r_start ?_
      refine p 2 ?_
      refine rend ?_
      refine c_set 8 (ci hw12) ?_
      replace h := H.inl h
      exact h (y5_4, A5_4, k5_4) _ _ rfl (by kernel_rfl) (by kernel_rfl)
    · intro x u q10 h
      obtain ⟨l1, A2, k3⟩ := x
      refine c_seq ?_
      refine r_start ?_
      refine p 1 ?_
      refine rend ?_
      refine c_seq ?_
      refine c_no q10 ?_
      refine cx ?_
      replace h := H.done h
      exact hj7 (l1, A2, k3) _ _ h (by kernel_rfl) (by kernel_rfl)
  intro x u h
  obtain ⟨l4, A5, k6⟩ := x
  refine c_seq ?_
  refine r_start ?_
  refine p 1 ?_
  obtain ⟨v7_1, hv7_1, h⟩ := H.call h
  refine xx rfl (e_cwc (e := eS) (l' := v7_1) 0 [.slice A5 (List.length l4) k6] func141 (fun W S => C.slices_Compact_string_string W hv7_1 (S.row 0)) ?_)
  refine p 1 ?_
  refine rend ?_
  replace h := H.done h
  subst h
  exact ret func99 rfl (vs := [.slice A5 (List.length v7_1) k6]) (.tmp (by kernel_rfl) .nil) rfl (fun W S => ⟨_, _, rfl, S.row 0, S.below⟩)
theorem C.slices_insertionSortCmpFunc_string {fu : Nat} {a0 : (List Str)} {A0 : Option Addr} {k0 B0 n0 : Nat} {a1 : Int} {a2 : Int} {a3 : (Str → Str → Option Int)} {g3 : Nat} {cp3 : List Value} {r : (List Str)} (w : World) (h : X.slices_insertionSortCmpFunc_string fu a0 a1 a2 a3 = some r) (hn0 : List.length a0 = n0) (h0 : World.ownsRow w B0 9 (Enc.sz eS) (.slice A0 n0 k0) n0 (Enc.flat eS a0)) (hg3 : isFn prog g3 = true) (hF3 : ∀ (x0 : Str) (x1 : Str) (r : Int) (W : World), World.grownBy w W (Value.slice A0 n0 k0).ownBlock → a3 x0 x1 = some r → Calls prog g3 (([.string (bs x0), .string (bs x1)] : List Value) ++ cp3).toArray W (Ret W (.int .i64 r))) : Calls prog 193 #[.slice A0 (n0) k0, .int .i64 a1, .int .i64 a2, .func (.func g3) #[] cp3.toArray] w (RetW eS B0 9 A0 n0 k0 w r (.tuple #[])) := by
  subst hn0
  refine callsW (args := [.slice A0 (List.length a0) k0, .int .i64 a1, .int .i64 a2, .func (.func g3) #[] cp3.toArray]) rfl h0 func193 rfl ?_
  replace h : H (X.slices_insertionSortCmpFunc_string fu a0 a1 a2 a3) (fun o => o = r) := H.mk h
  unfold X.slices_insertionSortCmpFunc_string at h
  refine c_seq ?_
  refine r_start ?_
  refine p 3 ?_
  refine rend ?_
  refine c_block ?_
  refine joinH (X := (List Str)) 0 (H.bnd h) (fun (x : (List Str)) => x) (fun l3 => [argW eS B0 9 A0 (List.length a0) k0 l3]) (fun l3 u => (jk u 0 53 [])) (fun h hj4 => ?_) ?_
  · skip
    refine loopR (X := (Int × (List Str))) (fun (x : (Int × (List Str))) => x) (fun ⟨n1, l2⟩ => [argW eS B0 9 A0 (List.length a0) k0 l2]) (fun ⟨n1, l2⟩ u => (.slice A0 (List.length a0) k0 :: .int .i64 a1 :: .int .i64 a2 :: .func (.func g3) #[] cp3.toArray :: (jk u 4 4 (.int .i64 n1 :: (jk u 9 44 []))))) ((wr (a1 + 1)), a0) h (by kernel_rfl) (by kernel_rfl) ?_
    intro x u h
    obtain ⟨n1, l2⟩ := x
    refine c_seq ?_
    refine c_seq ?_
    refine r_start ?_
    refine p 3 ?_
    refine rend ?_
    refine c_or (decide (n1 < a2)) (fun q5 => ?_) (fun q5 => ?_)
    · replace h := H.t q5 h
      refine c_skip ?_
      refine c_seq ?_
      refine c_block ?_
      refine c_seq ?_
      refine r_start ?_
      refine p 2 ?_
      refine rend ?_
      refine c_block ?_
      refine joinH (X := (List Str)) 2 (H.bnd h) (fun (x : (List Str)) => x) (fun l8 => [argW eS B0 9 A0 (List.length a0) k0 l8]) (fun l8 u => (.slice A0 (List.length a0) k0 :: .int .i64 a1 :: .int .i64 a2 :: .func (.func g3) #[] cp3.toArray :: (jk u 4 4 (.int .i64 n1 :: (jk u 9 44 []))))) (fun h hj9 => ?_) ?_
      · skip
        refine loopR (X := (Int × (List Str))) (fun (x : (Int × (List Str))) => x) (fun ⟨n6, l7⟩ => [argW eS B0 9 A0 (List.length a0) k0 l7]) (fun ⟨n6, l7⟩ u => (.slice A0 (List.length a0) k0 :: .int .i64 a1 :: .int .i64 a2 :: .func (.func g3) #[] cp3.toArray :: (jk u 4 4 (.int .i64 n1 :: .int .i64 n6 :: (jk u 10 43 []))))) (n1, l2) h (by kernel_rfl) (by kernel_rfl) ?_
        intro x u h
        obtain ⟨n6, l7⟩ := x
        refine c_seq ?_
        refine c_seq ?_
        refine as_start 17 17 ?_
        refine ap 0 4 ?_
        refine br (decide (n6 > a1)) (fun q10 => ?_) (fun q10 => ?_)
        · replace h := H.t q10 h
          refine a_set 21 (congrArg Value.bool q10) ?_
          refine ap 4 3 ?_
          obtain ⟨y4_7, hy4_7, h⟩ := H.call h
          refine aq 7 rfl (y_idxW (e := eS) (el := 9) 0 hy4_7) ?_
          refine aq 8 rfl (y_elW (e := eS) 0 0 (.string (bs y4_7)) hy4_7) ?_
          refine ap 9 3 ?_
          obtain ⟨y4_12, hy4_12, h⟩ := H.call h
          refine aq 12 rfl (y_idxW (e := eS) (el := 9) 0 hy4_12) ?_
          refine aq 13 rfl (y_elW (e := eS) 0 0 (.string (bs y4_12)) hy4_12) ?_
          obtain ⟨v4_14, hv4_14, h⟩ := H.call h
          refine aq 14 rfl (y_cf cp3 [.string (bs y4_7), .string (bs y4_12)] (.int .i64 v4_14) hg3 (fun W S => hF3 _ _ _ W S.grw hv4_14)) ?_
          refine ap 15 2 ?_
          refine a_done ?_
          refine c_or (decide (v4_14 < 0)) (fun q11 => ?_) (fun q11 => ?_)
          · replace h := H.t q11 h
            refine c_skip ?_
            refine c_seq ?_
            refine c_block ?_
            refine as_start 15 18 ?_
            refine apx 0 8 ?_
            refine aq 8 rfl (y_idxW (e := eS) (el := 9) 0 hy4_12) ?_
            refine aq 9 rfl (y_elW (e := eS) 0 0 (.string (bs y4_12)) hy4_12) ?_
            refine ap 10 2 ?_
            refine aq 12 rfl (y_idxW (e := eS) (el := 9) 0 hy4_7) ?_
            refine aq 13 rfl (y_elW (e := eS) 0 0 (.string (bs y4_7)) hy4_7) ?_
            refine aq 14 rfl (y_idxW (e := eS) (el := 9) 0 hy4_7) ?_
            refine ax 15 rfl (e_stW (e := eS) (b := y4_12) 0 0 ([.string (bs y4_12)]) hy4_7 (by kernel_rfl) ⟨.inl (by kernel_rfl), ?_⟩)
            obtain ⟨y6_16, hy6_16, h⟩ := H.call h
            refine ax 16 rfl (e_y (y_idxW (e := eS) (el := 9) 0 hy6_16) ⟨.inl (by kernel_rfl), ?_⟩)
            refine ax 17 rfl (e_stW (e := eS) (b := y4_7) 0 0 ([.string (bs y4_7)]) hy6_16 (by kernel_rfl) ⟨.inl (by kernel_rfl), ?_⟩)
            refine a_done ?_
            refine c_inb ?_
            refine r_start ?_
            refine p 3 ?_
            refine rend ?_
            replace h := H.inl h
            exact h ((wr (n6 - 1)), (List.set (List.set l7 (Int.toNat n6) y4_12) (Int.toNat (wr (n6 - 1))) y4_7)) _ _ rfl (by kernel_rfl) (by kernel_rfl)
          replace h := H.f q11 h
          refine cx ?_
          replace h := H.inr h
          exact hj9 l7 _ _ h (by kernel_rfl) (by kernel_rfl)
        replace h := H.f q10 h
        refine a_set 21 (congrArg Value.bool q10) ?_
        refine ap 4 13 ?_
        refine a_done ?_
        refine c_f (by kernel_rfl) ?_
        refine cx ?_
        replace h := H.inr h
        exact hj9 l7 _ _ h (by kernel_rfl) (by kernel_rfl)
      intro l8 u h
      refine c_inb ?_
      refine r_start ?_
      refine p 3 ?_
      refine rend ?_
      replace h := H.inl h
      exact h ((wr (n1 + 1)), l8) _ _ rfl (by kernel_rfl) (by kernel_rfl)
    replace h := H.f q5 h
    refine cx ?_
    replace h := H.inr h
    exact hj4 l2 _ _ h (by kernel_rfl) (by kernel_rfl)
  intro l3 u h
  replace h := H.done h
  subst h
  exact fin func193 rfl (vs := []) .nil rfl (fun W S => S.retW)
theorem C.slices_stableCmpFunc_string {fu : Nat} {a0 : (List Str)} {A0 : Option Addr} {k0 B0 n0 : Nat} {a1 : Int} {a2 : (Str → Str → Option Int)} {g2 : Nat} {cp2 : List Value} {r : (List Str)} (w : World) (h : X.slices_stableCmpFunc_string fu a0 a1 a2 = some r) (hn0 : List.length a0 = n0) (h0 : World.ownsRow w B0 9 (Enc.sz eS) (.slice A0 n0 k0) n0 (Enc.flat eS a0)) (hg2 : isFn prog g2 = true) (hF2 : ∀ (x0 : Str) (x1 : Str) (r : Int) (W : World), World.grownBy w W (Value.slice A0 n0 k0).ownBlock → a2 x0 x1 = some r → Calls prog g2 (([.string (bs x0), .string (bs x1)] : List Value) ++ cp2).toArray W (Ret W (.int .i64 r))) : Calls prog 142 #[.slice A0 (n0) k0, .int .i64 a1, .func (.func g2) #[] cp2.toArray] w (RetW eS B0 9 A0 n0 k0 w r (.tuple #[])) := by
  subst hn0
  refine callsW (args := [.slice A0 (List.length a0) k0, .int .i64 a1, .func (.func g2) #[] cp2.toArray]) rfl h0 func142 rfl ?_
  replace h : H (X.slices_stableCmpFunc_string fu a0 a1 a2) (fun o => o = r) := H.mk h
  unfold X.slices_stableCmpFunc_string at h
  refine c_seq ?_
  refine r_start ?_
  refine p 1 ?_
  refine rend ?_
  refine c_seq ?_
  refine r_start ?_
  refine p 3 ?_
  refine rend ?_
  refine c_seq ?_
  refine c_block ?_
  refine joinH (X := (Int × (List Str))) 0 (H.bnd h) (fun (x : (Int × (List Str))) => x) (fun ⟨n4, l5⟩ => [argW eS B0 9 A0 (List.length a0) k0 l5]) (fun ⟨n4, l5⟩ u => (.slice A0 (List.length a0) k0 :: .int .i64 a1 :: .func (.func g2) #[] cp2.toArray :: (jk u 3 3 (.int .i64 20 :: .int .i64 n4 :: (jk u 8 55 []))))) (fun h hj6 => ?_) ?_
  · skip
    refine loopR (X := (Int × Int × (List Str))) (fun (x : (Int × Int × (List Str))) => x) (fun ⟨n1, n2, l3⟩ => [argW eS B0 9 A0 (List.length a0) k0 l3]) (fun ⟨n1, n2, l3⟩ u => (.slice A0 (List.length a0) k0 :: .int .i64 a1 :: .func (.func g2) #[] cp2.toArray :: (jk u 3 3 (.int .i64 20 :: .int .i64 n1 :: .int .i64 n2 :: (jk u 9 54 []))))) (0, 20, a0) h (by kernel_rfl) (by kernel_rfl) ?_
    intro x u h
    obtain ⟨n1, n2, l3⟩ := x
    refine c_seq ?_
    refine c_seq ?_
    refine r_start ?_
    refine p 3 ?_
    refine rend ?_
    refine c_or (decide (n2 ≤ a1)) (fun q7 => ?_) (fun q7 => ?_)
    · replace h := H.t q7 h
      refine c_skip ?_
      refine c_block ?_
      refine c_seq ?_
      refine r_start ?_
      refine p 4 ?_
      obtain ⟨v3_4, hv3_4, h⟩ := H.call h
      refine xx rfl (e_cwW (e := eS) (l' := v3_4) (v := .tuple #[]) 0 [.slice A0 (List.length a0) k0, .int .i64 n1, .int .i64 n2, .func (.func g2) #[] cp2.toArray] func193 (fun W S => C.slices_insertionSortCmpFunc_string W hv3_4 (S.rowW 0).1 (S.rowW 0).2 hg2 (fun x0_2 x1_2 r W2 hu2 hx2 => hF2 x0_2 x1_2 r W2 (grw_tr S.grw hu2) hx2)) ?_)
      refine rend ?_
      refine c_seq ?_
      refine r_start ?_
      refine p 2 ?_
      refine rend ?_
      refine r_start ?_
      refine p 4 ?_
      refine rend ?_
      refine c_inb ?_
      replace h := H.inl h
      exact h (n2, (wr (n2 + 20)), v3_4) _ _ rfl (by kernel_rfl) (by kernel_rfl)
    replace h := H.f q7 h
    refine cx ?_
    replace h := H.inr h
    exact hj6 (n1, l3) _ _ h (by kernel_rfl) (by kernel_rfl)
  intro x u h
  obtain ⟨n4, l5⟩ := x
  refine c_seq ?_
  refine r_start ?_
  refine p 4 ?_
  obtain ⟨v6_4, hv6_4, h⟩ := H.call h
  refine xx rfl (e_cwW (e := eS) (l' := v6_4) (v := .tuple #[]) 0 [.slice A0 (List.length a0) k0, .int .i64 n4, .int .i64 a1, .func (.func g2) #[] cp2.toArray] func193 (fun W S => C.slices_insertionSortCmpFunc_string W hv6_4 (S.rowW 0).1 (S.rowW 0).2 hg2 (fun x0_2 x1_2 r W2 hu2 hx2 => hF2 x0_2 x1_2 r W2 (grw_tr S.grw hu2) hx2)) ?_)
  refine rend ?_
  refine c_block ?_
  refine joinH (X := Unit) 2 (H.bnd h) (fun (x : Unit) => x) (fun _ => [argW eS B0 9 A0 (List.length a0) k0 v6_4]) (fun _ u => (jk u 0 63 [])) (fun h hj9 => ?_) ?_
  · skip
    refine loopR (X := Int) (fun (x : Int) => x) (fun n8 => [argW eS B0 9 A0 (List.length a0) k0 v6_4]) (fun n8 u => (.slice A0 (List.length a0) k0 :: .int .i64 a1 :: .func (.func g2) #[] cp2.toArray :: (jk u 3 3 (.int .i64 n8 :: (jk u 7 56 []))))) 20 h (by kernel_rfl) (by kernel_rfl) ?_
    intro n8 u h
    refine c_seq ?_
    refine c_seq ?_
    refine r_start ?_
    refine p 3 ?_
    refine rend ?_
    refine c_or (decide (n8 < a1)) (fun q10 => ?_) (fun q10 => ?_)
    · replace h := H.t q10 h
      refine c_skip ?_
      refine c_block ?_
      refine c_seq ?_
      refine r_start ?_
      refine p 4 ?_
      refine rend ?_
      refine c_seq ?_
      refine c_block ?_
      refine joinH (X := Unit) 4 (H.bnd h) (fun (x : Unit) => x) (fun _ => [argW eS B0 9 A0 (List.length a0) k0 v6_4]) (fun _ u => (.slice A0 (List.length a0) k0 :: .int .i64 a1 :: .func (.func g2) #[] cp2.toArray :: (jk u 3 3 (.int .i64 n8 :: .int .i64 0 :: (jk u 8 55 []))))) (fun h hj11 => ?_) ?_
      · skip
        refine loopR (X := Unit) (fun (x : Unit) => x) (fun _ => [argW eS B0 9 A0 (List.length a0) k0 v6_4]) (fun _ u => (.slice A0 (List.length a0) k0 :: .int .i64 a1 :: .func (.func g2) #[] cp2.toArray :: (jk u 3 3 (.int .i64 n8 :: .int .i64 0 :: .int .i64 (wr (2 * n8)) :: (jk u 9 54 []))))) () h (by kernel_rfl) (by kernel_rfl) ?_
        intro x u h
        refine c_seq ?_
        refine c_seq ?_
        refine r_start ?_
        refine p 3 ?_
        refine rend ?_
        refine c_or (decide ((wr (2 * n8)) ≤ a1)) (fun q12 => ?_) (fun q12 => ?_)
        · replace h := H.t q12 h
          refine c_skip ?_
          refine c_block ?_
          refine c_seq ?_
          refine r_start ?_
          refine p 7 ?_
          exact H.none h
        replace h := H.f q12 h
        refine cx ?_
        replace h := H.inr h
        exact hj11 () _ _ h (by kernel_rfl) (by kernel_rfl)
      intro x u h
      refine c_seq ?_
      refine c_seq ?_
      refine r_start ?_
      refine p 4 ?_
      refine rend ?_
      refine c_seq ?_
      refine r_start ?_
      refine p 3 ?_
      refine rend ?_
      refine c_or (decide ((wr (0 + n8)) < a1)) (fun q13 => ?_) (fun q13 => ?_)
      · replace h := H.t q13 h
        refine r_start ?_
        refine p 5 ?_
        exact H.none h
      replace h := H.f q13 h
      refine c_skip ?_
      refine r_start ?_
      refine p 3 ?_
      refine rend ?_
      refine c_inb ?_
      replace h := H.inl h
      exact h (wr (n8 * 2)) _ _ rfl (by kernel_rfl) (by kernel_rfl)
    replace h := H.f q10 h
    refine cx ?_
    replace h := H.inr h
    exact hj9 () _ _ h (by kernel_rfl) (by kernel_rfl)
  intro x u h
  replace h := H.done h
  subst h
  exact fin func142 rfl (vs := []) .nil rfl (fun W S => S.retW)
theorem C.slices_SortStableFunc_string_string {fu : Nat} {a0 : (List Str)} {A0 : Option Addr} {k0 B0 n0 : Nat} {a1 : (Str → Str → Option Int)} {g1 : Nat} {cp1 : List Value} {r : (List Str)} (w : World) (h : X.slices_SortStableFunc_string_string fu a0 a1 = some r) (hn0 : List.length a0 = n0) (h0 : World.ownsRow w B0 9 (Enc.sz eS) (.slice A0 n0 k0) n0 (Enc.flat eS a0)) (hg1 : isFn prog g1 = true) (hF1 : ∀ (x0 : Str) (x1 : Str) (r : Int) (W : World), World.grownBy w W (Value.slice A0 n0 k0).ownBlock → a1 x0 x1 = some r → Calls prog g1 (([.string (bs x0), .string (bs x1)] : List Value) ++ cp1).toArray W (Ret W (.int .i64 r))) : Calls prog 100 #[.slice A0 (n0) k0, .func (.func g1) #[] cp1.toArray] w (RetW eS B0 9 A0 n0 k0 w r (.tuple #[])) := by
  subst hn0
  refine callsW (args := [.slice A0 (List.length a0) k0, .func (.func g1) #[] cp1.toArray]) rfl h0 func100 rfl ?_
  replace h : H (X.slices_SortStableFunc_string_string fu a0 a1) (fun o => o = r) := H.mk h
  unfold X.slices_SortStableFunc_string_string at h
  refine r_start ?_
  refine p 4 ?_
  obtain ⟨v0_4, hv0_4, h⟩ := H.call h
  refine xx rfl (e_cwW (e := eS) (l' := v0_4) (v := .tuple #[]) 0 [.slice A0 (List.length a0) k0, .int .i64 (List.length a0 : Int), .func (.func g1) #[] cp1.toArray] func142 (fun W S => C.slices_stableCmpFunc_string W hv0_4 (S.rowW 0).1 (S.rowW 0).2 hg1 (fun x0_2 x1_2 r W2 hu2 hx2 => hF1 x0_2 x1_2 r W2 (grw_tr S.grw hu2) hx2)) ?_)
  refine rend ?_
  replace h := H.done h
  subst h
  exact fin func100 rfl (vs := []) .nil rfl (fun W S => S.retW)
theorem C.i_those_i_Entry {a0 : (List Entry)} {A0 : Option Addr} {k0 : Nat} {a1 : (Entry → Option Bool)} {g1 : Nat} {cp1 : List Value} {r : (List Int)} (w : World) (h : X.i_those_i_Entry a0 a1 = some r) (h0 : RdT nEntry w (.slice A0 (List.length a0) k0) a0) (hg1 : isFn prog g1 = true) (hF1 : ∀ (x0 : Entry) (r : Bool) (W : World), Up w W → a1 x0 = some r → Calls prog g1 (([.agg (eEntry x0).toArray] : List Value) ++ cp1).toArray W (Ret W (.bool r))) : Calls prog 195 #[.slice A0 (List.length a0) k0, .func (.func g1) #[] cp1.toArray] w (RetR (eI .i64) 3 w r (fun v => v)) := by
  refine calls (M := no) (args := [.slice A0 (List.length a0) k0, .func (.func g1) #[] cp1.toArray]) func195 rfl ?_
  replace h : H (X.i_those_i_Entry a0 a1) (fun o => o = r) := H.mk h
  unfold X.i_those_i_Entry at h
  refine c_seq ?_
  refine r_start ?_
  refine p 1 ?_
  refine rend ?_
  refine c_seq ?_
  refine r_start ?_
  refine p 1 ?_
  refine rend ?_
  refine c_seq ?_
  refine c_seq ?_
  refine r_start ?_
  refine p 3 ?_
  refine rend ?_
  refine c_block ?_
  refine c_nil (eI .i64) 3 ?_
  refine joinH (X := ((List Int) × Option Addr × Nat)) 0 (H.bnd h) (fun ⟨l4, A5, k6⟩ => l4) (fun ⟨l4, A5, k6⟩ => [rowT (eI .i64) w.heap.size 3 (.slice A5 (List.length l4) k6) l4]) (fun ⟨l4, A5, k6⟩ u => (jk u 0 5 (.slice A5 (List.length l4) k6 :: (jk u 6 18 [])))) (fun h hj7 => ?_) ?_
  · skip
    refine rangeR (X := ((List Int) × Option Addr × Nat)) (s_arg h0) (fun ⟨l1, A2, k3⟩ => l1) (fun ⟨l1, A2, k3⟩ => [rowT (eI .i64) w.heap.size 3 (.slice A2 (List.length l1) k3) l1]) (fun (j8 : Nat) ⟨l1, A2, k3⟩ u => (jk u 0 1 (.func (.func g1) #[] cp1.toArray :: (jk u 2 3 (.slice A2 (List.length l1) k3 :: (jk u 6 2 (.slice A0 (List.length a0) k0 :: .int .i64 (List.length a0 : Int) :: .int .i64 (j8 : Int) :: (jk u 11 13 [])))))))) (([] : List Int), none, 0) h (by kernel_rfl) (by kernel_rfl) ?_ ?_
    · intro j8 x u x9 q10 hg11 hw12 h
      obtain ⟨l1, A2, k3⟩ := x
      refine c_seq ?_
      refine r_start ?_
      refine p 1 ?_
      refine rend ?_
      refine c_seq ?_
      refine c_yes q10 ?_
      refine c_skip ?_
      refine c_seq ?_
      refine c_block ?_
      refine c_seq ?_
      refine r_start ?_
      refine p 1 ?_
      refine xq rfl (y_idx (e := nEntry) (el := 117) hg11 (s_arg h0)) ?_
      refine xq rfl (y_el (e := nEntry) 0 (.agg (eEntry x9).toArray) hg11 (s_arg h0)) ?_
      refine xx rfl (x_new (eEntry zEntry) fun g4_3 => ?_)
      refine p 1 ?_
      refine xx rfl (x_sto 1 g4_3 0 (eEntry x9) ?_)
      refine rend ?_
      refine c_seq ?_
      refine r_start ?_
      refine p 1 ?_
      refine xq rfl (y_load (.agg (eEntry x9).toArray) 1 g4_3 0) ?_
      obtain ⟨v5_2, hv5_2, h⟩ := H.call h
      refine xq rfl (y_cf cp1 [.agg (eEntry x9).toArray] (.bool v5_2) hg1 (fun W S => hF1 _ _ W S.below hv5_2)) ?_
      refine rend ?_
      refine c_or v5_2 (fun q13 => ?_) (fun q13 => ?_)
      · replace h := H.t q13 h
        refine r_start ?_
        refine p 2 ?_
        refine xx rfl (e_lit (e := (eI .i64)) (el := 3) [.int .i64 (j8 : Int)] ([(j8 : Int)] : List Int) fun A6_2 k6_2 => ?_)
        obtain ⟨y6_3, hy6_3, h⟩ := H.call h
        refine xx rfl (e_app 0 hy6_3 (s_own 2) fun A6_3 k6_3 => ?_)
        refine p 1 ?_
        refine rend ?_
        refine c_inb ?_
        refine r_start ?_
        refine p 2 ?_
        refine rend ?_
        refine c_set 10 (ci hw12) ?_
        replace h := H.inl h
        exact h (y6_3, A6_3, k6_3) _ _ rfl (by kernel_rfl) (by kernel_rfl)
      replace h := H.f q13 h
      refine c_skip ?_
      refine c_inb ?_
      refine r_start ?_
      refine p 2 ?_
      refine rend ?_
      refine c_set 10 (ci hw12) ?_
      replace h := H.inl h
      exact h (l1, A2, k3) _ _ rfl (by kernel_rfl) (by kernel_rfl)
    · intro x u q10 h
      obtain ⟨l1, A2, k3⟩ := x
      refine c_seq ?_
      refine r_start ?_
      refine p 1 ?_
      refine rend ?_
      refine c_seq ?_
      refine c_no q10 ?_
      refine cx ?_
      replace h := H.done h
      exact hj7 (l1, A2, k3) _ _ h (by kernel_rfl) (by kernel_rfl)
  intro x u h
  obtain ⟨l4, A5, k6⟩ := x
  refine c_seq ?_
  refine r_start ?_
  refine p 2 ?_
  refine rend ?_
  replace h := H.done h
  subst h
  exact ret func195 rfl (vs := [.slice A5 (List.length l4) k6]) (.tmp (by kernel_rfl) .nil) rfl (fun W S => ⟨_, _, rfl, S.row 0, S.below⟩)
theorem C.i_variants_1 {a0 : Entry} {a1 : Str} {p1 : Nat} {r : Bool} (w : World) (h : X.i_variants_1 a1 a0 = some r) (hp1 : w.heap[p1]? = some (.cells ([.string (bs a1)] : List Value).toArray 9 (0, 0))) : Calls prog 196 #[.agg (eEntry a0).toArray, .pointer (some ⟨p1, 0, none⟩)] w (Ret w (.bool r)) := by
  refine calls (M := no) (args := [.agg (eEntry a0).toArray, .pointer (some ⟨p1, 0, none⟩)]) func196 rfl ?_
  replace h : H (X.i_variants_1 a1 a0) (fun o => o = r) := H.mk h
  unfold X.i_variants_1 at h
  refine c_seq ?_
  refine r_start ?_
  refine xx rfl (x_box (eEntry a0) fun g0_0 => ?_)
  refine p 1 ?_
  refine rend ?_
  refine c_seq ?_
  refine r_start ?_
  refine p 1 ?_
  refine xq rfl (y_load (.string (bs a0.Gloss)) 0 g0_0 0) ?_
  refine xq rfl (y_ld0 (.string (bs a1)) p1 0 hp1) ?_
  refine p 2 ?_
  refine rend ?_
  replace h := H.done h
  subst h
  exact ret func196 rfl (vs := [.bool (seq a0.Gloss a1)]) (.tmp (by kernel_rfl) .nil) rfl (fun W S => ⟨rfl, S.below⟩)
theorem C.i_variants {a0 : (List Entry)} {A0 : Option Addr} {k0 : Nat} {a1 : Str} {r : (List Int)} (w : World) (h : X.i_variants a0 a1 = some r) (h0 : RdT nEntry w (.slice A0 (List.length a0) k0) a0) : Calls prog 143 #[.slice A0 (List.length a0) k0, .string (bs a1)] w (RetR (eI .i64) 3 w r (fun v => v)) := by
  refine calls (M := no) (args := [.slice A0 (List.length a0) k0, .string (bs a1)]) func143 rfl ?_
  replace h : H (X.i_variants a0 a1) (fun o => o = r) := H.mk h
  unfold X.i_variants at h
  refine c_seq ?_
  refine r_start ?_
  refine xx rfl (x_box [.string (bs a1)] fun g0_0 => ?_)
  refine p 1 ?_
  refine rend ?_
  refine c_seq ?_
  refine r_start ?_
  refine p 2 ?_
  obtain ⟨v1_2, hv1_2, h⟩ := H.call h
  refine xx rfl (e_cr [.slice A0 (List.length a0) k0, .func (.func 196) #[] #[.pointer (some ⟨g0_0, 0, none⟩)]] (fun v => v) func195 (fun W S => C.i_those_i_Entry W hv1_2 ((s_arg h0).out W S) (isFn_of func196) (fun x0_2 r W2 hu2 hx2 => C.i_variants_1 W2 hx2 (bx_up (S.bx 0) hu2))) fun A1_2 k1_2 => ?_)
  refine p 1 ?_
  refine rend ?_
  replace h := H.done h
  subst h
  exact ret func143 rfl (vs := [.slice A1_2 (List.length v1_2) k1_2]) (.tmp (by kernel_rfl) .nil) rfl (fun W S => ⟨_, _, rfl, S.row 1, S.below⟩)
theorem C.i_usesOf {a0 : (List Entry)} {A0 : Option Addr} {k0 : Nat} {a1 : Str} {r : Int} (w : World) (h : X.i_usesOf a0 a1 = some r) (h0 : RdT nEntry w (.slice A0 (List.length a0) k0) a0) : Calls prog 102 #[.slice A0 (List.length a0) k0, .string (bs a1)] w (Ret w (.int .i64 r)) := by
  refine calls (M := no) (args := [.slice A0 (List.length a0) k0, .string (bs a1)]) func102 rfl ?_
  replace h : H (X.i_usesOf a0 a1) (fun o => o = r) := H.mk h
  unfold X.i_usesOf at h
  refine c_seq ?_
  refine r_start ?_
  refine p 1 ?_
  refine rend ?_
  refine c_seq ?_
  refine r_start ?_
  refine p 1 ?_
  refine rend ?_
  refine c_seq ?_
  refine c_seq ?_
  refine r_start ?_
  refine p 2 ?_
  obtain ⟨v2_2, hv2_2, h⟩ := H.call h
  refine xx rfl (e_cr [.slice A0 (List.length a0) k0, .string (bs a1)] (fun v => v) func143 (fun W S => C.i_variants W hv2_2 ((s_arg h0).out W S)) fun A2_2 k2_2 => ?_)
  refine p 2 ?_
  refine rend ?_
  refine c_block ?_
  refine joinH (X := Int) 0 (H.bnd h) (fun (x : Int) => x) (fun n2 => [rowT (eI .i64) w.heap.size 3 (.slice A2_2 (List.length v2_2) k2_2) v2_2]) (fun n2 u => (jk u 0 5 (.int .i64 n2 :: (jk u 6 19 [])))) (fun h hj3 => ?_) ?_
  · skip
    refine rangeR (X := Int) (s_own 0) (fun (x : Int) => x) (fun n1 => [rowT (eI .i64) w.heap.size 3 (.slice A2_2 (List.length v2_2) k2_2) v2_2]) (fun (j4 : Nat) n1 u => (.slice A0 (List.length a0) k0 :: (jk u 1 4 (.int .i64 n1 :: (jk u 6 4 (.slice A2_2 (List.length v2_2) k2_2 :: .int .i64 (List.length v2_2 : Int) :: .int .i64 (j4 : Int) :: (jk u 13 12 []))))))) 0 h (by kernel_rfl) (by kernel_rfl) ?_ ?_
    · intro j4 n1 u x5 q6 hg7 hw8 h
      refine c_seq ?_
      refine r_start ?_
      refine p 1 ?_
      refine rend ?_
      refine c_seq ?_
      refine c_yes q6 ?_
      refine c_skip ?_
      refine c_seq ?_
      refine c_block ?_
      refine c_seq ?_
      refine r_start ?_
      refine xq rfl (y_idx (e := (eI .i64)) (el := 3) hg7 (s_own 0)) ?_
      refine xq rfl (y_el (e := (eI .i64)) 0 (.int .i64 x5) hg7 (s_own 0)) ?_
      refine p 1 ?_
      refine rend ?_
      refine r_start ?_
      refine p 3 ?_
      obtain ⟨y5_3, hy5_3, h⟩ := H.call h
      refine xq rfl (y_idx (e := nEntry) (el := 117) hy5_3 (s_arg h0)) ?_
      refine p 1 ?_
      refine xq rfl (y_el (e := nEntry) 29 (.int .i64 y5_3.Uses) hy5_3 (s_arg h0)) ?_
      refine p 2 ?_
      refine rend ?_
      refine c_inb ?_
      refine r_start ?_
      refine p 2 ?_
      refine rend ?_
      refine c_set 12 (ci hw8) ?_
      replace h := H.inl h
      exact h (wr (n1 + y5_3.Uses)) _ _ rfl (by kernel_rfl) (by kernel_rfl)
    · intro n1 u q6 h
      refine c_seq ?_
      refine r_start ?_
      refine p 1 ?_
      refine rend ?_
      refine c_seq ?_
      refine c_no q6 ?_
      refine cx ?_
      replace h := H.done h
      exact hj3 n1 _ _ h (by kernel_rfl) (by kernel_rfl)
  intro n2 u h
  refine c_seq ?_
  refine r_start ?_
  refine p 2 ?_
  refine rend ?_
  replace h := H.done h
  subst h
  exact ret func102 rfl (vs := [.int .i64 n2]) (.tmp (by kernel_rfl) .nil) rfl (fun W S => ⟨rfl, S.below⟩)
theorem C.i_RankedGlosses_1 {a0 : Str} {a1 : Str} {a2 : (List Entry)} {A2 : Option Addr} {k2 : Nat} {p2 : Nat} {r : Int} (w : World) (h : X.i_RankedGlosses_1 a2 a0 a1 = some r) (h2 : RdT nEntry w (.slice A2 (List.length a2) k2) a2) (hp2 : w.heap[p2]? = some (.cells ([.slice A2 (List.length a2) k2] : List Value).toArray 54 (0, 0))) : Calls prog 101 #[.string (bs a0), .string (bs a1), .pointer (some ⟨p2, 0, none⟩)] w (Ret w (.int .i64 r)) := by
  refine calls (M := no) (args := [.string (bs a0), .string (bs a1), .pointer (some ⟨p2, 0, none⟩)]) func101 rfl ?_
  replace h : H (X.i_RankedGlosses_1 a2 a0 a1) (fun o => o = r) := H.mk h
  unfold X.i_RankedGlosses_1 at h
  refine c_seq ?_
  refine r_start ?_
  refine p 1 ?_
  refine rend ?_
  refine c_seq ?_
  refine as_start 8 8 ?_
  refine aq 0 rfl (y_ld0 (.slice A2 (List.length a2) k2) p2 0 hp2) ?_
  refine ap 1 1 ?_
  obtain ⟨v1_2, hv1_2, h⟩ := H.call h
  refine aq 2 rfl (y_call [.slice A2 (List.length a2) k2, .string (bs a1)] (.int .i64 v1_2) func102 (fun W S => C.i_usesOf W hv1_2 ((s_arg h2).out W S))) ?_
  refine aq 3 rfl (y_ld0 (.slice A2 (List.length a2) k2) p2 0 hp2) ?_
  refine ap 4 1 ?_
  obtain ⟨v1_5, hv1_5, h⟩ := H.call h
  refine aq 5 rfl (y_call [.slice A2 (List.length a2) k2, .string (bs a0)] (.int .i64 v1_5) func102 (fun W S => C.i_usesOf W hv1_5 ((s_arg h2).out W S))) ?_
  refine ap 6 2 ?_
  refine a_done ?_
  replace h := H.done h
  subst h
  exact ret func101 rfl (vs := [.int .i64 (wr (v1_2 - v1_5))]) (.tmp (by kernel_rfl) .nil) rfl (fun W S => ⟨rfl, S.below⟩)
theorem C.i_RankedGlosses {fu : Nat} {a0 : (List Entry)} {A0 : Option Addr} {k0 : Nat} {r : ((List Str) × Bool)} (w : World) (h : X.i_RankedGlosses fu a0 = some r) (h0 : RdT nEntry w (.slice A0 (List.length a0) k0) a0) : Calls prog 47 #[.slice A0 (List.length a0) k0] w (RetR eS 9 w r.1 (fun v => .tuple #[v, .bool r.2])) := by
  refine calls (M := no) (args := [.slice A0 (List.length a0) k0]) func47 rfl ?_
  replace h : H (X.i_RankedGlosses fu a0) (fun o => o = r) := H.mk h
  unfold X.i_RankedGlosses at h
  refine c_seq ?_
  refine r_start ?_
  refine xx rfl (x_box [.slice A0 (List.length a0) k0] fun g0_0 => ?_)
  refine p 2 ?_
  refine rend ?_
  refine c_seq ?_
  refine c_seq ?_
  refine r_start ?_
  refine xq rfl (y_load (.slice A0 (List.length a0) k0) 0 g0_0 0) ?_
  obtain ⟨v1_1, hv1_1, h⟩ := H.call h
  refine xq rfl (y_call [.slice A0 (List.length a0) k0] (.bool v1_1) func98 (fun W S => C.i_AreEntries W hv1_1 ((s_arg h0).out W S))) ?_
  refine p 1 ?_
  refine rend ?_
  refine c_or (!v1_1) (fun q1 => ?_) (fun q1 => ?_)
  · replace h := H.t q1 h
    refine c_seq ?_
    refine r_start ?_
    refine p 2 ?_
    refine rend ?_
    replace h := H.done h
    subst h
    exact ret func47 rfl (vs := [.slice none 0 0, .bool false]) (.tmp (by kernel_rfl) (.tmp (by kernel_rfl) .nil)) rfl (fun W S => ⟨none, 0, rfl, World.ownsRow_nil _ _ _ _, S.below⟩)
  replace h := H.f q1 h
  refine c_skip ?_
  refine c_seq ?_
  refine r_start ?_
  refine xq rfl (y_load (.slice A0 (List.length a0) k0) 0 g0_0 0) ?_
  obtain ⟨v3_1, hv3_1, h⟩ := H.call h
  refine xx rfl (e_cr [.slice A0 (List.length a0) k0] (fun v => v) func99 (fun W S => C.i_glossesOf W hv3_1 ((s_arg h0).out W S)) fun A3_1 k3_1 => ?_)
  refine p 1 ?_
  refine rend ?_
  refine c_seq ?_
  refine r_start ?_
  refine p 2 ?_
  obtain ⟨v4_2, hv4_2, h⟩ := H.call h
  refine xx rfl (e_cw (e := eS) (l' := v4_2) (v := .tuple #[]) 1 [.slice A3_1 (List.length v3_1) k3_1, .func (.func 101) #[] #[.pointer (some ⟨g0_0, 0, none⟩)]] func100 (fun W S => C.slices_SortStableFunc_string_string W hv4_2 rfl (S.row 1) (isFn_of func101) (fun x0_2 x1_2 r W2 hu2 hx2 => C.i_RankedGlosses_1 W2 hx2 (Rd.up h0 (up_far S 1 rfl hu2)) (bx_far S 0 1 (by decide) rfl rfl hu2))) fun hl4_2 => ?_)
  refine o_set 4 (sl_len (A := A3_1) (c := k3_1) hl4_2) ?_
  refine rend ?_
  refine c_seq ?_
  refine r_start ?_
  refine p 3 ?_
  refine rend ?_
  replace h := H.done h
  subst h
  exact ret func47 rfl (vs := [.slice A3_1 (List.length v4_2) k3_1, .bool true]) (.tmp (by kernel_rfl) (.tmp (by kernel_rfl) .nil)) rfl (fun W S => ⟨_, _, rfl, S.row 1, S.below⟩)
theorem C.l_eqStringS {fu : Nat} {a0 : (List Str)} {A0 : Option Addr} {k0 : Nat} {a1 : (List Str)} {A1 : Option Addr} {k1 : Nat} {r : Bool} (w : World) (h : X.l_eqStringS fu a0 a1 = some r) (h0 : RdT eS w (.slice A0 (List.length a0) k0) a0) (h1 : RdT eS w (.slice A1 (List.length a1) k1) a1) : Calls prog 48 #[.slice A0 (List.length a0) k0, .slice A1 (List.length a1) k1] w (Ret w (.bool r)) := by
  refine calls (M := no) (args := [.slice A0 (List.length a0) k0, .slice A1 (List.length a1) k1]) func48 rfl ?_
  replace h : H (X.l_eqStringS fu a0 a1) (fun o => o = r) := H.mk h
  unfold X.l_eqStringS at h
  refine c_seq ?_
  refine r_start ?_
  refine p 1 ?_
  refine rend ?_
  refine c_seq ?_
  refine c_seq ?_
  refine r_start ?_
  refine p 5 ?_
  refine rend ?_
  refine c_or ((List.length a0 : Int) != (List.length a1 : Int)) (fun q1 => ?_) (fun q1 => ?_)
  · replace h := H.t q1 h
    refine c_seq ?_
    refine r_start ?_
    refine p 1 ?_
    refine rend ?_
    replace h := H.done h
    subst h
    exact ret func48 rfl (vs := [.bool false]) (.tmp (by kernel_rfl) .nil) rfl (fun W S => ⟨rfl, S.below⟩)
  replace h := H.f q1 h
  refine c_skip ?_
  refine c_seq ?_
  refine c_seq ?_
  refine r_start ?_
  refine p 1 ?_
  refine rend ?_
  refine c_block ?_
  refine joinE (X := Unit) 0 (H.or h) (fun (x : Unit) => x) (fun _ => []) (fun _ u => (jk u 0 26 [])) (fun h hj3 => ?_) ?_
  · skip
    refine loopR (X := Int) (fun (x : Int) => x) (fun n2 => []) (fun n2 u => (.slice A0 (List.length a0) k0 :: .slice A1 (List.length a1) k1 :: (jk u 2 3 (.int .i64 n2 :: (jk u 6 20 []))))) 0 h (by kernel_rfl) (by kernel_rfl) ?_
    intro n2 u h
    refine c_seq ?_
    refine c_seq ?_
    refine r_start ?_
    refine p 4 ?_
    refine rend ?_
    refine c_or (decide (n2 < (List.length a0 : Int))) (fun q4 => ?_) (fun q4 => ?_)
    · replace h := H.t q4 h
      refine c_skip ?_
      refine c_seq ?_
      refine c_block ?_
      refine c_seq ?_
      refine as_start 9 9 ?_
      refine ap 0 2 ?_
      obtain ⟨y6_2, hy6_2, h⟩ := H.call h
      refine aq 2 rfl (y_idx (e := eS) (el := 9) hy6_2 (s_arg h0)) ?_
      refine aq 3 rfl (y_el (e := eS) 0 (.string (bs y6_2)) hy6_2 (s_arg h0)) ?_
      refine ap 4 2 ?_
      obtain ⟨y6_6, hy6_6, h⟩ := H.call h
      refine aq 6 rfl (y_idx (e := eS) (el := 9) hy6_6 (s_arg h1)) ?_
      refine aq 7 rfl (y_el (e := eS) 0 (.string (bs y6_6)) hy6_6 (s_arg h1)) ?_
      refine ap 8 1 ?_
      refine a_done ?_
      refine c_or (!seq y6_2 y6_6) (fun q5 => ?_) (fun q5 => ?_)
      · replace h := H.t q5 h
        refine c_seq ?_
        refine r_start ?_
        refine p 1 ?_
        refine rend ?_
        replace h := H.inr h
        replace h := H.done h
        subst h
        exact ret func48 rfl (vs := [.bool false]) (.tmp (by kernel_rfl) .nil) rfl (fun W S => ⟨rfl, S.below⟩)
      replace h := H.f q5 h
      refine c_skip ?_
      refine c_inb ?_
      refine r_start ?_
      refine p 3 ?_
      refine rend ?_
      replace h := H.inl h
      exact h (wr (n2 + 1)) _ _ rfl (by kernel_rfl) (by kernel_rfl)
    replace h := H.f q4 h
    refine cx ?_
    replace h := H.inr h
    exact hj3 () _ _ h (by kernel_rfl) (by kernel_rfl)
  intro x u h
  refine c_seq ?_
  refine r_start ?_
  refine p 1 ?_
  refine rend ?_
  replace h := H.done h
  subst h
  exact ret func48 rfl (vs := [.bool true]) (.tmp (by kernel_rfl) .nil) rfl (fun W S => ⟨rfl, S.below⟩)
theorem C.l_eqEntry {a0 : Entry} {a1 : Entry} {r : Bool} (w : World) (h : X.l_eqEntry a0 a1 = some r) : Calls prog 103 #[.agg (eEntry a0).toArray, .agg (eEntry a1).toArray] w (Ret w (.bool r)) := by
  refine calls (M := no) (args := [.agg (eEntry a0).toArray, .agg (eEntry a1).toArray]) func103 rfl ?_
  replace h : H (X.l_eqEntry a0 a1) (fun o => o = r) := H.mk h
  unfold X.l_eqEntry at h
  refine c_seq ?_
  refine r_start ?_
  refine xx rfl (x_box (eEntry a0) fun g0_0 => ?_)
  refine xx rfl (x_box (eEntry a1) fun g0_1 => ?_)
  refine p 1 ?_
  refine rend ?_
  refine c_seq ?_
  refine c_seq ?_
  refine r_start ?_
  refine p 1 ?_
  refine xq rfl (y_load (.string (bs a0.Gloss)) 0 g0_0 0) ?_
  refine p 1 ?_
  refine xq rfl (y_load (.string (bs a1.Gloss)) 1 g0_1 0) ?_
  refine p 1 ?_
  refine rend ?_
  refine c_or (!seq a0.Gloss a1.Gloss) (fun q1 => ?_) (fun q1 => ?_)
  · replace h := H.t q1 h
    refine c_seq ?_
    refine r_start ?_
    refine p 1 ?_
    refine rend ?_
    replace h := H.done h
    subst h
    exact ret func103 rfl (vs := [.bool false]) (.tmp (by kernel_rfl) .nil) rfl (fun W S => ⟨rfl, S.below⟩)
  replace h := H.f q1 h
  refine c_skip ?_
  refine c_seq ?_
  refine c_seq ?_
  refine r_start ?_
  refine p 1 ?_
  refine xq rfl (y_load (.agg (eSign a0.Sign).toArray) 0 g0_0 1) ?_
  refine p 1 ?_
  refine xq rfl (y_load (.agg (eSign a1.Sign).toArray) 1 g0_1 1) ?_
  obtain ⟨v3_4, hv3_4, h⟩ := H.call h
  refine xq rfl (y_call [.agg (eSign a0.Sign).toArray, .agg (eSign a1.Sign).toArray] (.bool v3_4) func61 (fun W S => C.l_eqSign W hv3_4)) ?_
  refine p 1 ?_
  refine rend ?_
  refine c_or (!v3_4) (fun q2 => ?_) (fun q2 => ?_)
  · replace h := H.t q2 h
    refine c_seq ?_
    refine r_start ?_
    refine p 1 ?_
    refine rend ?_
    replace h := H.done h
    subst h
    exact ret func103 rfl (vs := [.bool false]) (.tmp (by kernel_rfl) .nil) rfl (fun W S => ⟨rfl, S.below⟩)
  replace h := H.f q2 h
  refine c_skip ?_
  refine c_seq ?_
  refine c_seq ?_
  refine r_start ?_
  refine p 1 ?_
  refine xq rfl (y_load (.int .i64 a0.Region) 0 g0_0 28) ?_
  refine p 1 ?_
  refine xq rfl (y_load (.int .i64 a1.Region) 1 g0_1 28) ?_
  refine p 1 ?_
  refine rend ?_
  refine c_or (a0.Region != a1.Region) (fun q3 => ?_) (fun q3 => ?_)
  · replace h := H.t q3 h
    refine c_seq ?_
    refine r_start ?_
    refine p 1 ?_
    refine rend ?_
    replace h := H.done h
    subst h
    exact ret func103 rfl (vs := [.bool false]) (.tmp (by kernel_rfl) .nil) rfl (fun W S => ⟨rfl, S.below⟩)
  replace h := H.f q3 h
  refine c_skip ?_
  refine c_seq ?_
  refine c_seq ?_
  refine r_start ?_
  refine p 1 ?_
  refine xq rfl (y_load (.int .i64 a0.Uses) 0 g0_0 29) ?_
  refine p 1 ?_
  refine xq rfl (y_load (.int .i64 a1.Uses) 1 g0_1 29) ?_
  refine p 1 ?_
  refine rend ?_
  refine c_or (a0.Uses != a1.Uses) (fun q4 => ?_) (fun q4 => ?_)
  · replace h := H.t q4 h
    refine c_seq ?_
    refine r_start ?_
    refine p 1 ?_
    refine rend ?_
    replace h := H.done h
    subst h
    exact ret func103 rfl (vs := [.bool false]) (.tmp (by kernel_rfl) .nil) rfl (fun W S => ⟨rfl, S.below⟩)
  replace h := H.f q4 h
  refine c_skip ?_
  refine c_seq ?_
  refine r_start ?_
  refine p 1 ?_
  refine rend ?_
  replace h := H.done h
  subst h
  exact ret func103 rfl (vs := [.bool true]) (.tmp (by kernel_rfl) .nil) rfl (fun W S => ⟨rfl, S.below⟩)
theorem C.l_eqEntryS {fu : Nat} {a0 : (List Entry)} {A0 : Option Addr} {k0 : Nat} {a1 : (List Entry)} {A1 : Option Addr} {k1 : Nat} {r : Bool} (w : World) (h : X.l_eqEntryS fu a0 a1 = some r) (h0 : RdT nEntry w (.slice A0 (List.length a0) k0) a0) (h1 : RdT nEntry w (.slice A1 (List.length a1) k1) a1) : Calls prog 49 #[.slice A0 (List.length a0) k0, .slice A1 (List.length a1) k1] w (Ret w (.bool r)) := by
  refine calls (M := no) (args := [.slice A0 (List.length a0) k0, .slice A1 (List.length a1) k1]) func49 rfl ?_
  replace h : H (X.l_eqEntryS fu a0 a1) (fun o => o = r) := H.mk h
  unfold X.l_eqEntryS at h
  refine c_seq ?_
  refine r_start ?_
  refine p 1 ?_
  refine rend ?_
  refine c_seq ?_
  refine c_seq ?_
  refine r_start ?_
  refine p 5 ?_
  refine rend ?_
  refine c_or ((List.length a0 : Int) != (List.length a1 : Int)) (fun q1 => ?_) (fun q1 => ?_)
  · replace h := H.t q1 h
    refine c_seq ?_
    refine r_start ?_
    refine p 1 ?_
    refine rend ?_
    replace h := H.done h
    subst h
    exact ret func49 rfl (vs := [.bool false]) (.tmp (by kernel_rfl) .nil) rfl (fun W S => ⟨rfl, S.below⟩)
  replace h := H.f q1 h
  refine c_skip ?_
  refine c_seq ?_
  refine c_seq ?_
  refine r_start ?_
  refine p 1 ?_
  refine rend ?_
  refine c_block ?_
  refine joinE (X := Unit) 0 (H.or h) (fun (x : Unit) => x) (fun _ => []) (fun _ u => (jk u 0 27 [])) (fun h hj3 => ?_) ?_
  · skip
    refine loopR (X := Int) (fun (x : Int) => x) (fun n2 => []) (fun n2 u => (.slice A0 (List.length a0) k0 :: .slice A1 (List.length a1) k1 :: (jk u 2 3 (.int .i64 n2 :: (jk u 6 21 []))))) 0 h (by kernel_rfl) (by kernel_rfl) ?_
    intro n2 u h
    refine c_seq ?_
    refine c_seq ?_
    refine r_start ?_
    refine p 4 ?_
    refine rend ?_
    refine c_or (decide (n2 < (List.length a0 : Int))) (fun q4 => ?_) (fun q4 => ?_)
    · replace h := H.t q4 h
      refine c_skip ?_
      refine c_seq ?_
      refine c_block ?_
      refine c_seq ?_
      refine as_start 10 10 ?_
      refine ap 0 2 ?_
      obtain ⟨y6_2, hy6_2, h⟩ := H.call h
      refine aq 2 rfl (y_idx (e := nEntry) (el := 117) hy6_2 (s_arg h0)) ?_
      refine aq 3 rfl (y_el (e := nEntry) 0 (.agg (eEntry y6_2).toArray) hy6_2 (s_arg h0)) ?_
      refine ap 4 2 ?_
      obtain ⟨y6_6, hy6_6, h⟩ := H.call h
      refine aq 6 rfl (y_idx (e := nEntry) (el := 117) hy6_6 (s_arg h1)) ?_
      refine aq 7 rfl (y_el (e := nEntry) 0 (.agg (eEntry y6_6).toArray) hy6_6 (s_arg h1)) ?_
      obtain ⟨v6_8, hv6_8, h⟩ := H.call h
      refine aq 8 rfl (y_call [.agg (eEntry y6_2).toArray, .agg (eEntry y6_6).toArray] (.bool v6_8) func103 (fun W S => C.l_eqEntry W hv6_8)) ?_
      refine ap 9 1 ?_
      refine a_done ?_
      refine c_or (!v6_8) (fun q5 => ?_) (fun q5 => ?_)
      · replace h := H.t q5 h
        refine c_seq ?_
        refine r_start ?_
        refine p 1 ?_
        refine rend ?_
        replace h := H.inr h
        replace h := H.done h
        subst h
        exact ret func49 rfl (vs := [.bool false]) (.tmp (by kernel_rfl) .nil) rfl (fun W S => ⟨rfl, S.below⟩)
      replace h := H.f q5 h
      refine c_skip ?_
      refine c_inb ?_
      refine r_start ?_
      refine p 3 ?_
      refine rend ?_
      replace h := H.inl h
      exact h (wr (n2 + 1)) _ _ rfl (by kernel_rfl) (by kernel_rfl)
    replace h := H.f q4 h
    refine cx ?_
    replace h := H.inr h
    exact hj3 () _ _ h (by kernel_rfl) (by kernel_rfl)
  intro x u h
  refine c_seq ?_
  refine r_start ?_
  refine p 1 ?_
  refine rend ?_
  replace h := H.done h
  subst h
  exact ret func49 rfl (vs := [.bool true]) (.tmp (by kernel_rfl) .nil) rfl (fun W S => ⟨rfl, S.below⟩)
end Go.Proofs.XC
