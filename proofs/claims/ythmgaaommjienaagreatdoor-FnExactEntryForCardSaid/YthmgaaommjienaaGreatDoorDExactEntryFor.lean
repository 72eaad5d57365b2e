/- Contracts: each function, called where its plain function gives an answer, returns just that answer and changes nothing that was there. By AI agents; no person has read it. -/
import Derived.Test.YthmgaaommjienaaGreatDoorC2
set_option linter.unusedVariables false
set_option linter.unusedSimpArgs false
set_option maxRecDepth 100000
set_option maxHeartbeats 40000000
namespace Go.Proofs.XC
open Go Go.RowKit
open Tryz
theorem C.s_enFor {a0 : (List Entry)} {A0 : Option Addr} {k0 : Nat} {a1 : Str} {a2 : Int} {r : Int} (w : World) (h : X.s_enFor a0 a1 a2 = some r) (h0 : RdT nEntry w (.slice A0 (List.length a0) k0) a0) : Calls prog 98 #[.slice A0 (List.length a0) k0, .string (bs a1), .int .i64 a2] w (Ret w (.int .i64 r)) := by
  refine calls (M := no) (args := [.slice A0 (List.length a0) k0, .string (bs a1), .int .i64 a2]) func98 rfl ?_
  replace h : H (X.s_enFor a0 a1 a2) (fun o => o = r) := H.mk h
  unfold X.s_enFor at h
  refine c_seq ?_
  refine r_start ?_
  refine p 1 ?_
  refine rend ?_
  refine c_seq ?_
  refine r_start ?_
  refine p 1 ?_
  refine rend ?_
  refine c_seq ?_
  refine c_seq ?_
  refine r_start ?_
  refine p 3 ?_
  refine rend ?_
  refine c_block ?_
  refine joinH (X := Int) 0 (H.bnd h) (fun (x : Int) => x) (fun n2 => []) (fun n2 u => (jk u 0 7 (.int .i64 n2 :: (jk u 8 31 [])))) (fun h hj3 => ?_) ?_
  · skip
    refine rangeR (X := Int) (s_arg h0) (fun (x : Int) => x) (fun n1 => []) (fun (j4 : Nat) n1 u => (jk u 0 1 (.string (bs a1) :: .int .i64 a2 :: (jk u 3 4 (.int .i64 n1 :: (jk u 8 2 (.slice A0 (List.length a0) k0 :: .int .i64 (List.length a0 : Int) :: .int .i64 (j4 : Int) :: (jk u 13 26 [])))))))) (-1) h (by kernel_rfl) (by kernel_rfl) ?_ ?_
    · intro j4 n1 u x5 q6 hg7 hw8 h
      refine c_seq ?_
      refine r_start ?_
      refine p 1 ?_
      refine rend ?_
      refine c_seq ?_
      refine c_yes q6 ?_
      refine c_skip ?_
      refine c_seq ?_
      refine c_block ?_
      refine c_seq ?_
      refine r_start ?_
      refine p 1 ?_
      refine xq rfl (y_idx (e := nEntry) (el := 129) hg7 (s_arg h0)) ?_
      refine xq rfl (y_el (e := nEntry) 0 (.agg (eEntry x5).toArray) hg7 (s_arg h0)) ?_
      refine xx rfl (x_new (eEntry zEntry) fun g4_3 => ?_)
      refine p 1 ?_
      refine xx rfl (x_sto 0 g4_3 0 (eEntry x5) ?_)
      refine rend ?_
      refine c_seq ?_
      refine r_start ?_
      refine p 1 ?_
      refine xq rfl (y_load (.string (bs x5.Gloss)) 0 g4_3 0) ?_
      refine p 3 ?_
      refine br (seq x5.Gloss a1) (fun q9 => ?_) (fun q9 => ?_)
      · replace h := H.t q9 h
        refine o_set 21 (congrArg Value.bool q9) ?_
        refine p 1 ?_
        refine xq rfl (y_load (.int .i64 x5.Region) 0 g4_3 28) ?_
        refine p 3 ?_
        refine br (x5.Region == a2) (fun q10 => ?_) (fun q10 => ?_)
        · replace h := H.t q10 h
          refine o_set 26 (congrArg Value.bool q10) ?_
          refine p 9 ?_
          refine rend ?_
          refine c_t (by kernel_rfl) ?_
          refine r_start ?_
          refine p 2 ?_
          refine rend ?_
          refine c_inb ?_
          refine r_start ?_
          refine p 2 ?_
          refine rend ?_
          refine c_set 12 (ci hw8) ?_
          replace h := H.inl h
          exact h (j4 : Int) _ _ rfl (by kernel_rfl) (by kernel_rfl)
        replace h := H.f q10 h
        refine o_set 26 (congrArg Value.bool q10) ?_
        refine p 1 ?_
        refine xq rfl (y_load (.int .i64 x5.Region) 0 g4_3 28) ?_
        refine p 2 ?_
        refine br (x5.Region == 0) (fun q11 => ?_) (fun q11 => ?_)
        · replace h := H.t q11 h
          refine o_set 30 (congrArg Value.bool q11) ?_
          refine p 5 ?_
          refine rend ?_
          refine c_or (decide (n1 < 0)) (fun q12 => ?_) (fun q12 => ?_)
          · replace h := H.t q12 h
            refine r_start ?_
            refine p 2 ?_
            refine rend ?_
            refine c_inb ?_
            refine r_start ?_
            refine p 2 ?_
            refine rend ?_
            refine c_set 12 (ci hw8) ?_
            replace h := H.inl h
            exact h (j4 : Int) _ _ rfl (by kernel_rfl) (by kernel_rfl)
          replace h := H.f q12 h
          refine c_skip ?_
          refine c_inb ?_
          refine r_start ?_
          refine p 2 ?_
          refine rend ?_
          refine c_set 12 (ci hw8) ?_
          replace h := H.inl h
          exact h n1 _ _ rfl (by kernel_rfl) (by kernel_rfl)
        replace h := H.f q11 h
        refine o_set 30 (congrArg Value.bool q11) ?_
        refine p 5 ?_
        refine rend ?_
        refine c_f (by kernel_rfl) ?_
        refine c_skip ?_
        refine c_inb ?_
        refine r_start ?_
        refine p 2 ?_
        refine rend ?_
        refine c_set 12 (ci hw8) ?_
        replace h := H.inl h
        exact h n1 _ _ rfl (by kernel_rfl) (by kernel_rfl)
      replace h := H.f q9 h
      refine o_set 21 (congrArg Value.bool q9) ?_
      refine p 14 ?_
      refine rend ?_
      refine c_f (by kernel_rfl) ?_
      refine c_skip ?_
      refine c_inb ?_
      refine r_start ?_
      refine p 2 ?_
      refine rend ?_
      refine c_set 12 (ci hw8) ?_
      replace h := H.inl h
      exact h n1 _ _ rfl (by kernel_rfl) (by kernel_rfl)
    · intro n1 u q6 h
      refine c_seq ?_
      refine r_start ?_
      refine p 1 ?_
      refine rend ?_
      refine c_seq ?_
      refine c_no q6 ?_
      refine cx ?_
      replace h := H.done h
      exact hj3 n1 _ _ h (by kernel_rfl) (by kernel_rfl)
  intro n2 u h
  refine c_seq ?_
  refine r_start ?_
  refine p 2 ?_
  refine rend ?_
  replace h := H.done h
  subst h
  exact ret func98 rfl (vs := [.int .i64 n2]) (.tmp (by kernel_rfl) .nil) rfl (fun W S => ⟨rfl, S.below⟩)
theorem C.s_EntryFor {fu : Nat} {a0 : (List Entry)} {A0 : Option Addr} {k0 : Nat} {a1 : Str} {a2 : Int} {r : (Int × Bool)} (w : World) (h : X.s_EntryFor fu a0 a1 a2 = some r) (h0 : RdT nEntry w (.slice A0 (List.length a0) k0) a0) : Calls prog 32 #[.slice A0 (List.length a0) k0, .string (bs a1), .int .i64 a2] w (Ret w (.tuple #[.int .i64 r.1, .bool r.2])) := by
  refine calls (M := no) (args := [.slice A0 (List.length a0) k0, .string (bs a1), .int .i64 a2]) func32 rfl ?_
  replace h : H (X.s_EntryFor fu a0 a1 a2) (fun o => o = r) := H.mk h
  unfold X.s_EntryFor at h
  refine c_seq ?_
  refine r_start ?_
  refine p 2 ?_
  refine rend ?_
  refine c_seq ?_
  refine c_seq ?_
  refine r_start ?_
  refine p 1 ?_
  obtain ⟨v1_1, hv1_1, h⟩ := H.call h
  refine xq rfl (y_call [.slice A0 (List.length a0) k0] (.bool v1_1) func95 (fun W S => C.s_enGood W hv1_1 ((s_arg h0).out W S))) ?_
  refine p 2 ?_
  refine br (!v1_1) (fun q1 => ?_) (fun q1 => ?_)
  · replace h := H.t q1 h
    refine o_set 12 (congrArg Value.bool q1) ?_
    refine p 9 ?_
    refine rend ?_
    refine c_t (by kernel_rfl) ?_
    refine c_seq ?_
    refine r_start ?_
    refine p 2 ?_
    refine rend ?_
    replace h := H.done h
    subst h
    exact ret func32 rfl (vs := [.int .i64 0, .bool false]) (.tmp (by kernel_rfl) (.tmp (by kernel_rfl) .nil)) rfl (fun W S => ⟨rfl, S.below⟩)
  replace h := H.f q1 h
  refine o_set 12 (congrArg Value.bool q1) ?_
  refine p 1 ?_
  obtain ⟨v1_5, hv1_5, h⟩ := H.call h
  refine xq rfl (y_call [.string (bs a1)] (.bool v1_5) func96 (fun W S => C.s_enGloss W hv1_5)) ?_
  refine p 3 ?_
  refine br (!v1_5) (fun q2 => ?_) (fun q2 => ?_)
  · replace h := H.t q2 h
    refine o_set 17 (congrArg Value.bool q2) ?_
    refine p 4 ?_
    refine rend ?_
    refine c_t (by kernel_rfl) ?_
    refine c_seq ?_
    refine r_start ?_
    refine p 2 ?_
    refine rend ?_
    replace h := H.done h
    subst h
    exact ret func32 rfl (vs := [.int .i64 0, .bool false]) (.tmp (by kernel_rfl) (.tmp (by kernel_rfl) .nil)) rfl (fun W S => ⟨rfl, S.below⟩)
  replace h := H.f q2 h
  refine o_set 17 (congrArg Value.bool q2) ?_
  refine p 1 ?_
  obtain ⟨v1_10, hv1_10, h⟩ := H.call h
  refine xq rfl (y_call [.int .i64 a2] (.bool v1_10) func97 (fun W S => C.s_enRegion W hv1_10)) ?_
  refine p 2 ?_
  refine rend ?_
  refine c_or (!v1_10) (fun q3 => ?_) (fun q3 => ?_)
  · replace h := H.t q3 h
    refine c_seq ?_
    refine r_start ?_
    refine p 2 ?_
    refine rend ?_
    replace h := H.done h
    subst h
    exact ret func32 rfl (vs := [.int .i64 0, .bool false]) (.tmp (by kernel_rfl) (.tmp (by kernel_rfl) .nil)) rfl (fun W S => ⟨rfl, S.below⟩)
  replace h := H.f q3 h
  refine c_skip ?_
  refine c_seq ?_
  refine r_start ?_
  refine p 3 ?_
  obtain ⟨v3_3, hv3_3, h⟩ := H.call h
  refine xq rfl (y_call [.slice A0 (List.length a0) k0, .string (bs a1), .int .i64 a2] (.int .i64 v3_3) func98 (fun W S => C.s_enFor W hv3_3 ((s_arg h0).out W S))) ?_
  refine p 1 ?_
  refine rend ?_
  refine c_seq ?_
  refine c_seq ?_
  refine r_start ?_
  refine p 2 ?_
  refine rend ?_
  refine c_or (decide (v3_3 < 0)) (fun q4 => ?_) (fun q4 => ?_)
  · replace h := H.t q4 h
    refine c_seq ?_
    refine r_start ?_
    refine p 2 ?_
    refine rend ?_
    replace h := H.done h
    subst h
    exact ret func32 rfl (vs := [.int .i64 0, .bool false]) (.tmp (by kernel_rfl) (.tmp (by kernel_rfl) .nil)) rfl (fun W S => ⟨rfl, S.below⟩)
  replace h := H.f q4 h
  refine c_skip ?_
  refine c_seq ?_
  refine r_start ?_
  refine p 3 ?_
  refine rend ?_
  replace h := H.done h
  subst h
  exact ret func32 rfl (vs := [.int .i64 v3_3, .bool true]) (.tmp (by kernel_rfl) (.tmp (by kernel_rfl) .nil)) rfl (fun W S => ⟨rfl, S.below⟩)
theorem C.slices_IndexFunc_i_Entry_i_Entry {a0 : (List Entry)} {A0 : Option Addr} {k0 : Nat} {a1 : (Entry → Option Bool)} {g1 : Nat} {cp1 : List Value} {r : Int} (w : World) (h : X.slices_IndexFunc_i_Entry_i_Entry a0 a1 = some r) (h0 : RdT nEntry w (.slice A0 (List.length a0) k0) a0) (hg1 : isFn prog g1 = true) (hF1 : ∀ (x0 : Entry) (r : Bool) (W : World), Up w W → a1 x0 = some r → Calls prog g1 (([.agg (eEntry x0).toArray] : List Value) ++ cp1).toArray W (Ret W (.bool r))) : Calls prog 165 #[.slice A0 (List.length a0) k0, .func (.func g1) #[] cp1.toArray] w (Ret w (.int .i64 r)) := by
  refine calls (M := no) (args := [.slice A0 (List.length a0) k0, .func (.func g1) #[] cp1.toArray]) func165 rfl ?_
  replace h : H (X.slices_IndexFunc_i_Entry_i_Entry a0 a1) (fun o => o = r) := H.mk h
  unfold X.slices_IndexFunc_i_Entry_i_Entry at h
  refine c_seq ?_
  refine r_start ?_
  refine p 1 ?_
  refine rend ?_
  refine c_seq ?_
  refine c_seq ?_
  refine r_start ?_
  refine p 3 ?_
  refine rend ?_
  refine c_block ?_
  refine joinE (X := Unit) 0 (H.or h) (fun (x : Unit) => x) (fun _ => []) (fun _ u => (jk u 0 19 [])) (fun h hj1 => ?_) ?_
  · skip
    refine rangeR (X := Unit) (s_arg h0) (fun (x : Unit) => x) (fun _ => []) (fun (j2 : Nat) _ u => (.slice A0 (List.length a0) k0 :: .func (.func g1) #[] cp1.toArray :: (jk u 2 5 (.int .i64 (List.length a0 : Int) :: .int .i64 (j2 : Int) :: (jk u 9 10 []))))) () h (by kernel_rfl) (by kernel_rfl) ?_ ?_
    · intro j2 x u x3 q4 hg5 hw6 h
      refine c_seq ?_
      refine r_start ?_
      refine p 1 ?_
      refine rend ?_
      refine c_seq ?_
      refine c_yes q4 ?_
      refine c_skip ?_
      refine c_seq ?_
      refine c_block ?_
      refine c_seq ?_
      refine r_start ?_
      refine p 2 ?_
      refine rend ?_
      refine c_seq ?_
      refine r_start ?_
      refine p 3 ?_
      refine xq rfl (y_idx (e := nEntry) (el := 129) hg5 (s_arg h0)) ?_
      refine xq rfl (y_el (e := nEntry) 0 (.agg (eEntry x3).toArray) hg5 (s_arg h0)) ?_
      obtain ⟨v4_5, hv4_5, h⟩ := H.call h
      refine xq rfl (y_cf cp1 [.agg (eEntry x3).toArray] (.bool v4_5) hg1 (fun W S => hF1 _ _ W S.below hv4_5)) ?_
      refine rend ?_
      refine c_or v4_5 (fun q7 => ?_) (fun q7 => ?_)
      · replace h := H.t q7 h
        refine c_seq ?_
        refine r_start ?_
        refine p 2 ?_
        refine rend ?_
        replace h := H.inr h
        replace h := H.done h
        subst h
        exact ret func165 rfl (vs := [.int .i64 (j2 : Int)]) (.tmp (by kernel_rfl) .nil) rfl (fun W S => ⟨rfl, S.below⟩)
      replace h := H.f q7 h
      refine c_skip ?_
      refine c_inb ?_
      refine r_start ?_
      refine p 2 ?_
      refine rend ?_
      refine c_set 8 (ci hw6) ?_
      replace h := H.inl h
      exact h () _ _ rfl (by kernel_rfl) (by kernel_rfl)
    · intro x u q4 h
      refine c_seq ?_
      refine r_start ?_
      refine p 1 ?_
      refine rend ?_
      refine c_seq ?_
      refine c_no q4 ?_
      refine cx ?_
      replace h := H.done h
      exact hj1 () _ _ h (by kernel_rfl) (by kernel_rfl)
  intro x u h
  refine c_seq ?_
  refine r_start ?_
  refine p 1 ?_
  refine rend ?_
  replace h := H.done h
  subst h
  exact ret func165 rfl (vs := [.int .i64 (-1)]) (.tmp (by kernel_rfl) .nil) rfl (fun W S => ⟨rfl, S.below⟩)
theorem C.i_entryFor_1 {a0 : Entry} {a1 : Str} {p1 : Nat} {a2 : Int} {p2 : Nat} {r : Bool} (w : World) (h : X.i_entryFor_1 a1 a2 a0 = some r) (hp1 : w.heap[p1]? = some (.cells ([.string (bs a1)] : List Value).toArray 9 (0, 0))) (hp2 : w.heap[p2]? = some (.cells ([.int .i64 a2] : List Value).toArray 3 (0, 0))) : Calls prog 166 #[.agg (eEntry a0).toArray, .pointer (some ⟨p1, 0, none⟩), .pointer (some ⟨p2, 0, none⟩)] w (Ret w (.bool r)) := by
  refine calls (M := no) (args := [.agg (eEntry a0).toArray, .pointer (some ⟨p1, 0, none⟩), .pointer (some ⟨p2, 0, none⟩)]) func166 rfl ?_
  replace h : H (X.i_entryFor_1 a1 a2 a0) (fun o => o = r) := H.mk h
  unfold X.i_entryFor_1 at h
  refine c_seq ?_
  refine r_start ?_
  refine xx rfl (x_box (eEntry a0) fun g0_0 => ?_)
  refine p 1 ?_
  refine rend ?_
  refine c_seq ?_
  refine r_start ?_
  refine p 1 ?_
  refine xq rfl (y_load (.string (bs a0.Gloss)) 0 g0_0 0) ?_
  refine xq rfl (y_ld0 (.string (bs a1)) p1 0 hp1) ?_
  refine p 2 ?_
  refine br (seq a0.Gloss a1) (fun q1 => ?_) (fun q1 => ?_)
  · replace h := H.t q1 h
    refine o_set 9 (congrArg Value.bool q1) ?_
    refine p 1 ?_
    refine xq rfl (y_load (.int .i64 a0.Region) 0 g0_0 28) ?_
    refine xq rfl (y_ld0 (.int .i64 a2) p2 0 hp2) ?_
    refine p 3 ?_
    refine rend ?_
    replace h := H.done h
    subst h
    exact ret func166 rfl (vs := [.bool (a0.Region == a2)]) (.tmp (by kernel_rfl) .nil) rfl (fun W S => ⟨rfl, S.below⟩)
  replace h := H.f q1 h
  refine o_set 9 (congrArg Value.bool q1) ?_
  refine p 6 ?_
  refine rend ?_
  replace h := H.done h
  subst h
  exact ret func166 rfl (vs := [.bool false]) (.tmp (by kernel_rfl) .nil) rfl (fun W S => ⟨rfl, S.below⟩)
theorem C.i_entryFor {a0 : (List Entry)} {A0 : Option Addr} {k0 : Nat} {a1 : Str} {a2 : Int} {r : Int} (w : World) (h : X.i_entryFor a0 a1 a2 = some r) (h0 : RdT nEntry w (.slice A0 (List.length a0) k0) a0) : Calls prog 103 #[.slice A0 (List.length a0) k0, .string (bs a1), .int .i64 a2] w (Ret w (.int .i64 r)) := by
  refine calls (M := no) (args := [.slice A0 (List.length a0) k0, .string (bs a1), .int .i64 a2]) func103 rfl ?_
  replace h : H (X.i_entryFor a0 a1 a2) (fun o => o = r) := H.mk h
  unfold X.i_entryFor at h
  refine c_seq ?_
  refine r_start ?_
  refine xx rfl (x_box [.string (bs a1)] fun g0_0 => ?_)
  refine p 1 ?_
  refine rend ?_
  refine c_seq ?_
  refine c_seq ?_
  refine r_start ?_
  refine p 1 ?_
  refine xx rfl (e_lit (e := (eI .i64)) (el := 3) [.int .i64 a2, .int .i64 0] ([a2, 0] : List Int) fun A1_1 k1_1 => ?_)
  refine p 2 ?_
  refine rend ?_
  refine c_block ?_
  refine joinE (X := Unit) 0 (H.or h) (fun (x : Unit) => x) (fun _ => [box g0_0 9 [.string (bs a1)], rowT (eI .i64) w.heap.size 3 (.slice A1_1 (List.length ([a2, 0] : List Int)) k1_1) ([a2, 0] : List Int)]) (fun _ u => (jk u 0 24 [])) (fun h hj1 => ?_) ?_
  · skip
    refine rangeR (X := Unit) (s_own 1) (fun (x : Unit) => x) (fun _ => [box g0_0 9 [.string (bs a1)], rowT (eI .i64) w.heap.size 3 (.slice A1_1 (List.length ([a2, 0] : List Int)) k1_1) ([a2, 0] : List Int)]) (fun (j2 : Nat) _ u => (.slice A0 (List.length a0) k0 :: (jk u 1 3 (.pointer (some ⟨g0_0, 0, none⟩) :: (jk u 5 6 (.slice A1_1 (List.length ([a2, 0] : List Int)) k1_1 :: .int .i64 (List.length ([a2, 0] : List Int) : Int) :: .int .i64 (j2 : Int) :: (jk u 14 10 []))))))) () h (by kernel_rfl) (by kernel_rfl) ?_ ?_
    · intro j2 x u x3 q4 hg5 hw6 h
      refine c_seq ?_
      refine r_start ?_
      refine p 1 ?_
      refine rend ?_
      refine c_seq ?_
      refine c_yes q4 ?_
      refine c_skip ?_
      refine c_seq ?_
      refine c_block ?_
      refine c_seq ?_
      refine r_start ?_
      refine xq rfl (y_idx (e := (eI .i64)) (el := 3) hg5 (s_own 1)) ?_
      refine xq rfl (y_el (e := (eI .i64)) 0 (.int .i64 x3) hg5 (s_own 1)) ?_
      refine xx rfl (x_new [.int .i64 0] fun g3_2 => ?_)
      refine xx rfl (x_sto 2 g3_2 0 [.int .i64 x3] ?_)
      refine rend ?_
      refine c_seq ?_
      refine r_start ?_
      refine p 2 ?_
      obtain ⟨v4_2, hv4_2, h⟩ := H.call h
      refine xq rfl (y_call [.slice A0 (List.length a0) k0, .func (.func 166) #[] #[.pointer (some ⟨g0_0, 0, none⟩), .pointer (some ⟨g3_2, 0, none⟩)]] (.int .i64 v4_2) func165 (fun W S => C.slices_IndexFunc_i_Entry_i_Entry W hv4_2 ((s_arg h0).out W S) (isFn_of func166) (fun x0_2 r W2 hu2 hx2 => C.i_entryFor_1 W2 hx2 (bx_up (S.bx 0) hu2) (bx_up (S.bx 2) hu2)))) ?_
      refine p 1 ?_
      refine rend ?_
      refine c_seq ?_
      refine r_start ?_
      refine p 2 ?_
      refine rend ?_
      refine c_or (decide (v4_2 ≥ 0)) (fun q7 => ?_) (fun q7 => ?_)
      · replace h := H.t q7 h
        refine c_seq ?_
        refine r_start ?_
        refine p 2 ?_
        refine rend ?_
        replace h := H.inr h
        replace h := H.done h
        subst h
        exact ret func103 rfl (vs := [.int .i64 v4_2]) (.tmp (by kernel_rfl) .nil) rfl (fun W S => ⟨rfl, S.below⟩)
      replace h := H.f q7 h
      refine c_skip ?_
      refine c_inb ?_
      refine r_start ?_
      refine p 2 ?_
      refine rend ?_
      refine c_set 13 (ci hw6) ?_
      replace h := H.inl h
      exact h () _ _ rfl (by kernel_rfl) (by kernel_rfl)
    · intro x u q4 h
      refine c_seq ?_
      refine r_start ?_
      refine p 1 ?_
      refine rend ?_
      refine c_seq ?_
      refine c_no q4 ?_
      refine cx ?_
      replace h := H.done h
      exact hj1 () _ _ h (by kernel_rfl) (by kernel_rfl)
  intro x u h
  refine c_seq ?_
  refine r_start ?_
  refine p 1 ?_
  refine rend ?_
  replace h := H.done h
  subst h
  exact ret func103 rfl (vs := [.int .i64 (-1)]) (.tmp (by kernel_rfl) .nil) rfl (fun W S => ⟨rfl, S.below⟩)
theorem C.i_EntryFor {fu : Nat} {a0 : (List Entry)} {A0 : Option Addr} {k0 : Nat} {a1 : Str} {a2 : Int} {r : (Int × Bool)} (w : World) (h : X.i_EntryFor fu a0 a1 a2 = some r) (h0 : RdT nEntry w (.slice A0 (List.length a0) k0) a0) : Calls prog 34 #[.slice A0 (List.length a0) k0, .string (bs a1), .int .i64 a2] w (Ret w (.tuple #[.int .i64 r.1, .bool r.2])) := by
  refine calls (M := no) (args := [.slice A0 (List.length a0) k0, .string (bs a1), .int .i64 a2]) func34 rfl ?_
  replace h : H (X.i_EntryFor fu a0 a1 a2) (fun o => o = r) := H.mk h
  unfold X.i_EntryFor at h
  refine c_seq ?_
  refine r_start ?_
  refine p 2 ?_
  refine rend ?_
  refine c_seq ?_
  refine c_seq ?_
  refine r_start ?_
  refine p 1 ?_
  obtain ⟨v1_1, hv1_1, h⟩ := H.call h
  refine xq rfl (y_call [.slice A0 (List.length a0) k0] (.bool v1_1) func100 (fun W S => C.i_AreEntries W hv1_1 ((s_arg h0).out W S))) ?_
  refine p 2 ?_
  refine br (!v1_1) (fun q1 => ?_) (fun q1 => ?_)
  · replace h := H.t q1 h
    refine o_set 12 (congrArg Value.bool q1) ?_
    refine p 9 ?_
    refine rend ?_
    refine c_t (by kernel_rfl) ?_
    refine c_seq ?_
    refine r_start ?_
    refine p 2 ?_
    refine rend ?_
    replace h := H.done h
    subst h
    exact ret func34 rfl (vs := [.int .i64 0, .bool false]) (.tmp (by kernel_rfl) (.tmp (by kernel_rfl) .nil)) rfl (fun W S => ⟨rfl, S.below⟩)
  replace h := H.f q1 h
  refine o_set 12 (congrArg Value.bool q1) ?_
  refine p 1 ?_
  obtain ⟨v1_5, hv1_5, h⟩ := H.call h
  refine xq rfl (y_call [.string (bs a1)] (.bool v1_5) func101 (fun W S => C.i_IsGloss W hv1_5)) ?_
  refine p 3 ?_
  refine br (!v1_5) (fun q2 => ?_) (fun q2 => ?_)
  · replace h := H.t q2 h
    refine o_set 17 (congrArg Value.bool q2) ?_
    refine p 4 ?_
    refine rend ?_
    refine c_t (by kernel_rfl) ?_
    refine c_seq ?_
    refine r_start ?_
    refine p 2 ?_
    refine rend ?_
    replace h := H.done h
    subst h
    exact ret func34 rfl (vs := [.int .i64 0, .bool false]) (.tmp (by kernel_rfl) (.tmp (by kernel_rfl) .nil)) rfl (fun W S => ⟨rfl, S.below⟩)
  replace h := H.f q2 h
  refine o_set 17 (congrArg Value.bool q2) ?_
  refine p 1 ?_
  obtain ⟨v1_10, hv1_10, h⟩ := H.call h
  refine xq rfl (y_call [.int .i64 a2, .int .i64 0, .int .i64 5] (.bool v1_10) func102 (fun W S => C.i_within W hv1_10)) ?_
  refine p 2 ?_
  refine rend ?_
  refine c_or (!v1_10) (fun q3 => ?_) (fun q3 => ?_)
  · replace h := H.t q3 h
    refine c_seq ?_
    refine r_start ?_
    refine p 2 ?_
    refine rend ?_
    replace h := H.done h
    subst h
    exact ret func34 rfl (vs := [.int .i64 0, .bool false]) (.tmp (by kernel_rfl) (.tmp (by kernel_rfl) .nil)) rfl (fun W S => ⟨rfl, S.below⟩)
  replace h := H.f q3 h
  refine c_skip ?_
  refine c_seq ?_
  refine r_start ?_
  refine p 3 ?_
  obtain ⟨v3_3, hv3_3, h⟩ := H.call h
  refine xq rfl (y_call [.slice A0 (List.length a0) k0, .string (bs a1), .int .i64 a2] (.int .i64 v3_3) func103 (fun W S => C.i_entryFor W hv3_3 ((s_arg h0).out W S))) ?_
  refine p 1 ?_
  refine rend ?_
  refine c_seq ?_
  refine c_seq ?_
  refine r_start ?_
  refine p 2 ?_
  refine rend ?_
  refine c_or (decide (v3_3 < 0)) (fun q4 => ?_) (fun q4 => ?_)
  · replace h := H.t q4 h
    refine c_seq ?_
    refine r_start ?_
    refine p 2 ?_
    refine rend ?_
    replace h := H.done h
    subst h
    exact ret func34 rfl (vs := [.int .i64 0, .bool false]) (.tmp (by kernel_rfl) (.tmp (by kernel_rfl) .nil)) rfl (fun W S => ⟨rfl, S.below⟩)
  replace h := H.f q4 h
  refine c_skip ?_
  refine c_seq ?_
  refine r_start ?_
  refine p 3 ?_
  refine rend ?_
  replace h := H.done h
  subst h
  exact ret func34 rfl (vs := [.int .i64 v3_3, .bool true]) (.tmp (by kernel_rfl) (.tmp (by kernel_rfl) .nil)) rfl (fun W S => ⟨rfl, S.below⟩)
theorem C.l_FnExactEntryFor {fu : Nat} {a0 : (List Entry)} {A0 : Option Addr} {k0 : Nat} {a1 : Str} {a2 : Int} {r : Bool} (w : World) (h : X.l_FnExactEntryFor fu a0 a1 a2 = some r) (h0 : RdT nEntry w (.slice A0 (List.length a0) k0) a0) : Calls prog 8 #[.slice A0 (List.length a0) k0, .string (bs a1), .int .i64 a2] w (Ret w (.bool r)) := by
  refine calls (M := no) (args := [.slice A0 (List.length a0) k0, .string (bs a1), .int .i64 a2]) func8 rfl ?_
  replace h : H (X.l_FnExactEntryFor fu a0 a1 a2) (fun o => o = r) := H.mk h
  unfold X.l_FnExactEntryFor at h
  refine c_seq ?_
  refine r_start ?_
  refine p 1 ?_
  refine rend ?_
  refine c_seq ?_
  refine c_seq ?_
  refine r_start ?_
  refine p 3 ?_
  refine rend ?_
  refine c_or (decide ((List.length a1 : Int) > 1048576)) (fun q1 => ?_) (fun q1 => ?_)
  · replace h := H.t q1 h
    refine c_seq ?_
    refine r_start ?_
    refine p 1 ?_
    refine rend ?_
    replace h := H.done h
    subst h
    exact ret func8 rfl (vs := [.bool true]) (.tmp (by kernel_rfl) .nil) rfl (fun W S => ⟨rfl, S.below⟩)
  replace h := H.f q1 h
  refine c_skip ?_
  refine c_seq ?_
  refine r_start ?_
  refine p 1 ?_
  refine rend ?_
  refine c_seq ?_
  refine r_start ?_
  refine p 2 ?_
  obtain ⟨v4_2, hv4_2, h⟩ := H.call h
  refine xq rfl (y_call [.slice A0 (List.length a0) k0, .int .i64 1048576] (.int .i64 v4_2) func31 (fun W S => C.l_szEntryS W hv4_2 ((s_arg h0).out W S))) ?_
  refine p 1 ?_
  refine rend ?_
  refine c_seq ?_
  refine c_seq ?_
  refine r_start ?_
  refine p 2 ?_
  refine rend ?_
  refine c_or (decide (v4_2 < 0)) (fun q2 => ?_) (fun q2 => ?_)
  · replace h := H.t q2 h
    refine c_seq ?_
    refine r_start ?_
    refine p 1 ?_
    refine rend ?_
    replace h := H.done h
    subst h
    exact ret func8 rfl (vs := [.bool true]) (.tmp (by kernel_rfl) .nil) rfl (fun W S => ⟨rfl, S.below⟩)
  replace h := H.f q2 h
  refine c_skip ?_
  refine c_seq ?_
  refine r_start ?_
  refine p 1 ?_
  obtain ⟨v7_1, hv7_1, h⟩ := H.call h
  refine xx rfl (e_cr [.slice A0 (List.length a0) k0] (fun v => v) func33 (fun W S => C.l_toEntryS W hv7_1 ((s_arg h0).out W S)) fun A7_1 k7_1 => ?_)
  refine p 2 ?_
  obtain ⟨v7_4, hv7_4, h⟩ := H.call h
  refine xq rfl (y_call [.slice A7_1 (List.length v7_1) k7_1, .string (bs a1), .int .i64 a2] (.tuple #[.int .i64 v7_4.1, .bool v7_4.2]) func32 (fun W S => C.s_EntryFor W hv7_4 ((s_own 0).out W S))) ?_
  refine p 5 ?_
  refine rend ?_
  refine c_seq ?_
  refine r_start ?_
  refine p 1 ?_
  obtain ⟨v8_1, hv8_1, h⟩ := H.call h
  refine xx rfl (e_cr [.slice A0 (List.length a0) k0] (fun v => v) func33 (fun W S => C.l_toEntryS W hv8_1 ((s_arg h0).out W S)) fun A8_1 k8_1 => ?_)
  refine p 1 ?_
  refine rend ?_
  refine c_seq ?_
  refine r_start ?_
  refine p 3 ?_
  obtain ⟨v9_3, hv9_3, h⟩ := H.call h
  refine xq rfl (y_call [.slice A8_1 (List.length v8_1) k8_1, .string (bs a1), .int .i64 a2] (.tuple #[.int .i64 v9_3.1, .bool v9_3.2]) func34 (fun W S => C.i_EntryFor W hv9_3 ((s_own 1).out W S))) ?_
  refine p 5 ?_
  refine rend ?_
  refine c_seq ?_
  refine c_seq ?_
  refine r_start ?_
  refine p 4 ?_
  refine br (v9_3.1 != v7_4.1) (fun q3 => ?_) (fun q3 => ?_)
  · replace h := H.t q3 h
    refine o_set 41 (congrArg Value.bool q3) ?_
    refine p 4 ?_
    refine rend ?_
    refine c_t (by kernel_rfl) ?_
    refine c_seq ?_
    refine r_start ?_
    refine p 1 ?_
    refine rend ?_
    replace h := H.done h
    subst h
    exact ret func8 rfl (vs := [.bool false]) (.tmp (by kernel_rfl) .nil) rfl (fun W S => ⟨rfl, S.below⟩)
  replace h := H.f q3 h
  refine o_set 41 (congrArg Value.bool q3) ?_
  refine p 4 ?_
  refine rend ?_
  refine c_or (!(v9_3.2 == v7_4.2)) (fun q4 => ?_) (fun q4 => ?_)
  · replace h := H.t q4 h
    refine c_seq ?_
    refine r_start ?_
    refine p 1 ?_
    refine rend ?_
    replace h := H.done h
    subst h
    exact ret func8 rfl (vs := [.bool false]) (.tmp (by kernel_rfl) .nil) rfl (fun W S => ⟨rfl, S.below⟩)
  replace h := H.f q4 h
  refine c_skip ?_
  refine c_seq ?_
  refine c_seq ?_
  refine r_start ?_
  refine p 2 ?_
  obtain ⟨v12_2, hv12_2, h⟩ := H.call h
  refine xx rfl (e_cr [.slice A0 (List.length a0) k0] (fun v => v) func33 (fun W S => C.l_toEntryS W hv12_2 ((s_arg h0).out W S)) fun A12_2 k12_2 => ?_)
  obtain ⟨v12_3, hv12_3, h⟩ := H.call h
  refine xq rfl (y_call [.slice A8_1 (List.length v8_1) k8_1, .slice A12_2 (List.length v12_2) k12_2] (.bool v12_3) func35 (fun W S => C.l_eqEntryS W hv12_3 ((s_own 1).out W S) ((s_own 2).out W S))) ?_
  refine p 1 ?_
  refine rend ?_
  refine c_or (!v12_3) (fun q5 => ?_) (fun q5 => ?_)
  · replace h := H.t q5 h
    refine c_seq ?_
    refine r_start ?_
    refine p 1 ?_
    refine rend ?_
    replace h := H.done h
    subst h
    exact ret func8 rfl (vs := [.bool false]) (.tmp (by kernel_rfl) .nil) rfl (fun W S => ⟨rfl, S.below⟩)
  replace h := H.f q5 h
  refine c_skip ?_
  refine c_seq ?_
  refine r_start ?_
  refine p 1 ?_
  refine rend ?_
  replace h := H.done h
  subst h
  exact ret func8 rfl (vs := [.bool true]) (.tmp (by kernel_rfl) .nil) rfl (fun W S => ⟨rfl, S.below⟩)
end Go.Proofs.XC
