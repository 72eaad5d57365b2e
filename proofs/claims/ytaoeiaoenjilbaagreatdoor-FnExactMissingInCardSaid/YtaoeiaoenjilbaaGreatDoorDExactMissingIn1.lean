/- Contracts: each function, called where its plain function gives an answer, returns just that answer and changes nothing that was there. By AI agents; no person has read it. -/
import Derived.Test.YtaoeiaoenjilbaaGreatDoorDExactMissingIn
set_option linter.unusedVariables false
set_option linter.unusedSimpArgs false
set_option maxRecDepth 100000
set_option maxHeartbeats 40000000
namespace Go.Proofs.XC
open Go Go.RowKit
open Tryz
theorem C.slices_IndexFunc_i_Entry_i_Entry {a0 : (List Entry)} {A0 : Option Addr} {k0 : Nat} {a1 : (Entry → Option Bool)} {g1 : Nat} {cp1 : List Value} {r : Int} (w : World) (h : X.slices_IndexFunc_i_Entry_i_Entry a0 a1 = some r) (h0 : RdT nEntry w (.slice A0 (List.length a0) k0) a0) (hg1 : isFn prog g1 = true) (hF1 : ∀ (x0 : Entry) (r : Bool) (W : World), Up w W → a1 x0 = some r → Calls prog g1 (([.agg (eEntry x0).toArray] : List Value) ++ cp1).toArray W (Ret W (.bool r))) : Calls prog 145 #[.slice A0 (List.length a0) k0, .func (.func g1) #[] cp1.toArray] w (Ret w (.int .i64 r)) := by
  refine calls (M := no) (args := [.slice A0 (List.length a0) k0, .func (.func g1) #[] cp1.toArray]) func145 rfl ?_
  replace h : H (X.slices_IndexFunc_i_Entry_i_Entry a0 a1) (fun o => o = r) := H.mk h
  unfold X.slices_IndexFunc_i_Entry_i_Entry at h
  refine c_seq ?_
  refine r_start ?_
  refine p 1 ?_
  refine rend ?_
  refine c_seq ?_
  refine c_seq ?_
  refine r_start ?_
  refine p 3 ?_
  refine rend ?_
  refine c_block ?_
  refine joinE (X := Unit) 0 (H.or h) (fun (x : Unit) => x) (fun _ => []) (fun _ u => (jk u 0 19 [])) (fun h hj1 => ?_) ?_
  · skip
    refine rangeR (X := Unit) (s_arg h0) (fun (x : Unit) => x) (fun _ => []) (fun (j2 : Nat) _ u => (.slice A0 (List.length a0) k0 :: .func (.func g1) #[] cp1.toArray :: (jk u 2 5 (.int .i64 (List.length a0 : Int) :: .int .i64 (j2 : Int) :: (jk u 9 10 []))))) () h (by kernel_rfl) (by kernel_rfl) ?_ ?_
    · intro j2 x u x3 q4 hg5 hw6 h
      refine c_seq ?_
      refine r_start ?_
      refine p 1 ?_
      refine rend ?_
      refine c_seq ?_
      refine c_yes q4 ?_
      refine c_skip ?_
      refine c_seq ?_
      refine c_block ?_
      refine c_seq ?_
      refine r_start ?_
      refine p 2 ?_
      refine rend ?_
      refine c_seq ?_
      refine r_start ?_
      refine p 3 ?_
      refine xq rfl (y_idx (e := nEntry) (el := 117) hg5 (s_arg h0)) ?_
      refine xq rfl (y_el (e := nEntry) 0 (.agg (eEntry x3).toArray) hg5 (s_arg h0)) ?_
      obtain ⟨v4_5, hv4_5, h⟩ := H.call h
      refine xq rfl (y_cf cp1 [.agg (eEntry x3).toArray] (.bool v4_5) hg1 (fun W S => hF1 _ _ W S.below hv4_5)) ?_
      refine rend ?_
      refine c_or v4_5 (fun q7 => ?_) (fun q7 => ?_)
      · replace h := H.t q7 h
        refine c_seq ?_
        refine r_start ?_
        refine p 2 ?_
        refine rend ?_
        replace h := H.inr h
        replace h := H.done h
        subst h
        exact ret func145 rfl (vs := [.int .i64 (j2 : Int)]) (.tmp (by kernel_rfl) .nil) rfl (fun W S => ⟨rfl, S.below⟩)
      replace h := H.f q7 h
      refine c_skip ?_
      refine c_inb ?_
      refine r_start ?_
      refine p 2 ?_
      refine rend ?_
      refine c_set 8 (ci hw6) ?_
      replace h := H.inl h
      exact h () _ _ rfl (by kernel_rfl) (by kernel_rfl)
    · intro x u q4 h
      refine c_seq ?_
      refine r_start ?_
      refine p 1 ?_
      refine rend ?_
      refine c_seq ?_
      refine c_no q4 ?_
      refine cx ?_
      replace h := H.done h
      exact hj1 () _ _ h (by kernel_rfl) (by kernel_rfl)
  intro x u h
  refine c_seq ?_
  refine r_start ?_
  refine p 1 ?_
  refine rend ?_
  replace h := H.done h
  subst h
  exact ret func145 rfl (vs := [.int .i64 (-1)]) (.tmp (by kernel_rfl) .nil) rfl (fun W S => ⟨rfl, S.below⟩)
theorem C.i_entryFor_1 {a0 : Entry} {a1 : Str} {p1 : Nat} {a2 : Int} {p2 : Nat} {r : Bool} (w : World) (h : X.i_entryFor_1 a1 a2 a0 = some r) (hp1 : w.heap[p1]? = some (.cells ([.string (bs a1)] : List Value).toArray 9 (0, 0))) (hp2 : w.heap[p2]? = some (.cells ([.int .i64 a2] : List Value).toArray 3 (0, 0))) : Calls prog 146 #[.agg (eEntry a0).toArray, .pointer (some ⟨p1, 0, none⟩), .pointer (some ⟨p2, 0, none⟩)] w (Ret w (.bool r)) := by
  refine calls (M := no) (args := [.agg (eEntry a0).toArray, .pointer (some ⟨p1, 0, none⟩), .pointer (some ⟨p2, 0, none⟩)]) func146 rfl ?_
  replace h : H (X.i_entryFor_1 a1 a2 a0) (fun o => o = r) := H.mk h
  unfold X.i_entryFor_1 at h
  refine c_seq ?_
  refine r_start ?_
  refine xx rfl (x_box (eEntry a0) fun g0_0 => ?_)
  refine p 1 ?_
  refine rend ?_
  refine c_seq ?_
  refine r_start ?_
  refine p 1 ?_
  refine xq rfl (y_load (.string (bs a0.Gloss)) 0 g0_0 0) ?_
  refine xq rfl (y_ld0 (.string (bs a1)) p1 0 hp1) ?_
  refine p 2 ?_
  refine br (seq a0.Gloss a1) (fun q1 => ?_) (fun q1 => ?_)
  · replace h := H.t q1 h
    refine o_set 9 (congrArg Value.bool q1) ?_
    refine p 1 ?_
    refine xq rfl (y_load (.int .i64 a0.Region) 0 g0_0 28) ?_
    refine xq rfl (y_ld0 (.int .i64 a2) p2 0 hp2) ?_
    refine p 3 ?_
    refine rend ?_
    replace h := H.done h
    subst h
    exact ret func146 rfl (vs := [.bool (a0.Region == a2)]) (.tmp (by kernel_rfl) .nil) rfl (fun W S => ⟨rfl, S.below⟩)
  replace h := H.f q1 h
  refine o_set 9 (congrArg Value.bool q1) ?_
  refine p 6 ?_
  refine rend ?_
  replace h := H.done h
  subst h
  exact ret func146 rfl (vs := [.bool false]) (.tmp (by kernel_rfl) .nil) rfl (fun W S => ⟨rfl, S.below⟩)
theorem C.i_entryFor {a0 : (List Entry)} {A0 : Option Addr} {k0 : Nat} {a1 : Str} {a2 : Int} {r : Int} (w : World) (h : X.i_entryFor a0 a1 a2 = some r) (h0 : RdT nEntry w (.slice A0 (List.length a0) k0) a0) : Calls prog 108 #[.slice A0 (List.length a0) k0, .string (bs a1), .int .i64 a2] w (Ret w (.int .i64 r)) := by
  refine calls (M := no) (args := [.slice A0 (List.length a0) k0, .string (bs a1), .int .i64 a2]) func108 rfl ?_
  replace h : H (X.i_entryFor a0 a1 a2) (fun o => o = r) := H.mk h
  unfold X.i_entryFor at h
  refine c_seq ?_
  refine r_start ?_
  refine xx rfl (x_box [.string (bs a1)] fun g0_0 => ?_)
  refine p 1 ?_
  refine rend ?_
  refine c_seq ?_
  refine c_seq ?_
  refine r_start ?_
  refine p 1 ?_
  refine xx rfl (e_lit (e := (eI .i64)) (el := 3) [.int .i64 a2, .int .i64 0] ([a2, 0] : List Int) fun A1_1 k1_1 => ?_)
  refine p 2 ?_
  refine rend ?_
  refine c_block ?_
  refine joinE (X := Unit) 0 (H.or h) (fun (x : Unit) => x) (fun _ => [box g0_0 9 [.string (bs a1)], rowT (eI .i64) w.heap.size 3 (.slice A1_1 (List.length ([a2, 0] : List Int)) k1_1) ([a2, 0] : List Int)]) (fun _ u => (jk u 0 24 [])) (fun h hj1 => ?_) ?_
  · skip
    refine rangeR (X := Unit) (s_own 1) (fun (x : Unit) => x) (fun _ => [box g0_0 9 [.string (bs a1)], rowT (eI .i64) w.heap.size 3 (.slice A1_1 (List.length ([a2, 0] : List Int)) k1_1) ([a2, 0] : List Int)]) (fun (j2 : Nat) _ u => (.slice A0 (List.length a0) k0 :: (jk u 1 3 (.pointer (some ⟨g0_0, 0, none⟩) :: (jk u 5 6 (.slice A1_1 (List.length ([a2, 0] : List Int)) k1_1 :: .int .i64 (List.length ([a2, 0] : List Int) : Int) :: .int .i64 (j2 : Int) :: (jk u 14 10 []))))))) () h (by kernel_rfl) (by kernel_rfl) ?_ ?_
    · intro j2 x u x3 q4 hg5 hw6 h
      refine c_seq ?_
      refine r_start ?_
      refine p 1 ?_
      refine rend ?_
      refine c_seq ?_
      refine c_yes q4 ?_
      refine c_skip ?_
      refine c_seq ?_
      refine c_block ?_
      refine c_seq ?_
      refine r_start ?_
      refine xq rfl (y_idx (e := (eI .i64)) (el := 3) hg5 (s_own 1)) ?_
      refine xq rfl (y_el (e := (eI .i64)) 0 (.int .i64 x3) hg5 (s_own 1)) ?_
      refine xx rfl (x_new [.int .i64 0] fun g3_2 => ?_)
      refine xx rfl (x_sto 2 g3_2 0 [.int .i64 x3] ?_)
      refine rend ?_
      refine c_seq ?_
      refine r_start ?_
      refine p 2 ?_
      obtain ⟨v4_2, hv4_2, h⟩ := H.call h
      refine xq rfl (y_call [.slice A0 (List.length a0) k0, .func (.func 146) #[] #[.pointer (some ⟨g0_0, 0, none⟩), .pointer (some ⟨g3_2, 0, none⟩)]] (.int .i64 v4_2) func145 (fun W S => C.slices_IndexFunc_i_Entry_i_Entry W hv4_2 ((s_arg h0).out W S) (isFn_of func146) (fun x0_2 r W2 hu2 hx2 => C.i_entryFor_1 W2 hx2 (bx_up (S.bx 0) hu2) (bx_up (S.bx 2) hu2)))) ?_
      refine p 1 ?_
      refine rend ?_
      refine c_seq ?_
      refine r_start ?_
      refine p 2 ?_
      refine rend ?_
      refine c_or (decide (v4_2 ≥ 0)) (fun q7 => ?_) (fun q7 => ?_)
      · replace h := H.t q7 h
        refine c_seq ?_
        refine r_start ?_
        refine p 2 ?_
        refine rend ?_
        replace h := H.inr h
        replace h := H.done h
        subst h
        exact ret func108 rfl (vs := [.int .i64 v4_2]) (.tmp (by kernel_rfl) .nil) rfl (fun W S => ⟨rfl, S.below⟩)
      replace h := H.f q7 h
      refine c_skip ?_
      refine c_inb ?_
      refine r_start ?_
      refine p 2 ?_
      refine rend ?_
      refine c_set 13 (ci hw6) ?_
      replace h := H.inl h
      exact h () _ _ rfl (by kernel_rfl) (by kernel_rfl)
    · intro x u q4 h
      refine c_seq ?_
      refine r_start ?_
      refine p 1 ?_
      refine rend ?_
      refine c_seq ?_
      refine c_no q4 ?_
      refine cx ?_
      replace h := H.done h
      exact hj1 () _ _ h (by kernel_rfl) (by kernel_rfl)
  intro x u h
  refine c_seq ?_
  refine r_start ?_
  refine p 1 ?_
  refine rend ?_
  replace h := H.done h
  subst h
  exact ret func108 rfl (vs := [.int .i64 (-1)]) (.tmp (by kernel_rfl) .nil) rfl (fun W S => ⟨rfl, S.below⟩)
theorem C.i_MissingIn_1 {a0 : Str} {a1 : (List Entry)} {A1 : Option Addr} {k1 : Nat} {p1 : Nat} {a2 : Int} {p2 : Nat} {r : Bool} (w : World) (h : X.i_MissingIn_1 a1 a2 a0 = some r) (h1 : RdT nEntry w (.slice A1 (List.length a1) k1) a1) (hp1 : w.heap[p1]? = some (.cells ([.slice A1 (List.length a1) k1] : List Value).toArray 54 (0, 0))) (hp2 : w.heap[p2]? = some (.cells ([.int .i64 a2] : List Value).toArray 3 (0, 0))) : Calls prog 107 #[.string (bs a0), .pointer (some ⟨p1, 0, none⟩), .pointer (some ⟨p2, 0, none⟩)] w (Ret w (.bool r)) := by
  refine calls (M := no) (args := [.string (bs a0), .pointer (some ⟨p1, 0, none⟩), .pointer (some ⟨p2, 0, none⟩)]) func107 rfl ?_
  replace h : H (X.i_MissingIn_1 a1 a2 a0) (fun o => o = r) := H.mk h
  unfold X.i_MissingIn_1 at h
  refine c_seq ?_
  refine r_start ?_
  refine p 1 ?_
  refine rend ?_
  refine c_seq ?_
  refine r_start ?_
  refine xq rfl (y_ld0 (.slice A1 (List.length a1) k1) p1 0 hp1) ?_
  refine p 1 ?_
  refine xq rfl (y_ld0 (.int .i64 a2) p2 0 hp2) ?_
  obtain ⟨v1_3, hv1_3, h⟩ := H.call h
  refine xq rfl (y_call [.slice A1 (List.length a1) k1, .string (bs a0), .int .i64 a2] (.int .i64 v1_3) func108 (fun W S => C.i_entryFor W hv1_3 ((s_arg h1).out W S))) ?_
  refine p 2 ?_
  refine rend ?_
  replace h := H.done h
  subst h
  exact ret func107 rfl (vs := [.bool (decide (v1_3 ≥ 0))]) (.tmp (by kernel_rfl) .nil) rfl (fun W S => ⟨rfl, S.below⟩)
theorem C.i_MissingIn {fu : Nat} {a0 : (List Entry)} {A0 : Option Addr} {k0 : Nat} {a1 : Int} {r : ((List Str) × Bool)} (w : World) (h : X.i_MissingIn fu a0 a1 = some r) (h0 : RdT nEntry w (.slice A0 (List.length a0) k0) a0) : Calls prog 54 #[.slice A0 (List.length a0) k0, .int .i64 a1] w (RetR eS 9 w r.1 (fun v => .tuple #[v, .bool r.2])) := by
  refine calls (M := no) (args := [.slice A0 (List.length a0) k0, .int .i64 a1]) func54 rfl ?_
  replace h : H (X.i_MissingIn fu a0 a1) (fun o => o = r) := H.mk h
  unfold X.i_MissingIn at h
  refine c_seq ?_
  refine r_start ?_
  refine xx rfl (x_box [.slice A0 (List.length a0) k0] fun g0_0 => ?_)
  refine xx rfl (x_box [.int .i64 a1] fun g0_1 => ?_)
  refine p 2 ?_
  refine rend ?_
  refine c_seq ?_
  refine c_seq ?_
  refine r_start ?_
  refine xq rfl (y_load (.slice A0 (List.length a0) k0) 0 g0_0 0) ?_
  obtain ⟨v1_1, hv1_1, h⟩ := H.call h
  refine xq rfl (y_call [.slice A0 (List.length a0) k0] (.bool v1_1) func98 (fun W S => C.i_AreEntries W hv1_1 ((s_arg h0).out W S))) ?_
  refine p 2 ?_
  refine br (!v1_1) (fun q1 => ?_) (fun q1 => ?_)
  · replace h := H.t q1 h
    refine o_set 9 (congrArg Value.bool q1) ?_
    refine p 4 ?_
    refine rend ?_
    refine c_t (by kernel_rfl) ?_
    refine c_seq ?_
    refine r_start ?_
    refine p 2 ?_
    refine rend ?_
    replace h := H.done h
    subst h
    exact ret func54 rfl (vs := [.slice none 0 0, .bool false]) (.tmp (by kernel_rfl) (.tmp (by kernel_rfl) .nil)) rfl (fun W S => ⟨none, 0, rfl, World.ownsRow_nil _ _ _ _, S.below⟩)
  replace h := H.f q1 h
  refine o_set 9 (congrArg Value.bool q1) ?_
  refine xq rfl (y_load (.int .i64 a1) 1 g0_1 0) ?_
  obtain ⟨v1_5, hv1_5, h⟩ := H.call h
  refine xq rfl (y_call [.int .i64 a1, .int .i64 0, .int .i64 5] (.bool v1_5) func70 (fun W S => C.i_within W hv1_5)) ?_
  refine p 2 ?_
  refine rend ?_
  refine c_or (!v1_5) (fun q2 => ?_) (fun q2 => ?_)
  · replace h := H.t q2 h
    refine c_seq ?_
    refine r_start ?_
    refine p 2 ?_
    refine rend ?_
    replace h := H.done h
    subst h
    exact ret func54 rfl (vs := [.slice none 0 0, .bool false]) (.tmp (by kernel_rfl) (.tmp (by kernel_rfl) .nil)) rfl (fun W S => ⟨none, 0, rfl, World.ownsRow_nil _ _ _ _, S.below⟩)
  replace h := H.f q2 h
  refine c_skip ?_
  refine c_seq ?_
  refine r_start ?_
  refine xq rfl (y_load (.slice A0 (List.length a0) k0) 0 g0_0 0) ?_
  obtain ⟨v3_1, hv3_1, h⟩ := H.call h
  refine xx rfl (e_cr [.slice A0 (List.length a0) k0] (fun v => v) func99 (fun W S => C.i_glossesOf W hv3_1 ((s_arg h0).out W S)) fun A3_1 k3_1 => ?_)
  refine p 1 ?_
  obtain ⟨v3_3, hv3_3, h⟩ := H.call h
  refine xx rfl (e_cwc (e := eS) (l' := v3_3) 2 [.slice A3_1 (List.length v3_1) k3_1, .func (.func 107) #[] #[.pointer (some ⟨g0_0, 0, none⟩), .pointer (some ⟨g0_1, 0, none⟩)]] func106 (fun W S => C.slices_DeleteFunc_string_string W hv3_3 (S.row 2) (isFn_of func107) (fun x0_2 r W2 hu2 hx2 => C.i_MissingIn_1 W2 hx2 (Rd.up h0 (up_far S 2 rfl hu2)) (bx_far S 0 2 (by decide) rfl rfl hu2) (bx_far S 1 2 (by decide) rfl rfl hu2))) ?_)
  refine p 2 ?_
  refine rend ?_
  replace h := H.done h
  subst h
  exact ret func54 rfl (vs := [.slice A3_1 (List.length v3_3) k3_1, .bool true]) (.tmp (by kernel_rfl) (.tmp (by kernel_rfl) .nil)) rfl (fun W S => ⟨_, _, rfl, S.row 2, S.below⟩)
theorem C.l_FnExactMissingIn {fu : Nat} {a0 : (List Entry)} {A0 : Option Addr} {k0 : Nat} {a1 : Int} {r : Bool} (w : World) (h : X.l_FnExactMissingIn fu a0 a1 = some r) (h0 : RdT nEntry w (.slice A0 (List.length a0) k0) a0) : Calls prog 13 #[.slice A0 (List.length a0) k0, .int .i64 a1] w (Ret w (.bool r)) := by
  refine calls (M := no) (args := [.slice A0 (List.length a0) k0, .int .i64 a1]) func13 rfl ?_
  replace h : H (X.l_FnExactMissingIn fu a0 a1) (fun o => o = r) := H.mk h
  unfold X.l_FnExactMissingIn at h
  refine c_seq ?_
  refine r_start ?_
  refine p 1 ?_
  refine rend ?_
  refine c_seq ?_
  refine r_start ?_
  refine p 1 ?_
  refine rend ?_
  refine c_seq ?_
  refine r_start ?_
  refine p 2 ?_
  obtain ⟨v2_2, hv2_2, h⟩ := H.call h
  refine xq rfl (y_call [.slice A0 (List.length a0) k0, .int .i64 1048576] (.int .i64 v2_2) func44 (fun W S => C.l_szEntryS W hv2_2 ((s_arg h0).out W S))) ?_
  refine p 1 ?_
  refine rend ?_
  refine c_seq ?_
  refine c_seq ?_
  refine r_start ?_
  refine p 2 ?_
  refine rend ?_
  refine c_or (decide (v2_2 < 0)) (fun q1 => ?_) (fun q1 => ?_)
  · replace h := H.t q1 h
    refine c_seq ?_
    refine r_start ?_
    refine p 1 ?_
    refine rend ?_
    replace h := H.done h
    subst h
    exact ret func13 rfl (vs := [.bool true]) (.tmp (by kernel_rfl) .nil) rfl (fun W S => ⟨rfl, S.below⟩)
  replace h := H.f q1 h
  refine c_skip ?_
  refine c_seq ?_
  refine r_start ?_
  refine p 1 ?_
  obtain ⟨v5_1, hv5_1, h⟩ := H.call h
  refine xx rfl (e_cr [.slice A0 (List.length a0) k0] (fun v => v) func46 (fun W S => C.l_toEntryS W hv5_1 ((s_arg h0).out W S)) fun A5_1 k5_1 => ?_)
  refine p 1 ?_
  obtain ⟨v5_3, hv5_3, h⟩ := H.call h
  refine xx rfl (e_cr [.slice A5_1 (List.length v5_1) k5_1, .int .i64 a1] (fun v => .tuple #[v, .bool v5_3.2]) func53 (fun W S => C.s_MissingIn W hv5_3 ((s_own 0).out W S)) fun A5_3 k5_3 => ?_)
  refine p 5 ?_
  refine rend ?_
  refine c_seq ?_
  refine r_start ?_
  refine p 1 ?_
  obtain ⟨v6_1, hv6_1, h⟩ := H.call h
  refine xx rfl (e_cr [.slice A0 (List.length a0) k0] (fun v => v) func46 (fun W S => C.l_toEntryS W hv6_1 ((s_arg h0).out W S)) fun A6_1 k6_1 => ?_)
  refine p 1 ?_
  refine rend ?_
  refine c_seq ?_
  refine r_start ?_
  refine p 2 ?_
  obtain ⟨v7_2, hv7_2, h⟩ := H.call h
  refine xx rfl (e_cr [.slice A6_1 (List.length v6_1) k6_1, .int .i64 a1] (fun v => .tuple #[v, .bool v7_2.2]) func54 (fun W S => C.i_MissingIn W hv7_2 ((s_own 2).out W S)) fun A7_2 k7_2 => ?_)
  refine p 5 ?_
  refine rend ?_
  refine c_seq ?_
  refine c_seq ?_
  refine r_start ?_
  refine p 2 ?_
  obtain ⟨v8_2, hv8_2, h⟩ := H.call h
  refine xq rfl (y_call [.slice A7_2 (List.length v7_2.1) k7_2, .slice A5_3 (List.length v5_3.1) k5_3] (.bool v8_2) func48 (fun W S => C.l_eqStringS W hv8_2 ((s_own 3).out W S) ((s_own 1).out W S))) ?_
  refine p 2 ?_
  refine br (!v8_2) (fun q2 => ?_) (fun q2 => ?_)
  · replace h := H.t q2 h
    refine o_set 40 (congrArg Value.bool q2) ?_
    refine p 4 ?_
    refine rend ?_
    refine c_t (by kernel_rfl) ?_
    refine c_seq ?_
    refine r_start ?_
    refine p 1 ?_
    refine rend ?_
    replace h := H.done h
    subst h
    exact ret func13 rfl (vs := [.bool false]) (.tmp (by kernel_rfl) .nil) rfl (fun W S => ⟨rfl, S.below⟩)
  replace h := H.f q2 h
  refine o_set 40 (congrArg Value.bool q2) ?_
  refine p 4 ?_
  refine rend ?_
  refine c_or (!(v7_2.2 == v5_3.2)) (fun q3 => ?_) (fun q3 => ?_)
  · replace h := H.t q3 h
    refine c_seq ?_
    refine r_start ?_
    refine p 1 ?_
    refine rend ?_
    replace h := H.done h
    subst h
    exact ret func13 rfl (vs := [.bool false]) (.tmp (by kernel_rfl) .nil) rfl (fun W S => ⟨rfl, S.below⟩)
  replace h := H.f q3 h
  refine c_skip ?_
  refine c_seq ?_
  refine c_seq ?_
  refine r_start ?_
  refine p 2 ?_
  obtain ⟨v10_2, hv10_2, h⟩ := H.call h
  refine xx rfl (e_cr [.slice A0 (List.length a0) k0] (fun v => v) func46 (fun W S => C.l_toEntryS W hv10_2 ((s_arg h0).out W S)) fun A10_2 k10_2 => ?_)
  obtain ⟨v10_3, hv10_3, h⟩ := H.call h
  refine xq rfl (y_call [.slice A6_1 (List.length v6_1) k6_1, .slice A10_2 (List.length v10_2) k10_2] (.bool v10_3) func49 (fun W S => C.l_eqEntryS W hv10_3 ((s_own 2).out W S) ((s_own 4).out W S))) ?_
  refine p 1 ?_
  refine rend ?_
  refine c_or (!v10_3) (fun q4 => ?_) (fun q4 => ?_)
  · replace h := H.t q4 h
    refine c_seq ?_
    refine r_start ?_
    refine p 1 ?_
    refine rend ?_
    replace h := H.done h
    subst h
    exact ret func13 rfl (vs := [.bool false]) (.tmp (by kernel_rfl) .nil) rfl (fun W S => ⟨rfl, S.below⟩)
  replace h := H.f q4 h
  refine c_skip ?_
  refine c_seq ?_
  refine r_start ?_
  refine p 1 ?_
  refine rend ?_
  refine c_seq ?_
  refine r_start ?_
  refine p 2 ?_
  obtain ⟨v13_2, hv13_2, h⟩ := H.call h
  refine xx rfl (e_cw (e := nEntry) (l' := v13_2.2) (v := .int .i64 v13_2.1) 2 [.slice A6_1 (List.length v6_1) k6_1, .int .i64 1] func50 (fun W S => C.l_markEntryS W hv13_2 rfl (S.row 2)) fun hl13_2 => ?_)
  refine o_set 8 (sl_len (A := A6_1) (c := k6_1) hl13_2) ?_
  refine p 1 ?_
  refine rend ?_
  refine c_seq ?_
  refine c_seq ?_
  refine r_start ?_
  refine p 3 ?_
  refine br (decide (v13_2.1 < 0)) (fun q5 => ?_) (fun q5 => ?_)
  · replace h := H.t q5 h
    refine o_set 55 (congrArg Value.bool q5) ?_
    refine p 10 ?_
    refine rend ?_
    refine frg (fun u => (.slice A0 (List.length a0) k0 :: .int .i64 a1 :: (jk u 2 4 (.slice A5_3 (List.length v5_3.1) k5_3 :: .bool v5_3.2 :: (jk u 8 1 (.slice A7_2 (List.length v7_2.1) k7_2 :: (jk u 10 55 (.bool true :: (jk u 66 35 []))))))))) (by kernel_rfl) fun u => ?_
    refine keep 5 (its' := [rowT nEntry w.heap.size 117 (.slice A5_1 (List.length v5_1) k5_1) v5_1, rowT eS w.heap.size 9 (.slice A5_3 (List.length v5_3.1) k5_3) v5_3.1, rowT nEntry w.heap.size 117 (.slice A6_1 (List.length v13_2.2) k6_1) v13_2.2, rowT eS w.heap.size 9 (.slice A7_2 (List.length v7_2.1) k7_2) v7_2.1, rowT nEntry w.heap.size 117 (.slice A10_2 (List.length v10_2) k10_2) v10_2]) (by kernel_rfl) ?_
    refine c_t (by kernel_rfl) ?_
    refine c_seq ?_
    refine r_start ?_
    refine p 1 ?_
    refine rend ?_
    replace h := H.done h
    subst h
    exact ret func13 rfl (vs := [.bool false]) (.tmp (by kernel_rfl) .nil) rfl (fun W S => ⟨rfl, S.below⟩)
  replace h := H.f q5 h
  refine o_set 55 (congrArg Value.bool q5) ?_
  refine p 2 ?_
  obtain ⟨v14_5, hv14_5, h⟩ := H.call h
  refine xq rfl (y_call [.slice A7_2 (List.length v7_2.1) k7_2, .slice A5_3 (List.length v5_3.1) k5_3] (.bool v14_5) func48 (fun W S => C.l_eqStringS W hv14_5 ((s_own 3).out W S) ((s_own 1).out W S))) ?_
  refine p 3 ?_
  refine br (!v14_5) (fun q6 => ?_) (fun q6 => ?_)
  · replace h := H.t q6 h
    refine o_set 61 (congrArg Value.bool q6) ?_
    refine p 4 ?_
    refine rend ?_
    refine frg (fun u => (.slice A0 (List.length a0) k0 :: .int .i64 a1 :: (jk u 2 4 (.slice A5_3 (List.length v5_3.1) k5_3 :: .bool v5_3.2 :: (jk u 8 1 (.slice A7_2 (List.length v7_2.1) k7_2 :: (jk u 10 55 (.bool true :: (jk u 66 35 []))))))))) (by kernel_rfl) fun u => ?_
    refine keep 5 (its' := [rowT nEntry w.heap.size 117 (.slice A5_1 (List.length v5_1) k5_1) v5_1, rowT eS w.heap.size 9 (.slice A5_3 (List.length v5_3.1) k5_3) v5_3.1, rowT nEntry w.heap.size 117 (.slice A6_1 (List.length v13_2.2) k6_1) v13_2.2, rowT eS w.heap.size 9 (.slice A7_2 (List.length v7_2.1) k7_2) v7_2.1, rowT nEntry w.heap.size 117 (.slice A10_2 (List.length v10_2) k10_2) v10_2]) (by kernel_rfl) ?_
    refine c_t (by kernel_rfl) ?_
    refine c_seq ?_
    refine r_start ?_
    refine p 1 ?_
    refine rend ?_
    replace h := H.done h
    subst h
    exact ret func13 rfl (vs := [.bool false]) (.tmp (by kernel_rfl) .nil) rfl (fun W S => ⟨rfl, S.below⟩)
  replace h := H.f q6 h
  refine o_set 61 (congrArg Value.bool q6) ?_
  refine p 4 ?_
  refine rend ?_
  refine frg (fun u => (.slice A0 (List.length a0) k0 :: .int .i64 a1 :: (jk u 2 4 (.slice A5_3 (List.length v5_3.1) k5_3 :: .bool v5_3.2 :: (jk u 8 1 (.slice A7_2 (List.length v7_2.1) k7_2 :: (jk u 10 55 (.bool (!(v7_2.2 == v5_3.2)) :: (jk u 66 35 []))))))))) (by kernel_rfl) fun u => ?_
  refine keep 5 (its' := [rowT nEntry w.heap.size 117 (.slice A5_1 (List.length v5_1) k5_1) v5_1, rowT eS w.heap.size 9 (.slice A5_3 (List.length v5_3.1) k5_3) v5_3.1, rowT nEntry w.heap.size 117 (.slice A6_1 (List.length v13_2.2) k6_1) v13_2.2, rowT eS w.heap.size 9 (.slice A7_2 (List.length v7_2.1) k7_2) v7_2.1, rowT nEntry w.heap.size 117 (.slice A10_2 (List.length v10_2) k10_2) v10_2]) (by kernel_rfl) ?_
  refine c_no q3 ?_
  refine c_skip ?_
  refine c_seq ?_
  refine r_start ?_
  refine p 1 ?_
  refine rend ?_
  refine c_seq ?_
  refine r_start ?_
  refine p 2 ?_
  obtain ⟨v17_2, hv17_2, h⟩ := H.call h
  refine xx rfl (e_cw (e := eS) (l' := v17_2.2) (v := .int .i64 v17_2.1) 3 [.slice A7_2 (List.length v7_2.1) k7_2, .int .i64 1] func51 (fun W S => C.l_markStringS W hv17_2 rfl (S.row 3)) fun hl17_2 => ?_)
  refine o_set 9 (sl_len (A := A7_2) (c := k7_2) hl17_2) ?_
  refine p 1 ?_
  refine rend ?_
  refine c_seq ?_
  refine r_start ?_
  refine p 1 ?_
  refine rend ?_
  refine c_seq ?_
  refine r_start ?_
  refine p 2 ?_
  obtain ⟨v19_2, hv19_2, h⟩ := H.call h
  refine xq rfl (y_call [.slice A7_2 (List.length v17_2.2) k7_2, .int .i64 1] (.int .i64 v19_2) func52 (fun W S => C.l_heldStringS W hv19_2 ((s_own 3).out W S))) ?_
  refine p 1 ?_
  refine rend ?_
  refine c_seq ?_
  refine c_seq ?_
  refine r_start ?_
  refine p 2 ?_
  refine rend ?_
  refine c_or (decide (v19_2 < 0)) (fun q7 => ?_) (fun q7 => ?_)
  · replace h := H.t q7 h
    refine c_seq ?_
    refine r_start ?_
    refine p 1 ?_
    refine rend ?_
    replace h := H.done h
    subst h
    exact ret func13 rfl (vs := [.bool false]) (.tmp (by kernel_rfl) .nil) rfl (fun W S => ⟨rfl, S.below⟩)
  replace h := H.f q7 h
  refine c_skip ?_
  refine c_seq ?_
  refine c_seq ?_
  refine r_start ?_
  refine p 3 ?_
  refine rend ?_
  refine c_or (v19_2 != v17_2.1) (fun q8 => ?_) (fun q8 => ?_)
  · replace h := H.t q8 h
    refine c_seq ?_
    refine r_start ?_
    refine p 1 ?_
    refine rend ?_
    replace h := H.done h
    subst h
    exact ret func13 rfl (vs := [.bool false]) (.tmp (by kernel_rfl) .nil) rfl (fun W S => ⟨rfl, S.below⟩)
  replace h := H.f q8 h
  refine c_skip ?_
  refine c_seq ?_
  refine r_start ?_
  refine p 1 ?_
  obtain ⟨v24_1, hv24_1, h⟩ := H.call h
  refine xx rfl (e_cr [.slice A0 (List.length a0) k0] (fun v => v) func46 (fun W S => C.l_toEntryS W hv24_1 ((s_arg h0).out W S)) fun A24_1 k24_1 => ?_)
  refine p 1 ?_
  obtain ⟨v24_3, hv24_3, h⟩ := H.call h
  refine xx rfl (e_cr [.slice A24_1 (List.length v24_1) k24_1, .int .i64 a1] (fun v => .tuple #[v, .bool v24_3.2]) func54 (fun W S => C.i_MissingIn W hv24_3 ((s_own 5).out W S)) fun A24_3 k24_3 => ?_)
  refine p 5 ?_
  refine rend ?_
  refine c_seq ?_
  refine c_seq ?_
  refine r_start ?_
  refine p 2 ?_
  obtain ⟨v25_2, hv25_2, h⟩ := H.call h
  refine xq rfl (y_call [.slice A24_3 (List.length v24_3.1) k24_3, .slice A5_3 (List.length v5_3.1) k5_3] (.bool v25_2) func48 (fun W S => C.l_eqStringS W hv25_2 ((s_own 6).out W S) ((s_own 1).out W S))) ?_
  refine p 2 ?_
  refine br (!v25_2) (fun q9 => ?_) (fun q9 => ?_)
  · replace h := H.t q9 h
    refine o_set 88 (congrArg Value.bool q9) ?_
    refine p 4 ?_
    refine rend ?_
    refine c_t (by kernel_rfl) ?_
    refine c_seq ?_
    refine r_start ?_
    refine p 1 ?_
    refine rend ?_
    replace h := H.done h
    subst h
    exact ret func13 rfl (vs := [.bool false]) (.tmp (by kernel_rfl) .nil) rfl (fun W S => ⟨rfl, S.below⟩)
  replace h := H.f q9 h
  refine o_set 88 (congrArg Value.bool q9) ?_
  refine p 4 ?_
  refine rend ?_
  refine c_or (!(v24_3.2 == v5_3.2)) (fun q10 => ?_) (fun q10 => ?_)
  · replace h := H.t q10 h
    refine c_seq ?_
    refine r_start ?_
    refine p 1 ?_
    refine rend ?_
    replace h := H.done h
    subst h
    exact ret func13 rfl (vs := [.bool false]) (.tmp (by kernel_rfl) .nil) rfl (fun W S => ⟨rfl, S.below⟩)
  replace h := H.f q10 h
  refine c_skip ?_
  refine c_seq ?_
  refine r_start ?_
  refine p 1 ?_
  refine rend ?_
  refine c_seq ?_
  refine r_start ?_
  refine p 2 ?_
  obtain ⟨v28_2, hv28_2, h⟩ := H.call h
  refine xq rfl (y_call [.slice A7_2 (List.length v17_2.2) k7_2, .int .i64 1] (.int .i64 v28_2) func52 (fun W S => C.l_heldStringS W hv28_2 ((s_own 3).out W S))) ?_
  refine p 1 ?_
  refine rend ?_
  refine c_seq ?_
  refine c_seq ?_
  refine r_start ?_
  refine p 2 ?_
  refine rend ?_
  refine c_or (decide (v28_2 < 0)) (fun q11 => ?_) (fun q11 => ?_)
  · replace h := H.t q11 h
    refine c_seq ?_
    refine r_start ?_
    refine p 1 ?_
    refine rend ?_
    refine frg (fun u => (jk u 0 4 (.bool false :: (jk u 5 96 [])))) (by kernel_rfl) fun u => ?_
    refine keep 7 (its' := [rowT nEntry w.heap.size 117 (.slice A5_1 (List.length v5_1) k5_1) v5_1, rowT eS w.heap.size 9 (.slice A5_3 (List.length v5_3.1) k5_3) v5_3.1, rowT nEntry w.heap.size 117 (.slice A6_1 (List.length v13_2.2) k6_1) v13_2.2, rowT eS w.heap.size 9 (.slice A7_2 (List.length v17_2.2) k7_2) v17_2.2, rowT nEntry w.heap.size 117 (.slice A10_2 (List.length v10_2) k10_2) v10_2, rowT nEntry w.heap.size 117 (.slice A24_1 (List.length v24_1) k24_1) v24_1, rowT eS w.heap.size 9 (.slice A24_3 (List.length v24_3.1) k24_3) v24_3.1]) (by kernel_rfl) ?_
    replace h := H.done h
    subst h
    exact ret func13 rfl (vs := [.bool false]) (.tmp (by kernel_rfl) .nil) rfl (fun W S => ⟨rfl, S.below⟩)
  replace h := H.f q11 h
  refine c_skip ?_
  refine c_seq ?_
  refine c_seq ?_
  refine r_start ?_
  refine p 3 ?_
  refine rend ?_
  refine frg (fun u => (jk u 0 100 [.bool (v28_2 != v17_2.1)])) (by kernel_rfl) fun u => ?_
  refine keep 7 (its' := [rowT nEntry w.heap.size 117 (.slice A5_1 (List.length v5_1) k5_1) v5_1, rowT eS w.heap.size 9 (.slice A5_3 (List.length v5_3.1) k5_3) v5_3.1, rowT nEntry w.heap.size 117 (.slice A6_1 (List.length v13_2.2) k6_1) v13_2.2, rowT eS w.heap.size 9 (.slice A7_2 (List.length v17_2.2) k7_2) v17_2.2, rowT nEntry w.heap.size 117 (.slice A10_2 (List.length v10_2) k10_2) v10_2, rowT nEntry w.heap.size 117 (.slice A24_1 (List.length v24_1) k24_1) v24_1, rowT eS w.heap.size 9 (.slice A24_3 (List.length v24_3.1) k24_3) v24_3.1]) (by kernel_rfl) ?_
  refine c_or (v28_2 != v17_2.1) (fun q12 => ?_) (fun q12 => ?_)
  · replace h := H.t q12 h
    refine c_seq ?_
    refine r_start ?_
    refine p 1 ?_
    refine rend ?_
    replace h := H.done h
    subst h
    exact ret func13 rfl (vs := [.bool false]) (.tmp (by kernel_rfl) .nil) rfl (fun W S => ⟨rfl, S.below⟩)
  replace h := H.f q12 h
  refine c_skip ?_
  refine c_seq ?_
  refine r_start ?_
  refine p 1 ?_
  refine rend ?_
  replace h := H.done h
  subst h
  exact ret func13 rfl (vs := [.bool true]) (.tmp (by kernel_rfl) .nil) rfl (fun W S => ⟨rfl, S.below⟩)
end Go.Proofs.XC
