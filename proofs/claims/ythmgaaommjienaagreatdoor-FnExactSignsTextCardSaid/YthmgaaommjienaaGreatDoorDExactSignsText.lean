/- Contracts: each function, called where its plain function gives an answer, returns just that answer and changes nothing that was there. By AI agents; no person has read it. -/
import Derived.Test.YthmgaaommjienaaGreatDoorC2
set_option linter.unusedVariables false
set_option linter.unusedSimpArgs false
set_option maxRecDepth 100000
set_option maxHeartbeats 40000000
namespace Go.Proofs.XC
open Go Go.RowKit
open Tryz
theorem C.s_SignsText {fu : Nat} {a0 : (List Sign)} {A0 : Option Addr} {k0 : Nat} {r : (Str × Bool)} (w : World) (h : X.s_SignsText fu a0 = some r) (h0 : RdT nSign w (.slice A0 (List.length a0) k0) a0) : Calls prog 23 #[.slice A0 (List.length a0) k0] w (Ret w (.tuple #[.string (bs r.1), .bool r.2])) := by
  refine calls (M := no) (args := [.slice A0 (List.length a0) k0]) func23 rfl ?_
  replace h : H (X.s_SignsText fu a0) (fun o => o = r) := H.mk h
  unfold X.s_SignsText at h
  refine c_seq ?_
  refine r_start ?_
  refine p 2 ?_
  refine rend ?_
  refine c_seq ?_
  refine c_seq ?_
  refine r_start ?_
  refine p 1 ?_
  obtain ⟨v1_1, hv1_1, h⟩ := H.call h
  refine xq rfl (y_call [.slice A0 (List.length a0) k0] (.bool v1_1) func82 (fun W S => C.s_paList W hv1_1 ((s_arg h0).out W S))) ?_
  refine p 1 ?_
  refine rend ?_
  refine c_or (!v1_1) (fun q1 => ?_) (fun q1 => ?_)
  · replace h := H.t q1 h
    refine c_seq ?_
    refine r_start ?_
    refine p 2 ?_
    refine rend ?_
    replace h := H.done h
    subst h
    exact ret func23 rfl (vs := [.string (bs ([] : Str)), .bool false]) (.tmp (by kernel_rfl) (.tmp (by kernel_rfl) .nil)) rfl (fun W S => ⟨rfl, S.below⟩)
  replace h := H.f q1 h
  refine c_skip ?_
  refine c_seq ?_
  refine r_start ?_
  refine p 1 ?_
  refine rend ?_
  refine c_seq ?_
  refine c_seq ?_
  refine r_start ?_
  refine p 3 ?_
  refine rend ?_
  refine c_block ?_
  refine joinH (X := Str) 0 (H.bnd h) (fun (x : Str) => x) (fun t3 => []) (fun t3 u => (jk u 0 4 (.string (bs t3) :: (jk u 5 18 [])))) (fun h hj4 => ?_) ?_
  · skip
    refine rangeR (X := Str) (s_arg h0) (fun (x : Str) => x) (fun t2 => []) (fun (j5 : Nat) t2 u => (jk u 0 4 (.string (bs t2) :: (jk u 5 5 (.slice A0 (List.length a0) k0 :: .int .i64 (List.length a0 : Int) :: .int .i64 (j5 : Int) :: (jk u 13 10 [])))))) ([] : Str) h (by kernel_rfl) (by kernel_rfl) ?_ ?_
    · intro j5 t2 u x6 q7 hg8 hw9 h
      refine c_seq ?_
      refine r_start ?_
      refine p 1 ?_
      refine rend ?_
      refine c_seq ?_
      refine c_yes q7 ?_
      refine c_skip ?_
      refine c_seq ?_
      refine c_block ?_
      refine c_seq ?_
      refine r_start ?_
      refine xq rfl (y_idx (e := nSign) (el := 46) hg8 (s_arg h0)) ?_
      refine xq rfl (y_el (e := nSign) 0 (.agg (eSign x6).toArray) hg8 (s_arg h0)) ?_
      refine xx rfl (x_new (eSign zSign) fun g6_2 => ?_)
      refine xx rfl (x_sto 0 g6_2 0 (eSign x6) ?_)
      refine rend ?_
      refine r_start ?_
      refine p 1 ?_
      refine xq rfl (y_load (.agg (eSign x6).toArray) 0 g6_2 0) ?_
      obtain ⟨v7_2, hv7_2, h⟩ := H.call h
      refine xq rfl (y_call [.agg (eSign x6).toArray] (.string (bs v7_2)) func83 (fun W S => C.s_paText W hv7_2)) ?_
      obtain ⟨y7_3, hy7_3, h⟩ := H.call h
      refine xq rfl (y_cat hy7_3) ?_
      obtain ⟨y7_4, hy7_4, h⟩ := H.call h
      refine xq rfl (y_cat hy7_4) ?_
      refine p 1 ?_
      refine rend ?_
      refine c_inb ?_
      refine r_start ?_
      refine p 2 ?_
      refine rend ?_
      refine c_set 12 (ci hw9) ?_
      replace h := H.inl h
      exact h y7_4 _ _ rfl (by kernel_rfl) (by kernel_rfl)
    · intro t2 u q7 h
      refine c_seq ?_
      refine r_start ?_
      refine p 1 ?_
      refine rend ?_
      refine c_seq ?_
      refine c_no q7 ?_
      refine cx ?_
      replace h := H.done h
      exact hj4 t2 _ _ h (by kernel_rfl) (by kernel_rfl)
  intro t3 u h
  refine c_seq ?_
  refine r_start ?_
  refine p 3 ?_
  refine rend ?_
  replace h := H.done h
  subst h
  exact ret func23 rfl (vs := [.string (bs t3), .bool true]) (.tmp (by kernel_rfl) (.tmp (by kernel_rfl) .nil)) rfl (fun W S => ⟨rfl, S.below⟩)
theorem C.i_SignsText {fu : Nat} {a0 : List Sign} {A0 : Option Addr} {k0 : Nat} {r : Str × Bool} (w : World) (h : X.i_SignsText fu a0 = some r) (h0 : RdT nSign w (.slice A0 (List.length a0) k0) a0) : Calls prog 25 #[.slice A0 (List.length a0) k0] w (Ret w (.tuple #[.string (bs r.1), .bool r.2])) := by
  refine calls (M := no) (args := [.slice A0 (List.length a0) k0]) func25 rfl ?_
  replace h : H (X.i_SignsText fu a0) (fun o => o = r) := H.mk h
  unfold X.i_SignsText at h
  refine c_seq ?_
  refine r_start ?_
  refine p 2 ?_
  refine rend ?_
  refine c_seq ?_
  refine c_seq ?_
  refine r_start ?_
  refine p 4 ?_
  refine br (decide ((List.length a0 : Int) > 20)) (fun q1 => ?_) (fun q1 => ?_)
  · replace h := H.t q1 h
    refine o_set 10 (congrArg Value.bool q1) ?_
    refine p 4 ?_
    refine rend ?_
    refine c_t (by kernel_rfl) ?_
    refine c_seq ?_
    refine r_start ?_
    refine p 2 ?_
    refine rend ?_
    replace h := H.done h
    subst h
    exact ret func25 rfl (vs := [.string (bs ([] : Str)), .bool false]) (.tmp (by kernel_rfl) (.tmp (by kernel_rfl) .nil)) rfl (fun W S => ⟨rfl, S.below⟩)
  replace h := H.f q1 h
  refine o_set 10 (congrArg Value.bool q1) ?_
  refine p 1 ?_
  obtain ⟨v1_5, hv1_5, h⟩ := H.call h
  refine xq rfl (y_call [.slice A0 (List.length a0) k0, .func (.func 61) #[] #[]] (.bool v1_5) func84 (fun W S => C.i_allOf_i_Sign W hv1_5 ((s_arg h0).out W S) (isFn_of func61) (fun x0_2 r W2 hu2 hx2 => C.i_IsSign W2 hx2))) ?_
  refine p 2 ?_
  refine rend ?_
  refine c_or (!v1_5) (fun q2 => ?_) (fun q2 => ?_)
  · replace h := H.t q2 h
    refine c_seq ?_
    refine r_start ?_
    refine p 2 ?_
    refine rend ?_
    replace h := H.done h
    subst h
    exact ret func25 rfl (vs := [.string (bs ([] : Str)), .bool false]) (.tmp (by kernel_rfl) (.tmp (by kernel_rfl) .nil)) rfl (fun W S => ⟨rfl, S.below⟩)
  replace h := H.f q2 h
  refine c_skip ?_
  refine c_seq ?_
  refine r_start ?_
  refine xx rfl (x_new [.pointer none, .slice none 0 0] fun g => ?_)
  refine rend ?_
  repeat refine c_seq ?_
  refine r_start ?_
  refine p 3 ?_
  refine rend ?_
  refine c_block ?_
  refine frg (fun u => .slice A0 (List.length a0) k0 :: jk u 1 3 (.pointer (some ⟨g, 0, none⟩) :: jk u 5 10 (.slice A0 (List.length a0) k0 :: .int .i64 (List.length a0 : Int) :: .int .i64 ((0 : Nat) : Int) :: jk u 18 9 []))) (by kernel_rfl) fun u => ?_
  refine ⟨fun W S => ?_⟩
  have hg : W.heap[g]? = some (.cells #[.pointer none, .slice none 0 0] 111 (0, 0)) := S.bx 0
  have hB : w.heap.size ≤ g := by
    rcases (S.own (i := 0) rfl g rfl).1 with h | h
    · exact h
    · exact h.elim
  have hbl : Below w.heap.size w W := S.below
  have hbd : Lib.IsBuilder 111 5 w.heap.size g (Lib.byteCells []) W := .inl ⟨hB, .slice none 0 0, hg, World.ownsRow_nil _ _ _ _, by simp [Value.ownBlock]⟩
  have hrd : RdT nSign W (.slice A0 (List.length a0) k0) a0 := Rd.up h0 hbl
  have hlen : a0.length ≤ 9223372036854775807 := by
    obtain ⟨_, _, _, _, h3, _⟩ := h0
    exact h3
  refine .loop ?_
  refine (fun (key : ∀ (l : List Sign) (j : Nat) (t : Str) (u : Nat → Value) (W : World), a0.drop j = l → j ≤ a0.length → Below w.heap.size w W → Lib.IsBuilder 111 5 w.heap.size g (Lib.byteCells t) W →
      H (rangeM (fun (j : Int) (x : Sign) (t : Str) => (Option.bind (X.i_Sign_text x) fun s => (Option.bind (catS s ([10] : Str)) fun y => if t.length + y.length ≤ 140737488355328 then some (.inl (t ++ y)) else none))) (fun t => some (t, true)) l j t) (fun o => o = r) →
      G prog 25 (Ret w (.tuple #[.string (bs r.1), .bool r.2])) _ (.slice A0 (List.length a0) k0 :: jk u 1 3 (.pointer (some ⟨g, 0, none⟩) :: jk u 5 10 (.slice A0 (List.length a0) k0 :: .int .i64 (List.length a0 : Int) :: .int .i64 (j : Int) :: jk u 18 9 []))) W) => key a0 0 [] u W rfl (Nat.zero_le _) hbl hbd h) ?_
  · intro l
    induction l with
    | nil =>
      intro j t u W hd hj hbl hbd h
      have hjl : j = a0.length := by
        have := List.drop_eq_nil_iff.1 hd
        omega
      subst hjl
      replace h := H.done h
      subst h
      refine (show GS prog 25 (Ret w (.tuple #[.string (bs t), .bool true])) no W [] _ _ from ?_).out W (St.init no W)
      repeat refine c_seq ?_
      refine r_start ?_
      refine p 1 ?_
      refine rend ?_
      repeat refine c_seq ?_
      refine c_no (b := decide ((List.length a0 : Int) < (List.length a0 : Int))) (by simp) ?_
      refine cx ?_
      repeat refine c_seq ?_
      refine r_start ?_
      refine ⟨fun W1 S1 => ?_⟩
      have hb1 := bld_up hbd S1.below
      refine O.enter rfl (gd_ok (by kernel_rfl)) (run_call (fst := #[]) (caps := #[]) (c := _) (x := .func 87) (args := [.pointer (some ⟨g, 0, none⟩)]) rfl rfl rfl func87 rfl (by kernel_rfl) (by kernel_rfl) W1) ?_
      have hs1 : w.heap.size ≤ W1.heap.size := Nat.le_trans hbl.size S1.below.size
      refine (Tryz.Builder_String_any w.heap.size g t W1 hb1 hs1).mono ?_
      rintro e w2 ⟨rfl, hb2⟩
      refine ⟨_, rfl, ?_⟩
      have hbl2 : Below w.heap.size w w2 := Below.trans (below_of hbl S1.below hbl.size) hb2
      refine (show OS prog 25 (Ret w (.tuple #[.string (bs t), .bool true])) no w2 [] _ _ 1 _ from ?_).out w2 (St.init no w2)
      refine p 2 ?_
      refine rend ?_
      exact ret func25 rfl (vs := [.string (bs t), .bool true]) (.tmp (by kernel_rfl) (.tmp (by kernel_rfl) .nil)) rfl (fun W S => ⟨rfl, below_of hbl2 S.below hbl2.size⟩)
    | cons x l ih =>
      intro j t u W hd hj hbl hbd h
      have hlt : j < a0.length := by
        rcases Nat.lt_or_ge j a0.length with h | h
        · exact h
        · rw [List.drop_eq_nil_of_le h] at hd; cases hd
      have hx : a0[j]? = some x := by
        have := congrArg (fun l => l[0]?) hd
        simpa using this
      have hd' : a0.drop (j + 1) = l := by rw [← List.drop_drop (i := 1) (j := j), hd]; rfl
      have hgx : getI a0 (j : Int) = some x := by
        unfold getI
        rw [if_pos (by omega)]
        simpa using hx
      have hrd : RdT nSign W (.slice A0 (List.length a0) k0) a0 := Rd.up h0 hbl
      have hw : IntKind.i64.wrap ((j : Int) + 1) = ((j + 1 : Nat) : Int) := by rw [IntKind.wrap_i64]; omega
      replace h := H.bnd h
      obtain ⟨o, ho, h⟩ := h
      obtain ⟨s, hs, ho⟩ := Option.bind_eq_some_iff.1 ho
      obtain ⟨y, hy, ho⟩ := Option.bind_eq_some_iff.1 ho
      split at ho
      case isFalse => cases ho
      rename_i hsz
      obtain rfl := Option.some.inj ho
      refine (show GS prog 25 (Ret w (.tuple #[.string (bs r.1), .bool r.2])) no W [] _ _ from ?_).out W (St.init no W)
      repeat refine c_seq ?_
      refine r_start ?_
      refine p 1 ?_
      refine rend ?_
      repeat refine c_seq ?_
      refine c_yes (b := decide ((j : Int) < (List.length a0 : Int))) (by simp; omega) ?_
      refine c_skip ?_
      repeat refine c_seq ?_
      refine c_block ?_
      repeat refine c_seq ?_
      refine r_start ?_
      refine xq rfl (y_idx (e := nSign) (el := 46) hgx (s_arg hrd)) ?_
      refine xq rfl (y_el (e := nSign) 0 (.agg (eSign x).toArray) hgx (s_arg hrd)) ?_
      refine xx rfl (x_new (eSign zSign) fun g6 => ?_)
      refine xx rfl (x_sto 0 g6 0 (eSign x) ?_)
      refine rend ?_
      repeat refine c_seq ?_
      refine r_start ?_
      refine xq rfl (y_load (.agg (eSign x).toArray) 0 g6 0) ?_
      refine xq rfl (y_call [.agg (eSign x).toArray] (.string (bs s)) func86 (fun W S => C.i_Sign_text W hs)) ?_
      refine xq rfl (y_cat hy) ?_
      refine ⟨fun W1 S1 => ?_⟩
      have hb1 := bld_up hbd S1.below
      refine O.enter rfl (gd_ok (by kernel_rfl)) (run_call (fst := #[]) (caps := #[]) (c := _) (x := .func 85) (args := [.pointer (some ⟨g, 0, none⟩), .string (bs y)]) rfl rfl rfl func85 rfl (by kernel_rfl) (by kernel_rfl) W1) ?_
      have hs1 : w.heap.size ≤ W1.heap.size := Nat.le_trans hbl.size S1.below.size
      refine (Any.Builder_WriteString lays166 Tryz.Builder_Extra_156 w.heap.size g (Lib.byteCells t) (bs y) W1 hb1 (by rw [Lib.byteCells_length]; exact hsz) hs1).mono ?_
      rintro e w2 ⟨rfl, hb2, hbl2⟩
      rw [cells_app] at hb2
      refine ⟨_, rfl, ?_⟩
      have hbl3 : Below w.heap.size w w2 := Below.trans (below_of hbl S1.below hbl.size) hbl2
      refine (show OS prog 25 (Ret w (.tuple #[.string (bs r.1), .bool r.2])) no w2 [] _ _ 4 _ from ?_).out w2 (St.init no w2)
      refine rend ?_
      refine c_inb ?_
      refine r_start ?_
      refine p 2 ?_
      refine rend ?_
      refine c_set 17 (ci hw) ?_
      refine c_inl ?_
      refine frg (fun u => .slice A0 (List.length a0) k0 :: jk u 1 3 (.pointer (some ⟨g, 0, none⟩) :: jk u 5 10 (.slice A0 (List.length a0) k0 :: .int .i64 (List.length a0 : Int) :: .int .i64 ((j + 1 : Nat) : Int) :: jk u 18 9 []))) (by kernel_rfl) fun u2 => ?_
      exact ⟨fun W3 S3 => ih (j + 1) (t ++ y) u2 W3 hd' (by omega) (below_of hbl3 S3.below hbl3.size) (bld_up (.inr hb2) S3.below) h⟩
theorem C.l_FnExactSignsText {fu : Nat} {a0 : (List Sign)} {A0 : Option Addr} {k0 : Nat} {r : Bool} (w : World) (h : X.l_FnExactSignsText fu a0 = some r) (h0 : RdT nSign w (.slice A0 (List.length a0) k0) a0) : Calls prog 5 #[.slice A0 (List.length a0) k0] w (Ret w (.bool r)) := by
  refine calls (M := no) (args := [.slice A0 (List.length a0) k0]) func5 rfl ?_
  replace h : H (X.l_FnExactSignsText fu a0) (fun o => o = r) := H.mk h
  unfold X.l_FnExactSignsText at h
  refine c_seq ?_
  refine r_start ?_
  refine p 1 ?_
  refine rend ?_
  refine c_seq ?_
  refine r_start ?_
  refine p 1 ?_
  refine rend ?_
  refine c_seq ?_
  refine r_start ?_
  refine p 2 ?_
  obtain ⟨v2_2, hv2_2, h⟩ := H.call h
  refine xq rfl (y_call [.slice A0 (List.length a0) k0, .int .i64 1048576] (.int .i64 v2_2) func22 (fun W S => C.l_szSignS W hv2_2 ((s_arg h0).out W S))) ?_
  refine p 1 ?_
  refine rend ?_
  refine c_seq ?_
  refine c_seq ?_
  refine r_start ?_
  refine p 2 ?_
  refine rend ?_
  refine c_or (decide (v2_2 < 0)) (fun q1 => ?_) (fun q1 => ?_)
  · replace h := H.t q1 h
    refine c_seq ?_
    refine r_start ?_
    refine p 1 ?_
    refine rend ?_
    replace h := H.done h
    subst h
    exact ret func5 rfl (vs := [.bool true]) (.tmp (by kernel_rfl) .nil) rfl (fun W S => ⟨rfl, S.below⟩)
  replace h := H.f q1 h
  refine c_skip ?_
  refine c_seq ?_
  refine r_start ?_
  refine p 1 ?_
  obtain ⟨v5_1, hv5_1, h⟩ := H.call h
  refine xx rfl (e_cr [.slice A0 (List.length a0) k0] (fun v => v) func24 (fun W S => C.l_toSignS W hv5_1 ((s_arg h0).out W S)) fun A5_1 k5_1 => ?_)
  obtain ⟨v5_2, hv5_2, h⟩ := H.call h
  refine xq rfl (y_call [.slice A5_1 (List.length v5_1) k5_1] (.tuple #[.string (bs v5_2.1), .bool v5_2.2]) func23 (fun W S => C.s_SignsText W hv5_2 ((s_own 0).out W S))) ?_
  refine p 5 ?_
  refine rend ?_
  refine c_seq ?_
  refine r_start ?_
  refine p 1 ?_
  obtain ⟨v6_1, hv6_1, h⟩ := H.call h
  refine xx rfl (e_cr [.slice A0 (List.length a0) k0] (fun v => v) func24 (fun W S => C.l_toSignS W hv6_1 ((s_arg h0).out W S)) fun A6_1 k6_1 => ?_)
  refine p 1 ?_
  refine rend ?_
  refine c_seq ?_
  refine r_start ?_
  refine p 1 ?_
  obtain ⟨v7_1, hv7_1, h⟩ := H.call h
  refine xq rfl (y_call [.slice A6_1 (List.length v6_1) k6_1] (.tuple #[.string (bs v7_1.1), .bool v7_1.2]) func25 (fun W S => C.i_SignsText W hv7_1 ((s_own 1).out W S))) ?_
  refine p 5 ?_
  refine rend ?_
  refine c_seq ?_
  refine c_seq ?_
  refine r_start ?_
  refine p 4 ?_
  refine br (!seq v7_1.1 v5_2.1) (fun q2 => ?_) (fun q2 => ?_)
  · replace h := H.t q2 h
    refine o_set 30 (congrArg Value.bool q2) ?_
    refine p 4 ?_
    refine rend ?_
    refine c_t (by kernel_rfl) ?_
    refine c_seq ?_
    refine r_start ?_
    refine p 1 ?_
    refine rend ?_
    replace h := H.done h
    subst h
    exact ret func5 rfl (vs := [.bool false]) (.tmp (by kernel_rfl) .nil) rfl (fun W S => ⟨rfl, S.below⟩)
  replace h := H.f q2 h
  refine o_set 30 (congrArg Value.bool q2) ?_
  refine p 4 ?_
  refine rend ?_
  refine c_or (!(v7_1.2 == v5_2.2)) (fun q3 => ?_) (fun q3 => ?_)
  · replace h := H.t q3 h
    refine c_seq ?_
    refine r_start ?_
    refine p 1 ?_
    refine rend ?_
    replace h := H.done h
    subst h
    exact ret func5 rfl (vs := [.bool false]) (.tmp (by kernel_rfl) .nil) rfl (fun W S => ⟨rfl, S.below⟩)
  replace h := H.f q3 h
  refine c_skip ?_
  refine c_seq ?_
  refine c_seq ?_
  refine r_start ?_
  refine p 2 ?_
  obtain ⟨v10_2, hv10_2, h⟩ := H.call h
  refine xx rfl (e_cr [.slice A0 (List.length a0) k0] (fun v => v) func24 (fun W S => C.l_toSignS W hv10_2 ((s_arg h0).out W S)) fun A10_2 k10_2 => ?_)
  obtain ⟨v10_3, hv10_3, h⟩ := H.call h
  refine xq rfl (y_call [.slice A6_1 (List.length v6_1) k6_1, .slice A10_2 (List.length v10_2) k10_2] (.bool v10_3) func26 (fun W S => C.l_eqSignS W hv10_3 ((s_own 1).out W S) ((s_own 2).out W S))) ?_
  refine p 1 ?_
  refine rend ?_
  refine c_or (!v10_3) (fun q4 => ?_) (fun q4 => ?_)
  · replace h := H.t q4 h
    refine c_seq ?_
    refine r_start ?_
    refine p 1 ?_
    refine rend ?_
    replace h := H.done h
    subst h
    exact ret func5 rfl (vs := [.bool false]) (.tmp (by kernel_rfl) .nil) rfl (fun W S => ⟨rfl, S.below⟩)
  replace h := H.f q4 h
  refine c_skip ?_
  refine c_seq ?_
  refine r_start ?_
  refine p 1 ?_
  refine rend ?_
  replace h := H.done h
  subst h
  exact ret func5 rfl (vs := [.bool true]) (.tmp (by kernel_rfl) .nil) rfl (fun W S => ⟨rfl, S.below⟩)
end Go.Proofs.XC
