/- Contracts: each function, called where its plain function gives an answer, returns just that answer and changes nothing that was there. By AI agents; no person has read it. -/
import Derived.Test.YtkckmehkialgjaaGreatDoorC1
set_option linter.unusedVariables false
set_option linter.unusedSimpArgs false
set_option maxRecDepth 100000
set_option maxHeartbeats 40000000
namespace Go.Proofs.XC
open Go Go.RowKit
open Tryz
theorem C.s_noFind {a0 : (List Sign)} {A0 : Option Addr} {k0 : Nat} {a1 : Sign} {r : Int} (w : World) (h : X.s_noFind a0 a1 = some r) (h0 : RdT nSign w (.slice A0 (List.length a0) k0) a0) : Calls prog 57 #[.slice A0 (List.length a0) k0, .agg (eSign a1).toArray] w (Ret w (.int .i64 r)) := by
  refine calls (M := no) (args := [.slice A0 (List.length a0) k0, .agg (eSign a1).toArray]) func57 rfl ?_
  replace h : H (X.s_noFind a0 a1) (fun o => o = r) := H.mk h
  unfold X.s_noFind at h
  refine c_seq ?_
  refine r_start ?_
  refine xx rfl (x_box (eSign a1) fun g0_0 => ?_)
  refine p 1 ?_
  refine rend ?_
  refine c_seq ?_
  refine c_seq ?_
  refine r_start ?_
  refine p 3 ?_
  refine rend ?_
  refine c_block ?_
  refine joinE (X := Unit) 0 (H.or h) (fun (x : Unit) => x) (fun _ => [box g0_0 47 (eSign a1)]) (fun _ u => (jk u 0 19 [])) (fun h hj1 => ?_) ?_
  · skip
    refine rangeR (X := Unit) (s_arg h0) (fun (x : Unit) => x) (fun _ => [box g0_0 47 (eSign a1)]) (fun (j2 : Nat) _ u => (jk u 0 3 (.pointer (some ⟨g0_0, 0, none⟩) :: (jk u 4 3 (.slice A0 (List.length a0) k0 :: .int .i64 (List.length a0 : Int) :: .int .i64 (j2 : Int) :: (jk u 10 9 [])))))) () h (by kernel_rfl) (by kernel_rfl) ?_ ?_
    · intro j2 x u x3 q4 hg5 hw6 h
      refine c_seq ?_
      refine r_start ?_
      refine p 1 ?_
      refine rend ?_
      refine c_seq ?_
      refine c_yes q4 ?_
      refine c_skip ?_
      refine c_seq ?_
      refine c_block ?_
      refine c_seq ?_
      refine r_start ?_
      refine p 1 ?_
      refine xq rfl (y_idx (e := nSign) (el := 47) hg5 (s_arg h0)) ?_
      refine xq rfl (y_el (e := nSign) 0 (.agg (eSign x3).toArray) hg5 (s_arg h0)) ?_
      refine xx rfl (x_new (eSign zSign) fun g3_3 => ?_)
      refine p 1 ?_
      refine xx rfl (x_sto 1 g3_3 0 (eSign x3) ?_)
      refine rend ?_
      refine c_seq ?_
      refine r_start ?_
      refine xq rfl (y_load (.agg (eSign x3).toArray) 1 g3_3 0) ?_
      refine xq rfl (y_load (.agg (eSign a1).toArray) 0 g0_0 0) ?_
      refine p 1 ?_
      refine rend ?_
      refine c_or (qSign x3 a1) (fun q7 => ?_) (fun q7 => ?_)
      · replace h := H.t q7 h
        refine c_seq ?_
        refine r_start ?_
        refine p 2 ?_
        refine rend ?_
        replace h := H.inr h
        replace h := H.done h
        subst h
        exact ret func57 rfl (vs := [.int .i64 (j2 : Int)]) (.tmp (by kernel_rfl) .nil) rfl (fun W S => ⟨rfl, S.below⟩)
      replace h := H.f q7 h
      refine c_skip ?_
      refine c_inb ?_
      refine r_start ?_
      refine p 2 ?_
      refine rend ?_
      refine c_set 9 (ci hw6) ?_
      replace h := H.inl h
      exact h () _ _ rfl (by kernel_rfl) (by kernel_rfl)
    · intro x u q4 h
      refine c_seq ?_
      refine r_start ?_
      refine p 1 ?_
      refine rend ?_
      refine c_seq ?_
      refine c_no q4 ?_
      refine cx ?_
      replace h := H.done h
      exact hj1 () _ _ h (by kernel_rfl) (by kernel_rfl)
  intro x u h
  refine c_seq ?_
  refine r_start ?_
  refine p 1 ?_
  refine rend ?_
  replace h := H.done h
  subst h
  exact ret func57 rfl (vs := [.int .i64 (-1)]) (.tmp (by kernel_rfl) .nil) rfl (fun W S => ⟨rfl, S.below⟩)
theorem C.s_SameGroups {fu : Nat} {a0 : (List Sign)} {A0 : Option Addr} {k0 : Nat} {r : ((List (List Int)) × Bool)} (w : World) (h : X.s_SameGroups fu a0 = some r) (h0 : RdT nSign w (.slice A0 (List.length a0) k0) a0) : Calls prog 24 #[.slice A0 (List.length a0) k0] w (RetD (eI .i64) 52 3 w r.1 (fun v => .tuple #[v, .bool r.2])) := by
  refine calls (M := no) (args := [.slice A0 (List.length a0) k0]) func24 rfl ?_
  replace h : H (X.s_SameGroups fu a0) (fun o => o = r) := H.mk h
  unfold X.s_SameGroups at h
  refine c_seq ?_
  refine r_start ?_
  refine p 2 ?_
  refine rend ?_
  refine c_seq ?_
  refine c_seq ?_
  refine r_start ?_
  refine p 1 ?_
  obtain ⟨v1_1, hv1_1, h⟩ := H.call h
  refine xq rfl (y_call [.slice A0 (List.length a0) k0] (.bool v1_1) func56 (fun W S => C.s_noList W hv1_1 ((s_arg h0).out W S))) ?_
  refine p 1 ?_
  refine rend ?_
  refine c_or (!v1_1) (fun q1 => ?_) (fun q1 => ?_)
  · replace h := H.t q1 h
    refine c_seq ?_
    refine r_start ?_
    refine p 2 ?_
    refine rend ?_
    replace h := H.done h
    subst h
    exact ret func24 rfl (vs := [.slice none 0 0, .bool false]) (.tmp (by kernel_rfl) (.tmp (by kernel_rfl) .nil)) rfl (fun W S => ⟨none, 0, [], rfl, World.ownsRow_nil _ _ _ _, Inn.nil _ _ _ _, (fun k hk => by cases hk), (fun k ⟨_, hk, _⟩ => by cases hk), S.below⟩)
  replace h := H.f q1 h
  refine c_skip ?_
  refine c_seq ?_
  refine r_start ?_
  refine p 1 ?_
  refine rend ?_
  refine c_seq ?_
  refine r_start ?_
  refine p 1 ?_
  refine rend ?_
  refine c_seq ?_
  refine c_seq ?_
  refine r_start ?_
  refine p 3 ?_
  refine rend ?_
  refine c_block ?_
  refine c_nil nSign 47 ?_
  refine c_nil eSl 52 ?_
  refine c_inn (eI .i64) 3 ?_
  refine joinH (X := ((List Sign) × (List (List Int)) × Option Addr × Nat × List Sl × Option Addr × Nat)) 0 (H.bnd h) (fun ⟨l9, l15, A10, k11, u12, A13, k14⟩ => (l9, l15)) (fun ⟨l9, l15, A10, k11, u12, A13, k14⟩ => [rowT nSign w.heap.size 47 (.slice A10 (List.length l9) k11) l9, rowT eSl w.heap.size 52 (.slice A13 (List.length u12) k14) u12, inns (eI .i64) w.heap.size 3 u12 l15]) (fun ⟨l9, l15, A10, k11, u12, A13, k14⟩ u => (jk u 0 5 (.slice A13 (List.length u12) k14 :: (jk u 6 41 [])))) (fun h hj16 => ?_) ?_
  · skip
    refine rangeR (X := ((List Sign) × (List (List Int)) × Option Addr × Nat × List Sl × Option Addr × Nat)) (s_arg h0) (fun ⟨l2, l8, A3, k4, u5, A6, k7⟩ => (l2, l8)) (fun ⟨l2, l8, A3, k4, u5, A6, k7⟩ => [rowT nSign w.heap.size 47 (.slice A3 (List.length l2) k4) l2, rowT eSl w.heap.size 52 (.slice A6 (List.length u5) k7) u5, inns (eI .i64) w.heap.size 3 u5 l8]) (fun (j17 : Nat) ⟨l2, l8, A3, k4, u5, A6, k7⟩ u => (jk u 0 4 (.slice A3 (List.length l2) k4 :: .slice A6 (List.length u5) k7 :: (jk u 6 6 (.slice A0 (List.length a0) k0 :: .int .i64 (List.length a0 : Int) :: .int .i64 (j17 : Int) :: (jk u 15 32 [])))))) (([] : List Sign), ([] : List (List Int)), none, 0, ([] : List Sl), none, 0) h (by kernel_rfl) (by kernel_rfl) ?_ ?_
    · intro j17 x u x18 q19 hg20 hw21 h
      obtain ⟨l2, l8, A3, k4, u5, A6, k7⟩ := x
      refine c_seq ?_
      refine r_start ?_
      refine p 1 ?_
      refine rend ?_
      refine c_seq ?_
      refine c_yes q19 ?_
      refine c_skip ?_
      refine c_seq ?_
      refine c_block ?_
      refine c_seq ?_
      refine r_start ?_
      refine p 1 ?_
      refine xq rfl (y_idx (e := nSign) (el := 47) hg20 (s_arg h0)) ?_
      refine xq rfl (y_el (e := nSign) 0 (.agg (eSign x18).toArray) hg20 (s_arg h0)) ?_
      refine xx rfl (x_new (eSign zSign) fun g7_3 => ?_)
      refine p 1 ?_
      refine xx rfl (x_sto 3 g7_3 0 (eSign x18) ?_)
      refine rend ?_
      refine c_seq ?_
      refine r_start ?_
      refine p 1 ?_
      refine xq rfl (y_load (.agg (eSign x18).toArray) 3 g7_3 0) ?_
      obtain ⟨v8_2, hv8_2, h⟩ := H.call h
      refine xq rfl (y_call [.agg (eSign x18).toArray] (.agg (eSign v8_2).toArray) func58 (fun W S => C.s_noForm W hv8_2)) ?_
      obtain ⟨v8_3, hv8_3, h⟩ := H.call h
      refine xq rfl (y_call [.slice A3 (List.length l2) k4, .agg (eSign v8_2).toArray] (.int .i64 v8_3) func57 (fun W S => C.s_noFind W hv8_3 ((s_own 0).out W S))) ?_
      refine p 1 ?_
      refine rend ?_
      refine c_seq ?_
      refine c_seq ?_
      refine r_start ?_
      refine p 2 ?_
      refine rend ?_
      refine c_or (decide (v8_3 < 0)) (fun q22 => ?_) (fun q22 => ?_)
      · replace h := H.t q22 h
        refine c_seq ?_
        refine r_start ?_
        refine p 1 ?_
        refine xq rfl (y_load (.agg (eSign x18).toArray) 3 g7_3 0) ?_
        obtain ⟨v10_2, hv10_2, h⟩ := H.call h
        refine xq rfl (y_call [.agg (eSign x18).toArray] (.agg (eSign v10_2).toArray) func58 (fun W S => C.s_noForm W hv10_2)) ?_
        refine xx rfl (e_lit (e := nSign) (el := 47) [.agg (eSign v10_2).toArray] ([v10_2] : List Sign) fun A10_3 k10_3 => ?_)
        obtain ⟨y10_4, hy10_4, h⟩ := H.call h
        refine xx rfl (e_app 0 hy10_4 (s_own 4) fun A10_4 k10_4 => ?_)
        refine p 1 ?_
        refine rend ?_
        refine c_seq ?_
        refine r_start ?_
        refine p 2 ?_
        refine xx rfl (e_lit (e := (eI .i64)) (el := 3) [.int .i64 (j17 : Int)] ([(j17 : Int)] : List Int) fun A11_2 k11_2 => ?_)
        refine xx rfl (e_lit (e := eSl) (el := 52) [.slice A11_2 (List.length ([(j17 : Int)] : List Int)) k11_2] ([⟨A11_2, List.length ([(j17 : Int)] : List Int), k11_2⟩] : List Sl) fun A11_3 k11_3 => ?_)
        obtain ⟨y11_4, hy11_4, h⟩ := H.call h
        refine o_fact (f_len (i_own 2)) fun hl11_4 => ?_
        obtain ⟨ha11_4, hq11_4⟩ := appD_sl (ws := ([⟨A11_2, List.length ([(j17 : Int)] : List Int), k11_2⟩] : List Sl)) hy11_4 hl11_4 rfl
        refine xx rfl (e_app 1 ha11_4 (s_own 6) fun A11_4 k11_4 => ?_)
        refine p 1 ?_
        refine rend ?_
        refine absorbE (e := (eI .i64)) (B := w.heap.size) (t := 3) (A := A11_2) (c := k11_2) (l := ([(j17 : Int)] : List Int)) (us := u5) [0, 1, 3, 4, 5, 2] [rowT nSign w.heap.size 47 (.slice A10_4 (List.length y10_4) k10_4) y10_4, rowT eSl w.heap.size 52 (.slice A11_4 (List.length (u5 ++ ([⟨A11_2, List.length ([(j17 : Int)] : List Int), k11_2⟩] : List Sl))) k11_4) (u5 ++ ([⟨A11_2, List.length ([(j17 : Int)] : List Int), k11_2⟩] : List Sl)), box g7_3 47 (eSign x18), rowT nSign w.heap.size 47 (.slice A10_3 (List.length ([v10_2] : List Sign)) k10_3) ([v10_2] : List Sign)] hq11_4 ?_
        refine cx ?_
        refine r_start ?_
        refine p 2 ?_
        refine rend ?_
        refine pick [0, 1, 4] [rowT nSign w.heap.size 47 (.slice A10_4 (List.length y10_4) k10_4) y10_4, rowT eSl w.heap.size 52 (.slice A11_4 (List.length (u5 ++ ([⟨A11_2, List.length ([(j17 : Int)] : List Int), k11_2⟩] : List Sl))) k11_4) (u5 ++ ([⟨A11_2, List.length ([(j17 : Int)] : List Int), k11_2⟩] : List Sl)), inns (eI .i64) w.heap.size 3 (u5 ++ ([⟨A11_2, List.length ([(j17 : Int)] : List Int), k11_2⟩] : List Sl)) y11_4] ?_
        refine c_set 14 (ci hw21) ?_
        replace h := H.inl h
        exact h (y10_4, y11_4, A10_4, k10_4, (u5 ++ ([⟨A11_2, List.length ([(j17 : Int)] : List Int), k11_2⟩] : List Sl)), A11_4, k11_4) _ _ rfl (by kernel_rfl) (by kernel_rfl)
      replace h := H.f q22 h
      refine c_skip ?_
      refine r_start ?_
      refine p 4 ?_
      obtain ⟨y12_4, hy12_4, h⟩ := H.call h
      refine o_fact (f_len (i_own 2)) fun hl12_4 => ?_
      obtain ⟨s12_4, hs12_4⟩ := getI_both hl12_4 hy12_4
      refine xq rfl (y_idx (e := eSl) (el := 52) hs12_4 (s_own 1)) ?_
      refine xq rfl (y_el (e := eSl) 0 (.slice s12_4.A s12_4.n s12_4.c) hs12_4 (s_own 1)) ?_
      refine o_fact (f_n (i_own 2) hs12_4 hy12_4) fun he12_5 => ?_
      refine o_set 40 (sl_n he12_5) ?_
      refine p 1 ?_
      refine xx rfl (e_lit (e := (eI .i64)) (el := 3) [.int .i64 (j17 : Int)] ([(j17 : Int)] : List Int) fun A12_7 k12_7 => ?_)
      obtain ⟨y12_8, hy12_8, h⟩ := H.call h
      refine xx rfl (e_appI 2 hs12_4 hy12_4 hy12_8 (Nat.le_refl _) (s_own 4) fun A12_8 k12_8 => ?_)
      refine xq rfl (y_idx (e := eSl) (el := 52) hs12_4 (s_own 1)) ?_
      refine xx rfl (e_stel (e := eSl) (b := (⟨A12_8, List.length y12_8, k12_8⟩ : Sl)) 1 0 ([.slice A12_8 (List.length y12_8) k12_8]) hs12_4 (by kernel_rfl) ?_)
      refine o_set 5 (sl_set (A := A6) (c := k7) (l := u5) (n := Int.toNat v8_3) (b := (⟨A12_8, List.length y12_8, k12_8⟩ : Sl))) ?_
      refine rend ?_
      refine c_inb ?_
      refine r_start ?_
      refine p 2 ?_
      refine rend ?_
      refine c_set 14 (ci hw21) ?_
      replace h := H.inl h
      exact h (l2, (List.set l8 (Int.toNat v8_3) y12_8), A3, k4, (List.set u5 (Int.toNat v8_3) ⟨A12_8, List.length y12_8, k12_8⟩), A6, k7) _ _ rfl (by kernel_rfl) (by kernel_rfl)
    · intro x u q19 h
      obtain ⟨l2, l8, A3, k4, u5, A6, k7⟩ := x
      refine c_seq ?_
      refine r_start ?_
      refine p 1 ?_
      refine rend ?_
      refine c_seq ?_
      refine c_no q19 ?_
      refine cx ?_
      replace h := H.done h
      exact hj16 (l2, l8, A3, k4, u5, A6, k7) _ _ h (by kernel_rfl) (by kernel_rfl)
  intro x u h
  obtain ⟨l9, l15, A10, k11, u12, A13, k14⟩ := x
  refine c_seq ?_
  refine r_start ?_
  refine p 3 ?_
  refine rend ?_
  replace h := H.done h
  subst h
  exact ret func24 rfl (vs := [.slice A13 (List.length u12) k14, .bool true]) (.tmp (by kernel_rfl) (.tmp (by kernel_rfl) .nil)) rfl (fun W S => S.retD (res := fun v => .tuple #[v, .bool true]) 1 2 (by decide))
theorem C.slices_IndexFunc_Rint_int {a0 : (List (List Int))} {us0 : List Sl} {A0 : Option Addr} {k0 : Nat} {a1 : ((List Int) → Option Bool)} {g1 : Nat} {cp1 : List Value} {r : Int} (w : World) (h : X.slices_IndexFunc_Rint_int a0 a1 = some r) (h0 : RdT eSl w (.slice A0 (List.length us0) k0) us0) (i0 : RdI (eI .i64) w us0 a0) (hg1 : isFn prog g1 = true) (hF1 : ∀ (x0 : List Int) (x0A : Option Addr) (x0k : Nat) (r : Bool) (W : World), Up w W → RdT (eI .i64) W (.slice x0A (List.length x0) x0k) x0 → a1 x0 = some r → Calls prog g1 (([.slice x0A (List.length x0) x0k] : List Value) ++ cp1).toArray W (Ret W (.bool r))) : Calls prog 59 #[.slice A0 (List.length us0) k0, .func (.func g1) #[] cp1.toArray] w (Ret w (.int .i64 r)) := by
  refine calls (M := no) (args := [.slice A0 (List.length us0) k0, .func (.func g1) #[] cp1.toArray]) func59 rfl ?_
  replace h : H (X.slices_IndexFunc_Rint_int a0 a1) (fun o => o = r) := H.mk h
  unfold X.slices_IndexFunc_Rint_int at h
  refine c_seq ?_
  refine r_start ?_
  refine p 1 ?_
  refine rend ?_
  refine c_seq ?_
  refine c_seq ?_
  refine r_start ?_
  refine p 1 ?_
  refine p 1 ?_
  refine o_fact (f_len (i_arg i0)) fun hl1_1 => ?_
  refine o_set 7 (len_sl hl1_1) ?_
  refine p 1 ?_
  refine rend ?_
  refine c_block ?_
  refine joinE (X := Unit) 0 (H.or h) (fun (x : Unit) => x) (fun _ => []) (fun _ u => (jk u 0 19 [])) (fun h hj1 => ?_) ?_
  · skip
    refine rangeRD (X := Unit) (s_arg h0) (i_arg i0) (fun (x : Unit) => x) (fun _ => []) (fun (j2 : Nat) _ u => (.slice A0 (List.length us0) k0 :: .func (.func g1) #[] cp1.toArray :: (jk u 2 5 (.int .i64 (List.length a0 : Int) :: .int .i64 (j2 : Int) :: (jk u 9 10 []))))) () h (by kernel_rfl) (by kernel_rfl) ?_ ?_
    · intro j2 x u x3 q4 hg5 hw6 h
      refine c_seq ?_
      refine r_start ?_
      refine p 1 ?_
      refine rend ?_
      refine c_seq ?_
      refine c_yes q4 ?_
      refine c_skip ?_
      refine c_seq ?_
      refine c_block ?_
      refine c_seq ?_
      refine r_start ?_
      refine p 2 ?_
      refine rend ?_
      refine c_seq ?_
      refine r_start ?_
      refine p 3 ?_
      refine o_fact (f_len (i_arg i0)) fun hl4_3 => ?_
      obtain ⟨s4_3, hs4_3⟩ := getI_both hl4_3 hg5
      refine xq rfl (y_idx (e := eSl) (el := 52) hs4_3 (s_arg h0)) ?_
      refine xq rfl (y_el (e := eSl) 0 (.slice s4_3.A s4_3.n s4_3.c) hs4_3 (s_arg h0)) ?_
      refine o_fact (f_n (i_arg i0) hs4_3 hg5) fun he4_4 => ?_
      refine o_set 15 (sl_n he4_4) ?_
      obtain ⟨v4_5, hv4_5, h⟩ := H.call h
      refine xq rfl (y_cf cp1 [.slice s4_3.A (List.length x3) s4_3.c] (.bool v4_5) hg1 (fun W S => hF1 _ _ _ _ W S.below ((s_in (i_arg i0) hs4_3 hg5).out W S) hv4_5)) ?_
      refine rend ?_
      refine c_or v4_5 (fun q7 => ?_) (fun q7 => ?_)
      · replace h := H.t q7 h
        refine c_seq ?_
        refine r_start ?_
        refine p 2 ?_
        refine rend ?_
        replace h := H.inr h
        replace h := H.done h
        subst h
        exact ret func59 rfl (vs := [.int .i64 (j2 : Int)]) (.tmp (by kernel_rfl) .nil) rfl (fun W S => ⟨rfl, S.below⟩)
      replace h := H.f q7 h
      refine c_skip ?_
      refine c_inb ?_
      refine r_start ?_
      refine p 2 ?_
      refine rend ?_
      refine c_set 8 (ci hw6) ?_
      replace h := H.inl h
      exact h () _ _ rfl (by kernel_rfl) (by kernel_rfl)
    · intro x u q4 h
      refine c_seq ?_
      refine r_start ?_
      refine p 1 ?_
      refine rend ?_
      refine c_seq ?_
      refine c_no q4 ?_
      refine cx ?_
      replace h := H.done h
      exact hj1 () _ _ h (by kernel_rfl) (by kernel_rfl)
  intro x u h
  refine c_seq ?_
  refine r_start ?_
  refine p 1 ?_
  refine rend ?_
  replace h := H.done h
  subst h
  exact ret func59 rfl (vs := [.int .i64 (-1)]) (.tmp (by kernel_rfl) .nil) rfl (fun W S => ⟨rfl, S.below⟩)
theorem C.i_SameGroups_1 {fu : Nat} {a0 : (List Int)} {A0 : Option Addr} {k0 : Nat} {a1 : (List Sign)} {A1 : Option Addr} {k1 : Nat} {p1 : Nat} {a2 : Sign} {p2 : Nat} {r : Bool} (w : World) (h : X.i_SameGroups_1 fu a1 a2 a0 = some r) (h0 : RdT (eI .i64) w (.slice A0 (List.length a0) k0) a0) (h1 : RdT nSign w (.slice A1 (List.length a1) k1) a1) (hp1 : w.heap[p1]? = some (.cells ([.slice A1 (List.length a1) k1] : List Value).toArray 55 (0, 0))) (hp2 : w.heap[p2]? = some (.cells (eSign a2 : List Value).toArray 47 (0, 0))) : Calls prog 60 #[.slice A0 (List.length a0) k0, .pointer (some ⟨p1, 0, none⟩), .pointer (some ⟨p2, 0, none⟩)] w (Ret w (.bool r)) := by
  refine calls (M := no) (args := [.slice A0 (List.length a0) k0, .pointer (some ⟨p1, 0, none⟩), .pointer (some ⟨p2, 0, none⟩)]) func60 rfl ?_
  replace h : H (X.i_SameGroups_1 fu a1 a2 a0) (fun o => o = r) := H.mk h
  unfold X.i_SameGroups_1 at h
  refine c_seq ?_
  refine r_start ?_
  refine p 1 ?_
  refine rend ?_
  refine c_seq ?_
  refine as_start 11 11 ?_
  refine aq 0 rfl (y_ld0 (.slice A1 (List.length a1) k1) p1 0 hp1) ?_
  refine ap 1 1 ?_
  obtain ⟨y1_2, hy1_2, h⟩ := H.call h
  refine aq 2 rfl (y_idx (e := (eI .i64)) (el := 3) hy1_2 (s_arg h0)) ?_
  refine aq 3 rfl (y_el (e := (eI .i64)) 0 (.int .i64 y1_2) hy1_2 (s_arg h0)) ?_
  obtain ⟨y1_4, hy1_4, h⟩ := H.call h
  refine aq 4 rfl (y_idx (e := nSign) (el := 47) hy1_4 (s_arg h1)) ?_
  refine aq 5 rfl (y_el (e := nSign) 0 (.agg (eSign y1_4).toArray) hy1_4 (s_arg h1)) ?_
  obtain ⟨v1_6, hv1_6, h⟩ := H.call h
  refine aq 6 rfl (y_call [.agg (eSign y1_4).toArray] (.agg (eSign v1_6).toArray) func61 (fun W S => C.i_Sign_normal W hv1_6)) ?_
  refine aq 7 rfl (y_ld0 (.agg (eSign a2).toArray) p2 0 hp2) ?_
  obtain ⟨v1_8, hv1_8, h⟩ := H.call h
  refine aq 8 rfl (y_call [.agg (eSign a2).toArray] (.agg (eSign v1_8).toArray) func61 (fun W S => C.i_Sign_normal W hv1_8)) ?_
  refine ap 9 2 ?_
  refine a_done ?_
  replace h := H.done h
  subst h
  exact ret func60 rfl (vs := [.bool (qSign v1_6 v1_8)]) (.tmp (by kernel_rfl) .nil) rfl (fun W S => ⟨rfl, S.below⟩)
theorem C.i_SameGroups {fu : Nat} {a0 : (List Sign)} {A0 : Option Addr} {k0 : Nat} {r : ((List (List Int)) × Bool)} (w : World) (h : X.i_SameGroups fu a0 = some r) (h0 : RdT nSign w (.slice A0 (List.length a0) k0) a0) : Calls prog 25 #[.slice A0 (List.length a0) k0] w (RetD (eI .i64) 52 3 w r.1 (fun v => .tuple #[v, .bool r.2])) := by
  refine calls (M := no) (args := [.slice A0 (List.length a0) k0]) func25 rfl ?_
  replace h : H (X.i_SameGroups fu a0) (fun o => o = r) := H.mk h
  unfold X.i_SameGroups at h
  refine c_seq ?_
  refine r_start ?_
  refine xx rfl (x_box [.slice A0 (List.length a0) k0] fun g0_0 => ?_)
  refine p 2 ?_
  refine rend ?_
  refine c_seq ?_
  refine c_seq ?_
  refine r_start ?_
  refine xq rfl (y_load (.slice A0 (List.length a0) k0) 0 g0_0 0) ?_
  obtain ⟨v1_1, hv1_1, h⟩ := H.call h
  refine xq rfl (y_call [.slice A0 (List.length a0) k0, .int .i64 16] (.bool v1_1) func48 (fun W S => C.i_areSigns W hv1_1 ((s_arg h0).out W S))) ?_
  refine p 1 ?_
  refine rend ?_
  refine c_or (!v1_1) (fun q1 => ?_) (fun q1 => ?_)
  · replace h := H.t q1 h
    refine c_seq ?_
    refine r_start ?_
    refine p 2 ?_
    refine rend ?_
    replace h := H.done h
    subst h
    exact ret func25 rfl (vs := [.slice none 0 0, .bool false]) (.tmp (by kernel_rfl) (.tmp (by kernel_rfl) .nil)) rfl (fun W S => ⟨none, 0, [], rfl, World.ownsRow_nil _ _ _ _, Inn.nil _ _ _ _, (fun k hk => by cases hk), (fun k ⟨_, hk, _⟩ => by cases hk), S.below⟩)
  replace h := H.f q1 h
  refine c_skip ?_
  refine c_seq ?_
  refine r_start ?_
  refine p 1 ?_
  refine rend ?_
  refine c_seq ?_
  refine c_seq ?_
  refine r_start ?_
  refine xq rfl (y_load (.slice A0 (List.length a0) k0) 0 g0_0 0) ?_
  refine p 2 ?_
  refine rend ?_
  refine c_block ?_
  refine c_nil eSl 52 ?_
  refine c_inn (eI .i64) 3 ?_
  refine joinH (X := ((List (List Int)) × List Sl × Option Addr × Nat)) 0 (H.bnd h) (fun ⟨l9, u6, A7, k8⟩ => l9) (fun ⟨l9, u6, A7, k8⟩ => [box g0_0 55 [.slice A0 (List.length a0) k0], rowT eSl w.heap.size 52 (.slice A7 (List.length u6) k8) u6, inns (eI .i64) w.heap.size 3 u6 l9]) (fun ⟨l9, u6, A7, k8⟩ u => (jk u 0 4 (.slice A7 (List.length u6) k8 :: (jk u 5 35 [])))) (fun h hj10 => ?_) ?_
  · skip
    refine rangeR (X := ((List (List Int)) × List Sl × Option Addr × Nat)) (s_arg h0) (fun ⟨l5, u2, A3, k4⟩ => l5) (fun ⟨l5, u2, A3, k4⟩ => [box g0_0 55 [.slice A0 (List.length a0) k0], rowT eSl w.heap.size 52 (.slice A3 (List.length u2) k4) u2, inns (eI .i64) w.heap.size 3 u2 l5]) (fun (j11 : Nat) ⟨l5, u2, A3, k4⟩ u => (jk u 0 1 (.pointer (some ⟨g0_0, 0, none⟩) :: (jk u 2 2 (.slice A3 (List.length u2) k4 :: (jk u 5 6 (.slice A0 (List.length a0) k0 :: .int .i64 (List.length a0 : Int) :: .int .i64 (j11 : Int) :: (jk u 14 26 [])))))))) (([] : List (List Int)), ([] : List Sl), none, 0) h (by kernel_rfl) (by kernel_rfl) ?_ ?_
    · intro j11 x u x12 q13 hg14 hw15 h
      obtain ⟨l5, u2, A3, k4⟩ := x
      refine c_seq ?_
      refine r_start ?_
      refine p 1 ?_
      refine rend ?_
      refine c_seq ?_
      refine c_yes q13 ?_
      refine c_skip ?_
      refine c_seq ?_
      refine c_block ?_
      refine c_seq ?_
      refine r_start ?_
      refine p 1 ?_
      refine xq rfl (y_idx (e := nSign) (el := 47) hg14 (s_arg h0)) ?_
      refine xq rfl (y_el (e := nSign) 0 (.agg (eSign x12).toArray) hg14 (s_arg h0)) ?_
      refine xx rfl (x_new (eSign zSign) fun g6_3 => ?_)
      refine p 1 ?_
      refine xx rfl (x_sto 3 g6_3 0 (eSign x12) ?_)
      refine rend ?_
      refine c_seq ?_
      refine r_start ?_
      refine p 2 ?_
      obtain ⟨v7_2, hv7_2, h⟩ := H.call h
      refine xq rfl (y_call [.slice A3 (List.length u2) k4, .func (.func 60) #[] #[.pointer (some ⟨g0_0, 0, none⟩), .pointer (some ⟨g6_3, 0, none⟩)]] (.int .i64 v7_2) func59 (fun W S => C.slices_IndexFunc_Rint_int W hv7_2 ((s_own 1).out W S) ((i_own 2).out W S) (isFn_of func60) (fun x0_2 xA0_2 xk0_2 r W2 hu2 hr0_2 hx2 => C.i_SameGroups_1 W2 hx2 hr0_2 (Rd.up ((s_arg h0).out W S) hu2) (bx_up (S.bx 0) hu2) (bx_up (S.bx 3) hu2)))) ?_
      refine p 1 ?_
      refine rend ?_
      refine c_seq ?_
      refine r_start ?_
      refine p 2 ?_
      refine rend ?_
      refine c_or (decide (v7_2 < 0)) (fun q16 => ?_) (fun q16 => ?_)
      · replace h := H.t q16 h
        refine r_start ?_
        refine p 2 ?_
        refine xx rfl (e_lit (e := (eI .i64)) (el := 3) [.int .i64 (j11 : Int)] ([(j11 : Int)] : List Int) fun A9_2 k9_2 => ?_)
        refine xx rfl (e_lit (e := eSl) (el := 52) [.slice A9_2 (List.length ([(j11 : Int)] : List Int)) k9_2] ([⟨A9_2, List.length ([(j11 : Int)] : List Int), k9_2⟩] : List Sl) fun A9_3 k9_3 => ?_)
        obtain ⟨y9_4, hy9_4, h⟩ := H.call h
        refine o_fact (f_len (i_own 2)) fun hl9_4 => ?_
        obtain ⟨ha9_4, hq9_4⟩ := appD_sl (ws := ([⟨A9_2, List.length ([(j11 : Int)] : List Int), k9_2⟩] : List Sl)) hy9_4 hl9_4 rfl
        refine xx rfl (e_app 1 ha9_4 (s_own 5) fun A9_4 k9_4 => ?_)
        refine p 1 ?_
        refine rend ?_
        refine absorbE (e := (eI .i64)) (B := w.heap.size) (t := 3) (A := A9_2) (c := k9_2) (l := ([(j11 : Int)] : List Int)) (us := u2) [0, 1, 3, 4, 2] [box g0_0 55 [.slice A0 (List.length a0) k0], rowT eSl w.heap.size 52 (.slice A9_4 (List.length (u2 ++ ([⟨A9_2, List.length ([(j11 : Int)] : List Int), k9_2⟩] : List Sl))) k9_4) (u2 ++ ([⟨A9_2, List.length ([(j11 : Int)] : List Int), k9_2⟩] : List Sl)), box g6_3 47 (eSign x12)] hq9_4 ?_
        refine c_inb ?_
        refine r_start ?_
        refine p 2 ?_
        refine rend ?_
        refine pick [0, 1, 3] [box g0_0 55 [.slice A0 (List.length a0) k0], rowT eSl w.heap.size 52 (.slice A9_4 (List.length (u2 ++ ([⟨A9_2, List.length ([(j11 : Int)] : List Int), k9_2⟩] : List Sl))) k9_4) (u2 ++ ([⟨A9_2, List.length ([(j11 : Int)] : List Int), k9_2⟩] : List Sl)), inns (eI .i64) w.heap.size 3 (u2 ++ ([⟨A9_2, List.length ([(j11 : Int)] : List Int), k9_2⟩] : List Sl)) y9_4] ?_
        refine c_set 13 (ci hw15) ?_
        replace h := H.inl h
        exact h (y9_4, (u2 ++ ([⟨A9_2, List.length ([(j11 : Int)] : List Int), k9_2⟩] : List Sl)), A9_4, k9_4) _ _ rfl (by kernel_rfl) (by kernel_rfl)
      replace h := H.f q16 h
      refine r_start ?_
      refine p 4 ?_
      obtain ⟨y10_4, hy10_4, h⟩ := H.call h
      refine o_fact (f_len (i_own 2)) fun hl10_4 => ?_
      obtain ⟨s10_4, hs10_4⟩ := getI_both hl10_4 hy10_4
      refine xq rfl (y_idx (e := eSl) (el := 52) hs10_4 (s_own 1)) ?_
      refine xq rfl (y_el (e := eSl) 0 (.slice s10_4.A s10_4.n s10_4.c) hs10_4 (s_own 1)) ?_
      refine o_fact (f_n (i_own 2) hs10_4 hy10_4) fun he10_5 => ?_
      refine o_set 33 (sl_n he10_5) ?_
      refine p 1 ?_
      refine xx rfl (e_lit (e := (eI .i64)) (el := 3) [.int .i64 (j11 : Int)] ([(j11 : Int)] : List Int) fun A10_7 k10_7 => ?_)
      obtain ⟨y10_8, hy10_8, h⟩ := H.call h
      refine xx rfl (e_appI 2 hs10_4 hy10_4 hy10_8 (Nat.le_refl _) (s_own 4) fun A10_8 k10_8 => ?_)
      refine xq rfl (y_idx (e := eSl) (el := 52) hs10_4 (s_own 1)) ?_
      refine xx rfl (e_stel (e := eSl) (b := (⟨A10_8, List.length y10_8, k10_8⟩ : Sl)) 1 0 ([.slice A10_8 (List.length y10_8) k10_8]) hs10_4 (by kernel_rfl) ?_)
      refine o_set 4 (sl_set (A := A3) (c := k4) (l := u2) (n := Int.toNat v7_2) (b := (⟨A10_8, List.length y10_8, k10_8⟩ : Sl))) ?_
      refine rend ?_
      refine c_inb ?_
      refine r_start ?_
      refine p 2 ?_
      refine rend ?_
      refine c_set 13 (ci hw15) ?_
      replace h := H.inl h
      exact h ((List.set l5 (Int.toNat v7_2) y10_8), (List.set u2 (Int.toNat v7_2) ⟨A10_8, List.length y10_8, k10_8⟩), A3, k4) _ _ rfl (by kernel_rfl) (by kernel_rfl)
    · intro x u q13 h
      obtain ⟨l5, u2, A3, k4⟩ := x
      refine c_seq ?_
      refine r_start ?_
      refine p 1 ?_
      refine rend ?_
      refine c_seq ?_
      refine c_no q13 ?_
      refine cx ?_
      replace h := H.done h
      exact hj10 (l5, u2, A3, k4) _ _ h (by kernel_rfl) (by kernel_rfl)
  intro x u h
  obtain ⟨l9, u6, A7, k8⟩ := x
  refine c_seq ?_
  refine r_start ?_
  refine p 3 ?_
  refine rend ?_
  replace h := H.done h
  subst h
  exact ret func25 rfl (vs := [.slice A7 (List.length u6) k8, .bool true]) (.tmp (by kernel_rfl) (.tmp (by kernel_rfl) .nil)) rfl (fun W S => S.retD (res := fun v => .tuple #[v, .bool true]) 1 2 (by decide))
theorem C.l_eqIntSS {fu : Nat} {a0 : (List (List Int))} {us0 : List Sl} {A0 : Option Addr} {k0 : Nat} {a1 : (List (List Int))} {us1 : List Sl} {A1 : Option Addr} {k1 : Nat} {r : Bool} (w : World) (h : X.l_eqIntSS fu a0 a1 = some r) (h0 : RdT eSl w (.slice A0 (List.length us0) k0) us0) (i0 : RdI (eI .i64) w us0 a0) (h1 : RdT eSl w (.slice A1 (List.length us1) k1) us1) (i1 : RdI (eI .i64) w us1 a1) : Calls prog 26 #[.slice A0 (List.length us0) k0, .slice A1 (List.length us1) k1] w (Ret w (.bool r)) := by
  refine calls (M := no) (args := [.slice A0 (List.length us0) k0, .slice A1 (List.length us1) k1]) func26 rfl ?_
  replace h : H (X.l_eqIntSS fu a0 a1) (fun o => o = r) := H.mk h
  unfold X.l_eqIntSS at h
  refine c_seq ?_
  refine r_start ?_
  refine p 1 ?_
  refine rend ?_
  refine c_seq ?_
  refine c_seq ?_
  refine r_start ?_
  refine p 1 ?_
  refine p 1 ?_
  refine o_fact (f_len (i_arg i0)) fun hl1_1 => ?_
  refine o_set 7 (len_sl hl1_1) ?_
  refine p 1 ?_
  refine p 1 ?_
  refine o_fact (f_len (i_arg i1)) fun hl1_3 => ?_
  refine o_set 9 (len_sl hl1_3) ?_
  refine p 1 ?_
  refine rend ?_
  refine c_or ((List.length a0 : Int) != (List.length a1 : Int)) (fun q1 => ?_) (fun q1 => ?_)
  · replace h := H.t q1 h
    refine c_seq ?_
    refine r_start ?_
    refine p 1 ?_
    refine rend ?_
    replace h := H.done h
    subst h
    exact ret func26 rfl (vs := [.bool false]) (.tmp (by kernel_rfl) .nil) rfl (fun W S => ⟨rfl, S.below⟩)
  replace h := H.f q1 h
  refine c_skip ?_
  refine c_seq ?_
  refine c_seq ?_
  refine r_start ?_
  refine p 1 ?_
  refine rend ?_
  refine c_block ?_
  refine joinE (X := Unit) 0 (H.or h) (fun (x : Unit) => x) (fun _ => []) (fun _ u => (jk u 0 27 [])) (fun h hj3 => ?_) ?_
  · skip
    refine loopR (X := Int) (fun (x : Int) => x) (fun n2 => []) (fun n2 u => (.slice A0 (List.length us0) k0 :: .slice A1 (List.length us1) k1 :: (jk u 2 3 (.int .i64 n2 :: (jk u 6 21 []))))) 0 h (by kernel_rfl) (by kernel_rfl) ?_
    intro n2 u h
    refine c_seq ?_
    refine c_seq ?_
    refine r_start ?_
    refine p 2 ?_
    refine p 1 ?_
    refine o_fact (f_len (i_arg i0)) fun hl4_2 => ?_
    refine o_set 13 (len_sl hl4_2) ?_
    refine p 1 ?_
    refine rend ?_
    refine c_or (decide (n2 < (List.length a0 : Int))) (fun q4 => ?_) (fun q4 => ?_)
    · replace h := H.t q4 h
      refine c_skip ?_
      refine c_seq ?_
      refine c_block ?_
      refine c_seq ?_
      refine as_start 10 10 ?_
      refine ap 0 2 ?_
      obtain ⟨y6_2, hy6_2, h⟩ := H.call h
      refine a_fact (f_len (i_arg i0)) fun hl6_2 => ?_
      obtain ⟨s6_2, hs6_2⟩ := getI_both hl6_2 hy6_2
      refine aq 2 rfl (y_idx (e := eSl) (el := 52) hs6_2 (s_arg h0)) ?_
      refine aq 3 rfl (y_el (e := eSl) 0 (.slice s6_2.A s6_2.n s6_2.c) hs6_2 (s_arg h0)) ?_
      refine a_fact (f_n (i_arg i0) hs6_2 hy6_2) fun he6_3 => ?_
      refine a_set 20 (sl_n he6_3) ?_
      refine ap 4 2 ?_
      obtain ⟨y6_6, hy6_6, h⟩ := H.call h
      refine a_fact (f_len (i_arg i1)) fun hl6_6 => ?_
      obtain ⟨s6_6, hs6_6⟩ := getI_both hl6_6 hy6_6
      refine aq 6 rfl (y_idx (e := eSl) (el := 52) hs6_6 (s_arg h1)) ?_
      refine aq 7 rfl (y_el (e := eSl) 0 (.slice s6_6.A s6_6.n s6_6.c) hs6_6 (s_arg h1)) ?_
      refine a_fact (f_n (i_arg i1) hs6_6 hy6_6) fun he6_7 => ?_
      refine a_set 24 (sl_n he6_7) ?_
      obtain ⟨v6_8, hv6_8, h⟩ := H.call h
      refine aq 8 rfl (y_call [.slice s6_2.A (List.length y6_2) s6_2.c, .slice s6_6.A (List.length y6_6) s6_6.c] (.bool v6_8) func19 (fun W S => C.l_eqIntS W hv6_8 ((s_in (i_arg i0) hs6_2 hy6_2).out W S) ((s_in (i_arg i1) hs6_6 hy6_6).out W S))) ?_
      refine ap 9 1 ?_
      refine a_done ?_
      refine c_or (!v6_8) (fun q5 => ?_) (fun q5 => ?_)
      · replace h := H.t q5 h
        refine c_seq ?_
        refine r_start ?_
        refine p 1 ?_
        refine rend ?_
        replace h := H.inr h
        replace h := H.done h
        subst h
        exact ret func26 rfl (vs := [.bool false]) (.tmp (by kernel_rfl) .nil) rfl (fun W S => ⟨rfl, S.below⟩)
      replace h := H.f q5 h
      refine c_skip ?_
      refine c_inb ?_
      refine r_start ?_
      refine p 3 ?_
      refine rend ?_
      replace h := H.inl h
      exact h (wr (n2 + 1)) _ _ rfl (by kernel_rfl) (by kernel_rfl)
    replace h := H.f q4 h
    refine cx ?_
    replace h := H.inr h
    exact hj3 () _ _ h (by kernel_rfl) (by kernel_rfl)
  intro x u h
  refine c_seq ?_
  refine r_start ?_
  refine p 1 ?_
  refine rend ?_
  replace h := H.done h
  subst h
  exact ret func26 rfl (vs := [.bool true]) (.tmp (by kernel_rfl) .nil) rfl (fun W S => ⟨rfl, S.below⟩)
theorem C.l_markIntSS {fu : Nat} {a0 : (List (List Int))} {us0 : List Sl} {A0 : Option Addr} {k0 B0 : Nat} {a1 : Int} {r : (Int × (List (List Int)))} (w : World) (h : X.l_markIntSS fu a0 a1 = some r) (h0 : RdT eSl w (.slice A0 (List.length us0) k0) us0) (hd : Inn (eI .i64) B0 3 w us0 a0) (hA : ∀ k, (Value.slice A0 (List.length us0) k0).ownBlock = some k → ¬ ∃ s ∈ us0, s.v.ownBlock = some k) : Calls prog 27 #[.slice A0 (List.length us0) k0, .int .i64 a1] w (RetWD (eI .i64) B0 3 us0 w r.2 (.int .i64 r.1)) := by
  refine callsWI (args := [.slice A0 (List.length us0) k0, .int .i64 a1]) hd func27 rfl ?_
  replace h : H (X.l_markIntSS fu a0 a1) (fun o => o = r) := H.mk h
  unfold X.l_markIntSS at h
  refine c_seq ?_
  refine r_start ?_
  refine p 1 ?_
  refine rend ?_
  refine c_seq ?_
  refine c_seq ?_
  refine r_start ?_
  refine p 1 ?_
  refine rend ?_
  refine c_block ?_
  refine joinH (X := (Int × (List (List Int)))) 0 (H.bnd h) (fun (x : (Int × (List (List Int)))) => x) (fun ⟨n4, l5⟩ => [inns (eI .i64) B0 3 us0 l5]) (fun ⟨n4, l5⟩ u => (jk u 0 1 (.int .i64 n4 :: (jk u 2 17 [])))) (fun h hj6 => ?_) ?_
  · skip
    refine loopR (X := (Int × Int × (List (List Int)))) (fun (x : (Int × Int × (List (List Int)))) => x) (fun ⟨n1, n2, l3⟩ => [inns (eI .i64) B0 3 us0 l3]) (fun ⟨n1, n2, l3⟩ u => (.slice A0 (List.length us0) k0 :: .int .i64 n1 :: (jk u 2 3 (.int .i64 n2 :: (jk u 6 13 []))))) (a1, 0, a0) h (by kernel_rfl) (by kernel_rfl) ?_
    intro x u h
    obtain ⟨n1, n2, l3⟩ := x
    refine c_seq ?_
    refine c_seq ?_
    refine r_start ?_
    refine p 2 ?_
    refine p 1 ?_
    refine o_fact (f_len (i_own 0)) fun hl2_2 => ?_
    refine o_set 8 (len_sl hl2_2) ?_
    refine p 1 ?_
    refine rend ?_
    refine c_or (decide (n2 < (List.length l3 : Int))) (fun q7 => ?_) (fun q7 => ?_)
    · replace h := H.t q7 h
      refine c_skip ?_
      refine c_seq ?_
      refine c_block ?_
      refine r_start ?_
      refine p 2 ?_
      obtain ⟨y4_3, hy4_3, h⟩ := H.call h
      refine o_fact (f_len (i_own 0)) fun hl4_2 => ?_
      obtain ⟨s4_2, hs4_2⟩ := getI_both hl4_2 hy4_3
      refine xq rfl (y_idx (e := eSl) (el := 52) hs4_2 (s_argI h0 hA)) ?_
      refine xq rfl (y_el (e := eSl) 0 (.slice s4_2.A s4_2.n s4_2.c) hs4_2 (s_argI h0 hA)) ?_
      refine o_fact (f_n (i_own 0) hs4_2 hy4_3) fun he4_3 => ?_
      refine o_set 15 (sl_n he4_3) ?_
      refine p 1 ?_
      obtain ⟨v4_4, hv4_4, h⟩ := H.call h
      refine xx rfl (e_cwi (e := (eI .i64)) (v := .int .i64 v4_4.1) 0 [.slice s4_2.A (List.length y4_3) s4_2.c, .int .i64 n1] hs4_2 hy4_3 func22 (fun W S => C.l_markIntS W hv4_4 rfl ((S.inn 0).at hs4_2 hy4_3).2) ?_) 
      refine p 1 ?_
      refine rend ?_
      refine c_inb ?_
      refine r_start ?_
      refine p 3 ?_
      refine rend ?_
      replace h := H.inl h
      exact h (v4_4.1, (wr (n2 + 1)), (List.set l3 (Int.toNat n2) v4_4.2)) _ _ rfl (by kernel_rfl) (by kernel_rfl)
    replace h := H.f q7 h
    refine cx ?_
    replace h := H.inr h
    exact hj6 (n1, l3) _ _ h (by kernel_rfl) (by kernel_rfl)
  intro x u h
  obtain ⟨n4, l5⟩ := x
  refine c_seq ?_
  refine r_start ?_
  refine p 2 ?_
  refine rend ?_
  replace h := H.done h
  subst h
  exact ret func27 rfl (vs := [.int .i64 n4]) (.tmp (by kernel_rfl) .nil) rfl (fun W S => S.retWD)
theorem C.l_heldIntSS {fu : Nat} {a0 : (List (List Int))} {us0 : List Sl} {A0 : Option Addr} {k0 : Nat} {a1 : Int} {r : Int} (w : World) (h : X.l_heldIntSS fu a0 a1 = some r) (h0 : RdT eSl w (.slice A0 (List.length us0) k0) us0) (i0 : RdI (eI .i64) w us0 a0) : Calls prog 28 #[.slice A0 (List.length us0) k0, .int .i64 a1] w (Ret w (.int .i64 r)) := by
  refine calls (M := no) (args := [.slice A0 (List.length us0) k0, .int .i64 a1]) func28 rfl ?_
  replace h : H (X.l_heldIntSS fu a0 a1) (fun o => o = r) := H.mk h
  unfold X.l_heldIntSS at h
  refine c_seq ?_
  refine r_start ?_
  refine p 1 ?_
  refine rend ?_
  refine c_seq ?_
  refine c_seq ?_
  refine r_start ?_
  refine p 1 ?_
  refine rend ?_
  refine c_block ?_
  refine joinE (X := Int) 0 (H.or h) (fun (x : Int) => x) (fun n3 => []) (fun n3 u => (jk u 0 1 (.int .i64 n3 :: (jk u 2 19 [])))) (fun h hj4 => ?_) ?_
  · skip
    refine loopR (X := (Int × Int)) (fun (x : (Int × Int)) => x) (fun ⟨n1, n2⟩ => []) (fun ⟨n1, n2⟩ u => (.slice A0 (List.length us0) k0 :: .int .i64 n1 :: (jk u 2 3 (.int .i64 n2 :: (jk u 6 15 []))))) (a1, 0) h (by kernel_rfl) (by kernel_rfl) ?_
    intro x u h
    obtain ⟨n1, n2⟩ := x
    refine c_seq ?_
    refine c_seq ?_
    refine r_start ?_
    refine p 2 ?_
    refine p 1 ?_
    refine o_fact (f_len (i_arg i0)) fun hl2_2 => ?_
    refine o_set 8 (len_sl hl2_2) ?_
    refine p 1 ?_
    refine rend ?_
    refine c_or (decide (n2 < (List.length a0 : Int))) (fun q5 => ?_) (fun q5 => ?_)
    · replace h := H.t q5 h
      refine c_skip ?_
      refine c_seq ?_
      refine c_block ?_
      refine c_seq ?_
      refine r_start ?_
      refine p 2 ?_
      obtain ⟨y4_2, hy4_2, h⟩ := H.call h
      refine o_fact (f_len (i_arg i0)) fun hl4_2 => ?_
      obtain ⟨s4_2, hs4_2⟩ := getI_both hl4_2 hy4_2
      refine xq rfl (y_idx (e := eSl) (el := 52) hs4_2 (s_arg h0)) ?_
      refine xq rfl (y_el (e := eSl) 0 (.slice s4_2.A s4_2.n s4_2.c) hs4_2 (s_arg h0)) ?_
      refine o_fact (f_n (i_arg i0) hs4_2 hy4_2) fun he4_3 => ?_
      refine o_set 15 (sl_n he4_3) ?_
      refine p 1 ?_
      obtain ⟨v4_5, hv4_5, h⟩ := H.call h
      refine xq rfl (y_call [.slice s4_2.A (List.length y4_2) s4_2.c, .int .i64 n1] (.int .i64 v4_5) func23 (fun W S => C.l_heldIntS W hv4_5 ((s_in (i_arg i0) hs4_2 hy4_2).out W S))) ?_
      refine p 1 ?_
      refine rend ?_
      refine c_seq ?_
      refine r_start ?_
      refine p 2 ?_
      refine rend ?_
      refine c_or (decide (v4_5 < 0)) (fun q6 => ?_) (fun q6 => ?_)
      · replace h := H.t q6 h
        refine c_seq ?_
        refine r_start ?_
        refine p 1 ?_
        refine rend ?_
        replace h := H.inr h
        replace h := H.done h
        subst h
        exact ret func28 rfl (vs := [.int .i64 (-1)]) (.tmp (by kernel_rfl) .nil) rfl (fun W S => ⟨rfl, S.below⟩)
      replace h := H.f q6 h
      refine c_skip ?_
      refine c_inb ?_
      refine r_start ?_
      refine p 3 ?_
      refine rend ?_
      replace h := H.inl h
      exact h (v4_5, (wr (n2 + 1))) _ _ rfl (by kernel_rfl) (by kernel_rfl)
    replace h := H.f q5 h
    refine cx ?_
    replace h := H.inr h
    exact hj4 n1 _ _ h (by kernel_rfl) (by kernel_rfl)
  intro n3 u h
  refine c_seq ?_
  refine r_start ?_
  refine p 2 ?_
  refine rend ?_
  replace h := H.done h
  subst h
  exact ret func28 rfl (vs := [.int .i64 n3]) (.tmp (by kernel_rfl) .nil) rfl (fun W S => ⟨rfl, S.below⟩)
theorem C.l_FnExactSameGroups {fu : Nat} {a0 : (List Sign)} {A0 : Option Addr} {k0 : Nat} {r : Bool} (w : World) (h : X.l_FnExactSameGroups fu a0 = some r) (h0 : RdT nSign w (.slice A0 (List.length a0) k0) a0) : Calls prog 6 #[.slice A0 (List.length a0) k0] w (Ret w (.bool r)) := by
  refine calls (M := no) (args := [.slice A0 (List.length a0) k0]) func6 rfl ?_
  replace h : H (X.l_FnExactSameGroups fu a0) (fun o => o = r) := H.mk h
  unfold X.l_FnExactSameGroups at h
  refine c_seq ?_
  refine r_start ?_
  refine p 1 ?_
  refine rend ?_
  refine c_seq ?_
  refine r_start ?_
  refine p 1 ?_
  refine rend ?_
  refine c_seq ?_
  refine r_start ?_
  refine p 2 ?_
  obtain ⟨v2_2, hv2_2, h⟩ := H.call h
  refine xq rfl (y_call [.slice A0 (List.length a0) k0, .int .i64 1048576] (.int .i64 v2_2) func15 (fun W S => C.l_szSignS W hv2_2 ((s_arg h0).out W S))) ?_
  refine p 1 ?_
  refine rend ?_
  refine c_seq ?_
  refine c_seq ?_
  refine r_start ?_
  refine p 2 ?_
  refine rend ?_
  refine c_or (decide (v2_2 < 0)) (fun q1 => ?_) (fun q1 => ?_)
  · replace h := H.t q1 h
    refine c_seq ?_
    refine r_start ?_
    refine p 1 ?_
    refine rend ?_
    replace h := H.done h
    subst h
    exact ret func6 rfl (vs := [.bool true]) (.tmp (by kernel_rfl) .nil) rfl (fun W S => ⟨rfl, S.below⟩)
  replace h := H.f q1 h
  refine c_skip ?_
  refine c_seq ?_
  refine r_start ?_
  refine p 1 ?_
  obtain ⟨v5_1, hv5_1, h⟩ := H.call h
  refine xx rfl (e_cr [.slice A0 (List.length a0) k0] (fun v => v) func17 (fun W S => C.l_toSignS W hv5_1 ((s_arg h0).out W S)) fun A5_1 k5_1 => ?_)
  obtain ⟨v5_2, hv5_2, h⟩ := H.call h
  refine xx rfl (e_crd [.slice A5_1 (List.length v5_1) k5_1] (fun v => .tuple #[v, .bool v5_2.2]) func24 (fun W S => C.s_SameGroups W hv5_2 ((s_own 0).out W S)) fun A5_2 k5_2 u5_2 => ?_)
  refine p 5 ?_
  refine rend ?_
  refine c_seq ?_
  refine r_start ?_
  refine p 1 ?_
  obtain ⟨v6_1, hv6_1, h⟩ := H.call h
  refine xx rfl (e_cr [.slice A0 (List.length a0) k0] (fun v => v) func17 (fun W S => C.l_toSignS W hv6_1 ((s_arg h0).out W S)) fun A6_1 k6_1 => ?_)
  refine p 1 ?_
  refine rend ?_
  refine c_seq ?_
  refine r_start ?_
  refine p 1 ?_
  obtain ⟨v7_1, hv7_1, h⟩ := H.call h
  refine xx rfl (e_crd [.slice A6_1 (List.length v6_1) k6_1] (fun v => .tuple #[v, .bool v7_1.2]) func25 (fun W S => C.i_SameGroups W hv7_1 ((s_own 3).out W S)) fun A7_1 k7_1 u7_1 => ?_)
  refine p 5 ?_
  refine rend ?_
  refine c_seq ?_
  refine c_seq ?_
  refine r_start ?_
  refine p 2 ?_
  obtain ⟨v8_2, hv8_2, h⟩ := H.call h
  refine xq rfl (y_call [.slice A7_1 (List.length u7_1) k7_1, .slice A5_2 (List.length u5_2) k5_2] (.bool v8_2) func26 (fun W S => C.l_eqIntSS W hv8_2 ((s_own 4).out W S) ((i_own 5).out W S) ((s_own 1).out W S) ((i_own 2).out W S))) ?_
  refine p 2 ?_
  refine br (!v8_2) (fun q2 => ?_) (fun q2 => ?_)
  · replace h := H.t q2 h
    refine o_set 36 (congrArg Value.bool q2) ?_
    refine p 4 ?_
    refine rend ?_
    refine c_t (by kernel_rfl) ?_
    refine c_seq ?_
    refine r_start ?_
    refine p 1 ?_
    refine rend ?_
    replace h := H.done h
    subst h
    exact ret func6 rfl (vs := [.bool false]) (.tmp (by kernel_rfl) .nil) rfl (fun W S => ⟨rfl, S.below⟩)
  replace h := H.f q2 h
  refine o_set 36 (congrArg Value.bool q2) ?_
  refine p 4 ?_
  refine rend ?_
  refine c_or (!(v7_1.2 == v5_2.2)) (fun q3 => ?_) (fun q3 => ?_)
  · replace h := H.t q3 h
    refine c_seq ?_
    refine r_start ?_
    refine p 1 ?_
    refine rend ?_
    replace h := H.done h
    subst h
    exact ret func6 rfl (vs := [.bool false]) (.tmp (by kernel_rfl) .nil) rfl (fun W S => ⟨rfl, S.below⟩)
  replace h := H.f q3 h
  refine c_skip ?_
  refine c_seq ?_
  refine c_seq ?_
  refine r_start ?_
  refine p 2 ?_
  obtain ⟨v10_2, hv10_2, h⟩ := H.call h
  refine xx rfl (e_cr [.slice A0 (List.length a0) k0] (fun v => v) func17 (fun W S => C.l_toSignS W hv10_2 ((s_arg h0).out W S)) fun A10_2 k10_2 => ?_)
  obtain ⟨v10_3, hv10_3, h⟩ := H.call h
  refine xq rfl (y_call [.slice A6_1 (List.length v6_1) k6_1, .slice A10_2 (List.length v10_2) k10_2] (.bool v10_3) func20 (fun W S => C.l_eqSignS W hv10_3 ((s_own 3).out W S) ((s_own 6).out W S))) ?_
  refine p 1 ?_
  refine rend ?_
  refine c_or (!v10_3) (fun q4 => ?_) (fun q4 => ?_)
  · replace h := H.t q4 h
    refine c_seq ?_
    refine r_start ?_
    refine p 1 ?_
    refine rend ?_
    replace h := H.done h
    subst h
    exact ret func6 rfl (vs := [.bool false]) (.tmp (by kernel_rfl) .nil) rfl (fun W S => ⟨rfl, S.below⟩)
  replace h := H.f q4 h
  refine c_skip ?_
  refine c_seq ?_
  refine r_start ?_
  refine p 1 ?_
  refine rend ?_
  refine c_seq ?_
  refine r_start ?_
  refine p 2 ?_
  obtain ⟨v13_2, hv13_2, h⟩ := H.call h
  refine xx rfl (e_cw (e := nSign) (l' := v13_2.2) (v := .int .i64 v13_2.1) 3 [.slice A6_1 (List.length v6_1) k6_1, .int .i64 1] func21 (fun W S => C.l_markSignS W hv13_2 rfl (S.row 3)) fun hl13_2 => ?_)
  refine o_set 6 (sl_len (A := A6_1) (c := k6_1) hl13_2) ?_
  refine p 1 ?_
  refine rend ?_
  refine c_seq ?_
  refine c_seq ?_
  refine r_start ?_
  refine p 3 ?_
  refine br (decide (v13_2.1 < 0)) (fun q5 => ?_) (fun q5 => ?_)
  · replace h := H.t q5 h
    refine o_set 51 (congrArg Value.bool q5) ?_
    refine p 10 ?_
    refine rend ?_
    refine frg (fun u => (.slice A0 (List.length a0) k0 :: (jk u 1 3 (.slice A5_2 (List.length u5_2) k5_2 :: .bool v5_2.2 :: (jk u 6 1 (.slice A7_1 (List.length u7_1) k7_1 :: (jk u 8 53 (.bool true :: (jk u 62 34 []))))))))) (by kernel_rfl) fun u => ?_
    refine keep 7 (its' := [rowT nSign w.heap.size 47 (.slice A5_1 (List.length v5_1) k5_1) v5_1, rowT eSl w.heap.size 52 (.slice A5_2 (List.length u5_2) k5_2) u5_2, inns (eI .i64) w.heap.size 3 u5_2 v5_2.1, rowT nSign w.heap.size 47 (.slice A6_1 (List.length v13_2.2) k6_1) v13_2.2, rowT eSl w.heap.size 52 (.slice A7_1 (List.length u7_1) k7_1) u7_1, inns (eI .i64) w.heap.size 3 u7_1 v7_1.1, rowT nSign w.heap.size 47 (.slice A10_2 (List.length v10_2) k10_2) v10_2]) (by kernel_rfl) ?_
    refine c_t (by kernel_rfl) ?_
    refine c_seq ?_
    refine r_start ?_
    refine p 1 ?_
    refine rend ?_
    replace h := H.done h
    subst h
    exact ret func6 rfl (vs := [.bool false]) (.tmp (by kernel_rfl) .nil) rfl (fun W S => ⟨rfl, S.below⟩)
  replace h := H.f q5 h
  refine o_set 51 (congrArg Value.bool q5) ?_
  refine p 2 ?_
  obtain ⟨v14_5, hv14_5, h⟩ := H.call h
  refine xq rfl (y_call [.slice A7_1 (List.length u7_1) k7_1, .slice A5_2 (List.length u5_2) k5_2] (.bool v14_5) func26 (fun W S => C.l_eqIntSS W hv14_5 ((s_own 4).out W S) ((i_own 5).out W S) ((s_own 1).out W S) ((i_own 2).out W S))) ?_
  refine p 3 ?_
  refine br (!v14_5) (fun q6 => ?_) (fun q6 => ?_)
  · replace h := H.t q6 h
    refine o_set 57 (congrArg Value.bool q6) ?_
    refine p 4 ?_
    refine rend ?_
    refine frg (fun u => (.slice A0 (List.length a0) k0 :: (jk u 1 3 (.slice A5_2 (List.length u5_2) k5_2 :: .bool v5_2.2 :: (jk u 6 1 (.slice A7_1 (List.length u7_1) k7_1 :: (jk u 8 53 (.bool true :: (jk u 62 34 []))))))))) (by kernel_rfl) fun u => ?_
    refine keep 7 (its' := [rowT nSign w.heap.size 47 (.slice A5_1 (List.length v5_1) k5_1) v5_1, rowT eSl w.heap.size 52 (.slice A5_2 (List.length u5_2) k5_2) u5_2, inns (eI .i64) w.heap.size 3 u5_2 v5_2.1, rowT nSign w.heap.size 47 (.slice A6_1 (List.length v13_2.2) k6_1) v13_2.2, rowT eSl w.heap.size 52 (.slice A7_1 (List.length u7_1) k7_1) u7_1, inns (eI .i64) w.heap.size 3 u7_1 v7_1.1, rowT nSign w.heap.size 47 (.slice A10_2 (List.length v10_2) k10_2) v10_2]) (by kernel_rfl) ?_
    refine c_t (by kernel_rfl) ?_
    refine c_seq ?_
    refine r_start ?_
    refine p 1 ?_
    refine rend ?_
    replace h := H.done h
    subst h
    exact ret func6 rfl (vs := [.bool false]) (.tmp (by kernel_rfl) .nil) rfl (fun W S => ⟨rfl, S.below⟩)
  replace h := H.f q6 h
  refine o_set 57 (congrArg Value.bool q6) ?_
  refine p 4 ?_
  refine rend ?_
  refine frg (fun u => (.slice A0 (List.length a0) k0 :: (jk u 1 3 (.slice A5_2 (List.length u5_2) k5_2 :: .bool v5_2.2 :: (jk u 6 1 (.slice A7_1 (List.length u7_1) k7_1 :: (jk u 8 53 (.bool (!(v7_1.2 == v5_2.2)) :: (jk u 62 34 []))))))))) (by kernel_rfl) fun u => ?_
  refine keep 7 (its' := [rowT nSign w.heap.size 47 (.slice A5_1 (List.length v5_1) k5_1) v5_1, rowT eSl w.heap.size 52 (.slice A5_2 (List.length u5_2) k5_2) u5_2, inns (eI .i64) w.heap.size 3 u5_2 v5_2.1, rowT nSign w.heap.size 47 (.slice A6_1 (List.length v13_2.2) k6_1) v13_2.2, rowT eSl w.heap.size 52 (.slice A7_1 (List.length u7_1) k7_1) u7_1, inns (eI .i64) w.heap.size 3 u7_1 v7_1.1, rowT nSign w.heap.size 47 (.slice A10_2 (List.length v10_2) k10_2) v10_2]) (by kernel_rfl) ?_
  refine c_no q3 ?_
  refine c_skip ?_
  refine c_seq ?_
  refine r_start ?_
  refine p 1 ?_
  refine rend ?_
  refine c_seq ?_
  refine r_start ?_
  refine p 2 ?_
  obtain ⟨v17_2, hv17_2, h⟩ := H.call h
  refine xx rfl (e_cwd (e := (eI .i64)) (ls' := v17_2.2) (v := .int .i64 v17_2.1) 5 [.slice A7_1 (List.length u7_1) k7_1, .int .i64 1] func27 (fun W S => C.l_markIntSS W hv17_2 ((s_own 4).out W S) (S.inn 5) (S.apD 4 5 (by decide))) ?_)
  refine p 1 ?_
  refine rend ?_
  refine c_seq ?_
  refine r_start ?_
  refine p 1 ?_
  refine rend ?_
  refine c_seq ?_
  refine r_start ?_
  refine p 2 ?_
  obtain ⟨v19_2, hv19_2, h⟩ := H.call h
  refine xq rfl (y_call [.slice A7_1 (List.length u7_1) k7_1, .int .i64 1] (.int .i64 v19_2) func28 (fun W S => C.l_heldIntSS W hv19_2 ((s_own 4).out W S) ((i_own 5).out W S))) ?_
  refine p 1 ?_
  refine rend ?_
  refine c_seq ?_
  refine c_seq ?_
  refine r_start ?_
  refine p 2 ?_
  refine rend ?_
  refine c_or (decide (v19_2 < 0)) (fun q7 => ?_) (fun q7 => ?_)
  · replace h := H.t q7 h
    refine c_seq ?_
    refine r_start ?_
    refine p 1 ?_
    refine rend ?_
    replace h := H.done h
    subst h
    exact ret func6 rfl (vs := [.bool false]) (.tmp (by kernel_rfl) .nil) rfl (fun W S => ⟨rfl, S.below⟩)
  replace h := H.f q7 h
  refine c_skip ?_
  refine c_seq ?_
  refine c_seq ?_
  refine r_start ?_
  refine p 3 ?_
  refine rend ?_
  refine c_or (v19_2 != v17_2.1) (fun q8 => ?_) (fun q8 => ?_)
  · replace h := H.t q8 h
    refine c_seq ?_
    refine r_start ?_
    refine p 1 ?_
    refine rend ?_
    replace h := H.done h
    subst h
    exact ret func6 rfl (vs := [.bool false]) (.tmp (by kernel_rfl) .nil) rfl (fun W S => ⟨rfl, S.below⟩)
  replace h := H.f q8 h
  refine c_skip ?_
  refine c_seq ?_
  refine r_start ?_
  refine p 1 ?_
  obtain ⟨v24_1, hv24_1, h⟩ := H.call h
  refine xx rfl (e_cr [.slice A0 (List.length a0) k0] (fun v => v) func17 (fun W S => C.l_toSignS W hv24_1 ((s_arg h0).out W S)) fun A24_1 k24_1 => ?_)
  obtain ⟨v24_2, hv24_2, h⟩ := H.call h
  refine xx rfl (e_crd [.slice A24_1 (List.length v24_1) k24_1] (fun v => .tuple #[v, .bool v24_2.2]) func25 (fun W S => C.i_SameGroups W hv24_2 ((s_own 7).out W S)) fun A24_2 k24_2 u24_2 => ?_)
  refine p 5 ?_
  refine rend ?_
  refine c_seq ?_
  refine c_seq ?_
  refine r_start ?_
  refine p 2 ?_
  obtain ⟨v25_2, hv25_2, h⟩ := H.call h
  refine xq rfl (y_call [.slice A24_2 (List.length u24_2) k24_2, .slice A5_2 (List.length u5_2) k5_2] (.bool v25_2) func26 (fun W S => C.l_eqIntSS W hv25_2 ((s_own 8).out W S) ((i_own 9).out W S) ((s_own 1).out W S) ((i_own 2).out W S))) ?_
  refine p 2 ?_
  refine br (!v25_2) (fun q9 => ?_) (fun q9 => ?_)
  · replace h := H.t q9 h
    refine o_set 83 (congrArg Value.bool q9) ?_
    refine p 4 ?_
    refine rend ?_
    refine c_t (by kernel_rfl) ?_
    refine c_seq ?_
    refine r_start ?_
    refine p 1 ?_
    refine rend ?_
    replace h := H.done h
    subst h
    exact ret func6 rfl (vs := [.bool false]) (.tmp (by kernel_rfl) .nil) rfl (fun W S => ⟨rfl, S.below⟩)
  replace h := H.f q9 h
  refine o_set 83 (congrArg Value.bool q9) ?_
  refine p 4 ?_
  refine rend ?_
  refine c_or (!(v24_2.2 == v5_2.2)) (fun q10 => ?_) (fun q10 => ?_)
  · replace h := H.t q10 h
    refine c_seq ?_
    refine r_start ?_
    refine p 1 ?_
    refine rend ?_
    replace h := H.done h
    subst h
    exact ret func6 rfl (vs := [.bool false]) (.tmp (by kernel_rfl) .nil) rfl (fun W S => ⟨rfl, S.below⟩)
  replace h := H.f q10 h
  refine c_skip ?_
  refine c_seq ?_
  refine r_start ?_
  refine p 1 ?_
  refine rend ?_
  refine c_seq ?_
  refine r_start ?_
  refine p 2 ?_
  obtain ⟨v28_2, hv28_2, h⟩ := H.call h
  refine xq rfl (y_call [.slice A7_1 (List.length u7_1) k7_1, .int .i64 1] (.int .i64 v28_2) func28 (fun W S => C.l_heldIntSS W hv28_2 ((s_own 4).out W S) ((i_own 5).out W S))) ?_
  refine p 1 ?_
  refine rend ?_
  refine c_seq ?_
  refine c_seq ?_
  refine r_start ?_
  refine p 2 ?_
  refine rend ?_
  refine c_or (decide (v28_2 < 0)) (fun q11 => ?_) (fun q11 => ?_)
  · replace h := H.t q11 h
    refine c_seq ?_
    refine r_start ?_
    refine p 1 ?_
    refine rend ?_
    refine frg (fun u => (jk u 0 2 (.bool false :: (jk u 3 93 [])))) (by kernel_rfl) fun u => ?_
    refine keep 10 (its' := [rowT nSign w.heap.size 47 (.slice A5_1 (List.length v5_1) k5_1) v5_1, rowT eSl w.heap.size 52 (.slice A5_2 (List.length u5_2) k5_2) u5_2, inns (eI .i64) w.heap.size 3 u5_2 v5_2.1, rowT nSign w.heap.size 47 (.slice A6_1 (List.length v13_2.2) k6_1) v13_2.2, rowT eSl w.heap.size 52 (.slice A7_1 (List.length u7_1) k7_1) u7_1, inns (eI .i64) w.heap.size 3 u7_1 v17_2.2, rowT nSign w.heap.size 47 (.slice A10_2 (List.length v10_2) k10_2) v10_2, rowT nSign w.heap.size 47 (.slice A24_1 (List.length v24_1) k24_1) v24_1, rowT eSl w.heap.size 52 (.slice A24_2 (List.length u24_2) k24_2) u24_2, inns (eI .i64) w.heap.size 3 u24_2 v24_2.1]) (by kernel_rfl) ?_
    replace h := H.done h
    subst h
    exact ret func6 rfl (vs := [.bool false]) (.tmp (by kernel_rfl) .nil) rfl (fun W S => ⟨rfl, S.below⟩)
  replace h := H.f q11 h
  refine c_skip ?_
  refine c_seq ?_
  refine c_seq ?_
  refine r_start ?_
  refine p 3 ?_
  refine rend ?_
  refine frg (fun u => (jk u 0 95 [.bool (v28_2 != v17_2.1)])) (by kernel_rfl) fun u => ?_
  refine keep 10 (its' := [rowT nSign w.heap.size 47 (.slice A5_1 (List.length v5_1) k5_1) v5_1, rowT eSl w.heap.size 52 (.slice A5_2 (List.length u5_2) k5_2) u5_2, inns (eI .i64) w.heap.size 3 u5_2 v5_2.1, rowT nSign w.heap.size 47 (.slice A6_1 (List.length v13_2.2) k6_1) v13_2.2, rowT eSl w.heap.size 52 (.slice A7_1 (List.length u7_1) k7_1) u7_1, inns (eI .i64) w.heap.size 3 u7_1 v17_2.2, rowT nSign w.heap.size 47 (.slice A10_2 (List.length v10_2) k10_2) v10_2, rowT nSign w.heap.size 47 (.slice A24_1 (List.length v24_1) k24_1) v24_1, rowT eSl w.heap.size 52 (.slice A24_2 (List.length u24_2) k24_2) u24_2, inns (eI .i64) w.heap.size 3 u24_2 v24_2.1]) (by kernel_rfl) ?_
  refine c_or (v28_2 != v17_2.1) (fun q12 => ?_) (fun q12 => ?_)
  · replace h := H.t q12 h
    refine c_seq ?_
    refine r_start ?_
    refine p 1 ?_
    refine rend ?_
    replace h := H.done h
    subst h
    exact ret func6 rfl (vs := [.bool false]) (.tmp (by kernel_rfl) .nil) rfl (fun W S => ⟨rfl, S.below⟩)
  replace h := H.f q12 h
  refine c_skip ?_
  refine c_seq ?_
  refine r_start ?_
  refine p 1 ?_
  refine rend ?_
  replace h := H.done h
  subst h
  exact ret func6 rfl (vs := [.bool true]) (.tmp (by kernel_rfl) .nil) rfl (fun W S => ⟨rfl, S.below⟩)
end Go.Proofs.XC
