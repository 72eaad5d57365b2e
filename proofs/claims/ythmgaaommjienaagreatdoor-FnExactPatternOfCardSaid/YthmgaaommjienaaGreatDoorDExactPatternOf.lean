/- Contracts: each function, called where its plain function gives an answer, returns just that answer and changes nothing that was there. By AI agents; no person has read it. -/
import Derived.Test.YthmgaaommjienaaGreatDoorC1
set_option linter.unusedVariables false
set_option linter.unusedSimpArgs false
set_option maxRecDepth 100000
namespace Go.Proofs.XC
open Go Go.RowKit
open Tryz
theorem C.s_seShape {fu : Nat} {a0 : Shape} {r : Str} (w : World) (h : X.s_seShape fu a0 = some r) : Calls prog 74 #[.agg (eShape a0).toArray] w (Ret w (.string (bs r))) := by
  refine calls (M := no) (args := [.agg (eShape a0).toArray]) func74 rfl ?_
  replace h : H (X.s_seShape fu a0) (fun o => o = r) := H.mk h
  unfold X.s_seShape at h
  refine c_seq ?_
  refine r_start ?_
  refine xx rfl (x_box (eShape a0) fun g0_0 => ?_)
  refine p 1 ?_
  refine rend ?_
  refine c_seq ?_
  refine r_start ?_
  refine xq rfl (y_load (.agg (eShape a0).toArray) 0 g0_0 0) ?_
  obtain ⟨v1_1, hv1_1, h⟩ := H.call h
  refine xq rfl (y_call [.agg (eShape a0).toArray] (.string (bs v1_1)) func142 (fun W S => C.s_shText W hv1_1)) ?_
  obtain ⟨y1_2, hy1_2, h⟩ := H.call h
  refine xq rfl (y_cut hy1_2) ?_
  refine p 1 ?_
  refine rend ?_
  replace h := H.done h
  subst h
  exact ret func74 rfl (vs := [.string (bs y1_2)]) (.tmp (by kernel_rfl) .nil) rfl (fun W S => ⟨rfl, S.below⟩)
theorem C.s_seHands {a0 : Sign} {r : Int} (w : World) (h : X.s_seHands a0 = some r) : Calls prog 77 #[.agg (eSign a0).toArray] w (Ret w (.int .i64 r)) := by
  refine calls (M := no) (args := [.agg (eSign a0).toArray]) func77 rfl ?_
  replace h : H (X.s_seHands a0) (fun o => o = r) := H.mk h
  unfold X.s_seHands at h
  refine c_seq ?_
  refine r_start ?_
  refine xx rfl (x_box (eSign a0) fun g0_0 => ?_)
  refine p 1 ?_
  refine rend ?_
  refine c_seq ?_
  refine c_seq ?_
  refine r_start ?_
  refine p 1 ?_
  refine xq rfl (y_load (.bool a0.Two) 0 g0_0 13) ?_
  refine rend ?_
  refine c_or a0.Two (fun q1 => ?_) (fun q1 => ?_)
  · replace h := H.t q1 h
    refine c_seq ?_
    refine r_start ?_
    refine p 1 ?_
    refine rend ?_
    replace h := H.done h
    subst h
    exact ret func77 rfl (vs := [.int .i64 2]) (.tmp (by kernel_rfl) .nil) rfl (fun W S => ⟨rfl, S.below⟩)
  replace h := H.f q1 h
  refine c_skip ?_
  refine c_seq ?_
  refine r_start ?_
  refine p 1 ?_
  refine rend ?_
  replace h := H.done h
  subst h
  exact ret func77 rfl (vs := [.int .i64 1]) (.tmp (by kernel_rfl) .nil) rfl (fun W S => ⟨rfl, S.below⟩)
theorem C.s_PatternOf {fu : Nat} {a0 : Sign} {r : (Pattern × Bool)} (w : World) (h : X.s_PatternOf fu a0 = some r) : Calls prog 16 #[.agg (eSign a0).toArray] w (Ret w (.tuple #[.agg (ePattern r.1).toArray, .bool r.2])) := by
  refine calls (M := no) (args := [.agg (eSign a0).toArray]) func16 rfl ?_
  replace h : H (X.s_PatternOf fu a0) (fun o => o = r) := H.mk h
  unfold X.s_PatternOf at h
  refine c_seq ?_
  refine r_start ?_
  refine xx rfl (x_box (eSign a0) fun g0_0 => ?_)
  refine xx rfl (x_new (ePattern zPattern) fun g0_1 => ?_)
  refine p 1 ?_
  refine rend ?_
  refine c_seq ?_
  refine c_seq ?_
  refine r_start ?_
  refine xq rfl (y_load (.agg (eSign a0).toArray) 0 g0_0 0) ?_
  obtain ⟨v1_1, hv1_1, h⟩ := H.call h
  refine xq rfl (y_call [.agg (eSign a0).toArray] (.bool v1_1) func72 (fun W S => C.s_siGood W hv1_1)) ?_
  refine p 1 ?_
  refine rend ?_
  refine c_or (!v1_1) (fun q1 => ?_) (fun q1 => ?_)
  · replace h := H.t q1 h
    refine c_seq ?_
    refine r_start ?_
    refine p 1 ?_
    refine xx rfl (x_sto 1 g0_1 0 (ePattern zPattern) ?_)
    refine p 1 ?_
    refine rend ?_
    replace h := H.done h
    subst h
    exact ret func16 rfl (vs := [.agg (ePattern zPattern).toArray, .bool false]) (.cell 1 g0_1 rfl (by kernel_rfl) (by kernel_rfl) (.tmp (by kernel_rfl) .nil)) rfl (fun W S => ⟨rfl, S.below⟩)
  replace h := H.f q1 h
  refine c_skip ?_
  refine c_seq ?_
  refine r_start ?_
  refine xq rfl (y_load (.agg (eSign a0).toArray) 0 g0_0 0) ?_
  obtain ⟨v3_1, hv3_1, h⟩ := H.call h
  refine xq rfl (y_call [.agg (eSign a0).toArray] (.agg (eSign v3_1).toArray) func73 (fun W S => C.s_noForm W hv3_1)) ?_
  refine xx rfl (x_new (eSign zSign) fun g3_2 => ?_)
  refine xx rfl (x_sto 2 g3_2 0 (eSign v3_1) ?_)
  refine rend ?_
  refine c_seq ?_
  refine as_start 19 21 ?_
  refine ap 0 2 ?_
  refine aq 2 rfl (y_load (.agg (eShape v3_1.Main.Shape).toArray) 2 g3_2 0) ?_
  obtain ⟨v4_3, hv4_3, h⟩ := H.call h
  refine aq 3 rfl (y_call [.agg (eShape v3_1.Main.Shape).toArray] (.string (bs v4_3)) func74 (fun W S => C.s_seShape W hv4_3)) ?_
  refine ap 4 2 ?_
  refine aq 6 rfl (y_load (.agg (eOrient v3_1.Main.Orient).toArray) 2 g3_2 6) ?_
  obtain ⟨v4_7, hv4_7, h⟩ := H.call h
  refine aq 7 rfl (y_call [.agg (eOrient v3_1.Main.Orient).toArray] (.string (bs v4_7)) func75 (fun W S => C.s_orText W hv4_7)) ?_
  refine ap 8 3 ?_
  refine aq 11 rfl (y_load (.int .i64 v3_1.Main.Place.Region) 2 g3_2 8) ?_
  refine ap 12 2 ?_
  refine aq 14 rfl (y_load (.agg (eMove v3_1.Main.Move).toArray) 2 g3_2 11) ?_
  obtain ⟨v4_15, hv4_15, h⟩ := H.call h
  refine aq 15 rfl (y_call [.agg (eMove v3_1.Main.Move).toArray] (.string (bs v4_15)) func76 (fun W S => C.s_mvAll W hv4_15)) ?_
  refine aq 16 rfl (y_load (.agg (eSign v3_1).toArray) 2 g3_2 0) ?_
  obtain ⟨v4_17, hv4_17, h⟩ := H.call h
  refine aq 17 rfl (y_call [.agg (eSign v3_1).toArray] (.int .i64 v4_17) func77 (fun W S => C.s_seHands W hv4_17)) ?_
  refine ap 18 1 ?_
  refine ax 19 rfl (x_sto 1 g0_1 0 (ePattern (⟨v4_3, v4_7, v3_1.Main.Place.Region, v4_15, v4_17⟩ : Pattern)) ⟨.inl (by kernel_rfl), ?_⟩)
  refine ax 20 rfl (e_y (y_pure (v := .bool true) (by kernel_rfl)) ⟨.inl (by kernel_rfl), ?_⟩)
  refine a_done ?_
  replace h := H.done h
  subst h
  exact ret func16 rfl (vs := [.agg (ePattern (⟨v4_3, v4_7, v3_1.Main.Place.Region, v4_15, v4_17⟩ : Pattern)).toArray, .bool true]) (.cell 1 g0_1 rfl (by kernel_rfl) (by kernel_rfl) (.tmp (by kernel_rfl) .nil)) rfl (fun W S => ⟨rfl, S.below⟩)
theorem C.i_patternOf {fu : Nat} {a0 : Sign} {r : Pattern} (w : World) (h : X.i_patternOf fu a0 = some r) : Calls prog 79 #[.agg (eSign a0).toArray] w (Ret w (.agg (ePattern r).toArray)) := by
  refine calls (M := no) (args := [.agg (eSign a0).toArray]) func79 rfl ?_
  replace h : H (X.i_patternOf fu a0) (fun o => o = r) := H.mk h
  unfold X.i_patternOf at h
  refine c_seq ?_
  refine r_start ?_
  refine xx rfl (x_box (eSign a0) fun g0_0 => ?_)
  refine xx rfl (x_new (ePattern zPattern) fun g0_1 => ?_)
  refine rend ?_
  refine c_seq ?_
  refine r_start ?_
  refine xq rfl (y_load (.agg (eSign a0).toArray) 0 g0_0 0) ?_
  obtain ⟨v1_1, hv1_1, h⟩ := H.call h
  refine xq rfl (y_call [.agg (eSign a0).toArray] (.agg (eSign v1_1).toArray) func90 (fun W S => C.i_Sign_normal W hv1_1)) ?_
  refine p 1 ?_
  refine xx rfl (x_new (eHand zHand) fun g1_3 => ?_)
  refine xx rfl (x_sto 2 g1_3 0 (eHand v1_1.Main) ?_)
  refine rend ?_
  refine c_seq ?_
  refine as_start 15 16 ?_
  refine ap 0 1 ?_
  refine aq 1 rfl (y_load (.agg (eShape v1_1.Main.Shape).toArray) 2 g1_3 0) ?_
  obtain ⟨v2_2, hv2_2, h⟩ := H.call h
  refine aq 2 rfl (y_call [.agg (eShape v1_1.Main.Shape).toArray] (.string (bs v2_2)) func148 (fun W S => C.i_Shape_text W hv2_2)) ?_
  obtain ⟨y2_3, hy2_3, h⟩ := H.call h
  refine aq 3 rfl (y_cut hy2_3) ?_
  refine ap 4 1 ?_
  refine aq 5 rfl (y_load (.agg (eOrient v1_1.Main.Orient).toArray) 2 g1_3 6) ?_
  obtain ⟨v2_6, hv2_6, h⟩ := H.call h
  refine aq 6 rfl (y_call [.agg (eOrient v1_1.Main.Orient).toArray] (.string (bs v2_6)) func149 (fun W S => C.i_Orient_text W hv2_6)) ?_
  refine ap 7 2 ?_
  refine aq 9 rfl (y_load (.int .i64 v1_1.Main.Place.Region) 2 g1_3 8) ?_
  refine ap 10 1 ?_
  refine aq 11 rfl (y_load (.agg (eMove v1_1.Main.Move).toArray) 2 g1_3 11) ?_
  obtain ⟨v2_12, hv2_12, h⟩ := H.call h
  refine aq 12 rfl (y_call [.agg (eMove v1_1.Main.Move).toArray] (.string (bs v2_12)) func133 (fun W S => C.i_Move_all W hv2_12)) ?_
  refine ap 13 1 ?_
  refine ax 14 rfl (x_new (ePattern zPattern) fun g2_14 => ⟨.inr (by kernel_rfl), ?_⟩)
  refine ax 15 rfl (x_sto 3 g2_14 0 (ePattern (⟨y2_3, v2_6, v1_1.Main.Place.Region, v2_12, 1⟩ : Pattern)) ⟨.inl (by kernel_rfl), ?_⟩)
  refine a_done ?_
  refine c_seq ?_
  refine c_seq ?_
  refine r_start ?_
  refine p 1 ?_
  refine xq rfl (y_load (.bool a0.Two) 0 g0_0 13) ?_
  refine rend ?_
  refine c_or a0.Two (fun q1 => ?_) (fun q1 => ?_)
  · replace h := H.t q1 h
    refine r_start ?_
    refine p 1 ?_
    refine xx rfl (x_sto 3 g2_14 4 (ePattern (⟨y2_3, v2_6, v1_1.Main.Place.Region, v2_12, 2⟩ : Pattern)) ?_)
    refine rend ?_
    refine c_seq ?_
    refine r_start ?_
    refine xq rfl (y_load (.agg (ePattern (⟨y2_3, v2_6, v1_1.Main.Place.Region, v2_12, 2⟩ : Pattern)).toArray) 3 g2_14 0) ?_
    refine xx rfl (x_sto 1 g0_1 0 (ePattern (⟨y2_3, v2_6, v1_1.Main.Place.Region, v2_12, 2⟩ : Pattern)) ?_)
    refine rend ?_
    replace h := H.done h
    subst h
    exact ret func79 rfl (vs := [.agg (ePattern (⟨y2_3, v2_6, v1_1.Main.Place.Region, v2_12, 2⟩ : Pattern)).toArray]) (.cell 1 g0_1 rfl (by kernel_rfl) (by kernel_rfl) .nil) rfl (fun W S => ⟨rfl, S.below⟩)
  replace h := H.f q1 h
  refine c_skip ?_
  refine c_seq ?_
  refine r_start ?_
  refine xq rfl (y_load (.agg (ePattern (⟨y2_3, v2_6, v1_1.Main.Place.Region, v2_12, 1⟩ : Pattern)).toArray) 3 g2_14 0) ?_
  refine xx rfl (x_sto 1 g0_1 0 (ePattern (⟨y2_3, v2_6, v1_1.Main.Place.Region, v2_12, 1⟩ : Pattern)) ?_)
  refine rend ?_
  replace h := H.done h
  subst h
  exact ret func79 rfl (vs := [.agg (ePattern (⟨y2_3, v2_6, v1_1.Main.Place.Region, v2_12, 1⟩ : Pattern)).toArray]) (.cell 1 g0_1 rfl (by kernel_rfl) (by kernel_rfl) .nil) rfl (fun W S => ⟨rfl, S.below⟩)
theorem C.i_PatternOf {fu : Nat} {a0 : Sign} {r : (Pattern × Bool)} (w : World) (h : X.i_PatternOf fu a0 = some r) : Calls prog 18 #[.agg (eSign a0).toArray] w (Ret w (.tuple #[.agg (ePattern r.1).toArray, .bool r.2])) := by
  refine calls (M := no) (args := [.agg (eSign a0).toArray]) func18 rfl ?_
  replace h : H (X.i_PatternOf fu a0) (fun o => o = r) := H.mk h
  unfold X.i_PatternOf at h
  refine c_seq ?_
  refine r_start ?_
  refine xx rfl (x_box (eSign a0) fun g0_0 => ?_)
  refine xx rfl (x_new (ePattern zPattern) fun g0_1 => ?_)
  refine p 1 ?_
  refine rend ?_
  refine c_seq ?_
  refine c_seq ?_
  refine r_start ?_
  refine xq rfl (y_load (.agg (eSign a0).toArray) 0 g0_0 0) ?_
  obtain ⟨v1_1, hv1_1, h⟩ := H.call h
  refine xq rfl (y_call [.agg (eSign a0).toArray] (.bool v1_1) func61 (fun W S => C.i_IsSign W hv1_1)) ?_
  refine p 1 ?_
  refine rend ?_
  refine c_or (!v1_1) (fun q1 => ?_) (fun q1 => ?_)
  · replace h := H.t q1 h
    refine c_seq ?_
    refine r_start ?_
    refine p 1 ?_
    refine xx rfl (x_sto 1 g0_1 0 (ePattern zPattern) ?_)
    refine p 1 ?_
    refine rend ?_
    replace h := H.done h
    subst h
    exact ret func18 rfl (vs := [.agg (ePattern zPattern).toArray, .bool false]) (.cell 1 g0_1 rfl (by kernel_rfl) (by kernel_rfl) (.tmp (by kernel_rfl) .nil)) rfl (fun W S => ⟨rfl, S.below⟩)
  replace h := H.f q1 h
  refine c_skip ?_
  refine c_seq ?_
  refine r_start ?_
  refine xq rfl (y_load (.agg (eSign a0).toArray) 0 g0_0 0) ?_
  obtain ⟨v3_1, hv3_1, h⟩ := H.call h
  refine xq rfl (y_call [.agg (eSign a0).toArray] (.agg (ePattern v3_1).toArray) func79 (fun W S => C.i_patternOf W hv3_1)) ?_
  refine xx rfl (x_sto 1 g0_1 0 (ePattern v3_1) ?_)
  refine p 1 ?_
  refine rend ?_
  replace h := H.done h
  subst h
  exact ret func18 rfl (vs := [.agg (ePattern v3_1).toArray, .bool true]) (.cell 1 g0_1 rfl (by kernel_rfl) (by kernel_rfl) (.tmp (by kernel_rfl) .nil)) rfl (fun W S => ⟨rfl, S.below⟩)
theorem C.l_eqPattern {a0 : Pattern} {a1 : Pattern} {r : Bool} (w : World) (h : X.l_eqPattern a0 a1 = some r) : Calls prog 19 #[.agg (ePattern a0).toArray, .agg (ePattern a1).toArray] w (Ret w (.bool r)) := by
  refine calls (M := no) (args := [.agg (ePattern a0).toArray, .agg (ePattern a1).toArray]) func19 rfl ?_
  replace h : H (X.l_eqPattern a0 a1) (fun o => o = r) := H.mk h
  unfold X.l_eqPattern at h
  refine c_seq ?_
  refine r_start ?_
  refine xx rfl (x_box (ePattern a0) fun g0_0 => ?_)
  refine xx rfl (x_box (ePattern a1) fun g0_1 => ?_)
  refine p 1 ?_
  refine rend ?_
  refine c_seq ?_
  refine c_seq ?_
  refine r_start ?_
  refine p 1 ?_
  refine xq rfl (y_load (.string (bs a0.Shape)) 0 g0_0 0) ?_
  refine p 1 ?_
  refine xq rfl (y_load (.string (bs a1.Shape)) 1 g0_1 0) ?_
  refine p 1 ?_
  refine rend ?_
  refine c_or (!seq a0.Shape a1.Shape) (fun q1 => ?_) (fun q1 => ?_)
  · replace h := H.t q1 h
    refine c_seq ?_
    refine r_start ?_
    refine p 1 ?_
    refine rend ?_
    replace h := H.done h
    subst h
    exact ret func19 rfl (vs := [.bool false]) (.tmp (by kernel_rfl) .nil) rfl (fun W S => ⟨rfl, S.below⟩)
  replace h := H.f q1 h
  refine c_skip ?_
  refine c_seq ?_
  refine c_seq ?_
  refine r_start ?_
  refine p 1 ?_
  refine xq rfl (y_load (.string (bs a0.Orient)) 0 g0_0 1) ?_
  refine p 1 ?_
  refine xq rfl (y_load (.string (bs a1.Orient)) 1 g0_1 1) ?_
  refine p 1 ?_
  refine rend ?_
  refine c_or (!seq a0.Orient a1.Orient) (fun q2 => ?_) (fun q2 => ?_)
  · replace h := H.t q2 h
    refine c_seq ?_
    refine r_start ?_
    refine p 1 ?_
    refine rend ?_
    replace h := H.done h
    subst h
    exact ret func19 rfl (vs := [.bool false]) (.tmp (by kernel_rfl) .nil) rfl (fun W S => ⟨rfl, S.below⟩)
  replace h := H.f q2 h
  refine c_skip ?_
  refine c_seq ?_
  refine c_seq ?_
  refine r_start ?_
  refine p 1 ?_
  refine xq rfl (y_load (.int .i64 a0.Region) 0 g0_0 2) ?_
  refine p 1 ?_
  refine xq rfl (y_load (.int .i64 a1.Region) 1 g0_1 2) ?_
  refine p 1 ?_
  refine rend ?_
  refine c_or (a0.Region != a1.Region) (fun q3 => ?_) (fun q3 => ?_)
  · replace h := H.t q3 h
    refine c_seq ?_
    refine r_start ?_
    refine p 1 ?_
    refine rend ?_
    replace h := H.done h
    subst h
    exact ret func19 rfl (vs := [.bool false]) (.tmp (by kernel_rfl) .nil) rfl (fun W S => ⟨rfl, S.below⟩)
  replace h := H.f q3 h
  refine c_skip ?_
  refine c_seq ?_
  refine c_seq ?_
  refine r_start ?_
  refine p 1 ?_
  refine xq rfl (y_load (.string (bs a0.Steps)) 0 g0_0 3) ?_
  refine p 1 ?_
  refine xq rfl (y_load (.string (bs a1.Steps)) 1 g0_1 3) ?_
  refine p 1 ?_
  refine rend ?_
  refine c_or (!seq a0.Steps a1.Steps) (fun q4 => ?_) (fun q4 => ?_)
  · replace h := H.t q4 h
    refine c_seq ?_
    refine r_start ?_
    refine p 1 ?_
    refine rend ?_
    replace h := H.done h
    subst h
    exact ret func19 rfl (vs := [.bool false]) (.tmp (by kernel_rfl) .nil) rfl (fun W S => ⟨rfl, S.below⟩)
  replace h := H.f q4 h
  refine c_skip ?_
  refine c_seq ?_
  refine c_seq ?_
  refine r_start ?_
  refine p 1 ?_
  refine xq rfl (y_load (.int .i64 a0.Hands) 0 g0_0 4) ?_
  refine p 1 ?_
  refine xq rfl (y_load (.int .i64 a1.Hands) 1 g0_1 4) ?_
  refine p 1 ?_
  refine rend ?_
  refine c_or (a0.Hands != a1.Hands) (fun q5 => ?_) (fun q5 => ?_)
  · replace h := H.t q5 h
    refine c_seq ?_
    refine r_start ?_
    refine p 1 ?_
    refine rend ?_
    replace h := H.done h
    subst h
    exact ret func19 rfl (vs := [.bool false]) (.tmp (by kernel_rfl) .nil) rfl (fun W S => ⟨rfl, S.below⟩)
  replace h := H.f q5 h
  refine c_skip ?_
  refine c_seq ?_
  refine r_start ?_
  refine p 1 ?_
  refine rend ?_
  replace h := H.done h
  subst h
  exact ret func19 rfl (vs := [.bool true]) (.tmp (by kernel_rfl) .nil) rfl (fun W S => ⟨rfl, S.below⟩)
theorem C.l_FnExactPatternOf {fu : Nat} {a0 : Sign} {r : Bool} (w : World) (h : X.l_FnExactPatternOf fu a0 = some r) : Calls prog 3 #[.agg (eSign a0).toArray] w (Ret w (.bool r)) := by
  refine calls (M := no) (args := [.agg (eSign a0).toArray]) func3 rfl ?_
  replace h : H (X.l_FnExactPatternOf fu a0) (fun o => o = r) := H.mk h
  unfold X.l_FnExactPatternOf at h
  refine c_seq ?_
  refine r_start ?_
  refine xx rfl (x_box (eSign a0) fun g0_0 => ?_)
  refine p 1 ?_
  refine rend ?_
  refine c_seq ?_
  refine r_start ?_
  refine p 1 ?_
  refine rend ?_
  refine c_seq ?_
  refine r_start ?_
  refine xq rfl (y_load (.agg (eSign a0).toArray) 0 g0_0 0) ?_
  refine p 1 ?_
  obtain ⟨v2_2, hv2_2, h⟩ := H.call h
  refine xq rfl (y_call [.agg (eSign a0).toArray, .int .i64 1048576] (.int .i64 v2_2) func15 (fun W S => C.l_szSign W hv2_2)) ?_
  refine p 1 ?_
  refine rend ?_
  refine c_seq ?_
  refine c_seq ?_
  refine r_start ?_
  refine p 2 ?_
  refine rend ?_
  refine c_or (decide (v2_2 < 0)) (fun q1 => ?_) (fun q1 => ?_)
  · replace h := H.t q1 h
    refine c_seq ?_
    refine r_start ?_
    refine p 1 ?_
    refine rend ?_
    replace h := H.done h
    subst h
    exact ret func3 rfl (vs := [.bool true]) (.tmp (by kernel_rfl) .nil) rfl (fun W S => ⟨rfl, S.below⟩)
  replace h := H.f q1 h
  refine c_skip ?_
  refine c_seq ?_
  refine r_start ?_
  refine xq rfl (y_load (.agg (eSign a0).toArray) 0 g0_0 0) ?_
  obtain ⟨v5_1, hv5_1, h⟩ := H.call h
  refine xq rfl (y_call [.agg (eSign a0).toArray] (.agg (eSign v5_1).toArray) func17 (fun W S => C.l_toSign W hv5_1)) ?_
  obtain ⟨v5_2, hv5_2, h⟩ := H.call h
  refine xq rfl (y_call [.agg (eSign v5_1).toArray] (.tuple #[.agg (ePattern v5_2.1).toArray, .bool v5_2.2]) func16 (fun W S => C.s_PatternOf W hv5_2)) ?_
  refine p 3 ?_
  refine xx rfl (x_new (ePattern zPattern) fun g5_6 => ?_)
  refine xx rfl (x_sto 1 g5_6 0 (ePattern v5_2.1) ?_)
  refine p 1 ?_
  refine rend ?_
  refine c_seq ?_
  refine r_start ?_
  refine xq rfl (y_load (.agg (eSign a0).toArray) 0 g0_0 0) ?_
  obtain ⟨v6_1, hv6_1, h⟩ := H.call h
  refine xq rfl (y_call [.agg (eSign a0).toArray] (.agg (eSign v6_1).toArray) func17 (fun W S => C.l_toSign W hv6_1)) ?_
  obtain ⟨v6_2, hv6_2, h⟩ := H.call h
  refine xq rfl (y_call [.agg (eSign v6_1).toArray] (.tuple #[.agg (ePattern v6_2.1).toArray, .bool v6_2.2]) func18 (fun W S => C.i_PatternOf W hv6_2)) ?_
  refine p 3 ?_
  refine xx rfl (x_new (ePattern zPattern) fun g6_6 => ?_)
  refine xx rfl (x_sto 2 g6_6 0 (ePattern v6_2.1) ?_)
  refine p 1 ?_
  refine rend ?_
  refine c_seq ?_
  refine c_seq ?_
  refine r_start ?_
  refine xq rfl (y_load (.agg (ePattern v6_2.1).toArray) 2 g6_6 0) ?_
  refine xq rfl (y_load (.agg (ePattern v5_2.1).toArray) 1 g5_6 0) ?_
  obtain ⟨v7_2, hv7_2, h⟩ := H.call h
  refine xq rfl (y_call [.agg (ePattern v6_2.1).toArray, .agg (ePattern v5_2.1).toArray] (.bool v7_2) func19 (fun W S => C.l_eqPattern W hv7_2)) ?_
  refine p 2 ?_
  refine br (!v7_2) (fun q2 => ?_) (fun q2 => ?_)
  · replace h := H.t q2 h
    refine o_set 29 (congrArg Value.bool q2) ?_
    refine p 4 ?_
    refine rend ?_
    refine c_t (by kernel_rfl) ?_
    refine c_seq ?_
    refine r_start ?_
    refine p 1 ?_
    refine rend ?_
    replace h := H.done h
    subst h
    exact ret func3 rfl (vs := [.bool false]) (.tmp (by kernel_rfl) .nil) rfl (fun W S => ⟨rfl, S.below⟩)
  replace h := H.f q2 h
  refine o_set 29 (congrArg Value.bool q2) ?_
  refine p 4 ?_
  refine rend ?_
  refine c_or (!(v6_2.2 == v5_2.2)) (fun q3 => ?_) (fun q3 => ?_)
  · replace h := H.t q3 h
    refine c_seq ?_
    refine r_start ?_
    refine p 1 ?_
    refine rend ?_
    replace h := H.done h
    subst h
    exact ret func3 rfl (vs := [.bool false]) (.tmp (by kernel_rfl) .nil) rfl (fun W S => ⟨rfl, S.below⟩)
  replace h := H.f q3 h
  refine c_skip ?_
  refine c_seq ?_
  refine r_start ?_
  refine p 1 ?_
  refine rend ?_
  replace h := H.done h
  subst h
  exact ret func3 rfl (vs := [.bool true]) (.tmp (by kernel_rfl) .nil) rfl (fun W S => ⟨rfl, S.below⟩)
end Go.Proofs.XC
