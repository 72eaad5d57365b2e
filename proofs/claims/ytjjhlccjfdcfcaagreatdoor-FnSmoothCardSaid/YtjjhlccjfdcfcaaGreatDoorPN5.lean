/- Plain laws of the plain functions: no program, no memory. By AI agents; no person has read it. -/
import Derived.Test.YtjjhlccjfdcfcaaGreatDoorPN4
import Derived.Test.YtjjhlccjfdcfcaaGreatDoorPL3
import Derived.Test.YtjjhlccjfdcfcaaGreatDoorPL6
set_option linter.unusedVariables false
set_option linter.unusedSimpArgs false
set_option maxRecDepth 100000
set_option maxHeartbeats 40000000
namespace Go.Proofs.XC
open Go Go.RowKit
/-! ### Smooth orders -/
theorem pAl_iff (b : List Sign) (i : Nat) (x : Sign) : pAl b i x = true ↔ ∃ y, b[i]? = some y ∧ nS x = nS y := by
  unfold pAl
  cases h : b[i]? with
  | none => simp
  | some y => simp
theorem alk_half {a b : List Sign} (h : alk a b = true) : alk b a = true := by
  unfold alk at h ⊢
  rw [Bool.and_eq_true, decide_eq_true_eq, allIx_iff] at h ⊢
  refine ⟨h.1.symm, fun i y hy => ?_⟩
  have hlt := some_len hy
  obtain ⟨x, hx⟩ : ∃ x, a[i]? = some x := ⟨a[i]'(by omega), List.getElem?_eq_getElem (by omega)⟩
  have h2 := h.2 i x hx
  rw [pAl_iff] at h2 ⊢
  obtain ⟨y', hy', e⟩ := h2
  rw [Nat.zero_add] at hy' ⊢
  rw [hy] at hy'
  obtain rfl := Option.some.inj hy'
  exact ⟨x, hx, e.symm⟩
theorem alk_symm (a b : List Sign) : alk a b = alk b a := by
  rw [Bool.eq_iff_iff]
  exact ⟨alk_half, alk_half⟩
theorem vAlike_symm (a b : List Sign) : vAlike a b = vAlike b a := by
  unfold vAlike
  rw [alk_symm (cmpd a), Bool.and_comm]
theorem gapDraw_ex {c : List Int} {k : Nat} (hc : okB8 c) (hk : 2000010 ≤ k) : ∃ a b, X.s_DrawGapOfSigns k c = some (a, b) ∧ smallS a ∧ smallS b := by
  unfold X.s_DrawGapOfSigns
  obtain ⟨x, t, s, e, h, hx⟩ := anySign_ex (s := 0) hc Bg.start (by omega) hk
  rw [e, bind_some]
  dsimp only
  obtain ⟨y, t, s, e, h, hy⟩ := anySign_ex (s := s) hc h (by omega) hk
  rw [e]
  exact ⟨x, y, rfl, tinyS_small hx, tinyS_small hy⟩
theorem alikeDraw_ex {c : List Int} {k : Nat} (hc : okB8 c) (hk : 2000010 ≤ k) : ∃ a b, X.s_DrawCompoundsAlike k c = some (a, b) ∧ (∀ x ∈ a, smallS x) ∧ (∀ x ∈ b, smallS x) := by
  unfold X.s_DrawCompoundsAlike
  obtain ⟨L, t, s, e, h, hn, hL⟩ := compound_ex (s := 0) hc Bg.start (by omega) hk
  rw [e, bind_some]
  dsimp only
  have other : ∀ (t s : Int), Bg 20000 t → ∃ a b, (Option.bind (X.s_l1Cur_compound k c t s) fun v7_2 => some (L, v7_2.1)) = some (a, b) ∧ (∀ x ∈ a, smallS x) ∧ (∀ x ∈ b, smallS x) := by
    intro t s h
    obtain ⟨L2, t, s, e, h, hL2⟩ := compound_ex (s := s) hc h (by omega) hk
    rw [e]
    exact ⟨L, L2, rfl, allT_small hL, allT_small hL2.2⟩
  rw [s_cmGood_eq (allT_small hL) hk, bind_some]
  cases g : gMade L
  · exact other t s (h.le (by omega))
  · obtain ⟨v, t, s, e, h, _⟩ := one_ex (s := s) (n := 2) hc h (by omega)
    rw [cond_true, e, bind_some]
    dsimp only
    cases v
    · exact other t s (h.le (by omega))
    · have hg := cmpd_good (gMade_mem g)
      have hlen : (cmpd L).length = L.length := cmpd_len L
      have hl2 := gMade_len g
      obtain ⟨y, hy⟩ : ∃ y, (cmpd L)[0]? = some y := ⟨(cmpd L)[0]'(by omega), List.getElem?_eq_getElem (by omega)⟩
      have gy := hg y (List.mem_of_getElem? hy)
      have e0 : getI (cmpd L) 0 = some y := getI_of (i := 0) hy
      rw [cond_true, s_cmOf_eq (gMade_mem g) (by omega) (by omega), bind_some, e0, bind_some, s_noForm_eq gy (by omega), bind_some]
      refine ⟨_, _, rfl, allT_small hL, fun x hx => ?_⟩
      rcases List.mem_or_eq_of_mem_set hx with h1 | h1
      · exact good_small (hg x h1)
      · rw [h1]
        exact nS_small gy
theorem Pure.FnSmooth (c : List Int) (o_c : okL okY c) (d : List Int) (o_d : okL okY d) : X.l_FnSmooth 3000000 c d = some true := by
  have hc := okB8_of o_c
  have hd := okB8_of o_d
  unfold X.l_FnSmooth
  cases decide ((wr ((List.length c : Int) + (List.length d : Int))) > 1048576) with
  | true => rfl
  | false =>
  rw [cond_false]
  obtain ⟨C, e, hn, hC⟩ := compoundOf_ex (k := 3000000) hc (by omega)
  have e' : X.s_DrawSmoothestOrder 3000000 c = some C := by unfold X.s_DrawSmoothestOrder; rw [e]; rfl
  obtain ⟨a, b, eg, ha, hb⟩ := gapDraw_ex (k := 3000000) hd (by omega)
  obtain ⟨x, y, ea, hx, hy⟩ := alikeDraw_ex (k := 3000000) hd (by omega)
  rw [e', bind_some, i_Smoothest_eq hC (by omega), bind_some, s_Smoothest_eq hC (by omega), bind_some, i_Time_eq hC (by omega), bind_some, s_Time_eq hC (by omega), bind_some, i_CompoundText_eq hC (by omega) (by omega), bind_some, s_CompoundText_eq hC (by omega) (by omega), bind_some, eg, bind_some]
  dsimp only
  rw [i_Gap_eq ha hb (by omega), bind_some, s_Gap_eq ha hb (by omega), bind_some, ea, bind_some]
  dsimp only
  rw [i_Alike_eq hx hy (by omega), bind_some, s_Alike_eq hx hy (by omega), bind_some]
  refine bindB (v := false) ?_ ?_
  · have h1 : (vTime C).2 = gMade C := by unfold vTime; cases gMade C <;> rfl
    have h2 : (vCompound C).2 = gMade C := by unfold vCompound; cases gMade C <;> rfl
    have h3 : (if gMade C = true then ((vOrd C).2, (vOrd C).1, true) else (([] : List Int), (0 : Int), false)).2.2 = gMade C := by cases gMade C <;> rfl
    simp only [beq_self_eq_true, Bool.not_true, cond_false, qInts_refl, bind_some, bne_self_eq_false, seq_eq, decide_true, h1, h2, h3]
  rw [cond_false]
  refine orElB (v := ()) ?_ ?_
  · cases g : gMade C
    · rfl
    · have hl := gMade_len g
      have hm := gMade_mem g
      obtain ⟨b1, b2, b3, b4⟩ := vOrd_best hl.1
      have t1 : vTime C = (st_ C + gs C, true) := by unfold vTime; rw [if_pos g]
      have s1 := st_bd C hm
      have s2 := gs_bd C hm
      rw [if_pos rfl, t1]
      dsimp only
      rw [cond_true]
      have hloop := ok_loop (k := 3000000) (by omega) C hl.2 hm (vOrd C).2 b1 b2 C 0 rfl
      have z1 : (gs (sg C ((vOrd C).2.take 0)), gs (C.take 0), st_ (C.take 0)) = ((0 : Int), (0 : Int), (0 : Int)) := rfl
      rw [z1] at hloop
      refine orElB (v := (gs (sg C (vOrd C).2), gs C, st_ C)) hloop ?_
      dsimp only
      have n1 : (gs (sg C (vOrd C).2) != (vOrd C).1) = false := by rw [← b3]; simp
      have n2 : decide (gs C < (vOrd C).1) = false := decide_eq_false (by omega)
      have n3 : (st_ C + gs C != wr (st_ C + gs C)) = false := by rw [wr_of (by omega) (by omega)]; simp
      rw [n1, n2, n3]
      rfl
  refine orElB (v := ()) ?_ ?_
  · rw [i_Gap_eq hb ha (by omega), bind_some, vGap_symm b a]
    unfold vGap
    cases gSign a && gSign b
    · rfl
    · simp
  rw [i_Alike_eq hy hx (by omega), bind_some, vAlike_symm y x]
  unfold vAlike
  cases gMade x && gMade y
  · rfl
  · simp
end Go.Proofs.XC
