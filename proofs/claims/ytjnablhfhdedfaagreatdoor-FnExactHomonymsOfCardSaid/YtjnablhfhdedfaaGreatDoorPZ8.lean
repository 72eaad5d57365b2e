/- Plain laws of the plain functions: no program, no memory. By AI agents; no person has read it. -/
import Derived.Test.YtjnablhfhdedfaaGreatDoorPZ7
set_option linter.unusedVariables false
set_option linter.unusedSimpArgs false
set_option maxRecDepth 100000
set_option maxHeartbeats 40000000
namespace Go.Proofs.XC
open Go Go.RowKit
/-! ### Lists of texts -/
theorem eqStringS_eq {l m : List Str} (h : l.length ≤ 1048576) : X.l_eqStringS 3000000 l m = some (decide (l = m)) := by
  unfold X.l_eqStringS
  by_cases hl : l.length = m.length
  · have e : ((l.length : Int) != (m.length : Int)) = false := by simp [hl]
    rw [e, cond_false]
    refine same_gen l m hl (by omega) ?_ ?_
    · intro i x y hx hy
      have hw := wr_suc (n := i) (by have := lt_get hx; omega)
      simp only [dec_lt hx, cond_true, getI_of hx, getI_of hy, bind_some, seq_eq, hw]
      by_cases hxy : x = y <;> simp [hxy]
    · simp only [dec_end, cond_false]
  · have e : ((l.length : Int) != (m.length : Int)) = true := by simp; omega
    rw [e, cond_true]
    have : l ≠ m := fun e => hl (by rw [e])
    simp [this]
theorem markStringS_eq {l : List Str} {k : Int} (hk0 : 0 ≤ k) (hk : k ≤ 1000000000000) (hlen : l.length ≤ 1048576) : X.l_markStringS 3000000 l k = some (k + 1 * (l.length : Int), mks mt 1 k l.length) := by
  unfold X.l_markStringS
  rw [mark_gen mt (c := 1) l (by omega) (by omega) hk0 hk hlen (by omega) ?_ ?_]
  · rfl
  · intro i q s y h0 h1 hi hy
    have hd : decide ((i : Int) < (l.length : Int)) = true := by simp; omega
    simp only [hd, cond_true, getI_of hy, bind_some, wr_suc (show i ≤ 4611686018427387904 by omega), Int.toNat_natCast, mt_of (z := q) (by omega)]
    rw [wr_of (by omega) (by omega)]
  · intro q s
    simp only [dec_end, cond_false]
theorem heldStringS_eq {n : Nat} {k : Int} (hk0 : 0 ≤ k) (hk : k ≤ 1000000000000) (hlen : n ≤ 1048576) : X.l_heldStringS 3000000 (mks mt 1 k n) k = some (k + 1 * (n : Int)) := by
  unfold X.l_heldStringS
  rw [held_gen mt (c := 1) (n := n) (by omega) (by omega) hk0 hk hlen (by omega) ?_ ?_]
  · rfl
  · intro i q h0 h1 hi hy
    have hd : decide ((i : Int) < ((mks mt 1 k n).length : Int)) = true := by rw [mks_len]; simp; omega
    simp only [hd, cond_true, getI_of hy, bind_some, wr_suc (show i ≤ 4611686018427387904 by omega), mt_of (z := q) (by omega), ne_s, cond_false]
    rw [wr_of (by omega) (by omega)]
  · intro q
    have hd : decide ((n : Int) < ((mks mt 1 k n).length : Int)) = false := by rw [mks_len]; simp
    simp only [hd, cond_false]
/-! ### Old texts -/
def oldT (h : Hand) : Str := [83, 61] ++ tShape h.Shape ++ [59, 79, 61] ++ tOrient h.Orient ++ [59, 80, 61] ++ tPlace h.Place ++ [59, 77, 61] ++ tMove h.Move
theorem old_eqs {k : Nat} {h : Hand} (g : gHand h = true) : X.i_Hand_old h = some (oldT h) ∧ X.s_imText (k + 1) h = some (oldT h) ∧ (oldT h).length ≤ 100 := by
  obtain ⟨g1, g2, g3, g4⟩ := gHand_iff.1 g
  have l1 := tShape_len h.Shape
  have l2 : (tOrient h.Orient).length = 2 := rfl
  have l3 := tPlace_len h.Place
  have l4 := tMove_len g4
  have c : ∀ a b : Str, a.length + b.length ≤ 1000 → catS a b = some (a ++ b) := fun a b h => catS_of (by omega)
  refine ⟨?_, ?_, ?_⟩
  · unfold X.i_Hand_old oldT
    rw [i_Shape_text_eq g1, bind_some, c _ _ (by simp; omega), bind_some, c _ _ (by simp; omega), bind_some, i_Orient_text_eq g2, bind_some, c _ _ (by simp; omega), bind_some, c _ _ (by simp; omega), bind_some, (place_eqs g3).1, bind_some, c _ _ (by simp; omega), bind_some, c _ _ (by simp; omega), bind_some, i_Move_text_eq g4, bind_some, c _ _ (by simp; omega), bind_some]
  · unfold X.s_imText oldT
    rw [s_shText_eq k g1, bind_some, c _ _ (by simp; omega), bind_some, c _ _ (by simp; omega), bind_some, s_orText_eq g2, bind_some, c _ _ (by simp; omega), bind_some, c _ _ (by simp; omega), bind_some, (place_eqs g3).2, bind_some, c _ _ (by simp; omega), bind_some, c _ _ (by simp; omega), bind_some, s_mvText_eq k g4, bind_some, c _ _ (by simp; omega), bind_some]
  · unfold oldT
    simp
    omega
def oldS (s : Sign) : Str := if s.Two then oldT s.Main ++ ([124] ++ oldT s.Other) else oldT s.Main
theorem map_gen {α β : Type} {e : Enc β} (F : α → β) {body : Int → α → List β → Option (List β ⊕ List β)} (hby : e.by_ ≤ 1000) : ∀ (l : List α) (j : Nat) (acc : List β), acc.length + l.length ≤ 1000000000 →
    (∀ (i : Nat) x s, l[i]? = some x → body ((j + i : Nat) : Int) x s = Option.bind (appG e s [F x]) fun y => some (.inl y)) → rangeM body (fun s => some s) l j acc = some (acc ++ l.map F)
  | [], j, acc, _, _ => by simp [rangeM_nil]
  | x :: l, j, acc, hl, h => by
    have h0 := h 0 x acc rfl
    simp only [Nat.add_zero] at h0
    have ha : appG e acc [F x] = some (acc ++ [F x]) := by
      unfold appG
      simp only [List.length_cons] at hl
      rw [if_pos]
      have : (acc.length + [F x].length) * e.by_ ≤ 1000000000 * 1000 := Nat.mul_le_mul (by simp; omega) hby
      omega
    rw [rangeM_cons, h0, ha, bind_some, bind_some]
    simp only [List.length_cons] at hl
    show rangeM body (fun s => some s) l (j + 1) (acc ++ [F x]) = _
    rw [map_gen F hby l (j + 1) (acc ++ [F x]) (by simp; omega) (fun i y s hy => by
      have := h (i + 1) y s hy
      rw [show j + (i + 1) = j + 1 + i by omega] at this
      exact this)]
    simp
def vExport (l : List Sign) : List Str × Bool := if l.all gSign && decide (l.length ≤ 20) then (l.map oldS, true) else ([], false)
theorem gSign_old {s : Sign} (g : gSign s = true) (h : s.Two = true) : gHand s.Other = true := (gSign_other g h).1
theorem i_ExportAll_eq {k : Nat} {l : List Sign} (hs : ∀ s ∈ l, smallS s) (hl : l.length ≤ 1048576) (hk : 10 ≤ k) : X.i_ExportAll k l = some (vExport l) := by
  unfold X.i_ExportAll vExport
  rw [i_areSigns_eq hs hk, bind_some]
  have e : decide ((l.length : Int) ≤ 20) = decide (l.length ≤ 20) := by rw [Bool.eq_iff_iff]; simp; omega
  rw [e]
  cases h1 : l.all gSign <;> cases h2 : decide (l.length ≤ 20) <;> simp only [Bool.true_and, Bool.false_and, Bool.and_true, Bool.and_false, Bool.not_true, Bool.not_false, cond_true, cond_false, bind_some, if_true, Bool.false_eq_true, if_false]
  have h : ∀ s ∈ l, gSign s = true := by simpa using h1
  rw [map_gen (e := eS) oldS (by decide) l 0 [] (by simp; omega) (fun i x s hx => ?_)]
  · rfl
  · have g := h x (List.mem_of_getElem? hx)
    have o := old_eqs (k := 0) (gSign_main g)
    rw [o.1, bind_some]
    unfold oldS
    cases h2 : x.Two
    · rfl
    · have o2 := old_eqs (k := 0) (gSign_old g h2)
      have hc : catS ([124] : Str) (oldT x.Other) = some ([124] ++ oldT x.Other) := catS_of (by have := o2.2.2; simp; omega)
      have hc2 : catS (oldT x.Main) ([124] ++ oldT x.Other) = some (oldT x.Main ++ ([124] ++ oldT x.Other)) := catS_of (by have := o2.2.2; have := o.2.2; simp; omega)
      simp only [cond_true, o2.1, bind_some, hc, hc2, if_true]
theorem s_ExportAll_eq {k : Nat} {l : List Sign} (hs : ∀ s ∈ l, smallS s) (hl : l.length ≤ 1048576) (hk : 2000010 ≤ k) : X.s_ExportAll k l = some (vExport l) := by
  obtain ⟨q, rfl⟩ : ∃ q, k = q + 1 := ⟨k - 1, by omega⟩
  unfold X.s_ExportAll vExport
  rw [s_paList_eq hs hk, bind_some]
  cases h1 : l.all gSign <;> cases h2 : decide (l.length ≤ 20) <;> simp only [Bool.true_and, Bool.false_and, Bool.and_true, Bool.and_false, Bool.not_true, Bool.not_false, cond_true, cond_false, bind_some, if_true, Bool.false_eq_true, if_false]
  have h : ∀ s ∈ l, gSign s = true := by simpa using h1
  rw [map_gen (e := eS) oldS (by decide) l 0 [] (by simp; omega) (fun i x s hx => ?_)]
  · rfl
  · have g := h x (List.mem_of_getElem? hx)
    have o := old_eqs (k := q) (gSign_main g)
    rw [o.2.1, bind_some]
    unfold oldS
    cases h2 : x.Two
    · rfl
    · have o2 := old_eqs (k := q) (gSign_old g h2)
      have hc : catS ([124] : Str) (oldT x.Other) = some ([124] ++ oldT x.Other) := catS_of (by have := o2.2.2; simp; omega)
      have hc2 : catS (oldT x.Main) ([124] ++ oldT x.Other) = some (oldT x.Main ++ ([124] ++ oldT x.Other)) := catS_of (by have := o2.2.2; have := o.2.2; simp; omega)
      simp only [cond_true, o2.2.1, bind_some, hc, hc2, if_true]
theorem vExport_len (l : List Sign) : (vExport l).1.length ≤ l.length := by
  unfold vExport
  split <;> simp
theorem Pure.FnExactExportAll (l : List Sign) (hl : okL okSign l) : X.l_FnExactExportAll 3000000 l = some true := by
  unfold X.l_FnExactExportAll
  obtain ⟨r, hr, h⟩ := szSignS_eq (z := 1048576) hl (by omega) (by omega)
  rw [hr, bind_some]
  rcases h with h | ⟨h1, hs, h, _⟩
  · have : decide (r < 0) = true := by simpa using h
    rw [this]
    rfl
  have : decide (r < 0) = false := by simpa using h
  rw [this, cond_false]
  have hvl : (vExport l).1.length ≤ 1048576 := Nat.le_trans (vExport_len l) h1
  have hp1 : decide (1 + 27 * (l.length : Int) < 0) = false := by simp; omega
  have hp2 : decide (1 + 1 * ((vExport l).1.length : Int) < 0) = false := by simp; omega
  simp only [toSignS_eq h1, bind_some, i_ExportAll_eq hs h1 (show 10 ≤ 3000000 by omega), s_ExportAll_eq hs h1 (show 2000010 ≤ 3000000 by omega), eqSignS_eq h1, eqStringS_eq hvl,
    markSignS_eq (show (0 : Int) ≤ 1 by omega) (show (1 : Int) ≤ 1000000000000 by omega) h1,
    markStringS_eq (show (0 : Int) ≤ 1 by omega) (show (1 : Int) ≤ 1000000000000 by omega) hvl, heldStringS_eq (show (0 : Int) ≤ 1 by omega) (show (1 : Int) ≤ 1000000000000 by omega) hvl, hp1, hp2]
  simp
end Go.Proofs.XC
