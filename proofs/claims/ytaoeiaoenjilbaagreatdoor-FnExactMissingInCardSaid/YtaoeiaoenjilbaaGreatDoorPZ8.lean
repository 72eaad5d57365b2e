/- Plain laws of the plain functions: no program, no memory. By AI agents; no person has read it. -/
import Derived.Test.YtaoeiaoenjilbaaGreatDoorPZ7
set_option linter.unusedVariables false
set_option linter.unusedSimpArgs false
set_option maxRecDepth 100000
set_option maxHeartbeats 40000000
namespace Go.Proofs.XC
open Go Go.RowKit
/-! ### Lists of texts -/
theorem eqStringS_eq {l m : List Str} (h : l.length ≤ 1048576) : X.l_eqStringS 3000000 l m = some (decide (l = m)) := by
  unfold X.l_eqStringS
  by_cases hl : l.length = m.length
  · have e : ((l.length : Int) != (m.length : Int)) = false := by simp [hl]
    rw [e, cond_false]
    refine same_gen l m hl (by omega) ?_ ?_
    · intro i x y hx hy
      have hw := wr_suc (n := i) (by have := lt_get hx; omega)
      simp only [dec_lt hx, cond_true, getI_of hx, getI_of hy, bind_some, seq_eq, hw]
      by_cases hxy : x = y <;> simp [hxy]
    · simp only [dec_end, cond_false]
  · have e : ((l.length : Int) != (m.length : Int)) = true := by simp; omega
    rw [e, cond_true]
    have : l ≠ m := fun e => hl (by rw [e])
    simp [this]
theorem markStringS_eq {l : List Str} {k : Int} (hk0 : 0 ≤ k) (hk : k ≤ 1000000000000) (hlen : l.length ≤ 1048576) : X.l_markStringS 3000000 l k = some (k + 1 * (l.length : Int), mks mt 1 k l.length) := by
  unfold X.l_markStringS
  rw [mark_gen mt (c := 1) l (by omega) (by omega) hk0 hk hlen (by omega) ?_ ?_]
  · rfl
  · intro i q s y h0 h1 hi hy
    have hd : decide ((i : Int) < (l.length : Int)) = true := by simp; omega
    simp only [hd, cond_true, getI_of hy, bind_some, wr_suc (show i ≤ 4611686018427387904 by omega), Int.toNat_natCast, mt_of (z := q) (by omega)]
    rw [wr_of (by omega) (by omega)]
  · intro q s
    simp only [dec_end, cond_false]
theorem heldStringS_eq {n : Nat} {k : Int} (hk0 : 0 ≤ k) (hk : k ≤ 1000000000000) (hlen : n ≤ 1048576) : X.l_heldStringS 3000000 (mks mt 1 k n) k = some (k + 1 * (n : Int)) := by
  unfold X.l_heldStringS
  rw [held_gen mt (c := 1) (n := n) (by omega) (by omega) hk0 hk hlen (by omega) ?_ ?_]
  · rfl
  · intro i q h0 h1 hi hy
    have hd : decide ((i : Int) < ((mks mt 1 k n).length : Int)) = true := by rw [mks_len]; simp; omega
    simp only [hd, cond_true, getI_of hy, bind_some, wr_suc (show i ≤ 4611686018427387904 by omega), mt_of (z := q) (by omega), ne_s, cond_false]
    rw [wr_of (by omega) (by omega)]
  · intro q
    have hd : decide ((n : Int) < ((mks mt 1 k n).length : Int)) = false := by rw [mks_len]; simp
    simp only [hd, cond_false]
/-! ### Old texts -/
def oldT (h : Hand) : Str := [83, 61] ++ tShape h.Shape ++ [59, 79, 61] ++ tOrient h.Orient ++ [59, 80, 61] ++ tPlace h.Place ++ [59, 77, 61] ++ tMove h.Move
def oldS (s : Sign) : Str := if s.Two then oldT s.Main ++ ([124] ++ oldT s.Other) else oldT s.Main
theorem map_gen {α β : Type} {e : Enc β} (F : α → β) {body : Int → α → List β → Option (List β ⊕ List β)} (hby : e.by_ ≤ 1000) : ∀ (l : List α) (j : Nat) (acc : List β), acc.length + l.length ≤ 1000000000 →
    (∀ (i : Nat) x s, l[i]? = some x → body ((j + i : Nat) : Int) x s = Option.bind (appG e s [F x]) fun y => some (.inl y)) → rangeM body (fun s => some s) l j acc = some (acc ++ l.map F)
  | [], j, acc, _, _ => by simp [rangeM_nil]
  | x :: l, j, acc, hl, h => by
    have h0 := h 0 x acc rfl
    simp only [Nat.add_zero] at h0
    have ha : appG e acc [F x] = some (acc ++ [F x]) := by
      unfold appG
      simp only [List.length_cons] at hl
      rw [if_pos]
      have : (acc.length + [F x].length) * e.by_ ≤ 1000000000 * 1000 := Nat.mul_le_mul (by simp; omega) hby
      omega
    rw [rangeM_cons, h0, ha, bind_some, bind_some]
    simp only [List.length_cons] at hl
    show rangeM body (fun s => some s) l (j + 1) (acc ++ [F x]) = _
    rw [map_gen F hby l (j + 1) (acc ++ [F x]) (by simp; omega) (fun i y s hy => by
      have := h (i + 1) y s hy
      rw [show j + (i + 1) = j + 1 + i by omega] at this
      exact this)]
    simp
def vExport (l : List Sign) : List Str × Bool := if l.all gSign && decide (l.length ≤ 20) then (l.map oldS, true) else ([], false)
theorem gSign_old {s : Sign} (g : gSign s = true) (h : s.Two = true) : gHand s.Other = true := (gSign_other g h).1
theorem vExport_len (l : List Sign) : (vExport l).1.length ≤ l.length := by
  unfold vExport
  split <;> simp
end Go.Proofs.XC
