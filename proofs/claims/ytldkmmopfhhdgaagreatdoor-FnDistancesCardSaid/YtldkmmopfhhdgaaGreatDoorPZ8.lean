/- Plain laws of the plain functions: no program, no memory. By AI agents; no person has read it. -/
import Derived.Test.YtldkmmopfhhdgaaGreatDoorPZ7
set_option linter.unusedVariables false
set_option linter.unusedSimpArgs false
set_option maxRecDepth 100000
set_option maxHeartbeats 40000000
namespace Go.Proofs.XC
open Go Go.RowKit
/-! ### Lists of texts -/
/-! ### Old texts -/
def oldT (h : Hand) : Str := [83, 61] ++ tShape h.Shape ++ [59, 79, 61] ++ tOrient h.Orient ++ [59, 80, 61] ++ tPlace h.Place ++ [59, 77, 61] ++ tMove h.Move
def oldS (s : Sign) : Str := if s.Two then oldT s.Main ++ ([124] ++ oldT s.Other) else oldT s.Main
theorem map_gen {α β : Type} {e : Enc β} (F : α → β) {body : Int → α → List β → Option (List β ⊕ List β)} (hby : e.by_ ≤ 1000) : ∀ (l : List α) (j : Nat) (acc : List β), acc.length + l.length ≤ 1000000000 →
    (∀ (i : Nat) x s, l[i]? = some x → body ((j + i : Nat) : Int) x s = Option.bind (appG e s [F x]) fun y => some (.inl y)) → rangeM body (fun s => some s) l j acc = some (acc ++ l.map F)
  | [], j, acc, _, _ => by simp [rangeM_nil]
  | x :: l, j, acc, hl, h => by
    have h0 := h 0 x acc rfl
    simp only [Nat.add_zero] at h0
    have ha : appG e acc [F x] = some (acc ++ [F x]) := by
      unfold appG
      simp only [List.length_cons] at hl
      rw [if_pos]
      have : (acc.length + [F x].length) * e.by_ ≤ 1000000000 * 1000 := Nat.mul_le_mul (by simp; omega) hby
      omega
    rw [rangeM_cons, h0, ha, bind_some, bind_some]
    simp only [List.length_cons] at hl
    show rangeM body (fun s => some s) l (j + 1) (acc ++ [F x]) = _
    rw [map_gen F hby l (j + 1) (acc ++ [F x]) (by simp; omega) (fun i y s hy => by
      have := h (i + 1) y s hy
      rw [show j + (i + 1) = j + 1 + i by omega] at this
      exact this)]
    simp
def vExport (l : List Sign) : List Str × Bool := if l.all gSign && decide (l.length ≤ 20) then (l.map oldS, true) else ([], false)
theorem gSign_old {s : Sign} (g : gSign s = true) (h : s.Two = true) : gHand s.Other = true := (gSign_other g h).1
theorem vExport_len (l : List Sign) : (vExport l).1.length ≤ l.length := by
  unfold vExport
  split <;> simp
end Go.Proofs.XC
