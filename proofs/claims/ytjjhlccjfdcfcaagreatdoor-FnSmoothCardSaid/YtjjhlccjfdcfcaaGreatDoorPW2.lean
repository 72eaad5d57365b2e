/- Plain laws of the plain functions: no program, no memory. By AI agents; no person has read it. -/
import Derived.Test.YtjjhlccjfdcfcaaGreatDoorPZ3
import Derived.Test.YtjjhlccjfdcfcaaGreatDoorPY
set_option linter.unusedVariables false
set_option linter.unusedSimpArgs false
set_option maxRecDepth 100000
set_option maxHeartbeats 40000000
namespace Go.Proofs.XC
open Go Go.RowKit
/-! ### Lists made one by one, lists written one by one -/
def mapG {α β : Type} (F : Nat → α → β) : List α → Nat → List β
  | [], _ => []
  | x :: l, j => F j x :: mapG F l (j + 1)
theorem mapG_gen {α β ρ : Type} {e : Enc β} (F : Nat → α → β) {body : Int → α → List β → Option (List β ⊕ ρ)} {fin : List β → Option ρ} (hby : e.by_ ≤ 1000) : ∀ (l : List α) (j : Nat) (acc : List β), acc.length + l.length ≤ 1000000000 →
    (∀ (i : Nat) x s, l[i]? = some x → body ((j + i : Nat) : Int) x s = Option.bind (appG e s [F (j + i) x]) fun y => some (.inl y)) → rangeM body fin l j acc = fin (acc ++ mapG F l j)
  | [], j, acc, _, _ => by simp [rangeM_nil, mapG]
  | x :: l, j, acc, hl, h => by
    have h0 := h 0 x acc rfl
    simp only [Nat.add_zero] at h0
    have ha : appG e acc [F j x] = some (acc ++ [F j x]) := by
      unfold appG
      simp only [List.length_cons] at hl
      rw [if_pos]
      have : (acc.length + [F j x].length) * e.by_ ≤ 1000000000 * 1000 := Nat.mul_le_mul (by simp; omega) hby
      omega
    rw [rangeM_cons, h0, ha, bind_some, bind_some]
    simp only [List.length_cons] at hl
    show rangeM body fin l (j + 1) (acc ++ [F j x]) = _
    rw [mapG_gen F hby l (j + 1) (acc ++ [F j x]) (by simp; omega) (fun i y s hy => by
      have := h (i + 1) y s hy
      rw [show j + (i + 1) = j + 1 + i by omega] at this
      exact this)]
    simp [mapG]
theorem set_gen {α ρ : Type} (F : α → α) (l : List α) {m : Nat} (hm : m ≤ l.length) (hb : l.length ≤ 1000000000) {body : Int → List α → Option (List α ⊕ ρ)} {fin : List α → Option ρ}
    (h : ∀ (i : Nat) y s, i < m → l[i]? = some y → s[i]? = some y → body (i : Int) s = some (.inl (s.set i (F y)))) : rangeN body fin (m : Int) l = fin ((l.take m).map F ++ l.drop m) := by
  have key : ∀ (d i : Nat), i + d = m → rangeM (fun j (_ : Nat) s => body j s) fin (List.range' i d) i ((l.take i).map F ++ l.drop i) = fin ((l.take m).map F ++ l.drop m) := by
    intro d
    induction d with
    | zero =>
      intro i hi
      simp only [Nat.add_zero] at hi
      subst hi
      rfl
    | succ d ih =>
      intro i hi
      have hlt : i < l.length := by omega
      obtain ⟨y, hy⟩ : ∃ y, l[i]? = some y := ⟨_, List.getElem?_eq_getElem hlt⟩
      have hlen : ((l.take i).map F).length = i := by simp; omega
      have hs : ((l.take i).map F ++ l.drop i)[i]? = some y := by
        rw [List.getElem?_append_right (by omega), hlen, Nat.sub_self]
        simpa using hy
      rw [List.range'_succ, rangeM_cons, h i y _ (by omega) hy hs, bind_some]
      have e : ((l.take i).map F ++ l.drop i).set i (F y) = (l.take (i + 1)).map F ++ l.drop (i + 1) := by
        apply List.ext_getElem?
        intro q
        have hlen1 : ((l.take (i + 1)).map F).length = i + 1 := by simp; omega
        rcases Nat.lt_trichotomy q i with hq | hq | hq
        · rw [List.getElem?_set_ne (by omega), List.getElem?_append_left (by omega), List.getElem?_append_left (by omega)]
          simp [List.getElem?_take, hq, Nat.lt_succ_of_lt hq]
        · subst hq
          rw [List.getElem?_set_self (by simp; omega), List.getElem?_append_left (by omega)]
          simp [List.getElem?_take, hy]
        · rw [List.getElem?_set_ne (by omega), List.getElem?_append_right (by omega), List.getElem?_append_right (by omega), hlen, hlen1]
          rw [List.getElem?_drop, List.getElem?_drop]
          congr 1
          omega
      show rangeM _ fin (List.range' (i + 1) d) (i + 1) _ = _
      rw [e]
      exact ih (i + 1) (by omega)
  unfold rangeN
  rw [if_pos (by omega)]
  have := key m 0 (by omega)
  rw [← List.range_eq_range'] at this
  simpa using this
end Go.Proofs.XC
