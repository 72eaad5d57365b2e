/- Plain laws of the plain functions: no program, no memory. By AI agents; no person has read it. -/
import Derived.Test.YtldkmmopfhhdgaaGreatDoorPZ4
import Derived.Test.YtldkmmopfhhdgaaGreatDoorPY
set_option linter.unusedVariables false
set_option linter.unusedSimpArgs false
set_option maxRecDepth 100000
set_option maxHeartbeats 40000000
namespace Go.Proofs.XC
open Go Go.RowKit
/-! ### The constraint that is broken most -/
theorem count_gen {α : Type} (p : α → Bool) {body : Int → α → Int → Option (Int ⊕ Int)} : ∀ (l : List α) (j i : Nat) (n : Nat), n + l.length ≤ 4000000 → (∀ (j : Int) x (n : Int), x ∈ l → body j x n = some (.inl (if p x then wr (n + 1) else n))) →
    rangeM body (fun n => some n) l j (n : Int) = some (((n + (ixs p l i).length : Nat) : Int)) := by
  intro l
  induction l with
  | nil => intro j i n _ _; simp [rangeM, ixs]
  | cons x l ih =>
    intro j i n hn hb
    rw [rangeM_cons, hb _ x _ (List.mem_cons_self ..), bind_some]
    simp only [List.length_cons] at hn
    have hb' : ∀ (j : Int) x (n : Int), x ∈ l → body j x n = some (.inl (if p x then wr (n + 1) else n)) := fun j y n hy => hb j y n (List.mem_cons_of_mem _ hy)
    unfold ixs
    by_cases h : p x = true
    · simp only [h, if_true, wr_suc (show n ≤ 4611686018427387904 by omega)]
      rw [ih (j + 1) (i + 1) (n + 1) (by omega) hb']
      congr 1
      simp only [List.length_cons]
      omega
    · simp only [h, Bool.false_eq_true, if_false]
      exact ih (j + 1) (i + 1) n (by omega) hb'
end Go.Proofs.XC
