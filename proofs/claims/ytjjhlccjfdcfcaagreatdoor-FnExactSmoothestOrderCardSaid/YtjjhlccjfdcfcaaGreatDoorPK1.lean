/- Plain laws of the plain functions: no program, no memory. By AI agents; no person has read it. -/
import Derived.Test.YtjjhlccjfdcfcaaGreatDoorPR1
import Derived.Test.YtjjhlccjfdcfcaaGreatDoorPR2
import Derived.Lib.SplitLaws
import Derived.Lib.IndexBytes
import Derived.Test.YtjjhlccjfdcfcaaGreatDoorPZ7
import Derived.Test.YtjjhlccjfdcfcaaGreatDoorPY
set_option linter.unusedVariables false
set_option linter.unusedSimpArgs false
set_option maxRecDepth 100000
set_option maxHeartbeats 40000000
namespace Go.Proofs.XC
open Go Go.RowKit
/-! ### Draws: a cursor gives something, whatever the bytes are -/
def Bg (n : Nat) (t : Int) : Prop := 0 ≤ t ∧ t + n ≤ 4000000000000000000
def Dw {α : Type} (n : Nat) (P : α → Prop) (o : Option (α × Int × Int)) : Prop := ∃ v t s, o = some (v, t, s) ∧ Bg n t ∧ P v
theorem Bg.le {n m : Nat} {t : Int} (h : Bg m t) (hm : n ≤ m) : Bg n t := ⟨h.1, by have := h.2; omega⟩
theorem Dw.bind {α β : Type} {n m : Nat} {P : α → Prop} {Q : β → Prop} {o : Option (α × Int × Int)} {f : α × Int × Int → Option (β × Int × Int)} (h : Dw m P o) (hf : ∀ v t s, Bg m t → P v → Dw n Q (f (v, t, s))) : Dw n Q (Option.bind o f) := by
  obtain ⟨v, t, s, rfl, hb, hp⟩ := h
  exact hf v t s hb hp
theorem Dw.done {α : Type} {n m : Nat} {P : α → Prop} {v : α} {t s : Int} (h : Bg m t) (hp : P v) (hm : n ≤ m) : Dw n P (some (v, t, s)) := ⟨v, t, s, rfl, h.le hm, hp⟩
/-! #### Shapes -/
/-! #### Orientations, places -/
end Go.Proofs.XC
