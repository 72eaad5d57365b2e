/- Plain laws of the plain functions: no program, no memory. By AI agents; no person has read it. -/
import Derived.Test.YtjjhlccjfdcfcaaGreatDoorPK3
import Derived.Test.YtjjhlccjfdcfcaaGreatDoorPZ7
set_option linter.unusedVariables false
set_option linter.unusedSimpArgs false
set_option maxRecDepth 100000
set_option maxHeartbeats 40000000
namespace Go.Proofs.XC
open Go Go.RowKit
/-! ### Drawn lists -/
def Lw {β ρ : Type} (m : Nat) (P : β → Prop) (o : Option ((Int × Int × β) ⊕ ρ)) : Prop := ∃ t s b, o = some (.inl (t, s, b)) ∧ Bg m t ∧ P b
theorem Lw.bind {α β ρ : Type} {n m : Nat} {P : α → Prop} {Q : β → Prop} {o : Option (α × Int × Int)} {f : α × Int × Int → Option ((Int × Int × β) ⊕ ρ)} (h : Dw m P o) (hf : ∀ v t s, Bg m t → P v → Lw n Q (f (v, t, s))) : Lw n Q (Option.bind o f) := by
  obtain ⟨v, t, s, e, hb, hp⟩ := h
  rw [e]
  exact hf v t s hb hp
theorem Lw.done {β ρ : Type} {n m : Nat} {P : β → Prop} {b : β} {t s : Int} (h : Bg m t) (hp : P b) (hm : n ≤ m) : Lw (ρ := ρ) n P (some (.inl (t, s, b))) := ⟨t, s, b, rfl, h.le hm, hp⟩
theorem appS1 {l : List Sign} {x : Sign} (h : l.length ≤ 100) : appG nSign l [x] = some (l ++ [x]) := by
  unfold appG
  have hby : nSign.by_ = 232 := rfl
  rw [if_pos]
  rw [hby]
  simp only [List.length_cons, List.length_nil]
  omega
/-! #### Two near signs -/
def Dn (o : Option (Sign × Sign × Int × Int)) : Prop := ∃ a b r, o = some (a, b, r) ∧ tinyS a ∧ tinyS b
theorem Dn.bind {α : Type} {m : Nat} {P : α → Prop} {o : Option (α × Int × Int)} {f : α × Int × Int → Option (Sign × Sign × Int × Int)} (h : Dw m P o) (hf : ∀ v t s, Bg m t → P v → Dn (f (v, t, s))) : Dn (Option.bind o f) := by
  obtain ⟨v, t, s, e, hb, hp⟩ := h
  rw [e]
  exact hf v t s hb hp
end Go.Proofs.XC
