/- Plain laws of the plain functions: no program, no memory. By AI agents; no person has read it. -/
import Derived.Test.YtjjhlccjfdcfcaaGreatDoorPL3
set_option linter.unusedVariables false
set_option linter.unusedSimpArgs false
set_option maxRecDepth 100000
set_option maxHeartbeats 40000000
namespace Go.Proofs.XC
open Go Go.RowKit
/-! ### Drawn lists -/
def Lw {β ρ : Type} (m : Nat) (P : β → Prop) (o : Option ((Int × Int × β) ⊕ ρ)) : Prop := ∃ t s b, o = some (.inl (t, s, b)) ∧ Bg m t ∧ P b
theorem Lw.bind {α β ρ : Type} {n m : Nat} {P : α → Prop} {Q : β → Prop} {o : Option (α × Int × Int)} {f : α × Int × Int → Option ((Int × Int × β) ⊕ ρ)} (h : Dw m P o) (hf : ∀ v t s, Bg m t → P v → Lw n Q (f (v, t, s))) : Lw n Q (Option.bind o f) := by
  obtain ⟨v, t, s, e, hb, hp⟩ := h
  rw [e]
  exact hf v t s hb hp
theorem Lw.cond {β ρ : Type} {n : Nat} {P : β → Prop} {b : Bool} {x y : Option ((Int × Int × β) ⊕ ρ)} (h1 : b = true → Lw n P x) (h2 : b = false → Lw n P y) : Lw n P (bif b then x else y) := by
  cases b
  · exact h2 rfl
  · exact h1 rfl
theorem Lw.pure {α β ρ : Type} {n : Nat} {Q : β → Prop} {o : Option α} {f : α → Option ((Int × Int × β) ⊕ ρ)} {P : α → Prop} (h : ∃ v, o = some v ∧ P v) (hf : ∀ v, P v → Lw n Q (f v)) : Lw n Q (Option.bind o f) := by
  obtain ⟨v, e, hp⟩ := h
  rw [e]
  exact hf v hp
theorem Lw.done {β ρ : Type} {n m : Nat} {P : β → Prop} {b : β} {t s : Int} (h : Bg m t) (hp : P b) (hm : n ≤ m) : Lw (ρ := ρ) n P (some (.inl (t, s, b))) := ⟨t, s, b, rfl, h.le hm, hp⟩
theorem Lw.mono {β ρ : Type} {n m : Nat} {P Q : β → Prop} {o : Option ((Int × Int × β) ⊕ ρ)} (h : Lw m P o) (hm : n ≤ m) (hq : ∀ v, P v → Q v) : Lw n Q o := by
  obtain ⟨t, s, b, e, hb, hp⟩ := h
  exact ⟨t, s, b, e, hb.le hm, hq _ hp⟩
theorem loopLw {β : Type} {body : Int × Int × β → Option ((Int × Int × β) ⊕ (Int × Int × β))} {I : Nat → β → Prop} {n cost : Nat} (hgo : ∀ t s b j m, j < n → I j b → Bg (m + cost) t → Lw m (I (j + 1)) (body (t, s, b))) (hstop : ∀ t s b, I n b → body (t, s, b) = some (.inr (t, s, b))) : ∀ (q j fu m : Nat) (t s : Int) (b : β), j + q = n → q < fu → I j b → Bg (m + cost * q) t → ∃ t' s' b', loopM body fu (t, s, b) = some (t', s', b') ∧ Bg m t' ∧ I n b' := by
  intro q
  induction q with
  | zero =>
    intro j fu m t s b hj hf hi h
    obtain ⟨f, rfl⟩ : ∃ f, fu = f + 1 := ⟨fu - 1, by omega⟩
    obtain rfl : j = n := by omega
    rw [loopM_succ, hstop t s b hi]
    exact ⟨t, s, b, rfl, h.le (by omega), hi⟩
  | succ q ih =>
    intro j fu m t s b hj hf hi h
    obtain ⟨f, rfl⟩ : ∃ f, fu = f + 1 := ⟨fu - 1, by omega⟩
    obtain ⟨t2, s2, b2, e, hb, hi2⟩ := hgo t s b j (m + cost * q) (by omega) hi (h.le (by rw [Nat.mul_succ]; omega))
    rw [loopM_succ, e]
    exact ih (j + 1) f m t2 s2 b2 (by omega) (by omega) hi2 hb
theorem Dw.loop {β γ : Type} {body : Int × Int × β → Option ((Int × Int × β) ⊕ (Int × Int × β))} {I : Nat → β → Prop} {n cost M m k : Nat} {t s : Int} {b : β} {Q : γ → Prop} {f : Int × Int × β → Option (γ × Int × Int)}
    (hgo : ∀ t s b j m, j < n → I j b → Bg (m + cost) t → Lw m (I (j + 1)) (body (t, s, b))) (hstop : ∀ t s b, I n b → body (t, s, b) = some (.inr (t, s, b))) (hi : I 0 b) (hk : n < k) (hb : Bg M t) (hM : m + cost * n ≤ M)
    {m' : Nat} (hf : ∀ t s b, Bg m t → I n b → Dw m' Q (f (t, s, b))) : Dw m' Q (Option.bind (loopM body k (t, s, b)) f) := by
  obtain ⟨t2, s2, b2, e, h, hi2⟩ := loopLw hgo hstop n 0 k m t s b (by omega) hk hi (hb.le hM)
  rw [e]
  exact hf _ _ _ h hi2
theorem appS1 {l : List Sign} {x : Sign} (h : l.length ≤ 100) : appG nSign l [x] = some (l ++ [x]) := by
  unfold appG
  have hby : nSign.by_ = 232 := rfl
  rw [if_pos]
  rw [hby]
  simp only [List.length_cons, List.length_nil]
  omega
def allT (l : List Sign) : Prop := ∀ x ∈ l, tinyS x
theorem allT_app {l : List Sign} {x : Sign} (h : allT l) (hx : tinyS x) : allT (l ++ [x]) := fun y hy => by
  rcases List.mem_append.1 hy with h1 | h1
  · exact h y h1
  · rw [List.mem_singleton] at h1; subst h1; exact hx
theorem allT_set {l : List Sign} {x : Sign} {i : Nat} (h : allT l) (hx : tinyS x) : allT (l.set i x) := fun y hy => by
  rcases List.mem_or_eq_of_mem_set hy with h1 | h1
  · exact h y h1
  · subst h1; exact hx
theorem end_ex {c : List Int} {t s r : Int} {m k : Nat} {l : List Sign} {N : Int} (hc : okB8 c) (h : Bg m t) (hm : 500 ≤ m) (hk : 2000010 ≤ k) (hl : allT l) (hN : N = l.length) : Dw (m - 500) (fun L : List Sign => L.length = l.length ∧ allT L) (bif decide (N > 0) then (Option.bind (X.s_l1Cur_one c t s r) fun v25_4 => (bif v25_4.1 then (Option.bind (X.s_l1Cur_pick c v25_4.2.1 v25_4.2.2 N) fun v26_3 => (Option.bind (X.s_l1Cur_anySign k c v26_3.2.1 v26_3.2.2) fun v26_5 => (Option.bind (getI l v26_3.1) fun y26_6 => some ((List.set l (Int.toNat v26_3.1) v26_5.1), v26_5.2.1, v26_5.2.2)))) else some (l, v25_4.2.1, v25_4.2.2))) else some (l, t, s)) := by
  refine Dw.cond (fun hd => ?_) (fun _ => Dw.done h ⟨rfl, hl⟩ (by omega))
  have hd := of_decide_eq_true hd
  refine Dw.bind (one_ex hc h (by omega)) fun v t s h _ => ?_
  dsimp only
  refine Dw.cond (fun _ => ?_) (fun _ => Dw.done h ⟨rfl, hl⟩ (by omega))
  refine Dw.bind (pick_ex hc h (by omega)) fun v t s h hv => ?_
  refine Dw.bind (anySign_ex hc h (by omega) hk) fun w t s h hw => ?_
  dsimp only
  refine Dw.pure (el_ex (l := l) (by intro e; subst e; simp at hN; omega) (by rw [← hN]; exact hv)) fun x _ => ?_
  exact Dw.done h ⟨by simp, allT_set hl hw⟩ (by omega)
/-! #### Two near signs -/
def Dn (o : Option (Sign × Sign × Int × Int)) : Prop := ∃ a b r, o = some (a, b, r) ∧ tinyS a ∧ tinyS b
theorem Dn.bind {α : Type} {m : Nat} {P : α → Prop} {o : Option (α × Int × Int)} {f : α × Int × Int → Option (Sign × Sign × Int × Int)} (h : Dw m P o) (hf : ∀ v t s, Bg m t → P v → Dn (f (v, t, s))) : Dn (Option.bind o f) := by
  obtain ⟨v, t, s, e, hb, hp⟩ := h
  rw [e]
  exact hf v t s hb hp
theorem Dn.cond {b : Bool} {x y : Option (Sign × Sign × Int × Int)} (h1 : b = true → Dn x) (h2 : b = false → Dn y) : Dn (bif b then x else y) := by
  cases b
  · exact h2 rfl
  · exact h1 rfl
end Go.Proofs.XC
