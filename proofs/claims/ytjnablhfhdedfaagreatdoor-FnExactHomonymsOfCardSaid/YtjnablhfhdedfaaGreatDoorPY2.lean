/- Plain laws of the plain functions: no program, no memory. By AI agents; no person has read it. -/
import Derived.Test.YtjnablhfhdedfaaGreatDoorPY1
set_option linter.unusedVariables false
set_option linter.unusedSimpArgs false
set_option maxRecDepth 100000
set_option maxHeartbeats 40000000
namespace Go.Proofs.XC
open Go Go.RowKit
/-! ### Entries: sizes, copies, comparison -/
theorem eqEntry_eq (a b : Entry) : X.l_eqEntry a b = some (decide (a = b)) := by
  unfold X.l_eqEntry
  simp only [eqSign_eq, bne, beq_dec, seq_eq, bind_some]
  obtain ⟨a1, a2, a3, a4⟩ := a
  obtain ⟨b1, b2, b3, b4⟩ := b
  simp only [Entry.mk.injEq]
  by_cases h1 : a1 = b1 <;> by_cases h2 : a2 = b2 <;> by_cases h3 : a3 = b3 <;> by_cases h4 : a4 = b4 <;> simp [h1, h2, h3, h4]
theorem toEntry_eq (a : Entry) : X.l_toEntry a = some a := rfl
theorem ex_mono {α : Type} {e : Option α} {P Q : α → Prop} (h : ∃ r, e = some r ∧ P r) (hpq : ∀ r, P r → Q r) : ∃ r, e = some r ∧ Q r := by
  obtain ⟨r, h1, h2⟩ := h
  exact ⟨r, h1, hpq r h2⟩
theorem szEntry_eq {x : Entry} {z : Int} (h : okEntry x) (h0 : 0 ≤ z) (h1 : z ≤ 1048576) : ∃ r, X.l_szEntry x z = some r ∧ (r < 0 ∨ (smallE x ∧ 0 ≤ r ∧ r ≤ z)) := by
  unfold X.l_szEntry
  have hg : x.Gloss.length ≤ 9223372036854775807 := h.1
  rw [wr_of (by omega) (by omega)]
  by_cases hz : z < x.Gloss.length
  · have : decide (z - (x.Gloss.length : Int) < 0) = true := by simp; omega
    rw [this]
    exact ⟨-1, rfl, .inl (by omega)⟩
  · have : decide (z - (x.Gloss.length : Int) < 0) = false := by simp; omega
    rw [this, cond_false]
    obtain ⟨r, hr, h2⟩ := szSign_eq (z := z - (x.Gloss.length : Int)) (fitS_of h.2.1) (by omega) (by omega)
    rw [hr, bind_some]
    rcases h2 with h2 | ⟨hs, h2, h3⟩
    · have : decide (r < 0) = true := by simpa using h2
      rw [this]
      exact ⟨-1, rfl, .inl (by omega)⟩
    · have : decide (r < 0) = false := by simpa using h2
      rw [this]
      exact ⟨r, rfl, .inr ⟨⟨hs, by omega⟩, h2, by omega⟩⟩
theorem szEntryS_eq {l : List Entry} {z : Int} (h : okL okEntry l) (h0 : 0 ≤ z) (h1 : z ≤ 1048576) : ∃ r, X.l_szEntryS 3000000 l z = some r ∧ (r < 0 ∨ (l.length ≤ 1048576 ∧ (∀ x ∈ l, smallE x) ∧ 0 ≤ r ∧ r ≤ z)) := by
  unfold X.l_szEntryS
  have hg := h.1
  rw [wr_of (by omega) (by omega)]
  by_cases hz : z < l.length
  · have : decide (z - (l.length : Int) < 0) = true := by simp; omega
    rw [this]
    exact ⟨-1, rfl, .inl (by omega)⟩
  · have : decide (z - (l.length : Int) < 0) = false := by simp; omega
    rw [this, cond_false]
    refine ex_mono (size_gen l X.l_szEntry smallE (by omega) (by omega) (by omega) (by omega) (fun x hx z h0 h1 => szEntry_eq (h.2 x hx) h0 h1) ?_ ?_) ?_
    · intro i x z hx
      simp only [dec_lt hx, cond_true, getI_of hx, bind_some]
    · intro z
      simp only [dec_end, cond_false]
    · rintro r (h2 | ⟨h2, h3, h4⟩)
      · exact .inl h2
      · exact .inr ⟨by omega, h2, h3, by omega⟩
theorem toEntryS_eq {l : List Entry} (h : l.length ≤ 1048576) : X.l_toEntryS 3000000 l = some l := by
  unfold X.l_toEntryS
  refine (copy_gen l (fun x => x) (show 264 * l.length ≤ _ by omega) (by omega) (by omega) ?_ ?_).trans (by rw [List.map_id'])
  · intro i x s hx hs
    have hw := wr_suc (n := i) (by have := lt_get hx; omega)
    obtain ⟨y, hy⟩ : ∃ y, s[i]? = some y := ⟨_, List.getElem?_eq_getElem (by rw [hs]; exact lt_get hx)⟩
    simp only [dec_lt hx, cond_true, getI_of hx, bind_some, toEntry_eq, getI_of hy, hw, Int.toNat_natCast]
  · intro s
    simp only [dec_end, cond_false]
theorem eqEntryS_eq {l m : List Entry} (h : l.length ≤ 1048576) : X.l_eqEntryS 3000000 l m = some (decide (l = m)) := by
  unfold X.l_eqEntryS
  by_cases hl : l.length = m.length
  · have e : ((l.length : Int) != (m.length : Int)) = false := by simp [hl]
    rw [e, cond_false]
    refine same_gen l m hl (by omega) ?_ ?_
    · intro i x y hx hy
      have hw := wr_suc (n := i) (by have := lt_get hx; omega)
      simp only [dec_lt hx, cond_true, getI_of hx, getI_of hy, bind_some, eqEntry_eq, hw]
      by_cases hxy : x = y <;> simp [hxy]
    · simp only [dec_end, cond_false]
  · have e : ((l.length : Int) != (m.length : Int)) = true := by simp; omega
    rw [e, cond_true]
    have : l ≠ m := fun e => hl (by rw [e])
    simp [this]
end Go.Proofs.XC
