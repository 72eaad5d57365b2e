/- Plain laws of the plain functions: no program, no memory. By AI agents; no person has read it. -/
import Derived.Test.YtjjhlccjfdcfcaaGreatDoorPL6
import Derived.Test.YtjjhlccjfdcfcaaGreatDoorPQ4
set_option linter.unusedVariables false
set_option linter.unusedSimpArgs false
set_option maxRecDepth 100000
set_option maxHeartbeats 40000000
namespace Go.Proofs.XC
open Go Go.RowKit
/-! ### Roots -/
theorem good_small {s : Sign} (g : gSign s = true) : smallS s := by
  refine ⟨gMove_small (gHand_iff.1 (gSign_main g)).2.2.2, ?_⟩
  cases h : s.Two
  · rw [gSign_none g h]; exact tiny_small z_tiny
  · exact gMove_small (gHand_iff.1 (gSign_other g h).1).2.2.2
/-! #### Draws -/
def smallL (l : List Sign) : Prop := ∀ x ∈ l, smallS x
theorem allT_small {l : List Sign} (h : allT l) : smallL l := fun x hx => tinyS_small (h x hx)
def cpBody (k : Nat) (c : List Int) (N : Int) : Int × Int × List Sign → Option ((Int × Int × List Sign) ⊕ (Int × Int × List Sign)) := fun ⟨n1, n2, l3⟩ => (bif decide ((List.length l3 : Int) < N) then (Option.bind (X.s_l1Cur_sign k c n1 n2) fun v4_2 => (Option.bind (appG nSign l3 ([v4_2.1] : List Sign)) fun y4_4 => some (.inl (v4_2.2.1, v4_2.2.2, y4_4)))) else some (.inr (n1, n2, l3)))
theorem cp_go {c : List Int} {k : Nat} (hc : okB8 c) (hk : 2000010 ≤ k) {n : Nat} (hn : n ≤ 30) : ∀ t s b j m, j < n → liI j b → Bg (m + 210) t → Lw m (liI (j + 1)) (cpBody k c (n : Int) (t, s, b)) := by
  intro t s l j m hj ⟨hl, e⟩ h
  subst e
  unfold cpBody
  dsimp only
  rw [decL hj, cond_true]
  refine Lw.bind (sign_ex hc h (by omega) hk) fun v t s h hv => ?_
  dsimp only
  rw [appS1 (by omega), bind_some]
  exact Lw.done h ⟨allT_app hl hv, by simp⟩ (by omega)
theorem cp_stop {c : List Int} {k n : Nat} : ∀ t s b, liI n b → cpBody k c (n : Int) (t, s, b) = some (.inr (t, s, b)) := by
  intro t s l ⟨_, e⟩
  subst e
  unfold cpBody
  dsimp only
  rw [decE, cond_false]
theorem compound_ex {c : List Int} {t s : Int} {m k : Nat} (hc : okB8 c) (h : Bg m t) (hm : 10000 ≤ m) (hk : 2000010 ≤ k) : Dw (m - 10000) (fun L : List Sign => L.length ≤ 5 ∧ allT L) (X.s_l1Cur_compound k c t s) := by
  unfold X.s_l1Cur_compound
  refine Dw.bind (among_ex hc h (by omega) (by simp)) fun v t s h hv => ?_
  refine Dw.bind (among_ex hc h (by omega) (by simp)) fun w t s h hw => ?_
  dsimp only
  have hb : 0 ≤ w ∧ w ≤ 5 := by
    simp only [List.mem_cons, List.not_mem_nil, or_false] at hv hw
    rcases hv with rfl | rfl | rfl | rfl <;> rcases hw with rfl | rfl | rfl | rfl | rfl <;> omega
  obtain ⟨n, rfl⟩ := Int.eq_ofNat_of_zero_le hb.1
  refine Dw.loop (I := liI) (n := n) (cost := 210) (m := m - 9000) (body := cpBody k c (n : Int)) (cp_go hc hk (by omega)) cp_stop ⟨fun x hx => (by cases hx), rfl⟩ (by omega) h (by omega) fun t s l h ⟨hl, e⟩ => ?_
  exact (end_ex (l := l) hc h (by omega) hk hl (by omega)).mono (by omega) fun L hL => ⟨by have := hL.1; omega, hL.2⟩
theorem compoundOf_ex {c : List Int} {k : Nat} (hc : okB8 c) (hk : 2000010 ≤ k) : ∃ L, X.s_DrawCompoundOf k c = some L ∧ L.length ≤ 5 ∧ smallL L := by
  unfold X.s_DrawCompoundOf
  obtain ⟨L, t, s, e, h, hn, hL⟩ := compound_ex (s := 0) hc Bg.start (by omega) hk
  rw [e]
  exact ⟨L, rfl, hn, allT_small hL⟩
/-! #### The law -/
end Go.Proofs.XC
