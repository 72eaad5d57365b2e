/- Plain laws of the plain functions: no program, no memory. By AI agents; no person has read it. -/
import Derived.Test.YtjjhlccjfdcfcaaGreatDoorPR1
import Derived.Test.YtjjhlccjfdcfcaaGreatDoorPR2
import Derived.Lib.SplitLaws
import Derived.Lib.IndexBytes
import Derived.Test.YtjjhlccjfdcfcaaGreatDoorPQ4
set_option linter.unusedVariables false
set_option linter.unusedSimpArgs false
set_option maxRecDepth 100000
set_option maxHeartbeats 40000000
namespace Go.Proofs.XC
open Go Go.RowKit
/-! ### Draws: a cursor gives something, whatever the bytes are -/
def Bg (n : Nat) (t : Int) : Prop := 0 ≤ t ∧ t + n ≤ 4000000000000000000
def Dw {α : Type} (n : Nat) (P : α → Prop) (o : Option (α × Int × Int)) : Prop := ∃ v t s, o = some (v, t, s) ∧ Bg n t ∧ P v
theorem Bg.le {n m : Nat} {t : Int} (h : Bg m t) (hm : n ≤ m) : Bg n t := ⟨h.1, by have := h.2; omega⟩
theorem Dw.bind {α β : Type} {n m : Nat} {P : α → Prop} {Q : β → Prop} {o : Option (α × Int × Int)} {f : α × Int × Int → Option (β × Int × Int)} (h : Dw m P o) (hf : ∀ v t s, Bg m t → P v → Dw n Q (f (v, t, s))) : Dw n Q (Option.bind o f) := by
  obtain ⟨v, t, s, rfl, hb, hp⟩ := h
  exact hf v t s hb hp
theorem Dw.done {α : Type} {n m : Nat} {P : α → Prop} {v : α} {t s : Int} (h : Bg m t) (hp : P v) (hm : n ≤ m) : Dw n P (some (v, t, s)) := ⟨v, t, s, rfl, h.le hm, hp⟩
theorem Dw.cond {α : Type} {n : Nat} {P : α → Prop} {b : Bool} {x y : Option (α × Int × Int)} (h1 : b = true → Dw n P x) (h2 : b = false → Dw n P y) : Dw n P (bif b then x else y) := by
  cases b
  · exact h2 rfl
  · exact h1 rfl
theorem Dw.pure {α β : Type} {n : Nat} {Q : β → Prop} {o : Option α} {f : α → Option (β × Int × Int)} {P : α → Prop} (h : ∃ v, o = some v ∧ P v) (hf : ∀ v, P v → Dw n Q (f v)) : Dw n Q (Option.bind o f) := by
  obtain ⟨v, rfl, hp⟩ := h
  exact hf v hp
theorem Dw.mono {α : Type} {n m : Nat} {P Q : α → Prop} {o : Option (α × Int × Int)} (h : Dw m P o) (hm : n ≤ m) (hq : ∀ v, P v → Q v) : Dw n Q o := by
  obtain ⟨v, t, s, e, hb, hp⟩ := h
  exact ⟨v, t, s, e, hb.le hm, hq v hp⟩
def okB8 (c : List Int) : Prop := ∀ x ∈ c, 0 ≤ x ∧ x ≤ 255
theorem and255 (x : Int) : 0 ≤ (wr (wk .u64 (Int.ofNat (BitVec.ofInt (IntKind.bits .u64) x &&& BitVec.ofInt (IntKind.bits .u64) 255).toNat))) ∧ (wr (wk .u64 (Int.ofNat (BitVec.ofInt (IntKind.bits .u64) x &&& BitVec.ofInt (IntKind.bits .u64) 255).toNat))) ≤ 255 := by
  have h : (BitVec.ofInt (IntKind.bits .u64) x &&& BitVec.ofInt (IntKind.bits .u64) 255).toNat ≤ 255 := by
    rw [BitVec.toNat_and]
    have : (BitVec.ofInt (IntKind.bits .u64) 255).toNat = 255 := by decide
    rw [this]
    exact Nat.and_le_right
  generalize (BitVec.ofInt (IntKind.bits .u64) x &&& BitVec.ofInt (IntKind.bits .u64) 255).toNat = n at h
  have h2 : wk .u64 (Int.ofNat n) = (n : Int) := by
    unfold wk
    rw [IntKind.wrap_u64]
    show ((n : Nat) : Int) % _ = _
    omega
  rw [h2, wr_of (by omega) (by omega)]
  omega
theorem next_ex {c : List Int} {t s : Int} {m : Nat} (hc : okB8 c) (h : Bg m t) (hm : 1 ≤ m) : Dw (m - 1) (fun v : Int => 0 ≤ v ∧ v ≤ 255) (X.s_l1Cur_next c t s) := by
  obtain ⟨h0, h1⟩ := h
  have w : wr (t + 1) = t + 1 := wr_of (by omega) (by omega)
  have hb : Bg (m - 1) (t + 1) := ⟨by omega, by omega⟩
  unfold X.s_l1Cur_next
  rw [w]
  refine Dw.cond (fun q => ?_) (fun q => ?_)
  · have q : t < (c.length : Int) := of_decide_eq_true q
    have hx : c[t.toNat]? = some c[t.toNat] := List.getElem?_eq_getElem (by omega)
    have hg : getI c t = some c[t.toNat] := by unfold getI; rw [if_pos h0, hx]
    have hxb := hc _ (List.getElem_mem (show t.toNat < c.length by omega))
    rw [hg, bind_some]
    refine Dw.cond (fun q => ?_) (fun q => ?_)
    · exact Dw.done hb (by rw [wr_of (by omega) (by omega)]; exact hxb) (Nat.le_refl _)
    · exact Dw.done hb (and255 _) (Nat.le_refl _)
  · refine Dw.cond (fun q => ?_) (fun q => ?_)
    · exact Dw.done hb ⟨by omega, by omega⟩ (Nat.le_refl _)
    · exact Dw.done hb (and255 _) (Nat.le_refl _)
theorem modI_ex {x n : Int} (hx : 0 ≤ x) (hn : 0 < n) : modI x n = some (Int.tmod x n) ∧ 0 ≤ Int.tmod x n ∧ Int.tmod x n < n := by
  refine ⟨?_, Int.tmod_nonneg _ hx, Int.tmod_lt_of_pos _ hn⟩
  unfold modI
  first
    | rw [if_pos (by omega)]
    | rw [if_neg (by omega)]
theorem pick_ex {c : List Int} {t s n : Int} {m : Nat} (hc : okB8 c) (h : Bg m t) (hm : 2 ≤ m) : Dw (m - 2) (fun v : Int => 0 ≤ v ∧ (v < n ∨ v = 0)) (X.s_l1Cur_pick c t s n) := by
  unfold X.s_l1Cur_pick
  refine Dw.cond (fun q => ?_) (fun q => ?_)
  · exact Dw.done h ⟨by omega, .inr rfl⟩ (by omega)
  · have q : ¬ n ≤ 1 := of_decide_eq_false q
    refine Dw.bind (next_ex hc h (by omega)) fun v t s h hv => ?_
    dsimp only
    refine Dw.cond (fun q => ?_) (fun q => ?_)
    · refine Dw.bind (next_ex hc h (by omega)) fun v2 t s h hv2 => ?_
      dsimp only
      have e : wr (wr (v * 256) + v2) = v * 256 + v2 := by rw [wr_of (z := v * 256) (by omega) (by omega), wr_of (by omega) (by omega)]
      obtain ⟨e1, e2, e3⟩ := modI_ex (x := v * 256 + v2) (n := n) (by omega) (by omega)
      rw [e, e1, bind_some]
      exact Dw.done h ⟨e2, .inl e3⟩ (by omega)
    · obtain ⟨e1, e2, e3⟩ := modI_ex (x := v) (n := n) (by omega) (by omega)
      rw [e1, bind_some]
      exact Dw.done h ⟨e2, .inl e3⟩ (by omega)
theorem one_ex {c : List Int} {t s n : Int} {m : Nat} (hc : okB8 c) (h : Bg m t) (hm : 2 ≤ m) : Dw (m - 2) (fun _ : Bool => True) (X.s_l1Cur_one c t s n) := by
  unfold X.s_l1Cur_one
  exact Dw.bind (pick_ex hc h hm) fun v t s h hv => Dw.done h trivial (Nat.le_refl _)
theorem el_ex {α : Type} {l : List α} {v : Int} (hl : l ≠ []) (hv : 0 ≤ v ∧ (v < (l.length : Int) ∨ v = 0)) : ∃ x, getI l v = some x ∧ x ∈ l := by
  have hpos : 0 < l.length := List.length_pos_iff.2 hl
  have hlt : v.toNat < l.length := by omega
  refine ⟨l[v.toNat], ?_, List.getElem_mem hlt⟩
  unfold getI
  rw [if_pos hv.1]
  exact List.getElem?_eq_getElem hlt
theorem of_ex {c : List Int} {t s : Int} {l : List Str} {m : Nat} (hc : okB8 c) (h : Bg m t) (hm : 2 ≤ m) (hl : l ≠ []) : Dw (m - 2) (fun v => v ∈ l) (X.s_l1Cur_of c t s l) := by
  unfold X.s_l1Cur_of
  refine Dw.bind (pick_ex hc h hm) fun v t s h hv => ?_
  exact Dw.pure (el_ex hl hv) fun x hx => Dw.done h hx (Nat.le_refl _)
theorem among_ex {c : List Int} {t s : Int} {l : List Int} {m : Nat} (hc : okB8 c) (h : Bg m t) (hm : 2 ≤ m) (hl : l ≠ []) : Dw (m - 2) (fun v => v ∈ l) (X.s_l1Cur_among c t s l) := by
  unfold X.s_l1Cur_among
  refine Dw.bind (pick_ex hc h hm) fun v t s h hv => ?_
  exact Dw.pure (el_ex hl hv) fun x hx => Dw.done h hx (Nat.le_refl _)
/-! #### Shapes -/
theorem shape_ex {c : List Int} {t s : Int} {m k : Nat} (hc : okB8 c) (h : Bg m t) (hm : 20 ≤ m) (hk : 10 ≤ k) : Dw (m - 20) (fun _ : Shape => True) (X.s_l1Cur_shape k c t s) := by
  obtain ⟨q, rfl⟩ : ∃ q, k = q + 10 := ⟨k - 10, by omega⟩
  unfold X.s_l1Cur_shape
  refine Dw.bind (one_ex hc h (by omega)) fun v t s h _ => ?_
  dsimp only
  refine Dw.cond (fun _ => ?_) (fun _ => ?_)
  · refine Dw.bind (of_ex hc h (by omega) (by simp)) fun v t s h hv => ?_
    dsimp only
    refine Dw.pure (P := fun _ => True) ?_ fun v _ => Dw.done h trivial (by omega)
    simp only [List.mem_cons, List.not_mem_nil, or_false] at hv
    rcases hv with rfl | rfl | rfl | rfl | rfl | rfl | rfl | rfl | rfl <;> exact ⟨_, rfl, trivial⟩
  · refine Dw.bind (pick_ex hc h (by omega)) fun v1 t s h _ => ?_
    refine Dw.bind (pick_ex hc h (by omega)) fun v2 t s h _ => ?_
    refine Dw.bind (pick_ex hc h (by omega)) fun v3 t s h _ => ?_
    refine Dw.bind (pick_ex hc h (by omega)) fun v4 t s h _ => ?_
    refine Dw.bind (pick_ex hc h (by omega)) fun v5 t s h _ => ?_
    refine Dw.bind (one_ex hc h (by omega)) fun v6 t s h _ => ?_
    refine Dw.pure (P := fun _ => True) ?_ fun v _ => Dw.done h trivial (by omega)
    unfold X.s_shMade
    have e0 : getI [v2, v3, v4, v5] 0 = some v2 := rfl
    have e1 : getI [v2, v3, v4, v5] 1 = some v3 := rfl
    have e2 : getI [v2, v3, v4, v5] 2 = some v4 := rfl
    have e3 : getI [v2, v3, v4, v5] 3 = some v5 := rfl
    simp only [e0, e1, e2, e3, bind_some]
    cases v6
    · exact ⟨_, rfl, trivial⟩
    · rw [cond_true, s_shWide_eq, bind_some]
      exact ⟨_, rfl, trivial⟩
theorem anyShape_ex {c : List Int} {t s : Int} {m k : Nat} (hc : okB8 c) (h : Bg m t) (hm : 40 ≤ m) (hk : 10 ≤ k) : Dw (m - 40) (fun _ : Shape => True) (X.s_l1Cur_anyShape k c t s) := by
  unfold X.s_l1Cur_anyShape
  refine Dw.bind (shape_ex hc h (by omega) hk) fun v t s h _ => ?_
  refine Dw.bind (pick_ex hc h (by omega)) fun v1 t s h _ => ?_
  dsimp only
  refine Dw.cond (fun _ => ?_) (fun _ => Dw.cond (fun _ => ?_) (fun _ => Dw.cond (fun _ => ?_) (fun _ => Dw.cond (fun _ => ?_) (fun _ => ?_))))
  · exact Dw.bind (among_ex hc h (by omega) (by simp)) fun v2 t s h _ => Dw.done h trivial (by omega)
  · exact Dw.bind (among_ex hc h (by omega) (by simp)) fun v2 t s h _ => Dw.done h trivial (by omega)
  · exact Dw.bind (among_ex hc h (by omega) (by simp)) fun v2 t s h _ => Dw.done h trivial (by omega)
  · refine Dw.bind (pick_ex hc h (by omega)) fun v2 t s h _ => ?_
    exact Dw.bind (pick_ex hc h (by omega)) fun v3 t s h _ => Dw.done h trivial (by omega)
  · exact Dw.done h trivial (by omega)
/-! #### Orientations, places -/
theorem s_AllOrients_eq (k : Nat) : ∃ l, X.s_AllOrients (k + 20) = some l ∧ l ≠ [] := ⟨_, rfl, by intro h; cases h⟩
theorem s_plAll_eq (k : Nat) : ∃ l, X.s_plAll (k + 20) = some l ∧ l ≠ [] := ⟨_, rfl, by intro h; cases h⟩
theorem orient_ex {c : List Int} {t s : Int} {m k : Nat} (hc : okB8 c) (h : Bg m t) (hm : 2 ≤ m) (hk : 20 ≤ k) : Dw (m - 2) (fun _ : Orient => True) (X.s_l1Cur_orient k c t s) := by
  obtain ⟨q, rfl⟩ : ∃ q, k = q + 20 := ⟨k - 20, by omega⟩
  unfold X.s_l1Cur_orient
  refine Dw.pure (s_AllOrients_eq q) fun l hl => ?_
  refine Dw.bind (pick_ex hc h (by omega)) fun v t s h hv => ?_
  exact Dw.pure (el_ex hl hv) fun x _ => Dw.done h trivial (Nat.le_refl _)
theorem place_ex {c : List Int} {t s : Int} {m k : Nat} (hc : okB8 c) (h : Bg m t) (hm : 2 ≤ m) (hk : 20 ≤ k) : Dw (m - 2) (fun _ : Place => True) (X.s_l1Cur_place k c t s) := by
  obtain ⟨q, rfl⟩ : ∃ q, k = q + 20 := ⟨k - 20, by omega⟩
  unfold X.s_l1Cur_place
  refine Dw.pure (s_plAll_eq q) fun l hl => ?_
  refine Dw.bind (pick_ex hc h (by omega)) fun v t s h hv => ?_
  exact Dw.pure (el_ex hl hv) fun x _ => Dw.done h trivial (Nat.le_refl _)
theorem anyOrient_ex {c : List Int} {t s : Int} {m k : Nat} (hc : okB8 c) (h : Bg m t) (hm : 10 ≤ m) (hk : 20 ≤ k) : Dw (m - 10) (fun _ : Orient => True) (X.s_l1Cur_anyOrient k c t s) := by
  unfold X.s_l1Cur_anyOrient
  refine Dw.bind (one_ex hc h (by omega)) fun v t s h _ => ?_
  dsimp only
  refine Dw.cond (fun _ => ?_) (fun _ => ?_)
  · refine Dw.bind (pick_ex hc h (by omega)) fun v2 t s h _ => ?_
    exact Dw.bind (pick_ex hc h (by omega)) fun v3 t s h _ => Dw.done h trivial (by omega)
  · exact Dw.bind (orient_ex hc h (by omega) hk) fun v3 t s h _ => Dw.done h trivial (by omega)
theorem anyPlace_ex {c : List Int} {t s : Int} {m k : Nat} (hc : okB8 c) (h : Bg m t) (hm : 10 ≤ m) (hk : 20 ≤ k) : Dw (m - 10) (fun _ : Place => True) (X.s_l1Cur_anyPlace k c t s) := by
  unfold X.s_l1Cur_anyPlace
  refine Dw.bind (place_ex hc h (by omega) hk) fun v t s h _ => ?_
  refine Dw.bind (pick_ex hc h (by omega)) fun v2 t s h _ => ?_
  dsimp only
  refine Dw.cond (fun _ => ?_) (fun _ => Dw.cond (fun _ => ?_) (fun _ => Dw.cond (fun _ => ?_) (fun _ => ?_)))
  · exact Dw.bind (among_ex hc h (by omega) (by simp)) fun v2 t s h _ => Dw.done h trivial (by omega)
  · exact Dw.bind (among_ex hc h (by omega) (by simp)) fun v2 t s h _ => Dw.done h trivial (by omega)
  · exact Dw.done h trivial (by omega)
  · exact Dw.done h trivial (by omega)
end Go.Proofs.XC
