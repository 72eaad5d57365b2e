/- Plain laws of the plain functions: no program, no memory. By AI agents; no person has read it. -/
import Derived.Test.YtldkmmopfhhdgaaGreatDoorPX
set_option linter.unusedVariables false
set_option linter.unusedSimpArgs false
set_option maxRecDepth 100000
set_option maxHeartbeats 40000000
namespace Go.Proofs.XC
open Go Go.RowKit
/-! ### Loops over an index -/
theorem wr_suc {n : Nat} (h : n ≤ 4611686018427387904) : wr ((n : Int) + 1) = ((n + 1 : Nat) : Int) := by
  rw [wr_of (by omega) (by omega)]
  omega
theorem getI_of {α : Type} {l : List α} {i : Nat} {x : α} (h : l[i]? = some x) : getI l (i : Int) = some x := by
  unfold getI
  rw [if_pos (by omega)]
  simpa using h
theorem lt_get {α : Type} {l : List α} {i : Nat} {x : α} (h : l[i]? = some x) : i < l.length := (List.getElem?_eq_some_iff.1 h).1
theorem dec_lt {α : Type} {l : List α} {i : Nat} {x : α} (h : l[i]? = some x) : decide ((i : Int) < (l.length : Int)) = true := by
  have := lt_get h
  simp
  omega
theorem dec_end (n : Nat) : decide ((n : Int) < (n : Int)) = false := by simp
theorem loopF {α σ τ ρ : Type} {body : τ → Option (τ ⊕ ρ)} {k : Nat} (en : Nat → σ → τ) (l : List α) (g : Nat → α → σ → σ ⊕ ρ) (f : σ → ρ) (inv : Nat → σ → Prop) {s0 : σ} (hv : inv 0 s0)
    (h1 : ∀ (i : Nat) x s, l[i]? = some x → inv i s → body (en i s) = some (match g i x s with | .inl s' => .inl (en (i + 1) s') | .inr r => .inr r))
    (h2 : ∀ s, inv l.length s → body (en l.length s) = some (.inr (f s)))
    (hi : ∀ (i : Nat) x s s', l[i]? = some x → inv i s → g i x s = .inl s' → inv (i + 1) s') (hk : l.length < k) : loopM body k (en 0 s0) = some (foldS g f l 0 s0) := by
  have key : ∀ (r : List α) (i k : Nat) (s : σ), l.drop i = r → i ≤ l.length → inv i s → r.length < k → loopM body k (en i s) = some (foldS g f r i s) := by
    intro r
    induction r with
    | nil =>
      intro i k s hd hi' hv hk
      have : l.length ≤ i := List.drop_eq_nil_iff.1 hd
      have hil : i = l.length := by omega
      subst hil
      obtain ⟨k, rfl⟩ : ∃ q, k = q + 1 := ⟨k - 1, by simp at hk; omega⟩
      rw [loopM_succ, h2 s hv]
      rfl
    | cons x r ih =>
      intro i k s hd hi' hv hk
      have hlt : i < l.length := by
        rcases Nat.lt_or_ge i l.length with h | h
        · exact h
        · rw [List.drop_eq_nil_of_le h] at hd; cases hd
      have hx : l[i]? = some x := by
        have := congrArg (fun l => l[0]?) hd
        simpa using this
      have hd' : l.drop (i + 1) = r := by rw [← List.drop_drop (i := 1) (j := i), hd]; rfl
      obtain ⟨k, rfl⟩ : ∃ q, k = q + 1 := ⟨k - 1, by simp at hk; omega⟩
      rw [loopM_succ, h1 i x s hx hv, bind_some, foldS]
      cases hg : g i x s with
      | inr q => rfl
      | inl s' => exact ih (i + 1) k s' hd' (by omega) (hi i x s s' hx hv hg) (by simp at hk ⊢; omega)
  exact key l 0 k s0 rfl (Nat.zero_le _) hv hk
/-- A loop without an end ahead of the end. -/
theorem foldS_inl {α σ ρ : Type} (g : Nat → α → σ → σ) (f : σ → ρ) : ∀ (l : List α) (j : Nat) (s : σ), ∃ s', foldS (fun i x s => (Sum.inl (g i x s) : σ ⊕ ρ)) f l j s = f s'
  | [], j, s => ⟨s, rfl⟩
  | x :: l, j, s => foldS_inl g f l (j + 1) (g j x s)
/-- A copy, element by element. -/
theorem copy_gen {α β : Type} {e : Enc β} {z : β} (l : List α) (F : α → β) {body : Int × List β → Option ((Int × List β) ⊕ List β)} {k : Nat} (hby : e.by_ * l.length ≤ 140737488355328) (hlen : l.length ≤ 4611686018427387904) (hk : l.length < k)
    (h1 : ∀ (i : Nat) x s, l[i]? = some x → s.length = l.length → body ((i : Int), s) = some (.inl (((i + 1 : Nat) : Int), s.set i (F x)))) (h2 : ∀ s, body ((l.length : Int), s) = some (.inr s)) :
    (Option.bind (mkI e z (l.length : Int)) fun y => Option.bind (loopM body k (0, y)) fun r => some r) = some (l.map F) := by
  have hm : mkI e z (l.length : Int) = some (List.replicate l.length z) := by
    unfold mkI
    rw [if_pos ⟨by omega, by simpa using hby⟩]
    simp
  rw [hm, bind_some]
  have key : loopM body k (0, List.replicate l.length z) = some (l.map F) := by
    have := loopF (body := body) (k := k) (σ := List β) (ρ := List β) (fun i s => ((i : Int), s)) l (fun i x s => .inl (s.set i (F x))) (fun s => s) (fun i s => s.length = l.length ∧ ∀ j, j < i → s[j]? = (l[j]?).map F) (s0 := List.replicate l.length z) ⟨by simp, fun j hj => by omega⟩
      (fun i x s hx hv => h1 i x s hx hv.1) (fun s _ => h2 s) (fun i x s s' hx hv hg => by
        simp only [Sum.inl.injEq] at hg
        subst hg
        refine ⟨by rw [List.length_set]; exact hv.1, fun j hj => ?_⟩
        by_cases hji : i = j
        · subst hji
          rw [List.getElem?_set_self (by rw [hv.1]; exact lt_get hx), hx]
          rfl
        · rw [List.getElem?_set_ne hji]
          exact hv.2 j (by omega)) hk
    have e0 : ((0 : Int), List.replicate l.length z) = (((0 : Nat) : Int), List.replicate l.length z) := rfl
    rw [e0, this]
    congr 1
    have gen : ∀ (r : List α) (i : Nat) (s : List β), l.drop i = r → i ≤ l.length → s.length = l.length → (∀ j, j < i → s[j]? = (l[j]?).map F) → foldS (fun i x s => (Sum.inl (s.set i (F x)) : List β ⊕ List β)) (fun s => s) r i s = l.map F := by
      intro r
      induction r with
      | nil =>
        intro i s hd hi hs hv
        have : l.length ≤ i := List.drop_eq_nil_iff.1 hd
        apply List.ext_getElem?
        intro j
        show s[j]? = _
        rw [List.getElem?_map]
        rcases Nat.lt_or_ge j i with h | h
        · exact hv j h
        · rw [List.getElem?_eq_none (by omega), List.getElem?_eq_none (by omega)]
          rfl
      | cons x r ih =>
        intro i s hd hi hs hv
        have hx : l[i]? = some x := by
          have := congrArg (fun l => l[0]?) hd
          simpa using this
        have hd' : l.drop (i + 1) = r := by rw [← List.drop_drop (i := 1) (j := i), hd]; rfl
        have hlt := lt_get hx
        refine ih (i + 1) (s.set i (F x)) hd' (by omega) (by rw [List.length_set]; exact hs) fun j hj => ?_
        by_cases hji : i = j
        · subst hji
          rw [List.getElem?_set_self (by omega), hx]
          rfl
        · rw [List.getElem?_set_ne hji]
          exact hv j (by omega)
    exact gen l 0 _ rfl (Nat.zero_le _) (by simp) (fun j hj => by omega)
  rw [key]
  rfl
/-- Are two rows one? -/
theorem same_gen {α : Type} [DecidableEq α] (l m : List α) {body : Int → Option (Int ⊕ (Bool ⊕ Unit))} {k : Nat} (hlen : l.length = m.length) (hk : l.length < k)
    (h1 : ∀ (i : Nat) x y, l[i]? = some x → m[i]? = some y → body (i : Int) = some (if x = y then .inl ((i + 1 : Nat) : Int) else .inr (.inl false))) (h2 : body (l.length : Int) = some (.inr (.inr ()))) :
    orEl (loopM body k 0) (fun r => some r) (fun _ => some true) = some (decide (l = m)) := by
  have h := loopF (body := body) (k := k) (σ := Unit) (fun i _ => (i : Int)) (l.zip m) (fun i x _ => if x.1 = x.2 then .inl () else .inr (.inl false)) (fun _ => .inr ()) (fun _ _ => True) (s0 := ()) trivial
    (fun i x s hx _ => by
      obtain ⟨x1, x2⟩ := x
      rw [List.getElem?_zip_eq_some] at hx
      simp only
      rw [h1 i x1 x2 hx.1 hx.2]
      by_cases h : x1 = x2 <;> simp [h]) (fun s _ => by rw [List.length_zip, ← hlen, Nat.min_self]; exact h2) (fun _ _ _ _ _ _ _ => trivial) (by rw [List.length_zip, ← hlen, Nat.min_self]; exact hk)
  have e0 : (0 : Int) = ((0 : Nat) : Int) := rfl
  rw [e0, h]
  have gen : ∀ (l m : List α) (j : Nat), l.length = m.length → foldS (fun i (x : α × α) (_ : Unit) => if x.1 = x.2 then (Sum.inl () : Unit ⊕ (Bool ⊕ Unit)) else .inr (.inl false)) (fun _ => .inr ()) (l.zip m) j () = if l = m then .inr () else .inl false := by
    intro l
    induction l with
    | nil =>
      intro m j hl
      cases m with
      | nil => rfl
      | cons _ _ => cases hl
    | cons x l ih =>
      intro m j hl
      cases m with
      | nil => cases hl
      | cons y m =>
        simp only [List.zip_cons_cons, foldS, List.cons.injEq]
        by_cases hxy : x = y
        · simp only [hxy, if_true, true_and]
          exact ih m (j + 1) (by simpa using hl)
        · simp [hxy]
  rw [gen l m 0 hlen]
  by_cases h : l = m <;> simp [h, orEl]
/-- Sizes taken off, one by one. -/
theorem size_gen {α : Type} (l : List α) (F : α → Int → Option Int) (small : α → Prop) {body : Int × Int → Option ((Int × Int) ⊕ (Int ⊕ Int))} {k : Nat} {z : Int} (hz0 : 0 ≤ z) (hz : z ≤ 1048576) (hlen : l.length ≤ 4611686018427387904) (hk : l.length < k)
    (hF : ∀ x ∈ l, ∀ z : Int, 0 ≤ z → z ≤ 1048576 → ∃ r, F x z = some r ∧ (r < 0 ∨ (small x ∧ 0 ≤ r ∧ r ≤ z)))
    (h1 : ∀ (i : Nat) x (z : Int), l[i]? = some x → body (z, (i : Int)) = Option.bind (F x z) fun v => bif decide (v < 0) then some (.inr (.inl (-1))) else some (.inl (v, wr ((i : Int) + 1)))) (h2 : ∀ z : Int, body (z, (l.length : Int)) = some (.inr (.inr z))) :
    ∃ r, orEl (loopM body k (z, 0)) (fun r => some r) (fun n => some n) = some r ∧ (r < 0 ∨ ((∀ x ∈ l, small x) ∧ 0 ≤ r ∧ r ≤ z)) := by
  have gen : ∀ (r : List α) (i k : Nat) (z : Int), l.drop i = r → i ≤ l.length → 0 ≤ z → z ≤ 1048576 → r.length < k → ∃ q, loopM body k (z, (i : Int)) = some q ∧ (q = .inl (-1) ∨ ∃ z', q = .inr z' ∧ (∀ x ∈ r, small x) ∧ 0 ≤ z' ∧ z' ≤ z) := by
    intro r
    induction r with
    | nil =>
      intro i k z hd hi h0 hz hk
      have : l.length ≤ i := List.drop_eq_nil_iff.1 hd
      have hil : i = l.length := by omega
      subst hil
      obtain ⟨k, rfl⟩ : ∃ q, k = q + 1 := ⟨k - 1, by simp at hk; omega⟩
      rw [loopM_succ, h2]
      exact ⟨.inr z, rfl, .inr ⟨z, rfl, (fun x hx => by cases hx), h0, Int.le_refl _⟩⟩
    | cons x r ih =>
      intro i k z hd hi h0 hz hk
      have hx : l[i]? = some x := by
        have := congrArg (fun l => l[0]?) hd
        simpa using this
      have hd' : l.drop (i + 1) = r := by rw [← List.drop_drop (i := 1) (j := i), hd]; rfl
      have hlt := lt_get hx
      obtain ⟨k, rfl⟩ : ∃ q, k = q + 1 := ⟨k - 1, by simp at hk; omega⟩
      obtain ⟨v, hv, hv2⟩ := hF x (List.mem_of_getElem? hx) z h0 hz
      rw [loopM_succ, h1 i x z hx, hv, bind_some]
      rcases hv2 with hv2 | ⟨hs, hv2, hv3⟩
      · have : decide (v < 0) = true := by simpa using hv2
        rw [this, cond_true, bind_some]
        exact ⟨.inl (-1), rfl, .inl rfl⟩
      · have : decide (v < 0) = false := by simpa using hv2
        rw [this, cond_false, bind_some, wr_suc (by omega)]
        obtain ⟨q, hq, hq2⟩ := ih (i + 1) k v hd' (by omega) hv2 (by omega) (by simp at hk ⊢; omega)
        refine ⟨q, hq, ?_⟩
        rcases hq2 with hq2 | ⟨z', hq2, hq3, hq4, hq5⟩
        · exact .inl hq2
        · refine .inr ⟨z', hq2, fun y hy => ?_, hq4, by omega⟩
          rcases List.mem_cons.1 hy with rfl | hy
          · exact hs
          · exact hq3 y hy
  obtain ⟨q, hq, hq2⟩ := gen l 0 k z rfl (Nat.zero_le _) hz0 hz hk
  have e0 : (z, (0 : Int)) = (z, ((0 : Nat) : Int)) := rfl
  rw [e0, hq]
  rcases hq2 with rfl | ⟨z', rfl, h3, h4, h5⟩
  · exact ⟨-1, rfl, .inl (by omega)⟩
  · exact ⟨z', rfl, .inr ⟨h3, h4, h5⟩⟩
end Go.Proofs.XC
namespace Go.Proofs.XC
open Go Go.RowKit
/-! ### Tests with the index -/
def allIx {α : Type} (p : Nat → α → Bool) : List α → Nat → Bool
  | [], _ => true
  | x :: l, i => p i x && allIx p l (i + 1)
theorem allIx_iff {α : Type} (p : Nat → α → Bool) : ∀ (l : List α) (j : Nat), allIx p l j = true ↔ ∀ i x, l[i]? = some x → p (j + i) x = true
  | [], j => by simp [allIx]
  | x :: l, j => by
    simp only [allIx, Bool.and_eq_true, allIx_iff p l (j + 1)]
    constructor
    · rintro ⟨h1, h2⟩ i y hy
      cases i with
      | zero => simp at hy; subst hy; exact h1
      | succ i => simp at hy; have := h2 i y hy; rw [show j + (i + 1) = j + 1 + i by omega]; exact this
    · intro h
      refine ⟨h 0 x rfl, fun i y hy => ?_⟩
      have := h (i + 1) y (by simpa using hy)
      rw [show j + (i + 1) = j + 1 + i by omega] at this
      exact this
theorem foldS_test {α ρ : Type} (p : Nat → α → Bool) (a b : ρ) : ∀ (l : List α) (i : Nat), foldS (fun i x (_ : Unit) => if p i x then .inl () else .inr b) (fun _ => a) l i () = if allIx p l i then a else b
  | [], i => rfl
  | x :: l, i => by
    rw [foldS, allIx]
    cases h : p i x
    · simp
    · simp [foldS_test p a b l (i + 1)]
theorem rangeT {α : Type} {body : Int → α → Unit → Option (Unit ⊕ (Bool ⊕ Unit))} {fin : Unit → Option (Bool ⊕ Unit)} (p : Nat → α → Bool) (l : List α) (h1 : ∀ (i : Nat) x, l[i]? = some x → body (i : Int) x () = some (if p i x then .inl () else .inr (.inl false))) (h2 : fin () = some (.inr ())) {F : Unit → Option Bool} :
    orEl (rangeM body fin l 0 ()) (fun r => some r) F = if allIx p l 0 then F () else some false := by
  have h := ranM (body := body) (fin := fin) (fun i x (_ : Unit) => if p i x then Sum.inl () else Sum.inr (Sum.inl false)) (fun _ => Sum.inr ()) (fun _ _ => True) l 0 () trivial (fun i x s hx _ => by have := h1 i x hx; rw [Nat.zero_add]; exact this) (fun _ _ => h2) (fun _ _ _ _ _ _ _ => trivial)
  rw [h, foldS_test]
  cases allIx p l 0 <;> rfl
/-! ### Glosses -/
def isCap (b : UInt8) : Bool := decide (65 ≤ b.toNat) && decide (b.toNat ≤ 90)
def caps : Str := [65, 66, 67, 68, 69, 70, 71, 72, 73, 74, 75, 76, 77, 78, 79, 80, 81, 82, 83, 84, 85, 86, 87, 88, 89, 90]
theorem caps_ix : ((List.range 256).all fun n => decide (Lib.indexByte caps (UInt8.ofNat n) < 0) == !(isCap (UInt8.ofNat n))) = true := by decide +kernel
theorem indexByte_caps (b : UInt8) : decide (Lib.indexByte caps (((b.toNat : Int)).toNat).toUInt8 < 0) = !(isCap b) := by
  have e : (((b.toNat : Int)).toNat).toUInt8 = b := by
    rw [Int.toNat_natCast]
    exact UInt8.ofNat_toNat
  rw [e]
  have h := List.all_eq_true.1 caps_ix b.toNat (List.mem_range.2 b.toNat_lt)
  simp only [UInt8.ofNat_toNat, beq_iff_eq] at h
  exact h
def gGloss (s : Str) : Bool := decide (1 ≤ s.length ∧ s.length ≤ 8) && s.all isCap
theorem hasCaps_eq (s : Str) (hl : s.length ≤ 2000000) : X.i_hasOnly s caps = some (s.all isCap) := by
  unfold X.i_hasOnly
  rw [ranN s (fun _ x (_ : Unit) => if isCap x then Sum.inl () else Sum.inr (Sum.inl false)) (fun _ => Sum.inr ()) rfl (by omega) ?_ (fun _ => rfl), foldS_all]
  · cases s.all isCap <;> rfl
  · intro i x _ hx
    rw [getB_of hx, bind_some]
    unfold X.strings_IndexByte
    rw [bind_some, indexByte_caps x]
    cases isCap x <;> rfl
/-! ### Entries -/
def cmpI (a b : Int) : Int := if a < b then -1 else if b < a then 1 else 0
def or2 (a b : Int) : Int := if a ≠ 0 then a else b
end Go.Proofs.XC
namespace Go.Proofs.XC
open Go Go.RowKit
/-! ### Entries: sizes, copies, comparison -/
theorem ex_mono {α : Type} {e : Option α} {P Q : α → Prop} (h : ∃ r, e = some r ∧ P r) (hpq : ∀ r, P r → Q r) : ∃ r, e = some r ∧ Q r := by
  obtain ⟨r, h1, h2⟩ := h
  exact ⟨r, h1, hpq r h2⟩
end Go.Proofs.XC
namespace Go.Proofs.XC
open Go Go.RowKit
/-! ### Uses -/
/-- The places of the elements for which p holds. -/
def ixs {α : Type} (p : α → Bool) : List α → Nat → List Int
  | [], _ => []
  | x :: l, j => if p x then (j : Int) :: ixs p l (j + 1) else ixs p l (j + 1)
theorem ixs_len {α : Type} (p : α → Bool) : ∀ (l : List α) (j : Nat), (ixs p l j).length ≤ l.length
  | [], j => by simp [ixs]
  | x :: l, j => by
    have := ixs_len p l (j + 1)
    unfold ixs
    split <;> simp <;> omega
theorem those_gen {α : Type} (p : α → Bool) {body : Int → α → List Int → Option (List Int ⊕ List Int)} {fin : List Int → Option (List Int)} (h2 : ∀ s, fin s = some s) : ∀ (l : List α) (j : Nat) (acc : List Int), acc.length + l.length ≤ 1000000000000 →
    (∀ (i : Nat) x s, l[i]? = some x → body ((j + i : Nat) : Int) x s = if p x then Option.bind (appG (eI .i64) s [((j + i : Nat) : Int)]) (fun y => some (.inl y)) else some (.inl s)) → rangeM body fin l j acc = some (acc ++ ixs p l j)
  | [], j, acc, _, _ => by rw [rangeM_nil, h2]; simp [ixs]
  | x :: l, j, acc, hl, hb => by
    have h0 := hb 0 x acc rfl
    have hb' : ∀ (i : Nat) y s, l[i]? = some y → body ((j + 1 + i : Nat) : Int) y s = if p y then Option.bind (appG (eI .i64) s [((j + 1 + i : Nat) : Int)]) (fun y => some (.inl y)) else some (.inl s) := fun i y s hy => by
      have := hb (i + 1) y s (by simpa using hy)
      rw [show j + (i + 1) = j + 1 + i by omega] at this
      exact this
    simp only [Nat.add_zero] at h0
    rw [rangeM_cons, h0]
    by_cases h : p x = true
    · have ha : appG (eI .i64) acc [(j : Int)] = some (acc ++ [(j : Int)]) := by
        unfold appG
        rw [if_pos]
        show (acc.length + 1) * 8 ≤ _
        simp at hl
        omega
      simp only [h, if_true, ha, bind_some]
      rw [those_gen p h2 l (j + 1) (acc ++ [(j : Int)]) (by simp at hl ⊢; omega) hb']
      simp [ixs, h]
    · simp only [h, if_false, bind_some, Bool.false_eq_true]
      rw [those_gen p h2 l (j + 1) acc (by simp at hl ⊢; omega) hb']
      simp [ixs, h]
/-! ### The entry for a region -/
theorem bytesLess_trans : ∀ {a b c : Str}, Op.bytesLess a b = true → Op.bytesLess b c = true → Op.bytesLess a c = true
  | _, _, [], _, h => by simp [Op.bytesLess] at h
  | _, [], _ :: _, h, _ => by simp [Op.bytesLess] at h
  | [], _ :: _, _ :: _, _, _ => rfl
  | x :: a, y :: b, z :: c, h1, h2 => by
    simp only [Op.bytesLess, Bool.or_eq_true, Bool.and_eq_true, decide_eq_true_iff, beq_iff_eq] at h1 h2 ⊢
    rcases h1 with h1 | ⟨rfl, h1⟩
    · rcases h2 with h2 | ⟨rfl, h2⟩
      · exact .inl (UInt8.lt_trans h1 h2)
      · exact .inl h1
    · rcases h2 with h2 | ⟨rfl, h2⟩
      · exact .inl h2
      · exact .inr ⟨rfl, bytesLess_trans h1 h2⟩
/-- The first place where p holds, or else n. -/
def fst_ {α : Type} (p : α → Bool) : List α → Nat → Int → Int
  | [], _, n => n
  | x :: l, j, n => if p x then (j : Int) else fst_ p l (j + 1) n
theorem fst_pos {α : Type} (p : α → Bool) : ∀ (l : List α) (j : Nat), fst_ p l j (-1) < 0 ↔ l.any p = false
  | [], j => by simp [fst_]
  | x :: l, j => by
    unfold fst_
    by_cases h : p x = true
    · simp [h]
    · simp [h, fst_pos p l (j + 1)]
end Go.Proofs.XC
namespace Go.Proofs.XC
open Go Go.RowKit
/-! ### Lists of signs -/
/-- All of them. -/
theorem all_range {α : Type} {F : α → Option Bool} (p : α → Bool) (l : List α) (hF : ∀ x ∈ l, F x = some (p x)) {G : Unit → Option Bool} :
    orEl (rangeM (fun (j2 : Int) (x3 : α) (_ : Unit) => (Option.bind (F x3) fun v => (bif (!v) then some (.inr (Sum.inl false)) else some (.inl ())))) (fun _ => some (Sum.inr ())) l 0 ()) (fun r => some r) G = if l.all p then G () else some false := by
  have key : ∀ (l : List α) (j : Nat), (∀ x ∈ l, F x = some (p x)) → rangeM (fun (j2 : Int) (x3 : α) (_ : Unit) => (Option.bind (F x3) fun v => (bif (!v) then some (.inr (Sum.inl false)) else some (.inl ())))) (fun _ => some (Sum.inr ())) l j () = some (if l.all p then .inr () else .inl false) := by
    intro l
    induction l with
    | nil => intro j _; rfl
    | cons x l ih =>
      intro j hF
      rw [rangeM_cons, hF x List.mem_cons_self, bind_some]
      cases h : p x
      · simp [h, bind_some]
      · simp only [Bool.not_true, cond_false, bind_some, List.all_cons, h, Bool.true_and]
        exact ih (j + 1) fun y hy => hF y (List.mem_cons_of_mem _ hy)
  rw [key l 0 hF]
  cases l.all p <;> rfl
theorem s_paList_eq {k : Nat} {l : List Sign} (hs : ∀ x ∈ l, smallS x) (hk : 2000010 ≤ k) : X.s_paList k l = some (l.all gSign && decide (l.length ≤ 20)) := by
  unfold X.s_paList
  rw [all_range gSign l fun x hx => s_siGood_eq (hs x hx) hk]
  cases l.all gSign
  · rfl
  · simp
    omega
theorem s_noList_eq {k : Nat} {l : List Sign} (hs : ∀ x ∈ l, smallS x) (hk : 2000010 ≤ k) : X.s_noList k l = some (l.all gSign && decide (l.length ≤ 16)) := by
  unfold X.s_noList
  rw [all_range gSign l fun x hx => s_siGood_eq (hs x hx) hk]
  cases l.all gSign
  · rfl
  · simp
    omega
theorem contains_eq (l : List Sign) (F : Sign → Option Bool) (p : Sign → Bool) (hF : ∀ x ∈ l, F x = some (p x)) : X.slices_ContainsFunc_i_Sign_i_Sign l F = some (l.any p) := by
  unfold X.slices_ContainsFunc_i_Sign_i_Sign X.slices_IndexFunc_i_Sign_i_Sign
  exact anyF_eq p F l hF
theorem i_allOf_eq (l : List Sign) (F : Sign → Option Bool) (p : Sign → Bool) (hF : ∀ x ∈ l, F x = some (p x)) : X.i_allOf_i_Sign l F = some (l.all p) := by
  unfold X.i_allOf_i_Sign
  rw [contains_eq l _ (fun x => !(p x)) fun x hx => by unfold X.i_allOf_i_Sign_1; rw [hF x hx]; rfl]
  simp only [bind_some]
  congr 1
  rw [List.any_eq_not_all_not]
  simp
theorem i_areSigns_eq {k : Nat} {l : List Sign} {n : Int} (hs : ∀ x ∈ l, smallS x) (hk : 10 ≤ k) : X.i_areSigns k l n = some (decide ((l.length : Int) ≤ n) && l.all gSign) := by
  unfold X.i_areSigns
  rw [i_allOf_eq l _ gSign fun x hx => i_IsSign_eq (hs x hx) hk]
  cases decide ((l.length : Int) ≤ n) <;> rfl
/-! ### Texts of compounds -/
def tSign (s : Sign) : Str := if s.Two then tHand s.Main ++ [43] ++ tHand s.Other else tHand s.Main
theorem tSign_len {s : Sign} (g : gSign s = true) : (tSign s).length ≤ 61 := by
  have h1 := tHand_len (gSign_main g)
  unfold tSign
  split
  · rename_i h
    have h2 := tHand_len (gSign_other g h).1
    simp
    omega
  · omega
def gMade (l : List Sign) : Bool := decide (2 ≤ l.length ∧ l.length ≤ 4) && l.all gSign
theorem gMade_mem {l : List Sign} (h : gMade l = true) : ∀ x ∈ l, gSign x = true := by
  unfold gMade at h
  rw [Bool.and_eq_true, List.all_eq_true] at h
  exact h.2
theorem join_cons (sep a : Str) (l : List Str) (h : l ≠ []) : Lib.join (a :: l) sep = a ++ sep ++ Lib.join l sep := by
  unfold Lib.join
  cases l with
  | nil => exact absurd rfl h
  | cons b l => simp [List.intercalate, List.intersperse]
theorem join_one (sep a : Str) : Lib.join [a] sep = a := by
  unfold Lib.join
  simp [List.intercalate, List.intersperse]
theorem join_len (sep : Str) (m : Nat) : ∀ (l : List Str), (∀ x ∈ l, x.length ≤ m) → (Lib.join l sep).length ≤ l.length * (m + sep.length)
  | [], _ => by simp [Lib.join, List.intercalate]
  | [a], h => by
    rw [join_one]
    have := h a List.mem_cons_self
    simp
    omega
  | a :: b :: l, h => by
    rw [join_cons sep a (b :: l) (by simp)]
    have h1 := h a List.mem_cons_self
    have h2 := join_len sep m (b :: l) fun x hx => h x (List.mem_cons_of_mem _ hx)
    simp only [List.length_append, List.length_cons] at h2 ⊢
    rw [Nat.add_mul (l.length + 1) 1, Nat.one_mul]
    omega
def vCompound (l : List Sign) : Str × Bool := if gMade l then (Lib.join (l.map tSign) [38], true) else ([], false)
/-! ### Minimal pairs -/
def apart (a b : Sign) : List Int := ixs (fun x => !x) [qShape a.Main.Shape b.Main.Shape, qOrient a.Main.Orient b.Main.Orient, qPlace a.Main.Place b.Main.Place, qMove a.Main.Move b.Main.Move, if a.Two = b.Two then qHand a.Other b.Other else false] 0
theorem s_prApart_eq {k : Nat} {a b : Sign} (ga : gSign a = true) (gb : gSign b = true) (hk : 10 ≤ k) : X.s_prApart k a b = some (apart (nS a) (nS b)) := by
  unfold X.s_prApart apart
  rw [s_noForm_eq ga hk, s_noForm_eq gb hk]
  simp only [bind_some]
  generalize qShape (nS a).Main.Shape (nS b).Main.Shape = b1
  generalize qOrient (nS a).Main.Orient (nS b).Main.Orient = b2
  generalize qPlace (nS a).Main.Place (nS b).Main.Place = b3
  generalize qMove (nS a).Main.Move (nS b).Main.Move = b4
  generalize qHand (nS a).Other (nS b).Other = b5
  generalize (nS a).Two = b6
  generalize (nS b).Two = b7
  cases b6 <;> cases b7 <;> cases b5 <;> cases b4 <;> cases b3 <;> cases b2 <;> cases b1 <;> rfl
theorem i_partsApart_eq {k : Nat} {a b : Sign} (ga : gSign a = true) (gb : gSign b = true) (hk : 10 ≤ k) : X.i_partsApart k a b = some (apart (nS a) (nS b)) := by
  unfold X.i_partsApart apart X.i_Hand_same X.i_those_bool X.i_partsApart_1
  rw [i_normal_eq ga hk, i_normal_eq gb hk]
  simp only [bind_some]
  generalize qShape (nS a).Main.Shape (nS b).Main.Shape = b1
  generalize qOrient (nS a).Main.Orient (nS b).Main.Orient = b2
  generalize qPlace (nS a).Main.Place (nS b).Main.Place = b3
  generalize qMove (nS a).Main.Move (nS b).Main.Move = b4
  generalize qHand (nS a).Other (nS b).Other = b5
  generalize (nS a).Two = b6
  generalize (nS b).Two = b7
  cases b6 <;> cases b7 <;> cases b5 <;> cases b4 <;> cases b3 <;> cases b2 <;> cases b1 <;> rfl
def vPair (a b : Sign) : Bool × Bool := if gSign a && gSign b then (decide ((apart (nS a) (nS b)).length = 1), true) else (false, false)
theorem len_one (l : List Int) : ((l.length : Int) == 1) = decide (l.length = 1) := by
  rw [Bool.eq_iff_iff]
  simp
  omega
theorem i_IsMinimalPair_eq {k : Nat} {a b : Sign} (ha : smallS a) (hb : smallS b) (hk : 10 ≤ k) : X.i_IsMinimalPair k a b = some (vPair a b) := by
  unfold X.i_IsMinimalPair vPair X.i_isPair
  rw [i_IsSign_eq ha hk, bind_some, i_IsSign_eq hb hk, bind_some]
  cases g : gSign a <;> cases g2 : gSign b
  · rfl
  · rfl
  · rfl
  · rw [i_partsApart_eq g g2 hk]
    simp only [bind_some, len_one]
    rfl
end Go.Proofs.XC
namespace Go.Proofs.XC
open Go Go.RowKit
/-! ### Rows that are marked, and looked at again -/
def mks {α : Type} (mk : Int → α) (c k : Int) (n : Nat) : List α := (List.range n).map fun (i : Nat) => mk (k + c * (i : Int))
theorem mks_len {α : Type} (mk : Int → α) (c k : Int) (n : Nat) : (mks mk c k n).length = n := by simp [mks]
theorem mks_get {α : Type} (mk : Int → α) (c k : Int) {n i : Nat} (h : i < n) : (mks mk c k n)[i]? = some (mk (k + c * (i : Int))) := by simp [mks, h]
theorem mul_le_big {c : Int} {i n : Nat} (hc0 : 0 ≤ c) (hc : c ≤ 100) (hi : i ≤ n) (hn : n ≤ 1048576) : 0 ≤ c * (i : Int) ∧ c * (i : Int) ≤ 104857600 := by
  constructor
  · exact Int.mul_nonneg hc0 (by omega)
  · have h1 : c * (i : Int) ≤ 100 * (i : Int) := Int.mul_le_mul_of_nonneg_right hc (by omega)
    omega
theorem mark_gen {α : Type} (mk : Int → α) {c k : Int} (l : List α) {body : Int × Int × List α → Option ((Int × Int × List α) ⊕ (Int × List α))} {K : Nat} (hc0 : 0 ≤ c) (hc : c ≤ 100) (hk0 : 0 ≤ k) (hk : k ≤ 1000000000000) (hlen : l.length ≤ 1048576) (hK : l.length < K)
    (h1 : ∀ (i : Nat) (q : Int) (s : List α) (y : α), 0 ≤ q → q ≤ 2000000000000 → i < l.length → s[i]? = some y → body (q, (i : Int), s) = some (.inl (q + c, ((i + 1 : Nat) : Int), s.set i (mk q))))
    (h2 : ∀ (q : Int) (s : List α), body (q, (l.length : Int), s) = some (.inr (q, s))) : loopM body K (k, 0, l) = some (k + c * (l.length : Int), mks mk c k l.length) := by
  have gen : ∀ (d i K : Nat) (s : List α), i + d = l.length → s.length = l.length → (∀ j, j < i → s[j]? = some (mk (k + c * (j : Int)))) → d < K → loopM body K (k + c * (i : Int), (i : Int), s) = some (k + c * (l.length : Int), mks mk c k l.length) := by
    intro d
    induction d with
    | zero =>
      intro i K s hi hs hv hK
      have hil : i = l.length := by omega
      subst hil
      obtain ⟨K, rfl⟩ : ∃ q, K = q + 1 := ⟨K - 1, by omega⟩
      rw [loopM_succ, h2]
      simp only [bind_some]
      congr 2
      apply List.ext_getElem?
      intro j
      rcases Nat.lt_or_ge j l.length with h | h
      · rw [hv j h, mks_get mk c k h]
      · rw [List.getElem?_eq_none (by omega), List.getElem?_eq_none (by rw [mks_len]; omega)]
    | succ d ih =>
      intro i K s hi hs hv hK
      obtain ⟨K, rfl⟩ : ∃ q, K = q + 1 := ⟨K - 1, by omega⟩
      obtain ⟨m1, m2⟩ := mul_le_big hc0 hc (show i ≤ l.length by omega) hlen
      obtain ⟨y, hy⟩ : ∃ y, s[i]? = some y := ⟨_, List.getElem?_eq_getElem (by omega)⟩
      rw [loopM_succ, h1 i _ s y (by omega) (by omega) (by omega) hy, bind_some]
      have e : k + c * (i : Int) + c = k + c * ((i + 1 : Nat) : Int) := by
        rw [Int.natCast_add, Int.mul_add]
        simp
        omega
      simp only [e]
      refine ih (i + 1) K _ (by omega) (by rw [List.length_set]; exact hs) (fun j hj => ?_) (by omega)
      by_cases hji : i = j
      · subst hji
        rw [List.getElem?_set_self (by omega)]
      · rw [List.getElem?_set_ne hji]
        exact hv j (by omega)
  have := gen l.length 0 K l (by omega) rfl (fun j hj => by omega) hK
  simpa using this
theorem held_gen {α ρ : Type} (mk : Int → α) {c k : Int} {n : Nat} {body : Int × Int → Option ((Int × Int) ⊕ (ρ ⊕ Int))} {K : Nat} (hc0 : 0 ≤ c) (hc : c ≤ 100) (hk0 : 0 ≤ k) (hk : k ≤ 1000000000000) (hlen : n ≤ 1048576) (hK : n < K)
    (h1 : ∀ (i : Nat) (q : Int), 0 ≤ q → q ≤ 2000000000000 → i < n → (mks mk c k n)[i]? = some (mk q) → body (q, (i : Int)) = some (.inl (q + c, ((i + 1 : Nat) : Int))))
    (h2 : ∀ (q : Int), body (q, (n : Int)) = some (.inr (.inr q))) : loopM body K (k, 0) = some (.inr (k + c * (n : Int))) := by
  have gen : ∀ (d i K : Nat), i + d = n → d < K → loopM body K (k + c * (i : Int), (i : Int)) = some (.inr (k + c * (n : Int))) := by
    intro d
    induction d with
    | zero =>
      intro i K hi hK
      have hil : i = n := by omega
      subst hil
      obtain ⟨K, rfl⟩ : ∃ q, K = q + 1 := ⟨K - 1, by omega⟩
      rw [loopM_succ, h2]
      rfl
    | succ d ih =>
      intro i K hi hK
      obtain ⟨K, rfl⟩ : ∃ q, K = q + 1 := ⟨K - 1, by omega⟩
      obtain ⟨m1, m2⟩ := mul_le_big hc0 hc (show i ≤ n by omega) hlen
      rw [loopM_succ, h1 i _ (by omega) (by omega) (by omega) (mks_get mk c k (by omega)), bind_some]
      have e : k + c * (i : Int) + c = k + c * ((i + 1 : Nat) : Int) := by
        rw [Int.natCast_add, Int.mul_add]
        simp
        omega
      simp only [e]
      exact ih (i + 1) K (by omega) (by omega)
  have := gen n 0 K (by omega) hK
  simpa using this
/-! ### PartsApart -/
def vApart (a b : Sign) : List Int × Bool := if gSign a && gSign b then (apart (nS a) (nS b), true) else ([], false)
theorem i_PartsApart_eq {k : Nat} {a b : Sign} (ha : smallS a) (hb : smallS b) (hk : 10 ≤ k) : X.i_PartsApart k a b = some (vApart a b) := by
  unfold X.i_PartsApart vApart
  rw [i_IsSign_eq ha hk, bind_some, i_IsSign_eq hb hk, bind_some]
  cases g : gSign a <;> cases g2 : gSign b
  · rfl
  · rfl
  · rfl
  · rw [i_partsApart_eq g g2 hk]
    rfl
theorem s_PartsApart_eq {k : Nat} {a b : Sign} (ha : smallS a) (hb : smallS b) (hk : 2000010 ≤ k) : X.s_PartsApart k a b = some (vApart a b) := by
  unfold X.s_PartsApart vApart
  rw [s_siGood_eq ha hk, bind_some, s_siGood_eq hb hk, bind_some]
  cases g : gSign a <;> cases g2 : gSign b
  · rfl
  · rfl
  · rfl
  · rw [s_prApart_eq g g2 (by omega)]
    rfl
theorem vApart_len (a b : Sign) : (vApart a b).1.length ≤ 5 := by
  unfold vApart
  split
  · exact ixs_len _ _ _
  · simp
end Go.Proofs.XC
namespace Go.Proofs.XC
open Go Go.RowKit
/-! ### Texts of marks -/
theorem mt_loop : ∀ (d K : Nat) (n : Int) (t : Str), 0 ≤ n → n ≤ 9223372036854775807 → n < (10 : Int) ^ d → t.length + d ≤ 100 → d < K → ∃ r : Str, r.length ≤ 100 ∧ loopM (fun (x : Int × Str) => match x with | (n2, t3) => (bif decide (n2 > 0) then (Option.bind (catS (strOf ([(wk .u8 (wr (48 + (Int.tmod n2 10))))] : List Int)) t3) fun y5_7 => some (.inl ((wr (Int.tdiv n2 10)), y5_7))) else some (.inr t3))) K (n, t) = some r := by
  intro d
  induction d with
  | zero =>
    intro K n t h0 hb h1 hl hK
    obtain ⟨K, rfl⟩ : ∃ q, K = q + 1 := ⟨K - 1, by omega⟩
    have : n = 0 := by simp at h1; omega
    subst this
    exact ⟨t, by omega, rfl⟩
  | succ d ih =>
    intro K n t h0 hb h1 hl hK
    obtain ⟨K, rfl⟩ : ∃ q, K = q + 1 := ⟨K - 1, by omega⟩
    rw [loopM_succ]
    by_cases hn : n > 0
    · have e : decide (n > 0) = true := by simpa using hn
      simp only [e, cond_true]
      have hdiv : Int.tdiv n 10 = n / 10 := Int.tdiv_eq_ediv_of_nonneg h0
      rw [catS_of (by simp [strOf]; omega), bind_some, bind_some, hdiv, wr_of (by omega) (by omega)]
      refine ih K (n / 10) _ (by omega) (by omega) ?_ (by simp [strOf]; omega) (by omega)
      rw [Int.pow_succ] at h1
      omega
    · have e : decide (n > 0) = false := by simpa using hn
      simp only [e, cond_false]
      exact ⟨t, by omega, rfl⟩
theorem wr_le (z : Int) : wr z ≤ 9223372036854775807 := by
  show IntKind.i64.wrap z ≤ _
  rw [IntKind.wrap_i64]
  omega
theorem wr_up {z : Int} (h0 : 0 ≤ z) (h1 : z ≤ 3000000000000) : wr (z + 1) = z + 1 := wr_of (by omega) (by omega)
theorem ne_i (z : Int) : (z != z) = false := by simp
theorem ne_b (b : Bool) : (!(b == b)) = false := by simp
theorem ne_s (s : Str) : (!(seq s s)) = false := by rw [seq_eq]; simp
end Go.Proofs.XC
namespace Go.Proofs.XC
open Go Go.RowKit
/-! ### Reduced movements -/
def isRoot (s : Str) (n : Nat) : Bool := decide (s.length % n = 0) && decide (Lib.repeatL (s.take n) (s.length / n) = s)
def rootF (s : Str) : Nat → Nat → Str
  | _, 0 => s
  | n, d + 1 => if isRoot s n then s.take n else rootF s (n + 1) d
def root (s : Str) : Str := rootF s 1 (s.length - 1)
theorem modI_nat {a b : Nat} (h : 0 < b) : modI (a : Int) (b : Int) = some ((a % b : Nat) : Int) := by
  unfold modI
  rw [if_neg (by omega)]
  congr 1
theorem divI_nat {a b : Nat} (h : 0 < b) (ha : a ≤ 1000000) : divI (a : Int) (b : Int) = some ((a / b : Nat) : Int) := by
  unfold divI
  rw [if_neg (by omega)]
  congr 1
  have : a / b ≤ a := Nat.div_le_self a b
  show wr ((a / b : Nat) : Int) = _
  generalize a / b = q at this
  exact wr_of (by omega) (by omega)
theorem nat_zero (n : Nat) : ((n : Int) == 0) = decide (n = 0) := by
  rw [beq_dec]
  rw [Bool.eq_iff_iff]
  simp
theorem div_le_of {a b : Nat} (h : 0 < b) : a / b ≤ a := Nat.div_le_self a b
/-- A sign, its movements reduced. -/
def redS (s : Sign) : Sign := if s.Two then ⟨{ s.Main with Move := ⟨root (allSteps s.Main.Move), 1⟩ }, s.Two, { s.Other with Move := ⟨root (allSteps s.Other.Move), 1⟩ }⟩ else { s with Main := { s.Main with Move := ⟨root (allSteps s.Main.Move), 1⟩ } }
/-! ### The parts of a compound -/
theorem indexS_eq (l : List Sign) (F : Sign → Option Bool) (p : Sign → Bool) (hF : ∀ x ∈ l, F x = some (p x)) : X.slices_IndexFunc_i_Sign_i_Sign l F = some (fst_ p l 0 (-1)) := by
  unfold X.slices_IndexFunc_i_Sign_i_Sign
  have key : ∀ (l : List Sign) (j : Nat), (∀ x ∈ l, F x = some (p x)) → orEl (rangeM (fun (j2 : Int) (x3 : Sign) (_ : Unit) => (Option.bind (F x3) fun v4_5 => (bif v4_5 then some (.inr (.inl (j2 : Int))) else some (.inl ())))) (fun _ => some (.inr ())) l j ()) (fun r => some r) (fun (_ : Unit) => some (-1)) = some (fst_ p l j (-1)) := by
    intro l
    induction l with
    | nil => intro j _; rfl
    | cons x l ih =>
      intro j hF
      rw [rangeM_cons, hF x List.mem_cons_self, bind_some]
      unfold fst_
      cases h : p x
      · simp only [cond_false, bind_some, Bool.false_eq_true, if_false]
        exact ih (j + 1) fun y hy => hF y (List.mem_cons_of_mem _ hy)
      · rfl
  exact key l 0 hF
/-- The first one, looked for by a walk through all. -/
theorem firstOf {α : Type} {body : Int → α → Int → Option (Int ⊕ Int)} (p : α → Bool) : ∀ (l : List α) (j : Nat) (n : Int), (n = -1 ∨ 0 ≤ n) → (∀ (i : Nat) x (n : Int), l[i]? = some x → body ((j + i : Nat) : Int) x n = some (.inl (if n < 0 then (if p x then ((j + i : Nat) : Int) else n) else n))) →
    rangeM body (fun n => some n) l j n = some (if n < 0 then fst_ p l j (-1) else n)
  | [], j, n, hn, _ => by
    rw [rangeM_nil]
    rcases hn with rfl | hn
    · rfl
    · have : ¬ n < 0 := by omega
      simp [this]
  | x :: l, j, n, hn, hb => by
    have h0 := hb 0 x n rfl
    have hb' : ∀ (i : Nat) y (n : Int), l[i]? = some y → body ((j + 1 + i : Nat) : Int) y n = some (.inl (if n < 0 then (if p y then ((j + 1 + i : Nat) : Int) else n) else n)) := fun i y n hy => by
      have := hb (i + 1) y n (by simpa using hy)
      rw [show j + (i + 1) = j + 1 + i by omega] at this
      exact this
    simp only [Nat.add_zero] at h0
    rw [rangeM_cons, h0, bind_some]
    by_cases hneg : n < 0
    · have hn1 : n = -1 := by omega
      subst hn1
      by_cases hp : p x = true
      · simp only [hp, if_true, fst_]
        refine (firstOf p l (j + 1) (j : Int) (.inr (by omega)) hb').trans ?_
        have : ¬ (j : Int) < 0 := by omega
        simp [this]
      · simp only [hp, if_false, fst_, if_true, Bool.false_eq_true]
        refine (firstOf p l (j + 1) (-1) (.inl rfl) hb').trans ?_
        rfl
    · simp only [hneg, if_false]
      refine (firstOf p l (j + 1) n hn hb').trans ?_
      simp [hneg]
theorem rangeM_congr {α σ ρ : Type} {b1 b2 : Int → α → σ → Option (σ ⊕ ρ)} {fin : σ → Option ρ} : ∀ (l : List α) (j : Nat) (s : σ), (∀ (i : Nat) x s, l[i]? = some x → b1 ((j + i : Nat) : Int) x s = b2 ((j + i : Nat) : Int) x s) → rangeM b1 fin l j s = rangeM b2 fin l j s
  | [], _, _, _ => rfl
  | x :: l, j, s, h => by
    have h0 := h 0 x s rfl
    simp only [Nat.add_zero] at h0
    rw [rangeM_cons, rangeM_cons, h0]
    congr 1
    funext o
    cases o with
    | inr r => rfl
    | inl s' =>
      exact rangeM_congr l (j + 1) s' fun i y s hy => by
        have := h (i + 1) y s (by simpa using hy)
        rw [show j + (i + 1) = j + 1 + i by omega] at this
        exact this
def pPart (n : Nat) (j : Int) (x y : Sign) : Bool := if j + 1 < (n : Int) then decide (redS y = x) else decide (y = x)
def bPart (lex : List Sign) (n : Nat) (j : Int) (x : Sign) (l3 : List Int) : Option (List Int ⊕ ((List Int × Bool) ⊕ List Int)) :=
  if fst_ (pPart n j x) lex 0 (-1) < 0 then some (.inr (.inl ([], false))) else Option.bind (appG (eI .i64) l3 [fst_ (pPart n j x) lex 0 (-1)]) fun y => some (.inl y)
def vParts (lex l : List Sign) : Option (List Int × Bool) := if lex.all gSign && decide (lex.length ≤ 20) && gMade l then orEl (rangeM (bPart lex l.length) (fun l3 => some (.inr l3)) l 0 []) (fun r => some r) (fun l6 => some (l6, true)) else some ([], false)
theorem vParts_some (lex l : List Sign) : ∃ v, vParts lex l = some v ∧ v.1.length ≤ 1048576 := by
  unfold vParts
  cases h : (lex.all gSign && decide (lex.length ≤ 20) && gMade l)
  · exact ⟨([], false), rfl, by simp⟩
  · have hlen : l.length ≤ 4 := by
      simp only [Bool.and_eq_true] at h
      have := h.2
      unfold gMade at this
      simp at this
      omega
    simp only [if_true]
    have gen : ∀ (r : List Sign) (j : Nat) (acc : List Int), acc.length + r.length ≤ 100 → ∃ v, orEl (rangeM (bPart lex l.length) (fun l3 => some (.inr l3)) r j acc) (fun r => some r) (fun l6 => some (l6, true)) = some v ∧ v.1.length ≤ 1048576 := by
      intro r
      induction r with
      | nil => intro j acc h; exact ⟨(acc, true), rfl, by simp at h ⊢; omega⟩
      | cons x r ih =>
        intro j acc h
        rw [rangeM_cons]
        unfold bPart
        by_cases hf : fst_ (pPart l.length (j : Int) x) lex 0 (-1) < 0
        · simp only [hf, if_true, bind_some]
          exact ⟨([], false), rfl, by simp⟩
        · have ha : appG (eI .i64) acc [fst_ (pPart l.length (j : Int) x) lex 0 (-1)] = some (acc ++ [fst_ (pPart l.length (j : Int) x) lex 0 (-1)]) := by
            unfold appG
            rw [if_pos]
            show (acc.length + 1) * 8 ≤ _
            simp at h
            omega
          simp only [hf, if_false, ha, bind_some]
          exact ih (j + 1) _ (by simp at h ⊢; omega)
    exact gen l 0 [] (by simp; omega)
end Go.Proofs.XC
namespace Go.Proofs.XC
open Go Go.RowKit
/-! ### Texts of signs, line by line -/
def lines (l : List Sign) : Str := l.flatMap fun s => tSign s ++ [10]
theorem lines_cons (x : Sign) (l : List Sign) : lines (x :: l) = (tSign x ++ [10]) ++ lines l := rfl
def vText (l : List Sign) : Str × Bool := if l.all gSign && decide (l.length ≤ 20) then (lines l, true) else ([], false)
end Go.Proofs.XC
