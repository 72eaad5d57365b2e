/- Plain laws of the plain functions: no program, no memory. By AI agents; no person has read it. -/
import Derived.Test.YtjnablhfhdedfaaGreatDoorPY2
set_option linter.unusedVariables false
set_option linter.unusedSimpArgs false
set_option maxRecDepth 100000
set_option maxHeartbeats 40000000
namespace Go.Proofs.XC
open Go Go.RowKit
/-! ### Uses -/
/-- The places of the elements for which p holds. -/
def ixs {α : Type} (p : α → Bool) : List α → Nat → List Int
  | [], _ => []
  | x :: l, j => if p x then (j : Int) :: ixs p l (j + 1) else ixs p l (j + 1)
theorem ixs_len {α : Type} (p : α → Bool) : ∀ (l : List α) (j : Nat), (ixs p l j).length ≤ l.length
  | [], j => by simp [ixs]
  | x :: l, j => by
    have := ixs_len p l (j + 1)
    unfold ixs
    split <;> simp <;> omega
theorem those_gen {α : Type} (p : α → Bool) {body : Int → α → List Int → Option (List Int ⊕ List Int)} {fin : List Int → Option (List Int)} (h2 : ∀ s, fin s = some s) : ∀ (l : List α) (j : Nat) (acc : List Int), acc.length + l.length ≤ 1000000000000 →
    (∀ (i : Nat) x s, l[i]? = some x → body ((j + i : Nat) : Int) x s = if p x then Option.bind (appG (eI .i64) s [((j + i : Nat) : Int)]) (fun y => some (.inl y)) else some (.inl s)) → rangeM body fin l j acc = some (acc ++ ixs p l j)
  | [], j, acc, _, _ => by rw [rangeM_nil, h2]; simp [ixs]
  | x :: l, j, acc, hl, hb => by
    have h0 := hb 0 x acc rfl
    have hb' : ∀ (i : Nat) y s, l[i]? = some y → body ((j + 1 + i : Nat) : Int) y s = if p y then Option.bind (appG (eI .i64) s [((j + 1 + i : Nat) : Int)]) (fun y => some (.inl y)) else some (.inl s) := fun i y s hy => by
      have := hb (i + 1) y s (by simpa using hy)
      rw [show j + (i + 1) = j + 1 + i by omega] at this
      exact this
    simp only [Nat.add_zero] at h0
    rw [rangeM_cons, h0]
    by_cases h : p x = true
    · have ha : appG (eI .i64) acc [(j : Int)] = some (acc ++ [(j : Int)]) := by
        unfold appG
        rw [if_pos]
        show (acc.length + 1) * 8 ≤ _
        simp at hl
        omega
      simp only [h, if_true, ha, bind_some]
      rw [those_gen p h2 l (j + 1) (acc ++ [(j : Int)]) (by simp at hl ⊢; omega) hb']
      simp [ixs, h]
    · simp only [h, if_false, bind_some, Bool.false_eq_true]
      rw [those_gen p h2 l (j + 1) acc (by simp at hl ⊢; omega) hb']
      simp [ixs, h]
def sumU (g : Str) : List Entry → Int → Int
  | [], n => n
  | x :: l, n => sumU g l (if x.Gloss = g then wr (n + x.Uses) else n)
theorem i_variants_eq (l : List Entry) (g : Str) (hl : l.length ≤ 1048576) : X.i_variants l g = some (ixs (fun x => decide (x.Gloss = g)) l 0) := by
  unfold X.i_variants X.i_those_i_Entry
  rw [those_gen (fun x => decide (x.Gloss = g)) (fun _ => rfl) l 0 [] (by simp; omega) (fun i x s hx => ?_)]
  · rfl
  · unfold X.i_variants_1
    simp only [seq_eq, bind_some]
    by_cases h : x.Gloss = g <;> simp [h]
def vUses (l : List Entry) (g : Str) : Int × Bool := if gEntries l then (if gGloss g then (sumU g l 0, true) else (0, false)) else (0, false)
/-! ### The entry for a region -/
theorem bytesLess_trans : ∀ {a b c : Str}, Op.bytesLess a b = true → Op.bytesLess b c = true → Op.bytesLess a c = true
  | _, _, [], _, h => by simp [Op.bytesLess] at h
  | _, [], _ :: _, h, _ => by simp [Op.bytesLess] at h
  | [], _ :: _, _ :: _, _, _ => rfl
  | x :: a, y :: b, z :: c, h1, h2 => by
    simp only [Op.bytesLess, Bool.or_eq_true, Bool.and_eq_true, decide_eq_true_iff, beq_iff_eq] at h1 h2 ⊢
    rcases h1 with h1 | ⟨rfl, h1⟩
    · rcases h2 with h2 | ⟨rfl, h2⟩
      · exact .inl (UInt8.lt_trans h1 h2)
      · exact .inl h1
    · rcases h2 with h2 | ⟨rfl, h2⟩
      · exact .inl h2
      · exact .inr ⟨rfl, bytesLess_trans h1 h2⟩
theorem beforeE_trans {a b c : Entry} (h1 : beforeE a b = true) (h2 : beforeE b c = true) : beforeE a c = true := by
  unfold beforeE at *
  by_cases g1 : Op.bytesLess a.Gloss b.Gloss = true
  · by_cases g2 : Op.bytesLess b.Gloss c.Gloss = true
    · simp [bytesLess_trans g1 g2]
    · by_cases g3 : b.Gloss = c.Gloss
      · rw [← g3]; simp [g1]
      · simp [g2, g3] at h2
  · by_cases g3 : a.Gloss = b.Gloss
    · by_cases g2 : Op.bytesLess b.Gloss c.Gloss = true
      · rw [g3]; simp [g2]
      · by_cases g4 : b.Gloss = c.Gloss
        · simp [g1, g3, g2, g4, bytesLess_irrefl] at h1 h2 ⊢
          first | done | omega
        · simp [g2, g4] at h2
    · simp [g1, g3] at h1
theorem beforeE_irrefl (a : Entry) : beforeE a a = false := by
  unfold beforeE
  simp [bytesLess_irrefl]
theorem entries_sorted {l : List Entry} (h : gEntries l = true) : l.Pairwise fun a b => beforeE a b = true := by
  unfold gEntries at h
  rw [Bool.and_eq_true, allIx_iff] at h
  have key : ∀ (d i : Nat) (x y : Entry), l[i]? = some x → l[i + d + 1]? = some y → beforeE x y = true := by
    intro d
    induction d with
    | zero =>
      intro i x y hx hy
      have := h.1 (i + 1) y hy
      unfold pE at this
      simp only [Nat.zero_add, Bool.and_eq_true, Bool.or_eq_true, Nat.add_sub_cancel, hx] at this
      simpa using this.2
    | succ d ih =>
      intro i x y hx hy
      have hlt := lt_get hy
      have hz : l[i + d + 1]? = some l[i + d + 1] := List.getElem?_eq_getElem (by omega)
      have h1 := ih i x _ hx hz
      have h2 := h.1 (i + (d + 1) + 1) y hy
      unfold pE at h2
      simp only [Nat.zero_add, Bool.and_eq_true, Bool.or_eq_true, Nat.add_sub_cancel] at h2
      rw [show i + (d + 1) = i + d + 1 by omega, hz] at h2
      exact beforeE_trans h1 (by simpa using h2.2)
  rw [List.pairwise_iff_getElem]
  intro i j hi hj hij
  have := key (j - i - 1) i l[i] l[j] (List.getElem?_eq_getElem hi) (by rw [show i + (j - i - 1) + 1 = j by omega]; exact List.getElem?_eq_getElem hj)
  exact this
/-- The first place where p holds, or else n. -/
def fst_ {α : Type} (p : α → Bool) : List α → Nat → Int → Int
  | [], _, n => n
  | x :: l, j, n => if p x then (j : Int) else fst_ p l (j + 1) n
theorem fst_pos {α : Type} (p : α → Bool) : ∀ (l : List α) (j : Nat), fst_ p l j (-1) < 0 ↔ l.any p = false
  | [], j => by simp [fst_]
  | x :: l, j => by
    unfold fst_
    by_cases h : p x = true
    · simp [h]
    · simp [h, fst_pos p l (j + 1)]
def pG (g : Str) (r : Int) (x : Entry) : Bool := decide (x.Gloss = g) && decide (x.Region = r)
def vFor (l : List Entry) (g : Str) (r : Int) : Int := if l.any (pG g r) then fst_ (pG g r) l 0 (-1) else fst_ (pG g 0) l 0 (-1)
def vEntry (l : List Entry) (g : Str) (r : Int) : Int × Bool := if gEntries l && (gGloss g && inR r 0 5) then (if vFor l g r < 0 then (0, false) else (vFor l g r, true)) else (0, false)
end Go.Proofs.XC
