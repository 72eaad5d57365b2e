/- Plain laws of the plain functions: no program, no memory. By AI agents; no person has read it. -/
import Derived.Test.YtldkmmopfhhdgaaGreatDoorPZ12
import Derived.Test.YtldkmmopfhhdgaaGreatDoorPW3
set_option linter.unusedVariables false
set_option linter.unusedSimpArgs false
set_option maxRecDepth 100000
set_option maxHeartbeats 40000000
namespace Go.Proofs.XC
open Go Go.RowKit
/-! ### Minimal pairs in lists -/
def pr (x y : Sign) : Bool := decide ((apart (nS x) (nS y)).length = 1)
def vWith (l : List Sign) (x : Sign) : List Int := ixs (pr x) l 0
theorem i_isPair_eq {k : Nat} {a b : Sign} (ga : gSign a = true) (gb : gSign b = true) (hk : 10 ≤ k) : X.i_isPair k a b = some (pr a b) := by
  unfold X.i_isPair pr
  rw [i_partsApart_eq ga gb hk, bind_some, len_one]
theorem s_prPair_eq {k : Nat} {a b : Sign} (ga : gSign a = true) (gb : gSign b = true) (hk : 10 ≤ k) : X.s_prPair k a b = some (pr a b) := by
  unfold X.s_prPair pr
  rw [s_prApart_eq ga gb hk, bind_some, len_one]
theorem i_pairsWith_eq {k : Nat} {l : List Sign} {z : Int} {x : Sign} (hg : ∀ s ∈ l, gSign s = true) (hz : getI l z = some x) (hl : l.length ≤ 1048576) (hk : 10 ≤ k) : X.i_pairsWith k l z = some (vWith l x) := by
  have gx := hg x (List.mem_of_getElem? (getI_some hz).2.2)
  unfold X.i_pairsWith X.i_those_i_Sign vWith
  rw [those_gen (pr x) (fun _ => rfl) l 0 [] (by simp; omega) (fun i y s hy => ?_)]
  · rfl
  · unfold X.i_pairsWith_1
    rw [hz, bind_some, i_isPair_eq gx (hg y (List.mem_of_getElem? hy)) hk]
    simp only [bind_some]
    cases pr x y <;> simp
theorem s_prWith_eq {k : Nat} {l : List Sign} {z : Int} {x : Sign} (hg : ∀ s ∈ l, gSign s = true) (hz : getI l z = some x) (hl : l.length ≤ 1048576) (hk : 10 ≤ k) : X.s_prWith k l z = some (vWith l x) := by
  have gx := hg x (List.mem_of_getElem? (getI_some hz).2.2)
  unfold X.s_prWith vWith
  rw [those_gen (pr x) (fun _ => rfl) l 0 [] (by simp; omega) (fun i y s hy => ?_)]
  · rfl
  · rw [hz, bind_some, s_prPair_eq gx (hg y (List.mem_of_getElem? hy)) hk]
    simp only [bind_some]
    cases pr x y <;> simp
theorem len16 (l : List Sign) (n : Nat) : decide ((l.length : Int) ≤ (n : Int)) = decide (l.length ≤ n) := by rw [Bool.eq_iff_iff]; simp
theorem len0 {α : Type} (l : List α) : ((l.length : Int) == 0) = decide (l.length = 0) := by rw [beq_dec, Bool.eq_iff_iff]; simp
/-! #### The sign with the most of them -/
def gtB (a b : Int) : Bool := decide (a > b)
def fW (l : List Sign) (x : Sign) : Int := ((vWith l x).length : Int)
def vMostP (l : List Sign) : Int × Int × Bool := if l.all gSign && decide (l.length ≤ 16) && !(decide (l.length = 0)) then ((arg gtB (fW l) l 0 (0, -1)).1, (arg gtB (fW l) l 0 (0, -1)).2, true) else (0, 0, false)
theorem arg_start (f : Sign → Int) (x : Sign) (l : List Sign) (h : 0 ≤ f x) : arg gtB f (x :: l) 0 (0, -1) = arg gtB f (x :: l) 0 (0, f x) := by
  have e1 : gtB (f x) (-1) = true := by unfold gtB; simp; omega
  have e2 : gtB (f x) (f x) = false := by unfold gtB; simp
  simp only [arg, e1, e2, if_true, Bool.false_eq_true, if_false]
  rfl
theorem i_MostPairs_eq {k : Nat} {l : List Sign} (hs : ∀ s ∈ l, smallS s) (hl : l.length ≤ 1048576) (hk : 10 ≤ k) : X.i_MostPairs k l = some (vMostP l) := by
  unfold X.i_MostPairs vMostP
  rw [i_areSigns_eq hs hk, len0, show ((16 : Int)) = ((16 : Nat) : Int) from rfl, len16]
  cases h0 : decide (l.length = 0) <;> cases h1 : l.all gSign <;> cases h2 : decide (l.length ≤ 16) <;> simp only [Bool.true_and, Bool.false_and, Bool.and_true, Bool.and_false, Bool.and_self, Bool.not_true, Bool.not_false, cond_true, cond_false, bind_some, if_true, Bool.false_eq_true, if_false]
  have hg : ∀ s ∈ l, gSign s = true := by simpa using h1
  obtain ⟨y0, l', rfl⟩ : ∃ y l', l = y :: l' := by
    cases l with
    | nil => simp at h0
    | cons y l' => exact ⟨y, l', rfl⟩
  obtain ⟨b', y', hr, hb, ha⟩ := arg_impl (ρ := Int) gtB (fW (y0 :: l')) (y0 :: l') (body := fun (j6 : Int) (x7 : Sign) n3 => (Option.bind (X.i_pairsWith k (y0 :: l') (j6 : Int)) fun v7_2 => (Option.bind (X.i_pairsWith k (y0 :: l') n3) fun v7_6 => (bif decide ((List.length v7_2 : Int) > (List.length v7_6 : Int)) then some (.inl (j6 : Int)) else some (.inl n3))))) (fin := fun n => some n) (y0 :: l') 0 0 y0 rfl (getI_zero rfl) (fun i x b y hx hy => by
    rw [i_pairsWith_eq hg (getI_of hx) hl hk, bind_some, i_pairsWith_eq hg hy hl hk, bind_some]
    unfold gtB fW
    cases decide (((vWith (y0 :: l') x).length : Int) > ((vWith (y0 :: l') y).length : Int)) <;> rfl)
  rw [hr, bind_some, i_pairsWith_eq hg hb hl hk, bind_some, arg_start _ _ _ (by unfold fW; omega), ha]
  rfl
theorem s_MostPairs_eq {k : Nat} {l : List Sign} (hs : ∀ s ∈ l, smallS s) (hl : l.length ≤ 1048576) (hk : 2000010 ≤ k) : X.s_MostPairs k l = some (vMostP l) := by
  unfold X.s_MostPairs vMostP
  rw [s_noList_eq hs hk, len0]
  cases h0 : decide (l.length = 0) <;> cases h1 : l.all gSign <;> cases h2 : decide (l.length ≤ 16) <;> simp only [Bool.true_and, Bool.false_and, Bool.and_true, Bool.and_false, Bool.and_self, Bool.not_true, Bool.not_false, cond_true, cond_false, bind_some, if_true, Bool.false_eq_true, if_false]
  have hg : ∀ s ∈ l, gSign s = true := by simpa using h1
  rw [arg_spec gtB (fW l) l 0 (0, -1) fun i x s hx => ?_]
  · rfl
  · rw [Nat.zero_add, s_prWith_eq hg (getI_of hx) hl (by omega), bind_some]
    unfold gtB fW
    cases decide (((vWith l x).length : Int) > s.2) <;> rfl
/-! #### Pairs with one sign; lonely signs -/
def vPW (l : List Sign) (z : Int) : List Int × Bool := if l.all gSign && decide (l.length ≤ 16) && inR z 0 (wr ((l.length : Int) - 1)) then ((match getI l z with | some x => vWith l x | none => []), true) else ([], false)
theorem at_in {l : List Sign} {z : Int} (hl : l.length ≤ 1048576) (h : inR z 0 (wr ((l.length : Int) - 1)) = true) : ∃ x, getI l z = some x := by
  rw [wr_of (by omega) (by omega), inR_iff] at h
  unfold getI
  rw [if_pos h.1]
  exact ⟨_, List.getElem?_eq_getElem (by omega)⟩
theorem i_PairsWith_eq {k : Nat} {l : List Sign} (z : Int) (hs : ∀ s ∈ l, smallS s) (hl : l.length ≤ 1048576) (hk : 10 ≤ k) : X.i_PairsWith k l z = some (vPW l z) := by
  unfold X.i_PairsWith vPW
  rw [i_areSigns_eq hs hk, i_within_eq, show ((16 : Int)) = ((16 : Nat) : Int) from rfl, len16]
  cases h1 : l.all gSign <;> cases h2 : decide (l.length ≤ 16) <;> cases h3 : inR z 0 (wr ((l.length : Int) - 1)) <;> simp only [Bool.true_and, Bool.false_and, Bool.and_true, Bool.and_false, Bool.and_self, Bool.not_true, Bool.not_false, cond_true, cond_false, bind_some, if_true, Bool.false_eq_true, if_false]
  obtain ⟨x, hx⟩ := at_in hl h3
  rw [i_pairsWith_eq (by simpa using h1) hx hl hk, hx]
  rfl
theorem s_PairsWith_eq {k : Nat} {l : List Sign} (z : Int) (hs : ∀ s ∈ l, smallS s) (hl : l.length ≤ 1048576) (hk : 2000010 ≤ k) : X.s_PairsWith k l z = some (vPW l z) := by
  unfold X.s_PairsWith X.s_prIndex vPW
  rw [s_noList_eq hs hk, s_l1In_eq]
  cases h1 : l.all gSign <;> cases h2 : decide (l.length ≤ 16) <;> cases h3 : inR z 0 (wr ((l.length : Int) - 1)) <;> simp only [Bool.true_and, Bool.false_and, Bool.and_true, Bool.and_false, Bool.and_self, Bool.not_true, Bool.not_false, cond_true, cond_false, bind_some, if_true, Bool.false_eq_true, if_false]
  obtain ⟨x, hx⟩ := at_in hl h3
  rw [s_prWith_eq (by simpa using h1) hx hl (by omega), hx]
  rfl
def vLone (l : List Sign) : List Int × Bool := if l.all gSign && decide (l.length ≤ 16) then (ixs (fun x => decide ((vWith l x).length = 0)) l 0, true) else ([], false)
theorem i_Lonely_eq {k : Nat} {l : List Sign} (hs : ∀ s ∈ l, smallS s) (hl : l.length ≤ 1048576) (hk : 10 ≤ k) : X.i_LonelySigns k l = some (vLone l) := by
  unfold X.i_LonelySigns vLone
  rw [i_areSigns_eq hs hk, show ((16 : Int)) = ((16 : Nat) : Int) from rfl, len16]
  cases h1 : l.all gSign <;> cases h2 : decide (l.length ≤ 16) <;> simp only [Bool.true_and, Bool.false_and, Bool.and_true, Bool.and_false, Bool.and_self, Bool.not_true, Bool.not_false, cond_true, cond_false, bind_some, if_true, Bool.false_eq_true, if_false]
  have hg : ∀ s ∈ l, gSign s = true := by simpa using h1
  rw [those_gen (fun x => decide ((vWith l x).length = 0)) (fun _ => rfl) l 0 [] (by simp; omega) (fun i y s hy => ?_)]
  · rfl
  · rw [Nat.zero_add, i_pairsWith_eq hg (getI_of hy) hl hk, bind_some, len0]
    cases decide ((vWith l y).length = 0) <;> simp
theorem s_Lonely_eq {k : Nat} {l : List Sign} (hs : ∀ s ∈ l, smallS s) (hl : l.length ≤ 1048576) (hk : 2000010 ≤ k) : X.s_LonelySigns k l = some (vLone l) := by
  unfold X.s_LonelySigns vLone
  rw [s_noList_eq hs hk]
  cases h1 : l.all gSign <;> cases h2 : decide (l.length ≤ 16) <;> simp only [Bool.true_and, Bool.false_and, Bool.and_true, Bool.and_false, Bool.and_self, Bool.not_true, Bool.not_false, cond_true, cond_false, bind_some, if_true, Bool.false_eq_true, if_false]
  have hg : ∀ s ∈ l, gSign s = true := by simpa using h1
  rw [those_gen (fun x => decide ((vWith l x).length = 0)) (fun _ => rfl) l 0 [] (by simp; omega) (fun i y s hy => ?_)]
  · rfl
  · rw [Nat.zero_add, s_prWith_eq hg (getI_of hy) hl (by omega), bind_some, len0]
    cases decide ((vWith l y).length = 0) <;> simp
end Go.Proofs.XC
