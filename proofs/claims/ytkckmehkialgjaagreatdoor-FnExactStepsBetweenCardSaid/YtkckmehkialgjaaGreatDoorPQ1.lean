/- Plain laws of the plain functions: no program, no memory. By AI agents; no person has read it. -/
import Derived.Test.YtkckmehkialgjaaGreatDoorPZ12
import Derived.Test.YtkckmehkialgjaaGreatDoorPW3
set_option linter.unusedVariables false
set_option linter.unusedSimpArgs false
set_option maxRecDepth 100000
set_option maxHeartbeats 40000000
namespace Go.Proofs.XC
open Go Go.RowKit
/-! ### Minimal pairs in lists -/
def pr (x y : Sign) : Bool := decide ((apart (nS x) (nS y)).length = 1)
def vWith (l : List Sign) (x : Sign) : List Int := ixs (pr x) l 0
theorem i_isPair_eq {k : Nat} {a b : Sign} (ga : gSign a = true) (gb : gSign b = true) (hk : 10 ≤ k) : X.i_isPair k a b = some (pr a b) := by
  unfold X.i_isPair pr
  rw [i_partsApart_eq ga gb hk, bind_some, len_one]
theorem s_prPair_eq {k : Nat} {a b : Sign} (ga : gSign a = true) (gb : gSign b = true) (hk : 10 ≤ k) : X.s_prPair k a b = some (pr a b) := by
  unfold X.s_prPair pr
  rw [s_prApart_eq ga gb hk, bind_some, len_one]
theorem i_pairsWith_eq {k : Nat} {l : List Sign} {z : Int} {x : Sign} (hg : ∀ s ∈ l, gSign s = true) (hz : getI l z = some x) (hl : l.length ≤ 1048576) (hk : 10 ≤ k) : X.i_pairsWith k l z = some (vWith l x) := by
  have gx := hg x (List.mem_of_getElem? (getI_some hz).2.2)
  unfold X.i_pairsWith X.i_those_i_Sign vWith
  rw [those_gen (pr x) (fun _ => rfl) l 0 [] (by simp; omega) (fun i y s hy => ?_)]
  · rfl
  · unfold X.i_pairsWith_1
    rw [hz, bind_some, i_isPair_eq gx (hg y (List.mem_of_getElem? hy)) hk]
    simp only [bind_some]
    cases pr x y <;> simp
theorem s_prWith_eq {k : Nat} {l : List Sign} {z : Int} {x : Sign} (hg : ∀ s ∈ l, gSign s = true) (hz : getI l z = some x) (hl : l.length ≤ 1048576) (hk : 10 ≤ k) : X.s_prWith k l z = some (vWith l x) := by
  have gx := hg x (List.mem_of_getElem? (getI_some hz).2.2)
  unfold X.s_prWith vWith
  rw [those_gen (pr x) (fun _ => rfl) l 0 [] (by simp; omega) (fun i y s hy => ?_)]
  · rfl
  · rw [hz, bind_some, s_prPair_eq gx (hg y (List.mem_of_getElem? hy)) hk]
    simp only [bind_some]
    cases pr x y <;> simp
theorem vWith_len (l : List Sign) (x : Sign) : (vWith l x).length ≤ l.length := ixs_len _ l 0
theorem len16 (l : List Sign) (n : Nat) : decide ((l.length : Int) ≤ (n : Int)) = decide (l.length ≤ n) := by rw [Bool.eq_iff_iff]; simp
theorem len0 {α : Type} (l : List α) : ((l.length : Int) == 0) = decide (l.length = 0) := by rw [beq_dec, Bool.eq_iff_iff]; simp
/-! #### The sign with the most of them -/
def gtB (a b : Int) : Bool := decide (a > b)
def fW (l : List Sign) (x : Sign) : Int := ((vWith l x).length : Int)
def vMostP (l : List Sign) : Int × Int × Bool := if l.all gSign && decide (l.length ≤ 16) && !(decide (l.length = 0)) then ((arg gtB (fW l) l 0 (0, -1)).1, (arg gtB (fW l) l 0 (0, -1)).2, true) else (0, 0, false)
theorem arg_start (f : Sign → Int) (x : Sign) (l : List Sign) (h : 0 ≤ f x) : arg gtB f (x :: l) 0 (0, -1) = arg gtB f (x :: l) 0 (0, f x) := by
  have e1 : gtB (f x) (-1) = true := by unfold gtB; simp; omega
  have e2 : gtB (f x) (f x) = false := by unfold gtB; simp
  simp only [arg, e1, e2, if_true, Bool.false_eq_true, if_false]
  rfl
/-! #### Pairs with one sign; lonely signs -/
def vPW (l : List Sign) (z : Int) : List Int × Bool := if l.all gSign && decide (l.length ≤ 16) && inR z 0 (wr ((l.length : Int) - 1)) then ((match getI l z with | some x => vWith l x | none => []), true) else ([], false)
theorem at_in {l : List Sign} {z : Int} (hl : l.length ≤ 1048576) (h : inR z 0 (wr ((l.length : Int) - 1)) = true) : ∃ x, getI l z = some x := by
  rw [wr_of (by omega) (by omega), inR_iff] at h
  unfold getI
  rw [if_pos h.1]
  exact ⟨_, List.getElem?_eq_getElem (by omega)⟩
theorem vPW_len (l : List Sign) (z : Int) : (vPW l z).1.length ≤ l.length := by
  unfold vPW
  split
  · simp only
    split
    · exact vWith_len l _
    · simp
  · simp
def vLone (l : List Sign) : List Int × Bool := if l.all gSign && decide (l.length ≤ 16) then (ixs (fun x => decide ((vWith l x).length = 0)) l 0, true) else ([], false)
theorem vLone_len (l : List Sign) : (vLone l).1.length ≤ l.length := by
  unfold vLone
  split
  · exact ixs_len _ l 0
  · simp
end Go.Proofs.XC
