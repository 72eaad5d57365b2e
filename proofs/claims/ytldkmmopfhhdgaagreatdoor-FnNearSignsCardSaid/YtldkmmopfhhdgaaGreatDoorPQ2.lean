/- Plain laws of the plain functions: no program, no memory. By AI agents; no person has read it. -/
import Derived.Test.YtldkmmopfhhdgaaGreatDoorPQ1
set_option linter.unusedVariables false
set_option linter.unusedSimpArgs false
set_option maxRecDepth 100000
set_option maxHeartbeats 40000000
namespace Go.Proofs.XC
open Go Go.RowKit
/-! ### The nearest sign, signs within a distance -/
def ltB (a b : Int) : Bool := decide (a < b)
def fN (s x : Sign) : Int := farG x s
def vNear (l : List Sign) (s : Sign) : Int × Int × Bool := if l.all gSign && decide (l.length ≤ 20) && gSign s then (match l with | [] => (0, 0, false) | y :: _ => ((arg ltB (fN s) l 0 (0, fN s y)).1, (arg ltB (fN s) l 0 (0, fN s y)).2, true)) else (0, 0, false)
theorem i_Near_eq {k : Nat} {l : List Sign} {s : Sign} (hs : ∀ s ∈ l, smallS s) (h2s : smallS s) (hl : l.length ≤ 1048576) (hk : 100 ≤ k) : X.i_NearestSign k l s = some (vNear l s) := by
  unfold X.i_NearestSign vNear
  rw [i_areSigns_eq hs (by omega), i_IsSign_eq h2s (by omega), len0, show ((20 : Int)) = ((20 : Nat) : Int) from rfl, len16]
  cases l with
  | nil => cases gSign s <;> rfl
  | cons y0 l' =>
    have h0 : decide ((y0 :: l').length = 0) = false := by simp
    rw [h0]
    cases h1 : (y0 :: l').all gSign <;> cases h2 : decide ((y0 :: l').length ≤ 20) <;> cases h3 : gSign s <;> simp only [Bool.true_and, Bool.false_and, Bool.and_true, Bool.and_false, Bool.and_self, Bool.not_true, Bool.not_false, cond_true, cond_false, bind_some, if_true, Bool.false_eq_true, if_false]
    have hg : ∀ s ∈ y0 :: l', gSign s = true := by simpa using h1
    have hf : ∀ x, gSign x = true → X.i_Sign_distance k x s = some (fN s x) := fun x gx => (farG_eqs gx h3 hk).1
    obtain ⟨b', y', hr, hb, ha⟩ := arg_impl (ρ := Int) ltB (fN s) (y0 :: l') (body := fun (j7 : Int) (x8 : Sign) n4 => (Option.bind (X.i_Sign_distance k x8 s) fun v7_2 => (Option.bind (getI (y0 :: l') n4) fun y7_5 => (Option.bind (X.i_Sign_distance k y7_5 s) fun v7_8 => (bif decide (v7_2 < v7_8) then some (.inl (j7 : Int)) else some (.inl n4)))))) (fin := fun n => some n) (y0 :: l') 0 0 y0 rfl (getI_zero rfl) (fun i x b y hx hy => by
      rw [hf x (hg x (List.mem_of_getElem? hx)), bind_some, hy, bind_some, hf y (hg y (List.mem_of_getElem? (getI_some hy).2.2)), bind_some]
      unfold ltB
      cases decide (fN s x < fN s y) <;> rfl)
    rw [hr, bind_some, hb, bind_some, hf y' (hg y' (List.mem_of_getElem? (getI_some hb).2.2)), bind_some, ha]
theorem s_Near_eq {k : Nat} {l : List Sign} {s : Sign} (hs : ∀ s ∈ l, smallS s) (h2s : smallS s) (hl : l.length ≤ 1048576) (hk : 2000010 ≤ k) : X.s_NearestSign k l s = some (vNear l s) := by
  unfold X.s_NearestSign vNear
  rw [s_paList_eq hs hk, s_siGood_eq h2s hk, len0]
  cases l with
  | nil => cases gSign s <;> rfl
  | cons y0 l' =>
    have h0 : decide ((y0 :: l').length = 0) = false := by simp
    rw [h0]
    cases h1 : (y0 :: l').all gSign <;> cases h2 : decide ((y0 :: l').length ≤ 20) <;> cases h3 : gSign s <;> simp only [Bool.true_and, Bool.false_and, Bool.and_true, Bool.and_false, Bool.and_self, Bool.not_true, Bool.not_false, cond_true, cond_false, bind_some, if_true, Bool.false_eq_true, if_false]
    have hg : ∀ s ∈ y0 :: l', gSign s = true := by simpa using h1
    have hf : ∀ x, gSign x = true → X.s_feFar k x s = some (fN s x) := fun x gx => (farG_eqs gx h3 (show 100 ≤ k by omega)).2.1
    rw [getI_zero (y := y0) rfl, bind_some, hf y0 (hg y0 List.mem_cons_self), bind_some]
    rw [arg_spec ltB (fN s) (y0 :: l') 0 (0, fN s y0) fun i x q hx => ?_]
    · rfl
    · rw [hf x (hg x (List.mem_of_getElem? hx)), bind_some]
      unfold ltB
      cases decide (fN s x < q.2) <;> rfl
def vWithin (l : List Sign) (s : Sign) (n : Int) : List Int × Bool := if l.all gSign && decide (l.length ≤ 20) && gSign s && inR n 0 100 then (ixs (fun x => decide (farG x s ≤ n)) l 0, true) else ([], false)
theorem i_Within_eq {k : Nat} {l : List Sign} {s : Sign} (n : Int) (hs : ∀ s ∈ l, smallS s) (h2s : smallS s) (hl : l.length ≤ 1048576) (hk : 100 ≤ k) : X.i_SignsWithin k l s n = some (vWithin l s n) := by
  unfold X.i_SignsWithin X.i_those_i_Sign vWithin
  rw [i_areSigns_eq hs (by omega), i_IsSign_eq h2s (by omega), i_within_eq, show ((20 : Int)) = ((20 : Nat) : Int) from rfl, len16]
  cases h1 : l.all gSign <;> cases h2 : decide (l.length ≤ 20) <;> cases h3 : gSign s <;> cases h4 : inR n 0 100 <;> simp only [Bool.true_and, Bool.false_and, Bool.and_true, Bool.and_false, Bool.and_self, Bool.not_true, Bool.not_false, cond_true, cond_false, bind_some, if_true, Bool.false_eq_true, if_false]
  have hg : ∀ s ∈ l, gSign s = true := by simpa using h1
  rw [those_gen (fun x => decide (farG x s ≤ n)) (fun _ => rfl) l 0 [] (by simp; omega) (fun i y q hy => ?_)]
  · rfl
  · unfold X.i_SignsWithin_1
    rw [(farG_eqs (hg y (List.mem_of_getElem? hy)) h3 hk).1]
    simp only [bind_some]
    cases decide (farG y s ≤ n) <;> simp
theorem s_Within_eq {k : Nat} {l : List Sign} {s : Sign} (n : Int) (hs : ∀ s ∈ l, smallS s) (h2s : smallS s) (hl : l.length ≤ 1048576) (hk : 2000010 ≤ k) : X.s_SignsWithin k l s n = some (vWithin l s n) := by
  unfold X.s_SignsWithin vWithin
  rw [s_paList_eq hs hk, s_siGood_eq h2s hk, s_l1In_eq]
  cases h1 : l.all gSign <;> cases h2 : decide (l.length ≤ 20) <;> cases h3 : gSign s <;> cases h4 : inR n 0 100 <;> simp only [Bool.true_and, Bool.false_and, Bool.and_true, Bool.and_false, Bool.and_self, Bool.not_true, Bool.not_false, cond_true, cond_false, bind_some, if_true, Bool.false_eq_true, if_false]
  have hg : ∀ s ∈ l, gSign s = true := by simpa using h1
  rw [those_gen (fun x => decide (farG x s ≤ n)) (fun _ => rfl) l 0 [] (by simp; omega) (fun i y q hy => ?_)]
  · rfl
  · rw [(farG_eqs (hg y (List.mem_of_getElem? hy)) h3 (show 100 ≤ k by omega)).2.1]
    simp only [bind_some]
    cases decide (farG y s ≤ n) <;> simp
/-! ### Signs that keep all constraints -/
/-! ### Distinct signs -/
end Go.Proofs.XC
