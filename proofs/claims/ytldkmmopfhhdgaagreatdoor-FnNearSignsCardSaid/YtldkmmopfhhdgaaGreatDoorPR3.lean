/- Plain laws of the plain functions: no program, no memory. By AI agents; no person has read it. -/
import Derived.Test.YtldkmmopfhhdgaaGreatDoorPR1
set_option linter.unusedVariables false
set_option linter.unusedSimpArgs false
set_option maxRecDepth 100000
set_option maxHeartbeats 40000000
namespace Go.Proofs.XC
open Go Go.RowKit
/-! ### Lists of pairs -/
def prsG (p : Sign → Sign → Bool) (L : List Sign) : List (List Int) := rng (fun i x acc => rng (fun k y acc => if p x y then acc ++ [[(i : Int), (k : Int)]] else acc) (L.drop (i + 1)) (i + 1) acc) L 0 []
theorem rng_inv {α σ : Type} (g : Nat → α → σ → σ) (I : Nat → σ → Prop) : ∀ (l : List α) (j : Nat) (s : σ), (∀ i x s, j ≤ i → i < j + l.length → I i s → I (i + 1) (g i x s)) → I j s → I (j + l.length) (rng g l j s)
  | [], j, s, _, h => h
  | x :: l, j, s, hs, h => by
    rw [rng, List.length_cons, show j + (l.length + 1) = j + 1 + l.length by omega]
    exact rng_inv g I l (j + 1) _ (fun i y s h1 h2 h3 => hs i y s (by omega) (by rw [List.length_cons]; omega) h3) (hs j x s (Nat.le_refl _) (by rw [List.length_cons]; omega) h)
theorem pairs_gen {p : Sign → Sign → Bool} {L : List Sign} {k : Nat} (hL : L.length ≤ 16) (hk : 100 ≤ k) {body : Nat → Sign → Int × List (List Int) → Option ((Int × List (List Int)) ⊕ List (List Int))}
    (h1 : ∀ i x (q : Nat) y acc, L[i]? = some x → L[q]? = some y → acc.length ≤ 1000 → body i x ((q : Int), acc) = some (.inl (((q + 1 : Nat) : Int), if p x y then acc ++ [[(i : Int), (q : Int)]] else acc)))
    (h2 : ∀ i x acc, body i x ((L.length : Int), acc) = some (.inr acc))
    {out : Int → Sign → List (List Int) → Option (List (List Int) ⊕ List (List Int))}
    (h3 : ∀ (i : Nat) x acc, out (i : Int) x acc = Option.bind (loopM (body i x) k ((wr ((i : Int) + 1)), acc)) fun l23 => some (.inl l23)) :
    rangeM out (fun l4 => some l4) L 0 [] = some (prsG p L) := by
  rw [(rng_range (fun i x acc => rng (fun k y acc => if p x y then acc ++ [[(i : Int), (k : Int)]] else acc) (L.drop (i + 1)) (i + 1) acc) (fun i acc => acc.length ≤ i * 16) L (fun i x acc hx hv => by
    have hi := some_len hx
    have q := rng_loop (body := body i x) (fun q acc => ((q : Int), acc)) (fun acc => acc) (fun q y acc => if p x y then acc ++ [[(i : Int), (q : Int)]] else acc) (fun q acc => acc.length ≤ i * 16 + q) L (fun q y acc hy hv => by
      refine ⟨h1 i x q y acc hx hy (by have := some_len hy; omega), ?_⟩
      split
      · rw [List.length_append, List.length_singleton]; omega
      · omega) (fun acc _ => h2 i x acc) (L.drop (i + 1)) (i + 1) k acc rfl (by omega) (by omega) (by have := drop_le L (i + 1); omega)
    refine ⟨?_, by have := q.2; omega⟩
    rw [h3, wr_suc (show i ≤ 4611686018427387904 by omega), q.1]
    rfl) L 0 [] rfl (by simp)).1]
  rfl
theorem i_pairsIn_eq {k : Nat} {l : List Sign} {F : Sign → Sign → Option Bool} {p : Sign → Sign → Bool} (hF : ∀ x y, x ∈ l → y ∈ l → F x y = some (p x y)) (hn : l.length ≤ 16) (hk : 100 ≤ k) : X.i_pairsIn k l F = some (prsG p l) := by
  unfold X.i_pairsIn
  rw [pairs_gen (p := p) (L := l) (k := k) hn hk (body := fun j10 x11 => fun (⟨n15, l19⟩ : Int × List (List Int)) => (bif decide (n15 < (List.length l : Int)) then (Option.bind (getI l n15) fun y8_4 => (Option.bind (F x11 y8_4) fun v8_6 => (bif v8_6 then (Option.bind (appD l19 ([([(j10 : Int), n15] : List Int)] : List (List Int))) fun y9_5 => some (.inl ((wr (n15 + 1)), y9_5))) else some (.inl ((wr (n15 + 1)), l19))))) else some (.inr l19)))
    (fun i x q y acc hx hy ha => by
      have hq := some_len hy
      simp only [decL hq, cond_true, getI_of hy, bind_some, hF x y (mem_of hx) (mem_of hy), wr_suc (show q ≤ 4611686018427387904 by omega), appDD (show acc.length ≤ 1000000 by omega)]
      cases p x y <;> rfl) (fun i x acc => by simp only [decE, cond_false]) (fun i x acc => rfl)]
  rfl
def pB (z : Int) (x y : Sign) : Bool := decide (apart (nS x) (nS y) = [z])
def pS (z : Int) (x y : Sign) : Bool := if z < 0 then pr x y else pB z x y
theorem eq_one (a : List Int) (z : Int) : X.slices_Equal_int_int a [z] = some (decide (a = [z])) := by
  unfold X.slices_Equal_int_int
  match a with
  | [] => rfl
  | [y] =>
    have h : ((([y] : List Int).length : Int) != (([z] : List Int).length : Int)) = false := rfl
    rw [h]
    simp only [cond_false, rangeM_cons, rangeM_nil]
    have hz : getI [z] ((0 : Nat) : Int) = some z := rfl
    rw [hz]
    by_cases c : y = z
    · subst c; simp [bind_some, orEl]
    · have cb : (y == z) = false := by simp [c]
      simp [bind_some, orEl, c, bne, cb]
  | y :: y2 :: l =>
    have h : (((y :: y2 :: l).length : Int) != (([z] : List Int).length : Int)) = true := by
      simp only [List.length_cons, List.length_nil, bne, beq_dec]
      simp
      omega
    rw [h]
    simp
theorem s_prPairs_eq {k : Nat} {l : List Sign} (z : Int) (hg : ∀ s ∈ l, gSign s = true) (hn : l.length ≤ 16) (hk : 100 ≤ k) : X.s_prPairs k l z = some (prsG (pS z) l) := by
  unfold X.s_prPairs
  rw [pairs_gen (p := pS z) (L := l) (k := k) hn hk (body := fun j10 x11 => fun (⟨n15, l19⟩ : Int × List (List Int)) => (bif decide (n15 < (List.length l : Int)) then (Option.bind (getI l ((j10 : Nat) : Int)) fun y8_2 => (Option.bind (getI l n15) fun y8_6 => (Option.bind (X.s_prApart k y8_2 y8_6) fun v8_8 => (bif ((List.length v8_8 : Int) == 1) then (bif decide (z < 0) then (Option.bind (appD l19 ([([(j10 : Int), n15] : List Int)] : List (List Int))) fun y10_5 => some (.inl ((wr (n15 + 1)), y10_5))) else (Option.bind (getI v8_8 0) fun y9_8 => (bif (y9_8 == z) then (Option.bind (appD l19 ([([(j10 : Int), n15] : List Int)] : List (List Int))) fun y10_5 => some (.inl ((wr (n15 + 1)), y10_5))) else some (.inl ((wr (n15 + 1)), l19))))) else some (.inl ((wr (n15 + 1)), l19)))))) else some (.inr l19)))
    (fun i x q y acc hx hy ha => by
      have hq := some_len hy
      simp only [decL hq, cond_true, getI_of hx, getI_of hy, bind_some, s_prApart_eq (hg x (mem_of hx)) (hg y (mem_of hy)) (show 10 ≤ k by omega), wr_suc (show q ≤ 4611686018427387904 by omega), appDD (show acc.length ≤ 1000000 by omega), len_one]
      unfold pS pr pB
      generalize apart (nS x) (nS y) = v
      match v with
      | [] => by_cases c : z < 0 <;> simp [c]
      | [w] =>
        have hz : getI [w] 0 = some w := rfl
        by_cases c : z < 0
        · simp [c]
        · by_cases c2 : w = z
          · subst c2; simp [c, hz, bind_some]
          · have cb : (w == z) = false := by simp [c2]
            simp [c, hz, bind_some, c2, cb]
      | w :: w2 :: v => by_cases c : z < 0 <;> simp [c]) (fun i x acc => by simp only [decE, cond_false]) (fun i x acc => rfl)]
  rfl
def vBy (l : List Sign) (z : Int) : List (List Int) × Bool := if l.all gSign && decide (l.length ≤ 16) && inR z 0 4 then (prsG (pB z) l, true) else ([], false)
theorem pS_pB {z : Int} (h : inR z 0 4 = true) : pS z = pB z := by
  funext x y
  rw [inR_iff] at h
  unfold pS
  rw [if_neg (by omega)]
theorem i_PairsBy_eq {k : Nat} {l : List Sign} (z : Int) (hs : ∀ s ∈ l, smallS s) (hk : 100 ≤ k) : X.i_PairsBy k l z = some (vBy l z) := by
  unfold X.i_PairsBy vBy
  rw [i_areSigns_eq hs (by omega), i_within_eq, show ((16 : Int)) = ((16 : Nat) : Int) from rfl, len16]
  cases h1 : l.all gSign <;> cases h2 : decide (l.length ≤ 16) <;> cases h3 : inR z 0 4 <;> simp only [Bool.true_and, Bool.false_and, Bool.and_true, Bool.and_false, Bool.and_self, Bool.not_true, Bool.not_false, cond_true, cond_false, bind_some, if_true, Bool.false_eq_true, if_false]
  have hg : ∀ s ∈ l, gSign s = true := by simpa using h1
  rw [i_pairsIn_eq (p := pB z) (fun x y hx hy => by
    unfold X.i_PairsBy_1
    rw [i_partsApart_eq (hg x hx) (hg y hy) (by omega), bind_some, eq_one]
    rfl) (by simpa using h2) hk]
  rfl
theorem s_prPart_eq (z : Int) : X.s_prPart z = some (inR z 0 4) := by
  unfold X.s_prPart
  rw [s_l1In_eq]
  rfl
theorem s_PairsBy_eq {k : Nat} {l : List Sign} (z : Int) (hs : ∀ s ∈ l, smallS s) (hk : 2000010 ≤ k) : X.s_PairsBy k l z = some (vBy l z) := by
  unfold X.s_PairsBy vBy
  rw [s_noList_eq hs hk, s_prPart_eq]
  cases h1 : l.all gSign <;> cases h2 : decide (l.length ≤ 16) <;> cases h3 : inR z 0 4 <;> simp only [Bool.true_and, Bool.false_and, Bool.and_true, Bool.and_false, Bool.and_self, Bool.not_true, Bool.not_false, cond_true, cond_false, bind_some, if_true, Bool.false_eq_true, if_false]
  have hg : ∀ s ∈ l, gSign s = true := by simpa using h1
  rw [s_prPairs_eq z hg (by simpa using h2) (by omega), pS_pB h3]
  rfl
def vMinimal (l : List Sign) : List (List Int) × Bool := if l.all gSign && decide (l.length ≤ 16) then (prsG pr l, true) else ([], false)
theorem i_Minimal_eq {k : Nat} {l : List Sign} (hs : ∀ s ∈ l, smallS s) (hk : 100 ≤ k) : X.i_MinimalPairs k l = some (vMinimal l) := by
  unfold X.i_MinimalPairs vMinimal
  rw [i_areSigns_eq hs (by omega), show ((16 : Int)) = ((16 : Nat) : Int) from rfl, len16]
  cases h1 : l.all gSign <;> cases h2 : decide (l.length ≤ 16) <;> simp only [Bool.true_and, Bool.false_and, Bool.and_true, Bool.and_false, Bool.and_self, Bool.not_true, Bool.not_false, cond_true, cond_false, bind_some, if_true, Bool.false_eq_true, if_false]
  have hg : ∀ s ∈ l, gSign s = true := by simpa using h1
  rw [i_pairsIn_eq (p := pr) (fun x y hx hy => i_isPair_eq (hg x hx) (hg y hy) (by omega)) (by simpa using h2) hk]
  rfl
theorem s_Minimal_eq {k : Nat} {l : List Sign} (hs : ∀ s ∈ l, smallS s) (hk : 2000010 ≤ k) : X.s_MinimalPairs k l = some (vMinimal l) := by
  unfold X.s_MinimalPairs vMinimal
  rw [s_noList_eq hs hk]
  cases h1 : l.all gSign <;> cases h2 : decide (l.length ≤ 16) <;> simp only [Bool.true_and, Bool.false_and, Bool.and_true, Bool.and_false, Bool.and_self, Bool.not_true, Bool.not_false, cond_true, cond_false, bind_some, if_true, Bool.false_eq_true, if_false]
  have hg : ∀ s ∈ l, gSign s = true := by simpa using h1
  rw [s_prPairs_eq (-1) hg (by simpa using h2) (by omega)]
  have e : pS (-1) = pr := by funext x y; unfold pS; rw [if_pos (by omega)]
  rw [e]
  rfl
/-! #### How many pairs each part has -/
def loadL (l : List Sign) : List Int := rng (fun i (_ : Nat) acc => acc ++ [((prsG (pB (i : Int)) l).length : Int)]) [0, 1, 2, 3, 4] 0 []
def vLoad (l : List Sign) : List Int × Bool := if l.all gSign && decide (l.length ≤ 16) then (loadL l, true) else ([], false)
theorem load_gen {k : Nat} {l : List Sign} (hk : 100 ≤ k) {G : Int → Option (List (List Int))} (hG : ∀ z, inR z 0 4 = true → G z = some (prsG (pB z) l)) {body : Int × List Int → Option ((Int × List Int) ⊕ List Int)}
    (h : ∀ z acc, body (z, acc) = bif decide (z ≤ 4) then (Option.bind (G z) fun v => (Option.bind (appG (eI .i64) acc ([(List.length v : Int)] : List Int)) fun y8_4 => some (.inl ((wr (z + 1)), y8_4)))) else some (.inr acc)) :
    loopM body k (0, []) = some (loadL l) := by
  have q := rng_loop (body := body) (fun i acc => ((i : Int), acc)) (fun acc => acc) (fun i (_ : Nat) acc => acc ++ [((prsG (pB (i : Int)) l).length : Int)]) (fun i acc => acc.length = i) [0, 1, 2, 3, 4] (fun i x acc hx hv => by
    have hi := some_len hx
    simp only [List.length_cons, List.length_nil] at hi
    have d : decide ((i : Int) ≤ 4) = true := decide_eq_true (by omega)
    refine ⟨?_, by simp [hv]⟩
    rw [h, d, hG i (by rw [inR_iff]; omega), cond_true, bind_some, appI (by omega), bind_some, wr_suc (by omega)]) (fun acc _ => by rw [h]; rfl) [0, 1, 2, 3, 4] 0 k [] rfl (by simp) rfl (by simp only [List.length_cons, List.length_nil]; omega)
  exact q.1
theorem i_Load_eq {k : Nat} {l : List Sign} (hs : ∀ s ∈ l, smallS s) (hk : 100 ≤ k) : X.i_LoadOf k l = some (vLoad l) := by
  unfold X.i_LoadOf vLoad
  rw [i_areSigns_eq hs (by omega), show ((16 : Int)) = ((16 : Nat) : Int) from rfl, len16]
  cases h1 : l.all gSign <;> cases h2 : decide (l.length ≤ 16) <;> simp only [Bool.true_and, Bool.false_and, Bool.and_true, Bool.and_false, Bool.and_self, Bool.not_true, Bool.not_false, cond_true, cond_false, bind_some, if_true, Bool.false_eq_true, if_false]
  rw [load_gen (l := l) hk (G := fun z => some (vBy l z).1) (fun z hz => by unfold vBy; rw [h1, h2, hz]; rfl) (fun z acc => by
    simp only [i_PairsBy_eq z hs hk, bind_some])]
  rfl
theorem s_Load_eq {k : Nat} {l : List Sign} (hs : ∀ s ∈ l, smallS s) (hk : 2000010 ≤ k) : X.s_LoadOf k l = some (vLoad l) := by
  unfold X.s_LoadOf vLoad
  rw [s_noList_eq hs hk]
  cases h1 : l.all gSign <;> cases h2 : decide (l.length ≤ 16) <;> simp only [Bool.true_and, Bool.false_and, Bool.and_true, Bool.and_false, Bool.and_self, Bool.not_true, Bool.not_false, cond_true, cond_false, bind_some, if_true, Bool.false_eq_true, if_false]
  have hg : ∀ s ∈ l, gSign s = true := by simpa using h1
  rw [load_gen (l := l) (show 100 ≤ k by omega) (G := fun z => X.s_prPairs k l z) (fun z hz => by rw [s_prPairs_eq z hg (by simpa using h2) (by omega), pS_pB hz]) (fun z acc => rfl)]
  rfl
end Go.Proofs.XC
