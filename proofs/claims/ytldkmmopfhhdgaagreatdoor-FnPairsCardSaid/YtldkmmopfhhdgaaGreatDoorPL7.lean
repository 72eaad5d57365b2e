/- Plain laws of the plain functions: no program, no memory. By AI agents; no person has read it. -/
import Derived.Test.YtldkmmopfhhdgaaGreatDoorPL5
import Derived.Test.YtldkmmopfhhdgaaGreatDoorPR4
set_option linter.unusedVariables false
set_option linter.unusedSimpArgs false
set_option maxRecDepth 100000
set_option maxHeartbeats 40000000
namespace Go.Proofs.XC
open Go Go.RowKit
/-! ### Pairs of a list -/
def inP (p : Sign → Sign → Bool) (x : Sign) (i : Nat) : List Sign → Nat → List (List Int)
  | [], _ => []
  | y :: l, k => if p x y then [(i : Int), (k : Int)] :: inP p x i l (k + 1) else inP p x i l (k + 1)
def prL (p : Sign → Sign → Bool) : List Sign → Nat → List (List Int)
  | [], _ => []
  | x :: l, j => inP p x j l (j + 1) ++ prL p l (j + 1)
theorem inP_rng (p : Sign → Sign → Bool) (x : Sign) (i : Nat) : ∀ (l : List Sign) (k : Nat) (acc : List (List Int)), rng (fun k y acc => if p x y then acc ++ [[(i : Int), (k : Int)]] else acc) l k acc = acc ++ inP p x i l k
  | [], k, acc => by simp [rng, inP]
  | y :: l, k, acc => by
    rw [rng, inP_rng p x i l (k + 1), inP]
    split <;> simp
theorem prL_rng (p : Sign → Sign → Bool) (L : List Sign) : ∀ (l : List Sign) (j : Nat) (acc : List (List Int)), L.drop j = l → rng (fun i x acc => rng (fun k y acc => if p x y then acc ++ [[(i : Int), (k : Int)]] else acc) (L.drop (i + 1)) (i + 1) acc) l j acc = acc ++ prL p l j
  | [], j, acc, _ => by simp [rng, prL]
  | x :: l, j, acc, h => by
    have hd : L.drop (j + 1) = l := by rw [← List.drop_drop, h]; rfl
    rw [rng, prL_rng p L l (j + 1) _ hd, inP_rng, hd, prL, List.append_assoc]
theorem prsG_eq (p : Sign → Sign → Bool) (L : List Sign) : prsG p L = prL p L 0 := by
  unfold prsG
  rw [prL_rng p L L 0 [] rfl, List.nil_append]
theorem inP_mem {p : Sign → Sign → Bool} {x : Sign} {i : Nat} : ∀ {l : List Sign} {k : Nat} {r : List Int}, r ∈ inP p x i l k → ∃ q y, l[q]? = some y ∧ p x y = true ∧ r = [(i : Int), ((k + q : Nat) : Int)]
  | [], k, r, h => by cases h
  | y :: l, k, r, h => by
    have key : r ∈ inP p x i l (k + 1) → ∃ q z, (y :: l)[q]? = some z ∧ p x z = true ∧ r = [(i : Int), ((k + q : Nat) : Int)] := fun h => by
      obtain ⟨q, z, h1, h2, h3⟩ := inP_mem h
      exact ⟨q + 1, z, h1, h2, by rw [h3, Nat.add_assoc, Nat.add_comm 1 q]⟩
    rw [inP] at h
    split at h
    · rename_i hp
      rcases List.mem_cons.1 h with h | h
      · exact ⟨0, y, rfl, hp, h⟩
      · exact key h
    · exact key h
theorem prL_mem {p : Sign → Sign → Bool} : ∀ {l : List Sign} {j : Nat} {r : List Int}, r ∈ prL p l j → ∃ a b x y, a < b ∧ l[a]? = some x ∧ l[b]? = some y ∧ p x y = true ∧ r = [((j + a : Nat) : Int), ((j + b : Nat) : Int)]
  | [], j, r, h => by cases h
  | x :: l, j, r, h => by
    rw [prL] at h
    rcases List.mem_append.1 h with h | h
    · obtain ⟨q, y, h1, h2, h3⟩ := inP_mem h
      exact ⟨0, q + 1, x, y, by omega, rfl, h1, h2, by rw [h3, Nat.add_assoc, Nat.add_comm 1 q]; rfl⟩
    · obtain ⟨a, b, x2, y2, h0, h1, h2, h3, h4⟩ := prL_mem h
      exact ⟨a + 1, b + 1, x2, y2, by omega, h1, h2, h3, by rw [h4, Nat.add_assoc, Nat.add_comm 1 a, Nat.add_assoc, Nat.add_comm 1 b]⟩
theorem apart_form (x y : Sign) : ∃ b1 b2 b3 b4 b5, apart x y = ixs (fun x => !x) [b1, b2, b3, b4, b5] 0 := ⟨_, _, _, _, _, rfl⟩
def b2n (b : Bool) : Nat := if b then 1 else 0
theorem pr_sum (x y : Sign) : b2n (pB 0 x y) + b2n (pB 1 x y) + b2n (pB 2 x y) + b2n (pB 3 x y) + b2n (pB 4 x y) = b2n (pr x y) := by
  unfold pB pr
  obtain ⟨b1, b2, b3, b4, b5, e⟩ := apart_form (nS x) (nS y)
  rw [e]
  cases b1 <;> cases b2 <;> cases b3 <;> cases b4 <;> cases b5 <;> decide
theorem inP_len (p : Sign → Sign → Bool) (x y : Sign) (i : Nat) (l : List Sign) (k : Nat) : (inP p x i (y :: l) k).length = b2n (p x y) + (inP p x i l (k + 1)).length := by
  rw [inP]
  unfold b2n
  split <;> simp <;> omega
theorem inP_sum (x : Sign) (i : Nat) : ∀ (l : List Sign) (k : Nat), (inP (pB 0) x i l k).length + (inP (pB 1) x i l k).length + (inP (pB 2) x i l k).length + (inP (pB 3) x i l k).length + (inP (pB 4) x i l k).length = (inP pr x i l k).length
  | [], k => rfl
  | y :: l, k => by
    have := inP_sum x i l (k + 1)
    have := pr_sum x y
    simp only [inP_len]
    omega
theorem prL_sum : ∀ (l : List Sign) (j : Nat), (prL (pB 0) l j).length + (prL (pB 1) l j).length + (prL (pB 2) l j).length + (prL (pB 3) l j).length + (prL (pB 4) l j).length = (prL pr l j).length
  | [], j => rfl
  | x :: l, j => by
    have := prL_sum l (j + 1)
    have := inP_sum x j l (j + 1)
    simp only [prL, List.length_append]
    omega
theorem loadL_form (L : List Sign) : loadL L = [((prsG (pB 0) L).length : Int), ((prsG (pB 1) L).length : Int), ((prsG (pB 2) L).length : Int), ((prsG (pB 3) L).length : Int), ((prsG (pB 4) L).length : Int)] := rfl
theorem wr5 (a b c d e : Nat) (ha : a ≤ 1000) (hb : b ≤ 1000) (hc : c ≤ 1000) (hd : d ≤ 1000) (he : e ≤ 1000) : wr (wr (wr (wr (wr (0 + (a : Int)) + (b : Int)) + (c : Int)) + (d : Int)) + (e : Int)) = ((a + b + c + d + e : Nat) : Int) := by
  have e1 : wr (0 + (a : Int)) = (a : Int) := by rw [wr_of (by omega) (by omega)]; omega
  have e2 : wr ((a : Int) + (b : Int)) = ((a + b : Nat) : Int) := by rw [wr_of (by omega) (by omega)]; omega
  have e3 : wr (((a + b : Nat) : Int) + (c : Int)) = ((a + b + c : Nat) : Int) := by rw [wr_of (by omega) (by omega)]; omega
  have e4 : wr (((a + b + c : Nat) : Int) + (d : Int)) = ((a + b + c + d : Nat) : Int) := by rw [wr_of (by omega) (by omega)]; omega
  have e5 : wr (((a + b + c + d : Nat) : Int) + (e : Int)) = ((a + b + c + d + e : Nat) : Int) := by rw [wr_of (by omega) (by omega)]; omega
  rw [e1, e2, e3, e4, e5]
theorem pSum_load {L : List Sign} (h : L.length ≤ 16) : X.l_pSum (loadL L) = some ((prsG pr L).length : Int) := by
  have b := fun p => (prsG_bnd (p := p) h).1
  have b0 := b (pB 0)
  have b1 := b (pB 1)
  have b2 := b (pB 2)
  have b3 := b (pB 3)
  have b4 := b (pB 4)
  have hs := prL_sum L 0
  simp only [← prsG_eq] at hs
  rw [loadL_form]
  unfold X.l_pSum
  simp only [rangeM_cons, rangeM_nil, bind_some]
  rw [wr5 _ _ _ _ _ b0 b1 b2 b3 b4, hs]
theorem qOr5 (a b : Orient) : qOrient a b = decide (a = b) := by
  cases a; cases b
  unfold qOrient
  rw [Bool.eq_iff_iff]
  simp [and_assoc]
theorem qPl5 (a b : Place) : qPlace a b = decide (a = b) := by
  cases a; cases b
  unfold qPlace
  rw [Bool.eq_iff_iff]
  simp [and_assoc]
theorem qMo5 (a b : Move) : qMove a b = decide (a = b) := by
  cases a; cases b
  unfold qMove
  rw [Bool.eq_iff_iff]
  simp [and_assoc, seq_eq]
theorem qHand_sym (a b : Hand) : qHand a b = qHand b a := by rw [qHand_iff, qHand_iff, decide_eq_decide]; exact eq_comm
theorem apart_sym (a b : Sign) : apart a b = apart b a := by
  unfold apart
  have e1 : qShape a.Main.Shape b.Main.Shape = qShape b.Main.Shape a.Main.Shape := by rw [qShape_iff, qShape_iff, decide_eq_decide]; exact eq_comm
  have e2 : qOrient a.Main.Orient b.Main.Orient = qOrient b.Main.Orient a.Main.Orient := by rw [qOr5, qOr5, decide_eq_decide]; exact eq_comm
  have e3 : qPlace a.Main.Place b.Main.Place = qPlace b.Main.Place a.Main.Place := by rw [qPl5, qPl5, decide_eq_decide]; exact eq_comm
  have e4 : qMove a.Main.Move b.Main.Move = qMove b.Main.Move a.Main.Move := by rw [qMo5, qMo5, decide_eq_decide]; exact eq_comm
  rw [e1, e2, e3, e4, qHand_sym a.Other b.Other]
  by_cases h : a.Two = b.Two
  · rw [if_pos h, if_pos h.symm]
  · rw [if_neg h, if_neg fun h2 => h h2.symm]
theorem pr_sym (x y : Sign) : pr x y = pr y x := by unfold pr; rw [apart_sym]
theorem apart_nil (a b : Sign) : apart a b = [] ↔ a = b := by
  constructor
  · intro h
    have key : ∀ b1 b2 b3 b4 b5 : Bool, ixs (fun x => !x) [b1, b2, b3, b4, b5] 0 = [] → b1 = true ∧ b2 = true ∧ b3 = true ∧ b4 = true ∧ b5 = true := by
      intro b1 b2 b3 b4 b5
      cases b1 <;> cases b2 <;> cases b3 <;> cases b4 <;> cases b5 <;> decide
    unfold apart at h
    obtain ⟨h1, h2, h3, h4, h5⟩ := key _ _ _ _ _ h
    by_cases ht : a.Two = b.Two
    · rw [if_pos ht, qHand_iff, decide_eq_true_iff] at h5
      rw [qShape_iff, decide_eq_true_iff] at h1
      rw [qOr5, decide_eq_true_iff] at h2
      rw [qPl5, decide_eq_true_iff] at h3
      rw [qMo5, decide_eq_true_iff] at h4
      obtain ⟨⟨a1, a2, a3, a4⟩, at_, ao⟩ := a
      obtain ⟨⟨c1, c2, c3, c4⟩, ct, co⟩ := b
      simp only at h1 h2 h3 h4 h5 ht
      subst h1; subst h2; subst h3; subst h4; subst h5; subst ht; rfl
    · rw [if_neg ht] at h5
      cases h5
  · rintro rfl
    unfold apart
    rw [qShape_iff, qOr5, qPl5, qMo5, qHand_iff]
    simp [ixs]
theorem gt0 (a : Int) : gtB a a = false := by unfold gtB; simp
theorem gt1 (a b d : Int) (h1 : gtB a b = true) (h2 : gtB a d = false) : gtB b d = false := by
  unfold gtB at *; simp only [decide_eq_true_iff, decide_eq_false_iff_not] at *; omega
theorem gt2 (a b d : Int) (h1 : gtB a b = false) (h2 : gtB b d = false) : gtB a d = false := by
  unfold gtB at *; simp only [decide_eq_false_iff_not] at *; omega
theorem most_best {L : List Sign} (h : L ≠ []) : (∀ x ∈ L, fW L x ≤ (arg gtB (fW L) L 0 (0, -1)).2) ∧ ∃ (i : Nat) (x : Sign), L[i]? = some x ∧ arg gtB (fW L) L 0 (0, -1) = ((i : Int), fW L x) := by
  obtain ⟨a1, a2, a3⟩ := arg_best gt0 gt1 gt2 (fW L) L 0 (0, -1)
  have key : ∀ x ∈ L, fW L x ≤ (arg gtB (fW L) L 0 (0, -1)).2 := fun x hx => by
    have := a1 x hx
    unfold gtB at this
    simp only [decide_eq_false_iff_not] at this
    unfold gtB
    omega
  refine ⟨key, ?_⟩
  rcases a3 with a3 | ⟨i, x, hx, a3⟩
  · exfalso
    obtain ⟨x, hx⟩ := List.exists_mem_of_ne_nil L h
    have := key x hx
    rw [a3] at this
    have h2 : 0 ≤ fW L x := by unfold fW; omega
    dsimp only at this
    omega
  · exact ⟨i, x, hx, by rw [a3, Nat.zero_add]⟩
theorem Pure.FnPairs (c : List Int) (o_c : okL okY c) (d : List Int) (o_d : okL okY d) : X.l_FnPairs 3000000 c d = some true := by
  have hc := okB8_of o_c
  have hd := okB8_of o_d
  unfold X.l_FnPairs
  obtain ⟨v, e⟩ := big_eq c d
  rw [e, bind_some]
  cases v with
  | true => rfl
  | false =>
  rw [cond_false]
  obtain ⟨L, e, hn, hL⟩ := minimal_ex (k := 3000000) hc (by omega)
  have hs : ∀ s ∈ L, smallS s := fun s h => tinyS_small (hL s h)
  rw [e, bind_some, i_Minimal_eq hs (by omega), bind_some, s_Minimal_eq hs (by omega), bind_some, i_Load_eq hs (by omega), bind_some, s_Load_eq hs (by omega), bind_some, i_Lonely_eq hs (by omega) (by omega), bind_some, s_Lonely_eq hs (by omega) (by omega), bind_some, i_MostPairs_eq hs (by omega) (by omega), bind_some, s_MostPairs_eq hs (by omega) (by omega), bind_some]
  have hgo : (L.all gSign && decide (L.length ≤ 16)) = true → (∀ s ∈ L, gSign s = true) ∧ L.length ≤ 16 := fun h => by
    rw [Bool.and_eq_true, decide_eq_true_iff, List.all_eq_true] at h
    exact h
  refine bindB (v := false) ?_ ?_
  · simp only [beq_self_eq_true, Bool.not_true, cond_false, sameLists_refl, sameInts_refl, bind_some, bne_self_eq_false]
    unfold vLoad vMinimal vLone vMostP
    by_cases g : (L.all gSign && decide (L.length ≤ 16)) = true
    · cases L with
      | nil => rfl
      | cons x L =>
        simp only [g, if_true, Bool.true_and]
        simp
    · rw [Bool.not_eq_true] at g
      simp [g]
  rw [cond_false]
  refine orElB (v := ()) ?_ ?_
  · by_cases g : (L.all gSign && decide (L.length ≤ 16)) = true
    · obtain ⟨hg, hl⟩ := hgo g
      have e1 : vMinimal L = (prsG pr L, true) := by unfold vMinimal; rw [if_pos g]
      have e2 : vLoad L = (loadL L, true) := by unfold vLoad; rw [if_pos g]
      have e3 : vLone L = (ixs (fun x => decide ((vWith L x).length = 0)) L 0, true) := by unfold vLone; rw [if_pos g]
      rw [e1, e2, e3]
      simp only [cond_true]
      refine bindB (v := false) ?_ ?_
      · rw [pSum_load hl, bind_some, bne_self_eq_false, cond_false, loadL_form]
        rfl
      rw [cond_false]
      refine orElB (v := ()) ?_ ?_
      · rw [range_all0]
        intro i x hx
        have hi : i < 5 ∧ x = ((prsG (pB (i : Int)) L).length : Int) := by
          rw [loadL_form] at hx
          match i, hx with
          | 0, hx => exact ⟨by omega, by simpa using hx.symm⟩
          | 1, hx => exact ⟨by omega, by simpa using hx.symm⟩
          | 2, hx => exact ⟨by omega, by simpa using hx.symm⟩
          | 3, hx => exact ⟨by omega, by simpa using hx.symm⟩
          | 4, hx => exact ⟨by omega, by simpa using hx.symm⟩
          | i + 5, hx => simp at hx
        have hv : vBy L (i : Int) = (prsG (pB (i : Int)) L, true) := by
          unfold vBy
          rw [g, inR_iff.2 (by omega)]
          rfl
        rw [i_PairsBy_eq _ hs (by omega), bind_some, s_PairsBy_eq _ hs (by omega), bind_some, hv]
        simp only [Bool.not_true, cond_false, sameLists_refl, bind_some]
        rw [hi.2, bne_self_eq_false, cond_false]
      refine orElB (v := ()) ?_ ?_
      · rw [range_all0]
        intro i r hr
        have hm : r ∈ prL pr L 0 := by rw [← prsG_eq]; exact List.mem_of_getElem? hr
        obtain ⟨a, b, x, y, h0, h1, h2, h3, h4⟩ := prL_mem hm
        subst h4
        rw [Nat.zero_add, Nat.zero_add]
        have mx := List.mem_of_getElem? h1
        have my := List.mem_of_getElem? h2
        have g0 : getI ([(a : Int), (b : Int)] : List Int) 0 = some (a : Int) := rfl
        have g1 : getI ([(a : Int), (b : Int)] : List Int) 1 = some (b : Int) := rfl
        have hva : vApart x y = (apart (nS x) (nS y), true) := by
          unfold vApart
          rw [hg x mx, hg y my]
          rfl
        have hp : ((apart (nS x) (nS y)).length : Int) = 1 := by
          unfold pr at h3
          rw [decide_eq_true_iff] at h3
          omega
        have him : X.i_IsMinimalPair 3000000 y x = some (true, true) := by
          unfold X.i_IsMinimalPair
          rw [i_IsSign_eq (hs y my) (by omega), i_IsSign_eq (hs x mx) (by omega), hg x mx, hg y my, bind_some, bind_some, i_isPair_eq (hg y my) (hg x mx) (by omega), pr_sym, h3]
          rfl
        rw [g0, bind_some, getI_of h1, bind_some, g1, bind_some, getI_of h2, bind_some, i_PartsApart_eq (hs x mx) (hs y my) (by omega), bind_some, him, bind_some, hva]
        dsimp only
        rw [hp, decide_eq_false (by omega)]
        rfl
      refine orElB (v := ()) ?_ ?_
      · rw [range_all0]
        intro i x hx
        have hi := some_len hx
        have mx := List.mem_of_getElem? hx
        have hne : L ≠ [] := fun e => by rw [e] at mx; cases mx
        have hv : vPW L (i : Int) = (vWith L x, true) := by
          unfold vPW
          rw [g, wr_of (by omega) (by omega), inR_iff.2 (by omega), getI_of hx]
          rfl
        obtain ⟨hb, q, y, hy, hq⟩ := most_best hne
        have hmo : vMostP L = ((q : Int), fW L y, true) := by
          unfold vMostP
          have : L.length ≠ 0 := by omega
          rw [g, decide_eq_false this, hq]
          rfl
        have hle := hb x mx
        rw [hq] at hle
        dsimp only at hle
        rw [i_PairsWith_eq _ hs (by omega) (by omega), bind_some, s_PairsWith_eq _ hs (by omega) (by omega), bind_some, hv, hmo]
        simp only [Bool.not_true, cond_false, sameInts_refl, bind_some, pIn_eq]
        rw [at_ixs hx, len0, beq_self_eq_true, Bool.not_true, cond_false]
        have h1 : decide (((vWith L x).length : Int) > fW L y) = false := decide_eq_false (by unfold fW at hle ⊢; omega)
        rw [h1, cond_false]
        by_cases hiq : i = q
        · subst hiq
          rw [hx] at hy
          cases hy
          unfold fW
          rw [beq_self_eq_true, bne_self_eq_false]
          rfl
        · have : ((i : Int) == (q : Int)) = false := beq_eq_false_iff_ne.2 (by omega)
          rw [this, cond_false]
      rfl
    · have e1 : vMinimal L = ([], false) := by unfold vMinimal; rw [if_neg g]
      rw [e1]
      rfl
  obtain ⟨a, b, e, ha, hb⟩ := partsDraw_ex (k := 3000000) hd (by omega)
  have sa := tinyS_small ha
  have sb := tinyS_small hb
  rw [e, bind_some]
  dsimp only
  rw [i_PartsApart_eq sa sb (by omega), bind_some, s_PartsApart_eq sa sb (by omega), bind_some, i_Same_eq sa sb (by omega), i_PartsApart_eq sb sa (by omega)]
  unfold vApart vSame
  cases h1 : gSign a
  · rfl
  cases h2 : gSign b
  · rfl
  simp only [Bool.and_self, if_true, cond_true, bind_some, Bool.not_true, cond_false, beq_self_eq_true, sameInts_refl]
  rw [apart_sym (nS b) (nS a), sameInts_refl, len0]
  have : decide ((apart (nS a) (nS b)).length = 0) = decide (nS a = nS b) := by
    rw [decide_eq_decide, List.length_eq_zero_iff, apart_nil]
  rw [this, beq_self_eq_true]
  rfl
end Go.Proofs.XC
