/- Plain laws of the plain functions: no program, no memory. By AI agents; no person has read it. -/
import Derived.Test.YtkckmehkialgjaaGreatDoorPQ3
import Derived.Test.YtkckmehkialgjaaGreatDoorPR2
set_option linter.unusedVariables false
set_option linter.unusedSimpArgs false
set_option maxRecDepth 100000
set_option maxHeartbeats 40000000
namespace Go.Proofs.XC
open Go Go.RowKit
/-! ### Sorting of numbers by a comparison -/
def aftC (c : Int → Int → Int) (x : Int) (P : List Int) (k : Nat) : Bool := match P[k]? with | some y => decide (c y x > 0) | none => false
def insC (c : Int → Int → Int) (P : List Int) (x : Int) : List Int := insAt x P (posD (aftC c x P) P.length)
theorem insC_len (c : Int → Int → Int) (P : List Int) (x : Int) : (insC c P x).length = P.length + 1 := insAt_len x P _
theorem insC_mem {c : Int → Int → Int} {P : List Int} {x y : Int} (h : y ∈ insC c P x) : y ∈ P ∨ y = x := by
  unfold insC insAt at h
  rcases List.mem_append.1 h with h | h
  · exact Or.inl (List.mem_of_mem_take h)
  · rcases List.mem_cons.1 h with h | h
    · exact Or.inr h
    · exact Or.inl (List.mem_of_mem_drop h)
theorem foldC_len (c : Int → Int → Int) : ∀ (l P : List Int), (l.foldl (insC c) P).length = P.length + l.length
  | [], P => by simp
  | x :: l, P => by rw [List.foldl_cons, foldC_len c l, insC_len, List.length_cons]; omega
theorem swapC1 (A B : List Int) (x y : Int) : (A ++ y :: x :: B)[A.length + 1]? = some x := by simp
theorem swapC2 (A B : List Int) (x y : Int) : (A ++ y :: x :: B)[A.length]? = some y := by simp
theorem swapC3 (A B : List Int) (x y : Int) : (A ++ y :: x :: B).set (A.length + 1) y = A ++ y :: y :: B := by simp
theorem swapC4 (A B : List Int) (x y : Int) : (A ++ y :: y :: B).set A.length x = A ++ x :: y :: B := by simp
theorem i_insC {c : Int → Int → Int} (hAn : ∀ a b, c b a = - c a b) {k : Nat} {F : Int → Int → Option Int} {P R : List Int} {x : Int} (hF : ∀ a b, a ∈ P ∨ a = x → b ∈ P ∨ b = x → F a b = some (c a b)) (hP : P.length + R.length ≤ 1000) (hk : 2000 ≤ k) :
    loopM (fun (⟨n6, l7⟩ : Int × List Int) => (bif decide (n6 > 0) then (Option.bind (getI l7 n6) fun y4_7 => (Option.bind (getI l7 (wr (n6 - 1))) fun y4_12 => (Option.bind (F y4_7 y4_12) fun v4_14 => (bif decide (v4_14 < 0) then (Option.bind (getI (List.set l7 (Int.toNat n6) y4_12) (wr (n6 - 1))) fun y6_16 => some (.inl ((wr (n6 - 1)), (List.set (List.set l7 (Int.toNat n6) y4_12) (Int.toNat (wr (n6 - 1))) y4_7)))) else some (.inr l7))))) else some (.inr l7))) k ((P.length : Int), P ++ x :: R) = some (insC c P x ++ R) := by
  have e := descend (τ := Int × List Int) (ρ := List Int) (body := (fun (⟨n6, l7⟩ : Int × List Int) => (bif decide (n6 > 0) then (Option.bind (getI l7 n6) fun y4_7 => (Option.bind (getI l7 (wr (n6 - 1))) fun y4_12 => (Option.bind (F y4_7 y4_12) fun v4_14 => (bif decide (v4_14 < 0) then (Option.bind (getI (List.set l7 (Int.toNat n6) y4_12) (wr (n6 - 1))) fun y6_16 => some (.inl ((wr (n6 - 1)), (List.set (List.set l7 (Int.toNat n6) y4_12) (Int.toNat (wr (n6 - 1))) y4_7)))) else some (.inr l7))))) else some (.inr l7))))
    (fun q : Nat => ((q : Int), insAt x P q ++ R)) (fun q : Nat => insAt x P q ++ R) (aftC c x P) P.length rfl (fun q hq => by
      have hy : P[q]? = some P[q] := List.getElem?_eq_getElem hq
      have hm := List.getElem_mem hq
      have w : wr (((q + 1 : Nat) : Int) - 1) = (q : Int) := by rw [wr_of (by omega) (by omega)]; try omega
      have d : decide (((q + 1 : Nat) : Int) > 0) = true := decide_eq_true (by omega)
      have hA : (P.take q).length = q := by rw [List.length_take]; omega
      have e1 : insAt x P (q + 1) ++ R = P.take q ++ P[q] :: x :: (P.drop (q + 1) ++ R) := by
        unfold insAt
        rw [List.take_succ_eq_append_getElem hq]
        simp only [List.append_assoc, List.singleton_append, List.cons_append, List.nil_append]
      have e2 : insAt x P q ++ R = P.take q ++ x :: P[q] :: (P.drop (q + 1) ++ R) := by
        unfold insAt
        rw [List.drop_eq_getElem_cons hq]
        simp only [List.append_assoc, List.singleton_append, List.cons_append, List.nil_append]
      have g1 := swapC1 (P.take q) (P.drop (q + 1) ++ R) x P[q]
      have g2 := swapC2 (P.take q) (P.drop (q + 1) ++ R) x P[q]
      have g3 := swapC3 (P.take q) (P.drop (q + 1) ++ R) x P[q]
      have g4 := swapC4 (P.take q) (P.drop (q + 1) ++ R) x P[q]
      have g5 : (P.take q ++ P[q] :: P[q] :: (P.drop (q + 1) ++ R))[q]? = some P[q] := by have := swapC2 (P.take q) (P.drop (q + 1) ++ R) P[q] P[q]; rw [hA] at this; exact this
      rw [hA] at g1 g2 g3 g4
      simp only [d, cond_true, e1, getI_of g1, w, getI_of g2, bind_some, hF x P[q] (Or.inr rfl) (Or.inl hm), Int.toNat_natCast, g3, getI_of g5, g4, e2]
      have ea : aftC c x P q = decide (c P[q] x > 0) := by unfold aftC; rw [hy]
      rw [ea]
      rw [hAn P[q] x, show decide (-c P[q] x < 0) = decide (c P[q] x > 0) by rw [decide_eq_decide]; omega]
      by_cases hc : c P[q] x > 0 <;> simp [hc]) P.length k (Nat.le_refl _) (by omega)
  have e0 : insAt x P P.length = P ++ [x] := by unfold insAt; simp
  simp only [e0, List.append_assoc, List.singleton_append] at e
  exact e
theorem i_insertionC {c : Int → Int → Int} (hAn : ∀ a b, c b a = - c a b) {k : Nat} {F : Int → Int → Option Int} {l : List Int} (hF : ∀ a b, a ∈ l → b ∈ l → F a b = some (c a b)) (hl : l.length ≤ 500) (hk : 2000 ≤ k) :
    X.slices_insertionSortCmpFunc_int k l 0 (l.length : Int) F = some (l.foldl (insC c) []) := by
  unfold X.slices_insertionSortCmpFunc_int
  cases l with
  | nil =>
    obtain ⟨n, rfl⟩ : ∃ n, k = n + 1 := ⟨k - 1, by omega⟩
    rw [loopM_succ]
    rfl
  | cons y l' =>
    have hsub : ∀ (i : Nat) (P : List Int), P = ((y :: l').take i).foldl (insC c) [] → ∀ z ∈ P, z ∈ y :: l' := by
      have gen : ∀ (L P : List Int), ∀ z ∈ L.foldl (insC c) P, z ∈ P ∨ z ∈ L := by
        intro L
        induction L with
        | nil => intro P z hz; exact Or.inl hz
        | cons x L ih =>
          intro P z hz
          rcases ih _ z hz with h | h
          · rcases insC_mem h with h | h
            · exact Or.inl h
            · exact Or.inr (by rw [h]; exact List.mem_cons_self)
          · exact Or.inr (List.mem_cons_of_mem _ h)
      intro i P hP z hz
      rw [hP] at hz
      rcases gen _ _ z hz with h | h
      · cases h
      · exact List.mem_of_mem_take h
    have w1 : wr (0 + 1 : Int) = ((1 : Nat) : Int) := rfl
    rw [w1]
    have e := rng_loop (α := Int) (τ := Int × List Int) (ρ := List Int) (body := (fun ⟨n1, l2⟩ => (bif decide (n1 < ((y :: l').length : Int)) then (Option.bind (loopM (fun ⟨n6, l7⟩ => (bif decide (n6 > 0) then (Option.bind (getI l7 n6) fun y4_7 => (Option.bind (getI l7 (wr (n6 - 1))) fun y4_12 => (Option.bind (F y4_7 y4_12) fun v4_14 => (bif decide (v4_14 < 0) then (Option.bind (getI (List.set l7 (Int.toNat n6) y4_12) (wr (n6 - 1))) fun y6_16 => some (.inl ((wr (n6 - 1)), (List.set (List.set l7 (Int.toNat n6) y4_12) (Int.toNat (wr (n6 - 1))) y4_7)))) else some (.inr l7))))) else some (.inr l7))) k (n1, l2)) fun l8 => some (.inl ((wr (n1 + 1)), l8))) else some (.inr l2))))
      (fun i P => ((i : Int), P ++ (y :: l').drop i)) (fun P => P) (fun _ x P => insC c P x) (fun i P => P = ((y :: l').take i).foldl (insC c) []) (y :: l') (fun i x P hx hv => by
        have hi := some_len hx
        have hPl : P.length = i := by rw [hv, foldC_len c, List.length_take]; simp only [List.length_nil]; omega
        have hxe : (y :: l')[i] = x := by rw [List.getElem?_eq_getElem hi] at hx; exact Option.some.inj hx
        refine ⟨?_, ?_⟩
        · have ed : (y :: l').drop i = x :: (y :: l').drop (i + 1) := by rw [List.drop_eq_getElem_cons hi, hxe]
          have hmx := mem_of hx
          have hms := hsub i P hv
          simp only [decL hi, cond_true, ed]
          have q := i_insC hAn (k := k) (F := F) (P := P) (R := (y :: l').drop (i + 1)) (x := x) (fun a b ha hb => hF a b (by rcases ha with h | h; exact hms a h; rw [h]; exact hmx) (by rcases hb with h | h; exact hms b h; rw [h]; exact hmx)) (by rw [List.length_drop]; omega) hk
          rw [hPl] at q
          rw [q, bind_some, wr_suc (by omega)]
        · rw [List.take_succ_eq_append_getElem hi, List.foldl_append, ← hv, hxe]
          rfl) (fun P hv => by
        simp only [decE, cond_false]
        rw [List.drop_length, List.append_nil]) l' 1 k (insC c [] y) rfl (by simp) rfl (by simp only [List.length_cons] at hl; omega)
    have e2 : insC c [] y ++ (y :: l').drop 1 = y :: l' := rfl
    rw [e2] at e
    refine (congrArg (fun o => Option.bind o _) e.1).trans ?_
    have hv := e.2
    rw [List.take_length] at hv
    rw [bind_some, hv]
/-! #### Buckets -/
def bk (f : Int → Int) (l : List Int) : Nat → List Int
  | 0 => []
  | n + 1 => bk f l n ++ l.filter fun x => decide (f x = (n : Int))
theorem bk_mem {f : Int → Int} {l : List Int} : ∀ {n : Nat} {x : Int}, x ∈ bk f l n → f x < n
  | 0, x, h => by cases h
  | n + 1, x, h => by
    rcases List.mem_append.1 h with h | h
    · have := bk_mem h; omega
    · have := (List.mem_filter.1 h).2
      simp at this
      omega
theorem posD_top {q : Nat → Bool} : ∀ {n : Nat}, (∀ i, i < n → q i = false) → posD q n = n
  | 0, _ => rfl
  | n + 1, h => by rw [posD, h n (by omega)]; rfl
theorem posD_down {q q' : Nat → Bool} {a : Nat} (he : ∀ i, i < a → q i = q' i) : ∀ (m : Nat), (∀ i, a ≤ i → i < a + m → q i = true) → posD q (a + m) = posD q' a
  | 0, _ => by
    have : ∀ n, n ≤ a → posD q n = posD q' n := by
      intro n
      induction n with
      | zero => intro _; rfl
      | succ n ih => intro h; rw [posD, posD, he n (by omega), ih (by omega)]
    exact this a (Nat.le_refl _)
  | m + 1, h => by
    rw [show a + (m + 1) = (a + m) + 1 by omega, posD, h (a + m) (by omega) (by omega), if_pos rfl]
    exact posD_down he m fun i h1 h2 => h i h1 (by omega)
def cD (f : Int → Int) (a b : Int) : Int := f a - f b
theorem ins_end {f : Int → Int} {A : List Int} {x : Int} (h : ∀ y ∈ A, f y ≤ f x) : insC (cD f) A x = A ++ [x] := by
  unfold insC
  rw [posD_top fun i hi => ?_]
  · unfold insAt; simp
  · unfold aftC
    rw [List.getElem?_eq_getElem hi]
    have := h _ (List.getElem_mem hi)
    unfold cD
    simp
    omega
theorem ins_right {f : Int → Int} {A C : List Int} {x : Int} (h : ∀ y ∈ C, f x < f y) : insC (cD f) (A ++ C) x = insC (cD f) A x ++ C := by
  unfold insC
  rw [List.length_append, posD_down (q' := aftC (cD f) x A) (fun i hi => ?_) C.length fun i h1 h2 => ?_]
  · have hp := posD_le (aftC (cD f) x A) A.length
    unfold insAt
    rw [List.take_append_of_le_length hp, List.drop_append_of_le_length hp]
    simp
  · unfold aftC
    rw [List.getElem?_append_left hi]
  · unfold aftC
    have hi : i - A.length < C.length := by omega
    rw [List.getElem?_append_right h1, List.getElem?_eq_getElem hi]
    have := h _ (List.getElem_mem hi)
    unfold cD
    simp
    omega
theorem bk_skip {f : Int → Int} {l : List Int} {x : Int} : ∀ {n : Nat}, ((n : Int) ≤ f x) → bk f (l ++ [x]) n = bk f l n
  | 0, _ => rfl
  | n + 1, h => by
    rw [bk, bk, bk_skip (by omega), List.filter_append]
    have : decide (f x = (n : Int)) = false := by simp; omega
    simp [this]
theorem ins_bk {f : Int → Int} {l : List Int} {x : Int} (h0 : 0 ≤ f x) : ∀ {n : Nat}, (f x < (n : Int)) → insC (cD f) (bk f l n) x = bk f (l ++ [x]) n
  | 0, h => by omega
  | n + 1, h => by
    by_cases hn : f x = (n : Int)
    · rw [bk, ins_end fun y hy => ?_, bk, bk_skip (by omega), List.filter_append]
      · simp [hn]
      · rcases List.mem_append.1 hy with hy | hy
        · have := bk_mem hy; omega
        · have := (List.mem_filter.1 hy).2
          simp at this
          omega
    · rw [bk, ins_right fun y hy => ?_, ins_bk h0 (by omega), bk, List.filter_append]
      · simp [hn]
      · have := (List.mem_filter.1 hy).2
        simp at this
        omega
theorem sort_bk {f : Int → Int} {n : Nat} : ∀ (l P : List Int), (∀ x ∈ l, 0 ≤ f x ∧ f x < (n : Int)) → l.foldl (insC (cD f)) (bk f P n) = bk f (P ++ l) n
  | [], P, _ => by simp
  | x :: l, P, h => by
    have hx := h x List.mem_cons_self
    rw [List.foldl_cons, ins_bk hx.1 hx.2, sort_bk l _ fun y hy => h y (List.mem_cons_of_mem _ hy)]
    simp
theorem bk_nil (f : Int → Int) : ∀ n, bk f [] n = []
  | 0 => rfl
  | n + 1 => by rw [bk, bk_nil f n]; rfl
theorem sort_eq {f : Int → Int} {n : Nat} {l : List Int} (h : ∀ x ∈ l, 0 ≤ f x ∧ f x < (n : Int)) : l.foldl (insC (cD f)) [] = bk f l n := by
  have := sort_bk l [] h
  rw [bk_nil] at this
  exact this
/-! ### The best answers -/
def fC (p : Pattern) (l : List Sign) (z : Int) : Int := match l[z.toNat]? with | some s => costV p s | none => 0
def allI (l : List Sign) : List Int := ixs (fun _ => true) l 0
theorem ixs_filter (p : Pattern) (f : Int → Int) (v : Int) : ∀ (l : List Sign) (j : Nat), (∀ (q : Nat) s, l[q]? = some s → f ((j + q : Nat) : Int) = costV p s) → (ixs (fun _ => true) l j).filter (fun x => decide (f x = v)) = ixs (fun s => decide (costV p s = v)) l j
  | [], _, _ => rfl
  | x :: l, j, h => by
    have h0 := h 0 x rfl
    rw [Nat.add_zero] at h0
    have ih := ixs_filter p f v l (j + 1) fun q s hs => by
      have := h (q + 1) s (by simpa using hs)
      rw [show j + 1 + q = j + (q + 1) by omega]
      exact this
    unfold ixs
    rw [if_pos rfl, List.filter_cons, h0, ih]
theorem ixs_mem {α : Type} {p : α → Bool} : ∀ {l : List α} {j : Nat} {z : Int}, z ∈ ixs p l j → ∃ (q : Nat) (x : α), l[q]? = some x ∧ z = ((j + q : Nat) : Int)
  | [], j, z, h => by cases h
  | x :: l, j, z, h => by
    unfold ixs at h
    have key : z ∈ ixs p l (j + 1) → ∃ (q : Nat) (y : α), (x :: l)[q]? = some y ∧ z = ((j + q : Nat) : Int) := fun h => by
      obtain ⟨q, y, h1, h2⟩ := ixs_mem h
      exact ⟨q + 1, y, by simpa using h1, by rw [h2]; congr 1; omega⟩
    split at h
    · rcases List.mem_cons.1 h with h | h
      · exact ⟨0, x, rfl, by rw [h, Nat.add_zero]⟩
      · exact key h
    · exact key h
def bkC (p : Pattern) (l : List Sign) : Nat → List Int
  | 0 => []
  | n + 1 => bkC p l n ++ ixs (fun s => decide (costV p s = (n : Int))) l 0
theorem bk_bkC (p : Pattern) (l : List Sign) : ∀ n, bk (fC p l) (allI l) n = bkC p l n
  | 0 => rfl
  | n + 1 => by
    rw [bk, bkC, bk_bkC p l n]
    unfold allI
    rw [ixs_filter p (fC p l) (n : Int) l 0 fun q s hs => ?_]
    unfold fC
    rw [Nat.zero_add, Int.toNat_natCast, hs]
def best (p : Pattern) (l : List Sign) : List Int := bkC p l 15
theorem best_sort {p : Pattern} {l : List Sign} (gp : gPat p = true) (hg : ∀ s ∈ l, gSign s = true) : (allI l).foldl (insC (cD (fC p l))) [] = best p l := by
  rw [sort_eq (n := 15) fun z hz => ?_]
  · exact bk_bkC p l 15
  · obtain ⟨q, x, hx, rfl⟩ := ixs_mem hz
    unfold fC
    rw [Nat.zero_add, Int.toNat_natCast, hx]
    have := (cost_eqs (k := 100) gp (hg x (mem_of hx)) (by omega)).2.2
    dsimp only
    omega
theorem allI_len : ∀ (l : List Sign) (j : Nat), (ixs (fun _ => true) l j).length = l.length
  | [], _ => rfl
  | x :: l, j => by unfold ixs; rw [if_pos rfl, List.length_cons, allI_len l, List.length_cons]
theorem best_len {p : Pattern} {l : List Sign} (gp : gPat p = true) (hg : ∀ s ∈ l, gSign s = true) : (best p l).length = l.length := by
  rw [← best_sort gp hg, foldC_len, List.length_nil, Nat.zero_add]
  exact allI_len l 0
theorem i_byCost_eq {k : Nat} {p : Pattern} {l : List Sign} (gp : gPat p = true) (hs : ∀ s ∈ l, smallS s) (hg : ∀ s ∈ l, gSign s = true) (hl : l.length ≤ 16) (hk : 2010 ≤ k) : X.i_Pattern_byCost k p l = some (best p l) := by
  unfold X.i_Pattern_byCost X.i_those_i_Sign
  rw [those_gen (fun _ => true) (fun _ => rfl) l 0 [] (by simp; omega) (fun i y q hy => ?_)]
  · rw [List.nil_append, bind_some, bind_some]
    unfold X.slices_SortStableFunc_int_int X.slices_stableCmpFunc_int
    obtain ⟨n, rfl⟩ : ∃ n, k = n + 1 := ⟨k - 1, by omega⟩
    have hL : (ixs (fun _ => true) l 0).length = l.length := allI_len l 0
    have d1 : decide ((20 : Int) ≤ ((ixs (fun _ => true) l 0).length : Int)) = false := by simp; omega
    have d2 : decide ((20 : Int) < ((ixs (fun _ => true) l 0).length : Int)) = false := by simp; omega
    have hF : ∀ a b, a ∈ ixs (fun _ => true) l 0 → b ∈ ixs (fun _ => true) l 0 → X.i_Pattern_byCost_1 (n + 1) p l a b = some (cD (fC p l) a b) := by
      intro a b ha hb
      obtain ⟨q, x, hx, rfl⟩ := ixs_mem ha
      obtain ⟨q', x', hx', rfl⟩ := ixs_mem hb
      unfold X.i_Pattern_byCost_1 cD fC
      rw [Nat.zero_add, Nat.zero_add, getI_of hx, bind_some, (cost_eqs gp (hg x (mem_of hx)) (by omega)).1, bind_some, getI_of hx', bind_some, (cost_eqs gp (hg x' (mem_of hx')) (by omega)).1, bind_some, Int.toNat_natCast, Int.toNat_natCast, hx, hx']
      have e1 := (cost_eqs (k := 100) gp (hg x (mem_of hx)) (by omega)).2.2
      have e2 := (cost_eqs (k := 100) gp (hg x' (mem_of hx')) (by omega)).2.2
      rw [wr_of (by omega) (by omega)]
    have q := i_insertionC (c := cD (fC p l)) (fun a b => by unfold cD; omega) hF (by omega) (show 2000 ≤ n + 1 by omega)
    simp only [loopM_succ, d1, d2, cond_false, bind_some, q]
    rw [show (ixs (fun _ => true) l 0).foldl (insC (cD (fC p l))) [] = best p l from best_sort gp hg]
  · have hy' := hg y (mem_of hy)
    rw [i_IsSign_eq (hs y (mem_of hy)) (by omega), bind_some, hy']
    rfl
theorem s_all_eq {k : Nat} {p : Pattern} {l : List Sign} (gp : gPat p = true) (hg : ∀ s ∈ l, gSign s = true) (hl : l.length ≤ 16) (hk : 2010 ≤ k) : X.s_seWithin k p l 14 = some (best p l) := by
  unfold X.s_seWithin
  have key : ∀ (m n fu : Nat), n + m = 15 → m < fu → loopM (fun (⟨n1, l2⟩ : Int × List Int) => (bif decide (n1 ≤ 14) then (Option.bind (rangeM (fun (j17 : Int) (x18 : Sign) l10 => (Option.bind (X.s_seCost k p x18) fun v8_2 => (bif (v8_2 == n1) then (Option.bind (appG (eI .i64) l10 ([(j17 : Int)] : List Int)) fun y9_3 => some (.inl y9_3)) else some (.inl l10)))) (fun l10 => some l10) l 0 l2) fun l13 => some (.inl ((wr (n1 + 1)), l13))) else some (.inr l2))) fu ((n : Int), bkC p l n) = some (best p l) := by
    intro m
    induction m with
    | zero =>
      intro n fu hn hf
      obtain ⟨f, rfl⟩ : ∃ f, fu = f + 1 := ⟨fu - 1, by omega⟩
      obtain rfl : n = 15 := by omega
      rw [loopM_succ]
      rfl
    | succ m ih =>
      intro n fu hn hf
      obtain ⟨f, rfl⟩ : ∃ f, fu = f + 1 := ⟨fu - 1, by omega⟩
      have hb : (bkC p l n).length ≤ 1000000 := by
        have : ∀ n, (bkC p l n).length ≤ n * 16 := by
          intro n
          induction n with
          | zero => simp [bkC]
          | succ n ih =>
            rw [bkC, List.length_append]
            have := ixs_len (fun s => decide (costV p s = (n : Int))) l 0
            omega
        have := this n
        omega
      have d : decide ((n : Int) ≤ 14) = true := decide_eq_true (by omega)
      rw [loopM_succ]
      dsimp only
      rw [d, cond_true, those_gen (fun s => decide (costV p s = (n : Int))) (fun _ => rfl) l 0 (bkC p l n) (by omega) (fun i y s hy => ?_)]
      · rw [bind_some, bind_some]
        dsimp only
        have w : wr ((n : Int) + 1) = ((n + 1 : Nat) : Int) := by rw [wr_of (by omega) (by omega)]; omega
        rw [w]
        exact ih (n + 1) f (by omega) (by omega)
      · rw [(cost_eqs gp (hg y (mem_of hy)) (by omega)).2.1, bind_some]
        by_cases c : costV p y = (n : Int)
        · have cb : (costV p y == (n : Int)) = true := by simp [c]
          simp [c]
        · have cb : (costV p y == (n : Int)) = false := by simp [c]
          simp [c, cb]
  have q := key 15 0 k (by omega) (by omega)
  refine (congrArg (fun o => Option.bind o _) q).trans ?_
  rfl
def vBest (p : Pattern) (l : List Sign) (n : Int) : List Int × Bool := if gPat p && (l.all gSign && decide (l.length ≤ 16)) && inR n 0 16 then ((best p l).take n.toNat, true) else ([], false)
theorem cut_best {L : List Int} {m n : Int} (h0 : 0 ≤ n) (hm : m = if n < (L.length : Int) then n else (L.length : Int)) : cutS L 0 m = some (L.take n.toNat) := by
  subst hm
  unfold cutS
  by_cases c : n < (L.length : Int)
  · rw [if_pos c, if_pos (by omega)]
    simp
  · rw [if_neg c, if_pos (by omega)]
    congr 1
    rw [show (Int.toNat 0) = 0 from rfl, List.drop_zero, List.take_of_length_le (by omega), List.take_of_length_le (by omega)]
theorem i_Best_eq {k : Nat} {p : Pattern} {l : List Sign} {n : Int} (hp : smallP p) (hs : ∀ s ∈ l, smallS s) (hk : 2010 ≤ k) : X.i_BestAnswers k p l n = some (vBest p l n) := by
  unfold X.i_BestAnswers vBest
  rw [i_IsPattern_eq hp, i_areSigns_eq hs (by omega), i_within_eq, show ((16 : Int)) = ((16 : Nat) : Int) from rfl, len16]
  cases h0 : gPat p <;> cases h1 : l.all gSign <;> cases h2 : decide (l.length ≤ 16) <;> cases h3 : inR n 0 ((16 : Nat) : Int) <;> simp only [Bool.true_and, Bool.false_and, Bool.and_true, Bool.and_false, Bool.and_self, Bool.not_true, Bool.not_false, cond_true, cond_false, bind_some, if_true, Bool.false_eq_true, if_false]
  have hg : ∀ s ∈ l, gSign s = true := by simpa using h1
  have h16 : l.length ≤ 16 := by simpa using h2
  rw [i_byCost_eq h0 hs hg h16 hk, bind_some, cut_best (n := n) (inR_iff.1 h3).1, bind_some]
  rw [best_len h0 hg]
  split <;> split <;> omega
theorem s_Best_eq {k : Nat} {p : Pattern} {l : List Sign} {n : Int} (hp : smallP p) (hs : ∀ s ∈ l, smallS s) (hk : 2000010 ≤ k) : X.s_BestAnswers k p l n = some (vBest p l n) := by
  unfold X.s_BestAnswers X.s_seAsked vBest
  rw [s_seGood_eq hp hk, s_noList_eq hs hk, s_l1In_eq, show ((16 : Int)) = ((16 : Nat) : Int) from rfl]
  cases h0 : gPat p <;> cases h1 : l.all gSign <;> cases h2 : decide (l.length ≤ 16) <;> cases h3 : inR n 0 ((16 : Nat) : Int) <;> simp only [Bool.true_and, Bool.false_and, Bool.and_true, Bool.and_false, Bool.and_self, Bool.not_true, Bool.not_false, cond_true, cond_false, bind_some, if_true, Bool.false_eq_true, if_false]
  have hg : ∀ s ∈ l, gSign s = true := by simpa using h1
  have h16 : l.length ≤ 16 := by simpa using h2
  rw [s_all_eq h0 hg h16 (by omega), bind_some]
  have e : X.s_l1Least n ((best p l).length : Int) = some (if n < ((best p l).length : Int) then n else ((best p l).length : Int)) := by
    unfold X.s_l1Least
    by_cases c : n < ((best p l).length : Int) <;> simp [c]
  rw [e, bind_some, cut_best (n := n) (inR_iff.1 h3).1 rfl, bind_some]
  unfold X.s_l1Own
  have hb := best_len h0 hg
  have : appG (eI .i64) ([] : List Int) ((best p l).take n.toNat) = some ((best p l).take n.toNat) := by
    unfold appG
    have hby : (eI .i64).by_ = 8 := rfl
    rw [hby, if_pos]
    · rfl
    · simp only [List.length_nil, List.length_take]; omega
  rw [this, bind_some, bind_some]
theorem vBest_len (p : Pattern) (l : List Sign) (n : Int) : (vBest p l n).1.length ≤ l.length := by
  unfold vBest
  split
  · rename_i h
    simp only [Bool.and_eq_true] at h
    have := best_len (p := p) (l := l) h.1.1 (by simpa using h.1.2.1)
    simp only [List.length_take]
    omega
  · simp
theorem Pure.FnExactBestAnswers (p : Pattern) (o_p : okPattern p) (l : List Sign) (o_l : okL okSign l) (n : Int) (o_n : okI n) : X.l_FnExactBestAnswers 3000000 p l n = some true := by
  unfold X.l_FnExactBestAnswers
  obtain ⟨r0, hr0, d0⟩ := szPattern_eq (p := p) (z := 1048576) o_p (by omega) (by omega)
  rw [hr0, bind_some]
  rcases d0 with d0 | ⟨h_p, p0, q0⟩
  · have : decide (r0 < 0) = true := by simpa using d0
    rw [this]
    rfl
  have e0 : decide (r0 < 0) = false := by simpa using p0
  rw [e0, cond_false]
  obtain ⟨r1, hr1, d1⟩ := szSignS_eq (l := l) (z := r0) o_l (by omega) (by omega)
  rw [hr1, bind_some]
  rcases d1 with d1 | ⟨n_l, h_l, p1, q1⟩
  · have : decide (r1 < 0) = true := by simpa using d1
    rw [this]
    rfl
  have e1 : decide (r1 < 0) = false := by simpa using p1
  rw [e1, cond_false]
  have hvl : (vBest p l n).1.length ≤ 1048576 := (Nat.le_trans (vBest_len p l n) n_l)
  have hpr : decide (1 + 1 * ((vBest p l n).1.length : Int) < 0) = false := by simp; omega
  have hpa : decide (1 + 27 * (l.length : Int) < 0) = false := by simp; omega
  simp only [toPattern_eq,
    toSignS_eq n_l,
    eqSignS_eq n_l,
    bind_some,
    i_Best_eq (n := n) h_p h_l (show 2010 ≤ 3000000 by omega),
    s_Best_eq (n := n) h_p h_l (show 2000010 ≤ 3000000 by omega),
    eqIntS_eq hvl,
    markIntS_eq (show (0 : Int) ≤ 1 by omega) (show (1 : Int) ≤ 1000000000000 by omega) hvl,
    heldIntS_eq (show (0 : Int) ≤ 1 by omega) (show (1 : Int) ≤ 1000000000000 by omega) hvl,
    hpr,
    markSignS_eq (k := 1) (show (0 : Int) ≤ 1 by omega) (show (1 : Int) ≤ 1000000000000 by omega) n_l,
    hpa]
  simp
end Go.Proofs.XC
