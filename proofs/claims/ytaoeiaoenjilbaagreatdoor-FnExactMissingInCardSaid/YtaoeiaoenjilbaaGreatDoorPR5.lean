/- Plain laws of the plain functions: no program, no memory. By AI agents; no person has read it. -/
import Derived.Test.YtaoeiaoenjilbaaGreatDoorPR4
import Derived.Test.YtaoeiaoenjilbaaGreatDoorPR2
set_option linter.unusedVariables false
set_option linter.unusedSimpArgs false
set_option maxRecDepth 100000
set_option maxHeartbeats 40000000
namespace Go.Proofs.XC
open Go Go.RowKit
/-! ### Names, each once -/
def nmS (acc : List Str) (g : Str) : List Str := if acc.getLast? = some g then acc else acc ++ [g]
theorem nmS_len (acc : List Str) (g : Str) : (nmS acc g).length ≤ acc.length + 1 := by
  unfold nmS
  split
  · omega
  · simp
def namesF (zs : List Str) : List Str := zs.foldl nmS []
theorem namesF_len : ∀ (zs acc : List Str), (zs.foldl nmS acc).length ≤ acc.length + zs.length
  | [], acc => by simp
  | z :: zs, acc => by
    rw [List.foldl_cons, List.length_cons]
    have h1 := namesF_len zs (nmS acc z)
    have h2 := nmS_len acc z
    omega
theorem compact_names (zs : List Str) : Lib.compact zs = namesF zs := by
  have key : ∀ m, m ≤ zs.length → Lib.compactUpTo zs.toArray m = (zs.take m).foldl nmS [] ∧ (∀ x, 0 < m → zs[m - 1]? = some x → (Lib.compactUpTo zs.toArray m).getLast? = some x) := by
    intro m
    induction m with
    | zero => intro _; exact ⟨rfl, fun x h => by omega⟩
    | succ m ih =>
      intro hm
      obtain ⟨h1, h2⟩ := ih (by omega)
      have hx : zs[m]? = some zs[m] := List.getElem?_eq_getElem (by omega)
      have hd : zs.toArray[m]! = zs[m] := by
        rw [getElem!_pos zs.toArray m (by simp; omega)]
        simp
      rw [Lib.compactUpTo_succ, hd, List.take_succ_eq_append_getElem (by omega), List.foldl_append, ← h1]
      show _ = nmS (Lib.compactUpTo zs.toArray m) zs[m] ∧ _
      unfold nmS
      cases m with
      | zero =>
        have hk : Lib.keeps zs.toArray 0 = true := Lib.keeps_lt_one _ 0 (by omega)
        have e0 : Lib.compactUpTo zs.toArray 0 = [] := rfl
        rw [hk, e0]
        refine ⟨by simp, fun x _ hx' => ?_⟩
        rw [Nat.zero_add, Nat.sub_self, hx] at hx'
        simpa using hx'
      | succ m =>
        have hy : zs[m]? = some zs[m] := List.getElem?_eq_getElem (by omega)
        have hl := h2 zs[m] (by omega) (by simp)
        have hdm : zs.toArray[m]! = zs[m] := by
          rw [getElem!_pos zs.toArray m (by simp; omega)]
          simp
        by_cases he : zs[m] = zs[m + 1]
        · have hk : Lib.keeps zs.toArray (m + 1) = false := Lib.keeps_neg (by omega) (by rw [hd, Nat.add_sub_cancel, hdm, he])
          rw [hk, hl, if_pos (show some zs[m] = some zs[m + 1] by rw [he])]
          simp only [Bool.false_eq_true, if_false, List.append_nil]
          refine ⟨trivial, fun x _ hx' => ?_⟩
          rw [Nat.add_sub_cancel, hx] at hx'
          rw [hl, he]
          exact hx'
        · have hk : Lib.keeps zs.toArray (m + 1) = true := Lib.keeps_pos (by rw [hd, Nat.add_sub_cancel, hdm]; exact fun e => he e.symm)
          rw [hk, hl, if_neg (show ¬ some zs[m] = some zs[m + 1] from fun e => he (Option.some.inj e))]
          simp only [if_true]
          refine ⟨trivial, fun x _ hx' => ?_⟩
          rw [Nat.add_sub_cancel, hx] at hx'
          simpa using hx'
  have := (key zs.length (Nat.le_refl _)).1
  rw [List.take_length] at this
  exact this
theorem appT {l m : List Str} (h : l.length + m.length ≤ 100000) : appG eS l m = some (l ++ m) := by
  unfold appG
  have hby : eS.by_ = 16 := rfl
  rw [if_pos]
  rw [hby]
  omega
def glo (l : List Entry) : List Str := namesF (l.map fun e => e.Gloss)
theorem glo_len (l : List Entry) : (glo l).length ≤ l.length := by
  have := namesF_len (l.map fun e => e.Gloss) []
  unfold glo namesF
  simpa using this
theorem i_glossesOf_eq {l : List Entry} (hl : l.length ≤ 16) : X.i_glossesOf l = some (glo l) := by
  unfold X.i_glossesOf
  rw [(rng_range (fun (_ : Nat) (x : Entry) acc => acc ++ [x.Gloss]) (fun i acc => acc.length = i) l (fun i x acc hx hv => by
    rw [appT (by have := some_len hx; simp; omega), bind_some]
    exact ⟨rfl, by simp [hv]⟩) l 0 [] rfl rfl).1, bind_some, rng_app (fun x : Entry => x.Gloss), List.nil_append]
  unfold X.slices_Compact_string_string
  rw [decide_eq_true (by rw [List.length_map]; omega), compact_names]
  rfl
theorem s_enNames_eq {l : List Entry} (hl : l.length ≤ 16) : X.s_enNames l = some (glo l) := by
  unfold X.s_enNames
  have e : ∀ (L : List Entry) (j : Nat) (acc : List Str), rng (fun (_ : Nat) (x : Entry) acc => nmS acc x.Gloss) L j acc = (L.map fun e => e.Gloss).foldl nmS acc := by
    intro L
    induction L with
    | nil => intros; rfl
    | cons x L ih => intro j acc; rw [rng, ih]; rfl
  rw [(rng_range (fun (_ : Nat) (x : Entry) acc => nmS acc x.Gloss) (fun i acc => acc.length ≤ i) l (fun i x acc hx hv => by
    have hi := some_len hx
    refine ⟨?_, by have := nmS_len acc x.Gloss; omega⟩
    rw [appT (by simp; omega), len0]
    cases acc with
    | nil => rfl
    | cons y acc =>
      have d : decide ((y :: acc).length = 0) = false := by simp
      have w : wr (((y :: acc).length : Int) - 1) = (((y :: acc).length - 1 : Nat) : Int) := by
        rw [wr_of (by simp only [List.length_cons]; omega) (by simp only [List.length_cons] at hv ⊢; omega)]
        simp only [List.length_cons]
        omega
      have hg : (y :: acc)[(y :: acc).length - 1]? = some ((y :: acc).getLast (by simp)) := by
        rw [List.getLast_eq_getElem]
        exact List.getElem?_eq_getElem _
      rw [d, cond_false, w, getI_of hg, bind_some, seq_eq]
      unfold nmS
      rw [show (y :: acc).getLast? = some ((y :: acc).getLast (by simp)) by rw [List.getLast?_eq_getElem?, hg]]
      by_cases c : (y :: acc).getLast (by simp) = x.Gloss <;> simp [c, bind_some]) l 0 [] rfl (by simp)).1, bind_some, e]
  rfl
/-! ### Sorting by a number, greatest first -/
def aftU (u : Str → Int) (x : Str) (P : List Str) (k : Nat) : Bool := match P[k]? with | some y => decide (u y < u x) | none => false
def insU (u : Str → Int) (P : List Str) (x : Str) : List Str := insAt x P (posD (aftU u x P) P.length)
theorem insU_len (u : Str → Int) (P : List Str) (x : Str) : (insU u P x).length = P.length + 1 := insAt_len x P _
theorem insU_mem {u : Str → Int} {P : List Str} {x y : Str} (h : y ∈ insU u P x) : y ∈ P ∨ y = x := by
  unfold insU insAt at h
  rcases List.mem_append.1 h with h | h
  · exact Or.inl (List.mem_of_mem_take h)
  · rcases List.mem_cons.1 h with h | h
    · exact Or.inr h
    · exact Or.inl (List.mem_of_mem_drop h)
def sortU (u : Str → Int) (l : List Str) : List Str := l.foldl (insU u) []
theorem foldU_len (u : Str → Int) : ∀ (l P : List Str), (l.foldl (insU u) P).length = P.length + l.length
  | [], P => by simp
  | x :: l, P => by rw [List.foldl_cons, foldU_len u l, insU_len, List.length_cons]; omega
theorem sortU_len (u : Str → Int) (l : List Str) : (sortU u l).length = l.length := by unfold sortU; rw [foldU_len]; simp
theorem s_insU {k : Nat} {u : Str → Int} {F : Str → Option Int} {P : List Str} {x : Str} (hF : ∀ y, y ∈ P ∨ y = x → F y = some (u y)) (hP : P.length ≤ 1000) (hk : 2000010 ≤ k) :
    loopM (fun n14 => (bif decide (n14 > 0) then (Option.bind (getI P (wr (n14 - 1))) fun y8_7 => (Option.bind (F y8_7) fun v8_9 => (Option.bind (F x) fun v8_12 => (bif decide (v8_9 < v8_12) then some (.inl (wr (n14 - 1))) else some (.inr n14))))) else some (.inr n14))) k (List.length P : Int) = some ((posD (aftU u x P) P.length : Nat) : Int) := by
  exact descend (fun n : Nat => (n : Int)) (fun n : Nat => (n : Int)) (aftU u x P) P.length rfl (fun q hq => by
    have hy : P[q]? = some P[q] := List.getElem?_eq_getElem hq
    have w : wr (((q + 1 : Nat) : Int) - 1) = (q : Int) := by rw [wr_of (by omega) (by omega)]; try omega
    have d : decide (((q + 1 : Nat) : Int) > 0) = true := decide_eq_true (by omega)
    simp only [d, cond_true, w, getI_of hy, bind_some, hF _ (Or.inl (List.getElem_mem hq)), hF x (Or.inr rfl)]
    have ea : aftU u x P q = decide (u P[q] < u x) := by unfold aftU; rw [hy]
    rw [ea]
    by_cases c : u P[q] < u x <;> simp [c]) P.length k (Nat.le_refl _) (by omega)
theorem swapU1 (A B : List Str) (x y : Str) : (A ++ y :: x :: B)[A.length + 1]? = some x := by simp
theorem swapU2 (A B : List Str) (x y : Str) : (A ++ y :: x :: B)[A.length]? = some y := by simp
theorem swapU3 (A B : List Str) (x y : Str) : (A ++ y :: x :: B).set (A.length + 1) y = A ++ y :: y :: B := by simp
theorem swapU4 (A B : List Str) (x y : Str) : (A ++ y :: y :: B).set A.length x = A ++ x :: y :: B := by simp
theorem i_insU {k : Nat} {u : Str → Int} {F : Str → Str → Option Int} {P R : List Str} {x : Str} (hF : ∀ a b, a ∈ P ∨ a = x → b ∈ P ∨ b = x → F a b = some (u b - u a)) (hP : P.length + R.length ≤ 1000) (hk : 2000 ≤ k) :
    loopM (fun (⟨n6, l7⟩ : Int × List Str) => (bif decide (n6 > 0) then (Option.bind (getI l7 n6) fun y4_7 => (Option.bind (getI l7 (wr (n6 - 1))) fun y4_12 => (Option.bind (F y4_7 y4_12) fun v4_14 => (bif decide (v4_14 < 0) then (Option.bind (getI (List.set l7 (Int.toNat n6) y4_12) (wr (n6 - 1))) fun y6_16 => some (.inl ((wr (n6 - 1)), (List.set (List.set l7 (Int.toNat n6) y4_12) (Int.toNat (wr (n6 - 1))) y4_7)))) else some (.inr l7))))) else some (.inr l7))) k ((P.length : Int), P ++ x :: R) = some (insU u P x ++ R) := by
  have e := descend (τ := Int × List Str) (ρ := List Str) (body := (fun (⟨n6, l7⟩ : Int × List Str) => (bif decide (n6 > 0) then (Option.bind (getI l7 n6) fun y4_7 => (Option.bind (getI l7 (wr (n6 - 1))) fun y4_12 => (Option.bind (F y4_7 y4_12) fun v4_14 => (bif decide (v4_14 < 0) then (Option.bind (getI (List.set l7 (Int.toNat n6) y4_12) (wr (n6 - 1))) fun y6_16 => some (.inl ((wr (n6 - 1)), (List.set (List.set l7 (Int.toNat n6) y4_12) (Int.toNat (wr (n6 - 1))) y4_7)))) else some (.inr l7))))) else some (.inr l7))))
    (fun q : Nat => ((q : Int), insAt x P q ++ R)) (fun q : Nat => insAt x P q ++ R) (aftU u x P) P.length rfl (fun q hq => by
      have hy : P[q]? = some P[q] := List.getElem?_eq_getElem hq
      have hm := List.getElem_mem hq
      have w : wr (((q + 1 : Nat) : Int) - 1) = (q : Int) := by rw [wr_of (by omega) (by omega)]; try omega
      have d : decide (((q + 1 : Nat) : Int) > 0) = true := decide_eq_true (by omega)
      have hA : (P.take q).length = q := by rw [List.length_take]; omega
      have e1 : insAt x P (q + 1) ++ R = P.take q ++ P[q] :: x :: (P.drop (q + 1) ++ R) := by
        unfold insAt
        rw [List.take_succ_eq_append_getElem hq]
        simp only [List.append_assoc, List.singleton_append, List.cons_append, List.nil_append]
      have e2 : insAt x P q ++ R = P.take q ++ x :: P[q] :: (P.drop (q + 1) ++ R) := by
        unfold insAt
        rw [List.drop_eq_getElem_cons hq]
        simp only [List.append_assoc, List.singleton_append, List.cons_append, List.nil_append]
      have g1 := swapU1 (P.take q) (P.drop (q + 1) ++ R) x P[q]
      have g2 := swapU2 (P.take q) (P.drop (q + 1) ++ R) x P[q]
      have g3 := swapU3 (P.take q) (P.drop (q + 1) ++ R) x P[q]
      have g4 := swapU4 (P.take q) (P.drop (q + 1) ++ R) x P[q]
      have g5 : (P.take q ++ P[q] :: P[q] :: (P.drop (q + 1) ++ R))[q]? = some P[q] := by have := swapU2 (P.take q) (P.drop (q + 1) ++ R) P[q] P[q]; rw [hA] at this; exact this
      rw [hA] at g1 g2 g3 g4
      simp only [d, cond_true, e1, getI_of g1, w, getI_of g2, bind_some, hF x P[q] (Or.inr rfl) (Or.inl hm), Int.toNat_natCast, g3, getI_of g5, g4, e2]
      have ea : aftU u x P q = decide (u P[q] < u x) := by unfold aftU; rw [hy]
      rw [ea]
      rw [show decide (u P[q] - u x < 0) = decide (u P[q] < u x) by rw [decide_eq_decide]; omega]
      by_cases c : u P[q] < u x <;> simp [c]) P.length k (Nat.le_refl _) (by omega)
  have e0 : insAt x P P.length = P ++ [x] := by unfold insAt; simp
  simp only [e0, List.append_assoc, List.singleton_append] at e
  exact e
theorem i_insertionU {k : Nat} {u : Str → Int} {F : Str → Str → Option Int} {l : List Str} (hF : ∀ a b, a ∈ l → b ∈ l → F a b = some (u b - u a)) (hl : l.length ≤ 500) (hk : 2000 ≤ k) :
    X.slices_insertionSortCmpFunc_string k l 0 (l.length : Int) F = some (sortU u l) := by
  unfold X.slices_insertionSortCmpFunc_string
  cases l with
  | nil =>
    obtain ⟨n, rfl⟩ : ∃ n, k = n + 1 := ⟨k - 1, by omega⟩
    rw [loopM_succ]
    rfl
  | cons y l' =>
    have hsub : ∀ (i : Nat) (P : List Str), P = ((y :: l').take i).foldl (insU u) [] → ∀ z ∈ P, z ∈ y :: l' := by
      have gen : ∀ (L P : List Str), ∀ z ∈ L.foldl (insU u) P, z ∈ P ∨ z ∈ L := by
        intro L
        induction L with
        | nil => intro P z hz; exact Or.inl hz
        | cons x L ih =>
          intro P z hz
          rcases ih _ z hz with h | h
          · rcases insU_mem h with h | h
            · exact Or.inl h
            · exact Or.inr (by rw [h]; exact List.mem_cons_self)
          · exact Or.inr (List.mem_cons_of_mem _ h)
      intro i P hP z hz
      rw [hP] at hz
      rcases gen _ _ z hz with h | h
      · cases h
      · exact List.mem_of_mem_take h
    have w1 : wr (0 + 1 : Int) = ((1 : Nat) : Int) := rfl
    rw [w1]
    have e := rng_loop (α := Str) (τ := Int × List Str) (ρ := List Str) (body := (fun ⟨n1, l2⟩ => (bif decide (n1 < ((y :: l').length : Int)) then (Option.bind (loopM (fun ⟨n6, l7⟩ => (bif decide (n6 > 0) then (Option.bind (getI l7 n6) fun y4_7 => (Option.bind (getI l7 (wr (n6 - 1))) fun y4_12 => (Option.bind (F y4_7 y4_12) fun v4_14 => (bif decide (v4_14 < 0) then (Option.bind (getI (List.set l7 (Int.toNat n6) y4_12) (wr (n6 - 1))) fun y6_16 => some (.inl ((wr (n6 - 1)), (List.set (List.set l7 (Int.toNat n6) y4_12) (Int.toNat (wr (n6 - 1))) y4_7)))) else some (.inr l7))))) else some (.inr l7))) k (n1, l2)) fun l8 => some (.inl ((wr (n1 + 1)), l8))) else some (.inr l2))))
      (fun i P => ((i : Int), P ++ (y :: l').drop i)) (fun P => P) (fun _ x P => insU u P x) (fun i P => P = ((y :: l').take i).foldl (insU u) []) (y :: l') (fun i x P hx hv => by
        have hi := some_len hx
        have hPl : P.length = i := by rw [hv, foldU_len, List.length_take]; simp only [List.length_nil]; omega
        have hxe : (y :: l')[i] = x := by rw [List.getElem?_eq_getElem hi] at hx; exact Option.some.inj hx
        refine ⟨?_, ?_⟩
        · have ed : (y :: l').drop i = x :: (y :: l').drop (i + 1) := by rw [List.drop_eq_getElem_cons hi, hxe]
          have hmx := mem_of hx
          have hms := hsub i P hv
          simp only [decL hi, cond_true, ed]
          have q := i_insU (k := k) (F := F) (P := P) (R := (y :: l').drop (i + 1)) (x := x) (fun a b ha hb => hF a b (by rcases ha with h | h; exact hms a h; rw [h]; exact hmx) (by rcases hb with h | h; exact hms b h; rw [h]; exact hmx)) (by rw [List.length_drop]; omega) hk
          rw [hPl] at q
          rw [q, bind_some, wr_suc (by omega)]
        · rw [List.take_succ_eq_append_getElem hi, List.foldl_append, ← hv, hxe]
          rfl) (fun P hv => by
        simp only [decE, cond_false]
        rw [List.drop_length, List.append_nil]) l' 1 k (insU u [] y) rfl (by simp) rfl (by simp only [List.length_cons] at hl; omega)
    have e2 : insU u [] y ++ (y :: l').drop 1 = y :: l' := rfl
    rw [e2] at e
    refine (congrArg (fun o => Option.bind o _) e.1).trans ?_
    have hv := e.2
    rw [List.take_length] at hv
    rw [bind_some, hv]
    rfl
theorem sumU_bnd (g : Str) : ∀ (l : List Entry) (n : Int), (∀ x ∈ l, inR x.Uses 0 99999 = true) → 0 ≤ n → n + 99999 * (l.length : Int) ≤ 1000000000 → 0 ≤ sumU g l n ∧ sumU g l n ≤ n + 99999 * (l.length : Int)
  | [], n, _, h, _ => by rw [sumU]; simp; exact h
  | x :: l, n, hx, h, hb => by
    have h0 := hx x List.mem_cons_self
    rw [inR_iff] at h0
    rw [List.length_cons] at hb ⊢
    rw [sumU]
    have hw : wr (n + x.Uses) = n + x.Uses := wr_of (by omega) (by omega)
    split
    · rw [hw]
      have := sumU_bnd g l (n + x.Uses) (fun y hy => hx y (List.mem_cons_of_mem _ hy)) (by omega) (by omega)
      omega
    · have := sumU_bnd g l n (fun y hy => hx y (List.mem_cons_of_mem _ hy)) (by omega) (by omega)
      omega
theorem allIx_mem {α : Type} (p : Nat → α → Bool) : ∀ (l : List α) (j : Nat), allIx p l j = true → ∀ x ∈ l, ∃ i, p i x = true
  | [], _, _ => fun x h => by cases h
  | y :: l, j, h => fun x hx => by
    rw [allIx, Bool.and_eq_true] at h
    rcases List.mem_cons.1 hx with e | e
    · exact ⟨j, by rw [e]; exact h.1⟩
    · exact allIx_mem p l (j + 1) h.2 x e
theorem gEntries_uses {l : List Entry} (h : gEntries l = true) : l.length ≤ 16 ∧ ∀ x ∈ l, inR x.Uses 0 99999 = true := by
  unfold gEntries at h
  rw [Bool.and_eq_true] at h
  refine ⟨by simpa using h.2, fun x hx => ?_⟩
  obtain ⟨i, hi⟩ := allIx_mem _ _ _ h.1 x hx
  have hg : gEntry x = true := by
    unfold pE at hi
    cases hc : gEntry x
    · rw [hc] at hi
      simp at hi
    · rfl
  unfold gEntry at hg
  simp only [Bool.and_eq_true] at hg
  exact hg.2.2.2
/-! ### Glosses, ranked -/
def uOf (l : List Entry) (g : Str) : Int := sumU g l 0
def vRank (l : List Entry) : List Str × Bool := if gEntries l then (sortU (uOf l) (glo l), true) else ([], false)
theorem i_Rank_eq {k : Nat} {l : List Entry} (hs : ∀ x ∈ l, smallE x) (hl : l.length ≤ 1048576) (hk : 2010 ≤ k) : X.i_RankedGlosses k l = some (vRank l) := by
  unfold X.i_RankedGlosses vRank
  rw [i_AreEntries_eq hs (by omega) (by omega), bind_some]
  cases h : gEntries l
  · rfl
  simp only [Bool.true_and, Bool.false_and, Bool.and_true, Bool.and_false, Bool.and_self, Bool.not_true, Bool.not_false, cond_true, cond_false, bind_some, if_true, Bool.false_eq_true, if_false]
  obtain ⟨hn, hu⟩ := gEntries_uses h
  have hb : ∀ g, 0 ≤ uOf l g ∧ uOf l g ≤ 10000000 := fun g => by
    have := sumU_bnd g l 0 hu (by omega) (by omega)
    unfold uOf
    omega
  have hF : ∀ a b, a ∈ glo l → b ∈ glo l → X.i_RankedGlosses_1 l a b = some (uOf l b - uOf l a) := by
    intro a b _ _
    unfold X.i_RankedGlosses_1
    rw [i_usesOf_eq l b hl, bind_some, i_usesOf_eq l a hl, bind_some]
    have h1 := hb a
    have h2 := hb b
    unfold uOf at h1 h2 ⊢
    rw [wr_of (by omega) (by omega)]
  have hg := glo_len l
  rw [i_glossesOf_eq hn, bind_some]
  unfold X.slices_SortStableFunc_string_string X.slices_stableCmpFunc_string
  obtain ⟨n, rfl⟩ : ∃ n, k = n + 1 := ⟨k - 1, by omega⟩
  have d1 : decide ((20 : Int) ≤ ((glo l).length : Int)) = false := by simp; omega
  have d2 : decide ((20 : Int) < ((glo l).length : Int)) = false := by simp; omega
  have q := i_insertionU hF (by omega) (show 2000 ≤ n + 1 by omega)
  simp only [loopM_succ, d1, d2, cond_false, bind_some, q]
theorem s_Rank_eq {k : Nat} {l : List Entry} (hs : ∀ x ∈ l, smallE x) (hl : l.length ≤ 1048576) (hk : 2000010 ≤ k) : X.s_RankedGlosses k l = some (vRank l) := by
  unfold X.s_RankedGlosses vRank
  rw [s_enGood_eq hs (by omega) hk, bind_some]
  cases h : gEntries l
  · rfl
  simp only [Bool.true_and, Bool.false_and, Bool.and_true, Bool.and_false, Bool.and_self, Bool.not_true, Bool.not_false, cond_true, cond_false, bind_some, if_true, Bool.false_eq_true, if_false]
  obtain ⟨hn, hu⟩ := gEntries_uses h
  have hg := glo_len l
  rw [s_enNames_eq hn, bind_some]
  have key : ∀ (L : List Str) (j : Nat) (P : List Str), rng (fun (_ : Nat) x P => insU (uOf l) P x) L j P = L.foldl (insU (uOf l)) P := by
    intro L
    induction L with
    | nil => intros; rfl
    | cons x L ih => intro j P; rw [rng, ih]; rfl
  rw [(rng_range (fun (_ : Nat) x P => insU (uOf l) P x) (fun i P => P.length = i) (glo l) (fun i x P hx hv1 => by
    have hi := some_len hx
    refine ⟨?_, by rw [insU_len, hv1]⟩
    · rw [s_insU (F := fun y => X.s_enUses l y) (u := uOf l) (fun y _ => s_enUses_eq l y) (by omega) hk, bind_some]
      have hp := posD_le (aftU (uOf l) x P) P.length
      have c1 : cutS P 0 ((posD (aftU (uOf l) x P) P.length : Nat) : Int) = some (P.take (posD (aftU (uOf l) x P) P.length)) := by
        unfold cutS
        rw [if_pos (by omega)]
        simp
      have c2 : cutS P ((posD (aftU (uOf l) x P) P.length : Nat) : Int) (List.length P : Int) = some (P.drop (posD (aftU (uOf l) x P) P.length)) := by
        unfold cutS
        rw [if_pos (by omega)]
        congr 1
        rw [Int.toNat_natCast, show ((List.length P : Int) - (posD (aftU (uOf l) x P) P.length : Nat)).toNat = P.length - posD (aftU (uOf l) x P) P.length by omega]
        rw [List.take_of_length_le (by simp)]
      have l1 : (P.take (posD (aftU (uOf l) x P) P.length)).length ≤ 16 := by rw [List.length_take]; omega
      have l2 : (P.drop (posD (aftU (uOf l) x P) P.length)).length ≤ 16 := by rw [List.length_drop]; omega
      rw [c1, bind_some, c2, bind_some, appT (by simp; omega), bind_some, List.nil_append, appT (by simp only [List.length_cons, List.length_nil]; omega), bind_some, appT (by simp only [List.length_append, List.length_cons, List.length_nil]; omega), bind_some]
      unfold insU insAt
      simp) (glo l) 0 [] rfl rfl).1, bind_some, key]
  rfl
theorem vRank_len (l : List Entry) : (vRank l).1.length ≤ l.length := by
  unfold vRank
  split
  · rw [sortU_len]; exact glo_len l
  · simp
theorem Pure.FnExactRankedGlosses (l : List Entry) (o_l : okL okEntry l) : X.l_FnExactRankedGlosses 3000000 l = some true := by
  unfold X.l_FnExactRankedGlosses
  obtain ⟨r0, hr0, d0⟩ := szEntryS_eq (l := l) (z := 1048576) o_l (by omega) (by omega)
  rw [hr0, bind_some]
  rcases d0 with d0 | ⟨n_l, h_l, p0, q0⟩
  · have : decide (r0 < 0) = true := by simpa using d0
    rw [this]
    rfl
  have e0 : decide (r0 < 0) = false := by simpa using p0
  rw [e0, cond_false]
  have hvl : (vRank l).1.length ≤ 1048576 := (Nat.le_trans (vRank_len l) n_l)
  have hpr : decide (1 + 1 * ((vRank l).1.length : Int) < 0) = false := by simp; omega
  have hpa : decide (1 + 30 * (l.length : Int) < 0) = false := by simp; omega
  simp only [toEntryS_eq n_l,
    eqEntryS_eq n_l,
    bind_some,
    i_Rank_eq h_l n_l (show 2010 ≤ 3000000 by omega),
    s_Rank_eq h_l n_l (show 2000010 ≤ 3000000 by omega),
    eqStringS_eq hvl,
    markStringS_eq (show (0 : Int) ≤ 1 by omega) (show (1 : Int) ≤ 1000000000000 by omega) hvl,
    heldStringS_eq (show (0 : Int) ≤ 1 by omega) (show (1 : Int) ≤ 1000000000000 by omega) hvl,
    hpr,
    markEntryS_eq (k := 1) (show (0 : Int) ≤ 1 by omega) (show (1 : Int) ≤ 1000000000000 by omega) n_l,
    hpa]
  simp
end Go.Proofs.XC
