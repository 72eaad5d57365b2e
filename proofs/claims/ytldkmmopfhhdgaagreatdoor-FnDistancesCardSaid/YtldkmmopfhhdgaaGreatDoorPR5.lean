/- Plain laws of the plain functions: no program, no memory. By AI agents; no person has read it. -/
import Derived.Test.YtldkmmopfhhdgaaGreatDoorPR4
import Derived.Test.YtldkmmopfhhdgaaGreatDoorPR2
set_option linter.unusedVariables false
set_option linter.unusedSimpArgs false
set_option maxRecDepth 100000
set_option maxHeartbeats 40000000
namespace Go.Proofs.XC
open Go Go.RowKit
/-! ### Names, each once -/
def nmS (acc : List Str) (g : Str) : List Str := if acc.getLast? = some g then acc else acc ++ [g]
theorem nmS_len (acc : List Str) (g : Str) : (nmS acc g).length ≤ acc.length + 1 := by
  unfold nmS
  split
  · omega
  · simp
def namesF (zs : List Str) : List Str := zs.foldl nmS []
theorem namesF_len : ∀ (zs acc : List Str), (zs.foldl nmS acc).length ≤ acc.length + zs.length
  | [], acc => by simp
  | z :: zs, acc => by
    rw [List.foldl_cons, List.length_cons]
    have h1 := namesF_len zs (nmS acc z)
    have h2 := nmS_len acc z
    omega
theorem compact_names (zs : List Str) : Lib.compact zs = namesF zs := by
  have key : ∀ m, m ≤ zs.length → Lib.compactUpTo zs.toArray m = (zs.take m).foldl nmS [] ∧ (∀ x, 0 < m → zs[m - 1]? = some x → (Lib.compactUpTo zs.toArray m).getLast? = some x) := by
    intro m
    induction m with
    | zero => intro _; exact ⟨rfl, fun x h => by omega⟩
    | succ m ih =>
      intro hm
      obtain ⟨h1, h2⟩ := ih (by omega)
      have hx : zs[m]? = some zs[m] := List.getElem?_eq_getElem (by omega)
      have hd : zs.toArray[m]! = zs[m] := by
        rw [getElem!_pos zs.toArray m (by simp; omega)]
        simp
      rw [Lib.compactUpTo_succ, hd, List.take_succ_eq_append_getElem (by omega), List.foldl_append, ← h1]
      show _ = nmS (Lib.compactUpTo zs.toArray m) zs[m] ∧ _
      unfold nmS
      cases m with
      | zero =>
        have hk : Lib.keeps zs.toArray 0 = true := Lib.keeps_lt_one _ 0 (by omega)
        have e0 : Lib.compactUpTo zs.toArray 0 = [] := rfl
        rw [hk, e0]
        refine ⟨by simp, fun x _ hx' => ?_⟩
        rw [Nat.zero_add, Nat.sub_self, hx] at hx'
        simpa using hx'
      | succ m =>
        have hy : zs[m]? = some zs[m] := List.getElem?_eq_getElem (by omega)
        have hl := h2 zs[m] (by omega) (by simp)
        have hdm : zs.toArray[m]! = zs[m] := by
          rw [getElem!_pos zs.toArray m (by simp; omega)]
          simp
        by_cases he : zs[m] = zs[m + 1]
        · have hk : Lib.keeps zs.toArray (m + 1) = false := Lib.keeps_neg (by omega) (by rw [hd, Nat.add_sub_cancel, hdm, he])
          rw [hk, hl, if_pos (show some zs[m] = some zs[m + 1] by rw [he])]
          simp only [Bool.false_eq_true, if_false, List.append_nil]
          refine ⟨trivial, fun x _ hx' => ?_⟩
          rw [Nat.add_sub_cancel, hx] at hx'
          rw [hl, he]
          exact hx'
        · have hk : Lib.keeps zs.toArray (m + 1) = true := Lib.keeps_pos (by rw [hd, Nat.add_sub_cancel, hdm]; exact fun e => he e.symm)
          rw [hk, hl, if_neg (show ¬ some zs[m] = some zs[m + 1] from fun e => he (Option.some.inj e))]
          simp only [if_true]
          refine ⟨trivial, fun x _ hx' => ?_⟩
          rw [Nat.add_sub_cancel, hx] at hx'
          simpa using hx'
  have := (key zs.length (Nat.le_refl _)).1
  rw [List.take_length] at this
  exact this
theorem appT {l m : List Str} (h : l.length + m.length ≤ 100000) : appG eS l m = some (l ++ m) := by
  unfold appG
  have hby : eS.by_ = 16 := rfl
  rw [if_pos]
  rw [hby]
  omega
/-! ### Sorting by a number, greatest first -/
def aftU (u : Str → Int) (x : Str) (P : List Str) (k : Nat) : Bool := match P[k]? with | some y => decide (u y < u x) | none => false
def insU (u : Str → Int) (P : List Str) (x : Str) : List Str := insAt x P (posD (aftU u x P) P.length)
theorem insU_len (u : Str → Int) (P : List Str) (x : Str) : (insU u P x).length = P.length + 1 := insAt_len x P _
theorem insU_mem {u : Str → Int} {P : List Str} {x y : Str} (h : y ∈ insU u P x) : y ∈ P ∨ y = x := by
  unfold insU insAt at h
  rcases List.mem_append.1 h with h | h
  · exact Or.inl (List.mem_of_mem_take h)
  · rcases List.mem_cons.1 h with h | h
    · exact Or.inr h
    · exact Or.inl (List.mem_of_mem_drop h)
def sortU (u : Str → Int) (l : List Str) : List Str := l.foldl (insU u) []
theorem foldU_len (u : Str → Int) : ∀ (l P : List Str), (l.foldl (insU u) P).length = P.length + l.length
  | [], P => by simp
  | x :: l, P => by rw [List.foldl_cons, foldU_len u l, insU_len, List.length_cons]; omega
theorem sortU_len (u : Str → Int) (l : List Str) : (sortU u l).length = l.length := by unfold sortU; rw [foldU_len]; simp
theorem s_insU {k : Nat} {u : Str → Int} {F : Str → Option Int} {P : List Str} {x : Str} (hF : ∀ y, y ∈ P ∨ y = x → F y = some (u y)) (hP : P.length ≤ 1000) (hk : 2000010 ≤ k) :
    loopM (fun n14 => (bif decide (n14 > 0) then (Option.bind (getI P (wr (n14 - 1))) fun y8_7 => (Option.bind (F y8_7) fun v8_9 => (Option.bind (F x) fun v8_12 => (bif decide (v8_9 < v8_12) then some (.inl (wr (n14 - 1))) else some (.inr n14))))) else some (.inr n14))) k (List.length P : Int) = some ((posD (aftU u x P) P.length : Nat) : Int) := by
  exact descend (fun n : Nat => (n : Int)) (fun n : Nat => (n : Int)) (aftU u x P) P.length rfl (fun q hq => by
    have hy : P[q]? = some P[q] := List.getElem?_eq_getElem hq
    have w : wr (((q + 1 : Nat) : Int) - 1) = (q : Int) := by rw [wr_of (by omega) (by omega)]; try omega
    have d : decide (((q + 1 : Nat) : Int) > 0) = true := decide_eq_true (by omega)
    simp only [d, cond_true, w, getI_of hy, bind_some, hF _ (Or.inl (List.getElem_mem hq)), hF x (Or.inr rfl)]
    have ea : aftU u x P q = decide (u P[q] < u x) := by unfold aftU; rw [hy]
    rw [ea]
    by_cases c : u P[q] < u x <;> simp [c]) P.length k (Nat.le_refl _) (by omega)
theorem swapU1 (A B : List Str) (x y : Str) : (A ++ y :: x :: B)[A.length + 1]? = some x := by simp
theorem swapU2 (A B : List Str) (x y : Str) : (A ++ y :: x :: B)[A.length]? = some y := by simp
theorem swapU3 (A B : List Str) (x y : Str) : (A ++ y :: x :: B).set (A.length + 1) y = A ++ y :: y :: B := by simp
theorem swapU4 (A B : List Str) (x y : Str) : (A ++ y :: y :: B).set A.length x = A ++ x :: y :: B := by simp
theorem i_insU {k : Nat} {u : Str → Int} {F : Str → Str → Option Int} {P R : List Str} {x : Str} (hF : ∀ a b, a ∈ P ∨ a = x → b ∈ P ∨ b = x → F a b = some (u b - u a)) (hP : P.length + R.length ≤ 1000) (hk : 2000 ≤ k) :
    loopM (fun (⟨n6, l7⟩ : Int × List Str) => (bif decide (n6 > 0) then (Option.bind (getI l7 n6) fun y4_7 => (Option.bind (getI l7 (wr (n6 - 1))) fun y4_12 => (Option.bind (F y4_7 y4_12) fun v4_14 => (bif decide (v4_14 < 0) then (Option.bind (getI (List.set l7 (Int.toNat n6) y4_12) (wr (n6 - 1))) fun y6_16 => some (.inl ((wr (n6 - 1)), (List.set (List.set l7 (Int.toNat n6) y4_12) (Int.toNat (wr (n6 - 1))) y4_7)))) else some (.inr l7))))) else some (.inr l7))) k ((P.length : Int), P ++ x :: R) = some (insU u P x ++ R) := by
  have e := descend (τ := Int × List Str) (ρ := List Str) (body := (fun (⟨n6, l7⟩ : Int × List Str) => (bif decide (n6 > 0) then (Option.bind (getI l7 n6) fun y4_7 => (Option.bind (getI l7 (wr (n6 - 1))) fun y4_12 => (Option.bind (F y4_7 y4_12) fun v4_14 => (bif decide (v4_14 < 0) then (Option.bind (getI (List.set l7 (Int.toNat n6) y4_12) (wr (n6 - 1))) fun y6_16 => some (.inl ((wr (n6 - 1)), (List.set (List.set l7 (Int.toNat n6) y4_12) (Int.toNat (wr (n6 - 1))) y4_7)))) else some (.inr l7))))) else some (.inr l7))))
    (fun q : Nat => ((q : Int), insAt x P q ++ R)) (fun q : Nat => insAt x P q ++ R) (aftU u x P) P.length rfl (fun q hq => by
      have hy : P[q]? = some P[q] := List.getElem?_eq_getElem hq
      have hm := List.getElem_mem hq
      have w : wr (((q + 1 : Nat) : Int) - 1) = (q : Int) := by rw [wr_of (by omega) (by omega)]; try omega
      have d : decide (((q + 1 : Nat) : Int) > 0) = true := decide_eq_true (by omega)
      have hA : (P.take q).length = q := by rw [List.length_take]; omega
      have e1 : insAt x P (q + 1) ++ R = P.take q ++ P[q] :: x :: (P.drop (q + 1) ++ R) := by
        unfold insAt
        rw [List.take_succ_eq_append_getElem hq]
        simp only [List.append_assoc, List.singleton_append, List.cons_append, List.nil_append]
      have e2 : insAt x P q ++ R = P.take q ++ x :: P[q] :: (P.drop (q + 1) ++ R) := by
        unfold insAt
        rw [List.drop_eq_getElem_cons hq]
        simp only [List.append_assoc, List.singleton_append, List.cons_append, List.nil_append]
      have g1 := swapU1 (P.take q) (P.drop (q + 1) ++ R) x P[q]
      have g2 := swapU2 (P.take q) (P.drop (q + 1) ++ R) x P[q]
      have g3 := swapU3 (P.take q) (P.drop (q + 1) ++ R) x P[q]
      have g4 := swapU4 (P.take q) (P.drop (q + 1) ++ R) x P[q]
      have g5 : (P.take q ++ P[q] :: P[q] :: (P.drop (q + 1) ++ R))[q]? = some P[q] := by have := swapU2 (P.take q) (P.drop (q + 1) ++ R) P[q] P[q]; rw [hA] at this; exact this
      rw [hA] at g1 g2 g3 g4
      simp only [d, cond_true, e1, getI_of g1, w, getI_of g2, bind_some, hF x P[q] (Or.inr rfl) (Or.inl hm), Int.toNat_natCast, g3, getI_of g5, g4, e2]
      have ea : aftU u x P q = decide (u P[q] < u x) := by unfold aftU; rw [hy]
      rw [ea]
      rw [show decide (u P[q] - u x < 0) = decide (u P[q] < u x) by rw [decide_eq_decide]; omega]
      by_cases c : u P[q] < u x <;> simp [c]) P.length k (Nat.le_refl _) (by omega)
  have e0 : insAt x P P.length = P ++ [x] := by unfold insAt; simp
  simp only [e0, List.append_assoc, List.singleton_append] at e
  exact e
theorem allIx_mem {α : Type} (p : Nat → α → Bool) : ∀ (l : List α) (j : Nat), allIx p l j = true → ∀ x ∈ l, ∃ i, p i x = true
  | [], _, _ => fun x h => by cases h
  | y :: l, j, h => fun x hx => by
    rw [allIx, Bool.and_eq_true] at h
    rcases List.mem_cons.1 hx with e | e
    · exact ⟨j, by rw [e]; exact h.1⟩
    · exact allIx_mem p l (j + 1) h.2 x e
/-! ### Glosses, ranked -/
end Go.Proofs.XC
