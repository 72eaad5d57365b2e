/- Plain laws of the plain functions: no program, no memory. By AI agents; no person has read it. -/
import Derived.Test.YtldkmmopfhhdgaaGreatDoorPR1
set_option linter.unusedVariables false
set_option linter.unusedSimpArgs false
set_option maxRecDepth 100000
set_option maxHeartbeats 40000000
namespace Go.Proofs.XC
open Go Go.RowKit
/-! ### Sorting: the comparison is antisymmetric -/
theorem cmpB_anti : ∀ a b : Str, cmpB b a = - cmpB a b
  | [], [] => rfl
  | [], _ :: _ => rfl
  | _ :: _, [] => rfl
  | x :: a, y :: b => by
    have ih := cmpB_anti a b
    unfold cmpB at ih ⊢
    simp only [Lib.compareBytes]
    by_cases h1 : x < y
    · have h2 : ¬ y < x := fun h => absurd (UInt8.lt_trans h1 h) (UInt8.lt_irrefl x)
      simp [h1, h2]
    · by_cases h2 : y < x
      · simp [h1, h2]
      · simp [h1, h2, ih]
theorem cmpN_anti (a b : Sign) : cmpN b a = - cmpN a b := by
  unfold cmpN
  rw [cmpB_anti (tHand a.Main) (tHand b.Main), cmpB_anti (tHand a.Other) (tHand b.Other)]
  by_cases h : cmpB (tHand a.Main) (tHand b.Main) = 0
  · cases a.Two <;> cases b.Two <;> simp [h]
  · rw [if_pos (by omega), if_pos h]
/-! #### Inserting one -/
def posD (q : Nat → Bool) : Nat → Nat
  | 0 => 0
  | k + 1 => if q k then posD q k else k + 1
theorem posD_le (q : Nat → Bool) : ∀ k, posD q k ≤ k
  | 0 => Nat.le_refl 0
  | k + 1 => by
    rw [posD]
    split
    · have := posD_le q k; omega
    · exact Nat.le_refl _
theorem descend {τ ρ : Type} {body : τ → Option (τ ⊕ ρ)} (mk : Nat → τ) (fin : Nat → ρ) (q : Nat → Bool) (N : Nat) (h0 : body (mk 0) = some (.inr (fin 0)))
    (hs : ∀ k, k < N → body (mk (k + 1)) = some (if q k then .inl (mk k) else .inr (fin (k + 1)))) : ∀ (k fu : Nat), k ≤ N → k < fu → loopM body fu (mk k) = some (fin (posD q k))
  | 0, fu, _, hf => by
    obtain ⟨n, rfl⟩ : ∃ n, fu = n + 1 := ⟨fu - 1, by omega⟩
    rw [loopM_succ, h0]
    rfl
  | k + 1, fu, hk, hf => by
    obtain ⟨n, rfl⟩ : ∃ n, fu = n + 1 := ⟨fu - 1, by omega⟩
    rw [loopM_succ, hs k (by omega), bind_some, posD]
    cases hq : q k
    · rfl
    · exact descend mk fin q N h0 hs k n (by omega) (by omega)
def aftN (x : Sign) (P : List Sign) (k : Nat) : Bool := match P[k]? with | some y => decide (cmpN (nS y) (nS x) > 0) | none => false
def insAt {α : Type} (x : α) (P : List α) (k : Nat) : List α := P.take k ++ x :: P.drop k
def insN (P : List Sign) (x : Sign) : List Sign := insAt x P (posD (aftN x P) P.length)
theorem insAt_len {α : Type} (x : α) (P : List α) (k : Nat) : (insAt x P k).length = P.length + 1 := by
  unfold insAt
  rw [List.length_append, List.length_cons, List.length_take, List.length_drop]
  omega
theorem insN_len (P : List Sign) (x : Sign) : (insN P x).length = P.length + 1 := insAt_len x P _
theorem insN_mem {P : List Sign} {x y : Sign} (h : y ∈ insN P x) : y ∈ P ∨ y = x := by
  unfold insN insAt at h
  rcases List.mem_append.1 h with h | h
  · exact Or.inl (List.mem_of_mem_take h)
  · rcases List.mem_cons.1 h with h | h
    · exact Or.inr h
    · exact Or.inl (List.mem_of_mem_drop h)
def sortN (l : List Sign) : List Sign := l.foldl insN []
theorem foldIns_len : ∀ (l P : List Sign), (l.foldl insN P).length = P.length + l.length
  | [], P => by simp
  | x :: l, P => by rw [List.foldl_cons, foldIns_len l, insN_len, List.length_cons]; omega
theorem sortN_len (l : List Sign) : (sortN l).length = l.length := by unfold sortN; rw [foldIns_len]; simp
/-! #### The reference -/
theorem appS {l m : List Sign} (h : l.length + m.length ≤ 100000) : appG nSign l m = some (l ++ m) := by
  unfold appG
  have hby : nSign.by_ = 232 := rfl
  rw [if_pos]
  rw [hby]
  omega
def vSort (l : List Sign) : List Sign × Bool := if l.all gSign && decide (l.length ≤ 16) then (sortN l, true) else ([], false)
/-! #### The implementation -/
theorem swap1 (A B : List Sign) (x y : Sign) : (A ++ y :: x :: B)[A.length + 1]? = some x := by simp
theorem swap2 (A B : List Sign) (x y : Sign) : (A ++ y :: x :: B)[A.length]? = some y := by simp
theorem swap3 (A B : List Sign) (x y : Sign) : (A ++ y :: x :: B).set (A.length + 1) y = A ++ y :: y :: B := by simp
theorem swap4 (A B : List Sign) (x y : Sign) : (A ++ y :: y :: B).set A.length x = A ++ x :: y :: B := by simp
theorem i_ins {k : Nat} {F : Sign → Sign → Option Int} {P R : List Sign} {x : Sign} (hF : ∀ a b, a ∈ P ∨ a = x → b ∈ P ∨ b = x → F a b = some (cmpN (nS a) (nS b))) (hP : P.length + R.length ≤ 1000) (hk : 2000 ≤ k) :
    loopM (fun (⟨n6, l7⟩ : Int × List Sign) => (bif decide (n6 > 0) then (Option.bind (getI l7 n6) fun y4_7 => (Option.bind (getI l7 (wr (n6 - 1))) fun y4_12 => (Option.bind (F y4_7 y4_12) fun v4_14 => (bif decide (v4_14 < 0) then (Option.bind (getI (List.set l7 (Int.toNat n6) y4_12) (wr (n6 - 1))) fun y6_16 => some (.inl ((wr (n6 - 1)), (List.set (List.set l7 (Int.toNat n6) y4_12) (Int.toNat (wr (n6 - 1))) y4_7)))) else some (.inr l7))))) else some (.inr l7))) k ((P.length : Int), P ++ x :: R) = some (insN P x ++ R) := by
  have e := descend (τ := Int × List Sign) (ρ := List Sign) (body := (fun (⟨n6, l7⟩ : Int × List Sign) => (bif decide (n6 > 0) then (Option.bind (getI l7 n6) fun y4_7 => (Option.bind (getI l7 (wr (n6 - 1))) fun y4_12 => (Option.bind (F y4_7 y4_12) fun v4_14 => (bif decide (v4_14 < 0) then (Option.bind (getI (List.set l7 (Int.toNat n6) y4_12) (wr (n6 - 1))) fun y6_16 => some (.inl ((wr (n6 - 1)), (List.set (List.set l7 (Int.toNat n6) y4_12) (Int.toNat (wr (n6 - 1))) y4_7)))) else some (.inr l7))))) else some (.inr l7))))
    (fun q : Nat => ((q : Int), insAt x P q ++ R)) (fun q : Nat => insAt x P q ++ R) (aftN x P) P.length rfl (fun q hq => by
      have hy : P[q]? = some P[q] := List.getElem?_eq_getElem hq
      have hm := List.getElem_mem hq
      have w : wr (((q + 1 : Nat) : Int) - 1) = (q : Int) := by rw [wr_of (by omega) (by omega)]; try omega
      have d : decide (((q + 1 : Nat) : Int) > 0) = true := decide_eq_true (by omega)
      have hA : (P.take q).length = q := by rw [List.length_take]; omega
      have e1 : insAt x P (q + 1) ++ R = P.take q ++ P[q] :: x :: (P.drop (q + 1) ++ R) := by
        unfold insAt
        rw [List.take_succ_eq_append_getElem hq]
        simp only [List.append_assoc, List.singleton_append, List.cons_append, List.nil_append]
      have e2 : insAt x P q ++ R = P.take q ++ x :: P[q] :: (P.drop (q + 1) ++ R) := by
        unfold insAt
        rw [List.drop_eq_getElem_cons hq]
        simp only [List.append_assoc, List.singleton_append, List.cons_append, List.nil_append]
      have g1 := swap1 (P.take q) (P.drop (q + 1) ++ R) x P[q]
      have g2 := swap2 (P.take q) (P.drop (q + 1) ++ R) x P[q]
      have g3 := swap3 (P.take q) (P.drop (q + 1) ++ R) x P[q]
      have g4 := swap4 (P.take q) (P.drop (q + 1) ++ R) x P[q]
      have g5 : (P.take q ++ P[q] :: P[q] :: (P.drop (q + 1) ++ R))[q]? = some P[q] := by have := swap2 (P.take q) (P.drop (q + 1) ++ R) P[q] P[q]; rw [hA] at this; exact this
      rw [hA] at g1 g2 g3 g4
      simp only [d, cond_true, e1, getI_of g1, w, getI_of g2, bind_some, hF x P[q] (Or.inr rfl) (Or.inl hm), Int.toNat_natCast, g3, getI_of g5, g4, e2]
      have ea : aftN x P q = decide (cmpN (nS P[q]) (nS x) > 0) := by unfold aftN; rw [hy]
      rw [ea]
      rw [cmpN_anti (nS P[q]) (nS x), show decide (-cmpN (nS P[q]) (nS x) < 0) = decide (cmpN (nS P[q]) (nS x) > 0) by rw [decide_eq_decide]; omega]
      by_cases c : cmpN (nS P[q]) (nS x) > 0 <;> simp [c]) P.length k (Nat.le_refl _) (by omega)
  have e0 : insAt x P P.length = P ++ [x] := by unfold insAt; simp
  simp only [e0, List.append_assoc, List.singleton_append] at e
  exact e
theorem vSort_len (l : List Sign) : (vSort l).1.length ≤ l.length := by
  unfold vSort
  split
  · rw [sortN_len]; exact Nat.le_refl _
  · simp
end Go.Proofs.XC
