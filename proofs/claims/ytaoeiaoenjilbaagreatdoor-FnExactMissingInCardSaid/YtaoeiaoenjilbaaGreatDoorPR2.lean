/- Plain laws of the plain functions: no program, no memory. By AI agents; no person has read it. -/
import Derived.Test.YtaoeiaoenjilbaaGreatDoorPR1
set_option linter.unusedVariables false
set_option linter.unusedSimpArgs false
set_option maxRecDepth 100000
set_option maxHeartbeats 40000000
namespace Go.Proofs.XC
open Go Go.RowKit
/-! ### Sorting: the comparison is antisymmetric -/
theorem cmpB_anti : ∀ a b : Str, cmpB b a = - cmpB a b
  | [], [] => rfl
  | [], _ :: _ => rfl
  | _ :: _, [] => rfl
  | x :: a, y :: b => by
    have ih := cmpB_anti a b
    unfold cmpB at ih ⊢
    simp only [Lib.compareBytes]
    by_cases h1 : x < y
    · have h2 : ¬ y < x := fun h => absurd (UInt8.lt_trans h1 h) (UInt8.lt_irrefl x)
      simp [h1, h2]
    · by_cases h2 : y < x
      · simp [h1, h2]
      · simp [h1, h2, ih]
theorem cmpN_anti (a b : Sign) : cmpN b a = - cmpN a b := by
  unfold cmpN
  rw [cmpB_anti (tHand a.Main) (tHand b.Main), cmpB_anti (tHand a.Other) (tHand b.Other)]
  by_cases h : cmpB (tHand a.Main) (tHand b.Main) = 0
  · cases a.Two <;> cases b.Two <;> simp [h]
  · rw [if_pos (by omega), if_pos h]
/-! #### Inserting one -/
def posD (q : Nat → Bool) : Nat → Nat
  | 0 => 0
  | k + 1 => if q k then posD q k else k + 1
theorem posD_le (q : Nat → Bool) : ∀ k, posD q k ≤ k
  | 0 => Nat.le_refl 0
  | k + 1 => by
    rw [posD]
    split
    · have := posD_le q k; omega
    · exact Nat.le_refl _
theorem descend {τ ρ : Type} {body : τ → Option (τ ⊕ ρ)} (mk : Nat → τ) (fin : Nat → ρ) (q : Nat → Bool) (N : Nat) (h0 : body (mk 0) = some (.inr (fin 0)))
    (hs : ∀ k, k < N → body (mk (k + 1)) = some (if q k then .inl (mk k) else .inr (fin (k + 1)))) : ∀ (k fu : Nat), k ≤ N → k < fu → loopM body fu (mk k) = some (fin (posD q k))
  | 0, fu, _, hf => by
    obtain ⟨n, rfl⟩ : ∃ n, fu = n + 1 := ⟨fu - 1, by omega⟩
    rw [loopM_succ, h0]
    rfl
  | k + 1, fu, hk, hf => by
    obtain ⟨n, rfl⟩ : ∃ n, fu = n + 1 := ⟨fu - 1, by omega⟩
    rw [loopM_succ, hs k (by omega), bind_some, posD]
    cases hq : q k
    · rfl
    · exact descend mk fin q N h0 hs k n (by omega) (by omega)
def aftN (x : Sign) (P : List Sign) (k : Nat) : Bool := match P[k]? with | some y => decide (cmpN (nS y) (nS x) > 0) | none => false
def insAt {α : Type} (x : α) (P : List α) (k : Nat) : List α := P.take k ++ x :: P.drop k
def insN (P : List Sign) (x : Sign) : List Sign := insAt x P (posD (aftN x P) P.length)
theorem insAt_len {α : Type} (x : α) (P : List α) (k : Nat) : (insAt x P k).length = P.length + 1 := by
  unfold insAt
  rw [List.length_append, List.length_cons, List.length_take, List.length_drop]
  omega
theorem insN_len (P : List Sign) (x : Sign) : (insN P x).length = P.length + 1 := insAt_len x P _
theorem insN_mem {P : List Sign} {x y : Sign} (h : y ∈ insN P x) : y ∈ P ∨ y = x := by
  unfold insN insAt at h
  rcases List.mem_append.1 h with h | h
  · exact Or.inl (List.mem_of_mem_take h)
  · rcases List.mem_cons.1 h with h | h
    · exact Or.inr h
    · exact Or.inl (List.mem_of_mem_drop h)
def sortN (l : List Sign) : List Sign := l.foldl insN []
theorem foldIns_len : ∀ (l P : List Sign), (l.foldl insN P).length = P.length + l.length
  | [], P => by simp
  | x :: l, P => by rw [List.foldl_cons, foldIns_len l, insN_len, List.length_cons]; omega
theorem sortN_len (l : List Sign) : (sortN l).length = l.length := by unfold sortN; rw [foldIns_len]; simp
/-! #### The reference -/
theorem appS {l m : List Sign} (h : l.length + m.length ≤ 100000) : appG nSign l m = some (l ++ m) := by
  unfold appG
  have hby : nSign.by_ = 232 := rfl
  rw [if_pos]
  rw [hby]
  omega
def vSort (l : List Sign) : List Sign × Bool := if l.all gSign && decide (l.length ≤ 16) then (sortN l, true) else ([], false)
theorem s_ins {k : Nat} {P : List Sign} {x : Sign} (hg : ∀ y ∈ P, gSign y = true) (gx : gSign x = true) (hP : P.length ≤ 1000) (hk : 2000010 ≤ k) :
    loopM (fun n14 => (bif decide (n14 > 0) then (Option.bind (getI P (wr (n14 - 1))) fun y8_6 => (Option.bind (X.s_noCompare k y8_6 x) fun v8_9 => (bif decide (v8_9 > 0) then some (.inl (wr (n14 - 1))) else some (.inr n14)))) else some (.inr n14))) k (List.length P : Int) = some ((posD (aftN x P) P.length : Nat) : Int) := by
  exact descend (fun n : Nat => (n : Int)) (fun n : Nat => (n : Int)) (aftN x P) P.length rfl (fun q hq => by
    have hy : P[q]? = some P[q] := List.getElem?_eq_getElem hq
    have w : wr (((q + 1 : Nat) : Int) - 1) = (q : Int) := by rw [wr_of (by omega) (by omega)]; try omega
    have d : decide (((q + 1 : Nat) : Int) > 0) = true := decide_eq_true (by omega)
    simp only [d, cond_true, w, getI_of hy, bind_some, s_noCompare_eq (hg _ (List.getElem_mem hq)) gx (show 10 ≤ k by omega)]
    have ea : aftN x P q = decide (cmpN (nS P[q]) (nS x) > 0) := by unfold aftN; rw [hy]
    rw [ea]
    by_cases c : cmpN (nS P[q]) (nS x) > 0 <;> simp [c]) P.length k (Nat.le_refl _) (by omega)
theorem s_Sort_eq {k : Nat} {l : List Sign} (hs : ∀ s ∈ l, smallS s) (hk : 2000010 ≤ k) : X.s_SortSigns k l = some (vSort l) := by
  unfold X.s_SortSigns vSort
  rw [s_noList_eq hs hk]
  cases h1 : l.all gSign <;> cases h2 : decide (l.length ≤ 16) <;> simp only [Bool.true_and, Bool.false_and, Bool.and_true, Bool.and_false, Bool.and_self, Bool.not_true, Bool.not_false, cond_true, cond_false, bind_some, if_true, Bool.false_eq_true, if_false]
  have hg : ∀ s ∈ l, gSign s = true := by simpa using h1
  have hn : l.length ≤ 16 := by simpa using h2
  have key : ∀ (L : List Sign), L = l → rng (fun (_ : Nat) x P => insN P x) L 0 [] = sortN L := by
    intro L _
    have : ∀ (L : List Sign) (j : Nat) (P : List Sign), rng (fun (_ : Nat) x P => insN P x) L j P = L.foldl insN P := by
      intro L
      induction L with
      | nil => intros; rfl
      | cons x L ih => intro j P; rw [rng, ih]; rfl
    exact this L 0 []
  rw [(rng_range (fun (_ : Nat) x P => insN P x) (fun i P => P.length = i ∧ ∀ y ∈ P, gSign y = true) l (fun i x P hx hv => by
    obtain ⟨hv1, hv2⟩ := hv
    have hi := some_len hx
    have gx := hg x (mem_of hx)
    refine ⟨?_, by rw [insN_len, hv1], fun y hy => ?_⟩
    · rw [s_ins hv2 gx (by omega) hk, bind_some]
      have hp := posD_le (aftN x P) P.length
      have c1 : cutS P 0 ((posD (aftN x P) P.length : Nat) : Int) = some (P.take (posD (aftN x P) P.length)) := by
        unfold cutS
        rw [if_pos (by omega)]
        simp
      have c2 : cutS P ((posD (aftN x P) P.length : Nat) : Int) (List.length P : Int) = some (P.drop (posD (aftN x P) P.length)) := by
        unfold cutS
        rw [if_pos (by omega)]
        congr 1
        rw [Int.toNat_natCast, show ((List.length P : Int) - (posD (aftN x P) P.length : Nat)).toNat = P.length - posD (aftN x P) P.length by omega]
        rw [List.take_of_length_le (by simp)]
      have l1 : (P.take (posD (aftN x P) P.length)).length ≤ 16 := by rw [List.length_take]; omega
      have l2 : (P.drop (posD (aftN x P) P.length)).length ≤ 16 := by rw [List.length_drop]; omega
      rw [c1, bind_some, c2, bind_some, appS (by simp; omega), bind_some, List.nil_append, appS (by simp only [List.length_cons, List.length_nil]; omega), bind_some, appS (by simp only [List.length_append, List.length_cons, List.length_nil]; omega), bind_some]
      unfold insN insAt
      simp
    · rcases insN_mem hy with h | h
      · exact hv2 y h
      · rw [h]; exact gx) l 0 [] rfl ⟨rfl, by simp⟩).1, bind_some, key l rfl]
/-! #### The implementation -/
theorem swap1 (A B : List Sign) (x y : Sign) : (A ++ y :: x :: B)[A.length + 1]? = some x := by simp
theorem swap2 (A B : List Sign) (x y : Sign) : (A ++ y :: x :: B)[A.length]? = some y := by simp
theorem swap3 (A B : List Sign) (x y : Sign) : (A ++ y :: x :: B).set (A.length + 1) y = A ++ y :: y :: B := by simp
theorem swap4 (A B : List Sign) (x y : Sign) : (A ++ y :: y :: B).set A.length x = A ++ x :: y :: B := by simp
theorem i_ins {k : Nat} {F : Sign → Sign → Option Int} {P R : List Sign} {x : Sign} (hF : ∀ a b, a ∈ P ∨ a = x → b ∈ P ∨ b = x → F a b = some (cmpN (nS a) (nS b))) (hP : P.length + R.length ≤ 1000) (hk : 2000 ≤ k) :
    loopM (fun (⟨n6, l7⟩ : Int × List Sign) => (bif decide (n6 > 0) then (Option.bind (getI l7 n6) fun y4_7 => (Option.bind (getI l7 (wr (n6 - 1))) fun y4_12 => (Option.bind (F y4_7 y4_12) fun v4_14 => (bif decide (v4_14 < 0) then (Option.bind (getI (List.set l7 (Int.toNat n6) y4_12) (wr (n6 - 1))) fun y6_16 => some (.inl ((wr (n6 - 1)), (List.set (List.set l7 (Int.toNat n6) y4_12) (Int.toNat (wr (n6 - 1))) y4_7)))) else some (.inr l7))))) else some (.inr l7))) k ((P.length : Int), P ++ x :: R) = some (insN P x ++ R) := by
  have e := descend (τ := Int × List Sign) (ρ := List Sign) (body := (fun (⟨n6, l7⟩ : Int × List Sign) => (bif decide (n6 > 0) then (Option.bind (getI l7 n6) fun y4_7 => (Option.bind (getI l7 (wr (n6 - 1))) fun y4_12 => (Option.bind (F y4_7 y4_12) fun v4_14 => (bif decide (v4_14 < 0) then (Option.bind (getI (List.set l7 (Int.toNat n6) y4_12) (wr (n6 - 1))) fun y6_16 => some (.inl ((wr (n6 - 1)), (List.set (List.set l7 (Int.toNat n6) y4_12) (Int.toNat (wr (n6 - 1))) y4_7)))) else some (.inr l7))))) else some (.inr l7))))
    (fun q : Nat => ((q : Int), insAt x P q ++ R)) (fun q : Nat => insAt x P q ++ R) (aftN x P) P.length rfl (fun q hq => by
      have hy : P[q]? = some P[q] := List.getElem?_eq_getElem hq
      have hm := List.getElem_mem hq
      have w : wr (((q + 1 : Nat) : Int) - 1) = (q : Int) := by rw [wr_of (by omega) (by omega)]; try omega
      have d : decide (((q + 1 : Nat) : Int) > 0) = true := decide_eq_true (by omega)
      have hA : (P.take q).length = q := by rw [List.length_take]; omega
      have e1 : insAt x P (q + 1) ++ R = P.take q ++ P[q] :: x :: (P.drop (q + 1) ++ R) := by
        unfold insAt
        rw [List.take_succ_eq_append_getElem hq]
        simp only [List.append_assoc, List.singleton_append, List.cons_append, List.nil_append]
      have e2 : insAt x P q ++ R = P.take q ++ x :: P[q] :: (P.drop (q + 1) ++ R) := by
        unfold insAt
        rw [List.drop_eq_getElem_cons hq]
        simp only [List.append_assoc, List.singleton_append, List.cons_append, List.nil_append]
      have g1 := swap1 (P.take q) (P.drop (q + 1) ++ R) x P[q]
      have g2 := swap2 (P.take q) (P.drop (q + 1) ++ R) x P[q]
      have g3 := swap3 (P.take q) (P.drop (q + 1) ++ R) x P[q]
      have g4 := swap4 (P.take q) (P.drop (q + 1) ++ R) x P[q]
      have g5 : (P.take q ++ P[q] :: P[q] :: (P.drop (q + 1) ++ R))[q]? = some P[q] := by have := swap2 (P.take q) (P.drop (q + 1) ++ R) P[q] P[q]; rw [hA] at this; exact this
      rw [hA] at g1 g2 g3 g4
      simp only [d, cond_true, e1, getI_of g1, w, getI_of g2, bind_some, hF x P[q] (Or.inr rfl) (Or.inl hm), Int.toNat_natCast, g3, getI_of g5, g4, e2]
      have ea : aftN x P q = decide (cmpN (nS P[q]) (nS x) > 0) := by unfold aftN; rw [hy]
      rw [ea]
      rw [cmpN_anti (nS P[q]) (nS x), show decide (-cmpN (nS P[q]) (nS x) < 0) = decide (cmpN (nS P[q]) (nS x) > 0) by rw [decide_eq_decide]; omega]
      by_cases c : cmpN (nS P[q]) (nS x) > 0 <;> simp [c]) P.length k (Nat.le_refl _) (by omega)
  have e0 : insAt x P P.length = P ++ [x] := by unfold insAt; simp
  simp only [e0, List.append_assoc, List.singleton_append] at e
  exact e
theorem i_insertion {k : Nat} {F : Sign → Sign → Option Int} {l : List Sign} (hF : ∀ a b, a ∈ l → b ∈ l → F a b = some (cmpN (nS a) (nS b))) (hl : l.length ≤ 500) (hk : 2000 ≤ k) :
    X.slices_insertionSortCmpFunc_i_Sign k l 0 (l.length : Int) F = some (sortN l) := by
  unfold X.slices_insertionSortCmpFunc_i_Sign
  cases l with
  | nil =>
    obtain ⟨n, rfl⟩ : ∃ n, k = n + 1 := ⟨k - 1, by omega⟩
    rw [loopM_succ]
    rfl
  | cons y l' =>
    have hsub : ∀ (i : Nat) (P : List Sign), P = ((y :: l').take i).foldl insN [] → ∀ z ∈ P, z ∈ y :: l' := by
      have gen : ∀ (L P : List Sign), ∀ z ∈ L.foldl insN P, z ∈ P ∨ z ∈ L := by
        intro L
        induction L with
        | nil => intro P z hz; exact Or.inl hz
        | cons x L ih =>
          intro P z hz
          rcases ih _ z hz with h | h
          · rcases insN_mem h with h | h
            · exact Or.inl h
            · exact Or.inr (by rw [h]; exact List.mem_cons_self)
          · exact Or.inr (List.mem_cons_of_mem _ h)
      intro i P hP z hz
      rw [hP] at hz
      rcases gen _ _ z hz with h | h
      · cases h
      · exact List.mem_of_mem_take h
    have w1 : wr (0 + 1 : Int) = ((1 : Nat) : Int) := rfl
    rw [w1]
    have e := rng_loop (α := Sign) (τ := Int × List Sign) (ρ := List Sign) (body := (fun ⟨n1, l2⟩ => (bif decide (n1 < ((y :: l').length : Int)) then (Option.bind (loopM (fun ⟨n6, l7⟩ => (bif decide (n6 > 0) then (Option.bind (getI l7 n6) fun y4_7 => (Option.bind (getI l7 (wr (n6 - 1))) fun y4_12 => (Option.bind (F y4_7 y4_12) fun v4_14 => (bif decide (v4_14 < 0) then (Option.bind (getI (List.set l7 (Int.toNat n6) y4_12) (wr (n6 - 1))) fun y6_16 => some (.inl ((wr (n6 - 1)), (List.set (List.set l7 (Int.toNat n6) y4_12) (Int.toNat (wr (n6 - 1))) y4_7)))) else some (.inr l7))))) else some (.inr l7))) k (n1, l2)) fun l8 => some (.inl ((wr (n1 + 1)), l8))) else some (.inr l2))))
      (fun i P => ((i : Int), P ++ (y :: l').drop i)) (fun P => P) (fun _ x P => insN P x) (fun i P => P = ((y :: l').take i).foldl insN []) (y :: l') (fun i x P hx hv => by
        have hi := some_len hx
        have hPl : P.length = i := by rw [hv, foldIns_len, List.length_take]; simp only [List.length_nil]; omega
        have hxe : (y :: l')[i] = x := by rw [List.getElem?_eq_getElem hi] at hx; exact Option.some.inj hx
        refine ⟨?_, ?_⟩
        · have ed : (y :: l').drop i = x :: (y :: l').drop (i + 1) := by rw [List.drop_eq_getElem_cons hi, hxe]
          have hmx := mem_of hx
          have hms := hsub i P hv
          simp only [decL hi, cond_true, ed]
          have q := i_ins (k := k) (F := F) (P := P) (R := (y :: l').drop (i + 1)) (x := x) (fun a b ha hb => hF a b (by rcases ha with h | h; exact hms a h; rw [h]; exact hmx) (by rcases hb with h | h; exact hms b h; rw [h]; exact hmx)) (by rw [List.length_drop]; omega) hk
          rw [hPl] at q
          rw [q, bind_some, wr_suc (by omega)]
        · rw [List.take_succ_eq_append_getElem hi, List.foldl_append, ← hv, hxe]
          rfl) (fun P hv => by
        simp only [decE, cond_false]
        rw [List.drop_length, List.append_nil]) l' 1 k (insN [] y) rfl (by simp) rfl (by simp only [List.length_cons] at hl; omega)
    have e2 : insN [] y ++ (y :: l').drop 1 = y :: l' := rfl
    rw [e2] at e
    refine (congrArg (fun o => Option.bind o _) e.1).trans ?_
    have hv := e.2
    rw [List.take_length] at hv
    rw [bind_some, hv]
    rfl
theorem i_Sort_eq {k : Nat} {l : List Sign} (hs : ∀ s ∈ l, smallS s) (hk : 2010 ≤ k) : X.i_SortSigns k l = some (vSort l) := by
  unfold X.i_SortSigns vSort
  rw [i_areSigns_eq hs (by omega), show ((16 : Int)) = ((16 : Nat) : Int) from rfl, len16]
  cases h1 : l.all gSign <;> cases h2 : decide (l.length ≤ 16) <;> simp only [Bool.true_and, Bool.false_and, Bool.and_true, Bool.and_false, Bool.and_self, Bool.not_true, Bool.not_false, cond_true, cond_false, bind_some, if_true, Bool.false_eq_true, if_false]
  have hg : ∀ s ∈ l, gSign s = true := by simpa using h1
  have hn : l.length ≤ 16 := by simpa using h2
  have hF : ∀ a b, a ∈ l → b ∈ l → X.i_SortSigns_1 k a b = some (cmpN (nS a) (nS b)) := by
    intro a b ha hb
    unfold X.i_SortSigns_1
    rw [i_normal_eq (hg a ha) (by omega), bind_some, i_normal_eq (hg b hb) (by omega), bind_some, i_cmp_eq (hg a ha) (hg b hb)]
    rfl
  unfold X.slices_Clone_i_Sign_i_Sign X.slices_SortStableFunc_i_Sign_i_Sign X.slices_stableCmpFunc_i_Sign
  rw [appS (by simp; omega), bind_some, List.nil_append]
  obtain ⟨n, rfl⟩ : ∃ n, k = n + 1 := ⟨k - 1, by omega⟩
  have d1 : decide ((20 : Int) ≤ (l.length : Int)) = false := by simp; omega
  have d2 : decide ((20 : Int) < (l.length : Int)) = false := by simp; omega
  have q := i_insertion hF (by omega) (show 2000 ≤ n + 1 by omega)
  simp only [loopM_succ, d1, d2, cond_false, bind_some, q]
theorem vSort_len (l : List Sign) : (vSort l).1.length ≤ l.length := by
  unfold vSort
  split
  · rw [sortN_len]; exact Nat.le_refl _
  · simp
theorem Pure.FnExactSortSigns (l : List Sign) (o_l : okL okSign l) : X.l_FnExactSortSigns 3000000 l = some true := by
  unfold X.l_FnExactSortSigns
  obtain ⟨r0, hr0, d0⟩ := szSignS_eq (l := l) (z := 1048576) o_l (by omega) (by omega)
  rw [hr0, bind_some]
  rcases d0 with d0 | ⟨n_l, h_l, p0, q0⟩
  · have : decide (r0 < 0) = true := by simpa using d0
    rw [this]
    rfl
  have e0 : decide (r0 < 0) = false := by simpa using p0
  rw [e0, cond_false]
  have hvl : (vSort l).1.length ≤ 1048576 := (Nat.le_trans (vSort_len l) n_l)
  have hpr : decide (1 + 27 * ((vSort l).1.length : Int) < 0) = false := by simp; omega
  have hpa : decide (1 + 27 * (l.length : Int) < 0) = false := by simp; omega
  simp only [toSignS_eq n_l,
    eqSignS_eq n_l,
    bind_some,
    i_Sort_eq h_l (show 2010 ≤ 3000000 by omega),
    s_Sort_eq h_l (show 2000010 ≤ 3000000 by omega),
    eqSignS_eq hvl,
    markSignS_eq (show (0 : Int) ≤ 1 by omega) (show (1 : Int) ≤ 1000000000000 by omega) hvl,
    heldSignS_eq (show (0 : Int) ≤ 1 by omega) (show (1 : Int) ≤ 1000000000000 by omega) hvl,
    hpr,
    markSignS_eq (k := 1) (show (0 : Int) ≤ 1 by omega) (show (1 : Int) ≤ 1000000000000 by omega) n_l,
    hpa]
  simp
end Go.Proofs.XC
