/- Plain laws of the plain functions: no program, no memory. By AI agents; no person has read it. -/
import Derived.Test.YtaoeiaoenjilbaaGreatDoorPR5
import Derived.Test.YtaoeiaoenjilbaaGreatDoorX2
set_option linter.unusedVariables false
set_option linter.unusedSimpArgs false
set_option maxRecDepth 100000
set_option maxHeartbeats 40000000
namespace Go.Proofs.XC
open Go Go.RowKit
/-! ### slices.DeleteFunc keeps what the test does not want gone -/
theorem del_loop {α : Type} {F : α → Option Bool} (p : α → Bool) (zs : List α) (hF : ∀ x ∈ zs, F x = some (p x)) (hn : zs.length ≤ 1000000) (i0 fu : Nat) (hi : zs.findIdx? p = some i0) (hf : zs.length < fu) :
    ∃ (i : Nat) (l : List α), loopM (fun (⟨n1, n2, l3⟩ : Int × Int × List α) => (bif decide (n2 < (List.length zs : Int)) then (Option.bind (getI l3 n2) fun y7_2 => (Option.bind (F y7_2) fun v8_2 => (bif (!v8_2) then (Option.bind (getI l3 n1) fun y9_3 => some (.inl ((wr (n1 + 1)), (wr (n2 + 1)), (List.set l3 (Int.toNat n1) y7_2)))) else some (.inl (n1, (wr (n2 + 1)), l3))))) else some (.inr (n1, l3)))) fu ((i0 : Int), (wr ((i0 : Int) + 1)), zs) = some ((i : Int), l) ∧ i < l.length ∧ l.take i = zs.filter (fun x => !(p x)) := by
  obtain ⟨h1, h2, h3⟩ := List.findIdx?_eq_some_iff_getElem.1 hi
  have q := rng_loop (α := α) (τ := Int × Int × List α) (ρ := Int × List α) (body := fun (⟨n1, n2, l3⟩ : Int × Int × List α) => (bif decide (n2 < (List.length zs : Int)) then (Option.bind (getI l3 n2) fun y7_2 => (Option.bind (F y7_2) fun v8_2 => (bif (!v8_2) then (Option.bind (getI l3 n1) fun y9_3 => some (.inl ((wr (n1 + 1)), (wr (n2 + 1)), (List.set l3 (Int.toNat n1) y7_2)))) else some (.inl (n1, (wr (n2 + 1)), l3))))) else some (.inr (n1, l3))))
    (fun q (s : Nat × List α) => ((s.1 : Int), (q : Int), s.2)) (fun s => ((s.1 : Int), s.2)) (fun _ x s => if p x then s else (s.1 + 1, s.2.set s.1 x))
    (fun q s => s.1 < q ∧ s.2.length = zs.length ∧ s.2.take s.1 = (zs.take q).filter (fun x => !(p x)) ∧ ∀ t, q ≤ t → s.2[t]? = zs[t]?) zs (fun q x s hx hv => by
      obtain ⟨a, b, c, d⟩ := hv
      have hq := some_len hx
      have hxe : zs[q] = x := by rw [List.getElem?_eq_getElem hq] at hx; exact Option.some.inj hx
      have hy : s.2[q]? = some x := by rw [d q (Nat.le_refl _)]; exact hx
      have hz : s.2[s.1]? = some (s.2[s.1]'(by omega)) := List.getElem?_eq_getElem (by omega)
      have ht : zs.take (q + 1) = zs.take q ++ [x] := by rw [List.take_succ_eq_append_getElem hq, hxe]
      simp only [decL hq, cond_true, getI_of hy, getI_of hz, bind_some, hF x (mem_of hx), wr_suc (show q ≤ 4611686018427387904 by omega), wr_suc (show s.1 ≤ 4611686018427387904 by omega), Int.toNat_natCast]
      cases hp : p x
      · refine ⟨rfl, ?_⟩
        simp only [Bool.false_eq_true, if_false]
        refine ⟨by omega, by rw [List.length_set]; exact b, ?_, fun t ht' => ?_⟩
        · rw [ht, List.filter_append, ← c, List.take_succ_eq_append_getElem (by rw [List.length_set]; omega), List.getElem_set_self, List.take_set_of_le (Nat.le_refl _)]
          simp [hp]
        · rw [List.getElem?_set_ne (by omega)]
          exact d t (by omega)
      · refine ⟨rfl, ?_⟩
        simp only [if_true]
        refine ⟨by omega, b, ?_, fun t ht' => d t (by omega)⟩
        rw [ht, List.filter_append, ← c]
        simp [hp]) (fun s _ => by simp only [decE, cond_false]) (zs.drop (i0 + 1)) (i0 + 1) fu (i0, zs) rfl (by omega) ⟨by simp, rfl, by
      rw [List.take_succ_eq_append_getElem h1, List.filter_append]
      have e1 : [zs[i0]].filter (fun x => !(p x)) = [] := by simp [h2]
      have e2 : (zs.take i0).filter (fun x => !(p x)) = zs.take i0 := by
        rw [List.filter_eq_self]
        intro y hy
        obtain ⟨j, hj, rfl⟩ := List.mem_iff_getElem.1 hy
        rw [List.length_take] at hj
        rw [List.getElem_take]
        have := h3 j (by omega)
        simpa using this
      rw [e1, e2, List.append_nil], fun t _ => rfl⟩ (by have := drop_le zs (i0 + 1); omega)
  obtain ⟨q1, a, b, c, _⟩ := q
  rw [wr_suc (show i0 ≤ 4611686018427387904 by omega)]
  rw [List.take_length] at c
  exact ⟨_, _, q1, by omega, c⟩
theorem delete_str {k : Nat} {F : Str → Option Bool} (p : Str → Bool) (zs : List Str) (hF : ∀ x ∈ zs, F x = some (p x)) (hn : zs.length ≤ 1000000) (hk : zs.length < k) : X.slices_DeleteFunc_string_string k zs F = some (zs.filter fun x => !(p x)) := by
  unfold X.slices_DeleteFunc_string_string X.slices_IndexFunc_string_string
  rw [find_eq p F zs 0 hF]
  cases hi : zs.findIdx? p with
  | none =>
    rw [List.findIdx?_eq_none_iff] at hi
    have e : (zs.filter fun x => !(p x)) = zs := by
      rw [List.filter_eq_self]
      intro y hy
      simp [hi y hy]
    rw [e]
    rfl
  | some i0 =>
    simp only [orEl_inl, bind_some, Nat.zero_add]
    have hne : (((i0 : Nat) : Int) == (-1)) = false := by simp
    rw [hne, cond_false]
    obtain ⟨i, l, h1, h2, h3⟩ := del_loop p zs hF hn i0 k hi hk
    refine (congrArg (fun o => Option.bind o _) h1).trans ?_
    have hc : cutS l 0 (i : Int) = some (l.take i) := by
      unfold cutS
      rw [if_pos (by omega)]
      simp
    simp only [bind_some, hc, decL h2, cond_true, h3]
/-! #### Glosses that a region lacks -/
def vMiss (l : List Entry) (r : Int) : List Str × Bool := if gEntries l && inR r 0 5 then ((glo l).filter (fun g => decide (vFor l g r < 0)), true) else ([], false)
theorem i_Miss_eq {k : Nat} {l : List Entry} (r : Int) (hs : ∀ x ∈ l, smallE x) (hl : l.length ≤ 1048576) (hk : 1000 ≤ k) : X.i_MissingIn k l r = some (vMiss l r) := by
  unfold X.i_MissingIn vMiss
  rw [i_AreEntries_eq hs (by omega) (by omega), bind_some, i_within_eq]
  cases h : gEntries l <;> cases h3 : inR r 0 5 <;> simp only [Bool.true_and, Bool.false_and, Bool.and_true, Bool.and_false, Bool.and_self, Bool.not_true, Bool.not_false, cond_true, cond_false, bind_some, if_true, Bool.false_eq_true, if_false]
  obtain ⟨hn, hu⟩ := gEntries_uses h
  have hg := glo_len l
  rw [i_glossesOf_eq hn, bind_some, delete_str (fun g => decide (vFor l g r ≥ 0)) (glo l) (fun g _ => by
    unfold X.i_MissingIn_1
    rw [i_entryFor_eq]
    rfl) (by omega) (by omega), bind_some]
  congr 3
  funext g
  by_cases c : vFor l g r < 0
  · have c2 : ¬ vFor l g r ≥ 0 := by omega
    simp [c]
  · have c2 : vFor l g r ≥ 0 := by omega
    simp [c]
    omega
theorem s_Miss_eq {k : Nat} {l : List Entry} (r : Int) (hs : ∀ x ∈ l, smallE x) (hl : l.length ≤ 1048576) (hk : 2000010 ≤ k) : X.s_MissingIn k l r = some (vMiss l r) := by
  unfold X.s_MissingIn X.s_enRegion vMiss
  rw [s_enGood_eq hs (by omega) hk, bind_some, s_l1In_eq]
  cases h : gEntries l <;> cases h3 : inR r 0 5 <;> simp only [Bool.true_and, Bool.false_and, Bool.and_true, Bool.and_false, Bool.and_self, Bool.not_true, Bool.not_false, cond_true, cond_false, bind_some, if_true, Bool.false_eq_true, if_false]
  obtain ⟨hn, hu⟩ := gEntries_uses h
  have hg := glo_len l
  rw [s_enNames_eq hn, bind_some]
  have key : ∀ (L : List Str) (j : Nat) (acc : List Str), rng (fun (_ : Nat) g acc => if vFor l g r < 0 then acc ++ [g] else acc) L j acc = acc ++ L.filter (fun g => decide (vFor l g r < 0)) := by
    intro L
    induction L with
    | nil => intro j acc; simp [rng]
    | cons x L ih =>
      intro j acc
      rw [rng, ih, List.filter_cons]
      by_cases c : vFor l x r < 0 <;> simp [c]
  rw [(rng_range (fun (_ : Nat) g acc => if vFor l g r < 0 then acc ++ [g] else acc) (fun i acc => acc.length ≤ i) (glo l) (fun i g acc hx hv => by
    have hi := some_len hx
    refine ⟨?_, by split; (rw [List.length_append, List.length_singleton]; omega); omega⟩
    rw [s_enFor_eq l g r (entries_sorted h), bind_some, appT (by simp; omega)]
    by_cases c : vFor l g r < 0 <;> simp [c, bind_some]) (glo l) 0 [] rfl (by simp)).1, bind_some, key, List.nil_append]
theorem vMiss_len (l : List Entry) (r : Int) : (vMiss l r).1.length ≤ l.length := by
  unfold vMiss
  split
  · exact Nat.le_trans (List.length_filter_le _ _) (glo_len l)
  · simp
theorem Pure.FnExactMissingIn (l : List Entry) (o_l : okL okEntry l) (r : Int) (o_r : okI r) : X.l_FnExactMissingIn 3000000 l r = some true := by
  unfold X.l_FnExactMissingIn
  obtain ⟨r0, hr0, d0⟩ := szEntryS_eq (l := l) (z := 1048576) o_l (by omega) (by omega)
  rw [hr0, bind_some]
  rcases d0 with d0 | ⟨n_l, h_l, p0, q0⟩
  · have : decide (r0 < 0) = true := by simpa using d0
    rw [this]
    rfl
  have e0 : decide (r0 < 0) = false := by simpa using p0
  rw [e0, cond_false]
  have hvl : (vMiss l r).1.length ≤ 1048576 := (Nat.le_trans (vMiss_len l r) n_l)
  have hpr : decide (1 + 1 * ((vMiss l r).1.length : Int) < 0) = false := by simp; omega
  have hpa : decide (1 + 30 * (l.length : Int) < 0) = false := by simp; omega
  simp only [toEntryS_eq n_l,
    eqEntryS_eq n_l,
    bind_some,
    i_Miss_eq r h_l n_l (show 1000 ≤ 3000000 by omega),
    s_Miss_eq r h_l n_l (show 2000010 ≤ 3000000 by omega),
    eqStringS_eq hvl,
    markStringS_eq (show (0 : Int) ≤ 1 by omega) (show (1 : Int) ≤ 1000000000000 by omega) hvl,
    heldStringS_eq (show (0 : Int) ≤ 1 by omega) (show (1 : Int) ≤ 1000000000000 by omega) hvl,
    hpr,
    markEntryS_eq (k := 1) (show (0 : Int) ≤ 1 by omega) (show (1 : Int) ≤ 1000000000000 by omega) n_l,
    hpa]
  simp
end Go.Proofs.XC
