/- Plain laws of the plain functions: no program, no memory. By AI agents; no person has read it. -/
import Derived.Test.YtcniidjoaancoaaGreatDoorPZ1
import Derived.Test.YtcniidjoaancoaaGreatDoorX2
set_option linter.unusedVariables false
set_option linter.unusedSimpArgs false
set_option maxRecDepth 100000
set_option maxHeartbeats 40000000
namespace Go.Proofs.XC
open Go Go.RowKit
/-! ### Folds with an index; the loops that make them -/
def rng {α σ : Type} (g : Nat → α → σ → σ) : List α → Nat → σ → σ
  | [], _, s => s
  | x :: l, i, s => rng g l (i + 1) (g i x s)
theorem rng_map {α β σ : Type} (g : Nat → β → σ → σ) (h : α → β) : ∀ (l : List α) (j : Nat) (s : σ), rng g (l.map h) j s = rng (fun i x s => g i (h x) s) l j s
  | [], _, _ => rfl
  | x :: l, j, s => by rw [List.map_cons, rng, rng]; exact rng_map g h l (j + 1) _
theorem rng_range {α σ ρ : Type} {body : Int → α → σ → Option (σ ⊕ ρ)} {fin : σ → Option ρ} (g : Nat → α → σ → σ) (inv : Nat → σ → Prop) (L : List α)
    (h1 : ∀ i x s, L[i]? = some x → inv i s → body (i : Int) x s = some (.inl (g i x s)) ∧ inv (i + 1) (g i x s)) :
    ∀ (l : List α) (j : Nat) (s : σ), L.drop j = l → inv j s → rangeM body fin l j s = fin (rng g l j s) ∧ inv (j + l.length) (rng g l j s)
  | [], j, s, _, hv => ⟨rfl, hv⟩
  | x :: l, j, s, hd, hv => by
    have hx : L[j]? = some x := by
      have := congrArg (fun l => l[0]?) hd
      simpa using this
    have hd' : L.drop (j + 1) = l := by rw [← List.drop_drop (i := 1) (j := j), hd]; rfl
    obtain ⟨a, b⟩ := h1 j x s hx hv
    rw [rangeM_cons, a, bind_some, rng, List.length_cons, show j + (l.length + 1) = j + 1 + l.length by omega]
    exact rng_range g inv L h1 l (j + 1) _ hd' b
theorem rng_rangeM {α σ τ ρ : Type} (mk : σ → τ) {body : Int → α → τ → Option (τ ⊕ ρ)} {fin : τ → Option ρ} (g : Nat → α → σ → σ) (inv : Nat → σ → Prop) (L : List α)
    (h1 : ∀ i x s, L[i]? = some x → inv i s → body (i : Int) x (mk s) = some (.inl (mk (g i x s))) ∧ inv (i + 1) (g i x s)) :
    ∀ (l : List α) (j : Nat) (s : σ), L.drop j = l → inv j s → rangeM body fin l j (mk s) = fin (mk (rng g l j s)) ∧ inv (j + l.length) (rng g l j s)
  | [], j, s, _, hv => ⟨rfl, hv⟩
  | x :: l, j, s, hd, hv => by
    have hx : L[j]? = some x := by
      have := congrArg (fun l => l[0]?) hd
      simpa using this
    have hd' : L.drop (j + 1) = l := by rw [← List.drop_drop (i := 1) (j := j), hd]; rfl
    obtain ⟨a, b⟩ := h1 j x s hx hv
    rw [rangeM_cons, a, bind_some, rng, List.length_cons, show j + (l.length + 1) = j + 1 + l.length by omega]
    exact rng_rangeM mk g inv L h1 l (j + 1) _ hd' b
theorem rng_loop {α σ τ ρ : Type} {body : τ → Option (τ ⊕ ρ)} (mk : Nat → σ → τ) (fin : σ → ρ) (g : Nat → α → σ → σ) (inv : Nat → σ → Prop) (L : List α)
    (h1 : ∀ i x s, L[i]? = some x → inv i s → body (mk i s) = some (.inl (mk (i + 1) (g i x s))) ∧ inv (i + 1) (g i x s))
    (h2 : ∀ s, inv L.length s → body (mk L.length s) = some (.inr (fin s))) :
    ∀ (r : List α) (i fu : Nat) (s : σ), L.drop i = r → i ≤ L.length → inv i s → r.length < fu → loopM body fu (mk i s) = some (fin (rng g r i s)) ∧ inv L.length (rng g r i s) := by
  intro r
  induction r with
  | nil =>
    intro i fu s hd hl hv hf
    have hle : L.length ≤ i := List.drop_eq_nil_iff.1 hd
    have : i = L.length := by omega
    subst this
    obtain ⟨n, rfl⟩ : ∃ n, fu = n + 1 := ⟨fu - 1, by simp at hf; omega⟩
    rw [loopM_succ, h2 s hv]
    exact ⟨rfl, hv⟩
  | cons x r ih =>
    intro i fu s hd hl hv hf
    have hlt : i < L.length := by
      rcases Nat.lt_or_ge i L.length with h | h
      · exact h
      · rw [List.drop_eq_nil_of_le h] at hd; cases hd
    have hx : L[i]? = some x := by
      have := congrArg (fun l => l[0]?) hd
      simpa using this
    have hd' : L.drop (i + 1) = r := by rw [← List.drop_drop (i := 1) (j := i), hd]; rfl
    obtain ⟨n, rfl⟩ : ∃ n, fu = n + 1 := ⟨fu - 1, by omega⟩
    obtain ⟨a, b⟩ := h1 i x s hx hv
    rw [loopM_succ, a, bind_some, rng]
    exact ih (i + 1) n _ hd' (by omega) b (by simp at hf; omega)
theorem some_len {α : Type} {L : List α} {i : Nat} {x : α} (h : L[i]? = some x) : i < L.length := by
  rcases Nat.lt_or_ge i L.length with h1 | h1
  · exact h1
  · rw [List.getElem?_eq_none h1] at h; cases h
theorem mem_of {α : Type} {L : List α} {i : Nat} {x : α} (h : L[i]? = some x) : x ∈ L := List.mem_of_getElem? h
theorem drop_le {α : Type} (L : List α) (i : Nat) : (L.drop i).length ≤ L.length := by simp
theorem decL {i n : Nat} (h : i < n) : decide ((i : Int) < (n : Int)) = true := by simp; omega
theorem decE (n : Nat) : decide ((n : Int) < (n : Int)) = false := by simp
/-! ### slices.DeleteFunc keeps what the test does not want gone -/
theorem del_loop {α : Type} {F : α → Option Bool} (p : α → Bool) (zs : List α) (hF : ∀ x ∈ zs, F x = some (p x)) (hn : zs.length ≤ 1000000) (i0 fu : Nat) (hi : zs.findIdx? p = some i0) (hf : zs.length < fu) :
    ∃ (i : Nat) (l : List α), loopM (fun (⟨n1, n2, l3⟩ : Int × Int × List α) => (bif decide (n2 < (List.length zs : Int)) then (Option.bind (getI l3 n2) fun y7_2 => (Option.bind (F y7_2) fun v8_2 => (bif (!v8_2) then (Option.bind (getI l3 n1) fun y9_3 => some (.inl ((wr (n1 + 1)), (wr (n2 + 1)), (List.set l3 (Int.toNat n1) y7_2)))) else some (.inl (n1, (wr (n2 + 1)), l3))))) else some (.inr (n1, l3)))) fu ((i0 : Int), (wr ((i0 : Int) + 1)), zs) = some ((i : Int), l) ∧ i < l.length ∧ l.take i = zs.filter (fun x => !(p x)) := by
  obtain ⟨h1, h2, h3⟩ := List.findIdx?_eq_some_iff_getElem.1 hi
  have q := rng_loop (α := α) (τ := Int × Int × List α) (ρ := Int × List α) (body := fun (⟨n1, n2, l3⟩ : Int × Int × List α) => (bif decide (n2 < (List.length zs : Int)) then (Option.bind (getI l3 n2) fun y7_2 => (Option.bind (F y7_2) fun v8_2 => (bif (!v8_2) then (Option.bind (getI l3 n1) fun y9_3 => some (.inl ((wr (n1 + 1)), (wr (n2 + 1)), (List.set l3 (Int.toNat n1) y7_2)))) else some (.inl (n1, (wr (n2 + 1)), l3))))) else some (.inr (n1, l3))))
    (fun q (s : Nat × List α) => ((s.1 : Int), (q : Int), s.2)) (fun s => ((s.1 : Int), s.2)) (fun _ x s => if p x then s else (s.1 + 1, s.2.set s.1 x))
    (fun q s => s.1 < q ∧ s.2.length = zs.length ∧ s.2.take s.1 = (zs.take q).filter (fun x => !(p x)) ∧ ∀ t, q ≤ t → s.2[t]? = zs[t]?) zs (fun q x s hx hv => by
      obtain ⟨a, b, c, d⟩ := hv
      have hq := some_len hx
      have hxe : zs[q] = x := by rw [List.getElem?_eq_getElem hq] at hx; exact Option.some.inj hx
      have hy : s.2[q]? = some x := by rw [d q (Nat.le_refl _)]; exact hx
      have hz : s.2[s.1]? = some (s.2[s.1]'(by omega)) := List.getElem?_eq_getElem (by omega)
      have ht : zs.take (q + 1) = zs.take q ++ [x] := by rw [List.take_succ_eq_append_getElem hq, hxe]
      simp only [decL hq, cond_true, getI_of hy, getI_of hz, bind_some, hF x (mem_of hx), wr_suc (show q ≤ 4611686018427387904 by omega), wr_suc (show s.1 ≤ 4611686018427387904 by omega), Int.toNat_natCast]
      cases hp : p x
      · refine ⟨rfl, ?_⟩
        simp only [Bool.false_eq_true, if_false]
        refine ⟨by omega, by rw [List.length_set]; exact b, ?_, fun t ht' => ?_⟩
        · rw [ht, List.filter_append, ← c, List.take_succ_eq_append_getElem (by rw [List.length_set]; omega), List.getElem_set_self, List.take_set_of_le (Nat.le_refl _)]
          simp [hp]
        · rw [List.getElem?_set_ne (by omega)]
          exact d t (by omega)
      · refine ⟨rfl, ?_⟩
        simp only [if_true]
        refine ⟨by omega, b, ?_, fun t ht' => d t (by omega)⟩
        rw [ht, List.filter_append, ← c]
        simp [hp]) (fun s _ => by simp only [decE, cond_false]) (zs.drop (i0 + 1)) (i0 + 1) fu (i0, zs) rfl (by omega) ⟨by simp, rfl, by
      rw [List.take_succ_eq_append_getElem h1, List.filter_append]
      have e1 : [zs[i0]].filter (fun x => !(p x)) = [] := by simp [h2]
      have e2 : (zs.take i0).filter (fun x => !(p x)) = zs.take i0 := by
        rw [List.filter_eq_self]
        intro y hy
        obtain ⟨j, hj, rfl⟩ := List.mem_iff_getElem.1 hy
        rw [List.length_take] at hj
        rw [List.getElem_take]
        have := h3 j (by omega)
        simpa using this
      rw [e1, e2, List.append_nil], fun t _ => rfl⟩ (by have := drop_le zs (i0 + 1); omega)
  obtain ⟨q1, a, b, c, _⟩ := q
  rw [wr_suc (show i0 ≤ 4611686018427387904 by omega)]
  rw [List.take_length] at c
  exact ⟨_, _, q1, by omega, c⟩
theorem delete_ent {k : Nat} {F : Entry → Option Bool} (p : Entry → Bool) (zs : List Entry) (hF : ∀ x ∈ zs, F x = some (p x)) (hn : zs.length ≤ 1000000) (hk : zs.length < k) : X.slices_DeleteFunc_i_Entry_i_Entry k zs F = some (zs.filter fun x => !(p x)) := by
  unfold X.slices_DeleteFunc_i_Entry_i_Entry X.slices_IndexFunc_i_Entry_i_Entry
  rw [find_eq p F zs 0 hF]
  cases hi : zs.findIdx? p with
  | none =>
    rw [List.findIdx?_eq_none_iff] at hi
    have e : (zs.filter fun x => !(p x)) = zs := by
      rw [List.filter_eq_self]
      intro y hy
      simp [hi y hy]
    rw [e]
    rfl
  | some i0 =>
    simp only [orEl_inl, bind_some, Nat.zero_add]
    have hne : (((i0 : Nat) : Int) == (-1)) = false := by simp
    rw [hne, cond_false]
    obtain ⟨i, l, h1, h2, h3⟩ := del_loop p zs hF hn i0 k hi hk
    refine (congrArg (fun o => Option.bind o _) h1).trans ?_
    have hc : cutS l 0 (i : Int) = some (l.take i) := by
      unfold cutS
      rw [if_pos (by omega)]
      simp
    simp only [bind_some, hc, decL h2, cond_true, h3]
/-! ### Entries without those of a region -/
theorem appE {l m : List Entry} (h : l.length + m.length ≤ 100000) : appG nEntry l m = some (l ++ m) := by
  unfold appG
  have hby : nEntry.by_ = 264 := rfl
  rw [if_pos]
  rw [hby]
  omega
theorem gEntries_len {l : List Entry} (h : gEntries l = true) : l.length ≤ 16 := by
  unfold gEntries at h
  rw [Bool.and_eq_true] at h
  simpa using h.2
def vDrop (l : List Entry) (r : Int) : List Entry × Bool := if gEntries l && inR r 1 5 then (l.filter (fun e => !(decide (e.Region = r))), true) else ([], false)
theorem i_Drop_eq {k : Nat} {l : List Entry} (r : Int) (hs : ∀ x ∈ l, smallE x) (hl : l.length ≤ 1048576) (hk : 1000 ≤ k) : X.i_DropRegion k l r = some (vDrop l r) := by
  unfold X.i_DropRegion vDrop
  rw [i_AreEntries_eq hs (by omega) (by omega), bind_some, i_within_eq]
  cases h : gEntries l <;> cases h3 : inR r 1 5 <;> simp only [Bool.true_and, Bool.false_and, Bool.and_true, Bool.and_false, Bool.and_self, Bool.not_true, Bool.not_false, cond_true, cond_false, bind_some, if_true, Bool.false_eq_true, if_false]
  have hn := gEntries_len h
  unfold X.slices_Clone_i_Entry_i_Entry
  rw [appE (by simp; omega), bind_some, List.nil_append, delete_ent (fun e => decide (e.Region = r)) l (fun e _ => by
    unfold X.i_DropRegion_1
    rw [beq_dec]) (by omega) (by omega), bind_some]
theorem s_Drop_eq {k : Nat} {l : List Entry} (r : Int) (hs : ∀ x ∈ l, smallE x) (hl : l.length ≤ 1048576) (hk : 2000010 ≤ k) : X.s_DropRegion k l r = some (vDrop l r) := by
  unfold X.s_DropRegion vDrop
  rw [s_enGood_eq hs (by omega) hk, bind_some, s_l1In_eq]
  cases h : gEntries l <;> cases h3 : inR r 1 5 <;> simp only [Bool.true_and, Bool.false_and, Bool.and_true, Bool.and_false, Bool.and_self, Bool.not_true, Bool.not_false, cond_true, cond_false, bind_some, if_true, Bool.false_eq_true, if_false]
  have hn := gEntries_len h
  have key : ∀ (L : List Entry) (j : Nat) (acc : List Entry), rng (fun (_ : Nat) (e : Entry) acc => if e.Region = r then acc else acc ++ [e]) L j acc = acc ++ L.filter (fun e => !(decide (e.Region = r))) := by
    intro L
    induction L with
    | nil => intro j acc; simp [rng]
    | cons x L ih =>
      intro j acc
      rw [rng, ih, List.filter_cons]
      by_cases c : x.Region = r <;> simp [c]
  rw [(rng_range (fun (_ : Nat) (e : Entry) acc => if e.Region = r then acc else acc ++ [e]) (fun i acc => acc.length ≤ i) l (fun i e acc hx hv => by
    have hi := some_len hx
    refine ⟨?_, by split; omega; (rw [List.length_append, List.length_singleton]; omega)⟩
    rw [appE (by simp; omega)]
    by_cases c : e.Region = r
    · have cb : (e.Region != r) = false := by simp [c]
      simp [c]
    · have cb : (e.Region != r) = true := by simp [c]
      rw [cb]
      simp [c, bind_some]) l 0 [] rfl (by simp)).1, bind_some, key, List.nil_append]
theorem vDrop_len (l : List Entry) (r : Int) : (vDrop l r).1.length ≤ l.length := by
  unfold vDrop
  split
  · exact List.length_filter_le _ _
  · simp
theorem heldEntryS_eq {n : Nat} {k : Int} (hk0 : 0 ≤ k) (hk : k ≤ 1000000000000) (hlen : n ≤ 1048576) : X.l_heldEntryS 3000000 (mks mkEntry 30 k n) k = some (k + 30 * (n : Int)) := by
  unfold X.l_heldEntryS
  rw [held_gen mkEntry (c := 30) (n := n) (by omega) (by omega) hk0 hk hlen (by omega) ?_ ?_]
  · rfl
  · intro i q h0 h1 hi hy
    have hd : decide ((i : Int) < ((mks mkEntry 30 k n).length : Int)) = true := by rw [mks_len]; simp; omega
    have hw : (wr ((wr ((wr ((wr ((wr ((wr ((wr ((wr ((wr ((wr ((wr ((wr ((wr ((wr ((wr ((wr ((wr ((wr ((wr ((wr ((wr ((wr ((wr ((wr ((wr ((wr ((wr ((wr ((wr ((wr (q + 1)) + 1)) + 1)) + 1)) + 1)) + 1)) + 1)) + 1)) + 1)) + 1)) + 1)) + 1)) + 1)) + 1)) + 1)) + 1)) + 1)) + 1)) + 1)) + 1)) + 1)) + 1)) + 1)) + 1)) + 1)) + 1)) + 1)) + 1)) + 1)) + 1)) = q + 30 := by
      simp (disch := omega) only [wr_up]
      omega
    simp only [hd, cond_true, getI_of hy, bind_some, mt_wr, mt_of (show q ≤ 9223372036854775807 by omega), wr_suc (show i ≤ 4611686018427387904 by omega), mkEntry, ne_i, ne_b, ne_s, cond_false]
    rw [hw]
  · intro q
    have hd : decide ((n : Int) < ((mks mkEntry 30 k n).length : Int)) = false := by rw [mks_len]; simp
    simp only [hd, cond_false]
theorem Pure.FnExactDropRegion (l : List Entry) (o_l : okL okEntry l) (r : Int) (o_r : okI r) : X.l_FnExactDropRegion 3000000 l r = some true := by
  unfold X.l_FnExactDropRegion
  obtain ⟨r0, hr0, d0⟩ := szEntryS_eq (l := l) (z := 1048576) o_l (by omega) (by omega)
  rw [hr0, bind_some]
  rcases d0 with d0 | ⟨n_l, h_l, p0, q0⟩
  · have : decide (r0 < 0) = true := by simpa using d0
    rw [this]
    rfl
  have e0 : decide (r0 < 0) = false := by simpa using p0
  rw [e0, cond_false]
  have hvl : (vDrop l r).1.length ≤ 1048576 := (Nat.le_trans (vDrop_len l r) n_l)
  have hpr : decide (1 + 30 * ((vDrop l r).1.length : Int) < 0) = false := by simp; omega
  have hpa : decide (1 + 30 * (l.length : Int) < 0) = false := by simp; omega
  simp only [toEntryS_eq n_l,
    eqEntryS_eq n_l,
    bind_some,
    i_Drop_eq r h_l n_l (show 1000 ≤ 3000000 by omega),
    s_Drop_eq r h_l n_l (show 2000010 ≤ 3000000 by omega),
    eqEntryS_eq hvl,
    markEntryS_eq (show (0 : Int) ≤ 1 by omega) (show (1 : Int) ≤ 1000000000000 by omega) hvl,
    heldEntryS_eq (show (0 : Int) ≤ 1 by omega) (show (1 : Int) ≤ 1000000000000 by omega) hvl,
    hpr,
    markEntryS_eq (k := 1) (show (0 : Int) ≤ 1 by omega) (show (1 : Int) ≤ 1000000000000 by omega) n_l,
    hpa]
  simp
end Go.Proofs.XC
