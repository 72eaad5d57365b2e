/- Plain laws of the plain functions: no program, no memory. By AI agents; no person has read it. -/
import Derived.Test.YtjnablhfhdedfaaGreatDoorPZ1
import Derived.Test.YtjnablhfhdedfaaGreatDoorPZ8
import Derived.Sort.Walk0
import Derived.Test.YtjnablhfhdedfaaGreatDoorX2
set_option linter.unusedVariables false
set_option linter.unusedSimpArgs false
set_option maxRecDepth 100000
set_option maxHeartbeats 40000000
namespace Go.Proofs.XC
open Go Go.RowKit
theorem len0 {α : Type} (l : List α) : ((l.length : Int) == 0) = decide (l.length = 0) := by rw [beq_dec, Bool.eq_iff_iff]; simp
/-! ### Folds with an index; the loops that make them -/
def rng {α σ : Type} (g : Nat → α → σ → σ) : List α → Nat → σ → σ
  | [], _, s => s
  | x :: l, i, s => rng g l (i + 1) (g i x s)
theorem rng_map {α β σ : Type} (g : Nat → β → σ → σ) (h : α → β) : ∀ (l : List α) (j : Nat) (s : σ), rng g (l.map h) j s = rng (fun i x s => g i (h x) s) l j s
  | [], _, _ => rfl
  | x :: l, j, s => by rw [List.map_cons, rng, rng]; exact rng_map g h l (j + 1) _
theorem rng_range {α σ ρ : Type} {body : Int → α → σ → Option (σ ⊕ ρ)} {fin : σ → Option ρ} (g : Nat → α → σ → σ) (inv : Nat → σ → Prop) (L : List α)
    (h1 : ∀ i x s, L[i]? = some x → inv i s → body (i : Int) x s = some (.inl (g i x s)) ∧ inv (i + 1) (g i x s)) :
    ∀ (l : List α) (j : Nat) (s : σ), L.drop j = l → inv j s → rangeM body fin l j s = fin (rng g l j s) ∧ inv (j + l.length) (rng g l j s)
  | [], j, s, _, hv => ⟨rfl, hv⟩
  | x :: l, j, s, hd, hv => by
    have hx : L[j]? = some x := by
      have := congrArg (fun l => l[0]?) hd
      simpa using this
    have hd' : L.drop (j + 1) = l := by rw [← List.drop_drop (i := 1) (j := j), hd]; rfl
    obtain ⟨a, b⟩ := h1 j x s hx hv
    rw [rangeM_cons, a, bind_some, rng, List.length_cons, show j + (l.length + 1) = j + 1 + l.length by omega]
    exact rng_range g inv L h1 l (j + 1) _ hd' b
theorem rng_rangeM {α σ τ ρ : Type} (mk : σ → τ) {body : Int → α → τ → Option (τ ⊕ ρ)} {fin : τ → Option ρ} (g : Nat → α → σ → σ) (inv : Nat → σ → Prop) (L : List α)
    (h1 : ∀ i x s, L[i]? = some x → inv i s → body (i : Int) x (mk s) = some (.inl (mk (g i x s))) ∧ inv (i + 1) (g i x s)) :
    ∀ (l : List α) (j : Nat) (s : σ), L.drop j = l → inv j s → rangeM body fin l j (mk s) = fin (mk (rng g l j s)) ∧ inv (j + l.length) (rng g l j s)
  | [], j, s, _, hv => ⟨rfl, hv⟩
  | x :: l, j, s, hd, hv => by
    have hx : L[j]? = some x := by
      have := congrArg (fun l => l[0]?) hd
      simpa using this
    have hd' : L.drop (j + 1) = l := by rw [← List.drop_drop (i := 1) (j := j), hd]; rfl
    obtain ⟨a, b⟩ := h1 j x s hx hv
    rw [rangeM_cons, a, bind_some, rng, List.length_cons, show j + (l.length + 1) = j + 1 + l.length by omega]
    exact rng_rangeM mk g inv L h1 l (j + 1) _ hd' b
theorem rng_loop {α σ τ ρ : Type} {body : τ → Option (τ ⊕ ρ)} (mk : Nat → σ → τ) (fin : σ → ρ) (g : Nat → α → σ → σ) (inv : Nat → σ → Prop) (L : List α)
    (h1 : ∀ i x s, L[i]? = some x → inv i s → body (mk i s) = some (.inl (mk (i + 1) (g i x s))) ∧ inv (i + 1) (g i x s))
    (h2 : ∀ s, inv L.length s → body (mk L.length s) = some (.inr (fin s))) :
    ∀ (r : List α) (i fu : Nat) (s : σ), L.drop i = r → i ≤ L.length → inv i s → r.length < fu → loopM body fu (mk i s) = some (fin (rng g r i s)) ∧ inv L.length (rng g r i s) := by
  intro r
  induction r with
  | nil =>
    intro i fu s hd hl hv hf
    have hle : L.length ≤ i := List.drop_eq_nil_iff.1 hd
    have : i = L.length := by omega
    subst this
    obtain ⟨n, rfl⟩ : ∃ n, fu = n + 1 := ⟨fu - 1, by simp at hf; omega⟩
    rw [loopM_succ, h2 s hv]
    exact ⟨rfl, hv⟩
  | cons x r ih =>
    intro i fu s hd hl hv hf
    have hlt : i < L.length := by
      rcases Nat.lt_or_ge i L.length with h | h
      · exact h
      · rw [List.drop_eq_nil_of_le h] at hd; cases hd
    have hx : L[i]? = some x := by
      have := congrArg (fun l => l[0]?) hd
      simpa using this
    have hd' : L.drop (i + 1) = r := by rw [← List.drop_drop (i := 1) (j := i), hd]; rfl
    obtain ⟨n, rfl⟩ : ∃ n, fu = n + 1 := ⟨fu - 1, by omega⟩
    obtain ⟨a, b⟩ := h1 i x s hx hv
    rw [loopM_succ, a, bind_some, rng]
    exact ih (i + 1) n _ hd' (by omega) b (by simp at hf; omega)
theorem some_len {α : Type} {L : List α} {i : Nat} {x : α} (h : L[i]? = some x) : i < L.length := by
  rcases Nat.lt_or_ge i L.length with h1 | h1
  · exact h1
  · rw [List.getElem?_eq_none h1] at h; cases h
theorem mem_of {α : Type} {L : List α} {i : Nat} {x : α} (h : L[i]? = some x) : x ∈ L := List.mem_of_getElem? h
theorem drop_le {α : Type} (L : List α) (i : Nat) : (L.drop i).length ≤ L.length := by simp
theorem decL {i n : Nat} (h : i < n) : decide ((i : Int) < (n : Int)) = true := by simp; omega
theorem decE (n : Nat) : decide ((n : Int) < (n : Int)) = false := by simp
theorem rng_app {α β : Type} (h : α → β) : ∀ (l : List α) (j : Nat) (acc : List β), rng (fun _ x acc => acc ++ [h x]) l j acc = acc ++ l.map h
  | [], _, acc => by simp [rng]
  | x :: l, j, acc => by rw [rng, rng_app h l]; simp
/-! ### Names, each once -/
def nmS (acc : List Str) (g : Str) : List Str := if acc.getLast? = some g then acc else acc ++ [g]
theorem nmS_len (acc : List Str) (g : Str) : (nmS acc g).length ≤ acc.length + 1 := by
  unfold nmS
  split
  · omega
  · simp
def namesF (zs : List Str) : List Str := zs.foldl nmS []
theorem namesF_len : ∀ (zs acc : List Str), (zs.foldl nmS acc).length ≤ acc.length + zs.length
  | [], acc => by simp
  | z :: zs, acc => by
    rw [List.foldl_cons, List.length_cons]
    have h1 := namesF_len zs (nmS acc z)
    have h2 := nmS_len acc z
    omega
theorem compact_names (zs : List Str) : Lib.compact zs = namesF zs := by
  have key : ∀ m, m ≤ zs.length → Lib.compactUpTo zs.toArray m = (zs.take m).foldl nmS [] ∧ (∀ x, 0 < m → zs[m - 1]? = some x → (Lib.compactUpTo zs.toArray m).getLast? = some x) := by
    intro m
    induction m with
    | zero => intro _; exact ⟨rfl, fun x h => by omega⟩
    | succ m ih =>
      intro hm
      obtain ⟨h1, h2⟩ := ih (by omega)
      have hx : zs[m]? = some zs[m] := List.getElem?_eq_getElem (by omega)
      have hd : zs.toArray[m]! = zs[m] := by
        rw [getElem!_pos zs.toArray m (by simp; omega)]
        simp
      rw [Lib.compactUpTo_succ, hd, List.take_succ_eq_append_getElem (by omega), List.foldl_append, ← h1]
      show _ = nmS (Lib.compactUpTo zs.toArray m) zs[m] ∧ _
      unfold nmS
      cases m with
      | zero =>
        have hk : Lib.keeps zs.toArray 0 = true := Lib.keeps_lt_one _ 0 (by omega)
        have e0 : Lib.compactUpTo zs.toArray 0 = [] := rfl
        rw [hk, e0]
        refine ⟨by simp, fun x _ hx' => ?_⟩
        rw [Nat.zero_add, Nat.sub_self, hx] at hx'
        simpa using hx'
      | succ m =>
        have hy : zs[m]? = some zs[m] := List.getElem?_eq_getElem (by omega)
        have hl := h2 zs[m] (by omega) (by simp)
        have hdm : zs.toArray[m]! = zs[m] := by
          rw [getElem!_pos zs.toArray m (by simp; omega)]
          simp
        by_cases he : zs[m] = zs[m + 1]
        · have hk : Lib.keeps zs.toArray (m + 1) = false := Lib.keeps_neg (by omega) (by rw [hd, Nat.add_sub_cancel, hdm, he])
          rw [hk, hl, if_pos (show some zs[m] = some zs[m + 1] by rw [he])]
          simp only [Bool.false_eq_true, if_false, List.append_nil]
          refine ⟨trivial, fun x _ hx' => ?_⟩
          rw [Nat.add_sub_cancel, hx] at hx'
          rw [hl, he]
          exact hx'
        · have hk : Lib.keeps zs.toArray (m + 1) = true := Lib.keeps_pos (by rw [hd, Nat.add_sub_cancel, hdm]; exact fun e => he e.symm)
          rw [hk, hl, if_neg (show ¬ some zs[m] = some zs[m + 1] from fun e => he (Option.some.inj e))]
          simp only [if_true]
          refine ⟨trivial, fun x _ hx' => ?_⟩
          rw [Nat.add_sub_cancel, hx] at hx'
          simpa using hx'
  have := (key zs.length (Nat.le_refl _)).1
  rw [List.take_length] at this
  exact this
theorem appT {l m : List Str} (h : l.length + m.length ≤ 100000) : appG eS l m = some (l ++ m) := by
  unfold appG
  have hby : eS.by_ = 16 := rfl
  rw [if_pos]
  rw [hby]
  omega
def glo (l : List Entry) : List Str := namesF (l.map fun e => e.Gloss)
theorem glo_len (l : List Entry) : (glo l).length ≤ l.length := by
  have := namesF_len (l.map fun e => e.Gloss) []
  unfold glo namesF
  simpa using this
theorem s_enNames_eq {l : List Entry} (hl : l.length ≤ 16) : X.s_enNames l = some (glo l) := by
  unfold X.s_enNames
  have e : ∀ (L : List Entry) (j : Nat) (acc : List Str), rng (fun (_ : Nat) (x : Entry) acc => nmS acc x.Gloss) L j acc = (L.map fun e => e.Gloss).foldl nmS acc := by
    intro L
    induction L with
    | nil => intros; rfl
    | cons x L ih => intro j acc; rw [rng, ih]; rfl
  rw [(rng_range (fun (_ : Nat) (x : Entry) acc => nmS acc x.Gloss) (fun i acc => acc.length ≤ i) l (fun i x acc hx hv => by
    have hi := some_len hx
    refine ⟨?_, by have := nmS_len acc x.Gloss; omega⟩
    rw [appT (by simp; omega), len0]
    cases acc with
    | nil => rfl
    | cons y acc =>
      have d : decide ((y :: acc).length = 0) = false := by simp
      have w : wr (((y :: acc).length : Int) - 1) = (((y :: acc).length - 1 : Nat) : Int) := by
        rw [wr_of (by simp only [List.length_cons]; omega) (by simp only [List.length_cons] at hv ⊢; omega)]
        simp only [List.length_cons]
        omega
      have hg : (y :: acc)[(y :: acc).length - 1]? = some ((y :: acc).getLast (by simp)) := by
        rw [List.getLast_eq_getElem]
        exact List.getElem?_eq_getElem _
      rw [d, cond_false, w, getI_of hg, bind_some, seq_eq]
      unfold nmS
      rw [show (y :: acc).getLast? = some ((y :: acc).getLast (by simp)) by rw [List.getLast?_eq_getElem?, hg]]
      by_cases c : (y :: acc).getLast (by simp) = x.Gloss <;> simp [c, bind_some]) l 0 [] rfl (by simp)).1, bind_some, e]
  rfl
/-! ### Homonyms -/
theorem appE {l m : List Entry} (h : l.length + m.length ≤ 100000) : appG nEntry l m = some (l ++ m) := by
  unfold appG
  have hby : nEntry.by_ = 264 := rfl
  rw [if_pos]
  rw [hby]
  omega
theorem gEntries_len {l : List Entry} (h : gEntries l = true) : l.length ≤ 16 := by
  unfold gEntries at h
  rw [Bool.and_eq_true] at h
  simpa using h.2
theorem ixs_glosses (p : Entry → Bool) (L : List Entry) : ∀ (l : List Entry) (j J : Nat) (acc : List Str), L.drop j = l → acc.length + l.length ≤ 1000 →
    rangeM (fun (j10 : Int) (x11 : Int) l3 => (Option.bind (getI L x11) fun y7_3 => (Option.bind (appG eS l3 ([y7_3.Gloss] : List Str)) fun y7_7 => some (.inl y7_7)))) (fun l3 => some l3) (ixs p l j) J acc = some (acc ++ (l.filter p).map fun e => e.Gloss)
  | [], j, J, acc, _, _ => by simp [ixs, rangeM_nil]
  | x :: l, j, J, acc, hd, hl => by
    have hx : L[j]? = some x := by
      have := congrArg (fun l => l[0]?) hd
      simpa using this
    have hd' : L.drop (j + 1) = l := by rw [← List.drop_drop (i := 1) (j := j), hd]; rfl
    rw [List.length_cons] at hl
    unfold ixs
    cases hp : p x
    · simp only [Bool.false_eq_true, if_false]
      rw [ixs_glosses p L l (j + 1) J acc hd' (by omega), List.filter_cons, hp]
      rfl
    · simp only [if_true]
      rw [rangeM_cons, getI_of hx, bind_some, appT (by simp; omega), bind_some, bind_some]
      simp only
      rw [ixs_glosses p L l (j + 1) (J + 1) (acc ++ [x.Gloss]) hd' (by rw [List.length_append, List.length_singleton]; omega), List.filter_cons, hp]
      simp
theorem before_le {a b : Entry} (h : beforeE a b = true) : a.Gloss ≤ b.Gloss := by
  have key : Op.bytesLess b.Gloss a.Gloss = false := by
    unfold beforeE at h
    by_cases h1 : Op.bytesLess a.Gloss b.Gloss = true
    · cases h2 : Op.bytesLess b.Gloss a.Gloss
      · rfl
      · have := bytesLess_trans h1 h2
        rw [bytesLess_irrefl] at this
        cases this
    · rw [if_neg h1] at h
      by_cases h2 : a.Gloss = b.Gloss
      · rw [h2]
        exact bytesLess_irrefl _
      · rw [if_neg h2] at h
        cases h
  rw [bytesLess_eq] at key
  show ¬ (b.Gloss < a.Gloss)
  simpa using key
theorem sort_same {l : List Entry} (h : l.Pairwise fun a b => beforeE a b = true) (p : Entry → Bool) : ((l.filter p).map fun e => e.Gloss).mergeSort (fun x y => decide (x ≤ y)) = (l.filter p).map fun e => e.Gloss := by
  apply List.mergeSort_of_pairwise
  rw [List.pairwise_map]
  exact (h.filter p).imp fun hab => by simpa using before_le hab
def vHom (l : List Entry) (s : Sign) : List Str × Bool := if gEntries l && gSign s then (glo (l.filter fun e => qSign e.Sign s), true) else ([], false)
theorem i_Hom_eq {k : Nat} {l : List Entry} {s : Sign} (hs : ∀ x ∈ l, smallE x) (h2s : smallS s) (hl : l.length ≤ 1048576) (hk : 100 ≤ k) : X.i_HomonymsOf k l s = some (vHom l s) := by
  unfold X.i_HomonymsOf vHom
  rw [i_AreEntries_eq hs (by omega) (by omega), bind_some, i_IsSign_eq h2s (by omega)]
  cases h : gEntries l <;> cases h3 : gSign s <;> simp only [Bool.true_and, Bool.false_and, Bool.and_true, Bool.and_false, Bool.and_self, Bool.not_true, Bool.not_false, cond_true, cond_false, bind_some, if_true, Bool.false_eq_true, if_false]
  have hn := gEntries_len h
  have hf : (l.filter fun e => qSign e.Sign s).length ≤ 16 := Nat.le_trans (List.length_filter_le _ _) hn
  unfold X.i_those_i_Entry
  rw [those_gen (fun e => qSign e.Sign s) (fun _ => rfl) l 0 [] (by simp; omega) (fun i y q hy => by
    unfold X.i_HomonymsOf_1
    simp only [bind_some]
    cases qSign y.Sign s <;> simp)]
  simp only [bind_some, List.nil_append]
  rw [ixs_glosses (fun e => qSign e.Sign s) l l 0 0 [] rfl (by simp; omega), bind_some, List.nil_append]
  unfold X.i_distinct_string X.slices_Clone_string_string X.slices_Sort_string_string X.slices_Compact_string_string
  rw [appT (by simp; omega), bind_some, List.nil_append, decide_eq_true (by rw [List.length_map]; omega), cond_true, bind_some, sort_same (entries_sorted h), decide_eq_true (by rw [List.length_map]; omega), compact_names]
  rfl
theorem s_Hom_eq {k : Nat} {l : List Entry} {s : Sign} (hs : ∀ x ∈ l, smallE x) (h2s : smallS s) (hl : l.length ≤ 1048576) (hk : 2000010 ≤ k) : X.s_HomonymsOf k l s = some (vHom l s) := by
  unfold X.s_HomonymsOf vHom
  rw [s_enGood_eq hs (by omega) hk, bind_some, s_siGood_eq h2s hk]
  cases h : gEntries l <;> cases h3 : gSign s <;> simp only [Bool.true_and, Bool.false_and, Bool.and_true, Bool.and_false, Bool.and_self, Bool.not_true, Bool.not_false, cond_true, cond_false, bind_some, if_true, Bool.false_eq_true, if_false]
  have hn := gEntries_len h
  have hf : (l.filter fun e => qSign e.Sign s).length ≤ 16 := Nat.le_trans (List.length_filter_le _ _) hn
  have key : ∀ (L : List Entry) (j : Nat) (acc : List Entry), rng (fun (_ : Nat) (e : Entry) acc => if qSign e.Sign s then acc ++ [e] else acc) L j acc = acc ++ L.filter (fun e => qSign e.Sign s) := by
    intro L
    induction L with
    | nil => intro j acc; simp [rng]
    | cons x L ih =>
      intro j acc
      rw [rng, ih, List.filter_cons]
      cases qSign x.Sign s <;> simp
  rw [(rng_range (fun (_ : Nat) (e : Entry) acc => if qSign e.Sign s then acc ++ [e] else acc) (fun i acc => acc.length ≤ i) l (fun i e acc hx hv => by
    have hi := some_len hx
    refine ⟨?_, by split; (rw [List.length_append, List.length_singleton]; omega); omega⟩
    rw [appE (by simp; omega)]
    cases qSign e.Sign s <;> simp [bind_some]) l 0 [] rfl (by simp)).1, bind_some, key, List.nil_append, s_enNames_eq hf]
  rfl
theorem vHom_len (l : List Entry) (s : Sign) : (vHom l s).1.length ≤ l.length := by
  unfold vHom
  split
  · exact Nat.le_trans (glo_len _) (List.length_filter_le _ _)
  · simp
theorem Pure.FnExactHomonymsOf (l : List Entry) (o_l : okL okEntry l) (s : Sign) (o_s : okSign s) : X.l_FnExactHomonymsOf 3000000 l s = some true := by
  unfold X.l_FnExactHomonymsOf
  obtain ⟨r0, hr0, d0⟩ := szEntryS_eq (l := l) (z := 1048576) o_l (by omega) (by omega)
  rw [hr0, bind_some]
  rcases d0 with d0 | ⟨n_l, h_l, p0, q0⟩
  · have : decide (r0 < 0) = true := by simpa using d0
    rw [this]
    rfl
  have e0 : decide (r0 < 0) = false := by simpa using p0
  rw [e0, cond_false]
  obtain ⟨r1, hr1, d1⟩ := szSign_eq (s := s) (z := r0) (fitS_of o_s) (by omega) (by omega)
  rw [hr1, bind_some]
  rcases d1 with d1 | ⟨h_s, p1, q1⟩
  · have : decide (r1 < 0) = true := by simpa using d1
    rw [this]
    rfl
  have e1 : decide (r1 < 0) = false := by simpa using p1
  rw [e1, cond_false]
  have hvl : (vHom l s).1.length ≤ 1048576 := (Nat.le_trans (vHom_len l s) n_l)
  have hpr : decide (1 + 1 * ((vHom l s).1.length : Int) < 0) = false := by simp; omega
  have hpa : decide (1 + 30 * (l.length : Int) < 0) = false := by simp; omega
  simp only [toEntryS_eq n_l,
    eqEntryS_eq n_l,
    toSign_eq,
    bind_some,
    i_Hom_eq h_l h_s n_l (show 100 ≤ 3000000 by omega),
    s_Hom_eq h_l h_s n_l (show 2000010 ≤ 3000000 by omega),
    eqStringS_eq hvl,
    markStringS_eq (show (0 : Int) ≤ 1 by omega) (show (1 : Int) ≤ 1000000000000 by omega) hvl,
    heldStringS_eq (show (0 : Int) ≤ 1 by omega) (show (1 : Int) ≤ 1000000000000 by omega) hvl,
    hpr,
    markEntryS_eq (k := 1) (show (0 : Int) ≤ 1 by omega) (show (1 : Int) ≤ 1000000000000 by omega) n_l,
    hpa]
  simp
end Go.Proofs.XC
