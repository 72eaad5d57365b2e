/- Plain laws of the plain functions: no program, no memory. By AI agents; no person has read it. -/
import Derived.Test.YtjjhlccjfdcfcaaGreatDoorPN2
set_option linter.unusedVariables false
set_option linter.unusedSimpArgs false
set_option maxRecDepth 100000
set_option maxHeartbeats 40000000
namespace Go.Proofs.XC
open Go Go.RowKit
/-! ### The best of all orders -/
def stp (l : List Sign) (s : Int × List Int) (o : List Int) : Int × List Int := bif s.2.isEmpty || decide (gs (sg l o) < s.1) then (gs (sg l o), o) else s
theorem rg_fold {α σ : Type} (l : List α) (body : Int → α → σ → Option (σ ⊕ σ)) (F : Nat → σ → σ) (h : ∀ (j : Nat) x s, l[j]? = some x → body (j : Int) x s = some (.inl (F j s))) : ∀ (r : List α) (j : Nat) (s : σ), l.drop j = r →
    rangeM body (fun s => some s) r j s = some ((List.range' j r.length).foldl (fun s j => F j s) s)
  | [], j, s, hd => by simp [rangeM_nil]
  | x :: r, j, s, hd => by
    obtain ⟨hx, hd2⟩ := get_at hd
    rw [rangeM_cons, h j x s hx, bind_some]
    dsimp only
    rw [rg_fold l body F h r (j + 1) _ hd2, List.length_cons, List.range'_succ, List.foldl_cons]
theorem foldl_fm {σ α β : Type} (g : σ → β → σ) (F : α → List β) : ∀ (l : List α) (s : σ), (l.flatMap F).foldl g s = l.foldl (fun s a => (F a).foldl g s) s
  | [], s => rfl
  | a :: l, s => by rw [List.flatMap_cons, List.foldl_append, List.foldl_cons, foldl_fm g F l]
theorem i_first (l : List Sign) {k : Nat} (hg : ∀ x ∈ l, gSign x = true) (o : List Int) (hl : o.length = l.length) (h2 : 2 ≤ l.length) (h4 : l.length ≤ 4) (ho : inO l.length o) (hk : 1000 < k) (b : List Int) (z : Int) :
    (bif ((List.length o : Int) == (List.length l : Int)) then (bif (List.isEmpty b) then (Option.bind (X.slices_Clone_int_int o) fun v1_1 => (Option.bind (X.i_gapsIn k (sg l o)) fun v1_3 => (bif (List.isEmpty v1_1) then none else some (v1_3, v1_1)))) else (Option.bind (X.i_gapsIn k (sg l o)) fun v0_10 => (bif decide (v0_10 < z) then (Option.bind (X.slices_Clone_int_int o) fun v1_1 => (Option.bind (X.i_gapsIn k (sg l o)) fun v1_3 => (bif (List.isEmpty v1_1) then none else some (v1_3, v1_1)))) else some (z, b)))) else some (z, b)) = some (stp l (z, b) o) := by
  have e1 : ((List.length o : Int) == (List.length l : Int)) = true := by rw [beq_iff_eq]; omega
  have hs := i_gapsIn_eq (k := k) (sg l o) (by simp [sg]; omega) (sg_good hg ho) hk
  have hne : o.isEmpty = false := by
    cases o with
    | nil => simp at hl; omega
    | cons x o => rfl
  rw [e1, cond_true, clone_eq (by omega), hs]
  simp only [bind_some, hne, cond_false]
  unfold stp
  cases b.isEmpty
  · simp only [cond_false, Bool.false_or]
    cases decide (gs (sg l o) < z) <;> rfl
  · rfl
theorem i_order_eq (l : List Sign) (hg : ∀ x ∈ l, gSign x = true) (h2 : 2 ≤ l.length) (h4 : l.length ≤ 4) : ∀ (d : Nat) (o : List Int) (k : Nat) (b : List Int) (z : Int), d + o.length = l.length → o.Nodup → inO l.length o →
    X.i_SmoothestOrder_1 (k + d + 1010) l o (sg l o) b z = some (((ords l.length d o).foldl (stp l) (z, b)).2, ((ords l.length d o).foldl (stp l) (z, b)).1)
  | 0, o, k, b, z, h, hd, ho => by
    rw [show k + 0 + 1010 = (k + 1009) + 1 by omega, X.i_SmoothestOrder_1, i_first l hg o (by omega) h2 h4 ho (by omega), bind_some]
    have hc : ∀ j : Nat, j < l.length → decide ((j : Int) ∈ o) = true := fun j hj => decide_eq_true (full hd ho (by omega) ⟨by omega, by omega⟩)
    rw [ords, List.foldl_cons, List.foldl_nil]
    generalize stp l (z, b) o = s
    obtain ⟨s1, s2⟩ := s
    dsimp only
    have hr := rg_fold l (fun (j20 : Int) (x21 : Sign) (⟨s11, l12⟩ : Int × List Int) => (Option.bind (X.slices_Contains_int_int o (j20 : Int)) fun v5_2 => (bif (!v5_2) then (Option.bind (X.slices_Clone_int_int o) fun v6_2 => (Option.bind (appG (eI .i64) v6_2 ([(j20 : Int)] : List Int)) fun y6_5 => (Option.bind (X.slices_Clone_i_Sign_i_Sign (sg l o)) fun v6_7 => (Option.bind (appG nSign v6_7 ([x21] : List Sign)) fun y6_10 => (Option.bind (X.i_SmoothestOrder_1 (k + 1009) l y6_5 y6_10 l12 s11) fun v6_11 => some (.inl (v6_11.2, v6_11.1))))))) else some (.inl (s11, l12))))) (fun _ s => s) (fun j x s hx => by
      obtain ⟨p, q⟩ := s
      dsimp only
      rw [i_has_eq, bind_some, hc j (some_len hx)]
      rfl) l 0 (s1, s2) rfl
    refine Eq.trans (congrArg (fun q => Option.bind q _) hr) ?_
    have hf : ∀ (m : List Nat) (s : Int × List Int), m.foldl (fun s _ => s) s = s := fun m => by induction m <;> simp_all
    rw [hf]
    rfl
  | d + 1, o, k, b, z, h, hd, ho => by
    rw [show k + (d + 1) + 1010 = (k + d + 1010) + 1 by omega, X.i_SmoothestOrder_1]
    have e1 : ((List.length o : Int) == (List.length l : Int)) = false := by rw [beq_eq_false_iff_ne]; omega
    rw [e1, cond_false, bind_some]
    dsimp only
    have hr := rg_fold l (fun (j20 : Int) (x21 : Sign) (⟨s11, l12⟩ : Int × List Int) => (Option.bind (X.slices_Contains_int_int o (j20 : Int)) fun v5_2 => (bif (!v5_2) then (Option.bind (X.slices_Clone_int_int o) fun v6_2 => (Option.bind (appG (eI .i64) v6_2 ([(j20 : Int)] : List Int)) fun y6_5 => (Option.bind (X.slices_Clone_i_Sign_i_Sign (sg l o)) fun v6_7 => (Option.bind (appG nSign v6_7 ([x21] : List Sign)) fun y6_10 => (Option.bind (X.i_SmoothestOrder_1 (k + d + 1010) l y6_5 y6_10 l12 s11) fun v6_11 => some (.inl (v6_11.2, v6_11.1))))))) else some (.inl (s11, l12))))) (fun j s => (if (j : Int) ∈ o then ([] : List (List Int)) else ords l.length d (o ++ [(j : Int)])).foldl (stp l) s) (fun j x s hx => by
      obtain ⟨p, q⟩ := s
      have hj := some_len hx
      dsimp only
      rw [i_has_eq, bind_some]
      by_cases hm : (j : Int) ∈ o
      · rw [decide_eq_true hm, if_pos hm]
        rfl
      · have ok := ext_ok hd ho hj hm
        have hsx : sg l o ++ [x] = sg l (o ++ [(j : Int)]) := by
          unfold sg
          rw [List.map_append, List.map_singleton]
          congr 2
          rw [Int.toNat_natCast, List.getD_eq_getElem?_getD, hx]
          rfl
        rw [decide_eq_false hm, if_neg hm, Bool.not_false, cond_true, clone_eq (by omega), bind_some, appI (by omega), bind_some, cloneS_eq (by simp [sg]; omega), bind_some, appS1 (by simp [sg]; omega), bind_some, hsx,
          i_order_eq l hg h2 h4 d _ k q p (by simp; omega) ok.1 ok.2, bind_some]) l 0 (z, b) rfl
    refine Eq.trans (congrArg (fun q => Option.bind q _) hr) ?_
    rw [bind_some, ords, foldl_fm]
def vOrd (l : List Sign) : Int × List Int := (ords l.length l.length []).foldl (stp l) (0, [])
theorem i_Smoothest_eq {k : Nat} {l : List Sign} (hs : ∀ x ∈ l, smallS x) (hk : 5000 ≤ k) : X.i_SmoothestOrder k l = some (if gMade l = true then ((vOrd l).2, (vOrd l).1, true) else ([], 0, false)) := by
  unfold X.i_SmoothestOrder
  rw [i_isMade_eq hs (by omega), bind_some]
  cases hg : gMade l
  · rfl
  have hm := hg
  unfold gMade at hm
  simp only [Bool.and_eq_true, decide_eq_true_eq, List.all_eq_true] at hm
  have := i_order_eq l hm.2 hm.1.1 hm.1.2 l.length [] (k - l.length - 1010) [] 0 (by simp) (by simp) (fun z hz => by simp at hz)
  rw [show k - l.length - 1010 + l.length + 1010 = k by omega] at this
  rw [Bool.not_true, cond_false]
  refine Eq.trans (congrArg (fun q => Option.bind q _) this) ?_
  rfl
theorem s_pick (l : List Sign) (hg : ∀ x ∈ l, gSign x = true) (L : List (List Int)) (hL : ∀ o ∈ L, o.length ≤ 1000 ∧ inO l.length o) (K : Nat) (hK : 1001 < K) : ∀ (r : List (List Int)) (j : Nat) (i z : Int), L.drop j = r →
    ∃ i' z', rangeM (fun (j7 : Int) (x8 : (List Int)) (⟨n2, n3⟩ : Int × Int) => (Option.bind (loopM (fun (⟨n12, n13⟩ : Int × Int) => (bif decide (n13 < (List.length x8 : Int)) then (Option.bind (getI x8 (wr (n13 - 1))) fun y12_5 => (Option.bind (getI l y12_5) fun y12_7 => (Option.bind (getI x8 n13) fun y12_12 => (Option.bind (getI l y12_12) fun y12_14 => (Option.bind (X.s_cmGap y12_7 y12_14) fun v12_16 => some (Sum.inl ((wr (n12 + v12_16)), (wr (n13 + 1))))))))) else some (Sum.inr (n2, n12)))) K (0, 1)) fun (⟨n14, n15⟩ : Int × Int) => (bif ((List.length (blL L n14) : Int) == 0) then some (Sum.inl ((j7 : Int), n15)) else (bif decide (n15 < n3) then some (.inl ((j7 : Int), n15)) else some (.inl (n14, n3)))))) (fun (⟨n2, n3⟩ : Int × Int) => some (n2, n3)) r j (i, z) = some (i', z') ∧ (z', blL L i') = r.foldl (stp l) (z, blL L i)
  | [], j, i, z, hd => ⟨i, z, rfl, rfl⟩
  | x :: r, j, i, z, hd => by
    obtain ⟨hx, hd2⟩ := get_at hd
    have hb := hL x (List.mem_of_getElem? hx)
    have hbl : blL L (j : Int) = x := by
      unfold blL
      rw [if_neg (by omega), Int.toNat_natCast, List.getD_eq_getElem?_getD, hx]
      rfl
    have he : ((List.length (blL L i) : Int) == 0) = (blL L i).isEmpty := by
      cases blL L i with
      | nil => rfl
      | cons a t =>
        rw [beq_eq_false_iff_ne.2 (by simp only [List.length_cons]; omega)]
        rfl
    rw [rangeM_cons]
    dsimp only
    rw [s_gaps_eq (fun n => (i, n)) l hg x hb.1 hb.2 hK, bind_some]
    dsimp only
    rw [he, List.foldl_cons]
    have hst : stp l (z, blL L i) x = bif (blL L i).isEmpty || decide (gs (sg l x) < z) then (gs (sg l x), x) else (z, blL L i) := rfl
    rw [hst]
    cases (blL L i).isEmpty
    · cases decide (gs (sg l x) < z)
      · simp only [cond_false, bind_some, Bool.or_false]
        exact s_pick l hg L hL K hK r (j + 1) i z hd2
      · simp only [cond_false, cond_true, bind_some, Bool.or_true]
        obtain ⟨i', z', h1, h2⟩ := s_pick l hg L hL K hK r (j + 1) (j : Int) (gs (sg l x)) hd2
        exact ⟨i', z', h1, by rw [h2, hbl]⟩
    · simp only [cond_true, bind_some, Bool.true_or]
      obtain ⟨i', z', h1, h2⟩ := s_pick l hg L hL K hK r (j + 1) (j : Int) (gs (sg l x)) hd2
      exact ⟨i', z', h1, by rw [h2, hbl]⟩
theorem s_Smoothest_eq {k : Nat} {l : List Sign} (hs : ∀ x ∈ l, smallS x) (hk : 2000010 ≤ k) : X.s_SmoothestOrder k l = some (if gMade l = true then ((vOrd l).2, (vOrd l).1, true) else ([], 0, false)) := by
  unfold X.s_SmoothestOrder
  rw [s_cmGood_eq hs hk, bind_some]
  cases hg : gMade l
  · rfl
  have hm := hg
  unfold gMade at hm
  simp only [Bool.and_eq_true, decide_eq_true_eq, List.all_eq_true] at hm
  have h1 := s_orders_eq hm.1.2 l.length [] (k - l.length - 10) (by simp)
  rw [show k - l.length - 10 + l.length + 10 = k by omega] at h1
  have hok := ords_ok (n := l.length) l.length [] (by simp) (by simp) (fun z hz => by simp at hz)
  obtain ⟨i', z', e1, e2⟩ := s_pick l hm.2 (ords l.length l.length []) (fun o ho => ⟨by have := (hok o ho).1; omega, (hok o ho).2.2⟩) k (by omega) (ords l.length l.length []) 0 (-1) 0 rfl
  rw [Bool.not_true, cond_false]
  refine Eq.trans (congrArg (fun q => Option.bind q _) h1) ?_
  rw [bind_some]
  refine Eq.trans (congrArg (fun q => Option.bind q _) e1) ?_
  rw [bind_some]
  dsimp only
  have e3 : blL (ords l.length l.length []) (-1) = [] := rfl
  rw [e3] at e2
  have e4 : (z', blL (ords l.length l.length []) i') = vOrd l := e2
  rw [if_pos rfl, ← e4]
theorem fold_mem (l : List Sign) : ∀ (L : List (List Int)) (s : Int × List Int), (L.foldl (stp l) s).2 = s.2 ∨ (L.foldl (stp l) s).2 ∈ L
  | [], s => .inl rfl
  | o :: L, s => by
    rw [List.foldl_cons]
    have hs : (stp l s o).2 = s.2 ∨ (stp l s o).2 = o := by
      unfold stp
      cases s.2.isEmpty || decide (gs (sg l o) < s.1)
      · exact .inl rfl
      · exact .inr rfl
    rcases fold_mem l L (stp l s o) with h | h
    · rcases hs with h2 | h2
      · exact .inl (h.trans h2)
      · right; rw [h, h2]; exact List.mem_cons_self
    · exact .inr (List.mem_cons_of_mem _ h)
end Go.Proofs.XC
