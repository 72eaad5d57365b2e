/- Plain laws of the plain functions: no program, no memory. By AI agents; no person has read it. -/
import Derived.Test.YtjjhlccjfdcfcaaGreatDoorPK1
set_option linter.unusedVariables false
set_option linter.unusedSimpArgs false
set_option maxRecDepth 100000
set_option maxHeartbeats 40000000
namespace Go.Proofs.XC
open Go Go.RowKit
/-! #### Movements -/
theorem catS_ex {a b : Str} (h : a.length + b.length ≤ 1000) : catS a b = some (a ++ b) := by unfold catS; rw [if_pos (by omega)]
theorem steps_ex {c : List Int} (hc : okB8 c) {n : Int} {m : Nat} (hn : n ≤ 6) : ∀ (q : Nat) (fu : Nat) (t s : Int) (x : Move), Bg (m + 2 * q) t → (n ≤ (x.Steps.length : Int) + q) → x.Steps.length ≤ 6 → x.Steps.all isDir = true → q < fu →
    ∃ t' s' x', loopM (fun (⟨n2, n3, s4⟩ : Int × Int × Move) => (bif decide ((List.length s4.Steps : Int) < n) then (Option.bind (X.s_l1Cur_of c n2 n3 ([([117] : Str), ([100] : Str), ([108] : Str), ([114] : Str), ([108] : Str), ([114] : Str), ([102] : Str), ([98] : Str)] : List Str)) fun v6_4 => (Option.bind (catS s4.Steps v6_4.1) fun y6_5 => some (.inl (v6_4.2.1, v6_4.2.2, { s4 with Steps := y6_5 })))) else some (.inr (n2, n3, s4)))) fu (t, s, x) = some (t', s', x') ∧ Bg m t' ∧ x'.Steps.length ≤ 6 ∧ n ≤ (x'.Steps.length : Int) ∧ x'.Steps.all isDir = true ∧ x'.Repeat = x.Repeat := by
  intro q
  induction q with
  | zero =>
    intro fu t s x h hx hl ha hf
    obtain ⟨f, rfl⟩ : ∃ f, fu = f + 1 := ⟨fu - 1, by omega⟩
    have d : decide ((List.length x.Steps : Int) < n) = false := decide_eq_false (by omega)
    rw [loopM_succ]
    dsimp only
    rw [d]
    exact ⟨t, s, x, rfl, h.le (by omega), hl, by omega, ha, rfl⟩
  | succ q ih =>
    intro fu t s x h hx hl ha hf
    obtain ⟨f, rfl⟩ : ∃ f, fu = f + 1 := ⟨fu - 1, by omega⟩
    rw [loopM_succ]
    dsimp only
    by_cases hd : (List.length x.Steps : Int) < n
    · obtain ⟨v, t2, s2, e, hb, hv⟩ := of_ex (c := c) (t := t) (s := s) (l := ([([117] : Str), ([100] : Str), ([108] : Str), ([114] : Str), ([108] : Str), ([114] : Str), ([102] : Str), ([98] : Str)] : List Str)) hc h (by omega) (by simp)
      have hvl : v.length = 1 ∧ v.all isDir = true := by
        simp only [List.mem_cons, List.not_mem_nil, or_false] at hv
        rcases hv with rfl | rfl | rfl | rfl | rfl | rfl | rfl | rfl <;> exact ⟨rfl, rfl⟩
      rw [decide_eq_true hd, cond_true, e, bind_some]
      dsimp only
      rw [catS_ex (by omega), bind_some, bind_some]
      exact ih f t2 s2 { x with Steps := x.Steps ++ v } (hb.le (by omega)) (by simp only [List.length_append, hvl.1]; omega) (by simp only [List.length_append, hvl.1]; omega) (by simp only [List.all_append, ha, hvl.2, Bool.and_self]) (by omega)
    · rw [decide_eq_false hd]
      exact ⟨t, s, x, rfl, h.le (by omega), hl, by omega, ha, rfl⟩
theorem gMove_mk {m : Move} (h1 : m.Steps.length ≤ 6) (h2 : m.Steps.all isDir = true) (h3 : 1 ≤ m.Repeat ∧ m.Repeat ≤ 3) (h4 : m.Steps ≠ [] ∨ m.Repeat = 1) : gMove m = true := by
  unfold gMove
  rw [decide_eq_true h1, h2, inR_iff.2 h3]
  rcases h4 with h | h
  · cases hs : m.Steps with
    | nil => exact absurd hs h
    | cons x l => rfl
  · rw [h]; simp
theorem move_tail {c : List Int} (hc : okB8 c) {n : Int} {m : Nat} {t s : Int} {x : Move} (h : Bg m t) (hm : 2 ≤ m) (hx : x.Steps.length ≤ 6 ∧ n ≤ (x.Steps.length : Int) ∧ x.Steps.all isDir = true) (hr : 1 ≤ x.Repeat ∧ x.Repeat ≤ 3) (h0 : x.Repeat = 1 ∨ n ≠ 0 ∧ 0 ≤ n) :
    Dw (m - 2) (fun v : Move => gMove v = true) (bif (n == 4) then (Option.bind (X.s_l1Cur_one c t s 2) fun v7_4 => (bif v7_4.1 then (Option.bind (cutS x.Steps 0 2) fun y8_2 => (Option.bind (cutS x.Steps 0 2) fun y8_5 => (Option.bind (catS y8_2 y8_5) fun y8_6 => some ({ x with Steps := y8_6 }, v7_4.2.1, v7_4.2.2)))) else some (x, v7_4.2.1, v7_4.2.2))) else some (x, t, s)) := by
  have hg : gMove x = true := gMove_mk hx.1 hx.2.2 hr (by
    rcases h0 with h0 | ⟨h0, h1⟩
    · exact .inr h0
    · left
      intro e
      rw [e] at hx
      have := hx.2.1
      simp at this
      omega)
  refine Dw.cond (fun q => ?_) (fun _ => Dw.done h hg (by omega))
  have hn : n = 4 := by simpa using q
  subst hn
  refine Dw.bind (one_ex hc h (by omega)) fun v t s h _ => ?_
  dsimp only
  refine Dw.cond (fun _ => ?_) (fun _ => Dw.done h hg (by omega))
  have hl : 4 ≤ x.Steps.length := by omega
  have hcut : cutS x.Steps 0 2 = some (x.Steps.take 2) := by
    unfold cutS
    rw [if_pos (by omega)]
    rfl
  have hl2 : (x.Steps.take 2).length = 2 := by rw [List.length_take]; omega
  have ha2 : (x.Steps.take 2).all isDir = true := by
    rw [List.all_eq_true] at hx ⊢
    exact fun y hy => hx.2.2 y (List.mem_of_mem_take hy)
  rw [hcut, bind_some, bind_some, catS_ex (by omega), bind_some]
  refine Dw.done h (gMove_mk ?_ ?_ hr (.inl ?_)) (by omega)
  · rw [List.length_append]; omega
  · rw [List.all_append, ha2]; rfl
  · intro e
    have := congrArg List.length e
    rw [List.length_append, hl2] at this
    simp at this
theorem move_ex {c : List Int} {t s : Int} {m k : Nat} (hc : okB8 c) (h : Bg m t) (hm : 20 ≤ m) (hk : 10 ≤ k) : Dw (m - 20) (fun v : Move => gMove v = true) (X.s_l1Cur_move k c t s) := by
  unfold X.s_l1Cur_move
  refine Dw.bind (among_ex hc h (by omega) (by simp)) fun v1 t s h hv1 => ?_
  refine Dw.bind (among_ex hc h (by omega) (by simp)) fun v2 t s h hv2 => ?_
  dsimp only
  have hn : 0 ≤ v2 ∧ v2 ≤ 6 := by
    simp only [List.mem_cons, List.not_mem_nil, or_false] at hv2
    omega
  have hr : 1 ≤ v1 ∧ v1 ≤ 3 := by
    simp only [List.mem_cons, List.not_mem_nil, or_false] at hv1
    omega
  have key : ∀ (x : Move), x.Steps = [] → ∃ t' s' x', loopM (fun (⟨n2, n3, s4⟩ : Int × Int × Move) => (bif decide ((List.length s4.Steps : Int) < v2) then (Option.bind (X.s_l1Cur_of c n2 n3 ([([117] : Str), ([100] : Str), ([108] : Str), ([114] : Str), ([108] : Str), ([114] : Str), ([102] : Str), ([98] : Str)] : List Str)) fun v6_4 => (Option.bind (catS s4.Steps v6_4.1) fun y6_5 => some (.inl (v6_4.2.1, v6_4.2.2, { s4 with Steps := y6_5 })))) else some (.inr (n2, n3, s4)))) k (t, s, x) = some (t', s', x') ∧ Bg (m - 2 - 2 - 12) t' ∧ x'.Steps.length ≤ 6 ∧ v2 ≤ (x'.Steps.length : Int) ∧ x'.Steps.all isDir = true ∧ x'.Repeat = x.Repeat := fun x hx =>
    steps_ex hc hn.2 6 k t s x (h.le (by omega)) (by rw [hx]; simp; omega) (by rw [hx]; simp) (by rw [hx]; rfl) (by omega)
  refine Dw.cond (fun q => ?_) (fun q => ?_)
  · obtain ⟨t', s', x', e, hb, h1, h2, h3, h4⟩ := key { zMove with Repeat := 1 } rfl
    refine (congrArg (fun o => Dw (m - 20) (fun v : Move => gMove v = true) (Option.bind o _)) e).mpr ?_
    rw [bind_some]
    dsimp only
    exact (move_tail hc hb (by omega) ⟨h1, h2, h3⟩ (by rw [h4]; exact ⟨by decide, by decide⟩) (.inl h4)).mono (by omega) fun _ h => h
  · have q : v2 ≠ 0 := by simpa using q
    obtain ⟨t', s', x', e, hb, h1, h2, h3, h4⟩ := key { zMove with Repeat := v1 } rfl
    refine (congrArg (fun o => Dw (m - 20) (fun v : Move => gMove v = true) (Option.bind o _)) e).mpr ?_
    rw [bind_some]
    dsimp only
    exact (move_tail hc hb (by omega) ⟨h1, h2, h3⟩ (by rw [h4]; exact hr) (.inr ⟨q, hn.1⟩)).mono (by omega) fun _ h => h
/-- Short steps, few times. -/
def tinyM (m : Move) : Prop := m.Steps.length ≤ 13 ∧ m.Repeat ≤ 4 ∧ -9223372036854775808 ≤ m.Repeat
theorem tiny_of {m : Move} (h : gMove m = true) : tinyM m := by
  rw [gMove_iff] at h
  exact ⟨by have := h.1; omega, by have := h.2.2.1; omega, by have := h.2.2.1; omega⟩
theorem anyMove_ex {c : List Int} {t s : Int} {m k : Nat} (hc : okB8 c) (h : Bg m t) (hm : 30 ≤ m) (hk : 10 ≤ k) : Dw (m - 30) tinyM (X.s_l1Cur_anyMove k c t s) := by
  unfold X.s_l1Cur_anyMove
  refine Dw.bind (move_ex hc h (by omega) hk) fun v t s h hv => ?_
  refine Dw.bind (pick_ex hc h (by omega)) fun v2 t s h _ => ?_
  dsimp only
  have hv' := hv
  rw [gMove_iff] at hv'
  refine Dw.cond (fun _ => ?_) (fun _ => Dw.cond (fun _ => ?_) (fun _ => Dw.cond (fun _ => ?_) (fun _ => ?_)))
  · refine Dw.bind (among_ex hc h (by omega) (by simp)) fun v2 t s h hv2 => Dw.done h ⟨(tiny_of hv).1, ?_⟩ (by omega)
    simp only [List.mem_cons, List.not_mem_nil, or_false] at hv2
    show v2 ≤ 4 ∧ -9223372036854775808 ≤ v2
    omega
  · refine Dw.bind (of_ex hc h (by omega) (by simp)) fun v2 t s h hv2 => ?_
    dsimp only
    have hl : v2.length ≤ 7 := by
      simp only [List.mem_cons, List.not_mem_nil, or_false] at hv2
      rcases hv2 with rfl | rfl | rfl <;> simp
    rw [catS_ex (by have := hv'.1; omega), bind_some]
    refine Dw.done h ⟨?_, (tiny_of hv).2⟩ (by omega)
    rw [List.length_append]
    have := hv'.1
    omega
  · exact Dw.done h ⟨by decide, by decide, by decide⟩ (by omega)
  · exact Dw.done h (tiny_of hv) (by omega)
/-! #### Hands -/
def tinyH (h : Hand) : Prop := tinyM h.Move
theorem hand_ex {c : List Int} {t s : Int} {m k : Nat} (hc : okB8 c) (h : Bg m t) (hm : 50 ≤ m) (hk : 20 ≤ k) : Dw (m - 50) (fun v : Hand => gMove v.Move = true) (X.s_l1Cur_hand k c t s) := by
  unfold X.s_l1Cur_hand
  refine Dw.bind (shape_ex hc h (by omega) (by omega)) fun v1 t s h _ => ?_
  refine Dw.bind (orient_ex hc h (by omega) hk) fun v2 t s h _ => ?_
  refine Dw.bind (place_ex hc h (by omega) hk) fun v3 t s h _ => ?_
  exact Dw.bind (move_ex hc h (by omega) (by omega)) fun v4 t s h hv => Dw.done h hv (by omega)
theorem anyHand_ex {c : List Int} {t s : Int} {m k : Nat} (hc : okB8 c) (h : Bg m t) (hm : 100 ≤ m) (hk : 20 ≤ k) : Dw (m - 100) tinyH (X.s_l1Cur_anyHand k c t s) := by
  unfold X.s_l1Cur_anyHand
  refine Dw.bind (hand_ex hc h (by omega) hk) fun v t s h hv => ?_
  refine Dw.bind (pick_ex hc h (by omega)) fun v2 t s h _ => ?_
  dsimp only
  have hv := tiny_of hv
  refine Dw.cond (fun _ => ?_) (fun _ => Dw.cond (fun _ => ?_) (fun _ => Dw.cond (fun _ => ?_) (fun _ => Dw.cond (fun _ => ?_) (fun _ => ?_))))
  · exact Dw.bind (anyShape_ex hc h (by omega) (by omega)) fun v2 t s h _ => Dw.done h hv (by omega)
  · exact Dw.bind (anyOrient_ex hc h (by omega) hk) fun v2 t s h _ => Dw.done h hv (by omega)
  · exact Dw.bind (anyPlace_ex hc h (by omega) hk) fun v2 t s h _ => Dw.done h hv (by omega)
  · exact Dw.bind (anyMove_ex hc h (by omega) (by omega)) fun v2 t s h hv2 => Dw.done h hv2 (by omega)
  · exact Dw.done h hv (by omega)
theorem times_ex (a : Str) (ha : a.length ≤ 13) : ∀ (q : Nat) (n : Int) (acc : Str) (fu : Nat), n ≤ q → acc.length + 13 * q ≤ 1000 → -9223372036854775808 ≤ n → q < fu →
    ∃ r, loopM (fun (⟨n1, t2⟩ : Int × Str) => (bif decide (n1 > 0) then (Option.bind (catS t2 a) fun y4_2 => some (.inl ((wr (n1 - 1)), y4_2))) else some (.inr t2))) fu (n, acc) = some r ∧ r.length ≤ 1000 := by
  intro q
  induction q with
  | zero =>
    intro n acc fu hn hl _ hf
    obtain ⟨f, rfl⟩ : ∃ f, fu = f + 1 := ⟨fu - 1, by omega⟩
    have d : decide (n > 0) = false := decide_eq_false (by omega)
    rw [loopM_succ]
    dsimp only
    rw [d]
    exact ⟨acc, rfl, by omega⟩
  | succ q ih =>
    intro n acc fu hn hl h0 hf
    obtain ⟨f, rfl⟩ : ∃ f, fu = f + 1 := ⟨fu - 1, by omega⟩
    rw [loopM_succ]
    dsimp only
    by_cases hd : n > 0
    · rw [decide_eq_true hd, cond_true, catS_ex (by omega), bind_some, bind_some]
      dsimp only
      rw [wr_of (by omega) (by omega)]
      exact ih (n - 1) (acc ++ a) f (by omega) (by rw [List.length_append]; omega) (by omega) (by omega)
    · rw [decide_eq_false hd]
      exact ⟨acc, rfl, by omega⟩
theorem all_ex {m : Move} {k : Nat} (h : tinyM m) (hk : 10 ≤ k) : ∃ r, X.s_mvAll k m = some r ∧ r.length ≤ 1000 := by
  unfold X.s_mvAll X.s_mvTimes
  obtain ⟨r, e, hl⟩ := times_ex m.Steps h.1 4 m.Repeat [] k h.2.1 (by simp) h.2.2 (by omega)
  refine ⟨r, ?_, hl⟩
  refine (congrArg (fun o => Option.bind (Option.bind o _) _) e).trans ?_
  rfl
end Go.Proofs.XC
