/- Plain laws of the plain functions: no program, no memory. By AI agents; no person has read it. -/
import Derived.Test.YtjjhlccjfdcfcaaGreatDoorPM3
set_option linter.unusedVariables false
set_option linter.unusedSimpArgs false
set_option maxRecDepth 100000
set_option maxHeartbeats 40000000
namespace Go.Proofs.XC
open Go Go.RowKit
/-! ### Movements, parsed -/
def FM (m : Move) (s : Str) : Move × Bool := bif gMove m && decide (tMove m = s) then (m, true) else (zMove, false)
theorem i_fin (m : Move) (s : Str) (hl : m.Steps.length ≤ 2000000) : (Option.bind (X.i_IsMove m) fun v7_1 => (bif (!v7_1) then some (zMove, false) else (Option.bind (X.i_Move_text m) fun v7_5 => (bif (!seq v7_5 s) then some (zMove, false) else some (m, true))))) = some (FM m s) := by
  rw [i_IsMove_eq m hl, bind_some]
  unfold FM
  cases hg : gMove m
  · rfl
  rw [Bool.not_true, cond_false, i_Move_text_eq hg, bind_some, seq_eq, Bool.true_and]
  cases decide (tMove m = s) <;> rfl
theorem s_fin {k : Nat} (m : Move) (s : Str) (hl : m.Steps.length ≤ 2000000) (hk : 2000010 ≤ k) : (Option.bind (X.s_mvGood k m) fun v7_5 => (bif (!v7_5) then some (zMove, false) else (Option.bind (X.s_mvText k m) fun v7_10 => (bif (!seq v7_10 s) then some (zMove, false) else some (m, true))))) = some (FM m s) := by
  rw [s_mvGood_eq k m hl hk, bind_some]
  unfold FM
  cases hg : gMove m
  · rfl
  obtain ⟨j, rfl⟩ : ∃ j, k = j + 1 := ⟨k - 1, by omega⟩
  rw [Bool.not_true, cond_false, s_mvText_eq j hg, bind_some, seq_eq, Bool.true_and]
  cases decide (tMove m = s) <;> rfl
/-- The good movement whose text it is, if there is one. -/
def RMv (s : Str) (r : Move × Bool) : Prop := (r.2 = true ∧ gMove r.1 = true ∧ tMove r.1 = s) ∨ (r = (zMove, false) ∧ ∀ p, gMove p = true → tMove p ≠ s)
theorem RMv.uniq {s : Str} {r r' : Move × Bool} (h : RMv s r) (h' : RMv s r') : r = r' := by
  rcases h with ⟨a1, a2, a3⟩ | ⟨rfl, a⟩
  · rcases h' with ⟨b1, b2, b3⟩ | ⟨rfl, b⟩
    · obtain ⟨p, q⟩ := r
      obtain ⟨p', q'⟩ := r'
      dsimp only at a1 a2 a3 b1 b2 b3
      rw [a1, b1, tMove_inj a2 b2 (a3.trans b3.symm)]
    · exact absurd a3 (b _ a2)
  · rcases h' with ⟨b1, b2, b3⟩ | ⟨rfl, b⟩
    · exact absurd b3 (a _ b2)
    · rfl
theorem FM_R {m : Move} {s : Str} (h : ∀ v, gMove v = true → tMove v = s → v = m) : RMv s (FM m s) := by
  unfold FM
  cases hg : gMove m
  · refine .inr ⟨rfl, fun v gv tv => ?_⟩
    have := h v gv tv
    subst this
    rw [hg] at gv
    cases gv
  by_cases ht : tMove m = s
  · rw [decide_eq_true ht]
    exact .inl ⟨rfl, hg, ht⟩
  · rw [decide_eq_false ht]
    refine .inr ⟨rfl, fun v gv tv => ?_⟩
    have := h v gv tv
    subst this
    exact ht tv
theorem FM_good {m : Move} {s : Str} (h : (FM m s).2 = true) : gMove (FM m s).1 = true := by
  unfold FM at h ⊢
  cases hg : gMove m
  · rw [hg] at h; cases h
  · rw [hg] at h
    cases hd : decide (tMove m = s)
    · rw [hd] at h; cases h
    · exact hg
/-- A good movement whose text has a star. -/
theorem star_move {v : Move} {p q : Str} (gv : gMove v = true) (tv : tMove v = p ++ 42 :: q) (hp : (42 : UInt8) ∉ p) : v.Steps = p ∧ ((v.Repeat = 2 ∧ q = [50]) ∨ (v.Repeat = 3 ∧ q = [51])) := by
  obtain ⟨h1, h2, h3, h4⟩ := gMove_iff.1 gv
  have hm : (42 : UInt8) ∈ tMove v := by rw [tv]; simp
  have hs : (42 : UInt8) ∉ v.Steps := dir_not h2 rfl
  unfold tMove at tv hm
  by_cases e0 : v.Steps = []
  · rw [if_pos e0] at hm
    simp at hm
  rw [if_neg e0] at tv hm
  by_cases e1 : v.Repeat = 1
  · rw [if_pos e1] at hm
    exact absurd hm hs
  rw [if_neg e1] at tv
  have e2 : v.Steps ++ 42 :: [dig v.Repeat] = p ++ 42 :: q := by rw [← tv]; simp
  have e3 := congrArg (spC 42 []) e2
  rw [spC_app 42 _ _ [] hs, spC_app 42 _ _ [] hp] at e3
  injection e3 with e3 _
  have e3 : v.Steps = p := by simpa using e3
  rw [e3] at e2
  have e4 := List.append_cancel_left e2
  injection e4 with _ e4
  refine ⟨e3, ?_⟩
  have : v.Repeat = 2 ∨ v.Repeat = 3 := by omega
  rcases this with h | h
  · exact .inl ⟨h, by rw [← e4, h]; rfl⟩
  · exact .inr ⟨h, by rw [← e4, h]; rfl⟩
theorem dec_ex (q : Str) (hl : q.length ≤ 1000) : ∃ z, X.i_decimal q = some z := by
  unfold X.i_decimal
  rw [decide_eq_true (by omega), cond_true]
  rcases Lib.atoiAll q with v | _ | _
  · dsimp only
    cases h : seq (Lib.itoa v) q
    · exact ⟨(0, false), rfl⟩
    · exact ⟨(v, true), rfl⟩
  · exact ⟨_, rfl⟩
  · exact ⟨_, rfl⟩
theorem dec2 : X.i_decimal [50] = some (2, true) := by
  have h1 : Lib.atoiAll [50] = .ok 2 := by kernel_rfl
  have h2 : Lib.itoa 2 = [50] := by
    unfold Lib.itoa
    rw [if_neg (by decide), Lib.decDigits, dif_pos (by decide)]
    rfl
  unfold X.i_decimal
  rw [decide_eq_true (by decide), cond_true, h1]
  dsimp only
  rw [h2, seq_eq, decide_eq_true rfl]
  rfl
theorem dec3 : X.i_decimal [51] = some (3, true) := by
  have h1 : Lib.atoiAll [51] = .ok 3 := by kernel_rfl
  have h2 : Lib.itoa 3 = [51] := by
    unfold Lib.itoa
    rw [if_neg (by decide), Lib.decDigits, dif_pos (by decide)]
    rfl
  unfold X.i_decimal
  rw [decide_eq_true (by decide), cond_true, h1]
  dsimp only
  rw [h2, seq_eq, decide_eq_true rfl]
  rfl
theorem rd2 (k : Nat) : X.s_l1Read (k + 3) [50] = some 2 := by kernel_rfl
theorem rd3 (k : Nat) : X.s_l1Read (k + 3) [51] = some 3 := by kernel_rfl
theorem moves {k : Nat} (s : Str) (hl : s.length ≤ 1000) (hk : 2000010 ≤ k) : ∃ r, X.i_ParseMove s = some r ∧ X.s_mvParse k s = some r ∧ (r.2 = true → gMove r.1 = true) := by
  have hls := lsC_eq 42 (k := k) s hl (by omega)
  rw [show (((42 : UInt8).toNat : Nat) : Int) = 42 from rfl] at hls
  unfold X.i_ParseMove X.s_mvParse
  rw [hls, bind_some]
  rcases cut_cases 42 s hl with ⟨hm, hsp, hcut⟩ | ⟨p, q, rfl, hp, hsp, hcut⟩
  · rw [hcut, hsp, bind_some]
    have g0 : getI [s] 0 = some s := rfl
    have l1 : (((List.length [s] : Nat) : Int) == 2) = false := rfl
    have l2 : decide (((List.length [s] : Nat) : Int) > 2) = false := rfl
    rw [g0, bind_some, l1, l2]
    simp only [cond_false]
    cases h45 : seq s [45]
    · simp only [cond_false]
      rw [i_fin ⟨s, 1⟩ s (by dsimp only; omega), s_fin ⟨s, 1⟩ s (by dsimp only; omega) hk]
      exact ⟨_, rfl, rfl, FM_good⟩
    · simp only [cond_true]
      rw [i_fin ⟨[], 1⟩ s (by simp), s_fin ⟨[], 1⟩ s (by simp) hk]
      exact ⟨_, rfl, rfl, FM_good⟩
  · rw [hcut, hsp, bind_some]
    have hpl : p.length ≤ 1000 ∧ q.length ≤ 1000 := by
      simp only [List.length_append, List.length_cons] at hl
      omega
    have g0 : getI (p :: spC 42 [] q) 0 = some p := rfl
    have h45 : seq (p ++ 42 :: q) [45] = false := by
      rw [seq_eq]
      apply decide_eq_false
      intro e
      have : (42 : UInt8) ∈ ([45] : Str) := by rw [← e]; simp
      simp at this
    obtain ⟨z, hz⟩ := dec_ex q hpl.2
    rw [g0, bind_some, h45]
    simp only [cond_true, cond_false, hz, bind_some]
    rw [i_fin ⟨p, z.1⟩ _ (by dsimp only; omega)]
    have Ri : RMv (p ++ 42 :: q) (FM ⟨p, z.1⟩ (p ++ 42 :: q)) := FM_R fun v gv tv => by
      obtain ⟨e1, e2⟩ := star_move gv tv hp
      obtain ⟨st, rp⟩ := v
      dsimp only at e1 e2
      subst e1
      rcases e2 with ⟨rfl, rfl⟩ | ⟨rfl, rfl⟩
      · rw [dec2] at hz
        obtain rfl := Option.some.inj hz
        rfl
      · rw [dec3] at hz
        obtain rfl := Option.some.inj hz
        rfl
    have key : ∃ r, RMv (p ++ 42 :: q) r ∧ (bif (((List.length (p :: spC 42 [] q) : Nat) : Int) == 2) then (Option.bind (getI (p :: spC 42 [] q) 1) fun y6_1 => (Option.bind (X.s_l1Read k y6_1) fun v6_3 => (bif decide (((List.length (p :: spC 42 [] q) : Nat) : Int) > 2) then some (zMove, false) else (Option.bind (X.s_mvGood k (⟨p, v6_3⟩ : Move)) fun v7_5 => (bif (!v7_5) then some (zMove, false) else (Option.bind (X.s_mvText k (⟨p, v6_3⟩ : Move)) fun v7_10 => (bif (!seq v7_10 (p ++ 42 :: q)) then some (zMove, false) else some ((⟨p, v6_3⟩ : Move), true)))))))) else (bif decide (((List.length (p :: spC 42 [] q) : Nat) : Int) > 2) then some (zMove, false) else (Option.bind (X.s_mvGood k (⟨p, 1⟩ : Move)) fun v7_5 => (bif (!v7_5) then some (zMove, false) else (Option.bind (X.s_mvText k (⟨p, 1⟩ : Move)) fun v7_10 => (bif (!seq v7_10 (p ++ 42 :: q)) then some (zMove, false) else some ((⟨p, 1⟩ : Move), true))))))) = some r := by
      by_cases hq : (42 : UInt8) ∈ q
      · have hc := spC_count 42 q []
        have hpos : 0 < q.count 42 := List.count_pos_iff.2 hq
        have l1 : (((List.length (p :: spC 42 [] q) : Nat) : Int) == 2) = false := by
          rw [beq_eq_false_iff_ne, List.length_cons]
          omega
        have l2 : decide (((List.length (p :: spC 42 [] q) : Nat) : Int) > 2) = true := by
          apply decide_eq_true
          rw [List.length_cons]
          omega
        rw [l1, l2]
        refine ⟨(zMove, false), .inr ⟨rfl, fun v gv tv => ?_⟩, rfl⟩
        obtain ⟨_, e2⟩ := star_move gv tv hp
        rcases e2 with ⟨_, rfl⟩ | ⟨_, rfl⟩ <;> simp at hq
      · rw [spC_none 42 q [] hq, List.nil_append]
        obtain ⟨x, hx, _⟩ := read_ex (k := k) q hk
        have g1 : getI [p, q] 1 = some q := rfl
        have l1 : (((List.length [p, q] : Nat) : Int) == 2) = true := rfl
        have l2 : decide (((List.length [p, q] : Nat) : Int) > 2) = false := rfl
        rw [l1, l2, g1, cond_true, bind_some, hx, bind_some, cond_false, s_fin ⟨p, x⟩ _ (by dsimp only; omega) hk]
        refine ⟨_, FM_R fun v gv tv => ?_, rfl⟩
        obtain ⟨e1, e2⟩ := star_move gv tv hp
        obtain ⟨st, rp⟩ := v
        dsimp only at e1 e2
        subst e1
        obtain ⟨j, rfl⟩ : ∃ j, k = j + 3 := ⟨k - 3, by omega⟩
        rcases e2 with ⟨rfl, rfl⟩ | ⟨rfl, rfl⟩
        · rw [rd2] at hx
          obtain rfl := Option.some.inj hx
          rfl
        · rw [rd3] at hx
          obtain rfl := Option.some.inj hx
          rfl
    obtain ⟨r, hr, e⟩ := key
    have := Ri.uniq hr
    subst this
    exact ⟨_, rfl, e, FM_good⟩
end Go.Proofs.XC
