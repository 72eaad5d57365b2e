/- Plain laws of the plain functions: no program, no memory. By AI agents; no person has read it. -/
import Derived.Test.YtjnablhfhdedfaaGreatDoorPX5
set_option linter.unusedVariables false
set_option linter.unusedSimpArgs false
set_option maxRecDepth 100000
set_option maxHeartbeats 40000000
namespace Go.Proofs.XC
open Go Go.RowKit
/-! ### The normal form of a movement -/
def chk (s : Str) (n t : Nat) : Prop := Lib.repeatL (s.take n) t = s
instance (s : Str) (n t : Nat) : Decidable (chk s n t) := inferInstanceAs (Decidable (_ = _))
def okR (s : Str) (r : Nat) : Prop := s.length / r ≤ 6 ∧ chk s (s.length / r) r
instance (s : Str) (r : Nat) : Decidable (okR s r) := inferInstanceAs (Decidable (_ ∧ _))
def nMv (s : Str) : Move × Bool := if s = [] then (⟨[], 1⟩, true) else if okR s 3 then (⟨s.take (s.length / 3), 3⟩, true) else if okR s 2 then (⟨s.take (s.length / 2), 2⟩, true) else if okR s 1 then (⟨s.take (s.length / 1), 1⟩, true) else (zMove, false)
theorem cut0 (s : Str) (n : Nat) (h : n ≤ s.length) : cutS s 0 (n : Int) = some (s.take n) := by
  unfold cutS
  rw [if_pos ⟨by omega, by omega, by omega⟩]
  simp
theorem i_moveOf_eq {k : Nat} {s : Str} (hs : s.length ≤ 2000000) (hk : 5 ≤ k) : X.i_moveOf k s = some (nMv s) := by
  obtain ⟨q, rfl⟩ : ∃ q, k = q + 4 := ⟨k - 4, by omega⟩
  unfold X.i_moveOf nMv
  rw [seq_eq]
  by_cases h0 : s = []
  · simp [h0, zMove]
  have hd : ∀ r : Nat, 1 ≤ r → r ≤ 3 → divI (s.length : Int) (r : Int) = some ((s.length / r : Nat) : Int) := by
    intro r h1 h3
    unfold divI
    rw [if_neg (by omega)]
    have : ((s.length : Int).tdiv (r : Int)) = ((s.length / r : Nat) : Int) := by
      rw [Int.tdiv_eq_ediv_of_nonneg (by omega)]
      exact (Int.natCast_ediv _ _).symm
    rw [this]
    have h5 := Nat.div_le_self s.length r
    generalize s.length / r = d at h5 ⊢
    rw [wr_of (by omega) (by omega)]
  have hle : ∀ r : Nat, s.length / r ≤ s.length := fun r => Nat.div_le_self _ _
  have step : ∀ r : Nat, 1 ≤ r → r ≤ 3 → (Option.bind (divI (List.length s : Int) (r : Int)) fun y6_4 => (Option.bind (cutS s 0 y6_4) fun y6_5 => (bif decide ((List.length y6_5 : Int) ≤ 6) then (Option.bind (X.strings_Repeat y6_5 (r : Int)) fun v7_6 => (bif (seq v7_6 s) then some (.inr (.inl ((⟨y6_5, (r : Int)⟩ : Move), true))) else some (.inl (wr ((r : Int) - 1))))) else some (.inl (wr ((r : Int) - 1)))))) = some (if okR s r then (.inr (.inl ((⟨s.take (s.length / r), (r : Int)⟩ : Move), true))) else (.inl (((r - 1 : Nat) : Int))) : Int ⊕ ((Move × Bool) ⊕ Unit)) := by
    intro r h1 h3
    have hw : wr ((r : Int) - 1) = ((r - 1 : Nat) : Int) := by rw [wr_of (by omega) (by omega)]; omega
    rw [hd r h1 h3, bind_some, cut0 s _ (hle r), bind_some, hw, repeat_eq (by omega) (by omega) (by rw [List.length_take]; have h5 := hle r; have h6 := Nat.min_le_left (s.length / r) s.length; omega), bind_some, seq_eq, Int.toNat_natCast]
    have hl : (s.take (s.length / r)).length = s.length / r := by rw [List.length_take]; exact Nat.min_eq_left (hle r)
    rw [hl]
    unfold okR chk
    by_cases h6 : s.length / r ≤ 6
    · have : decide (((s.length / r : Nat) : Int) ≤ 6) = true := by simp; omega
      rw [this]
      by_cases h7 : Lib.repeatL (s.take (s.length / r)) r = s <;> simp [h6, h7]
    · have : decide (((s.length / r : Nat) : Int) ≤ 6) = false := by simp; omega
      rw [this]
      simp [h6]
  have s3 := step 3 (by omega) (by omega)
  have s2 := step 2 (by omega) (by omega)
  have s1 := step 1 (by omega) (by omega)
  simp only [h0, decide_false, cond_false, if_false, loopM_succ]
  rw [show decide ((3 : Int) ≥ 1) = true from rfl, cond_true]
  refine (congrArg (fun o => orEl (Option.bind o _) _ _) s3).trans ?_
  by_cases h3 : okR s 3
  · simp [h3, bind_some, orEl]
  simp only [h3, if_false, bind_some]
  refine (congrArg (fun o => orEl (Option.bind (bif decide ((2 : Int) ≥ 1) then o else _) _) _ _) s2).trans ?_
  by_cases h2 : okR s 2
  · simp [h2, bind_some, orEl]
  simp only [h2, if_false, show decide ((2 : Int) ≥ 1) = true from rfl, cond_true, bind_some]
  refine (congrArg (fun o => orEl (Option.bind (bif decide ((1 : Int) ≥ 1) then o else _) _) _ _) s1).trans ?_
  by_cases h1 : okR s 1
  · simp [h1, bind_some, orEl]
  simp only [h1, if_false, show decide ((1 : Int) ≥ 1) = true from rfl, cond_true, bind_some]
  rfl
/-- What the inner loop finds. -/
def inn (s : Str) (n : Nat) : Option Nat := if chk s n 1 then some 1 else if chk s n 2 then some 2 else if chk s n 3 then some 3 else none
theorem inner_eq {k : Nat} {s : Str} {n : Nat} (hs : s.length ≤ 2000000) (hn : n ≤ s.length) (hk : 5 ≤ k) :
    loopM (fun (n6 : Int) => (bif decide (n6 ≤ 3) then (Option.bind (cutS s 0 (n : Int)) fun y9_2 => (Option.bind (X.s_mvTimes k y9_2 n6) fun v9_4 => (bif (seq v9_4 s) then (Option.bind (cutS s 0 (n : Int)) fun y10_2 => some (.inr (.inl ((⟨y10_2, n6⟩ : Move), true)))) else some (.inl (wr (n6 + 1)))))) else some (.inr (.inr ())))) k 1
      = some (match inn s n with | some t => (.inl ((⟨s.take n, (t : Int)⟩ : Move), true) : (Move × Bool) ⊕ Unit) | none => .inr ()) := by
  have hl : (s.take n).length ≤ 2000000 := by rw [List.length_take]; omega
  have t1 := s_mvTimes_eq hl 1 k (by omega) (by omega)
  have t2 := s_mvTimes_eq hl 2 k (by omega) (by omega)
  have t3 := s_mvTimes_eq hl 3 k (by omega) (by omega)
  rw [show ((1 : Nat) : Int) = 1 from rfl] at t1
  rw [show ((2 : Nat) : Int) = 2 from rfl] at t2
  rw [show ((3 : Nat) : Int) = 3 from rfl] at t3
  have w1 : wr ((1 : Int) + 1) = 2 := rfl
  have w2 : wr ((2 : Int) + 1) = 3 := rfl
  have w3 : wr ((3 : Int) + 1) = 4 := rfl
  have v2 : wr (2 : Int) = 2 := rfl
  have v3 : wr (3 : Int) = 3 := rfl
  have v4 : wr (4 : Int) = 4 := rfl
  obtain ⟨q, hq⟩ : ∃ q, k = q + 4 := ⟨k - 4, by omega⟩
  rw [show loopM _ k (1 : Int) = loopM _ (q + 4) (1 : Int) from by rw [← hq]]
  unfold inn chk
  simp only [loopM_succ, cut0 s n hn, bind_some, t1, t2, t3, seq_eq, w1, w2, w3]
  by_cases h1 : Lib.repeatL (s.take n) 1 = s
  · simp [h1, bind_some]
  by_cases h2 : Lib.repeatL (s.take n) 2 = s
  · simp [h1, h2, bind_some, t2, w1, v2]
  by_cases h3 : Lib.repeatL (s.take n) 3 = s
  · simp [h1, h2, h3, bind_some, t2, t3, w1, w2, v2, v3]
  · simp [h1, h2, h3, bind_some, t2, t3, w1, w2, w3, v2, v3, v4]
/-- What the outer loop finds, from n on, in j rounds. -/
def search (s : Str) : Nat → Nat → (Move × Bool) ⊕ Unit
  | _, 0 => .inr ()
  | n, j + 1 => if n ≤ s.length then match inn s n with
    | some t => .inl (⟨s.take n, (t : Int)⟩, true)
    | none => search s (n + 1) j
    else .inr ()
theorem s_mvOf_search {k : Nat} {s : Str} (hs : s.length ≤ 2000000) (h0 : s ≠ []) (hk : 10 ≤ k) : X.s_mvOf k s = some (match search s 1 6 with | .inl r => r | .inr _ => (zMove, false)) := by
  unfold X.s_mvOf
  rw [seq_eq]
  simp only [h0, decide_false, cond_false]
  have key : ∀ (j n q : Nat), n + j = 7 → j < q → loopM (fun (n2 : Int) => (bif decide (n2 ≤ 6) then (bif decide (n2 ≤ (List.length s : Int)) then (orEl (loopM (fun (n6 : Int) => (bif decide (n6 ≤ 3) then (Option.bind (cutS s 0 n2) fun y9_2 => (Option.bind (X.s_mvTimes k y9_2 n6) fun v9_4 => (bif (seq v9_4 s) then (Option.bind (cutS s 0 n2) fun y10_2 => some (.inr (.inl ((⟨y10_2, n6⟩ : Move), true)))) else some (.inl (wr (n6 + 1)))))) else some (.inr (.inr ())))) k 1) (fun r => some (.inr (.inl r))) (fun _ => some (.inl (wr (n2 + 1))))) else some (.inr (.inr ()))) else some (.inr (.inr ())))) q (n : Int) = some (search s n j) := by
    intro j
    induction j with
    | zero =>
      intro n q hn hq
      obtain ⟨p, rfl⟩ : ∃ p, q = p + 1 := ⟨q - 1, by omega⟩
      have hd : decide ((n : Int) ≤ 6) = false := by simp; omega
      rw [loopM_succ, hd]
      rfl
    | succ j ih =>
      intro n q hn hq
      obtain ⟨p, rfl⟩ : ∃ p, q = p + 1 := ⟨q - 1, by omega⟩
      have hd : decide ((n : Int) ≤ 6) = true := by simp; omega
      rw [loopM_succ, hd, cond_true, search]
      by_cases hl : n ≤ s.length
      · have hd2 : decide ((n : Int) ≤ (s.length : Int)) = true := by simp; omega
        rw [hd2, cond_true, inner_eq hs hl (by omega), if_pos hl]
        cases hi : inn s n with
        | some t => rfl
        | none =>
          have hw : wr ((n : Int) + 1) = ((n + 1 : Nat) : Int) := by rw [wr_of (by omega) (by omega)]; rfl
          simp only [orEl_inr, bind_some, hw]
          exact ih (n + 1) p (by omega) (by omega)
      · have hd2 : decide ((n : Int) ≤ (s.length : Int)) = false := by simp; omega
        rw [hd2, cond_false, if_neg hl]
        rfl
  have := key 6 1 k rfl (by omega)
  refine (congrArg (fun o => orEl o _ _) this).trans ?_
  cases search s 1 6 <;> rfl
theorem chk_len {s : Str} {n t : Nat} (hn : n ≤ s.length) (h : chk s n t) : t * n = s.length := by
  have := congrArg List.length h
  rw [Lib.repeatL_length, List.length_take, Nat.min_eq_left hn] at this
  exact this
theorem search_hit {s : Str} {t n0 : Nat} (hi : inn s n0 = some t) (hl : n0 ≤ s.length) : ∀ (j n : Nat), n ≤ n0 → n0 < n + j → (∀ m, n ≤ m → m < n0 → inn s m = none) → search s n j = .inl (⟨s.take n0, (t : Int)⟩, true)
  | 0, n, h1, h2, _ => by omega
  | j + 1, n, h1, h2, hno => by
    rw [search, if_pos (by omega)]
    by_cases h : n = n0
    · subst h
      rw [hi]
    · rw [hno n (Nat.le_refl _) (by omega)]
      exact search_hit hi hl j (n + 1) (by omega) (by omega) (fun m h3 h4 => hno m (by omega) h4)
theorem search_miss {s : Str} : ∀ (j n : Nat), (∀ m, n ≤ m → m < n + j → m ≤ s.length → inn s m = none) → search s n j = .inr ()
  | 0, n, _ => rfl
  | j + 1, n, hno => by
    rw [search]
    split
    · rename_i hl
      rw [hno n (Nat.le_refl _) (by omega) hl]
      exact search_miss j (n + 1) (fun m h3 h4 h5 => hno m (by omega) (by omega) h5)
    · rfl
theorem inn_none {s : Str} {n : Nat} (h1 : ¬ chk s n 1) (h2 : ¬ chk s n 2) (h3 : ¬ chk s n 3) : inn s n = none := by
  unfold inn
  rw [if_neg h1, if_neg h2, if_neg h3]
theorem okR_of {s : Str} {n t : Nat} (ht : 1 ≤ t) (hn : n ≤ s.length) (h6 : n ≤ 6) (h : chk s n t) : okR s t := by
  have hl := chk_len hn h
  have : s.length / t = n := by rw [← hl, Nat.mul_comm]; exact Nat.mul_div_cancel n ht
  unfold okR
  rw [this]
  exact ⟨h6, h⟩
theorem s_mvOf_eq {k : Nat} {s : Str} (hs : s.length ≤ 2000000) (hk : 10 ≤ k) : X.s_mvOf k s = some (nMv s) := by
  by_cases h0 : s = []
  · subst h0
    unfold X.s_mvOf nMv
    rw [seq_eq]
    simp [zMove]
  rw [s_mvOf_search hs h0 hk]
  unfold nMv
  rw [if_neg h0]
  have hpos : 0 < s.length := List.length_pos_iff.2 h0
  have hno : ∀ r, 1 ≤ r → okR s r → (∀ t, 1 ≤ t → t ≤ 3 → r < t → ¬ okR s t) → inn s (s.length / r) = some r ∨ 3 < r := by
    intro r hr ho hgt
    have hle := Nat.div_le_self s.length r
    have hl := chk_len hle ho.2
    have hn0 : 0 < s.length / r := by
      rcases Nat.eq_zero_or_pos (s.length / r) with h | h
      · rw [h] at hl; omega
      · exact h
    have un : ∀ t, chk s (s.length / r) t → t = r := by
      intro t ht
      have h9 := chk_len hle ht
      exact Nat.eq_of_mul_eq_mul_right hn0 (h9.trans hl.symm)
    by_cases h3 : 3 < r
    · exact .inr h3
    · left
      have hr2 : r = 1 ∨ r = 2 ∨ r = 3 := by omega
      unfold inn
      rcases hr2 with h | h | h <;> subst h
      · rw [if_pos ho.2]
      · rw [if_neg (fun h => by have := un 1 h; omega), if_pos ho.2]
      · rw [if_neg (fun h => by have := un 1 h; omega), if_neg (fun h => by have := un 2 h; omega), if_pos ho.2]
  have hit : ∀ r, 1 ≤ r → r ≤ 3 → okR s r → (∀ t, 1 ≤ t → t ≤ 3 → r < t → ¬ okR s t) → search s 1 6 = .inl (⟨s.take (s.length / r), (r : Int)⟩, true) := by
    intro r hr h3 ho hgt
    have hle := Nat.div_le_self s.length r
    have hl := chk_len hle ho.2
    have hn0 : 0 < s.length / r := by
      rcases Nat.eq_zero_or_pos (s.length / r) with h | h
      · rw [h] at hl; omega
      · exact h
    have h6 := ho.1
    rcases hno r hr ho hgt with h | h
    · refine search_hit h hle 6 1 hn0 (by omega) (fun m h1 h2 => ?_)
      have bad : ∀ t, 1 ≤ t → t ≤ 3 → ¬ chk s m t := by
        intro t ht1 ht3 hc
        have hc2 := chk_len (by omega) hc
        have ok := okR_of ht1 (by omega) (by omega) hc
        refine hgt t ht1 ht3 ?_ ok
        rcases Nat.lt_or_ge r t with h | h
        · exact h
        · exfalso
          have h7 : t * m ≤ r * m := Nat.mul_le_mul_right m h
          have h8 : r * m < r * (s.length / r) := Nat.mul_lt_mul_of_pos_left h2 (by omega)
          omega
      exact inn_none (bad 1 (by omega) (by omega)) (bad 2 (by omega) (by omega)) (bad 3 (by omega) (by omega))
    · omega
  by_cases h3 : okR s 3
  · rw [if_pos h3, hit 3 (by omega) (by omega) h3 (fun t h1 h2 h3 => by omega)]
    rfl
  rw [if_neg h3]
  by_cases h2 : okR s 2
  · rw [if_pos h2, hit 2 (by omega) (by omega) h2 (fun t h1 h4 h5 => by
      have h6 : t = 3 := by omega
      rw [h6]
      exact h3)]
    rfl
  rw [if_neg h2]
  by_cases h1 : okR s 1
  · rw [if_pos h1, hit 1 (by omega) (by omega) h1 (fun t h6 h4 h5 => by
      have h7 : t = 2 ∨ t = 3 := by omega
      rcases h7 with h | h
      · rw [h]; exact h2
      · rw [h]; exact h3)]
    rfl
  rw [if_neg h1, search_miss 6 1 (fun m h4 h5 h6 => inn_none (fun h => h1 (okR_of (by omega) h6 (by omega) h)) (fun h => h2 (okR_of (by omega) h6 (by omega) h)) (fun h => h3 (okR_of (by omega) h6 (by omega) h)))]
end Go.Proofs.XC
