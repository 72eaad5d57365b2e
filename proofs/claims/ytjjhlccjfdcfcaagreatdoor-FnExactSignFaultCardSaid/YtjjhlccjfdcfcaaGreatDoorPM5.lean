/- Plain laws of the plain functions: no program, no memory. By AI agents; no person has read it. -/
import Derived.Test.YtjjhlccjfdcfcaaGreatDoorPM4
set_option linter.unusedVariables false
set_option linter.unusedSimpArgs false
set_option maxRecDepth 100000
set_option maxHeartbeats 40000000
namespace Go.Proofs.XC
open Go Go.RowKit
/-! ### Hands and signs, parsed; what is first wrong -/
theorem spC_part (x : UInt8) : ∀ (r cur : Str), ∀ p ∈ spC x cur r, p.length ≤ cur.length + r.length
  | [], cur, p, hp => by
    rw [spC, List.mem_singleton] at hp
    subst hp
    simp
  | y :: r, cur, p, hp => by
    rw [spC] at hp
    by_cases hx : y = x
    · rw [if_pos hx] at hp
      rcases List.mem_cons.1 hp with rfl | hp
      · simp
      · have := spC_part x r [] p hp
        simp only [List.length_nil, List.length_cons] at this ⊢
        omega
    · rw [if_neg hx] at hp
      have := spC_part x r (cur ++ [y]) p hp
      simp only [List.length_append, List.length_cons, List.length_nil] at this ⊢
      omega
def o1 (a : Str) : Int := wr (0 + (wr ((List.length a : Int) + 1)))
def o2 (a b : Str) : Int := wr (o1 a + (wr ((List.length b : Int) + 1)))
def o3 (a b c : Str) : Int := wr (o2 a b + (wr ((List.length c : Int) + 1)))
theorem rh_loop (j : Nat) (a b c d : Str) (b1 b2 b3 b4 : Bool) (h : Hand) : (orEl (loopM (fun (⟨n2, n3⟩ : Int × Int) => (bif decide (n3 < 4) then (Option.bind (getI ([b1, b2, b3, b4] : List Bool) n3) fun y13_1 => (bif (!y13_1) then some (.inr (.inl (zHand, (wr (3 + n3)), n2))) else (Option.bind (getI [a, b, c, d] n3) fun y16_3 => some (.inl ((wr (n2 + (wr ((List.length y16_3 : Int) + 1)))), (wr (n3 + 1))))))) else some (.inr (.inr ())))) (j + 5) (0, 0)) (fun r => some r) (fun _ => some (h, 0, 0))) =
    some (bif !b1 then (zHand, 3, 0) else bif !b2 then (zHand, 4, o1 a) else bif !b3 then (zHand, 5, o2 a b) else bif !b4 then (zHand, 6, o3 a b c) else (h, 0, 0)) := by
  cases b1
  · kernel_rfl
  cases b2
  · kernel_rfl
  cases b3
  · kernel_rfl
  cases b4 <;> kernel_rfl
theorem hands {k : Nat} (s : Str) (hl : s.length ≤ 1000) (hk : 2000010 ≤ k) : ∃ r, X.i_readHand k s = some r ∧ X.s_paHand k s = some r ∧ (r.2.1 = 0 → gHand r.1 = true) := by
  have hls := lsC_eq 47 (k := k) s hl (by omega)
  rw [show (((47 : UInt8).toNat : Nat) : Int) = 47 from rfl] at hls
  have hpart := spC_part 47 s []
  unfold X.i_readHand X.s_paHand
  rw [hls, split_eq 47 s hl, bind_some, bind_some]
  by_cases h4 : (spC 47 [] s).length = 4
  · generalize spC 47 [] s = w at h4 hpart
    match w, h4 with
    | [a, b, c, d], _ =>
      have e4 : (((List.length [a, b, c, d] : Nat) : Int) != 4) = false := rfl
      have hd : d.length ≤ 1000 := by
        have := hpart d (by simp)
        simp only [List.length_nil] at this
        omega
      obtain ⟨j1, rfl⟩ : ∃ j, k = j + 6 := ⟨k - 6, by omega⟩
      obtain ⟨⟨v1, b1⟩, i1, s1, q1⟩ := shapes j1 a
      obtain ⟨j2, e2⟩ : ∃ j, j1 + 6 = j + 7 := ⟨j1 - 1, by omega⟩
      obtain ⟨⟨v2, b2⟩, i2, s2, q2⟩ := orients j2 b
      obtain ⟨j3, e3⟩ : ∃ j, j1 + 6 = j + 61 := ⟨j1 + 6 - 61, by omega⟩
      obtain ⟨⟨v3, b3⟩, i3, s3, q3⟩ := places j3 c
      obtain ⟨⟨v4, b4⟩, i4, s4, q4⟩ := moves (k := j1 + 6) d hd hk
      rw [← e2] at s2
      rw [← e3] at i3 s3
      have g0 : getI [a, b, c, d] 0 = some a := rfl
      have g1 : getI [a, b, c, d] 1 = some b := rfl
      have g2 : getI [a, b, c, d] 2 = some c := rfl
      have g3 : getI [a, b, c, d] 3 = some d := rfl
      have z0 : getI ([false, false, false, false] : List Bool) 0 = some false := rfl
      have z1 : getI ([b1, false, false, false] : List Bool) 1 = some false := rfl
      have z2 : getI ([b1, b2, false, false] : List Bool) 2 = some false := rfl
      have z3 : getI ([b1, b2, b3, false] : List Bool) 3 = some false := rfl
      rw [e4]
      simp only [cond_false, g0, g1, g2, g3, bind_some, i1, i2, i3, i4, s1, s2, s3, s4, z0, z1, z2, z3]
      obtain ⟨j5, e5⟩ : ∃ j, j1 + 6 = j + 5 := ⟨j1 + 1, by omega⟩
      have hL := rh_loop j5 a b c d b1 b2 b3 b4 ⟨v1, v2, v3, v4⟩
      rw [← e5] at hL
      refine ⟨_, hL, ?_, ?_⟩
      · cases b1
        · rfl
        cases b2
        · rfl
        cases b3
        · rfl
        cases b4 <;> rfl
      · cases b1
        · intro h; cases h
        cases b2
        · intro h; cases h
        cases b3
        · intro h; cases h
        cases b4
        · intro h; cases h
        exact fun _ => gHand_iff.2 ⟨q1 rfl, q2 rfl, q3 rfl, q4 rfl⟩
  · have e4 : (((List.length (spC 47 [] s) : Nat) : Int) != 4) = true := by
      rw [bne_iff_ne]
      omega
    rw [e4]
    exact ⟨(zHand, 2, 0), rfl, rfl, fun h => by cases h⟩
theorem signs {k : Nat} (s : Str) (hl : s.length ≤ 1000) (hk : 2000010 ≤ k) : ∃ r, X.i_readSign k s = some r ∧ X.s_paParse k s = some r := by
  have hls := lsC_eq 43 (k := k) s hl (by omega)
  rw [show (((43 : UInt8).toNat : Nat) : Int) = 43 from rfl] at hls
  have hcnt := spC_count 43 s []
  unfold X.i_readSign X.s_paParse
  rw [hls, count_eq, bind_some, bind_some]
  have ed : decide (((s.count 43 : Nat) : Int) > 1) = decide (((List.length (spC 43 [] s) : Nat) : Int) > 2) := by
    apply decide_eq_decide.2
    omega
  rw [ed]
  cases hd : decide (((List.length (spC 43 [] s) : Nat) : Int) > 2)
  case true => exact ⟨_, rfl, rfl⟩
  have hd := of_decide_eq_false hd
  rw [cond_false, cond_false]
  rcases cut_cases 43 s hl with ⟨hm, hsp, hcut⟩ | ⟨p, q, rfl, hp, hsp, hcut⟩
  · obtain ⟨⟨v, f, at_⟩, i1, s1, q1⟩ := hands s hl hk
    have g0 : getI [s] 0 = some s := rfl
    have l1 : (((List.length [s] : Nat) : Int) == 1) = true := rfl
    rw [hcut, hsp, bind_some, g0, bind_some, l1]
    simp only [i1, s1, bind_some]
    cases (f != 0) <;> exact ⟨_, rfl, rfl⟩
  · have hq : (43 : UInt8) ∉ q := by
      intro hq
      rw [hsp, List.length_cons, spC_count] at hd
      have : 0 < q.count 43 := List.count_pos_iff.2 hq
      omega
    have hpl : p.length ≤ 1000 ∧ q.length ≤ 1000 := by
      simp only [List.length_append, List.length_cons] at hl
      omega
    rw [spC_none 43 q [] hq, List.nil_append] at hsp
    obtain ⟨⟨v, f, at_⟩, i1, s1, q1⟩ := hands p hpl.1 hk
    obtain ⟨⟨v', f', at'⟩, i2, s2, q2⟩ := hands q hpl.2 hk
    have g0 : getI [p, q] 0 = some p := rfl
    have g1 : getI [p, q] 1 = some q := rfl
    have l1 : (((List.length [p, q] : Nat) : Int) == 1) = false := rfl
    rw [hcut, hsp, bind_some, g0, bind_some, l1, g1]
    simp only [i1, s1, bind_some]
    by_cases hf : f = 0
    case neg =>
      have : (f != 0) = true := by rw [bne_iff_ne]; exact hf
      rw [this]
      exact ⟨_, rfl, rfl⟩
    subst hf
    have e0 : ((0 : Int) != 0) = false := rfl
    rw [e0]
    simp only [cond_false, Bool.not_true, i2, s2, bind_some]
    by_cases hf : f' = 0
    case neg =>
      have : (f' != 0) = true := by rw [bne_iff_ne]; exact hf
      rw [this]
      exact ⟨_, rfl, rfl⟩
    subst hf
    rw [e0]
    have m1 := (gHand_iff.1 (q1 rfl)).2.2.2
    have m2 := (gHand_iff.1 (q2 rfl)).2.2.2
    obtain ⟨j, rfl⟩ : ∃ j, k = j + 6 := ⟨k - 6, by omega⟩
    simp only [cond_false, i_keepRules_eq j m1 m2, s_siBroken_eq m1 m2 (show 10 ≤ j + 6 by omega), bind_some]
    have hv := vBroken_iff v v'
    have e : (vBroken v v' != 0) = !(gKeep v v') := by rw [← hv]; rfl
    rw [e]
    cases gKeep v v' <;> exact ⟨_, rfl, rfl⟩
theorem Pure.FnExactSignFault (t : Str) (ht : okS t) : X.l_FnExactSignFault 3000000 t = some true := by
  unfold X.l_FnExactSignFault
  cases decide ((List.length t : Int) > 1048576)
  case true => rfl
  rw [cond_false]
  unfold X.s_SignFault X.i_SignFault X.s_paGiven
  by_cases h : t.length ≤ 200
  · have e1 : decide ((List.length t : Int) ≤ 200) = true := decide_eq_true (by omega)
    have e2 : decide ((List.length t : Int) > 200) = false := decide_eq_false (by omega)
    obtain ⟨⟨v, f, at_⟩, i1, s1⟩ := signs (k := 3000000) t (by omega) (by omega)
    rw [e1, e2]
    simp only [bind_some, Bool.not_true, cond_false, i1, s1]
    simp
  · have e1 : decide ((List.length t : Int) ≤ 200) = false := decide_eq_false (by omega)
    have e2 : decide ((List.length t : Int) > 200) = true := decide_eq_true (by omega)
    rw [e1, e2]
    rfl
end Go.Proofs.XC
