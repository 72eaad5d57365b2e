/- Plain laws of the plain functions: no program, no memory. By AI agents; no person has read it. -/
import Derived.Test.YtjnablhfhdedfaaGreatDoorPY5
set_option linter.unusedVariables false
set_option linter.unusedSimpArgs false
set_option maxRecDepth 100000
set_option maxHeartbeats 40000000
namespace Go.Proofs.XC
open Go Go.RowKit
/-! ### Texts of marks -/
theorem mt_loop : ∀ (d K : Nat) (n : Int) (t : Str), 0 ≤ n → n ≤ 9223372036854775807 → n < (10 : Int) ^ d → t.length + d ≤ 100 → d < K → ∃ r : Str, r.length ≤ 100 ∧ loopM (fun (x : Int × Str) => match x with | (n2, t3) => (bif decide (n2 > 0) then (Option.bind (catS (strOf ([(wk .u8 (wr (48 + (Int.tmod n2 10))))] : List Int)) t3) fun y5_7 => some (.inl ((wr (Int.tdiv n2 10)), y5_7))) else some (.inr t3))) K (n, t) = some r := by
  intro d
  induction d with
  | zero =>
    intro K n t h0 hb h1 hl hK
    obtain ⟨K, rfl⟩ : ∃ q, K = q + 1 := ⟨K - 1, by omega⟩
    have : n = 0 := by simp at h1; omega
    subst this
    exact ⟨t, by omega, rfl⟩
  | succ d ih =>
    intro K n t h0 hb h1 hl hK
    obtain ⟨K, rfl⟩ : ∃ q, K = q + 1 := ⟨K - 1, by omega⟩
    rw [loopM_succ]
    by_cases hn : n > 0
    · have e : decide (n > 0) = true := by simpa using hn
      simp only [e, cond_true]
      have hdiv : Int.tdiv n 10 = n / 10 := Int.tdiv_eq_ediv_of_nonneg h0
      rw [catS_of (by simp [strOf]; omega), bind_some, bind_some, hdiv, wr_of (by omega) (by omega)]
      refine ih K (n / 10) _ (by omega) (by omega) ?_ (by simp [strOf]; omega) (by omega)
      rw [Int.pow_succ] at h1
      omega
    · have e : decide (n > 0) = false := by simpa using hn
      simp only [e, cond_false]
      exact ⟨t, by omega, rfl⟩
def mt (z : Int) : Str := (X.l_markText 3000000 z).getD []
theorem mt_of {z : Int} (h : z ≤ 9223372036854775807) : X.l_markText 3000000 z = some (mt z) := by
  have key : ∃ t, X.l_markText 3000000 z = some t := by
    unfold X.l_markText
    by_cases hz : z ≤ 0
    · exact ⟨[109, 48], by simp [hz]⟩
    · have hd : decide (z ≤ 0) = false := by simp; omega
      rw [hd, cond_false]
      have hp : z < (10 : Int) ^ 20 := by
        have : (10 : Int) ^ 20 = 100000000000000000000 := by decide
        omega
      obtain ⟨r, hr, h2⟩ := mt_loop 20 3000000 z [] (by omega) h hp (by simp) (by omega)
      refine ⟨109 :: r, ?_⟩
      rw [h2, bind_some, catS_of (by simp; omega)]
      rfl
  obtain ⟨t, ht⟩ := key
  rw [mt, ht]
  rfl
theorem wr_le (z : Int) : wr z ≤ 9223372036854775807 := by
  show IntKind.i64.wrap z ≤ _
  rw [IntKind.wrap_i64]
  omega
theorem mt_wr (z : Int) : X.l_markText 3000000 (wr z) = some (mt (wr z)) := mt_of (wr_le z)
theorem wr_up {z : Int} (h0 : 0 ≤ z) (h1 : z ≤ 3000000000000) : wr (z + 1) = z + 1 := wr_of (by omega) (by omega)
theorem ne_i (z : Int) : (z != z) = false := by simp
theorem ne_b (b : Bool) : (!(b == b)) = false := by simp
theorem ne_s (s : Str) : (!(seq s s)) = false := by rw [seq_eq]; simp
def mkSign (q : Int) : Sign := (⟨(⟨(⟨q, (wr (q + 1)), (wr ((wr (q + 1)) + 1)), (wr ((wr ((wr (q + 1)) + 1)) + 1)), (wr ((wr ((wr ((wr (q + 1)) + 1)) + 1)) + 1)), ((Int.tmod (wr ((wr ((wr ((wr ((wr (q + 1)) + 1)) + 1)) + 1)) + 1)) 3) == 0)⟩ : Shape), (⟨(wr ((wr ((wr ((wr ((wr ((wr (q + 1)) + 1)) + 1)) + 1)) + 1)) + 1)), (wr ((wr ((wr ((wr ((wr ((wr ((wr (q + 1)) + 1)) + 1)) + 1)) + 1)) + 1)) + 1))⟩ : Orient), (⟨(wr ((wr ((wr ((wr ((wr ((wr ((wr ((wr (q + 1)) + 1)) + 1)) + 1)) + 1)) + 1)) + 1)) + 1)), (wr ((wr ((wr ((wr ((wr ((wr ((wr ((wr ((wr (q + 1)) + 1)) + 1)) + 1)) + 1)) + 1)) + 1)) + 1)) + 1)), ((Int.tmod (wr ((wr ((wr ((wr ((wr ((wr ((wr ((wr ((wr ((wr (q + 1)) + 1)) + 1)) + 1)) + 1)) + 1)) + 1)) + 1)) + 1)) + 1)) 3) == 0)⟩ : Place), (⟨(mt (wr ((wr ((wr ((wr ((wr ((wr ((wr ((wr ((wr ((wr ((wr (q + 1)) + 1)) + 1)) + 1)) + 1)) + 1)) + 1)) + 1)) + 1)) + 1)) + 1))), (wr ((wr ((wr ((wr ((wr ((wr ((wr ((wr ((wr ((wr ((wr ((wr (q + 1)) + 1)) + 1)) + 1)) + 1)) + 1)) + 1)) + 1)) + 1)) + 1)) + 1)) + 1))⟩ : Move)⟩ : Hand), ((Int.tmod (wr ((wr ((wr ((wr ((wr ((wr ((wr ((wr ((wr ((wr ((wr ((wr ((wr (q + 1)) + 1)) + 1)) + 1)) + 1)) + 1)) + 1)) + 1)) + 1)) + 1)) + 1)) + 1)) + 1)) 3) == 0), (⟨(⟨(wr ((wr ((wr ((wr ((wr ((wr ((wr ((wr ((wr ((wr ((wr ((wr ((wr ((wr (q + 1)) + 1)) + 1)) + 1)) + 1)) + 1)) + 1)) + 1)) + 1)) + 1)) + 1)) + 1)) + 1)) + 1)), (wr ((wr ((wr ((wr ((wr ((wr ((wr ((wr ((wr ((wr ((wr ((wr ((wr ((wr ((wr (q + 1)) + 1)) + 1)) + 1)) + 1)) + 1)) + 1)) + 1)) + 1)) + 1)) + 1)) + 1)) + 1)) + 1)) + 1)), (wr ((wr ((wr ((wr ((wr ((wr ((wr ((wr ((wr ((wr ((wr ((wr ((wr ((wr ((wr ((wr (q + 1)) + 1)) + 1)) + 1)) + 1)) + 1)) + 1)) + 1)) + 1)) + 1)) + 1)) + 1)) + 1)) + 1)) + 1)) + 1)), (wr ((wr ((wr ((wr ((wr ((wr ((wr ((wr ((wr ((wr ((wr ((wr ((wr ((wr ((wr ((wr ((wr (q + 1)) + 1)) + 1)) + 1)) + 1)) + 1)) + 1)) + 1)) + 1)) + 1)) + 1)) + 1)) + 1)) + 1)) + 1)) + 1)) + 1)), (wr ((wr ((wr ((wr ((wr ((wr ((wr ((wr ((wr ((wr ((wr ((wr ((wr ((wr ((wr ((wr ((wr ((wr (q + 1)) + 1)) + 1)) + 1)) + 1)) + 1)) + 1)) + 1)) + 1)) + 1)) + 1)) + 1)) + 1)) + 1)) + 1)) + 1)) + 1)) + 1)), ((Int.tmod (wr ((wr ((wr ((wr ((wr ((wr ((wr ((wr ((wr ((wr ((wr ((wr ((wr ((wr ((wr ((wr ((wr ((wr ((wr (q + 1)) + 1)) + 1)) + 1)) + 1)) + 1)) + 1)) + 1)) + 1)) + 1)) + 1)) + 1)) + 1)) + 1)) + 1)) + 1)) + 1)) + 1)) + 1)) 3) == 0)⟩ : Shape), (⟨(wr ((wr ((wr ((wr ((wr ((wr ((wr ((wr ((wr ((wr ((wr ((wr ((wr ((wr ((wr ((wr ((wr ((wr ((wr ((wr (q + 1)) + 1)) + 1)) + 1)) + 1)) + 1)) + 1)) + 1)) + 1)) + 1)) + 1)) + 1)) + 1)) + 1)) + 1)) + 1)) + 1)) + 1)) + 1)) + 1)), (wr ((wr ((wr ((wr ((wr ((wr ((wr ((wr ((wr ((wr ((wr ((wr ((wr ((wr ((wr ((wr ((wr ((wr ((wr ((wr ((wr (q + 1)) + 1)) + 1)) + 1)) + 1)) + 1)) + 1)) + 1)) + 1)) + 1)) + 1)) + 1)) + 1)) + 1)) + 1)) + 1)) + 1)) + 1)) + 1)) + 1)) + 1))⟩ : Orient), (⟨(wr ((wr ((wr ((wr ((wr ((wr ((wr ((wr ((wr ((wr ((wr ((wr ((wr ((wr ((wr ((wr ((wr ((wr ((wr ((wr ((wr ((wr (q + 1)) + 1)) + 1)) + 1)) + 1)) + 1)) + 1)) + 1)) + 1)) + 1)) + 1)) + 1)) + 1)) + 1)) + 1)) + 1)) + 1)) + 1)) + 1)) + 1)) + 1)) + 1)), (wr ((wr ((wr ((wr ((wr ((wr ((wr ((wr ((wr ((wr ((wr ((wr ((wr ((wr ((wr ((wr ((wr ((wr ((wr ((wr ((wr ((wr ((wr (q + 1)) + 1)) + 1)) + 1)) + 1)) + 1)) + 1)) + 1)) + 1)) + 1)) + 1)) + 1)) + 1)) + 1)) + 1)) + 1)) + 1)) + 1)) + 1)) + 1)) + 1)) + 1)) + 1)), ((Int.tmod (wr ((wr ((wr ((wr ((wr ((wr ((wr ((wr ((wr ((wr ((wr ((wr ((wr ((wr ((wr ((wr ((wr ((wr ((wr ((wr ((wr ((wr ((wr ((wr (q + 1)) + 1)) + 1)) + 1)) + 1)) + 1)) + 1)) + 1)) + 1)) + 1)) + 1)) + 1)) + 1)) + 1)) + 1)) + 1)) + 1)) + 1)) + 1)) + 1)) + 1)) + 1)) + 1)) + 1)) 3) == 0)⟩ : Place), (⟨(mt (wr ((wr ((wr ((wr ((wr ((wr ((wr ((wr ((wr ((wr ((wr ((wr ((wr ((wr ((wr ((wr ((wr ((wr ((wr ((wr ((wr ((wr ((wr ((wr ((wr (q + 1)) + 1)) + 1)) + 1)) + 1)) + 1)) + 1)) + 1)) + 1)) + 1)) + 1)) + 1)) + 1)) + 1)) + 1)) + 1)) + 1)) + 1)) + 1)) + 1)) + 1)) + 1)) + 1)) + 1)) + 1))), (wr ((wr ((wr ((wr ((wr ((wr ((wr ((wr ((wr ((wr ((wr ((wr ((wr ((wr ((wr ((wr ((wr ((wr ((wr ((wr ((wr ((wr ((wr ((wr ((wr ((wr (q + 1)) + 1)) + 1)) + 1)) + 1)) + 1)) + 1)) + 1)) + 1)) + 1)) + 1)) + 1)) + 1)) + 1)) + 1)) + 1)) + 1)) + 1)) + 1)) + 1)) + 1)) + 1)) + 1)) + 1)) + 1)) + 1))⟩ : Move)⟩ : Hand)⟩ : Sign)
theorem markSignS_eq {l : List Sign} {k : Int} (hk0 : 0 ≤ k) (hk : k ≤ 1000000000000) (hlen : l.length ≤ 1048576) : X.l_markSignS 3000000 l k = some (k + 27 * (l.length : Int), mks mkSign 27 k l.length) := by
  unfold X.l_markSignS
  rw [mark_gen mkSign (c := 27) l (by omega) (by omega) hk0 hk hlen (by omega) ?_ ?_]
  · rfl
  · intro i q s y h0 h1 hi hy
    have hd : decide ((i : Int) < (l.length : Int)) = true := by simp; omega
    have hw : (wr ((wr ((wr ((wr ((wr ((wr ((wr ((wr ((wr ((wr ((wr ((wr ((wr ((wr ((wr ((wr ((wr ((wr ((wr ((wr ((wr ((wr ((wr ((wr ((wr ((wr ((wr (q + 1)) + 1)) + 1)) + 1)) + 1)) + 1)) + 1)) + 1)) + 1)) + 1)) + 1)) + 1)) + 1)) + 1)) + 1)) + 1)) + 1)) + 1)) + 1)) + 1)) + 1)) + 1)) + 1)) + 1)) + 1)) + 1)) + 1)) = q + 27 := by
      simp (disch := omega) only [wr_up]
      omega
    simp only [hd, cond_true, getI_of hy, bind_some, mt_wr, wr_suc (show i ≤ 4611686018427387904 by omega), Int.toNat_natCast]
    rw [hw]
    rfl
  · intro q s
    simp only [dec_end, cond_false]
end Go.Proofs.XC
