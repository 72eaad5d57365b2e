/- Plain laws of the plain functions: no program, no memory. By AI agents; no person has read it. -/
import Derived.Test.YtenkalmmdamfgaaGreatDoorSPZ6
import Derived.Test.YtenkalmmdamfgaaGreatDoorSPW4
set_option linter.unusedVariables false
set_option linter.unusedSimpArgs false
set_option maxRecDepth 100000
set_option maxHeartbeats 40000000
namespace Go.Proofs.XC
open Go Go.RowKit
/-! ### Patterns -/
theorem s_seIn_eq {k : Nat} (a : Str) (b : UInt8) (ha : a.length ≤ 50) (hk : 100 ≤ k) : X.s_seIn k a (b.toNat : Int) = some (decide (b ∈ a)) := by
  unfold X.s_seIn
  rw [forT (t0 := 0) a (fun i (_ : Unit) => (i : Int)) (fun _ x (_ : Unit) => if !(decide (x = b)) then Sum.inl () else Sum.inr (Sum.inl true)) (fun _ => Sum.inr ()) (fun _ _ => True) () rfl trivial (by omega) ?_ ?_ ?_, foldS_all (fun x => !(decide (x = b)))]
  · by_cases h : b ∈ a
    · have : (a.all fun x => !(decide (x = b))) = false := by
        rw [List.all_eq_false]
        exact ⟨b, h, by simp⟩
      rw [this]
      simp [orEl, h]
    · have : (a.all fun x => !(decide (x = b))) = true := by
        rw [List.all_eq_true]
        intro x hx
        simp only [Bool.not_eq_true', decide_eq_false_iff_not]
        rintro rfl
        exact h hx
      rw [this]
      simp [orEl, h]
  · intro i x _ hx _
    have hlt := lt_get hx
    have e : ((x.toNat : Int) == (b.toNat : Int)) = decide (x = b) := by
      have := ne_bytes x b
      unfold bne at this
      cases h1 : ((x.toNat : Int) == (b.toNat : Int)) <;> cases h2 : decide (x = b) <;> simp_all
    simp only [dec_lt hx, cond_true, getB_of hx, bind_some, e, wr_suc (show i ≤ 4611686018427387904 by omega)]
    by_cases h : x = b <;> simp [h]
  · intro _ _
    simp only [dec_end, cond_false]
  · intros; trivial
theorem byte_ne (x : UInt8) (c : Nat) (hc : c < 256) : ((x.toNat : Int) != (c : Int)) = !(decide (x = UInt8.ofNat c)) := by
  have := ne_bytes x (UInt8.ofNat c)
  have e : (UInt8.ofNat c).toNat = c := by simp; omega
  rw [e] at this
  exact this
theorem s_seWild_eq {k : Nat} (s a : Str) (z : Int) (hs : s.length ≤ 2000000) (ha : a.length ≤ 50) (hk : 2000010 ≤ k) : X.s_seWild k s a z = some (decide ((s.length : Int) = z) && s.all fun x => decide (x = 63) || decide (x ∈ a)) := by
  unfold X.s_seWild
  rw [forT (t0 := 0) s (fun i (_ : Unit) => (i : Int)) (fun _ x (_ : Unit) => if decide (x = 63) || decide (x ∈ a) then Sum.inl () else Sum.inr (Sum.inl false)) (fun _ => Sum.inr ()) (fun _ _ => True) () rfl trivial (by omega) ?_ ?_ ?_, foldS_all (fun x => decide (x = 63) || decide (x ∈ a))]
  · have e : ((s.length : Int) != z) = !(decide ((s.length : Int) = z)) := by unfold bne; rw [beq_dec]
    rw [e]
    cases decide ((s.length : Int) = z)
    · rfl
    · cases (s.all fun x => decide (x = 63) || decide (x ∈ a)) <;> rfl
  · intro i x _ hx _
    have hlt := lt_get hx
    have e := byte_ne x 63 (by omega)
    have e : ((x.toNat : Int) != 63) = !(decide (x = 63)) := e
    simp only [dec_lt hx, cond_true, getB_of hx, bind_some, e, s_seIn_eq a x ha (show 100 ≤ k by omega), wr_suc (show i ≤ 4611686018427387904 by omega)]
    by_cases h : x = 63 <;> by_cases h2 : x ∈ a <;> simp [h, h2]
  · intro _ _
    simp only [dec_end, cond_false]
  · intros; trivial
theorem ix_neg (a : Str) (b : UInt8) : decide (Lib.indexByte a b < 0) = !(decide (b ∈ a)) ∧ -1 ≤ Lib.indexByte a b := by
  induction a with
  | nil => simp [Lib.indexByte]
  | cons x l ih =>
    obtain ⟨ih, ih2⟩ := ih
    unfold Lib.indexByte
    by_cases h : x = b
    · subst h; simp
    · have hb : (x == b) = false := by simpa using h
      have hb' : ¬ b = x := fun e => h e.symm
      rw [hb]
      simp only [Bool.false_eq_true, if_false, List.mem_cons, hb', false_or]
      by_cases h2 : b ∈ l
      · have h3 : ¬ Lib.indexByte l b < 0 := by
          simp [h2] at ih
          omega
        have h4 : (Lib.indexByte l b == -1) = false := by simp; omega
        rw [h4]
        simp only [Bool.false_eq_true, if_false, h2, decide_true, Bool.not_true, decide_eq_false_iff_not]
        omega
      · have h3 : Lib.indexByte l b < 0 := by simpa [h2] using ih
        have h4 : (Lib.indexByte l b == -1) = true := by simp; omega
        rw [h4]
        simp [h2]
theorem hasOnly_eq (s a : Str) (hl : s.length ≤ 2000000) : X.i_hasOnly s a = some (s.all fun x => decide (x ∈ a)) := by
  unfold X.i_hasOnly
  rw [ranN s (fun _ x (_ : Unit) => if decide (x ∈ a) then Sum.inl () else Sum.inr (Sum.inl false)) (fun _ => Sum.inr ()) rfl (by omega) ?_ (fun _ => rfl), foldS_all (fun x => decide (x ∈ a))]
  · cases (s.all fun x => decide (x ∈ a)) <;> rfl
  · intro i x _ hx
    rw [getB_of hx, bind_some]
    unfold X.strings_IndexByte
    have e : (((x.toNat : Int)).toNat).toUInt8 = x := by
      rw [Int.toNat_natCast]
      exact UInt8.ofNat_toNat
    rw [bind_some, e, (ix_neg a x).1]
    by_cases h : x ∈ a <;> simp [h]
def smallP (p : Pattern) : Prop := p.Shape.length ≤ 2000000 ∧ p.Orient.length ≤ 2000000 ∧ p.Steps.length ≤ 2000000
def gPat (p : Pattern) : Bool := decide (p.Shape.length = 5) && (p.Shape.all (fun x => decide (x ∈ ([48, 49, 50, 63] : Str))) && (decide (p.Orient.length = 2) && (p.Orient.all (fun x => decide (x ∈ ([117, 100, 108, 114, 102, 98, 63] : Str))) && (inR p.Region (-1) 9 && (decide (p.Steps.length ≤ 20) && (p.Steps.all (fun x => decide (x ∈ ([117, 100, 108, 114, 102, 98, 63, 42] : Str))) && inR p.Hands 0 2))))))
theorem i_IsPattern_eq {p : Pattern} (h : smallP p) : X.i_IsPattern p = some (gPat p) := by
  unfold X.i_IsPattern gPat
  rw [hasOnly_eq _ _ h.1, hasOnly_eq _ _ h.2.1, hasOnly_eq _ _ h.2.2]
  have e1 : ((p.Shape.length : Int) == 5) = decide (p.Shape.length = 5) := by rw [beq_dec, Bool.eq_iff_iff]; simp; omega
  have e2 : ((p.Orient.length : Int) == 2) = decide (p.Orient.length = 2) := by rw [beq_dec, Bool.eq_iff_iff]; simp; omega
  have e3 : decide ((p.Steps.length : Int) ≤ 20) = decide (p.Steps.length ≤ 20) := by rw [Bool.eq_iff_iff]; simp; omega
  simp only [e1, e2, e3, bind_some, i_within_eq]
  cases decide (p.Shape.length = 5)
  · rfl
  cases p.Shape.all (fun x => decide (x ∈ ([48, 49, 50, 63] : Str)))
  · rfl
  cases decide (p.Orient.length = 2)
  · rfl
  cases p.Orient.all (fun x => decide (x ∈ ([117, 100, 108, 114, 102, 98, 63] : Str)))
  · rfl
  cases inR p.Region (-1) 9
  · rfl
  cases decide (p.Steps.length ≤ 20)
  · rfl
  cases p.Steps.all (fun x => decide (x ∈ ([117, 100, 108, 114, 102, 98, 63, 42] : Str))) <;> rfl
theorem all_or (s a b : Str) (h : ∀ x, (x ∈ b) ↔ (x = 63 ∨ x ∈ a)) : (s.all fun x => decide (x = 63) || decide (x ∈ a)) = s.all fun x => decide (x ∈ b) := by
  congr 1
  funext x
  rw [Bool.eq_iff_iff]
  simp [h x]
theorem s_seGood_eq {k : Nat} {p : Pattern} (h : smallP p) (hk : 2000010 ≤ k) : X.s_seGood k p = some (gPat p) := by
  unfold X.s_seGood gPat
  rw [s_seWild_eq _ _ _ h.1 (by simp) hk, s_seWild_eq _ _ _ h.2.1 (by simp) hk, s_seWild_eq _ _ _ h.2.2 (by simp) hk]
  rw [all_or p.Shape [48, 49, 50] [48, 49, 50, 63] (by intro x; simp; constructor <;> (rintro (h | h | h | h) <;> simp [h])), all_or p.Orient [117, 100, 108, 114, 102, 98] [117, 100, 108, 114, 102, 98, 63] (by intro x; simp; constructor <;> (rintro (h | h | h | h | h | h | h) <;> simp [h])), all_or p.Steps [117, 100, 108, 114, 102, 98, 42] [117, 100, 108, 114, 102, 98, 63, 42] (by intro x; simp; constructor <;> (rintro (h | h | h | h | h | h | h | h) <;> simp [h]))]
  have e1 : decide ((p.Shape.length : Int) = 5) = decide (p.Shape.length = 5) := by rw [Bool.eq_iff_iff]; simp; omega
  have e2 : decide ((p.Orient.length : Int) = 2) = decide (p.Orient.length = 2) := by rw [Bool.eq_iff_iff]; simp; omega
  have e3 : decide ((p.Steps.length : Int) ≤ 20) = decide (p.Steps.length ≤ 20) := by rw [Bool.eq_iff_iff]; simp; omega
  have e4 : decide ((p.Steps.length : Int) = (p.Steps.length : Int)) = true := by simp
  simp only [e1, e2, e3, e4, bind_some, s_l1In_eq]
  cases decide (p.Shape.length = 5)
  · rfl
  cases p.Shape.all (fun x => decide (x ∈ ([48, 49, 50, 63] : Str)))
  · rfl
  cases decide (p.Orient.length = 2)
  · rfl
  cases p.Orient.all (fun x => decide (x ∈ ([117, 100, 108, 114, 102, 98, 63] : Str)))
  · rfl
  cases inR p.Region (-1) 9
  · rfl
  cases decide (p.Steps.length ≤ 20)
  · rfl
  cases p.Steps.all (fun x => decide (x ∈ ([117, 100, 108, 114, 102, 98, 63, 42] : Str))) <;> rfl
/-! ### What is missed -/
def misG (s : Str) (i : Nat) (x : UInt8) (n : Int) : Int ⊕ Int := .inl (if x = 63 then n else if s[i]? = some x then n else n + 1)
def mis (p s : Str) : Int := foldS (misG s) (fun n => n) p 0 0
theorem mis_bd (p s : Str) : 0 ≤ mis p s ∧ mis p s ≤ p.length := by
  have := foldS_ex (g := misG s) (fun i n => 0 ≤ n ∧ n ≤ (i : Int)) p 0 0 ⟨by omega, by omega⟩ (fun i x n hx hv => ⟨_, rfl, by split <;> (try split) <;> constructor <;> omega⟩)
  simpa [mis] using this
theorem get_some {s : Str} {i : Nat} (h : i < s.length) : ∃ y, s[i]? = some y := ⟨_, List.getElem?_eq_getElem h⟩
theorem i_apart_eq {p s : Str} (h : p.length ≤ s.length) (hp : p.length ≤ 50) : X.i_apart p s = some (mis p s) := by
  unfold X.i_apart
  rw [ranNI p (misG s) (fun n => n) (fun i n => 0 ≤ n ∧ n ≤ (i : Int)) rfl (by omega) ⟨by omega, by omega⟩ ?_ (fun _ _ => rfl) ?_]
  · rfl
  · intro i x n hx hv
    have hlt := lt_get hx
    obtain ⟨y, hy⟩ := get_some (s := s) (i := i) (by omega)
    have e : ((x.toNat : Int) != 63) = !(decide (x = 63)) := byte_ne x 63 (by omega)
    have w : wr (n + 1) = n + 1 := wr_of (by omega) (by omega)
    simp only [getB_of hx, getB_of hy, bind_some, e, ne_bytes, w, misG, hy]
    by_cases h1 : x = 63
    · simp [h1]
    · by_cases h2 : x = y
      · subst h2; simp [h1]
      · have : ¬ (y = x) := fun e => h2 e.symm
        simp [h1, h2, this]
  · intro i x n n' hx hv hg
    simp only [misG, Sum.inl.injEq] at hg
    subst hg
    split <;> (try split) <;> constructor <;> omega
theorem s_missed_eq {k : Nat} {p s : Str} (h : p.length ≤ s.length) (hp : p.length ≤ 50) (hk : 100 ≤ k) : X.s_seMissed k p s = some (mis p s) := by
  unfold X.s_seMissed
  rw [forT (t0 := ((0 : Int), (0 : Int))) p (fun i n => (n, (i : Int))) (misG s) (fun n => n) (fun i n => 0 ≤ n ∧ n ≤ (i : Int)) 0 rfl ⟨by omega, by omega⟩ (by omega) ?_ ?_ ?_]
  · rfl
  · intro i x n hx hv
    have hlt := lt_get hx
    obtain ⟨y, hy⟩ := get_some (s := s) (i := i) (by omega)
    have e : ((x.toNat : Int) != 63) = !(decide (x = 63)) := byte_ne x 63 (by omega)
    have w : wr (n + 1) = n + 1 := wr_of (by omega) (by omega)
    simp only [dec_lt hx, cond_true, getB_of hx, getB_of hy, bind_some, e, ne_bytes, w, misG, hy, wr_suc (show i ≤ 4611686018427387904 by omega)]
    by_cases h1 : x = 63
    · simp [h1]
    · by_cases h2 : x = y
      · subst h2; simp [h1]
      · have : ¬ (y = x) := fun e => h2 e.symm
        simp [h1, h2, this]
  · intro n hv
    simp only [dec_end, cond_false]
  · intro i x n n' hx hv hg
    simp only [misG, Sum.inl.injEq] at hg
    subst hg
    split <;> (try split) <;> constructor <;> omega
end Go.Proofs.XC
