/- Plain laws of the plain functions: no program, no memory. By AI agents; no person has read it. -/
import Derived.Test.YtldkmmopfhhdgaaGreatDoorPZ8
import Derived.Test.YtldkmmopfhhdgaaGreatDoorPW4
set_option linter.unusedVariables false
set_option linter.unusedSimpArgs false
set_option maxRecDepth 100000
set_option maxHeartbeats 40000000
namespace Go.Proofs.XC
open Go Go.RowKit
/-! ### Patterns -/
theorem byte_ne (x : UInt8) (c : Nat) (hc : c < 256) : ((x.toNat : Int) != (c : Int)) = !(decide (x = UInt8.ofNat c)) := by
  have := ne_bytes x (UInt8.ofNat c)
  have e : (UInt8.ofNat c).toNat = c := by simp; omega
  rw [e] at this
  exact this
theorem ix_neg (a : Str) (b : UInt8) : decide (Lib.indexByte a b < 0) = !(decide (b ∈ a)) ∧ -1 ≤ Lib.indexByte a b := by
  induction a with
  | nil => simp [Lib.indexByte]
  | cons x l ih =>
    obtain ⟨ih, ih2⟩ := ih
    unfold Lib.indexByte
    by_cases h : x = b
    · subst h; simp
    · have hb : (x == b) = false := by simpa using h
      have hb' : ¬ b = x := fun e => h e.symm
      rw [hb]
      simp only [Bool.false_eq_true, if_false, List.mem_cons, hb', false_or]
      by_cases h2 : b ∈ l
      · have h3 : ¬ Lib.indexByte l b < 0 := by
          simp [h2] at ih
          omega
        have h4 : (Lib.indexByte l b == -1) = false := by simp; omega
        rw [h4]
        simp only [Bool.false_eq_true, if_false, h2, decide_true, Bool.not_true, decide_eq_false_iff_not]
        omega
      · have h3 : Lib.indexByte l b < 0 := by simpa [h2] using ih
        have h4 : (Lib.indexByte l b == -1) = true := by simp; omega
        rw [h4]
        simp [h2]
theorem hasOnly_eq (s a : Str) (hl : s.length ≤ 2000000) : X.i_hasOnly s a = some (s.all fun x => decide (x ∈ a)) := by
  unfold X.i_hasOnly
  rw [ranN s (fun _ x (_ : Unit) => if decide (x ∈ a) then Sum.inl () else Sum.inr (Sum.inl false)) (fun _ => Sum.inr ()) rfl (by omega) ?_ (fun _ => rfl), foldS_all (fun x => decide (x ∈ a))]
  · cases (s.all fun x => decide (x ∈ a)) <;> rfl
  · intro i x _ hx
    rw [getB_of hx, bind_some]
    unfold X.strings_IndexByte
    have e : (((x.toNat : Int)).toNat).toUInt8 = x := by
      rw [Int.toNat_natCast]
      exact UInt8.ofNat_toNat
    rw [bind_some, e, (ix_neg a x).1]
    by_cases h : x ∈ a <;> simp [h]
theorem all_or (s a b : Str) (h : ∀ x, (x ∈ b) ↔ (x = 63 ∨ x ∈ a)) : (s.all fun x => decide (x = 63) || decide (x ∈ a)) = s.all fun x => decide (x ∈ b) := by
  congr 1
  funext x
  rw [Bool.eq_iff_iff]
  simp [h x]
/-! ### What is missed -/
def misG (s : Str) (i : Nat) (x : UInt8) (n : Int) : Int ⊕ Int := .inl (if x = 63 then n else if s[i]? = some x then n else n + 1)
def mis (p s : Str) : Int := foldS (misG s) (fun n => n) p 0 0
theorem mis_bd (p s : Str) : 0 ≤ mis p s ∧ mis p s ≤ p.length := by
  have := foldS_ex (g := misG s) (fun i n => 0 ≤ n ∧ n ≤ (i : Int)) p 0 0 ⟨by omega, by omega⟩ (fun i x n hx hv => ⟨_, rfl, by split <;> (try split) <;> constructor <;> omega⟩)
  simpa [mis] using this
theorem get_some {s : Str} {i : Nat} (h : i < s.length) : ∃ y, s[i]? = some y := ⟨_, List.getElem?_eq_getElem h⟩
end Go.Proofs.XC
